/- Walks, contracts and laws of the law's functions: part 6. No condition. -/
import Derived.Test.YticmofoeecjnhaaGreatMe
open Go.Proofs
set_option maxHeartbeats 32000000
set_option maxRecDepth 100000
set_option linter.unusedSimpArgs false
theorem yy131 {P:Prop} (h:P:=by
 (try refine sG ?_)
 refine sF ?_;refine hQ _ _ ?_;conv=>whnf
 exact ⟨⟨(A++[x],B),zag h⟩,(zay [(900,some 900)] zz10),by simp⟩):P:=h
theorem yy126 {P:Prop} (h:P:=by
 (try refine sG ?_)
 refine sF ?_;refine hQ _ _ ?_;conv=>whnf
 exact ⟨⟨(A++[v],B),zag g⟩,(zay [(2,some 2),(3,some 3)] zz95),by simp⟩):P:=h
theorem yy76 {P:Prop} (h:P:=by
 (try refine sG ?_)
 refine sF ?_;refine hQ _ _ ?_;conv=>whnf
 exact ⟨⟨(A++[a],B),zag g⟩,(zay [(3,some 3)] zz10),by simp⟩):P:=h
theorem yy55 {P:Prop} (h:P:=by
 refine sD ?_;refine sF ?_;refine hQ3 _ _ (zw ?_);exact ⟨⟨k+1,by omega,hkn.trans (zsr hm hms)⟩,(zbi [(14,some 14)]),by show T.length-(k+1)<T.length-k;omega⟩):P:=h
theorem yy72 {P:Prop} (h:P:=by
 (try refine sG ?_)
 refine sF ?_;refine hQ2 _ _ (zw ?_);exact ⟨⟨(X++[m],Y),zag g2⟩,(zay [(6,some 6),(7,some 7)] zz10),by simp⟩):P:=h
theorem yy132 {P:Prop} (h:P:=by
 (try refine sG ?_)
 refine sF ?_;refine hQ2 _ _ (zw ?_);exact ⟨⟨((A++[a],B),n),zag g,hn.trans hn2,hnT⟩,(zbi []),by simp⟩):P:=h
theorem yy7 {P:Prop} (h:P:=by
 repeat refine sG ?_
 refine ⟨{k:Nat // k<=s.had.length},fun | ⟨k,_⟩=>hs 127 [(2,qs q),(4,.ptr 4 0),(7,i64 s.had.length),(10,.own 900),(11,i64 (k+1))] [(4,.live (.cells 28 s.cells)),(900,xai ((List.range' 0 k).map fun i:Nat=>(s.last+1+(i:Int)).tmod s.had.length))],fun k=>s.had.length-k.1,⟨0,by omega⟩,?_,?_⟩
 . exact (zbi [(4,some 4),(900,none)])
 rintro ⟨k,hk⟩;refine zci fun Q hQ=>?_
 (conv=>whnf);by_cases c:k<s.had.length
 . refine sT ?_
   refine sF ?_;refine sO ?_;refine zaa (c:=((((List.range' 0 k).map fun i:Nat=>(s.last+1+(i:Int)).tmod s.had.length).map fun n=>[pi n]).length+1)*8<=140737488355328) zz3 (zw ?_)
   (try refine sG ?_)
   refine sF ?_;refine hQ _ _ ?_;conv=>whnf
   exact ⟨⟨k+1,c⟩,(zay [(4,some 4),(900,some 62)] zz25),by dsimp only;omega⟩
 . refine sN ?_
   refine hQ _ _ ?_;conv=>whnf
   have hkk:k=s.had.length:=by omega
   subst hkk;rw [hafter];obtain ⟨O,hO⟩:∃ O,O=((List.range' 0 s.had.length).map fun i:Nat=>(s.last+1+(i:Int)).tmod s.had.length):=⟨_,rfl⟩
   rw [<- hO];generalize hN:pick q O=N;have hOl:O.length=s.had.length:=by rw [hO];simp
   refine ⟨{x:List Int×List Int // (O)=x.1++x.2/\pick q x.2=N},fun | ⟨(a,b),_⟩=>hs 127 [(2,qs q),(114,.own 900),(115,i64 (O).length),(116,i64 a.length)] [(900,xai (O))],fun x=>x.1.2.length,⟨([],O),rfl,hN⟩,?_,?_⟩
   . exact (zay [(900,some 900)] zz40)
   rintro ⟨⟨a,b⟩,h,hp⟩;dsimp only at h hp;refine zci fun Q hQ=>?_
   cases b with
   | cons k b =>
    have hz:=zbd h;rw [pick] at hp;(conv=>whnf);refine zac zz109 (zw ?_);refine sO ?_;refine zak h rfl (zw ?_)
    (refine cL ?_;refine dL (zoj q k hb) ?_)
    by_cases c:first q k>=0
    . rw [zy1 c] at hp
      refine zac zz70 (zw ?_);refine hQ _ _ ?_;conv=>whnf
      rw [hp]
    . rw [zy0 c] at hp
      refine zab zz70 (zw ?_)
      (try refine sG ?_)
      refine sFm ?_;refine hQ _ _ ?_;conv=>whnf
      exact ⟨⟨(a++[k],b),zag h,hp⟩,(zbi [(900,some 900)]),by simp⟩
   | nil =>
    have hz:=zbp h;(conv=>whnf);refine zab zz100 (zw ?_);refine hQ _ _ ?_;conv=>whnf
    rw [<- hp];rfl):P:=h
theorem yy9 {P:Prop} (h:P:=by
 rintro ⟨⟨a,b⟩,h,hp⟩;dsimp only at h hp;refine zci fun Q hQ=>?_
 cases b with
 | cons k b =>
  have hz:=zbd h;rw [pick] at hp;(conv=>whnf);refine zac zz109 (zw ?_);refine sO ?_;refine zak h rfl (zw ?_)
  (refine cL ?_;refine dL (zoj q k hb) ?_)
  by_cases c:first q k>=0
  . rw [zy1 c] at hp
    refine zac zz70 (zw ?_);refine hQ _ _ ?_;conv=>whnf
    rw [hp]
  . rw [zy0 c] at hp
    refine zab zz70 (zw ?_)
    (try refine sG ?_)
    refine sFm ?_;refine hQ _ _ ?_;conv=>whnf
    exact ⟨⟨(a++[k],b),zag h,hp⟩,(zbi [(900,some 900)]),by simp⟩
 | nil =>
  have hz:=zbp h;(conv=>whnf);refine zab zz100 (zw ?_);refine hQ _ _ ?_;conv=>whnf
  rw [<- hp];rfl):P:=h
theorem yy11 {P:Prop} (h:P:=by
 rintro ⟨⟨a,b⟩,h⟩;dsimp only at h;cases b with
 | cons n b =>
  have hz:=zbd h;have hsn:(a++[n]).mapIdx (fun k n=>if (k:Int)=m.message.stream then W (n+bytes) else n)=(a.mapIdx fun k n=>if (k:Int)=m.message.stream then W (n+bytes) else n)++[if (a.length:Int)=m.message.stream then W (n+bytes) else n]:=by rw [zy109]
  (conv=>whnf);refine sT ?_;refine zak h rfl (zw ?_)
  repeat refine sG ?_
  by_cases c:(a.length:Int)=m.message.stream
  . rw [zy1 c] at hsn
    refine zac zz70 (zw ?_)
    (try refine sG ?_)
    refine zcg (zw ?_)
    (try refine sG ?_)
    refine zaa (c:=(((a.mapIdx fun k n=>if (k:Int)=m.message.stream then W (n+bytes) else n).map fun n=>[pi n]).length+1)*8<=140737488355328) zz3 (zw ?_)
    (try refine sG ?_)
    refine sF ?_;exact ⟨⟨(a++[n],b),zag h⟩,(zay [(5,some 5),(8,some 8),(9,some 9),(900,some 40)] zz31),by simp⟩
  . rw [zy0 c] at hsn
    refine zab zz70 (zw ?_)
    (try refine sG ?_)
    refine zaa (c:=(((a.mapIdx fun k n=>if (k:Int)=m.message.stream then W (n+bytes) else n).map fun n=>[pi n]).length+1)*8<=140737488355328) zz3 (zw ?_)
    (try refine sG ?_)
    refine sF ?_;exact ⟨⟨(a++[n],b),zag h⟩,(zay [(5,some 5),(8,some 8),(9,some 9),(900,some 40)] zz31),by simp⟩
 | nil =>
  have hz:=zbp h;rw [zy4] at h;(conv=>whnf);refine sN ?_;rw [h]
  try rfl):P:=h
theorem yy106 {P:Prop} (h:P:=by
 (try refine sG ?_)
 refine sF ?_;refine hQ _ _ ?_;conv=>whnf
 exact ⟨⟨(k+1,(k:Int)),c7,.inr zz83,g3⟩,(zbi [(4,some 4),(900,some 900),(901,some 901)]),by dsimp only;omega⟩):P:=h
theorem yy36 {P:Prop} (h:P:=by
 refine sN ?_;refine zaa (c:=(((a.map (age high)).map zbq.row).length+1)*200<=140737488355328) om (zw ?_);refine sF ?_;exact ⟨⟨(a++[s],b),zag h⟩,(zay [(900,some 900),(901,some 901),(902,some 130),(903,some 903)] zz22),by simp⟩):P:=h
theorem yy44 {P:Prop} (h:P:=by
 refine sT ?_;refine zaa (c:=((out.map zbq.row).length+1)*200<=140737488355328) om (zw ?_);refine sF ?_;exact ⟨⟨_,hnx⟩,(zay [(6,some 6),(900,some 900),(901,some 97)] zz14),by simp⟩):P:=h
theorem yy78 {P:Prop} (h:P:=by
 refine sO ?_;refine zcb s.path.toNat zz0 zz0 (zw ?_);refine sR ?_;refine sO ?_;refine zcb s.path.toNat zz0 zz0 (zw ?_);refine sD ?_;refine sN ?_;refine sF ?_;exact ⟨⟨_,hnx⟩,(zay [(6,some 6),(900,some 900),(901,some 901)] zz14),by simp⟩):P:=h
theorem yy101 {P:Prop} (h:P:=by
 show HV.tup [_,_,.p (.sl 1 (List.replicate paths.toNat [pi 0])),_]=_;rw [show List.replicate paths.toNat [pi 0]=(List.replicate paths.toNat (0:Int)).map fun n=>[pi n] by rw [zy83]]
 rfl):P:=h
theorem yy63 {P:Prop} (h:P:=by
 rw [zy0 hm] at hlast;(conv=>whnf);refine sF ?_;exact ⟨⟨(c++[x],d,t),zag hcd,by simpa using hlast⟩,(zbi [(9,some 9),(900,some 900)]),by simp⟩):P:=h
theorem yy118 {P:Prop} (h:P:=by
 rw [zy1 hm] at hlast;(conv=>whnf);refine sF ?_;exact ⟨⟨(c++[x],d,c.length),zag hcd,by simpa using hlast⟩,(zbi [(9,some 9),(900,some 900)]),by simp⟩):P:=h
theorem yy135 {P:Prop} (h:P:=by
 (try refine sG ?_)
 refine sF ?_;exact ⟨⟨(a++[y],b),zag h'⟩,(zay ((2,some 2)::((4,some 4)::(pJ3 []))) zz45),by simp⟩):P:=h
theorem yy143 {P:Prop} (h:P:=by
 (try refine sG ?_)
 ((refine zdj ?_;(conv=>whnf);refine ⟨_,hp,rfl,?_⟩;conv=>whnf);try refine sG ?_)
 try rfl):P:=h
theorem yy62 {P:Prop} (h:P:=by
 (try refine sG ?_)
 refine zaa (c:=((C.map Path.row).length+1)*56<=140737488355328) zz6 (zw ?_);refine sF ?_;refine hQ _ _ ?_;conv=>whnf
 exact ⟨⟨((A++[p],B),t,C++[p]),zag h,by rw [hAl];exact hst,by rw [zy26];exact hk,hz3,by simp [hC]⟩,(zay [(1,some 1),(2,some 2),(900,some 84)] zz80),by simp⟩):P:=h
theorem yy107 {P:Prop} (h:P:=by
 (try refine sG ?_)
 refine sF ?_;refine hQ2 _ _ (zw ?_);exact ⟨⟨(a++[y],b),zag h'⟩,(zay [(1,some 1),(2,some 2),(5,some 5),(900,some 900),(902,some 902)] zz45),by simp⟩):P:=h
theorem yy8 {P:Prop} (h:P:=by
 refine zil.meet (PLift (¬ (zaz s>0/\W (zaz s+many s m)>s.room))) (fun _=>hsP [1000,1007,1008] 298 [(0,.ptr 1000 0),(3,i64 (choose s)),(4,i64 k),(5,.ptr 5 0),(6,i64 (many s m))] (rnM s m a c)) ?_ hrest;(conv=>whnf);by_cases c7:m.mid<0
 case neg =>
  have hm1:zcp s m=m.mid:=zy0 c7;have hm2:zdk s m=s.mids:=zy0 c7;refine zab (zy15 c7) (zw ?_);exact ⟨⟨c6⟩,(zcd [(1000,some 1000),(1007,some 1007),(1008,some 1008),(5,some 5)] zz81)⟩
 obtain ⟨v,hv⟩:∃ v,s.mids[zfz s m]?=some v:=⟨_,zy2 (mf.at_ c7)⟩
 have hmo:zcp s m=v:=by rw [zcp,zy1 c7,hv];rfl
 have hms:zdk s m=s.mids.set (zfz s m) (W (v+1)):=by rw [zdk,zy1 c7,setAt,hv]
 have hml:=mf.at_ c7;refine zac (zy12 c7) (zw ?_);have hat:(m.message.stream+if m.message.ordered then 0 else s.config.streams)=(zfz s m:Int):=by unfold zfz;have:=mf.lo;have:=mf.lo2;split<;>omega
 have hfs:=mf.lo;have hfh:=mf.hi;have hfs2:=mf.lo2;have hfh2:=mf.hi2;have hmr:∀ j:Nat,j=zfz s m->(([]:List (List PV))++s.mids.map fun n=>[pi n]).set j [pi (W (v+1))]=(zdk s m).map fun n=>[pi n]:=fun j hj=>by rw [hj,hms];simp [zy72]
 (try refine sG ?_)
 cases ho:m.message.ordered with
 | true =>
  rw [ho,zy1 rfl] at hat;(conv=>whnf)
  (try refine sG ?_)
  refine zam hv zz0 (zw ?_);refine zaa (c:=(([]:List (List PV)).length+(s.mids.map fun n=>[pi n]).length)*8<=140737488355328) zz3 (zw ?_);refine sOm ?_;refine zam (l:=s.mids) hv zz0 (zw ?_);refine sRm ?_;refine sOm ?_;refine zam (l:=s.mids) hv zz0 (zw ?_);exact ⟨⟨c6⟩,(zph [146] [(1000,some 1000),(1007,some 1007),(1008,some 1008),(5,some 5)] zz9)⟩
 | false =>
  rw [ho,zy0 (by decide)] at hat;(conv=>whnf)
  (try refine sG ?_)
  refine sF ?_;refine zam hv zz0 (zw ?_);refine zaa (c:=(([]:List (List PV)).length+(s.mids.map fun n=>[pi n]).length)*8<=140737488355328) zz3 (zw ?_);refine sOm ?_;refine zam (l:=s.mids) hv zz0 (zw ?_);refine sRm ?_;refine sOm ?_;refine zam (l:=s.mids) hv zz0 (zw ?_);exact ⟨⟨c6⟩,(zph [146] [(1000,some 1000),(1007,some 1007),(1008,some 1008),(5,some 5)] zz9)⟩):P:=h
theorem yy61 {P:Prop} (h:P:=by
 subst hG
 (exact zck [(1000,some 1000),(1007,some 1007),(1008,some 1008),(0,some 1007),(1,some 1008)])):P:=h
theorem yy109 {P:Prop} (h:P:=by
 refine sF ?_;refine hQ _ _ ?_;conv=>whnf
 exact ⟨⟨(A++[x],B),zag h⟩,(zcd [(1000,some 1000),(1007,some 1007),(1008,some 1008),(5,some 5),(900,some 281)] zz87),by simp⟩):P:=h
theorem yy30 {P:Prop} (h:P:=by
 (try refine sG ?_)
 refine zaa (c:=(((A.mapIdx fun id f=>settled V id f).map fun n:Int=>[pi n]).length+1)*8<=140737488355328) zz72 (zw ?_);refine sF ?_;refine hQ _ _ ?_;conv=>whnf
 exact ⟨⟨(A++[f],B),zag h⟩,(zay [(2,some 2),(3,some 3),(4,some 4),(900,some 210)] zz37),by simp⟩):P:=h
theorem yy52 {P:Prop} (h:P:=by
 refine zaa (c:=(((A.mapIdx fun i p=>if K3[i]?.getD 0>0 then Paths.zkw p (K3[i]?.getD 0) s.config.part (decide (K2>s.cum)) else p).map Path.row).length+1)*56<=140737488355328) zz72 (zw ?_);refine sF ?_;refine hQ _ _ ?_;conv=>whnf
 exact ⟨⟨(A++[p],B),zag h⟩,(zay [(2,some 2),(3,some 3),(4,some 4),(900,some 100)] zz86),by simp⟩):P:=h
theorem yy122 {P:Prop} (h:P:=by
 refine sF ?_;refine hQ3 _ _ (zw ?_);exact ⟨⟨(a'++[x],b),zag h2'⟩,(zay [(2,some 2),(3,some 3),(4,some 4),(900,some 900)] zz60),by simp⟩):P:=h
theorem yy16 {P:Prop} (h:P:=by
 refine zaa (c:=(((A.map (zgi ps Z)).map Path.row).length+1)*56<=140737488355328) zz76 (zw ?_);refine sF ?_;refine hQ _ _ ?_;conv=>whnf
 exact ⟨⟨(A++[x],B),zag h⟩,(zay [(1,some 1),(2,some 2),(96,some 96),(900,some 900),(901,some 901),(910,some 279)] zz13),by simp⟩):P:=h
theorem yy35 {P:Prop} (h:P:=by
 rw [zy0 e,zy66] at i1;refine zab (zy5.2 e) (zw ?_)
 (try refine sG ?_)
 have hr2:r=(zcc E.config.packet (z::L)).toNat:=by rw [r1,zy24]
 refine zaa zz6 (zw ?_);refine zft (l:=z::L) zz21 ?_;(conv=>whnf);refine hQ2 _ _ (zw ?_);exact ⟨⟨(n,(z::L).drop r,acc),i1,by dsimp only;rw [zy42];omega,fun x hx=>i3 x (zy63 hx),by dsimp only;rw [zy42];simp only [zy9,zy6,zy14] at i4 ⊢;omega⟩,(zay [(1,some 1),(2,some 2),(96,some 96),(920,some 920)] zz56),by dsimp only;rw [zy42];omega⟩):P:=h
theorem yy49 {P:Prop} (h:P:=by
 obtain ⟨rf,g1,g2,-⟩:=Pck.yls (z::L) E.config.packet;by_cases e:Pck.zgd E.config.packet 0 0 (z::L)=0
 case pos =>
  refine zac (zy17.2 e) (zw ?_);exact ⟨⟨⟩,(zay [(1,some 1),(2,some 2),(96,some 96),(920,some 920)] zz67)⟩
 case neg =>
  refine zab (zy5.2 e) (zw ?_);exact ⟨⟨⟩,(zay [(1,some 1),(2,some 2),(96,some 96),(920,some 920)] zz66)⟩):P:=h
theorem yy50 {P:Prop} (h:P:=by
 exact ⟨⟨((A++[x],B),u),zag k1,zcq,k3,k4⟩,(zbi [(1,some 1),(2,some 2)]),by simp⟩):P:=h
theorem yy60 {P:Prop} (h:P:=by
 (try refine sG ?_)
 refine sF ?_;refine hQ _ _ ?_;conv=>whnf
 exact ⟨⟨(i+1,⟨ps,[a,c]⟩),by dsimp only;omega,hst,k3,rfl,k5,k6,by show a.length<=_;dsimp only;omega,by show c.length<=_;dsimp only;omega,k9⟩,(zbi [(1,some 1),(2,some 2),(96,some 96),(900,some 900),(901,some 901)]),by dsimp only;omega⟩):P:=h
theorem yy29 {P:Prop} (h:P:=by
 obtain ⟨PS,PK⟩:=PP;dsimp only at hT pp pu;subst hT
 (try refine sG ?_)
 (refine cP ?_;refine dL pp ?_)
 (refine cP ?_;refine dL pu ?_)
 refine sD ?_
 try rfl):P:=h
theorem yy98 {P:Prop} (h:P:=by
 rw [hp] at hT;dsimp only at hT;subst hT;have hge:=zy94.1 hp;refine zac (zy12 zz6) (zw ?_)
 try rfl):P:=h
namespace Go.HL
namespace Gh
open Ser Srt Jn Rcv
theorem xkk:∀ {l:List Span} {n m:Int} (_:Ser.zfr l),(m<=(up l n).1\/has (up l n).2 m=true)->m<=n\/has l m=true
 | [],n,m,_,h=>by simpa [up] using h
 | s::r,n,m,h,hm=>by
  rw [up] at hm;split at hm
  . rename_i c1
    rcases xkk h.2.2.2.2 hm with h1 | h1
    . rw [zlt]
      split at h1
      . by_cases c2:m<=n
        . exact .inl c2
        . right
          rw [zy79];left;simp only [zy16,zy34];omega
      . exact .inl h1
    . right;rw [zlt,h1,Bool.or_true]
  . exact hm
theorem xhc {l:List Span} {n m:Int} (h:Ser.zfr l) (hm:m<=n\/has l m=true):m<=(up l n).1\/has (up l n).2 m=true:=by
 rcases hm with hm | hm
 . have:=(znq (n:=n) h).1;exact .inl zz0
 . exact xmw h hm
section
variable {c:Config} {L:List Message} {H:List Prt} {A F:Nat->Prop} {D:List Nat} {r:Receiver}
theorem xmo (h:GR c L H A F D r) (hs:H.length<=30500) {ch:Chunk} {i:Nat} {y:Prt} (hi:HI c L H) (hc0:0<=c.first/\c.first<65536) (hy:H[i]?=some y) (hch:ch=y.chunk) (hd:ch.data≠[]) (ht:zut r ch (zcy r.cum ch.tag)) :
 GR c L H (fun j=>A j\/j=i) F D (put r ch):=by
 obtain ⟨t1,t2,t3,t4,t5⟩:=hi.tag i y hy;have hil:=zfb hy;have hlo:=h.lo;have hhi:=h.hi;have htag:tag (c.first+i)=tag ch.tag:=by rw [hch,t2];unfold tag;omega
 have hnear:zcy r.cum ch.tag=c.first+i:=zqx zz0 zz0 zz0 zz0 htag;have q1:=ht.zet;have q2:=ht.fresh;rw [hnear] at q1 q2;have hnA:¬ A i:=fun hA=>by
  rcases (h.acc i hA).2 with h1 | h1
  . omega
  . rw [q2] at h1;cases h1
 obtain ⟨ar,ah⟩:=zvc h.zfr (n:=c.first+i) zz0 zz0;obtain ⟨u1,u2,u3,u4,u5,u6⟩:=znq (n:=r.cum) ar;have hhas:∀ m:Int,(m<=(up (add r.zar (c.first+i)) r.cum).1\/has (up (add r.zar (c.first+i)) r.cum).2 m=true)↔(m<=r.cum\/has r.zar m=true\/m=c.first+i):=by
  intro m
  constructor
  . intro hm
    rcases xkk ar hm with h1 | h1
    . exact .inl h1
    . rw [ah,zy79,zy34] at h1
      exact .inr h1
  . intro hm
    refine xhc ar ?_;rw [ah,zy79,zy34];exact hm
 have hsp:∀ s∈add r.zar (c.first+i),s.hi<c.first+H.length:=by
  have:=yof (n:=c.first+i) (M:=c.first+H.length-1) h.zfr zz0 zz0 (fun s hs=>by have:=h.spanh s hs;omega) zz0;intro s hs;have:=this s hs;omega
 have hcov:∀ (j:Nat) z,H[j]?=some z->(c.first+j<=r.cum\/has r.zar (c.first+j)=true\/(c.first+(j:Int))=c.first+i)->(A j\/j=i)\/F z.id:=by
  intro j z hz hj;rcases hj with h1 | h1 | h1
  . exact (h.cum j z hz h1).imp .inl (fun z=>z)
  . exact .inl (.inl (h.span j h1))
  . exact .inl (.inr zz0)
 unfold Rcv.put;rw [hnear];refine ⟨by dsimp only;omega,?_,u3,u5,fun s hs=>hsp s (u4 s hs),fun j hj=>?_,fun j z hz hle=>hcov j z hz ((hhas _).1 (.inl hle)),fun j hj=>?_,fun p hp=>?_,?_,fun j z hz hj=>?_,h.logl,h.log,h.once,fun id hid=>⟨(h.dall id hid).1,fun j z hz he hd2=>.inl ((h.dall id hid).2 j z hz he hd2)⟩,h.streams,h.turn0,h.zbh,h.past,h.dturn,h.dord⟩
 . dsimp only
   rcases u6 with u6 | ⟨s,hs,u6⟩
   . omega
   . have:=hsp s hs;omega
 . rcases (hhas _).1 (.inr hj) with h1 | h1 | h1
   . exfalso
     obtain ⟨s,s1,s2,s3⟩:=znb.1 hj;have:=u5 s s1;omega
   . exact .inl (h.span j h1)
   . exact .inr zz0
 . rcases hj with hj | rfl
   . obtain ⟨k1,k2⟩:=h.acc j hj
     exact ⟨k1,(hhas _).2 (k2.imp (fun z=>z) .inl)⟩
   . exact ⟨hil,(hhas _).2 (.inr (.inr rfl))⟩
 . rcases zy13.1 hp with hp | hp
   . obtain ⟨j,z,k1,k2,k3,k4,k5,k6⟩:=h.pieces p hp
     exact ⟨j,z,k1,k2,k3,k4,.inl k5,k6⟩
   . rw [zy11] at hp;subst hp
     refine ⟨i,y,hy,rfl,hch,by rw [<- hch];exact hd,.inr rfl,fun hin=>hnA ((h.dall y.id hin).2 i y hy rfl (by rw [<- hch];exact hd))⟩
 . refine zy84.2 ⟨h.apart,by simp,fun p hp q hq=>?_⟩
   rw [zy11] at hq;subst hq;obtain ⟨j,z,k1,k2,k3,k4,k5,k6⟩:=h.pieces p hp;intro e;have e:p.number=c.first+i:=e;have:j=i:=by omega
   subst this;exact hnA k5
 . rcases hj with hj | rfl
   . rcases h.kept j z hz hj with ⟨p,p1,p2⟩ | h1
     . exact .inl ⟨p,zy69 _ p1,p2⟩
     . exact .inr h1
   . exact .inl ⟨⟨c.first+j,ch⟩,by simp,rfl⟩
theorem xhu (h:GR c L H A F D r) (hs:H.length<=30500) {ch:Chunk} (hi:HI c L H) (hc0:0<=c.first/\c.first<65536) (hP:1<=c.part) (hok:zvt H ch):∃ A' D',GR c L H A' F D' (data r ch)/\∀ i,A i->A' i:=by
 unfold data;split
 . rename_i ht
   obtain ⟨i,y,h1,h2,h3⟩:=hok;have hp:=xmo h hs hi hc0 h1 h2 h3 ht;have hst:=ht.high;have hst0:=ht.low;split
   . obtain ⟨D',g⟩:=zyq (D:=D) hi hP hs ch.stream.toNat ((put r ch).pieces.length+1) hp (by show ch.stream.toNat<r.zbh.length;omega)
     exact ⟨_,D',g,fun _=>.inl⟩
   . obtain ⟨D',g⟩:=xlk hp hi hP ch.stream ch.mid
     exact ⟨_,D',g,fun _=>.inl⟩
 . exact ⟨A,D,h,fun _ h=>h⟩
def xkp (c:Config) (L:List Message) (H:List Prt) (F:Nat->Prop):Prop:=∀ x∈H,∀ y∈H,Cls x.chunk y.chunk->x.id<y.id->F x.id\/Whole c L H x.id
theorem yws (h:GR c L H A F D r) {s m:Int} {o:Bool} (hg:∀ y∈H,y.chunk.stream=s->y.chunk.ordered=o->y.chunk.mid=m->y.id∈D\/F y.id):GR c L H A F D (zoo r s m o):=by
 refine ⟨h.lo,h.hi,h.zfr,h.zet,h.spanh,h.span,h.cum,h.acc,fun p hp=>h.pieces p (zy56.1 hp).1,h.apart.filter _,fun i y hy hA=>?_,h.logl,h.log,h.once,h.dall,h.streams,h.turn0,h.zbh,h.past,h.dturn,h.dord⟩;rcases h.kept i y hy hA with ⟨p,p1,p2⟩ | h1
 . by_cases hm:zei s m o p=true
   . obtain ⟨i',y',z1,z2,z3,z4,z5,z6⟩:=h.pieces p p1
     have:i'=i:=by omega
     subst this;rw [hy] at z1;cases z1;obtain ⟨e1,e2,e3⟩:=zlx.1 hm;rw [z3] at e1 e2 e3;exact .inr (hg y (zy7 hy) e1 e2 e3)
   . exact .inl ⟨p,zy56.2 ⟨p1,by simp at hm;simp [hm]⟩,p2⟩
 . exact .inr h1
theorem xjk (h:GR c L H A F D r) (hi:HI c L H) (hP:1<=c.part) (hs:H.length<=30500) (hsh:xkp c L H F) {n:Int} (hcov:∀ (i:Nat) y,H[i]?=some y->c.first+i<=n->A i\/F y.id) {k:Nat} {t:Int} (hk:r.zbh[k]?=some t)
 {i0:Nat} {y0:Prt} (q1:H[i0]?=some y0) (q2:c.first+i0<=n) (q3:F y0.id) (q4:y0.chunk.stream=k) (q5:y0.chunk.ordered=true) (q6:t<=y0.chunk.mid):∃ D',GR c L H A F D' (pass r k):=by
 obtain ⟨t0,t1⟩:=h.turnB hi hk;have htag:tag t=t:=by unfold tag;omega
 have hy0:=zy7 q1;unfold pass;rw [show r.zbh[k]?.getD 0=t by rw [hk];rfl];cases hj:join (r.pieces.filter (zei k (tag t) true)) with
 | some b =>
  have hok:(dlv r k (tag t) true).2=true:=by rw [ycm r k (tag t) true hj]
  rw [zy1 hok];exact xgd h hi hP hs hk hok
 | none =>
  rw [zwk r k (tag t) true hj];rw [zy0 (show ¬ (r,false).2=true from Bool.noConfusion)];dsimp only;rw [htag] at hj ⊢;have hg:∀ y∈H,y.chunk.stream=k->y.chunk.ordered=true->y.chunk.mid=t->y.id∈D\/F y.id:=by
   intro y hy e1 e2 e3;have hc:Cls y.chunk y0.chunk:=⟨e1.trans q4.symm,e2.trans q5.symm⟩
   by_cases e4:y.chunk.mid=y0.chunk.mid
   . right;rw [(hi.same hy hy0 hc).2 e4];exact q3
   have hlt:y.id<y0.id:=(hi.key y hy y0 hy0 hc).2 zz0;rcases hsh y hy y0 hy0 hc hlt with hF | hW
   . exact .inr hF
   apply Classical.byContradiction;intro hno;have hno:=not_or.1 hno;obtain ⟨w,w1,w2,w3,w4⟩:=hi.msg y hy
   -- all parts of it are pieces
   have hpc:∀ (i:Nat) z,H[i]?=some z->z.id=y.id->∃ p∈r.pieces.filter (zei k t true),p.number=c.first+i/\p.chunk=z.chunk:=by
    intro i z hz hzi;have hzm:=zy7 hz;have hzc:=hi.cls hzm hy hzi;have hle:i<=i0:=by
     apply Classical.byContradiction;intro hgt;have:=hi.order i0 i y0 z zz0 q1 hz (hc.symm.trans hzc.symm);omega
    have hA:A i:=by
     rcases hcov i z hz zz0 with h1 | h1
     . exact h1
     . rw [hzi] at h1;exact absurd h1 hno.2
    rcases h.kept i z hz hA with ⟨p,p1,p2⟩ | h1 | h1
    . obtain ⟨i',z',k1,k2,k3,k4,k5,k6⟩:=h.pieces p p1
      have:i'=i:=by omega
      subst this;rw [hz] at k1;cases k1;refine ⟨p,zy56.2 ⟨p1,zlx.2 ?_⟩,p2,k3⟩;rw [k3];exact ⟨hzc.1.trans e1,hzc.2.trans e2,((hi.same hzm hy hzc).1 hzi).trans e3⟩
    . rw [hzi] at h1;exact absurd h1 hno.1
    . rw [hzi] at h1;exact absurd h1 hno.2
   have hmp:∀ p∈r.pieces.filter (zei k t true),∃ (i:Nat) (z:Prt),H[i]?=some z/\p.number=c.first+i/\p.chunk=z.chunk/\z.id=y.id/\ztt c.part w p.chunk:=by
    intro p hp;obtain ⟨g1,g2⟩:=zy56.1 hp;obtain ⟨i,z,k1,k2,k3,k4,k5,k6⟩:=h.pieces p g1;obtain ⟨f1,f2,f3⟩:=zlx.1 g2;rw [k3] at f1 f2 f3;have hzm:=zy7 k1;have hzc:Cls z.chunk y.chunk:=⟨f1.trans e1.symm,f2.trans e2.symm⟩
    have hzi:=(hi.same hzm hy hzc).2 (f3.trans e3.symm);obtain ⟨v,v1,-,-,v4⟩:=hi.msg z hzm;rw [hzi,w1] at v1;cases v1;exact ⟨i,z,k1,k2,k3,hzi,by rw [k3];exact v4 k4⟩
   have hne:w.data≠[]:=by
    intro e;obtain ⟨i,hii⟩:=zy58 hy;obtain ⟨p,p1,p2,p3⟩:=hpc i y hii rfl;obtain ⟨-,-,-,-,-,-,hpo⟩:=hmp p p1;have g1:=hpo.inn;have g2:=hpo.part0;have g3:0<=p.chunk.part*c.part:=zy139 g2 zz0;rw [e] at g1;simp at g1;omega
   obtain ⟨b,hb⟩:=ytp hP (fun p hp=>by obtain ⟨-,-,-,-,-,-,hpo⟩:=hmp p hp;exact hpo)
    ((
     h.apart.filter (zei k t true)).imp_of_mem fun {p q} hp hq hpq e=>by
     obtain ⟨i,z,k1,k2,k3,k4,-⟩:=hmp p hp;obtain ⟨j,z',l1,l2,l3,l4,-⟩:=hmp q hq;have:=hi.at k1 l1 (k4.trans l4.symm) (by rw [<- k3,<- l3];exact e);omega) hne (fun j hjp=>by
     obtain ⟨z,z1,z2,z3,z4⟩:=hW w w1 j hjp;obtain ⟨i,hii⟩:=zy58 z1;obtain ⟨p,p1,p2,p3⟩:=hpc i z hii z2;exact ⟨p,p1,by rw [p3];exact z3⟩)
   rw [hj] at hb;cases hb
  have hd:=yws h (s:=k) (m:=t) (o:=true) hg;refine ⟨D,hd.lo,hd.hi,hd.zfr,hd.zet,hd.spanh,hd.span,hd.cum,hd.acc,hd.pieces,hd.apart,hd.kept,hd.logl,hd.log,hd.once,hd.dall,by show ((r.zbh.set _ _).length:Int)=_;rw [zy25];exact h.streams,fun u hu=>?_,fun j u hu=>?_,fun j u hu y hy e1 e2 e3=>?_,fun j u hu y hy hy2 e1 e2=>?_,hd.dord⟩
  . obtain ⟨j,hj2⟩:=zy58 hu
    rcases zkl hk hj2 with ⟨-,rfl⟩ | ⟨-,hu⟩
    . omega
    . exact h.turn0 u (zy7 hu)
  . rcases zkl hk hu with ⟨rfl,rfl⟩ | ⟨-,hu⟩
    . exact .inr ⟨y0,hy0,q4,q5,by omega⟩
    . exact h.zbh j u hu
  . rcases zkl hk hu with ⟨rfl,rfl⟩ | ⟨-,hu⟩
    . by_cases e:y.chunk.mid=t
      . exact hg y hy e1 e2 e
      . exact h.past j t hk y hy e1 e2 zz0
    . exact h.past j u hu y hy e1 e2 e3
  . rcases zkl hk hu with ⟨rfl,rfl⟩ | ⟨-,hu⟩
    . have:=h.dturn j t hk y hy hy2 e1 e2;omega
    . exact h.dturn j u hu y hy hy2 e1 e2
theorem yiw (hi:HI c L H) (hP:1<=c.part) (hs:H.length<=30500) (hsh:xkp c L H F) {n:Int} (hcov:∀ (i:Nat) y,H[i]?=some y->c.first+i<=n->A i\/F y.id) {k:Nat}
 {i0:Nat} {y0:Prt} (q1:H[i0]?=some y0) (q2:c.first+i0<=n) (q3:F y0.id) (q4:y0.chunk.stream=k) (q5:y0.chunk.ordered=true):∀ (j:Nat) {D:List Nat} {r:Receiver} {t:Int},GR c L H A F D r->r.zbh[k]?=some t->t+j<=y0.chunk.mid+1->∃ D',GR c L H A F D' (zni j r k)
 | 0,D,r,t,h,_,_=>⟨D,h⟩
 | j+1,D,r,t,h,hk,hle=>by
  rw [zni];obtain ⟨D',h'⟩:=xjk h hi hP hs hsh hcov hk q1 q2 q3 q4 q5 (by push_cast at hle;omega);have ht:=(zjh r k).1;exact yiw hi hP hs hsh hcov q1 q2 q3 q4 q5 j (t:=t+1) h' (by rw [ht,hk,zy23 (zfb hk)];rfl) (by push_cast at hle;omega)
theorem yav (k:Nat):∀ (j:Nat) (r:Receiver),(zni j r k).zbh.length=r.zbh.length
 | 0,_=>rfl
 | j+1,r=>by rw [zni,yav k j,(zjh r k).1,zy25]
theorem xjz (h:GR c L H A F D r) (hi:HI c L H) (hP:1<=c.part) (hs:H.length<=30500) (hsh:xkp c L H F) {n:Int} (hcov:∀ (i:Nat) y,H[i]?=some y->c.first+i<=n->A i\/F y.id) {sk:zdv}
 (hsk:∃ (i:Nat) (y:Prt),H[i]?=some y/\c.first+i<=n/\F y.id/\sk.stream=y.chunk.stream/\sk.ordered=y.chunk.ordered/\sk.mid=y.chunk.mid):∃ D',GR c L H A F D' (zhj r sk):=by
 obtain ⟨i0,y0,q1,q2,q3,q4,q5,q6⟩:=hsk;have hy0:=zy7 q1;have hmid:=hi.mid y0 hy0;unfold zhj;by_cases c1:sk.stream<0\/(r.zbh.length:Int)<=sk.stream
 . rw [zy1 c1];exact ⟨D,h⟩
 rw [zy0 c1];by_cases c2:sk.ordered=false
 . rw [zy1 c2]
   refine ⟨D,yws h fun y hy e1 e2 e3=>.inr ?_⟩;rw [(hi.same hy hy0 ⟨e1.trans q4,e2.trans (c2.symm.trans q5)⟩).2 (e3.trans q6)];exact q3
 . rw [zy0 c2]
   have c3:sk.ordered=true:=by simpa using c2
   have hkl:sk.stream.toNat<r.zbh.length:=by omega
   obtain ⟨t,ht⟩:∃ t,r.zbh[sk.stream.toNat]?=some t:=⟨_,zy2 hkl⟩
   obtain ⟨t0,t1⟩:=h.turnB hi ht;have hnr:zcy t sk.mid=sk.mid:=zqx zz0 zz0 zz0 zz0 rfl;rw [show r.zbh[sk.stream.toNat]?.getD 0=t by rw [ht];rfl,hnr];unfold ybs;rw [show r.zbh[sk.stream.toNat]?.getD 0=t by rw [ht];rfl];obtain ⟨D',h'⟩:∃ D',GR c L H A F D' (zni (sk.mid+1-t).toNat r sk.stream.toNat):=by
    by_cases c4:t<=sk.mid+1
    . exact yiw hi hP hs hsh hcov q1 q2 q3 zz0 (by rw [<- q5];exact c3) _ h ht zz0
    . rw [show (sk.mid+1-t).toNat=0 by omega];exact ⟨D,h⟩
   exact zyq hi hP hs _ _ h' (by rw [yav];exact hkl)
theorem yrw (hi:HI c L H) (hP:1<=c.part) (hs:H.length<=30500) (hsh:xkp c L H F) {n:Int} (hcov:∀ (i:Nat) y,H[i]?=some y->c.first+i<=n->A i\/F y.id):∀ (l:List zdv) {D:List Nat} {r:Receiver},GR c L H A F D r ->
 (∀ sk∈l,∃ (i:Nat) (y:Prt),H[i]?=some y/\c.first+i<=n/\F y.id/\sk.stream=y.chunk.stream/\sk.ordered=y.chunk.ordered/\sk.mid=y.chunk.mid)->∃ D',GR c L H A F D' (l.foldl zhj r)
 | [],D,_,h,_=>⟨D,h⟩
 | sk::l,D,r,h,hl=>by
  obtain ⟨D',h'⟩:=xjz h hi hP hs hsh hcov (hl sk zz5);exact yrw hi hP hs hsh hcov l h' fun x hx=>hl x zz52
theorem ytb (h:GR c L H A F D r) (hi:HI c L H) (hP:1<=c.part) (hs:H.length<=30500) (hc0:0<=c.first/\c.first<65536) (hsh:xkp c L H F) {ch:Chunk} (hok:ysi c H A F ch):∃ D',GR c L H A F D' (forward r ch):=by
 obtain ⟨n,n1,n2,n3,n4,n5⟩:=hok;have hlo:=h.lo;have hhi:=h.hi;have hnear:zcy r.cum ch.tag=n:=zqx zz0 zz0 zz0 zz0 n3.symm;unfold forward;by_cases c1:¬ ch.kind=3\/zcy r.cum ch.tag<=r.cum
 . rw [zy1 c1];exact ⟨D,h⟩
 rw [zy0 c1,hnear];obtain ⟨u1,u2,u3,u4,u5,u6⟩:=znq (n:=n) h.zfr;have hg:GR c L H A F D {r with cum:=(up r.zar n).1,zar:=(up r.zar n).2}:=by
  refine ⟨by dsimp only;omega,?_,u3,u5,fun s hs=>h.spanh s (u4 s hs),fun i hi2=>?_,fun i y hy hle=>?_,fun i hA=>⟨(h.acc i hA).1,xhc h.zfr ?_⟩,h.pieces,h.apart,h.kept,h.logl,h.log,h.once,h.dall,h.streams,h.turn0,h.zbh,h.past,h.dturn,h.dord⟩
  . dsimp only
    rcases u6 with u6 | ⟨s,hs,u6⟩
    . omega
    . have:=h.spanh s hs;omega
  . obtain ⟨s,s1,s2,s3⟩:=znb.1 hi2
    exact h.span i (znb.2 ⟨s,u4 s s1,s2,s3⟩)
  . rcases xkk h.zfr (.inl hle) with h1 | h1
    . exact n4 i y hy h1
    . exact .inl (h.span i h1)
  . have hne:=fun h2=>c1 (.inr h2)
    rcases (h.acc i hA).2 with h1 | h1
    . rw [hnear] at hne;left;omega
    . exact .inr h1
 exact yrw hi hP hs hsh n4 ch.zbm hg n5
theorem xfq (h:GR c L H A F D r):zkv c H A F (Chk.clean (zjw r)):=by
 have e1:(Chk.clean (zjw r)).tag=tag r.cum:=rfl;have e2:(Chk.clean (zjw r)).zar=(r.zar.take 6).map (shift r.cum):=rfl;refine ⟨r.cum,h.lo,h.hi,by rw [e1];unfold tag;omega,h.cum,fun t ht=>?_,fun i hlt hh=>?_⟩
 . rw [e2] at ht
   obtain ⟨s,hs,rfl⟩:=zy27.1 ht;have:=h.spanh s (zy64 hs);show r.cum+(s.hi-r.cum)<_;omega
 . rw [e2] at hh
   obtain ⟨t,t1,t2,t3⟩:=znb.1 hh;obtain ⟨s,hs,rfl⟩:=zy27.1 t1;have t2:s.lo-r.cum<=c.first+i-r.cum:=t2;have t3:c.first+i-r.cum<=s.hi-r.cum:=t3;exact h.span i (znb.2 ⟨s,zy64 hs,by omega,by omega⟩)
theorem xmc {c:Config} (hc:1<=c.streams) (L:List Message) (F:Nat->Prop):GR c L [] (fun _=>False) F [] (zyz c):=by
 refine ⟨by show c.first-1<=c.first-1;omega,by show c.first-1<c.first+((([]:List Prt).length:Nat):Int);simp;omega,trivial,by simp [zyz],by simp [zyz],fun i hi=>?_,by simp,fun i h=>h.elim,by simp [zyz],by simp [zyz],by simp,rfl,by simp,by simp,by simp,?_,fun t ht=>?_,fun k t hk=>?_,by simp,by simp,by simp⟩
 . simp [zyz,has] at hi
 . show ((List.replicate _ _).length:Int)=_;rw [zy96];omega
 . have:t=0:=zy61 ht
   omega
 . exact .inl (zy61 (zy7 hk))
end
end Gh
namespace Gh
open Ser Snd Ln
def yby (c:Config) (H:List Prt) (A F:Nat->Prop) (p:zau):Prop:=∀ ch∈(Pck.zfg p.bytes).1,if p.back=true then zkv c H A F ch else zoz c H A F ch
structure GL (N M:Nat) (c:Config) (L:List Message) (H:List Prt) (A:Nat->Prop) (D:List Nat) (l:zeb):Prop where
 li:LI N M l
 ki:KI L l.sender
 gs:GS c L H A l.sender
 gr:GR c L H A (gF l.sender) D l.receiver
 way:∀ p∈l.way,yby c H A (gF l.sender) p
section
variable {N M:Nat} {c:Config} {L:List Message} {H:List Prt} {A F:Nat->Prop} {D:List Nat} {l:zeb}
theorem yby.more {E:List Prt} {B G:Nat->Prop} {p:zau} (h:yby c H A F p) (hA:∀ i,A i->B i) (hF:∀ i,F i->G i):yby c (H++E) B G p:=fun ch hc=>by
 have:=h ch hc;split at this
 . rename_i e;rw [zy1 e];exact zkv.more this hA hF
 . rename_i e;rw [zy0 e];exact zoz.more this hA hF
theorem yby.more0 {B G:Nat->Prop} {p:zau} (h:yby c H A F p) (hA:∀ i,A i->B i) (hF:∀ i,F i->G i):yby c H B G p:=by
 have:=h.more (E:=[]) hA hF
 rwa [zy4] at this
theorem zkv.more0 {B G:Nat->Prop} {ch:Chunk} (h:zkv c H A F ch) (hA:∀ i,A i->B i) (hF:∀ i,F i->G i):zkv c H B G ch:=by
 have:=h.more (E:=[]) hA hF
 rwa [zy4] at this
theorem zoz.more0 {B G:Nat->Prop} {ch:Chunk} (h:zoz c H A F ch) (hA:∀ i,A i->B i) (hF:∀ i,F i->G i):zoz c H B G ch:=by
 have:=h.more (E:=[]) hA hF
 rwa [zy4] at this
theorem GS.shut {s:zae} (h:GS c L H A s) (hk:KI L s):xkp c L H (gF s):=by
 intro x hx y hy hc hlt;by_cases hg:gF s x.id
 . exact .inl hg
 right
 obtain ⟨w,w1,w2,w3,-⟩:=h.hi.msg x hx;rcases h.whole x.id (zfb w1) hg with ⟨m,m1,m2⟩ | h1
 . exfalso
   have hm:=hk.queue m m1;rw [show m.id.toNat=x.id by omega,w1] at hm;cases hm;rcases zy146 m.mid 0 with hn | hn
   . have:=(h.fresh m m1 hn).2 x hx ⟨w2,w3⟩
     omega
   . have:=(h.begun m m1 hn).top y hy ⟨hc.1.symm.trans w2,hc.2.symm.trans w3⟩
     omega
 . exact h1
theorem xaq {s:zae} (h:KI L s):KI L (Snd.settle s):=by
 refine ⟨by show (List.mapIdx _ _).length=_;rw [zy108];exact h.len,h.queue,h.out,fun k hk=>h.gone k ?_⟩;have hk:(s.fates.mapIdx fun id f=>settled s id f)[k]?=some 3:=hk;rw [zy77] at hk;cases hz:s.fates[k]? with
 | none=>rw [hz] at hk;cases hk
 | some f =>
  rw [hz] at hk;have hk:settled s k f=3:=by simpa using hk
  unfold settled at hk;split at hk
  . cases hk
  . rw [hk]
theorem xik {s:zae} (h:KI L s) (ch:Chunk):KI L (zyy s ch):=by
 unfold zyy;split
 . exact h
 split
 . exact h
 rename_i c1 c2;rw [zlu];have e1:(Sco.zgj s.out s.cum ch s.paths.length).1=(Sco.left ch (zcy s.cum ch.tag) s.out).map (Sco.age (Sco.zih ch (zcy s.cum ch.tag) s.out)):=by rw [Sco.zgj,zy0 c2]
 have hT:KI L (zhl s ch (Sco.zgj s.out s.cum ch s.paths.length)):=by
  refine h.side rfl (fun m hm=>⟨m,hm,rfl,rfl⟩) fun x hx=>?_
  have hx:x∈(Sco.zgj s.out s.cum ch s.paths.length).1:=hx;rw [e1] at hx;obtain ⟨y,hy,rfl⟩:=zy27.1 hx;obtain ⟨z,hz,rfl⟩:=zy27.1 hy;refine ⟨z,(zy56.1 hz).1,?_⟩;have a1:∀ (k:Int) (y:zbq),(Sco.age k y).id=y.id/\(Sco.age k y).life=y.life/\(Sco.age k y).tries=y.tries:=fun k y=>by unfold Sco.age;(repeat' split)<;>exact ⟨rfl,rfl,rfl⟩
  have a2:(Sco.zbh ch (zcy s.cum ch.tag) z).id=z.id/\(Sco.zbh ch (zcy s.cum ch.tag) z).life=z.life/\(Sco.zbh ch (zcy s.cum ch.tag) z).tries=z.tries:=by unfold Sco.zbh;split<;>exact ⟨rfl,rfl,rfl⟩
  obtain ⟨b1,b2,b3⟩:=a1 (Sco.zih ch (zcy s.cum ch.tag) s.out) (Sco.zbh ch (zcy s.cum ch.tag) z);exact ⟨(b1.trans a2.1).symm,(b2.trans a2.2.1).symm,(b3.trans a2.2.2).symm⟩
 generalize zhl s ch (Sco.zgj s.out s.cum ch s.paths.length)=t at hT;have hU:∀ p l,KI L (zgn p t l):=fun p l=>by
  unfold zgn;split
  . exact hT
  . split
    . exact hT.side rfl (fun m hm=>⟨m,hm,rfl,rfl⟩) fun x hx=>⟨x,hx,rfl,rfl,rfl⟩
    . exact hT
 refine xaq ?_;unfold zfs;split
 . exact (hU _ _).side rfl (fun m hm=>⟨m,hm,rfl,rfl⟩) fun x hx=>⟨x,hx,rfl,rfl,rfl⟩
 . exact hU _ _
theorem xdb {back:Bool} {x:zeb×Bool} {ch:Chunk} (h:GL N M c L H A D x.1) (hN:N<=500) (hM:M+Rcv.wt ch<=2000000) (hok:if back=true then zkv c H A (gF x.1.sender) ch else zoz c H A (gF x.1.sender) ch) :
 ∃ A' D',GL N (M+Rcv.wt ch) c L H A' D' (zfy back x ch).1/\(∀ i,A i->A' i)/\∀ k,gF x.1.sender k->gF (zfy back x ch).1.sender k:=by
 have hli:=zvi (back:=back) (c:=ch) h.li hM;have hw:=zct h.li.snd.cfg;rw [h.gs.cfg] at hw;have hcap:=h.gs.few h.li.snd;unfold zfy at hli ⊢;by_cases cb:back=true
 . rw [zy1 cb] at hok hli ⊢
   obtain ⟨g1,g2⟩:=xij h.gs h.li.snd hN hok;exact ⟨A,D,⟨hli,xik h.ki ch,g1,h.gr.goneMore g2,fun p hp=>(h.way p hp).more0 (fun _ h=>h) g2⟩,fun _ h=>h,g2⟩
 rw [zy0 cb] at hok hli ⊢;by_cases c1:ch.kind=1
 . rw [zy1 c1] at hli ⊢
   have hd:zvt H ch:=by
    rcases hok with hd | ⟨hd,-⟩
    . exact hd
    . rw [c1] at hd;cases hd
   obtain ⟨A',D',g1,g2⟩:=xhu h.gr zz0 h.gs.hi zz0 zz0 hd;exact ⟨A',D',⟨hli,h.ki,h.gs.more g2,g1,fun p hp=>(h.way p hp).more0 g2 (fun _ h=>h)⟩,g2,fun _ h=>h⟩
 rw [zy0 c1] at hli ⊢;by_cases c3:ch.kind=3
 . rw [zy1 c3] at hli ⊢
   have hd:ysi c H A (gF x.1.sender) ch:=by
    rcases hok with ⟨i,y,h1,h2,-⟩ | ⟨-,hd⟩
    . exact absurd (h2 ▸ (h.gs.hi.tag i y h1).1) c1
    . exact hd
   obtain ⟨D',g1⟩:=ytb h.gr h.gs.hi zz0 zz0 zz0 (h.gs.shut h.ki) hd;exact ⟨A,D',⟨hli,h.ki,h.gs,g1,h.way⟩,fun _ h=>h,fun _ h=>h⟩
 rw [zy0 c3] at hli ⊢;exact ⟨A,D,⟨hli,h.ki,h.gs,h.gr,h.way⟩,fun _ h=>h,fun _ h=>h⟩
theorem ypq {back:Bool} (hN:N<=500):∀ (cs:List Chunk) {M:Nat} {A:Nat->Prop} {D:List Nat} {x:zeb×Bool},GL N M c L H A D x.1->M+Rcv.wts cs<=2000000->(∀ ch∈cs,if back=true then zkv c H A (gF x.1.sender) ch else zoz c H A (gF x.1.sender) ch) ->
 ∃ A' D',GL N (M+Rcv.wts cs) c L H A' D' (cs.foldl (zfy back) x).1
 | [],M,A,D,x,h,_,_=>⟨A,D,h⟩
 | ch::cs,M,A,D,x,h,hM,hok=>by
  rw [Rcv.zkq] at hM ⊢;obtain ⟨A',D',g1,g2,g3⟩:=xdb (back:=back) h hN zz0 (hok ch zz5);have:=ypq (back:=back) hN cs g1 zz0 fun z hz=>by
   have:=hok z (by simp [hz]);split at this
   . rename_i e;rw [zy1 e];exact zkv.more0 this g2 g3
   . rename_i e;rw [zy0 e];exact zoz.more0 this g2 g3
  rw [<- zy99];exact this
theorem GL.more (h:GL N M c L H A D l) {M':Nat} (h1:M<=M') (h2:M'<=2000000):GL N M' c L H A D l:=⟨h.li.more h1 h2,h.ki,h.gs,h.gr,h.way⟩
theorem GL.put (h:GL N M c L H A D l) {ps:List zau} (hp:∀ p∈ps,p.bytes.length<=120) (hw:∀ p∈ps,yby c H A (gF l.sender) p):GL N M c L H A D {l with way:=zmo l.way ps} :=
 ⟨yaw h.li hp,h.ki,h.gs,h.gr,fun p hq=>by rcases ydz ps _ p hq with hq | hq;exact h.way p hq;exact hw p hq⟩
theorem xkh (h:GL N M c L H A D l) (path:Int):GL N M c L H A D (told path l):=by
 unfold told;split
 . rename_i c1
   refine h.put (fun p hp=>?_) fun p hp ch hc=>?_
   . rw [zy11] at hp;subst hp
     have:=zta [Rcv.zjw l.receiver] 120 zz4;dsimp only;omega
   . rw [zy11] at hp;subst hp
     rw [zy1 rfl];obtain ⟨d,hd,rfl⟩:=yja c1 ch hc;rw [zy11] at hd;subst hd;exact xfq h.gr
 . exact h
theorem xht (h:GL N M c L H A D l) (hN:N<=500) {p:zau} (hp:p.bytes.length<=120) (hw:yby c H A (gF l.sender) p) (hM:M+120<=2000000):∃ A' D',GL N (M+120) c L H A' D' (zga l p):=by
 have hwt:=(zrc p.bytes).1;obtain ⟨A',D',g⟩:=ypq (back:=p.back) hN (Pck.zfg p.bytes).1 (x:=(l,false)) h zz0 hw;have g2:GL N (M+120) c L H A' D' (ziy l p).1:=g.more zz0 hM;unfold zga;split
 . exact ⟨A,D,h.more zz0 hM⟩
 split
 . exact ⟨A',D',xkh g2 _⟩
 . exact ⟨A',D',g2⟩
theorem zwl (h:GL N M c L H A D l) (hN:N<=500):∃ E,GL N M c L (H++E) A D (emit l):=by
 obtain ⟨E,g1,g2,g3⟩:=xjl h.gs h.li.snd hN h.ki;have hli:=zwm h.li;refine ⟨E,hli,xjm h.ki h.li.snd,g1,(h.gr.goneMore g2).ext g1.hi,fun p hp=>?_⟩;rcases ydz _ _ p hp with hp | hp
 . exact (h.way p hp).more (fun _ h=>h) g2
 . obtain ⟨b1,b2⟩:=g3 p hp
   intro ch hc;rw [b1,zy0 (by decide)];exact b2 ch hc
theorem GL.nmore (h:GL N M c L H A D l) {N':Nat} (h1:N<=N') (h2:N'<=2 ^ 20):GL N' M c L H A D l:=⟨⟨h.li.snd.mono h1 h2,h.li.rcv,h.li.small,h.li.way,h.li.bytes⟩,h.ki,h.gs,h.gr,h.way⟩
def ykq (x:Step) (a:Answer):List Message:=if x.kind=1/\a.err=0 then [x.message] else []
theorem xlm (h:GL N M c L H A D l) (x:Step) (hN:N+1<=500) (hM:M+120<=2000000):∃ E A' D',GL (N+1) (M+120) c (L++ykq x (doS l x).2) (H++E) A' D' (doS l x).1:=by
 have h0:GL (N+1) (M+120) c L H A D l:=(h.nmore zz0 zz0).more zz0 hM;have same:∀ a:Answer,ykq x a=[]->∃ E A' D',GL (N+1) (M+120) c (L++ykq x a) (H++E) A' D' l:=fun a e=>⟨[],A,D,by rw [e,zy4,zy4];exact h0⟩
 unfold doS;by_cases c1:x.kind=1
 . rw [zy1 c1]
   by_cases c2:zeq l.sender x.message=0
   . rw [zy1 c2]
     obtain ⟨g1,g2⟩:=xjx h.gs h.li.snd h.ki x.message;have hs:GL (N+1) (M+120) c (L++[x.message]) H A D {l with sender:=zgv l.sender x.message} :=
      ⟨⟨zte h.li.snd c2 zz0,h0.li.rcv,hM,h.li.way,h.li.bytes⟩,xjy h.ki h.li.snd x.message,g1,(h.gr.lMore x.message).goneMore g2,fun p hp=>(h.way p hp).more0 (fun _ h=>h) g2⟩
     obtain ⟨E,g⟩:=zwl hs zz0;refine ⟨E,A,D,?_⟩;rw [show ykq x ⟨0,(l.sender.fates.length:Int)⟩=[x.message] from zy1 ⟨c1,rfl⟩];exact g
   . rw [zy0 c2]
     exact same _ (zy0 fun h=>c2 h.2)
 rw [zy0 c1];have nt:∀ a:Answer,ykq x a=[]:=fun a=>zy0 fun h=>c1 h.1
 have fin:∀ {A':Nat->Prop} {D':List Nat} {y:zeb} {a:Answer},(∃ E,GL (N+1) (M+120) c L (H++E) A' D' y)->∃ E A' D',GL (N+1) (M+120) c (L++ykq x a) (H++E) A' D' y:=by
  rintro A' D' y a ⟨E,g⟩;exact ⟨E,A',D',by rw [nt a,zy4];exact g⟩
 by_cases c2:x.kind=2\/x.kind=3\/x.kind=4
 . rw [zy1 c2]
   by_cases c3:x.n<0
   . rw [zy1 c3];exact same _ (nt _)
   rw [zy0 c3];cases hp:l.way[x.n.toNat]? with
   | none=>exact same _ (nt _)
   | some p =>
    dsimp only;have hpm:=zy7 hp;have hb:=h.li.bytes p hpm;have hw:=h.way p hpm;by_cases c4:x.kind=4
    . rw [zy1 c4]
      exact fin (zwl (h0.put (fun q hq=>by rw [zy11] at hq;subst hq;exact hb) fun q hq=>by rw [zy11] at hq;subst hq;exact hw) zz0)
    rw [zy0 c4];have he:GL (N+1) M c L H A D {l with way:=l.way.eraseIdx x.n.toNat}:=by
     have h1:=h.nmore (N':=N+1) zz0 zz0;exact ⟨⟨h1.li.snd,h1.li.rcv,h1.li.small,by show (l.way.eraseIdx _).length<=40;have:=h.li.way;rw [zy78];split<;>omega,fun q hq=>h.li.bytes q (zy60 hq)⟩,h1.ki,h1.gs,h1.gr,fun q hq=>h.way q (zy60 hq)⟩
    by_cases c5:x.kind=2
    . rw [zy1 c5]
      obtain ⟨A',D',g⟩:=xht he zz0 hb hw hM;exact fin (zwl g zz0)
    . rw [zy0 c5]
      exact fin (zwl (he.more zz0 hM) zz0)
 rw [zy0 c2];by_cases c5:x.kind=5
 . rw [zy1 c5]
   obtain ⟨g1,g2⟩:=xkf h.gs;have g3:∀ k,gF l.sender k↔gF (tick l.sender) k:=fun k=>by unfold gF;rw [g2]
   have ht:GL (N+1) (M+120) c L H A D {l with sender:=tick l.sender} :=
    ⟨⟨zto h0.li.snd,h0.li.rcv,hM,h.li.way,h.li.bytes⟩,xkg h.ki,g1,h.gr.goneMore fun k=>(g3 k).1,fun p hp=>(h.way p hp).more0 (fun _ h=>h) fun k=>(g3 k).1⟩
   exact fin (zwl ht zz0)
 . rw [zy0 c5];exact same _ (nt _)
def zje:List Step->List Answer->List Message
 | x::l,a::b=>ykq x a++zje l b
 | _,_=>[]
theorem yrm:∀ (a:List Step) {N M:Nat} {L:List Message} {H:List Prt} {A:Nat->Prop} {D:List Nat} {l:zeb},GL N M c L H A D l->N+a.length<=500->M+120*a.length<=2000000->∃ H' A' D',GL (N+a.length) (M+120*a.length) c (L++zje a (zkg l a).2) H' A' D' (zkg l a).1
 | [],N,M,L,H,A,D,l,h,_,_=>⟨H,A,D,by show GL N M c (L++[]) H A D l;rw [zy4];exact h⟩
 | x::a,N,M,L,H,A,D,l,h,h1,h2=>by
  simp only [zy6] at h1 h2 ⊢;obtain ⟨E,A',D',g⟩:=xlm h x zz0 zz0;obtain ⟨H2,A2,D2,g2⟩:=yrm a g zz0 zz0;refine ⟨H2,A2,D2,?_⟩;rw [show N+(a.length+1)=N+1+a.length by omega,show M+120*(a.length+1)=M+120+120*a.length by omega];rw [zy26] at g2;exact g2
theorem xix {c:Config} (hw:zjj c=0):GL 0 0 c [] [] (fun _=>False) [] (zhm c) :=
 ⟨zxg hw,⟨rfl,by simp [zhm,zoq],by simp [zhm,zoq],by simp [zhm,zoq]⟩,xmd hw _,xmc (by have:=zct hw;omega) _ _,by simp [zhm]⟩
structure xck (L:List Message) (lg:List zbk) (D:List Nat):Prop where
 len:D.length=lg.length
 log:∀ (k:Nat) id a,D[k]?=some id->lg[k]?=some a->∃ m,L[id]?=some m/\a.stream=m.stream/\a.ordered=m.ordered/\a.data=m.data
 once:D.Nodup
 zbh:∀ (i j:Nat) a b x y,i<j->D[i]?=some a->D[j]?=some b->lg[i]?=some x->lg[j]?=some y->x.stream=y.stream->x.ordered=true->y.ordered=true->a<b
theorem GL.books (h:GL N M c L H A D l):xck L l.receiver.log D:=by
 refine ⟨h.gr.logl,fun k id a h1 h2=>?_,h.gr.once,fun i j a b x y hij h1 h2 h3 h4 h5 h6 h7=>?_⟩
 . obtain ⟨m,m1,m2,m3,m4,-⟩:=h.gr.log k id a h1 h2
   exact ⟨m,m1,m2,m3,m4⟩
 . obtain ⟨m,m1,m2,m3,m4,u,u1,u2⟩:=h.gr.log i a x h1 h3
   obtain ⟨n,n1,n2,n3,n4,v,v1,v2⟩:=h.gr.log j b y h2 h4;obtain ⟨hi,e1⟩:=zy8.1 h1;obtain ⟨hj,e2⟩:=zy8.1 h2;have:=List.pairwise_iff_getElem.1 h.gr.dord i j hi hj hij;rw [e1,e2] at this;obtain ⟨w,w1,w2,w3,-⟩:=h.gs.hi.msg u u1;rw [u2,m1] at w1;cases w1;obtain ⟨z,z1,z2,z3,-⟩:=h.gs.hi.msg v v1;rw [v2,n1] at z1;cases z1;exact this u u1 v v1 u2 v2 ⟨by rw [w2,z2,<- m2,<- n2];exact h5,by rw [w3,z3,<- m3,<- n3,h6,h7]⟩ (by rw [w3,<- m3];exact h6)
end
end Gh
namespace Gh
open Ser Snd Ln
theorem yyv (l:List UInt8):∀ (k i:Nat) (r:List UInt8),k=l.length-i->ByteArray.toList.loop (⟨l.toArray⟩:ByteArray) i r=r.reverse++l.drop i
 | 0,i,r,h=>by
  rw [ByteArray.toList.loop,zy0 (by show ¬ i<l.toArray.size;simp;omega),zy22 (by omega),zy4]
 | k+1,i,r,h=>by
  have hi:i<l.length:=by omega
  rw [ByteArray.toList.loop,zy1 (by show i<l.toArray.size;simpa using hi),yyv l k (i+1) _ (by omega),zy21 hi];have:(⟨l.toArray⟩:ByteArray).get! i=l[i]:=by
   show l.toArray[i]! = l[i];simp [hi]
  rw [this];simp
theorem toList_mk (l:List UInt8):(⟨l.toArray⟩:ByteArray).toList=l:=by
 rw [ByteArray.toList,yyv l (l.length-0) 0 [] rfl];simp
theorem xmu (l m:List UInt8):((⟨l.toArray⟩:ByteArray).toList==(⟨m.toArray⟩:ByteArray).toList)=decide (l=m):=by
 rw [toList_mk,toList_mk,zy120];simp
theorem yie {α:Type} [DecidableEq α]:∀ {X Y:List α},X.Nodup->(∀ x∈X,x∈Y)->X.length<=Y.length
 | [],_,_,_=>zy103 _
 | x::X,Y,hn,h=>by
  obtain ⟨h1,h2⟩:=zy122.1 hn;have ih:=yie (Y:=Y.erase x) h2 fun y hy=>(List.mem_erase_of_ne (fun e=>h1 (by rw [<- e];exact hy))).2 (h y zz108)
  have hx:x∈Y:=h x zz5;rw [List.length_erase_of_mem hx] at ih;have:=List.length_pos_of_mem hx;rw [zy6];omega
theorem yob {α β:Type} {p:β->Bool}:∀ {l:List α} {m:List β},l.length=m.length->((l.zip m).filter fun z=>p z.2).length=(m.filter p).length
 | [],[],_=>rfl
 | [],_::_,h=>by simp at h
 | _::_,[],h=>by simp at h
 | x::l,y::m,h=>by
  have ih:=yob (p:=p) (l:=l) (m:=m) zz144;rw [List.zip_cons_cons,zy46,zy46];dsimp only;split<;>simp [ih]
theorem yoc {α β:Type} {p:α×β->Bool}:∀ {l:List α} {m:List β},(((l.zip m).filter p).map Prod.fst).Sublist l
 | [],m=>by simp
 | x::l,[]=>by simp
 | x::l,y::m=>by
  rw [List.zip_cons_cons,zy46];split
  . exact (yoc (l:=l) (m:=m)).cons_cons x
  . exact (yoc (l:=l) (m:=m)).cons x
theorem xnb {α β:Type} {p:α×β->Bool} {l:List α} {m:List β} {x:α} (h:x∈((l.zip m).filter p).map Prod.fst):∃ (k:Nat) (y:β),l[k]?=some x/\m[k]?=some y/\p (x,y)=true:=by
 obtain ⟨z,hz,rfl⟩:=zy27.1 h;obtain ⟨h1,h2⟩:=zy56.1 hz;obtain ⟨k,hk⟩:=zy58 h1;rw [List.getElem?_zip_eq_some] at hk;exact ⟨k,z.2,hk.1,hk.2,h2⟩
theorem xnc {α β:Type} {p:α×β->Bool} {l:List α} {m:List β} {k:Nat} {x:α} {y:β} (h1:l[k]?=some x) (h2:m[k]?=some y) (h3:p (x,y)=true):x∈((l.zip m).filter p).map Prod.fst:=by
 refine zy27.2 ⟨(x,y),zy56.2 ⟨zy7 (i:=k) ?_,h3⟩,rfl⟩;rw [List.getElem?_zip_eq_some];exact ⟨h1,h2⟩
section
variable {T:List Message} {lg:List zbk} {D:List Nat} {A A':List zbk} {a:zbk} {U:List Nat} {B:List Bool} {E:List (Int×Int)}
end
theorem ztn (x:Step) (a:Answer):∀ (A:List Step) (az:List Answer),az[A.length]?=some a->zje (A++[x]) az=zje A az++ykq x a
 | [],[],h=>by simp at h
 | [],b::az,h=>by
  simp only [zy14,List.getElem?_cons_zero,Option.some.injEq] at h;subst h;show ykq x b++zje [] az=[]++ykq x b;cases az<;>simp [zje]
 | y::A,[],h=>by simp at h
 | y::A,b::az,h=>by
  rw [zy44,zje,zje,ztn x a A az (by simpa using h),zy26]
theorem zrs:∀ (l:List Step) (az:List Answer),(zje l az).length<=l.length
 | [],az=>by cases az<;>simp [zje]
 | x::l,[]=>by simp [zje]
 | x::l,a::az=>by
  have:=zrs l az;rw [zje,zy9,zy6];unfold ykq;split<;>simp<;>omega
end Gh
namespace Gh
open Ser Snd Ln
abbrev xnh (l:List Answer):HV:=.p (.sl 2 (l.map Answer.row))
abbrev msgs (l:List Message):HV:=.p (.sl 5 (l.map Message.row))
abbrev xmr (l:List Message):zai:=.live (.row 48 5 (l.map Message.row))
theorem ynt (l:List Step) (az:List Answer) (hl:az.length=l.length) (hb:l.length<2 ^ 38):zan Tryz.prog 52 [yvn l,xnh az] zad (msgs (zje l az)) zad:=by
 refine zal mixed Tryz.func52 zz4 ?_;(conv=>whnf);refine ⟨{x:List Step×List Step // l=x.1++x.2},fun | ⟨(A,B),_⟩=>hs 39 [(1,xnh az),(5,.own 900),(8,yvn l),(9,i64 l.length),(10,i64 A.length)] [(900,xmr (zje A az))],fun x=>x.1.2.length,⟨([],l),rfl⟩,?_,?_⟩
 . exact (zay [(900,none)] zz97)
 rintro ⟨⟨A,B⟩,h⟩;dsimp only at h;(conv=>whnf);cases B with
 | cons x B =>
  have hz:=zbd h;obtain ⟨a,ha⟩:∃ a,az[A.length]?=some a:=⟨_,zy2 zz0⟩
  have hsn:=ztn x a A az ha;have hlen:=zrs A az;refine sT ?_;refine zak h rfl (zw ?_)
  (try refine sG ?_)
  by_cases c1:x.kind=1
  case neg =>
   rw [ykq,zy0 (fun h=>c1 h.1),zy4] at hsn;refine zab (zy5.2 c1) (zw ?_)
   (try refine sG ?_)
   refine sF ?_;exact ⟨⟨(A++[x],B),zag h⟩,(zay [(900,some 900)] zz10),by simp⟩
  refine zac (zy17.2 c1) (zw ?_);refine zac (zy12 zz6) (zw ?_);refine zam ha rfl (zw ?_);by_cases c2:a.err=0
  case neg =>
   rw [ykq,zy0 (fun h=>c2 h.2),zy4] at hsn;refine zab (zy5.2 c2) (zw ?_)
   (try refine sG ?_)
   refine sF ?_;exact ⟨⟨(A++[x],B),zag h⟩,(zay [(900,some 900)] zz10),by simp⟩
  rw [ykq,zy1 ⟨c1,c2⟩] at hsn;refine zac (zy17.2 c2) (zw ?_);refine zaa (c:=(((zje A az).map Message.row).length+1)*56<=140737488355328) zz6 (zw ?_);refine sF ?_;exact ⟨⟨(A++[x],B),zag h⟩,(zay [(900,some 36)] zz74),by simp⟩
 | nil =>
  have hz:=zbp h;rw [zy4] at h;subst h
  ((refine yxw ?_;conv=>whnf);try refine sG ?_)
end Gh
namespace Gh
open Ser Snd Ln
def zkp (c:Config) (l:List Step):List Message×Int:=if Snd.zjj c≠0 then ([],Snd.zjj c) else if l.length>200 then ([],5) else (zje l (zkg (zhm c) l).2,0)
theorem ybp (c:Config) (l:List Step) (hb:∀ x∈l,x.message.data.length<2 ^ 38) (hl:l.length<2 ^ 38):zan Tryz.prog 58 [c.hv,yvn l] zad (.tup [msgs (zkp c l).1,i64 (zkp c l).2]) zad:=by
 refine zal mixed Tryz.func58 zz4 ?_;(conv=>whnf);have pk:=xbj c l hb;by_cases c3:Snd.zjj c=0
 case neg =>
  have e1:zly c l=(noL,[],Snd.zjj c):=zy1 c3;rw [e1] at pk;rw [show zkp c l=([],Snd.zjj c) from zy1 c3];dsimp only at pk;generalize Snd.zjj c=e at c3 pk
  (refine cP ?_;refine dL pk ?_)
  refine zac (zy85.2 c3) (zw ?_)
  try rfl
 by_cases c2:l.length>200
 case pos =>
  have e1:zly c l=(noL,[],5):=by rw [zly,zy0 (fun h=>h c3),zy1 c2]
  rw [e1] at pk;rw [show zkp c l=([],5) by rw [zkp,zy0 (fun h=>h c3),zy1 c2]];dsimp only at pk
  (refine cP ?_;refine dL pk ?_)
  try rfl
 have e1:zly c l=((zkg (zhm c) l).1,(zkg (zhm c) l).2,0):=by rw [zly,zy0 (fun h=>h c3),zy0 c2]
 rw [e1] at pk;rw [show zkp c l=(zje l (zkg (zhm c) l).2,0) by rw [zkp,zy0 (fun h=>h c3),zy0 c2]];have hpl:=zrb l (zhm c);dsimp only at pk;generalize zkg (zhm c) l=P at pk hpl;obtain ⟨y,az⟩:=P;dsimp only at pk hpl
 (refine cP ?_;refine dL pk ?_)
 (try refine sG ?_)
 refine ⟨{x:List Step×List Step // l=x.1++x.2},fun | ⟨(A,B),_⟩=>hs 53 [(7,xnh az),(9,.own 900),(23,yvn l),(24,i64 l.length),(25,i64 A.length)] [(900,xmr (zje A az))],fun x=>x.1.2.length,⟨([],l),rfl⟩,?_,?_⟩
 . exact (zay [(900,none)] zz97)
 rintro ⟨⟨A,B⟩,h⟩;dsimp only at h;refine zci fun Q hQ=>?_
 (conv=>whnf);cases B with
 | cons x B =>
  have hz:=zbd h;have hxd:=hb x (zgx h);obtain ⟨a,ha⟩:∃ a,az[A.length]?=some a:=⟨_,zy2 zz0⟩
  have hsn:=ztn x a A az ha;have hlen:=zrs A az;refine sT ?_;refine zak h rfl (zw ?_)
  (try refine sG ?_)
  by_cases c1:x.kind=1
  case neg =>
   rw [ykq,zy0 (fun h=>c1 h.1),zy4] at hsn;refine zab (zy5.2 c1) (zw ?_);exact yy131
  refine zac (zy17.2 c1) (zw ?_);refine zam ha rfl (zw ?_);by_cases c4:a.err=0
  case neg =>
   rw [ykq,zy0 (fun h=>c4 h.2),zy4] at hsn;refine zab (zy5.2 c4) (zw ?_);exact yy131
  rw [ykq,zy1 ⟨c1,c4⟩] at hsn;refine zac (zy17.2 c4) (zw ?_)
  (refine zat [(0,45)]  ?_;(conv=>whnf);refine dO (Cl.zdg x.message.data zz0) ?_)
  refine zaa (c:=(((zje A az).map Message.row).length+1)*56<=140737488355328) zz6 (zw ?_);refine sF ?_;refine hQ _ _ ?_;conv=>whnf
  exact ⟨⟨(A++[x],B),zag h⟩,(zay [(900,some 50)] zz74),by simp⟩
 | nil =>
  have hz:=zbp h;rw [zy4] at h;subst h;refine sN ?_;refine hQ _ _ ?_;conv=>whnf
  try rfl
end Gh
namespace Gh
open Ser Snd Ln
def nF (k:Int) (l:List Int):Nat:=(l.filter (·==k)).length
theorem zim (k x:Int) (l:List Int):nF k (l++[x])=nF k l+if x=k then 1 else 0:=by
 unfold nF;rw [zy47,zy9];by_cases h:x=k
 . rw [zy1 h,zy153 (by simp [h])];rfl
 . rw [zy0 h,zy130 (by simp [h])];rfl
theorem xiw (k:Int) (l:List Int):nF k l<=l.length:=zy41 _ _
abbrev yvr (l:List Int):List HV:=[i64 (nF 1 l),i64 (nF 2 l),i64 (nF 3 l)]
theorem ywn {v:Int} (h:v<1\/3<v) (A:List Int):yvr (A++[v])=yvr A:=by
 unfold yvr;rw [zim,zim,zim,zy0 (show ¬ v=1 by omega),zy0 (show ¬ v=2 by omega),zy0 (show ¬ v=3 by omega)];rfl
theorem xld (A:List Int):yvr (A++[1])=[i64 ((nF 1 A:Int)+1),i64 (nF 2 A),i64 (nF 3 A)]:=by
 unfold yvr;rw [zim,zim,zim,zy1 rfl,zy0 (show ¬ (1:Int)=2 by decide),zy0 (show ¬ (1:Int)=3 by decide)];rfl
theorem xle (A:List Int):yvr (A++[2])=[i64 (nF 1 A),i64 ((nF 2 A:Int)+1),i64 (nF 3 A)]:=by
 unfold yvr;rw [zim,zim,zim,zy1 rfl,zy0 (show ¬ (2:Int)=1 by decide),zy0 (show ¬ (2:Int)=3 by decide)];rfl
theorem xlf (A:List Int):yvr (A++[3])=[i64 (nF 1 A),i64 (nF 2 A),i64 ((nF 3 A:Int)+1)]:=by
 unfold yvr;rw [zim,zim,zim,zy1 rfl,zy0 (show ¬ (3:Int)=1 by decide),zy0 (show ¬ (3:Int)=2 by decide)];rfl
theorem ybh (y:zeb) (hf:y.sender.fates.length<2 ^ 60):zan Tryz.prog 61 [y.hv] zad (.agg (yvr y.sender.fates)) zad:=by
 refine zal mixed Tryz.func61 zz4 ?_;(conv=>whnf);refine ⟨{x:List Int×List Int // y.sender.fates=x.1++x.2},fun | ⟨(A,B),_⟩=>hs 28 [(2,.ptr 2 0),(3,.ptr 3 0),(8,ints y.sender.fates),(9,i64 y.sender.fates.length),(10,i64 A.length)] [(2,.live (.cells 103 [i64 0,i64 0,i64 0])),(3,.live (.cells 103 (yvr A)))],fun x=>x.1.2.length,⟨([],y.sender.fates),rfl⟩,?_,?_⟩
 . exact (zbi [(2,some 2),(3,some 3)])
 rintro ⟨⟨A,B⟩,g⟩;dsimp only at g;refine zci fun Q hQ=>?_
 (conv=>whnf);cases B with
 | nil =>
  have gz:=zbp g;rw [zy4] at g;refine sN ?_;refine hQ _ _ ?_;conv=>whnf
  rw [g]
  try rfl
 | cons v B =>
 have gz:=zbd g;have n1:=xiw 1 A;have n2:=xiw 2 A;have n3:=xiw 3 A;refine sT ?_;refine zak (f:=fun n:Int=>[pi n]) g rfl (zw ?_)
 (try refine sG ?_)
 by_cases c1:v>=1
 case neg =>
  refine zab (zy15 c1) (zw ?_);exact yy126
 refine zac (zy12 c1) ?_;conv=>whnf
 by_cases c2:v<=3
 case neg =>
  refine zab (zy15 c2) ?_;conv=>whnf
  exact yy126
 refine zac (zy12 c2) ?_;conv=>whnf
 obtain rfl | hv:=(show v=1\/(v=2\/v=3) by omega)
 case inl =>
  (conv=>whnf);refine zao (z:=1-1) (zbs zz4 zz4) (zw ?_);refine ⟨0,by decide,by decide,zw ?_⟩;refine sF ?_;refine ⟨0,by decide,by decide,zw ?_⟩
  (try refine sG ?_)
  refine sF ?_;refine hQ _ _ ?_;conv=>whnf
  exact ⟨⟨(A++[1],B),zag g⟩,(zay [(2,some 2),(3,some 3)] (by repeat' (first | exact z0 | refine z1 ?_ | refine ⟨?_,?_⟩ | ((rw [xld])) | exact z2))),by simp⟩
 obtain rfl | rfl:=hv
 case inl =>
  (conv=>whnf);refine zao (z:=2-1) (zbs zz4 zz4) (zw ?_);refine ⟨1,by decide,by decide,zw ?_⟩;refine sF ?_;refine ⟨1,by decide,by decide,zw ?_⟩
  (try refine sG ?_)
  refine sF ?_;refine hQ _ _ ?_;conv=>whnf
  exact ⟨⟨(A++[2],B),zag g⟩,(zay [(2,some 2),(3,some 3)] (by repeat' (first | exact z0 | refine z1 ?_ | refine ⟨?_,?_⟩ | ((rw [xle])) | exact z2))),by simp⟩
 case inr =>
  (conv=>whnf);refine zao (z:=3-1) (zbs zz4 zz4) (zw ?_);refine ⟨2,by decide,by decide,zw ?_⟩;refine sF ?_;refine ⟨2,by decide,by decide,zw ?_⟩
  (try refine sG ?_)
  refine sF ?_;refine hQ _ _ ?_;conv=>whnf
  exact ⟨⟨(A++[3],B),zag g⟩,(zay [(2,some 2),(3,some 3)] (by repeat' (first | exact z0 | refine z1 ?_ | refine ⟨?_,?_⟩ | ((rw [xlf])) | exact z2))),by simp⟩
end Gh
namespace Gh
open Ser Snd Ln
abbrev zuv (l:List zbk):HV:=.p (.sl 4 (l.map zbk.row))
theorem ztg (a b:List UInt8):zan Tryz.prog 113 [yfv a,yfv b] zad (zbj (decide (a=b))) zad:=by
 refine zal mixed Tryz.func113 zz4 ?_;(conv=>whnf);refine zue rfl (zw ?_);refine zue rfl (zw ?_);rw [xmu]
def alk (s:Int) (o:Bool) (d:List UInt8) (t:Int) (p:Bool) (e:List UInt8):Bool:=s==t&&(o==p&&decide (d=e))
def zzj (m:Message) (l:List zbk):Nat:=(l.filter fun a=>alk a.stream a.ordered a.data m.stream m.ordered m.data).length
theorem zqw (m:Message) (l:List zbk) (a:zbk):zzj m (l++[a])=zzj m l+if alk a.stream a.ordered a.data m.stream m.ordered m.data=true then 1 else 0:=by
 unfold zzj;rw [zy47,zy9];by_cases h:alk a.stream a.ordered a.data m.stream m.ordered m.data=true
 . rw [zy1 h,zy153 (by simpa using h)];rfl
 . rw [zy0 h,zy130 (by simpa using h)];rfl
theorem ynl (l:List zbk) (m:Message) (hl:l.length<2 ^ 60):zan Tryz.prog 114 [zuv l,m.hv] zad (i64 (zzj m l)) zad:=by
 refine zal mixed Tryz.func114 zz4 ?_;(conv=>whnf);refine ⟨{x:List zbk×List zbk // l=x.1++x.2},fun | ⟨(A,B),_⟩=>hs 37 [(3,.ptr 3 0),(5,i64 (zzj m A)),(8,zuv l),(9,i64 l.length),(10,i64 A.length)] [(3,.live (.cells 48 m.cells))],fun x=>x.1.2.length,⟨([],l),rfl⟩,?_,?_⟩
 . exact (zbi [(3,some 3)])
 rintro ⟨⟨A,B⟩,g⟩;dsimp only at g;refine zci fun Q hQ=>?_
 (conv=>whnf);cases B with
 | nil =>
  have gz:=zbp g;rw [zy4] at g;subst g;refine sN ?_;refine hQ _ _ ?_;conv=>whnf
  try rfl
 | cons a B =>
 have gz:=zbd g;have hle:zzj m A<=A.length:=zy41 _ _;refine sT ?_;refine zak g rfl (zw ?_)
 (try refine sG ?_)
 by_cases c1:a.stream=m.stream
 case neg =>
  refine zab (zy5.2 c1) (zw ?_);have hsn:zzj m (A++[a])=zzj m A:=by rw [zqw,zy0 (by unfold alk;simp [c1])];rfl
  exact yy76
 refine zac (zy17.2 c1) (zw ?_);by_cases c2:a.ordered=m.ordered
 case neg =>
  refine zab (zy5.2 c2) (zw ?_);have hsn:zzj m (A++[a])=zzj m A:=by rw [zqw,zy0 (by unfold alk;simp [c2])];rfl
  exact yy76
 refine zac (zy17.2 c2) (zw ?_)
 (refine cL ?_;refine dLm (ztg a.data m.data) ?_)
 by_cases c3:a.data=m.data
 case neg =>
  rw [show decide (a.data=m.data)=false from zy15 c3];(conv=>whnf);have hsn:zzj m (A++[a])=zzj m A:=by rw [zqw,zy0 (by unfold alk;simp [c3])];rfl
  exact yy76
 rw [show decide (a.data=m.data)=true from zy12 c3];(conv=>whnf);have hsn:zzj m (A++[a])=zzj m A+1:=by rw [zqw,zy1 (by unfold alk;simp [c1,c2,c3])]
 (try refine sG ?_)
 refine sF ?_;refine sF ?_;refine hQ _ _ ?_;conv=>whnf
 exact ⟨⟨(A++[a],B),zag g⟩,(zay [(3,some 3)] zz102),by simp⟩
end Gh
namespace Gh
open Ser Snd Ln
def asM (a:zbk):Message:=⟨a.stream,a.ordered,0,0,a.data⟩
def nTk (T:List Message) (a:zbk):Nat:=(T.filter fun m=>alk m.stream m.ordered m.data a.stream a.ordered a.data).length
theorem zvm (T:List Message) (m:Message) (a:zbk):nTk (T++[m]) a=nTk T a+if alk m.stream m.ordered m.data a.stream a.ordered a.data=true then 1 else 0:=by
 unfold nTk;rw [zy47,zy9];by_cases h:alk m.stream m.ordered m.data a.stream a.ordered a.data=true
 . rw [zy1 h,zy153 (by simpa using h)];rfl
 . rw [zy0 h,zy130 (by simpa using h)];rfl
def xni (T:List Message) (L:List zbk):Bool:=L.all fun a=>decide (zzj (asM a) L<=nTk T a)
def zpl (T:List Message) (a:zbk) (n:Nat):Nat:=n+(T.drop n).findIdx fun m=>alk m.stream m.ordered m.data a.stream a.ordered a.data
def zgr (T:List Message) (s:Int):List zbk->Nat->Bool
 | [],_=>true
 | a::L,n=>if a.stream≠s\/a.ordered=false then zgr T s L n else if zpl T a n<T.length then zgr T s L (zpl T a n+1) else false
theorem yzd {T:List Message} {a:zbk} {k:Nat} (h:T.length<=k):zpl T a k=k:=by
 unfold zpl;rw [zy22 h];rfl
theorem yze {T:List Message} {a:zbk} {k:Nat} {m:Message} (h:T[k]?=some m) (h2:alk m.stream m.ordered m.data a.stream a.ordered a.data=true):zpl T a k=k:=by
 obtain ⟨hlt,rfl⟩:=zy8.1 h;unfold zpl;rw [zy21 hlt,List.findIdx_cons,h2];rfl
theorem zsr {T:List Message} {a:zbk} {k:Nat} {m:Message} (h:T[k]?=some m) (h2:alk m.stream m.ordered m.data a.stream a.ordered a.data=false):zpl T a k=zpl T a (k+1):=by
 obtain ⟨hlt,rfl⟩:=zy8.1 h;unfold zpl;rw [zy21 hlt,List.findIdx_cons,h2];show k+(List.findIdx _ _+1)=_;omega
def zlh (T:List Message) (L:List zbk):Bool:=xni T L&&(zgr T 0 L 0&&(zgr T 1 L 0&&(zgr T 2 L 0&&zgr T 3 L 0)))
end Gh
namespace Gh
open Ser Snd Ln
abbrev xoj (a:zbk):zai:=.live (.cells 56 a.cells)
abbrev xov (m:Message):zai:=.live (.cells 48 m.cells)
theorem xif {T:List Message} {L:List zbk} {a:zbk} (ha:a∈L) (h:nTk T a<zzj (asM a) L):zlh T L=false:=by
 have:xni T L=false:=by
  unfold xni;rw [List.all_eq_false];exact ⟨a,ha,by simp;omega⟩
 unfold zlh;rw [this];rfl
theorem xft {T:List Message} {L:List zbk} {s:Nat} (hs4:s<4) (h:zgr T s L 0=false):zlh T L=false:=by
 unfold zlh;have h4:s=0\/s=1\/s=2\/s=3:=by omega
 rcases h4 with rfl | rfl | rfl | rfl
 . rw [show zgr T 0 L 0=false from h];simp
 . rw [show zgr T 1 L 0=false from h];simp
 . rw [show zgr T 2 L 0=false from h];simp
 . rw [show zgr T 3 L 0=false from h];simp
theorem yjf {T:List Message} {L:List zbk} (h1:∀ a∈L,zzj (asM a) L<=nTk T a) (h2:∀ s:Nat,s<4->zgr T s L 0=true):zlh T L=true:=by
 unfold zlh;rw [show xni T L=true from zy65.2 fun a ha=>zy12 (h1 a ha),show zgr T 0 L 0=true from h2 0 (by decide),show zgr T 1 L 0=true from h2 1 (by decide),show zgr T 2 L 0=true from h2 2 (by decide),show zgr T 3 L 0=true from h2 3 (by decide)];rfl
theorem zoi (T:List Message) (L:List zbk) (hT:T.length<2 ^ 60) (hL:L.length<2 ^ 60):zan Tryz.prog 62 [msgs T,zuv L] zad (zbj (zlh T L)) zad:=by
 refine zal mixed Tryz.func62 zz4 ?_;generalize hR:zlh T L=R;(conv=>whnf);refine ⟨{x:List zbk×List zbk // L=x.1++x.2/\∀ a∈x.1,zzj (asM a) L<=nTk T a},fun | ⟨(A,B),_⟩=>hs 121 [(0,msgs T),(1,zuv L),(15,zuv L),(16,i64 L.length),(17,i64 A.length)] [],fun x=>x.1.2.length,⟨([],L),rfl,by simp⟩,?_,?_⟩
 . exact (zbi [])
 rintro ⟨⟨A,B⟩,g,hA⟩;dsimp only at g hA;refine zci fun Q hQ=>?_
 (conv=>whnf);cases B with
 | cons a B =>
  have gz:=zbd g;have haL:a∈L:=by rw [g];simp
  have pc:=ynl L (asM a) hL;refine sT ?_;refine zak g rfl (zw ?_);refine ⟨{x:List Message×List Message // T=x.1++x.2},fun | ⟨(X,Y),_⟩=>hs 121 [(0,msgs T),(1,zuv L),(6,.ptr 6 0),(7,.ptr 7 0),(8,i64 (nTk X a)),(15,zuv L),(16,i64 L.length),(17,i64 A.length),(28,msgs T),(29,i64 T.length),(30,i64 X.length)] [(6,xoj a),(7,xov (asM a))],fun x=>x.1.2.length,⟨([],T),rfl⟩,?_,?_⟩
  . exact (zbi [(6,some 6),(7,some 7)])
  rintro ⟨⟨X,Y⟩,g2⟩;dsimp only at g2;refine zci fun Q2 hQ2=>?_
  (conv=>whnf);cases Y with
  | cons m Y =>
   have gz2:=zbd g2;have hle:nTk X a<=X.length:=zy41 _ _;refine sT ?_;refine zak g2 rfl (zw ?_)
   (try refine sG ?_)
   by_cases c1:m.stream=a.stream
   case neg =>
    refine zab (zy5.2 c1) (zw ?_);have hsn:nTk (X++[m]) a=nTk X a:=by rw [zvm,zy0 (by unfold alk;simp [c1])];rfl
    exact yy72
   refine zac (zy17.2 c1) (zw ?_);by_cases c2:m.ordered=a.ordered
   case neg =>
    refine zab (zy5.2 c2) (zw ?_);have hsn:nTk (X++[m]) a=nTk X a:=by rw [zvm,zy0 (by unfold alk;simp [c2])];rfl
    exact yy72
   refine zac (zy17.2 c2) (zw ?_)
   (refine cL ?_;refine dLm (ztg m.data a.data) ?_)
   by_cases c3:m.data=a.data
   case neg =>
    rw [show decide (m.data=a.data)=false from zy15 c3];(conv=>whnf);have hsn:nTk (X++[m]) a=nTk X a:=by rw [zvm,zy0 (by unfold alk;simp [c3])];rfl
    exact yy72
   rw [show decide (m.data=a.data)=true from zy12 c3];(conv=>whnf);have hsn:nTk (X++[m]) a=nTk X a+1:=by rw [zvm,zy1 (by unfold alk;simp [c1,c2,c3])]
   (try refine sG ?_)
   refine sF ?_;refine sF ?_;refine hQ2 _ _ (zw ?_);exact ⟨⟨(X++[m],Y),zag g2⟩,(zay [(6,some 6),(7,some 7)] zz102),by simp⟩
  | nil =>
  have gz2:=zbp g2;rw [zy4] at g2;subst g2;refine sN ?_;refine hQ2 _ _ (zw ?_)
  (refine cL ?_;refine dLm pc ?_)
  by_cases c4:zzj (asM a) L>nTk T a
  case pos =>
   have hf:=xif haL c4;rw [hR] at hf;subst hf;refine zac (zy12 zz0) (zw ?_);refine hQ _ _ ?_;conv=>whnf
   try rfl
  refine zab (zy15 zz0) (zw ?_)
  (try refine sG ?_)
  refine sF ?_;refine hQ _ _ ?_;conv=>whnf
  exact ⟨⟨(A++[a],B),zag g,fun b hb=>by
   rcases zy13.1 hb with hb | hb
   . exact hA b hb
   . rw [zy11] at hb;subst hb;omega⟩,(zbi []),by simp⟩
 | nil =>
 have gz:=zbp g;refine sN ?_;refine hQ _ _ ?_;conv=>whnf
 rw [zy4] at g;rw [<- g] at hA;refine ⟨{s:Nat // s<=4/\∀ j:Nat,j<s->zgr T j L 0=true},fun | ⟨s,_⟩=>hs 121 [(0,msgs T),(1,zuv L),(62,i64 s)] [],fun s=>4-s.1,⟨0,by omega,fun j hj=>by omega⟩,?_,?_⟩
 . exact (zbi [])
 rintro ⟨s,hs4,hsp⟩;refine zci fun Q hQ=>?_
 (conv=>whnf);by_cases c5:s<4
 case neg =>
  have hf:=yjf hA fun j hj=>hsp j zz0
  rw [hR] at hf;subst hf;refine zab (zy15 zz0) (zw ?_);refine hQ _ _ ?_;conv=>whnf
  try rfl
 refine zac (zy12 zz0) (zw ?_);refine ⟨{x:(List zbk×List zbk)×Nat // L=x.1.1++x.1.2/\zgr T s L 0=zgr T s x.1.2 x.2/\x.2<=T.length},fun | ⟨((A,B),n),_⟩=>hs 121 [(0,msgs T),(1,zuv L),(11,i64 s),(12,i64 n),(62,i64 s),(65,zuv L),(66,i64 L.length),(67,i64 A.length)] [],fun x=>x.1.1.2.length,⟨(([],L),0),rfl,rfl,by omega⟩,?_,?_⟩
 . exact (zbi [])
 rintro ⟨⟨⟨A,B⟩,n⟩,g,hn,hnT⟩;dsimp only at g hn hnT;refine zci fun Q2 hQ2=>?_
 (conv=>whnf);cases B with
 | nil =>
  have gz:=zbp g;refine sN ?_;refine hQ2 _ _ (zw ?_);refine sF ?_;refine hQ _ _ ?_;conv=>whnf
  exact ⟨⟨s+1,by omega,fun j hj=>by
   rcases Nat.lt_succ_iff_lt_or_eq.1 hj with hj | rfl
   . exact hsp j hj
   . exact hn⟩,(zbi []),by show 4-(s+1)<4-s;omega⟩
 | cons a B =>
 have gz:=zbd g;refine sT ?_;refine zak g rfl (zw ?_)
 (try refine sG ?_)
 by_cases d1:a.stream=(s:Int)
 case neg =>
  have hn2:zgr T s (a::B) n=zgr T s B n:=by rw [zgr,zy1 (.inl d1)]
  refine zac (zy85.2 d1) (zw ?_);exact yy132
 refine zab (bne_eq_false_iff_eq.2 d1) (zw ?_);by_cases d2:a.ordered=false
 case pos =>
  rw [show (!a.ordered)=true by rw [d2];rfl];have hn2:zgr T s (a::B) n=zgr T s B n:=by rw [zgr,zy1 (.inr d2)]
  (conv=>whnf);exact yy132
 rw [show (!a.ordered)=false by cases h:a.ordered with | false=>exact absurd h d2 | true=>rfl];have hn2:zgr T s (a::B) n=if zpl T a n<T.length then zgr T s B (zpl T a n+1) else false:=by rw [zgr,zy0 (fun h=>h.elim (fun h=>h d1) d2)]
 conv=>whnf
 (try refine sG ?_)
 refine ⟨{k:Nat // k<=T.length/\zpl T a n=zpl T a k},fun | ⟨k,_⟩=>hs 121 [(0,msgs T),(1,zuv L),(11,i64 s),(12,i64 k),(14,.ptr 14 0),(62,i64 s),(65,zuv L),(66,i64 L.length),(67,i64 A.length)] [(14,xoj a)],fun x=>T.length-x.1,⟨n,hnT,rfl⟩,?_,?_⟩
 . exact (zbi [(14,some 14)])
 rintro ⟨k,hk,hkn⟩;refine zci fun Q3 hQ3=>?_
 (conv=>whnf);by_cases c6:k<T.length
 case neg =>
  have hkT:k=T.length:=by omega
  have hf:zgr T s L 0=false:=by rw [hn,hn2,hkn,yzd (by omega),zy0 c6]
  have hf:=xft c5 hf;rw [hR] at hf;subst hf;refine zab (zy15 zz6) (zw ?_);refine sD ?_;refine hQ3 _ _ (zw ?_);refine zac (zy17.2 zz6) (zw ?_);refine hQ2 _ _ (zw ?_);refine hQ _ _ ?_;conv=>whnf
  try rfl
 obtain ⟨m,hm⟩:∃ m,T[k]?=some m:=⟨_,zy2 c6⟩
 have d2:a.ordered=true:=by cases h:a.ordered with | false=>exact absurd h d2 | true=>rfl
 refine zac (zy12 zz6) (zw ?_);refine zam hm rfl (zw ?_);by_cases e1:m.stream=(s:Int)
 case neg =>
  rw [show (m.stream==(s:Int))=false from zy5.2 e1];(conv=>whnf);have hms:alk m.stream m.ordered m.data a.stream a.ordered a.data=false:=by unfold alk;simp [d1,e1]
  exact yy55
 rw [show (m.stream==(s:Int))=true from zy17.2 e1];(conv=>whnf);refine zam hm rfl (zw ?_);by_cases e2:m.ordered=true
 case neg =>
  rw [show m.ordered=false from Bool.eq_false_iff.2 e2];(conv=>whnf);have hms:alk m.stream m.ordered m.data a.stream a.ordered a.data=false:=by unfold alk;simp [d2,e2]
  exact yy55
 rw [e2];(conv=>whnf);refine zam hm rfl (zw ?_)
 (refine cL ?_;refine dLm (ztg m.data a.data) ?_)
 by_cases e3:m.data=a.data
 case neg =>
  rw [show decide (m.data=a.data)=false from zy15 e3];(conv=>whnf);have hms:alk m.stream m.ordered m.data a.stream a.ordered a.data=false:=by unfold alk;simp [e3]
  exact yy55
 rw [show decide (m.data=a.data)=true from zy12 e3];(conv=>whnf);have hht:alk m.stream m.ordered m.data a.stream a.ordered a.data=true:=by unfold alk;simp [e1,d1,e2,d2,e3]
 refine sD ?_;refine hQ3 _ _ (zw ?_);refine zab (zy5.2 zz6) (zw ?_)
 (try refine sG ?_)
 refine sF ?_;refine sF ?_;refine hQ2 _ _ (zw ?_);exact ⟨⟨((A++[a],B),k+1),zag g,by dsimp only;rw [hn,hn2,hkn,yze hm hht,zy1 c6],by dsimp only;omega⟩,(zbi []),by simp⟩
end Gh
namespace Snd
open Ser
def FT (s:zae):Prop:=∀ f∈s.fates,1<=f/\f<=3
theorem FT.side {s t:zae} (h:FT s) (e:t.fates=s.fates):FT t:=by unfold FT;rw [e];exact h
theorem yxn {s:zae} (h:FT s) (id:Nat):FT (zeu s id):=by
 intro f hf;rw [zgg] at hf;rcases zy48 hf with hf | rfl
 . exact h f hf
 . decide
section
variable {N:Nat} {s:zae}
theorem yox:∀ (q:List zaj) {s:zae},(∀ m∈q,0<=m.id)->FT s->FT (q.foldl zjf s)
 | [],_,_,h=>h
 | m::q,s,hq,h=>by
  refine yox q (fun x hx=>hq x zz52) ?_;unfold zjf;split
  . rw [show m.id=((m.id.toNat:Nat):Int) by have:=hq m (by simp);omega];exact yxn h _
  . exact h
theorem ypb:∀ (q:List zbq) {s:zae},(∀ m∈q,0<=m.id)->FT s->FT (q.foldl zgz s)
 | [],_,_,h=>h
 | m::q,s,hq,h=>by
  refine ypb q (fun x hx=>hq x zz52) ?_;unfold zgz;split
  . rw [show m.id=((m.id.toNat:Nat):Int) by have:=hq m (by simp);omega];exact yxn h _
  . exact h
theorem yxa (hS:SI N s) (h:FT s):FT (expire s):=by
 obtain ⟨h2,-⟩:=zny s.queue s hS fun m hm=>⟨(hS.queue m hm).id0,(hS.queue m hm).id1⟩
 exact ypb _ (fun x hx=>(h2.out x hx).id0) (yox _ (fun m hm=>(hS.queue m hm).id0) h)
theorem ygq (p:zep) (i path:Nat):(fly p i path).s.fates=p.s.fates:=by
 unfold fly;split<;>rfl
theorem ztv {path:Nat}:∀ (l:List Nat) (p:zep),(l.foldl (zcu path) p).s.fates=p.s.fates
 | [],_=>rfl
 | i::l,p=>by
  rw [zy49,ztv l];unfold zcu;split
  . rfl
  . split
    . exact ygq _ _ _
    . rfl
theorem ytu {p q:zep} (h:next p=some q):q.s.fates=p.s.fates:=by
 obtain ⟨s,o⟩:=p;unfold next at h;dsimp only at h;split at h
 . cases h
 cases hm:s.queue[(zdu s).toNat]? with
 | none=>rw [hm] at h;cases h
 | some m =>
  rw [hm] at h;dsimp only at h;split at h
  . cases h
  . cases h
    exact ygq _ _ _
theorem zxh:∀ (n:Nat) (p:zep),(zew n p).s.fates=p.s.fates
 | 0,_=>rfl
 | n+1,p=>by
  rw [zew];cases hq:next p with
  | none=>rfl
  | some q=>rw [show (zew n q).s.fates=_ from zxh n q,ytu hq]
theorem yct (p:zep):(forward p).s.fates=p.s.fates:=by unfold forward;split<;>rfl
theorem zxt (hS:SI N s) (h:FT s):FT (zit s).1:=by
 refine (yxa hS h).side ?_;show (zew 61 (again (forward ⟨expire s,List.replicate s.paths.length []⟩))).s.fates=_;rw [zxh];exact (ztv _ _).trans (yct _)
theorem xjw (h:FT s) (m:Message):FT (zgv s m):=by
 intro f hf;rcases zy13.1 (show f∈s.fates++[1] from hf) with hf | hf
 . exact h f hf
 . rw [zy11] at hf;subst hf;decide
theorem yue (s:zae) (id:Nat) {f:Int} (h:1<=f/\f<=3):1<=settled s id f/\settled s id f<=3:=by
 unfold settled
 repeat' split
 all_goals omega
theorem xii (h:FT s) (c:Chunk):FT (zyy s c):=by
 unfold zyy;split
 . exact h
 split
 . exact h
 rw [zlu];have hT:∀ p l,(zgn p (zhl s c (Sco.zgj s.out s.cum c s.paths.length)) l).fates=s.fates:=fun p l=>by
  unfold zgn;split
  . rfl
  . split<;>rfl
 have hV:∀ b u,(zfs b u).fates=u.fates:=fun b u=>by unfold zfs;split<;>rfl
 intro f hf;have hf:f∈List.mapIdx _ _:=hf;obtain ⟨i,hi⟩:=zy58 hf;rw [zy77,hV,hT] at hi;cases hg:s.fates[i]? with
 | none=>rw [hg] at hi;cases hi
 | some g=>rw [hg] at hi;cases hi;exact yue _ _ (h g (zy7 hg))
theorem ymo (part:Int) (s:zae) (i:Nat):(zhs part s i).fates=s.fates:=by
 unfold zhs;split
 . rfl
 split
 . rfl
 dsimp only;split<;>rfl
theorem zxb (part:Int):∀ (l:List Nat) (s:zae),(l.foldl (zhs part) s).fates=s.fates
 | [],_=>rfl
 | i::l,s=>by rw [zy49,zxb part l,ymo]
theorem xke (h:FT s):FT (tick s):=h.side (zxb _ _ _)
end
end Snd
namespace Ln
open Ser Snd
theorem ypp {back:Bool}:∀ (cs:List Chunk) {x:zeb×Bool},FT x.1.sender->FT (cs.foldl (zfy back) x).1.sender
 | [],_,h=>h
 | c::cs,x,h=>by
  refine ypp (back:=back) cs ?_;unfold zfy;split
  . exact xii h c
  split
  . exact h
  split<;>exact h
theorem xhs {l:zeb} (h:FT l.sender) (p:zau):FT (zga l p).sender:=by
 have h2:FT (ziy l p).1.sender:=ypp (back:=p.back) _ (x:=(l,false)) h;unfold zga;split
 . exact h
 split
 . unfold told;split<;>exact h2
 . exact h2
theorem xll {N M:Nat} {l:zeb} (hl:LI N M l) (h:FT l.sender) (x:Step) (hN:N+1<=2 ^ 20) (hM:M+120<=2000000):FT (doS l x).1.sender:=by
 unfold doS;split
 . split
   . rename_i e
     exact zxt (zte hl.snd e hN) (xjw h _)
   . exact h
 split
 . split
   . exact h
   split
   . exact h
   rename_i p hp;have hb:=hl.bytes p (zy7 hp);split
   . exact zxt hl.snd h
   . split
     . have hli:LI N M {l with way:=l.way.eraseIdx x.n.toNat}:=⟨hl.snd,hl.rcv,hl.small,by show (l.way.eraseIdx _).length<=40;have:=hl.way;rw [zy78];split<;>omega,fun q hq=>hl.bytes q (zy60 hq)⟩
       exact zxt (zwi hli hb hM).snd (xhs (l:={l with way:=l.way.eraseIdx x.n.toNat}) h p)
     . exact zxt hl.snd h
 split
 . exact zxt (zto hl.snd) (xke h)
 . exact h
theorem yrl:∀ (a:List Step) {N M:Nat} {l:zeb},LI N M l->FT l.sender->N+a.length<=2 ^ 20->M+120*a.length<=2000000->FT (zkg l a).1.sender
 | [],_,_,_,_,h,_,_=>h
 | x::a,N,M,l,hl,h,h1,h2=>by
  simp only [zy6] at h1 h2;exact yrl a (yoo hl x zz0 zz0) (xll hl h x zz0 zz0) zz0 zz0
end Ln
namespace Gh
open Ser Snd Ln
theorem ylb {s t:Int} {o p:Bool} {d e:List UInt8}:alk s o d t p e=true↔s=t/\o=p/\d=e:=by
 unfold alk;simp
theorem xir {α:Type} {T:List α} {p:α->Bool} {U:List Nat} (hn:U.Nodup) (h:∀ u∈U,∃ m,T[u]?=some m/\p m=true):U.length<=(T.filter p).length:=by
 rw [<- yob (p:=p) (l:=List.range T.length) (m:=T) (by simp),<- zy3 (f:=Prod.fst)];refine yie hn fun u hu=>?_
 obtain ⟨m,h2,h3⟩:=h u hu;exact xnc (zy114 (zfb h2)) h2 h3
section
variable {T:List Message} {lg:List zbk} {D:List Nat}
theorem ywi (hb:xck T lg D):∀ a∈lg,zzj (asM a) lg<=nTk T a:=by
 intro a _;unfold zzj nTk;rw [<- yob (l:=D) (m:=lg) hb.len,<- zy3 (f:=Prod.fst)];refine xir (hb.once.sublist yoc) fun u hu=>?_
 obtain ⟨k,y,h1,h2,h3⟩:=xnb hu;obtain ⟨m,m1,m2,m3,m4⟩:=hb.log k u y h1 h2;have h3:alk y.stream y.ordered y.data a.stream a.ordered a.data=true:=h3;rw [ylb] at h3;exact ⟨m,m1,ylb.2 ⟨m2.symm.trans h3.1,m3.symm.trans h3.2.1,m4.symm.trans h3.2.2⟩⟩
theorem xed {a:zbk} {n d:Nat} {m:Message} (h:n<=d) (h1:T[d]?=some m) (h2:alk m.stream m.ordered m.data a.stream a.ordered a.data=true):zpl T a n<=d:=by
 unfold zpl;have h3:(T.drop n)[d-n]?=some m:=by rw [zy53,show n+(d-n)=d by omega];exact h1
 obtain ⟨hl,e⟩:=zy8.1 h3;have:(T.drop n).findIdx (fun m=>alk m.stream m.ordered m.data a.stream a.ordered a.data)<=d-n:=by
  apply Classical.byContradiction;intro hc;have:=List.not_of_lt_findIdx (Nat.lt_of_not_le hc);rw [e,h2] at this;cases this
 omega
theorem zzt (hb:xck T lg D) (s:Int):∀ (L A:List zbk) (n:Nat),lg=A++L->(∀ (j:Nat) a d,A.length<=j->lg[j]?=some a->a.stream=s->a.ordered=true->D[j]?=some d->n<=d)->zgr T s L n=true
 | [],_,_,_,_=>rfl
 | a::L,A,n,he,h=>by
  have ha:lg[A.length]?=some a:=by rw [he];simp
  have zcq:∀ n',(∀ (j:Nat) b d,A.length+1<=j->lg[j]?=some b->b.stream=s->b.ordered=true->D[j]?=some d->n'<=d)->zgr T s L n'=true:=fun n' h' =>
   zzt hb s L (A++[a]) n' (by rw [he];simp) (by rw [zy9,zy55];exact h')
  rw [zgr];split
  . exact zcq n fun j b d hj=>h j b d zz0
  . rename_i c1
    have c2:a.stream=s:=Classical.byContradiction fun hc=>c1 (.inl hc)
    have c3:a.ordered=true:=by cases ho:a.ordered with | true=>rfl | false=>exact absurd (.inr ho) c1
    obtain ⟨d,hd⟩:∃ d,D[A.length]?=some d:=⟨_,zy2 (by have:=zfb ha;have:=hb.len;omega)⟩
    obtain ⟨m,m1,m2,m3,m4⟩:=hb.log _ d a hd ha;have h1:=h A.length a d (zy28 _) ha c2 c3 hd;have h2:=xed (a:=a) h1 m1 (ylb.2 ⟨m2.symm,m3.symm,m4.symm⟩);have h3:=zfb m1;rw [zy1 (by omega)];refine zcq _ fun j b d' hj hb1 hb2 hb3 hd'=>?_
    have:=hb.zbh A.length j d d' a b zz0 hd hd' ha hb1 (c2.trans hb2.symm) c3 hb3;omega
theorem ylg (hb:xck T lg D):zlh T lg=true :=
 yjf (ywi hb) fun s _=>zzt hb s lg [] 0 rfl fun _ _ _ _ _ _ _ _=>zy103 _
end
theorem xgs:∀ l:List Int,(∀ f∈l,1<=f/\f<=3)->nF 1 l+nF 2 l+nF 3 l=l.length
 | [],_=>rfl
 | x::l,h=>by
  have ih:=xgs l fun f hf=>h f (by simp [hf])
  have hx:=h x zz5;have e:∀ k:Int,nF k (x::l)=nF k l+if x=k then 1 else 0:=fun k=>by
   unfold nF;rw [zy46];by_cases c:x=k<;>simp [c]
  rw [e,e,e,zy6]
  (repeat' split)<;>omega
theorem yuc {c:Config} (hw:zjj c=0) {l:List Step} (hl:l.length<=200) :
 zlh (zje l (zkg (zhm c) l).2) (zkg (zhm c) l).1.receiver.log=true/\nF 1 (zkg (zhm c) l).1.sender.fates+nF 2 (zkg (zhm c) l).1.sender.fates+nF 3 (zkg (zhm c) l).1.sender.fates=(zje l (zkg (zhm c) l).2).length:=by
 obtain ⟨H,A,D,g⟩:=yrm l (xix hw) zz0 zz0;rw [zy66] at g;refine ⟨ylg g.books,?_⟩;rw [xgs _ (yrl l (zxg hw) (fun f hf=>by simp [zhm,zoq] at hf) (by omega) (by omega))];exact g.ki.len
end Gh
namespace Sch
def pick (q:List zaj):List Int->Int
 | []=>-1
 | k::r=>if first q k>=0 then first q k else pick q r
theorem zxr {q:List zaj}:∀ {H:List Int} {R:List Int},(∀ h∈H,¬ first q h>=0)->pick q (H++R)=pick q R
 | [],R,_=>rfl
 | h::H,R,hh=>by
  rw [zy44,pick,zy0 (hh h (by simp))];exact zxr fun x hx=>hh x zz52
theorem zzp {q:List zaj} {last n:Int} (h1:0<=last) (h2:last<2 ^ 41):∀ (j k:Nat),k+j<2 ^ 41->after q last n k j=pick q ((List.range' k j).map fun i:Nat=>(last+1+(i:Int)).tmod n)
 | 0,k,_=>rfl
 | j+1,k,hk=>by
  rw [after,List.range'_succ,zy40,pick,zzp h1 h2 j (k+1) (by omega),zbs (z:=last+1) (by omega) (by omega),zbs (by omega) (by omega)]
theorem yjc {q:List zaj}:∀ (j k:Nat),zfm q k j=pick q ((List.range' k j).map fun i:Nat=>(i:Int))
 | 0,k=>rfl
 | j+1,k=>by rw [zfm,List.range'_succ,zy40,pick,yjc j (k+1)]
def am (p:Nat->Bool) (had:List Int) (best:Int) (k:Nat):List Int->Int
 | []=>best
 | n::r=>if p k=true/\(best<0\/n<had[best.toNat]?.getD 0) then am p had k (k+1) r else am p had best (k+1) r
theorem zvd {q:List zaj} {had:List Int}:∀ (l:List Int) (best:Int) (k:Nat),zev q had best k l=am (fun k=>decide (first q k>=0)) had best k l
 | [],_,_=>rfl
 | n::r,best,k=>by
  rw [zev,am,zvd r,zvd r];simp only [zy34]
def Arg (p:Nat->Bool) (had:List Int) (k:Nat) (b:Int):Prop :=
 (b=-1/\∀ i:Nat,i<k->p i=false)\/∃ m:Nat,b=m/\m<k/\p m=true/\∀ i:Nat,i<k->p i=true->had[m]?.getD 0<=had[i]?.getD 0/\(i<m->had[m]?.getD 0<had[i]?.getD 0)
theorem yfs {p:Nat->Bool} {had:List Int}:∀ (j k:Nat) (b:Int),k+j=had.length->Arg p had k b->Arg p had had.length (am p had b k (had.drop k))
 | 0,k,b,h,a=>by
  rw [zy22 (by omega),am]
  rwa [show k=had.length by omega] at a
 | j+1,k,b,h,a=>by
  have hlt:k<had.length:=by omega
  have hg:had[k]?.getD 0=had[k]:=by simp [hlt]
  rw [zy21 hlt,am];split
  . rename_i c
    refine yfs j (k+1) k zz0 (.inr ⟨k,rfl,by omega,c.1,fun i hi hp=>?_⟩);rcases a with ⟨rfl,h1⟩ | ⟨m,rfl,h1,h2,h3⟩
    . have:i=k:=by
       by_cases e:i=k
       . exact e
       . have:=h1 i zz0;rw [hp] at this;cases this
      subst this;exact ⟨zy74 _,fun h=>by omega⟩
    . rcases c.2 with c2 | c2
      . omega
      rw [zy24] at c2;by_cases e:i=k
      . subst e;exact ⟨zy74 _,fun h=>by omega⟩
      . have:=h3 i zz0 hp
        rw [hg];omega
  . rename_i c
    refine yfs j (k+1) b zz0 ?_;rcases a with ⟨rfl,h1⟩ | ⟨m,rfl,h1,h2,h3⟩
    . refine .inl ⟨rfl,fun i hi=>?_⟩
      by_cases e:i=k
      . subst e
        cases hp:p i with
        | false=>rfl
        | true=>exact absurd ⟨hp,.inl zz4⟩ c
      . exact h1 i zz0
    . refine .inr ⟨m,rfl,by omega,h2,fun i hi hp=>?_⟩
      by_cases e:i=k
      . subst e
        have:¬ had[i]<had[m]?.getD 0:=fun h=>c ⟨hp,.inr (by rw [zy24];exact h)⟩
        rw [hg];omega
      . exact h3 i zz0 hp
theorem ywf {p:Nat->Bool} {had:List Int} {n:Nat} {b b':Int} (h:Arg p had n b) (h':Arg p had n b'):b=b':=by
 rcases h with ⟨rfl,h1⟩ | ⟨m,rfl,h1,h2,h3⟩<;>rcases h' with ⟨rfl,h4⟩ | ⟨m',rfl,h4,h5,h6⟩
 . rfl
 . rw [h1 m' h4] at h5;cases h5
 . rw [h4 m h1] at h2;cases h2
 . have h7:=h3 m' h4 h5
   have h8:=h6 m h1 h2;by_cases e:m=m'
   . rw [e]
   . rcases zy152 e with e | e
     . have:=h8.2 e;omega
     . have:=h7.2 e;omega
def ymt (had:List Int) (H:List Int):Int:=am (fun k=>decide ((k:Int)∉H)) had (-1) 0 had
def zsf (had:List Int):Nat->List Int->List Int
 | 0,H=>H
 | j+1,H=>zsf had j (H++[ymt had H])
theorem ygn {had:List Int}:∀ (j:Nat) (H:List Int),∃ R,zsf had j H=H++R
 | 0,H=>⟨[],by simp [zsf]⟩
 | j+1,H=>by
  obtain ⟨R,h⟩:=ygn (had:=had) j (H++[ymt had H]);exact ⟨ymt had H::R,by rw [zsf,h];simp⟩
theorem ygm {had:List Int}:∀ (j:Nat) (H:List Int),(zsf had j H).length=H.length+j
 | 0,H=>rfl
 | j+1,H=>by rw [zsf,ygm j];simp;omega
theorem ywd:∀ (n:Nat) (H:List Int),(∀ i:Nat,i<n->(i:Int)∈H)->n<=H.length
 | 0,_,_=>zy103 _
 | n+1,H,h=>by
  have h1:=ywd n (H.erase (n:Int)) fun i hi=>(List.mem_erase_of_ne zz0).2 (h i zz0)
  have h2:(n:Int)∈H:=h n zz0;rw [List.length_erase_of_mem h2] at h1;have:=List.length_pos_of_mem h2;omega
theorem yzc (had H:List Int):Arg (fun k=>decide ((k:Int)∉H)) had had.length (ymt had H):=by
 have:=yfs (p:=fun k=>decide ((k:Int)∉H)) (had:=had) had.length 0 (-1) zz0 (.inl ⟨rfl,fun i hi=>by omega⟩);exact this
theorem ygo {s:zho} {q:List zaj}:∀ (j:Nat) (H:List Int),H.length+j=s.had.length->((List.range s.had.length).filter fun i:Nat=>decide ((i:Int)∉H)).length<=j->(∀ h∈H,¬ first q h>=0) ->
 pick q (zsf s.had j H)=least s q
 | 0,H,h1,h2,h3=>by
  have hall:∀ i:Nat,i<s.had.length->(i:Int)∈H:=fun i hi=>by
   have h4:(List.range s.had.length).filter (fun i:Nat=>decide ((i:Int)∉H))=[]:=zy20 zz0;rw [List.filter_eq_nil_iff] at h4
   simpa using h4 i (by simpa using hi)
  have ha:Arg (fun k=>decide (first q k>=0)) s.had s.had.length (-1):=.inl ⟨rfl,fun i hi=>by simpa using h3 _ (hall i hi)⟩;have hl:=yfs (p:=fun k=>decide (first q k>=0)) (had:=s.had) s.had.length 0 (-1) zz0 (.inl ⟨rfl,fun i hi=>by omega⟩);have he:=ywf ha hl;have h5:=zxr (R:=[]) h3;rw [zy4] at h5;rw [zsf,h5,pick,least,zvd];show _=if am _ s.had (-1) 0 s.had<0 then _ else _
  rw [show am (fun k=>decide (first q k>=0)) s.had (-1) 0 s.had=-1 from he.symm,zy1 (by decide)]
 | j+1,H,h1,h2,h3=>by
  rw [zsf];have hn:=yzc s.had H;generalize ymt s.had H=b at hn ⊢;have hn':=hn;rcases hn' with ⟨rfl,g1⟩ | ⟨m,rfl,g1,g2,g3⟩
  . have:=ywd s.had.length H fun i hi=>by simpa using g1 i hi
    omega
  by_cases c:first q m>=0
  . have ha:Arg (fun k=>decide (first q k>=0)) s.had s.had.length m:=.inr ⟨m,rfl,g1,by simpa using c,fun i hi hp=>g3 i hi (by
     have hp:first q i>=0:=by simpa using hp
     have:(i:Int)∉H:=fun hc=>h3 _ hc hp
     simpa using this)⟩
    have hl:=yfs (p:=fun k=>decide (first q k>=0)) (had:=s.had) s.had.length 0 (-1) zz0 (.inl ⟨rfl,fun i hi=>by omega⟩);have he:=ywf ha hl;obtain ⟨R,hR⟩:=ygn (had:=s.had) j (H++[(m:Int)]);rw [hR,zy26,zxr h3];show (if first q m>=0 then first q m else _)=_;rw [zy1 c,least,zvd];show _=if am _ s.had (-1) 0 s.had<0 then _ else first q (am _ s.had (-1) 0 s.had)
    rw [show am (fun k=>decide (first q k>=0)) s.had (-1) 0 s.had=m from he.symm,zy0 (by omega)]
  . have g2:(m:Int)∉H:=by simpa using g2
    refine ygo j (H++[(m:Int)]) zz3 ?_ fun h hh=>?_
    . have e:(List.range s.had.length).filter (fun i:Nat=>decide ((i:Int)∉H++[(m:Int)]))=((List.range s.had.length).filter fun i:Nat=>decide ((i:Int)∉H)).filter fun i:Nat=>decide (i≠m):=by
       rw [List.filter_filter];refine List.filter_congr fun i _=>?_
       by_cases e1:i=m<;>by_cases e2:(i:Int)∈H<;>simp [e1,e2]<;>omega
      rw [e];have:=(List.length_filter_lt_length_iff_exists (p:=fun i:Nat=>decide (i≠m)) (l:=(List.range s.had.length).filter fun i:Nat=>decide ((i:Int)∉H))).2 ⟨m,by simp [g1,g2],by simp⟩;omega
    . rcases zy13.1 hh with hh | hh
      . exact h3 h hh
      . rw [zy11] at hh;subst hh;exact c
def mark (H:List Int) (b:Int):List Int:=if b∈H then H else H++[b]
def keys (O:List Int):List Int:=O.foldl mark []
theorem yyq (O:List Int) (b:Int):keys (O++[b])=mark (keys O) b:=by simp [keys]
theorem xea {H:List Int} {b x:Int}:x∈mark H b↔x∈H\/x=b:=by
 unfold mark;split
 . rename_i h
   exact ⟨.inl,fun h'=>h'.elim id fun e=>e ▸ h⟩
 . simp
theorem yqs:∀ (O:List Int) (H:List Int) (x:Int),x∈O.foldl mark H↔x∈H\/x∈O
 | [],H,x=>by simp
 | b::O,H,x=>by rw [zy49,yqs O,xea,zy18,or_assoc]
theorem mem_keys {O:List Int} {x:Int}:x∈keys O↔x∈O:=by rw [keys,yqs];simp
def ent (n:Int):Value×List PV:=(.int .i64 n,[pb true])
theorem yph (b:Int):∀ H:List Int,ycs (H.map ent) (.int .i64 b)=if b∈H then some [pb true] else none
 | []=>rfl
 | x::H=>by
  rw [zy40,ent,ycs,yph b H];by_cases e:b=x
  . subst e;simp [zux]
  . have:zux (.int .i64 b) (.int .i64 x)=false:=by simpa [zux] using e
    rw [this];simp [e]
theorem xad (b:Int):∀ H:List Int,xfd (H.map ent) (.int .i64 b) [pb true]=(mark H b).map ent
 | []=>rfl
 | x::H=>by
  rw [zy40,show ent x=(.int .i64 x,[pb true]) from rfl,xfd,xad b H];by_cases e:b=x
  . subst e;simp [zux,mark,ent]
  . have:zux (.int .i64 b) (.int .i64 x)=false:=by simpa [zux] using e
    rw [this];unfold mark;by_cases e2:b∈H
    . simp [e,e2,ent]
    . simp [e,e2,ent]
theorem zoj (q:List zaj) (stream:Int) (hb:q.length<2 ^ 62):zan Tryz.prog 168 [qs q,i64 stream] zad (i64 (first q stream)) zad:=by
 refine zal mixed Tryz.func168 zz4 ?_;(conv=>whnf);refine ⟨{k:Nat // k<=q.length/\zca (fun m:zaj=>m.message.stream==stream) k (q.drop k)=first q stream},fun | ⟨k,_⟩=>hs 21 [(1,i64 stream),(7,qs q),(8,i64 q.length),(9,i64 k)] [],fun k=>q.length-k.1,⟨0,by simp [first]⟩,?_,?_⟩
 . exact (zbi [])
 rintro ⟨k,hk,hi⟩;(conv=>whnf);by_cases c:k<q.length
 . rw [zy21 c] at hi
   simp only [zca] at hi;refine sT ?_;refine zcb k rfl c (zw ?_);refine zah (fun h=>?_) (fun h=>?_)
   . conv=>whnf
     rw [zy1 h] at hi;rw [<- hi]
   . conv=>whnf
     rw [zy0 (by rw [h];decide)] at hi;refine sF ?_;exact ⟨⟨k+1,c,hi⟩,(zbi []),by dsimp only;omega⟩
 . rw [zy22 (by omega)] at hi
   refine sN ?_;rw [<- hi];rfl
theorem xlt (s:zho) (m:zaj) (bytes:Int) (zzk:Bool):(s.had.mapIdx fun k n=>if (k:Int)=m.message.stream then W (n+bytes) else n)=(had s m bytes zzk).had:=by
 unfold had;dsimp only;apply List.ext_getElem
 . split<;>simp
 . intro i h1 h2
   have hi:i<s.had.length:=by simpa using h1
   rw [List.getElem_mapIdx];split
   . rename_i e
     have hm:0<=m.message.stream/\m.message.stream<s.had.length:=by omega
     simp only [zy1 hm];rw [List.getElem_set];rw [zy1 (by omega),show m.message.stream.toNat=i by omega];simp [hi]
   . rename_i e
     by_cases hm:0<=m.message.stream/\m.message.stream<s.had.length
     . simp only [zy1 hm]
       rw [List.getElem_set,zy0 (by omega)]
     . simp only [zy0 hm]
abbrev xai (l:List Int):zai:=.live (.row 3 1 (l.map fun n=>[pi n]))
theorem xbm (s:zho) (m:zaj) (bytes:Int) (zzk:Bool) (hb:s.had.length<2 ^ 40):zan Tryz.prog 143 [s.hv,m.hv,i64 bytes,zbj zzk] zad (had s m bytes zzk).hv zad:=by
 refine zal mixed Tryz.func143 zz4 ?_;have hf:=xlt s m bytes zzk;generalize hT:had s m bytes zzk=T at hf;have h1:T.last=m.message.stream:=by rw [<- hT];rfl
 have h2:T.hand=if zzk then -1 else m.id:=by rw [<- hT];rfl
 obtain ⟨a1,a2,a3⟩:=T;dsimp only at h1 h2 hf;subst h1;rw [<- hf,h2];clear hT hf h2;cases zzk
 all_goals
  conv=>whnf
  repeat refine sG ?_
 . refine ⟨{x:List Int×List Int // s.had=x.1++x.2},fun | ⟨(a,b),_⟩=>hs 44 [(2,i64 bytes),(5,.ptr 5 0),(8,.ptr 8 0),(9,.ptr 9 0),(21,ints s.had),(22,i64 s.had.length),(23,i64 a.length)] [(5,.live (.cells 117 m.cells)),(8,.live (.cells 28 [i64 0,i64 0,zej])),(9,.live (.cells 28 [i64 m.message.stream,i64 m.id,.own 900])),(900,xai (a.mapIdx fun k n=>if (k:Int)=m.message.stream then W (n+bytes) else n))],fun x=>x.1.2.length,⟨([],s.had),rfl⟩,?_,?_⟩
   . exact (zbi [(5,some 5),(8,some 8),(9,some 9),(900,none)])
   exact yy11
 . refine ⟨{x:List Int×List Int // s.had=x.1++x.2},fun | ⟨(a,b),_⟩=>hs 44 [(2,i64 bytes),(5,.ptr 5 0),(8,.ptr 8 0),(9,.ptr 9 0),(21,ints s.had),(22,i64 s.had.length),(23,i64 a.length)] [(5,.live (.cells 117 m.cells)),(8,.live (.cells 28 [i64 0,i64 0,zej])),(9,.live (.cells 28 [i64 m.message.stream,i64 (-1),.own 900])),(900,xai (a.mapIdx fun k n=>if (k:Int)=m.message.stream then W (n+bytes) else n))],fun x=>x.1.2.length,⟨([],s.had),rfl⟩,?_,?_⟩
   . exact (zbi [(5,some 5),(8,some 8),(9,some 9),(900,none)])
   exact yy11
theorem yvb (turns:Int) (s:zho) (q:List zaj) (h9:s.had.length<2 ^ 36) (hb:q.length<2 ^ 60) (hl:0<s.had.length->0<=s.last/\s.last<s.had.length):zan Tryz.prog 142 [i64 turns,s.hv,qs q] zad (i64 (next turns s q)) zad:=by
 refine zal mixed Tryz.func142 zz4 ?_;have hb:q.length<2 ^ 62:=by omega
 have hl1:(s.had.map fun n=>[pi n]).length=s.had.length:=by simp
 (conv=>whnf);by_cases c1:(q.length:Int)=0
 . rw [next,zy1 c1]
   refine zac zz39 ?_;conv=>whnf
   repeat refine sG ?_
 rw [next,zy0 c1];refine zab zz39 (zw ?_);by_cases c2:(s.had.length:Int)=0
 . rw [zy1 c2]
   refine zac zz29 ?_;conv=>whnf
   repeat refine sG ?_
 rw [zy0 c2];obtain ⟨g1,g2⟩:=hl zz0;have hafter:=zzp (q:=q) (last:=s.last) (n:=s.had.length) g1 zz0 s.had.length 0 zz0;refine zab zz29 (zw ?_)
 repeat refine sG ?_
 by_cases c3:turns=2
 . subst c3
   rw [zy1 rfl];(conv=>whnf)
   repeat refine sG ?_
   refine ⟨{k:Nat // k<=q.length/\zca (fun m:zaj=>m.id==s.hand) k (q.drop k)=zne s q},fun | ⟨k,_⟩=>hs 127 [(0,i64 2),(2,qs q),(4,.ptr 4 0),(7,i64 s.had.length),(31,qs q),(32,i64 q.length),(33,i64 k)] [(4,.live (.cells 28 s.cells))],fun k=>q.length-k.1,⟨0,by simp [zne]⟩,?_,?_⟩
   . exact (zbi [(4,some 4)])
   rintro ⟨k,hk,hi⟩;refine zci fun Q hQ=>?_
   (conv=>whnf);by_cases c:k<q.length
   . rw [zy21 c] at hi
     simp only [zca] at hi;refine sT ?_;refine zcb k rfl c (zw ?_);refine zah (fun h=>?_) (fun h=>?_)
     . conv=>whnf
       rw [zy1 h] at hi;refine hQ _ _ ?_;conv=>whnf
       rw [zy1 (show zne s q>=0 by rw [<- hi];omega),<- hi]
     . conv=>whnf
       rw [zy0 (by rw [h];decide)] at hi
       (try refine sG ?_)
       refine sF ?_;refine hQ _ _ ?_;conv=>whnf
       exact ⟨⟨k+1,c,hi⟩,(zbi [(4,some 4)]),by dsimp only;omega⟩
   . rw [zy22 (by omega)] at hi
     refine sN ?_;refine hQ _ _ ?_;conv=>whnf
     rw [zy0 (show ¬ zne s q>=0 by rw [<- hi];simp [zca])];exact yy7
 rw [zy0 c3];refine zab zz89 (zw ?_)
 repeat refine sG ?_
 refine zab zz89 (zw ?_)
 repeat refine sG ?_
 by_cases c4:turns=3
 . subst c4
   rw [zy1 rfl];(conv=>whnf);exact yy7
 rw [zy0 c4];refine zab zz120 (zw ?_)
 repeat refine sG ?_
 by_cases c5:turns=4
 . subst c5
   rw [zy1 rfl,yjc];(conv=>whnf)
   repeat refine sG ?_
   refine ⟨{k:Nat // k<=s.had.length},fun | ⟨k,_⟩=>hs 127 [(2,qs q),(10,.own 900),(65,i64 s.had.length),(66,i64 k)] [(900,xai ((List.range' 0 k).map fun i:Nat=>(i:Int)))],fun k=>s.had.length-k.1,⟨0,by omega⟩,?_,?_⟩
   . exact (zbi [(900,none)])
   rintro ⟨k,hk⟩;refine zci fun Q hQ=>?_
   (conv=>whnf);by_cases c:k<s.had.length
   . refine sT ?_
     refine zaa (c:=((((List.range' 0 k).map fun i:Nat=>(i:Int)).map fun n=>[pi n]).length+1)*8<=140737488355328) zz3 (zw ?_)
     (try refine sG ?_)
     refine sF ?_;refine hQ _ _ ?_;conv=>whnf
     exact ⟨⟨k+1,c⟩,(zay [(900,some 72)] (by repeat' (first | exact z0 | refine z1 ?_ | refine ⟨?_,?_⟩ | ((exact zbb (f:=fun n=>[pi n]) (x:=(k:Int)) (by rw [List.range'_concat];simp) rfl)) | exact z2))),by dsimp only;omega⟩
   . refine sN ?_
     refine hQ _ _ ?_;conv=>whnf
     have hkk:k=s.had.length:=by omega
     subst hkk;obtain ⟨O,hO⟩:∃ O,O=((List.range' 0 s.had.length).map fun i:Nat=>(i:Int)):=⟨_,rfl⟩
     rw [<- hO];generalize hN:pick q O=N;have hOl:O.length=s.had.length:=by rw [hO];simp
     refine ⟨{x:List Int×List Int // (O)=x.1++x.2/\pick q x.2=N},fun | ⟨(a,b),_⟩=>hs 127 [(2,qs q),(114,.own 900),(115,i64 (O).length),(116,i64 a.length)] [(900,xai (O))],fun x=>x.1.2.length,⟨([],O),rfl,hN⟩,?_,?_⟩
     . exact (zay [(900,some 900)] zz40)
     exact yy9
 rw [zy0 c5];refine zab (by simpa using c5) (zw ?_)
 repeat refine sG ?_
 by_cases c6:turns=5
 . subst c6
   rw [zy1 rfl,<- ygo s.had.length [] (by simp) (by simpa using zy41 _ (List.range s.had.length)) (by simp)];(conv=>whnf)
   repeat refine sG ?_
   obtain ⟨O,hO⟩:∃ O,O=zsf s.had s.had.length []:=⟨_,rfl⟩
   rw [<- hO];generalize hN:pick q O=N;have hOl:O.length=s.had.length:=by rw [hO,ygm];simp
   refine ⟨{x:Nat×List Int // x.1<=s.had.length/\x.2.length=x.1/\zsf s.had (s.had.length-x.1) x.2=O},fun | ⟨(j,H),_⟩=>hs 127 [(2,qs q),(4,.ptr 4 0),(7,i64 s.had.length),(10,.own 900),(13,.mp 901),(77,i64 s.had.length),(78,i64 j)] [(4,.live (.cells 28 s.cells)),(900,xai H),(901,.live (.map 4 false ((keys H).map ent)))],fun x=>s.had.length-x.1.1,⟨(0,[]),by dsimp only;omega,rfl,by dsimp only;rw [hO];rfl⟩,?_,?_⟩
   . exact (zbi [(4,some 4),(900,none),(901,some 76)])
   rintro ⟨⟨j,H⟩,h1,h2,h3⟩;dsimp only at h1 h2 h3;refine zci fun Q0 hQ0=>?_
   (conv=>whnf);by_cases c:j<s.had.length
   . obtain ⟨d,hd⟩:∃ d,s.had.length-j=d+1:=⟨s.had.length-j-1,by omega⟩
     have hd2:s.had.length-(j+1)=d:=by omega
     rw [hd,zsf] at h3;refine sT ?_;refine ⟨{x:Nat×Int // x.1<=s.had.length/\(x.2<0\/x.2<x.1)/\am (fun k=>decide ((k:Int)∉H)) s.had x.2 x.1 (s.had.drop x.1)=ymt s.had H},fun | ⟨(k,b),_⟩=>hs 127 [(2,qs q),(4,.ptr 4 0),(7,i64 s.had.length),(10,.own 900),(13,.mp 901),(77,i64 s.had.length),(78,i64 j),(14,i64 b),(80,i64 s.had.length),(81,i64 k)] [(4,.live (.cells 28 s.cells)),(900,xai H),(901,.live (.map 4 false ((keys H).map ent)))],fun x=>s.had.length-x.1.1,⟨(0,-1),by dsimp only;omega,.inl zz83,rfl⟩,?_,?_⟩
     . exact (zbi [(4,some 4),(900,some 900),(901,some 901)])
     rintro ⟨⟨k,b⟩,g1,g2,g3⟩;dsimp only at g1 g2 g3;refine zci fun Q hQ=>?_
     (conv=>whnf);by_cases c7:k<s.had.length
     . rw [zy21 c7,am] at g3
       refine sT ?_;have hf:=yph (k:Int) (keys H);by_cases c8:(k:Int)∈H
       . rw [zy1 (mem_keys.2 c8)] at hf
         rw [zy0 (by simp [c8])] at g3;refine ⟨_,hf.symm,zw ?_⟩;refine sD ?_
         (try refine sG ?_)
         refine sF ?_;refine hQ _ _ ?_;conv=>whnf
         exact ⟨⟨(k+1,b),c7,by dsimp only;omega,g3⟩,(zbi [(4,some 4),(900,some 900),(901,some 901)]),by dsimp only;omega⟩
       . rw [zy0 (fun h=>c8 (mem_keys.1 h))] at hf
         refine ⟨_,hf.symm,zw ?_⟩;by_cases c9:b<0
         . rw [zy1 ⟨by simp [c8],.inl c9⟩] at g3
           refine zac (by simpa using c9) (zw ?_);refine sD ?_;exact yy106
         . obtain ⟨m,hbm⟩:∃ m:Nat,b=m:=⟨b.toNat,by omega⟩
           have hm:m<s.had.length:=by omega
           have hg:s.had[m]?.getD 0=s.had[m]:=by simp [hm]
           rw [show b.toNat=m by omega,hg] at g3;refine zab (by simpa using c9) (zw ?_);refine zcb k rfl c7 (zw ?_);refine zcb m hbm hm (zw ?_);refine sD ?_;by_cases c10:s.had[k]<s.had[m]
           . rw [zy1 ⟨by simp [c8],.inr c10⟩] at g3
             refine zac (by simpa using c10) (zw ?_);exact yy106
           . rw [zy0 (fun h=>h.2.elim c9 c10)] at g3
             refine zab (by simpa using c10) (zw ?_)
             (try refine sG ?_)
             refine sF ?_;refine hQ _ _ ?_;conv=>whnf
             exact ⟨⟨(k+1,b),c7,.inr zz83,g3⟩,(zbi [(4,some 4),(900,some 900),(901,some 901)]),by dsimp only;omega⟩
     . rw [zy22 (by omega),am] at g3
       subst g3;refine sN ?_;refine hQ _ _ ?_;conv=>whnf
       refine ⟨_,(xad _ _).symm,zw ?_⟩;refine zaa (c:=((H.map fun n=>[pi n]).length+1)*8<=140737488355328) zz3 (zw ?_)
       (try refine sG ?_)
       refine sF ?_;refine hQ0 _ _ (zw ?_);exact ⟨⟨(j+1,H++[ymt s.had H]),c,by simp [h2],by dsimp only;rw [hd2];exact h3⟩,(zay [(4,some 4),(900,some 112),(901,some 901)] (by repeat' (first | exact z0 | refine z1 ?_ | refine ⟨?_,?_⟩ | ((exact zbb (f:=fun n=>[pi n]) rfl rfl)) | ((simp [yyq])) | exact z2))),by dsimp only;omega⟩
   . have hjj:j=s.had.length:=by omega
     subst hjj;rw [zy91,zsf] at h3;refine sN ?_;refine hQ0 _ _ (zw ?_);refine ⟨{x:List Int×List Int // (O)=x.1++x.2/\pick q x.2=N},fun | ⟨(a,b),_⟩=>hs 127 [(2,qs q),(114,.own 900),(115,i64 (O).length),(116,i64 a.length)] [(900,xai (O))],fun x=>x.1.2.length,⟨([],O),rfl,hN⟩,?_,?_⟩
     . exact (zay [(900,some 900)] (by repeat' (first | exact z0 | refine z1 ?_ | refine ⟨?_,?_⟩ | ((exact zbl (by rw [<- h3];simp))) | ((exact zas (by rw [h3]))) | exact z2)))
     exact yy9
 rw [zy0 c6];refine zab (by simpa using c6) ?_;conv=>whnf
end Sch
namespace Sco
open Ser
end Sco
namespace Sco
open Ser
theorem ykj (l:List zbq) (path:Int) (hl:zfd l):zan Tryz.prog 46 [zec l,i64 path] zad (i64 (fl path l)) zad:=by
 obtain ⟨hl1,hl2⟩:=hl;refine zal mixed Tryz.func46 zz4 ?_;(conv=>whnf);refine ⟨{x:List zbq×List zbq // l=x.1++x.2},fun | ⟨(a,b),_⟩=>hs 31 [(1,i64 path),(5,i64 (fl path a)),(8,zec l),(9,i64 l.length),(10,i64 a.length)] [],fun x=>x.1.2.length,⟨([],l),rfl⟩,?_,?_⟩
 . exact (zbi [])
 rintro ⟨⟨a,b⟩,h⟩;dsimp only at h;cases b with
 | nil =>
  have hz:=zbp h;(conv=>whnf);refine sN ?_;rw [h,zy4]
 | cons s b =>
  have hz:=zbd h;have hf:=xcx path a;rw [h,zik,zhc] at hl2;have e1:=ypk path a [s];rw [zwo] at e1;(conv=>whnf);refine sT ?_
  (try refine sG ?_)
  refine zak h rfl (zw ?_);refine zah (fun c1=>?_) (fun c1=>?_)
  . conv=>whnf
    refine zah (fun c2=>?_) (fun c2=>?_)
    . conv=>whnf
      rw [zy1 ⟨by simpa using c2,by simpa using c1⟩] at e1;refine sF ?_;refine sF ?_;exact ⟨⟨(a++[s],b),zag h⟩,(zay [] zz20),by simp⟩
    . conv=>whnf
      rw [zy0 (by rintro ⟨h1,h2⟩;simp [h1] at c2)] at e1;refine sF ?_;exact ⟨⟨(a++[s],b),zag h⟩,(zay [] zz20),by simp⟩
  . conv=>whnf
    rw [zy0 (by rintro ⟨h1,h2⟩;simp [h2] at c1)] at e1;refine sF ?_;exact ⟨⟨(a++[s],b),zag h⟩,(zay [] zz20),by simp⟩
theorem yvc (l:List zbq) (cum:Int) (c:Chunk) (paths:Int) (hl:zfd l) (hr:ykz l cum paths) (hsp:c.zar.length<2 ^ 60) :
 zan Tryz.prog 84 [zec l,i64 cum,c.hv,i64 paths] zad (.tup [zec (zgj l cum c paths).1,i64 (zgj l cum c paths).2.1,ints (zgj l cum c paths).2.2.1,ints (zgj l cum c paths).2.2.2]) zad:=by
 have hl1:=hl.len;have hp0:=hr.p0;have hp1:=hr.p1;have hc0:=hr.c0;have hc1:=hr.c1;refine zal mixed Tryz.func84 zz4 ?_;have hn:=zin (a:=cum) (t:=c.tag) zz0 zz0;rw [zgj];have hsr:=zlm cum c.tag zz0 zz0;generalize hN:zcy cum c.tag=n at hn hsr ⊢;have e21:zai.live (.row 3 1 (List.replicate paths.toNat [pi 0]))=ydj (List.replicate paths.toNat 0):=by
  rw [ydj,zy83]
 (conv=>whnf);refine zaa (c:=0<=paths/\paths=paths/\paths*8<=140737488355328) zz0 ?_;(conv=>whnf)
 (refine cL ?_;refine dL hsr ?_)
 by_cases k1:n<cum\/n>cum+l.length
 . rw [zy1 k1]
   by_cases k2:n<cum
   . refine sT ?_
     exact yy101
   . refine sN ?_
     refine zao (z:=cum+((l.map zbq.row).length:Int)) (zbs zz6 zz6) (zw ?_);refine sT ?_;exact yy101
 . rw [zy0 k1]
   refine sN ?_;refine zao (z:=cum+((l.map zbq.row).length:Int)) (zbs zz6 zz6) (zw ?_);refine sN ?_;refine ⟨{x:List zbq×List zbq×List zbq×List Int×Int // SI l c n paths.toNat cum x},fun | ⟨(a,b,out,zga,high),_⟩=>hs 136 [(1,i64 cum),(6,.ptr 6 0),(12,.own 900),(13,i64 n),(14,.own 901),(15,i64 high),(43,zec l),(44,i64 l.length),(45,i64 a.length)] [(6,.live (.cells 61 c.cells)),(900,ydj zga),(901,zjt out)],fun x=>x.1.2.1.length,⟨([],l,[],List.replicate paths.toNat 0,0),rfl,rfl,rfl,rfl,zy74 _,by dsimp only;simp;omega⟩,?_,?_⟩
   . exact (zay [(6,some 6),(900,some 24),(901,none)] (by repeat' (first | exact z0 | refine z1 ?_ | refine ⟨?_,?_⟩ | (exact e21) | exact z2)))
   rintro ⟨⟨a,b,out,zga,high⟩,hi⟩;have h:=hi.split;dsimp only at h;cases b with
   | nil =>
    have hz:=zbp h;obtain ⟨h1,h2,h3,h4,h5,h6⟩:=hi;dsimp only at h1 h2 h3 h4 h5 h6;rw [zy4] at h1;subst h1;rw [<- h3,<- h4,<- h2];have hlen:out.length<=l.length:=by rw [h2,left,zy3];exact zy41 _ _
    (conv=>whnf);refine sN ?_;refine ⟨{x:List zbq×List zbq // out=x.1++x.2},fun | ⟨(a,b),_⟩=>hs 136 [(12,.own 900),(13,i64 n),(15,i64 high),(19,.own 902),(20,.own 903),(99,.own 901),(100,i64 out.length),(101,i64 a.length)] [(900,ydj zga),(901,zjt out),(902,zjt (a.map (age high))),(903,ydj (lost high a))],fun x=>x.1.2.length,⟨([],out),rfl⟩,?_,?_⟩
    . exact (zbi [(900,some 900),(901,some 901),(902,none),(903,none)])
    rintro ⟨⟨a,b⟩,h⟩;dsimp only at h;cases b with
    | nil =>
     have hz:=zbp h;rw [zy4] at h;subst h;(conv=>whnf)
     ((refine yxw ?_;conv=>whnf);try refine sG ?_)
     try rfl
    | cons s b =>
     have hz:=zbd h;have ea:(a++[s]).map (age high)=a.map (age high)++[age high s]:=by simp
     have el:lost high (a++[s])=lost high a++lost high [s]:=by simp [lost]
     have hln:(lost high a).length<=a.length:=by rw [lost,zy3];exact zy41 _ _
     (conv=>whnf);refine sT ?_;refine sO ?_;refine zak h rfl (zw ?_)
     (try refine sG ?_)
     by_cases c1:s.state=1
     . refine sT ?_
       by_cases c2:s.number<high
       . refine sT ?_
         refine sR ?_;by_cases c3:W (s.missed+1)>=3
         . have e1:age high s={s with missed:=W (s.missed+1),state:=3}:=by rw [age,zy1 ⟨c1,c2⟩,zy1 c3]
           have e2:lost high [s]=[s.number]:=by simp [lost,c1,c2,c3]
           refine sT ?_;refine zaa (c:=(((lost high a).map fun n=>[pi n]).length+1)*8<=140737488355328) zz6 (zw ?_);refine zaa (c:=(((a.map (age high)).map zbq.row).length+1)*200<=140737488355328) om (zw ?_);refine sF ?_;exact ⟨⟨(a++[s],b),zag h⟩,(zay [(900,some 900),(901,some 901),(902,some 130),(903,some 126)] (by repeat' (first | exact z0 | refine z1 ?_ | refine ⟨?_,?_⟩ | ((refine zbb (f:=zbq.row) ea ?_;rw [e1];rfl)) | ((rw [el,e2];exact (zen (f:=fun n=>[pi n]) rfl).symm)) | exact z2))),by simp⟩
         . have e1:age high s={s with missed:=W (s.missed+1)}:=by rw [age,zy1 ⟨c1,c2⟩,zy0 c3]
           have e2:lost high [s]=[]:=by simp [lost,c1,c2,c3]
           exact yy36
       . have e1:age high s=s:=by rw [age,zy0 fun h=>c2 h.2]
         have e2:lost high [s]=[]:=by simp [lost,c2]
         exact yy36
     . have e1:age high s=s:=by rw [age,zy0 fun h=>c1 h.1]
       have e2:lost high [s]=[]:=by simp [lost,c1]
       exact yy36
   | cons s b =>
    have hz:=zbd h;obtain ⟨hnum,hpa0,hpa1⟩:=hr.at h;have hnx:=hi.next hnum hc0;have hhi:=hi.h1;have hh0:=hi.h0;have hcl:=hi.zga;have hol:out.length<=a.length:=by have:=hi.out;dsimp only at this;rw [this,left,zy3];exact zy41 _ _
    dsimp only at hhi hh0 hcl;have hcl:zga.length=paths.toNat:=by rw [hcl,znv]
    have hby:=hl.bytes;rw [h,zik,zhc] at hby;have eA:zai.live (.row 3 1 ((zga.map fun n=>[pi n]).set s.path.toNat [pi (W (zga[s.path.toNat]'zz0+((s.chunk.data.map zcs).length:Int)))]))=ydj (yca zga s.path s.chunk.data.length):=by
     rw [yca,ydj,zy72,zy2 (by omega),zy126,zy3]
    (conv=>whnf);refine sT ?_;refine zak h rfl (zw ?_);by_cases g:s.number<=n
    . have hk:here c n s=true:=by rw [here];simp [g]
      refine sT ?_;by_cases q:s.state=1\/s.state=3
      . have hcm:comes c n s=true:=by rw [comes,hk,zy104];rcases q with q | q<;>rw [q]<;>rfl
        rw [zy0 (by omega),zpb,zy1 hcm,zpg,zy1 hcm,zy4] at hnx;by_cases q1:s.state=1
        . refine sT ?_
          exact yy78
        . refine sN ?_
          refine sT ?_;exact yy78
      . have hcm:comes c n s=false:=by
         rw [comes,hk,zy104];simp only [not_or] at q;simp [q.1,q.2]
        rw [zy0 (by omega),zpb,zy0 (by rw [hcm];decide),zpg,zy0 zz96,zy4] at hnx;have q1:s.state≠1:=fun h=>q (.inl h)
        have q2:s.state≠3:=fun h=>q (.inr h)
        refine sN ?_;refine sN ?_;refine sN ?_;refine sF ?_;exact ⟨⟨_,hnx⟩,(zay [(6,some 6),(900,some 900),(901,some 901)] zz14),by simp⟩
    . refine sN ?_
      refine sR ?_
      (refine cL ?_;refine dL (ynk c.zar _ zz0) ?_)
      by_cases hh:has c.zar (W (s.number-n))=true
      . have hk:here c n s=true:=by rw [here,hh];simp
        refine zac hh (zw ?_)
        (try refine sG ?_)
        by_cases q:s.state=1\/s.state=3
        . have hcm:comes c n s=true:=by rw [comes,hk,zy104];rcases q with q | q<;>rw [q]<;>rfl
          rw [zy1 (by omega),zpb,zy1 hcm,zpg,zy1 hcm,zbh,zy1 hcm] at hnx;by_cases q1:s.state=1
          . refine sT ?_
            refine sO ?_;refine zcb s.path.toNat zz0 zz0 (zw ?_);refine sR ?_;refine sO ?_;refine zcb s.path.toNat zz0 zz0 (zw ?_);refine sD ?_;exact yy44
          . refine sN ?_
            refine sT ?_;refine sO ?_;refine zcb s.path.toNat zz0 zz0 (zw ?_);refine sR ?_;refine sO ?_;refine zcb s.path.toNat zz0 zz0 (zw ?_);refine sD ?_;exact yy44
        . have hcm:comes c n s=false:=by
           rw [comes,hk,zy104];simp only [not_or] at q;simp [q.1,q.2]
          rw [zy1 (by omega),zpb,zy0 (by rw [hcm];decide),zpg,zy0 zz96,zbh,zy0 zz96] at hnx;have q1:s.state≠1:=fun h=>q (.inl h)
          have q2:s.state≠3:=fun h=>q (.inr h)
          refine sN ?_;refine sN ?_;exact yy44
      . have hk:here c n s=false:=by rw [here];simp [hh];omega
        have hcm:comes c n s=false:=by rw [comes,hk];rfl
        rw [zy1 (by omega),zpb,zy0 (by rw [hcm];decide),zpg,zy0 zz96,zbh,zy0 zz96] at hnx;refine zab (by simpa using hh) (zw ?_)
        (try refine sG ?_)
        refine sT ?_;refine zaa (c:=((out.map zbq.row).length+1)*200<=140737488355328) om (zw ?_);refine sF ?_;exact ⟨⟨_,hnx⟩,(zay [(6,some 6),(900,some 900),(901,some 97)] zz82),by simp⟩
end Sco
namespace Sco
open Ser
def zfk (c:Chunk) (k at':Nat):List zdv->Nat
 | []=>at'
 | s::r=>zfk c (k+1) (if zdh c s then k else at') r
def ybc (a b:zdv):Prop:=a.stream=b.stream/\a.ordered=b.ordered/\(a.ordered=true\/a.mid=b.mid)
def U (l:List zdv):Prop:=l.Pairwise fun a b=>¬ ybc a b
theorem zhf {c:Chunk} {s:zdv}:zdh c s=true↔s.stream=c.stream/\s.ordered=c.ordered/\(c.ordered=true\/s.mid=c.mid):=by
 simp only [zdh,zy16,zy17,zy79,and_assoc]
theorem xjv {c:Chunk} {s t:zdv} (h:zdh c s=true) (k:zdh c t=true):ybc s t:=by
 obtain ⟨h1,h2,h3⟩:=zhf.1 h;obtain ⟨k1,k2,k3⟩:=zhf.1 k;refine ⟨h1.trans k1.symm,h2.trans k2.symm,?_⟩;rcases h3 with h3 | h3
 . exact .inl (h2.trans h3)
 . rcases k3 with k3 | k3
   . exact .inl (h2.trans k3)
   . exact .inr (h3.trans k3.symm)
theorem zqu {c:Chunk}:∀ {l:List zdv} {k a:Nat},(∀ s∈l,zdh c s=false)->zfk c k a l=a
 | [],_,_,_=>rfl
 | s::r,k,a,h=>by
  rw [zfk,zy0 (by rw [h s (by simp)];decide)];exact zqu fun x hx=>h x zz52
theorem yqj {c:Chunk}:∀ {a b:List zdv} {k z:Nat},zfk c k z (a++b)=zfk c (k+a.length) (zfk c k z a) b
 | [],b,k,z=>rfl
 | s::r,b,k,z=>by
  rw [zy44,zfk,yqj,zfk];congr 1;simp;omega
theorem yxc {c:Chunk} {l:List zdv} (hu:U l):(zfk c 0 l.length l=l.length/\skip c l=l++[⟨c.stream,c.mid,c.ordered⟩]/\U (skip c l)) \/
 ∃ a s b,l=a++s::b/\zfk c 0 l.length l=a.length/\skip c l=a++⟨c.stream,c.mid,c.ordered⟩::b/\U (skip c l):=by
 by_cases hn:∀ s∈l,zdh c s=false
 . left
   have h1:=znj hn [];rw [zy4] at h1;have h2:skip c l=l++[⟨c.stream,c.mid,c.ordered⟩]:=h1;refine ⟨zqu hn,h2,?_⟩;rw [h2];refine zy84.2 ⟨hu,List.pairwise_singleton _ _,fun x hx y hy=>?_⟩;rw [zy11.1 hy];rintro ⟨e1,e2,e3⟩;have:=hn x hx;have h4:zdh c x=true:=zhf.2 ⟨e1,e2,by rcases e3 with e3 | e3;exact .inl (e2.symm.trans e3);exact .inr e3⟩;rw [h4] at this;cases this
 . right
   obtain ⟨s0,hs0,hm0⟩:∃ s∈l,zdh c s=true:=by
    apply Classical.byContradiction;intro hc;exact hn fun s hs=>by
     cases hm:zdh c s with
     | false=>rfl
     | true=>exact absurd ⟨s,hs,hm⟩ hc
   have gen:∀ l:List zdv,(∃ s∈l,zdh c s=true)->∃ a s b,l=a++s::b/\zdh c s=true/\∀ x∈a,zdh c x=false:=by
    intro l
    induction l with
    | nil=>rintro ⟨s,hs,_⟩;simp at hs
    | cons x r ih =>
     rintro ⟨s,hs,hm⟩;cases hx:zdh c x with
     | true=>exact ⟨[],x,r,rfl,hx,by simp⟩
     | false =>
      have:∃ s∈r,zdh c s=true:=by
       rcases zy18.1 hs with rfl | hs
       . rw [hx] at hm;cases hm
       . exact ⟨s,hs,hm⟩
      obtain ⟨a,t,b,h1,h2,h3⟩:=ih this;refine ⟨x::a,t,b,by rw [h1];rfl,h2,fun y hy=>?_⟩;rcases zy18.1 hy with rfl | hy
      . exact hx
      . exact h3 y hy
   obtain ⟨a,s,b,rfl,hm,ha⟩:=gen l ⟨s0,hs0,hm0⟩;obtain ⟨u1,u2,u3⟩:=zy84.1 hu;obtain ⟨u4,u5⟩:=zy110.1 u2;have hb:∀ x∈b,zdh c x=false:=by
    intro x hx;cases hxm:zdh c x with
    | false=>rfl
    | true=>exact absurd (xjv hm hxm) (u4 x hx)
   obtain ⟨m1,m2,m3⟩:=zhf.1 hm;have h2:skip c (a++s::b)=a++⟨c.stream,c.mid,c.ordered⟩::b:=by
    rw [znj ha,skip,zy1 hm,m1,m2]
   have tr:∀ x:zdv,ybc ⟨c.stream,c.mid,c.ordered⟩ x->ybc s x:=by
    rintro x ⟨e1,e2,e3⟩;refine ⟨m1.trans e1,m2.trans e2,?_⟩;rcases e3 with e3 | e3
    . exact .inl (m2.trans e3)
    . rcases m3 with m3 | m3
      . exact .inl (m2.trans m3)
      . exact .inr (m3.trans e3)
   have sy:∀ x y:zdv,ybc x y->ybc y x:=fun x y ⟨e1,e2,e3⟩=>⟨e1.symm,e2.symm,by rcases e3 with e3 | e3;exact .inl (e2.symm.trans e3);exact .inr e3.symm⟩
   refine ⟨a,s,b,rfl,?_,h2,?_⟩
   . rw [yqj,zqu ha,zfk,zy1 hm,zqu hb];omega
   . rw [h2]
     refine zy84.2 ⟨u1,zy110.2 ⟨fun x hx h=>u4 x hx (tr x h),u5⟩,fun x hx y hy=>?_⟩;rcases zy18.1 hy with rfl | hy
     . intro h;exact u3 x hx s zz5 (sy _ _ (tr _ (sy _ _ h)))
     . exact u3 x hx y zz108
theorem zmd (l:List zbq) (cum:Int) (hl:l.length<2 ^ 38):zan Tryz.prog 89 [zec l,i64 cum] zad (.tup [i64 (zea l cum).1,zbm (zea l cum).2]) zad:=by
 refine zal mixed Tryz.func89 zz4 ?_;generalize hR:zea l cum=R;(conv=>whnf);refine ⟨{x:List zbq×List zbq×Int×List zdv // l=x.1++x.2.1/\x.2.2.2.length<=8/\zde x.2.2.1 x.2.2.2 x.2.1=R/\U x.2.2.2},fun | ⟨(a,b,z,sk),_⟩=>hs 107 [(1,i64 z),(6,.own 900),(14,zec l),(15,i64 l.length),(16,i64 a.length)] [(900,yjr sk)],fun x=>x.1.2.1.length,⟨([],l,cum,[]),rfl,by simp,hR,List.Pairwise.nil⟩,?_,?_⟩
 . exact (zbi [(900,none)])
 rintro ⟨⟨a,b,z,sk⟩,h,hsk,hi,hu⟩;dsimp only at h hsk hi hu;cases b with
 | nil =>
  have hz:=zbp h;simp only [zde] at hi;subst hi;(conv=>whnf)
  ((refine yxw ?_;conv=>whnf);try refine sG ?_)
  try rfl
 | cons s b =>
  have hz:=zbd h;simp only [zde] at hi;have fs:=yxc (c:=s.chunk) hu;have sl:=yeh s.chunk sk;(conv=>whnf);refine sT ?_;refine zak h rfl (zw ?_);by_cases c2:s.state=4
  . refine sN ?_
    refine sR ?_;by_cases c1:s.number=W (z+1)
    . rw [zy0 (by rintro (h1 | h1);exact h1 c1;exact h1.1 c2),zy1 c2] at hi
      refine sN ?_;refine sT ?_;generalize hA:zfk s.chunk 0 sk.length sk=A at fs;refine ⟨{x:List zdv×List zdv×Nat // sk=x.1++x.2.1/\zfk s.chunk x.1.length x.2.2 x.2.1=A},fun | ⟨(c,d,t),_⟩=>hs 107 [(1,i64 z),(6,.own 900),(9,.ptr 9 0),(10,i64 t),(14,zec l),(15,i64 l.length),(16,i64 a.length),(44,.own 900),(45,i64 sk.length),(46,i64 c.length)] [(9,.live (.cells 61 s.chunk.cells)),(900,yjr sk)],fun x=>x.1.2.1.length,⟨([],sk,sk.length),rfl,hA⟩,?_,?_⟩
      . exact (zbi [(9,some 9),(900,some 900)])
      rintro ⟨⟨c,d,t⟩,hcd,hlast⟩;dsimp only at hcd hlast;cases d with
      | nil =>
       have hz2:=zbp hcd;simp only [zfk] at hlast;subst hlast;(conv=>whnf);refine sN ?_;rcases fs with ⟨f1,f2,f3⟩ | ⟨p,y,q,f0,f1,f2,f3⟩
       . have f4:(skip s.chunk sk).length=sk.length+1:=by rw [f2];simp
         by_cases c8:sk.length=8
         . rw [zy1 (by omega)] at hi
           subst hi
           ((refine ytj ?_;conv=>whnf);try refine sG ?_)
           try rfl
         . rw [zy0 (by omega)] at hi
           refine sN ?_;refine zaa (c:=(([]:List (List PV)).length+(sk.map zdv.row).length)*24<=140737488355328) om (zw ?_)
           (try refine sG ?_)
           refine sT ?_;refine zaa (c:=((([]:List (List PV))++sk.map zdv.row).length+1)*24<=140737488355328) zz3 (zw ?_);refine sO ?_;refine zcf (r:=[pi 0,pi 0,pb false]) ?_ ?_ ?_
           . omega
           . rw [f1]
             show ([]++sk.map zdv.row++[[pi 0,pi 0,pb false]])[_]?=_;rw [zy66,zy37 (by simp)];simp
           (conv=>whnf);have e1:zai.live (.row 180 3 ((sk.map zdv.row++[[pi 0,pi 0,pb false]]).set t [pi s.chunk.stream,pi s.chunk.mid,pb s.chunk.ordered]))=yjr (skip s.chunk sk):=by
            rw [f2,f1];have:=(zel (t:=180) (n:=3) (f:=zdv.row) (a:=sk) (b:=[]) (x:=⟨0,0,false⟩) (y:=⟨s.chunk.stream,s.chunk.mid,s.chunk.ordered⟩) (k:=sk.length) (r:=[pi s.chunk.stream,pi s.chunk.mid,pb s.chunk.ordered]) rfl rfl).symm;rw [zy39] at this;exact this
           refine sR ?_;refine sF ?_;exact ⟨⟨(a++[s],b,W (z+1),skip s.chunk sk),zag h,by dsimp only;omega,by rw [<- c1];exact hi,f3⟩,(zay [(900,some 90)] zz105),by simp⟩
       . have f4:(skip s.chunk sk).length=sk.length:=by rw [f2,f0];simp
         have f5:sk.length=p.length+q.length+1:=by rw [f0];simp;omega
         rw [zy0 (by omega)] at hi;refine sN ?_;refine zaa (c:=(([]:List (List PV)).length+(sk.map zdv.row).length)*24<=140737488355328) om (zw ?_)
         (try refine sG ?_)
         refine sN ?_;refine sO ?_;refine zak (f:=zdv.row) (l:=sk) (a:=p) (b:=q) (s:=y) f0 (by rw [f1];simp) (zw ?_);have e1:zai.live (.row 180 3 ((sk.map zdv.row).set t [pi s.chunk.stream,pi s.chunk.mid,pb s.chunk.ordered]))=yjr (skip s.chunk sk):=by
          rw [f2,f0,f1];exact (zel (f:=zdv.row) (a:=p) (b:=q) (x:=y) (y:=⟨s.chunk.stream,s.chunk.mid,s.chunk.ordered⟩) rfl rfl).symm
         refine sR ?_;refine sF ?_;exact ⟨⟨(a++[s],b,W (z+1),skip s.chunk sk),zag h,by dsimp only;omega,by rw [<- c1];exact hi,f3⟩,(zay [(900,some 82)] zz105),by simp⟩
      | cons x d =>
       have hz2:=zbd hcd;simp only [zfk] at hlast;(conv=>whnf);refine sT ?_;refine sO ?_;refine zak hcd rfl (zw ?_);refine zah (fun k1=>?_) (fun k1=>?_)
       . conv=>whnf
         refine zah (fun k2=>?_) (fun k2=>?_)
         . conv=>whnf
           have e2:x.ordered=s.chunk.ordered:=by simpa using k2
           refine zah (fun k3=>?_) (fun k3=>?_)
           . have hm:zdh s.chunk x=true:=zhf.2 ⟨by simpa using k1,e2,.inl (by rw [<- e2];exact k3)⟩
             exact yy118
           . conv=>whnf
             refine zah (fun k4=>?_) (fun k4=>?_)
             . have hm:zdh s.chunk x=true:=zhf.2 ⟨by simpa using k1,e2,.inr (by simpa using k4)⟩
               exact yy118
             . have hm:¬ zdh s.chunk x=true:=by
                intro h;obtain ⟨_,_,h3⟩:=zhf.1 h;rcases h3 with h3 | h3
                . rw [e2,h3] at k3;cases k3
                . simp [h3] at k4
               exact yy63
         . have hm:¬ zdh s.chunk x=true:=by
            intro h;obtain ⟨_,h3,_⟩:=zhf.1 h;simp [h3] at k2
           exact yy63
       . have hm:¬ zdh s.chunk x=true:=by
          intro h;obtain ⟨h3,_,_⟩:=zhf.1 h;simp [h3] at k1
         exact yy63
    . rw [zy1 (.inl c1)] at hi
      subst hi
      ((refine ytj ?_;conv=>whnf);try refine sG ?_)
      try rfl
  . refine sT ?_
    by_cases c3:s.state=2
    . refine sN ?_
      refine sR ?_;by_cases c1:s.number=W (z+1)
      . rw [zy0 (by rintro (h1 | h1);exact h1 c1;exact h1.2 c3),zy0 c2] at hi
        refine sN ?_;refine sN ?_;refine sR ?_;refine sF ?_;exact ⟨⟨(a++[s],b,W (z+1),sk),zag h,hsk,by rw [<- c1];exact hi,hu⟩,(zbi [(900,some 900)]),by simp⟩
      . rw [zy1 (.inl c1)] at hi
        subst hi
        ((refine ytj ?_;conv=>whnf);try refine sG ?_)
        try rfl
    . rw [zy1 (.inr ⟨c2,c3⟩)] at hi
      subst hi
      ((refine ytj ?_;conv=>whnf);try refine sG ?_)
      try rfl
end Sco
namespace Snd
open Ser
abbrev scS (s:zae):zai:=.live (.cells 32 (yek s (Sch.qs s.queue) (ints s.sched.had) (Sco.zec s.out) (zpx s.paths) (ints s.mids) (ints s.fates)))
abbrev sc0:zai:=.live (.cells 32 yoa)
theorem zox (s:zae) (ho:Sco.zfd s.out) (hp:s.paths.length<2 ^ 22) :
 zan Tryz.prog 86 [s.hv] zad (.agg (yek (zcm s) (Sch.qs (zcm s).queue) (ints (zcm s).sched.had) (Sco.zec (zcm s).out) (.own 0) (ints (zcm s).mids) (ints (zcm s).fates))) (lk .free [(0,xcj (zcm s).paths)]):=by
 show zan Tryz.prog 86 [s.hv] zad (.agg (yek s (Sch.qs s.queue) (ints s.sched.had) (Sco.zec s.out) (.own 0) (ints s.mids) (ints s.fates))) (lk .free [(0,xcj (zcm s).paths)]);have hF:(zcm s).paths=s.paths.mapIdx fun i p=>flP s.out i p:=rfl
 generalize (zcm s).paths=F at hF ⊢;refine zaq mixed Tryz.func86 zz4 [] (fun _=>.inl rfl) ?_;(conv=>whnf);refine ⟨{x:List Path×List Path // s.paths=x.1++x.2},fun | ⟨(A,B),_⟩=>hs 27 [(1,.ptr 1 0),(2,.ptr 2 0),(3,.own 900),(7,zpx s.paths),(8,i64 s.paths.length),(9,i64 A.length)] [(1,scS s),(2,sc0),(900,xcj (A.mapIdx fun i p=>flP s.out i p))],fun x=>x.1.2.length,⟨([],s.paths),rfl⟩,?_,?_⟩
 . exact (zbi [(1,some 1),(2,some 2),(900,none)])
 rintro ⟨⟨A,B⟩,h⟩;dsimp only at h;(conv=>whnf);cases B with
 | cons p B =>
  have hz:=zbd h;refine sT ?_;refine zak h rfl (zw ?_)
  (refine cL ?_;refine dL (Sco.ykj s.out A.length ho) ?_)
  refine zaa (c:=(((A.mapIdx fun i p=>flP s.out i p).map Path.row).length+1)*56<=140737488355328) zz3 (zw ?_);refine sF ?_;refine ⟨⟨(A++[p],B),zag h⟩,(zay [(1,some 1),(2,some 2),(900,some 22)] (by repeat' (first | exact z0 | refine z1 ?_ | refine ⟨?_,?_⟩ | ((exact zbb (f:=Path.row) zy109 rfl)) | exact z2))),by simp⟩
 | nil =>
  have hz:=zbp h;rw [zy4] at h;refine sN ?_;refine zap [(0,some 900)] rfl rfl trivial rfl rfl ⟨⟨rfl,.inl ⟨900,rfl,?_⟩⟩,trivial⟩;exact zas (by rw [hF,h])
theorem yex (s:zae) (ho:Sco.zfd s.out) (hp:s.paths.length<2 ^ 22):zan Tryz.prog 86 [s.hv] zad (zcm s).hv zad:=by
 refine zco Tryz.func86 (zox s ho hp) ?_;(conv=>whnf)
 rfl
theorem zpd {N:Nat} {p:zep} {i path:Nat} {x:zbq} {w:Path} (hS:SI N (fly p i path).s) (hx:p.s.out[i]?=some x) (hw:p.s.paths[path]?=some w) :
 zcm {p.s with out:=p.s.out.set i (zry x path)}=(fly p i path).s:=by
 have hF:=hS.zaz;have e:(fly p i path).s={p.s with out:=p.s.out.set i (zry x path),paths:=p.s.paths.set path {w with zaz:=W (w.zaz+x.chunk.data.length)}}:=by
  simp only [fly,hx,setAt,hw]
 rw [e] at hF ⊢;dsimp only at hF;have hl:=(zy8.1 hw).1;unfold zcm;dsimp only;congr 1;apply zy87;intro j;rw [zy77];by_cases hj:j=path
 . subst hj
   have h2:=hF j {w with zaz:=W (w.zaz+x.chunk.data.length)} (zy23 hl);rw [zy23 hl,hw];dsimp only at h2;show some (flP _ j w)=_;unfold flP;rw [h2]
 . rw [zy50 (Ne.symm hj)]
   cases hp:p.s.paths[j]? with
   | none=>rfl
   | some a =>
    have h2:=hF j a (by rw [zy50 (Ne.symm hj)];exact hp);show some (flP _ j a)=_;unfold flP;rw [<- h2]
theorem zju (s:zae) (ho:Sco.zfd s.out) (hp:s.paths.length<2 ^ 22) {rows:List (List PV)} (hr:rows=s.out.map zbq.row) :
 zan Tryz.prog 86 [.agg (yek s (Sch.qs s.queue) (ints s.sched.had) (.p (.sl 20 rows)) (zpx s.paths) (ints s.mids) (ints s.fates))] zad (zcm s).hv zad:=by
 subst hr;exact yex s ho hp
end Snd
namespace Snd
open Ser
theorem ygf {id:Int} {s:zae} {m:zaj} (h:¬ (m.id=id/\m.parts>0)):zes id s m=s:=zy0 h
theorem xhx {id:Int} {s:zae} {m:zaj} (h:m.id=id/\m.parts>0):zes id s m={s with out:=s.out++[zie s.next m],next:=W (s.next+1)}:=zy1 h
abbrev rgC (s u:zae) (_:Nat) (q o:HV):zai:=.live (.cells 32 (yek {s with next:=u.next} q (ints s.sched.had) o (zpx s.paths) (ints s.mids) (.own 901)))
theorem ybn {N:Nat} (s:zae) (id:Nat) (hS:SI N s) (hid:id<s.fates.length):zan Tryz.prog 99 [s.hv,i64 id] zad (zeu s id).hv zad:=by
 have hg:=(zwt hS hid).fit;obtain ⟨h1,h2,h3,h4,h5,h6,h7⟩:=hS.fit;have ho1:=h3.len;have hgo:=zqm s id;have hk:=znx id s.queue {s with fates:=s.fates.set id 3};have hso:=(ycn id s.queue {s with fates:=s.fates.set id 3}).1;generalize hU:s.queue.foldl (zes id) {s with fates:=s.fates.set id 3}=U at hk hso;have hG:(zcm {U with queue:=s.queue.filter fun m=>decide (m.id≠(id:Int)),sched:=if s.sched.hand=id then {s.sched with hand:=-1} else s.sched,out:=U.out.map (Sco.zgk id),forward:=true})=zeu s id:=by rw [<- hU];rfl
 rw [hU] at hgo;generalize zeu s id=G at hG hg hgo ⊢;obtain ⟨f0,hf0⟩:∃ f0,s.fates[id]?=some f0:=⟨_,zy2 hid⟩
 refine zal mixed Tryz.func99 zz4 ?_;(conv=>whnf);refine zaa (c:=(([]:List (List PV)).length+(s.fates.map fun n=>[pi n]).length)*8<=140737488355328) zz3 (zw ?_);refine sOm ?_;refine zam (l:=s.fates) hf0 rfl (zw ?_);refine zaa (c:=(([]:List (List PV)).length+(s.out.map zbq.row).length)*200<=140737488355328) zz3 (zw ?_);refine ⟨{x:(List zaj×List zaj)×zae // s.queue=x.1.1++x.1.2/\x.1.1.foldl (zes id) {s with fates:=s.fates.set id 3}=x.2/\x.2.out.length<=s.out.length+x.1.1.length},
  fun | ⟨((A,B),u),_⟩=>hs 108 [(1,i64 id),(2,.ptr 2 0),(4,.ptr 4 0),(6,.own 900),(7,.own 902),(25,Sch.qs s.queue),(26,i64 s.queue.length),(27,i64 A.length)] [(2,rgC s u id (Sch.qs s.queue) (Sco.zec s.out)),(4,sc0),(900,xgz (A.filter fun m=>decide (m.id≠(id:Int)))),(901,zzb (s.fates.set id 3)),(902,xku u.out)],fun x=>x.1.1.2.length,⟨(([],s.queue),{s with fates:=s.fates.set id 3}),rfl,rfl,by simp⟩,?_,?_⟩
 . exact (zay [(2,some 2),(4,some 4),(900,none),(901,some 14),(902,some 23)] (by repeat' (first | exact z0 | refine z1 ?_ | refine ⟨?_,?_⟩ | ((exact zas (by simp [zy72]))) | exact z2)))
 rintro ⟨⟨⟨A,B⟩,u⟩,h,hu,hl⟩;dsimp only at h hu hl;have hql:s.queue.length=A.length+B.length:=by rw [h];simp
 (conv=>whnf);cases B with
 | cons m B =>
  have hz:=zbd h;have hun:(A++[m]).foldl (zes id) {s with fates:=s.fates.set id 3}=zes id u m:=by rw [zy68,hu];rfl
  have hAl:(A++[m]).length=A.length+1:=by simp
  refine sT ?_;refine zak h rfl (zw ?_);by_cases c1:m.id=(id:Int)
  case neg =>
   have hsk:zes id u m=u:=ygf fun h=>c1 h.1
   have hfl:(A++[m]).filter (fun m=>decide (m.id≠(id:Int)))=A.filter (fun m=>decide (m.id≠(id:Int)))++[m]:=by rw [zy47];simp [c1]
   rw [hsk] at hun;refine zac zz39 ?_;conv=>whnf
   have hfa:(A.filter fun m=>decide (m.id≠(id:Int))).length<=A.length:=zy41 _ _;refine zaa (c:=(((A.filter fun m=>decide (m.id≠(id:Int))).map zaj.row).length+1)*96<=140737488355328) zz6 (zw ?_);refine sF ?_;exact ⟨⟨((A++[m],B),u),zag h,hun,by dsimp only;omega⟩,(zay [(2,some 2),(4,some 4),(900,some 38),(901,some 901),(902,some 902)] (by repeat' (first | exact z0 | refine z1 ?_ | refine ⟨?_,?_⟩ | ((exact zbb (f:=zaj.row) hfl rfl)) | exact z2))),by simp⟩
  have hfl:(A++[m]).filter (fun m=>decide (m.id≠(id:Int)))=A.filter (fun m=>decide (m.id≠(id:Int))):=by rw [zy47];simp [c1]
  refine zab zz39 (zw ?_);by_cases c2:m.parts>0
  case neg =>
   have hsk:zes id u m=u:=ygf fun h=>c2 h.2
   rw [hsk] at hun;refine zab zz29 (zw ?_)
   (try refine sG ?_)
   refine sF ?_;exact ⟨⟨((A++[m],B),u),zag h,hun,by dsimp only;omega⟩,(zay ((2,some 2)::((4,some 4)::(pJ3 []))) (by repeat' (first | exact z0 | refine z1 ?_ | refine ⟨?_,?_⟩ | ((rw [hfl])) | exact z2))),by simp⟩
  have hgo1:=xhx (s:=u) ⟨c1,c2⟩;rw [hgo1] at hun;refine zac zz29 ?_;conv=>whnf
  (refine cL ?_;refine dL (zdb _) ?_)
  (refine cL ?_;refine dL (zdb _) ?_)
  refine zaa (c:=((u.out.map zbq.row).length+1)*200<=140737488355328) zz6 (zw ?_);refine sD ?_;refine sR ?_;refine sF ?_;exact ⟨⟨((A++[m],B),{u with out:=u.out++[zie u.next m],next:=W (u.next+1)}),zag h,hun,by simp;omega⟩,(zay [(2,some 2),(4,some 4),(900,some 900),(901,some 901),(902,some 63)] (by repeat' (first | exact z0 | refine z1 ?_ | refine ⟨?_,?_⟩ | ((rw [hfl])) | ((exact zbb (f:=zbq.row) rfl (by rw [<- c1];rfl))) | exact z2))),by simp⟩
 | nil =>
 have hz:=zbp h;rw [zy4] at h;subst h;rw [hU] at hu;subst hu;refine sN ?_;refine ⟨{x:List zbq×List zbq // U.out=x.1++x.2},
  fun | ⟨(a,b),_⟩=>hs 108 [(1,i64 id),(2,.ptr 2 0),(4,.ptr 4 0),(6,.own 900),(7,.own 902),(70,i64 U.out.length),(71,i64 a.length)] [(2,rgC s U id (Sch.qs s.queue) (Sco.zec s.out)),(4,sc0),(900,xgz (s.queue.filter fun m=>decide (m.id≠(id:Int)))),(901,zzb (s.fates.set id 3)),(902,xku (a.map (Sco.zgk id)++b))],fun x=>x.1.2.length,⟨([],U.out),rfl⟩,?_,?_⟩
 . exact (zbi ((2,some 2)::((4,some 4)::(pJ3 []))))
 rintro ⟨⟨a,b⟩,h'⟩;dsimp only at h';(conv=>whnf);cases b with
 | cons y b =>
  have hz':=zbd h';have hm:a.length=(a.map (Sco.zgk id)).length:=by simp
  have e0:(a++[y]).map (Sco.zgk id)++b=a.map (Sco.zgk id)++Sco.zgk id y::b:=by simp
  refine sT ?_;refine sO ?_;refine zak (a:=a.map (Sco.zgk id)) (b:=b) (s:=y) rfl zz5 (zw ?_);by_cases d1:y.id=(id:Int)
  case neg =>
   have e1:Sco.zgk id y=y:=zy0 fun h=>d1 h.1
   rw [show (y.id==(id:Int))=false from zy5.2 d1];(conv=>whnf);exact yy135
  rw [show (y.id==(id:Int))=true from zy17.2 d1];(conv=>whnf);refine sO ?_;refine zak (a:=a.map (Sco.zgk id)) (b:=b) (s:=y) rfl zz5 (zw ?_);by_cases d2:y.state=2
  case pos =>
   have e1:Sco.zgk id y=y:=zy0 fun h=>h.2 d2
   refine zab zz152 (zw ?_);exact yy135
  have e1:Sco.zgk id y={y with state:=4}:=zy1 ⟨d1,d2⟩;refine zac zz152 (zw ?_);refine sO ?_;refine zak (a:=a.map (Sco.zgk id)) (b:=b) (s:=y) rfl zz5 (zw ?_);refine sF ?_;exact ⟨⟨(a++[y],b),zag h'⟩,(zay ((2,some 2)::((4,some 4)::(pJ3 []))) zz26),by simp⟩
 | nil =>
 have hz':=zbp h';rw [zy4] at h';subst h';have hsz:=hgo ▸ hg.out;have hV:zcm {s with fates:=s.fates.set id 3,next:=U.next,queue:=s.queue.filter fun m=>decide (m.id≠(id:Int)),sched:=if s.sched.hand=id then {s.sched with hand:=-1} else s.sched,out:=U.out.map (Sco.zgk id),forward:=true}=G:=by
  rw [<- hG];conv=>rhs;rw [hk]
 have hp:=zju (rows:=(U.out.map (Sco.zgk id)++[]).map zbq.row) {s with fates:=s.fates.set id 3,next:=U.next,queue:=s.queue.filter fun m=>decide (m.id≠(id:Int)),sched:=if s.sched.hand=id then {s.sched with hand:=-1} else s.sched,out:=U.out.map (Sco.zgk id),forward:=true} hsz h4 zz154;rw [hV] at hp;refine sN ?_;by_cases c3:s.sched.hand=(id:Int)
 case pos =>
  rw [zy1 c3] at hp;rw [show (s.sched.hand==(id:Int))=true from zy17.2 c3];conv=>whnf
  exact yy143
 case neg =>
  rw [zy0 c3] at hp;rw [show (s.sched.hand==(id:Int))=false from zy5.2 c3];conv=>whnf
  exact yy143
end Snd
namespace Snd
open Ser
theorem yez (out:List zbq) (cum:Int) (hl:out.length<2 ^ 38) {rows:List (List PV)} (hr:rows=out.map zbq.row) :
 zan Tryz.prog 89 [.p (.sl 20 rows),i64 cum] zad (.tup [i64 (Sco.zea out cum).1,Sco.zbm (Sco.zea out cum).2]) zad:=by
 subst hr;exact Sco.zmd out cum hl
abbrev tkC (s t:zae):zai:=.live (.cells 32 (yek {s with clock:=W (s.clock+1),forward:=t.forward} (Sch.qs s.queue) (ints s.sched.had) (Sco.zec t.out) (zpx s.paths) (ints s.mids) (ints s.fates)))
abbrev tkR (s:zae) (f:Bool) (r:List (List PV)):zai:=.live (.cells 32 (yek {s with clock:=W (s.clock+1),forward:=f} (Sch.qs s.queue) (ints s.sched.had) (.p (.sl 20 r)) (zpx s.paths) (ints s.mids) (ints s.fates)))
theorem yyr {i:Int} {y:zbq} (h:¬ (y.state=1/\y.path=i)):Sco.late i y=y:=zy0 h
theorem xdx {i:Int} {y:zbq} (h:y.state=1/\y.path=i):Sco.late i y={y with state:=3}:=zy1 h
theorem zyb {α:Type} {C B:List α} {p q:α} {i:Nat} (h:C.length=i):(C++p::B).set i q=C++q::B:=by
 subst h;simp
theorem yve {N:Nat} (s:zae) (hS:SI N s):zan Tryz.prog 37 [s.hv] zad (tick s).hv zad:=by
 obtain ⟨h1,h2,h3,h4,h5,h6,h7⟩:=hS.fit;have hT:(List.range s.paths.length).foldl (zhs s.config.part) {s with clock:=W (s.clock+1)}=tick s:=rfl;generalize tick s=T at hT ⊢;refine zal mixed Tryz.func37 zz4 ?_;(conv=>whnf);refine sR ?_;refine ⟨{x:(List Path×List Path)×zae×List Path // s.paths=x.1.1++x.1.2/\(List.range x.1.1.length).foldl (zhs s.config.part) {s with clock:=W (s.clock+1)}=x.2.1/\x.2.1={s with clock:=W (s.clock+1),out:=x.2.1.out,paths:=x.2.2++x.1.2,forward:=x.2.1.forward}/\Sco.zfd x.2.1.out/\x.2.2.length=x.1.1.length},
  fun | ⟨((A,B),t,C),_⟩=>hs 89 [(1,.ptr 1 0),(2,.ptr 2 0),(3,.own 900),(15,zpx s.paths),(16,i64 s.paths.length),(17,i64 A.length)] [(1,tkC s t),(2,sc0),(900,xcj C)],fun x=>x.1.1.2.length,⟨(([],s.paths),{s with clock:=W (s.clock+1)},[]),rfl,rfl,rfl,h3,rfl⟩,?_,?_⟩
 . exact (zbi [(1,some 1),(2,some 2),(900,none)])
 rintro ⟨⟨⟨A,B⟩,t,C⟩,h,ht,hk,hz3,hC⟩;dsimp only at h ht hk hz3 hC;have hql:s.paths.length=A.length+B.length:=by rw [h];simp
 refine zci fun Q hQ=>?_
 (conv=>whnf);cases B with
 | nil =>
  have hz:=zbp h;rw [zy4] at h hk;subst h;rw [hT] at ht;subst ht;refine sN ?_;refine hQ _ _ ?_;conv=>whnf
  rw [hk]
  try rfl
 | cons p B =>
 have hz:=zbd h;have hp:t.paths[A.length]?=some p:=by rw [hk];simp [<- hC]
 have hst:=zji (zhs s.config.part) {s with clock:=W (s.clock+1)} A.length;rw [ht] at hst;have hAl:(A++[p]).length=A.length+1:=by simp
 have hcl:t.clock=W (s.clock+1):=by rw [hk]
 have hcu:t.cum=s.cum:=by rw [hk]
 have hz1:=hz3.len;refine sT ?_;refine zak h rfl (zw ?_)
 (try refine sG ?_)
 by_cases c1:p.zcw=0
 case pos =>
  rw [zob hp (.inl c1)] at hst;refine zab zz148 (zw ?_);exact yy62
 refine zac (zy85.2 c1) (zw ?_);by_cases c2:W (s.clock+1)<p.zcw
 case pos =>
  rw [zob hp (.inr (by rw [hcl];exact c2))] at hst;refine zab zz29 (zw ?_);exact yy62
 have hgo:=yqk (part:=s.config.part) hp (fun h=>h.elim c1 (by rw [hcl];exact c2));have hsz:=yan A.length hz3;have hset:t.paths.set A.length (Paths.late p s.config.part)=(C++[Paths.late p s.config.part])++B:=by
  rw [hk];show (C++p::B).set _ _=_;rw [zyb hC];simp
 refine zac zz29 ?_;conv=>whnf
 refine zaa (c:=(([]:List (List PV)).length+(t.out.map zbq.row).length)*200<=140737488355328) zz3 (zw ?_);refine ⟨{x:List zbq×List zbq // t.out=x.1++x.2},fun | ⟨(a,b),_⟩=>hs 89 [(1,.ptr 1 0),(2,.ptr 2 0),(3,.own 900),(4,i64 A.length),(5,.ptr 5 0),(6,.own 902),(15,zpx s.paths),(16,i64 s.paths.length),(17,i64 A.length),(37,i64 t.out.length),(38,i64 a.length)] [(1,tkC s t),(2,sc0),(5,.live (.cells 86 p.cells)),(900,xcj C),(902,xku (a.map (Sco.late A.length)++b))],fun x=>x.1.2.length,⟨([],t.out),rfl⟩,?_,?_⟩
 . exact (zbi [(1,some 1),(2,some 2),(5,some 5),(900,some 900),(902,some 35)])
 rintro ⟨⟨a,b⟩,h'⟩;dsimp only at h';refine zci fun Q2 hQ2=>?_
 (conv=>whnf);cases b with
 | cons y b =>
  have hz':=zbd h';have e0:(a++[y]).map (Sco.late A.length)++b=a.map (Sco.late A.length)++Sco.late A.length y::b:=by simp
  refine sT ?_;refine sO ?_;refine zak (a:=a.map (Sco.late A.length)) (b:=b) (s:=y) rfl zz5 (zw ?_);by_cases d1:y.state=1
  case neg =>
   have e1:=yyr (i:=A.length) (y:=y) fun h=>d1 h.1
   refine zab (zy5.2 d1) (zw ?_);exact yy107
  refine zac (zy17.2 d1) (zw ?_);refine sO ?_;refine zak (a:=a.map (Sco.late A.length)) (b:=b) (s:=y) rfl zz5 (zw ?_);by_cases d2:y.path=(A.length:Int)
  case neg =>
   have e1:=yyr (i:=A.length) (y:=y) fun h=>d2 h.2
   refine zab zz152 (zw ?_);exact yy107
  have e1:=xdx (i:=A.length) (y:=y) ⟨d1,d2⟩;refine zac zz152 (zw ?_);refine sO ?_;refine zak (a:=a.map (Sco.late A.length)) (b:=b) (s:=y) rfl zz5 (zw ?_);refine sF ?_;refine hQ2 _ _ (zw ?_);exact ⟨⟨(a++[y],b),zag h'⟩,(zay [(1,some 1),(2,some 2),(5,some 5),(900,some 900),(902,some 902)] zz26),by simp⟩
 | nil =>
 have hz':=zbp h';rw [zy4] at h';subst h';have hpt:=yez (rows:=(t.out.map (Sco.late A.length)++[]).map zbq.row) (t.out.map (Sco.late A.length)) s.cum hsz.len zz154;have zqp:((t.out.map (Sco.late A.length)++[]).map zbq.row)=(t.out.map (Sco.late A.length)).map zbq.row:=by rw [zy4]
 refine sN ?_;refine hQ2 _ _ (zw ?_)
 (refine cL ?_;refine dL (Paths.yux p s.config.part) ?_)
 (refine cP ?_;refine dL hpt ?_)
 by_cases c3:(Sco.zea (t.out.map (Sco.late A.length)) s.cum).1>s.cum
 case pos =>
  rw [zy1 (show (Sco.zea (zso s.config.part t A.length p).out t.cum).1>t.cum from by rw [hcu];exact c3)] at hgo;refine zac zz89 (zw ?_)
  (try refine sG ?_)
  refine zaa (c:=((C.map Path.row).length+1)*56<=140737488355328) zz6 (zw ?_);refine sF ?_;refine hQ _ _ ?_;conv=>whnf
  exact ⟨⟨((A++[p],B),{zso s.config.part t A.length p with forward:=true},C++[Paths.late p s.config.part]),zag h,by rw [hAl,hst];exact hgo,by rw [<- hset];unfold zso;rw [hk],hsz,by simp [hC]⟩,(zph [35,902] [(1,some 1),(2,some 2),(900,some 84)] (by repeat' (first | exact z0 | refine z1 ?_ | refine ⟨?_,?_⟩ | ((exact zbb (f:=Path.row) rfl rfl)) | ((exact congrArg (tkR s true) zqp)) | exact z2))),by simp⟩
 case neg =>
  rw [zy0 (show ¬ (Sco.zea (zso s.config.part t A.length p).out t.cum).1>t.cum from by rw [hcu];exact c3)] at hgo;refine zab zz89 (zw ?_)
  (try refine sG ?_)
  refine zaa (c:=((C.map Path.row).length+1)*56<=140737488355328) zz6 (zw ?_);refine sF ?_;refine hQ _ _ ?_;conv=>whnf
  exact ⟨⟨((A++[p],B),zso s.config.part t A.length p,C++[Paths.late p s.config.part]),zag h,by rw [hAl,hst];exact hgo,by rw [<- hset];unfold zso;rw [hk],hsz,by simp [hC]⟩,(zph [35,902] [(1,some 1),(2,some 2),(900,some 84)] (by repeat' (first | exact z0 | refine z1 ?_ | refine ⟨?_,?_⟩ | ((exact zbb (f:=Path.row) rfl rfl)) | ((exact congrArg (tkR s t.forward) zqp)) | exact z2))),by simp⟩
end Snd
namespace Snd
open Ser
def pdC (s:zae) (q h o p m f x y:HV):List HV:=[i64 s.config.streams,i64 s.config.part,i64 s.config.packet,i64 s.config.paths,i64 s.config.turns,i64 s.config.waiting,i64 s.config.first,i64 s.clock,q,i64 s.sched.last,i64 s.sched.hand,h,o,p,i64 s.cum,i64 s.next,i64 s.room,m,f,zbj s.forward,i64 s.recover,x,y]
abbrev pdS (s:zae) (q o p m:HV) (x y:Nat):zai:=.live (.cells 148 (pdC s q (ints s.sched.had) o p m (ints s.fates) (.own x) (.own y)))
abbrev pdP (s:zae) (x y:Nat):zai:=pdS s (Sch.qs s.queue) (Sco.zec s.out) (zpx s.paths) (ints s.mids) x y
def xox (b:Bool) (i:Nat) (v:HV):HV:=match b with
 | true=>.own i
 | false=>v
def xop (b:Bool) (i:Nat) (x:zai) (l:List (Nat×zai)):List (Nat×zai):=match b with
 | true=>(i,x)::l
 | false=>l
abbrev pdH (b:Bool) (s:zae) (a c:List Chunk):List (Nat×zai) :=
 (1000,pdS s (xox b 1001 (Sch.qs s.queue)) (Sco.zec s.out) (zpx s.paths) (ints s.mids) 1007 1008)::(1007,zza a)::(1008,zza c) ::
  xop b 1001 (xgz s.queue) []
abbrev pdD:List (Nat×zai):=[(1001,.dead)]
theorem yzy {b:Bool} {s:zae} {a c:List Chunk}:∀ i,lk .free (pdH b s a c) i=.free\/i∈[1000,1001,1007,1008]:=fun i=>by
 rcases zbt (L:=pdH b s a c) i with h | h
 . exact .inl h
 . right;cases b<;>simp [xop] at h ⊢<;>omega
theorem ybo (s:zae) (a c:List Chunk) (path:Nat) (w:Path) (hw:s.paths[path]?=some w) (_:s.paths.length<2 ^ 22) :
 zan Tryz.prog 101 [.ptr 1000 0,i64 path] (lk .free (pdH false s a c)) (zbj (opened s path)) (lk .free (pdH false s a c)):=by
 have hi:path<s.paths.length:=(zy8.1 hw).1;rw [opened,hw];refine zaq mixed Tryz.func101 zz4 [1000,1007,1008] zbt ?_;(conv=>whnf);refine zam hw rfl (zw ?_);refine zam hw rfl (zw ?_);refine sD ?_
 (exact zck [(1000,some 1000),(1007,some 1007),(1008,some 1008)])
theorem ybl (b:Bool) (s S:zae) (a c:List Chunk) (i:Nat) (x:zbq) (hx:s.out[i]?=some x) (ho:Sco.zfd (s.out.set i (zry x 0))) (hp:s.paths.length<2 ^ 22) (hS:zcm {s with out:=s.out.set i (zry x 0)}=S) (ha:a.length<2 ^ 30) :
 zan Tryz.prog 102 [.ptr 1000 0,i64 i,i64 0] (lk .free (pdH b s a c)) (.tup []) (lk .free ((1000,pdP S 0 1008)::(0,zza (a++[x.chunk]))::(1008,zza c)::(1007,.dead)::pdD)):=by
 have ho1:=ho.len;rw [zy25] at ho1;have hi:i<s.out.length:=(zy8.1 hx).1;have hf:=fun rows=>zju (rows:=rows) {s with out:=s.out.set i (zry x 0)} ho hp
 rw [hS] at hf;cases b<;>(
  refine zaq mixed Tryz.func102 zz4 [1000,1001,1007,1008] yzy ?_;(conv=>whnf);refine zaa (c:=(([]:List (List PV)).length+(s.out.map zbq.row).length)*200<=140737488355328) zz3 (zw ?_);refine sOm ?_;refine zam (l:=s.out) hx rfl (zw ?_);refine sR ?_;refine sOm ?_;refine zam (l:=s.out) hx rfl (zw ?_)
  (refine cP ?_;refine dL (hf _ (by rw [zy72];rfl)) ?_)
  refine ⟨0,rfl,by decide,zw ?_⟩;refine zaa (c:=((a.map Chunk.row).length+1)*128<=140737488355328) zz3 (zw ?_);refine ⟨0,rfl,by decide,zw ?_⟩;refine sD ?_
  (exact zdd [(1000,some 1000),(1001,some 1001),(1007,some 1007),(1008,some 1008),(0,some 55)] zz77))
theorem ybm (b:Bool) (s S:zae) (a c:List Chunk) (i:Nat) (x:zbq) (hx:s.out[i]?=some x) (ho:Sco.zfd (s.out.set i (zry x 1))) (hp:s.paths.length<2 ^ 22) (hS:zcm {s with out:=s.out.set i (zry x 1)}=S) (ha:c.length<2 ^ 30) :
 zan Tryz.prog 102 [.ptr 1000 0,i64 i,i64 1] (lk .free (pdH b s a c)) (.tup []) (lk .free ((1000,pdP S 1007 0)::(1007,zza a)::(0,zza (c++[x.chunk]))::(1008,.dead)::pdD)):=by
 have ho1:=ho.len;rw [zy25] at ho1;have hi:i<s.out.length:=(zy8.1 hx).1;have hf:=fun rows=>zju (rows:=rows) {s with out:=s.out.set i (zry x 1)} ho hp
 rw [hS] at hf;cases b<;>(
  refine zaq mixed Tryz.func102 zz4 [1000,1001,1007,1008] yzy ?_;(conv=>whnf);refine zaa (c:=(([]:List (List PV)).length+(s.out.map zbq.row).length)*200<=140737488355328) zz3 (zw ?_);refine sOm ?_;refine zam (l:=s.out) hx rfl (zw ?_);refine sR ?_;refine sOm ?_;refine zam (l:=s.out) hx rfl (zw ?_)
  (refine cP ?_;refine dL (hf _ (by rw [zy72];rfl)) ?_)
  refine ⟨1,rfl,by decide,zw ?_⟩;refine zaa (c:=((c.map Chunk.row).length+1)*128<=140737488355328) zz3 (zw ?_);refine ⟨1,rfl,by decide,zw ?_⟩;refine sD ?_
  (exact zdd [(1000,some 1000),(1001,some 1001),(1007,some 1007),(1008,some 1008),(0,some 55)] zz77))
end Snd
namespace Snd
open Ser
abbrev pdR (s:zae) (a c:List Chunk):List (Nat×zai):=[(1000,pdP s 0 1),(0,zza a),(1,zza c),(1007,.dead),(1008,.dead)]
abbrev cq (s:zae) (k:Nat) (m:zaj):zae:={zrx s k m with queue:=s.queue}
def built (s:zae) (k:Nat) (m:zaj) (A:List zaj):List zaj:=if decide (m.sent+many s m=m.message.data.length) then A.eraseIdx k else A.set k {m with mid:=zcp s m,sent:=m.sent+many s m,parts:=W (m.parts+1)}
theorem ylh {s:zae} {k:Nat} {m x:zaj} {A:List zaj} (h:A.length≠k):built s k m (A++[x])=built s k m A++[x]:=by
 unfold built;split
 . rcases zy152 h with h | h
   . rw [zy143 (by simp;omega),zy143 (by omega)]
   . rw [List.eraseIdx_append_of_lt_length (by omega)]
 . rcases zy152 h with h | h
   . rw [zy125 (by simp;omega),zy125 (by omega)]
   . rw [List.set_append_left _ _ (by omega)]
theorem yst {s:zae} {m x:zaj} {A:List zaj} (ho:decide (m.sent+many s m=m.message.data.length)=true):built s A.length m (A++[x])=built s A.length m A:=by
 unfold built;rw [zy1 ho,zy1 ho,List.eraseIdx_append_of_length_le (zy28 _),zy143 (zy28 _)];simp
theorem yss {s:zae} {m x:zaj} {A:List zaj} (ho:decide (m.sent+many s m=m.message.data.length)=false):built s A.length m (A++[x])=built s A.length m A++[{m with mid:=zcp s m,sent:=m.sent+many s m,parts:=W (m.parts+1)}]:=by
 unfold built;rw [zy0 (by rw [ho];decide),zy0 (by rw [ho];decide),zy162 _ _ (zy28 _),zy125 (zy28 _)];simp
theorem ywj (s:zae) (k:Nat) (m:zaj) (A:List zaj):(built s k m A).length<=A.length:=by
 unfold built;split
 . exact List.length_eraseIdx_le _ _
 . simp
abbrev rnH (s:zae) (m:zaj) (a c:List Chunk):List (Nat×zai):=[(1000,pdP s 1007 1008),(1007,zza a),(1008,zza c),(5,.live (.cells 117 m.cells))]
abbrev rnM (s:zae) (m:zaj) (a c:List Chunk):List (Nat×zai):=[(1000,pdP {s with mids:=zdk s m} 1007 1008),(1007,zza a),(1008,zza c),(5,.live (.cells 117 ({m with mid:=zcp s m}:zaj).cells))]
abbrev x0r (s:zae) (m:zaj) (o:Bool):zbq:=⟨s.next,m.id,0,0,0,0,m.came,m.message.life,m.message.tries,⟨1,tag s.next,m.message.stream,tag (zcp s m),m.parts,o,m.message.ordered,(m.message.data.drop m.sent.toNat).take (many s m).toNat,[],0,[]⟩⟩
abbrev rnK (s:zae) (m:zaj) (o:Bool) (r:List (List PV)):zai:=.live (.cells 148 (pdC {s with mids:=zdk s m,sched:=Sch.had s.sched {m with mid:=zcp s m} (many s m) o,next:=W (s.next+1)} (Sch.qs s.queue) (ints (Sch.had s.sched {m with mid:=zcp s m} (many s m) o).had) (.p (.sl 20 r)) (zpx s.paths) (ints (zdk s m)) (ints s.fates) (.own 1007) (.own 1008)))
theorem xob {s:zae} {k:Nat} {m:zaj} {o:Bool} (h:o=decide (m.sent+many s m=m.message.data.length)) :
 rnK s m o ((([]:List (List PV))++s.out.map zbq.row)++[(x0r s m o).row])=pdS (cq s k m) (Sch.qs s.queue) (Sco.zec (zrx s k m).out) (zpx s.paths) (ints (zdk s m)) 1007 1008:=by
 subst h;refine congrArg (rnK s m _) ?_;show _=(s.out++[_]).map zbq.row;rw [zy39];rfl
theorem ywk {s:zae} {k:Nat} {m:zaj}:built s k m []=[]:=by unfold built;split<;>simp
theorem xfu {R P:Prop} (h:R->P) (r:R):P:=h r
theorem zyj (s:zae) (a c:List Chunk) (hs:xko s) (hlast:0<s.sched.had.length->0<=s.sched.last/\s.sched.last<s.sched.had.length) (h2p:s.paths.length<=2) (hb:a.length+c.length<2 ^ 29)
 (hfl:∀ k m,s.queue[k]?=some m->Sco.zfd ((zrx s k m).out.set s.out.length (zry ⟨s.next,m.id,0,0,0,0,m.came,m.message.life,m.message.tries,cut s m (many s m)⟩ (choose s))) /\
  zcm {zrx s k m with out:=(zrx s k m).out.set s.out.length (zry ⟨s.next,m.id,0,0,0,0,m.came,m.message.life,m.message.tries,cut s m (many s m)⟩ (choose s))}=(zmm ⟨s,[a,c]⟩ k m (many s m)).s) :
 zan Tryz.prog 103 [.ptr 1000 0] (lk .free (pdH false s a c)) (zbj (nx s [a,c]).2) (lk .free (pdR (nx s [a,c]).1.s (yih (nx s [a,c]).1.out) (yra (nx s [a,c]).1.out))):=by
 obtain ⟨g,hp,hp1,hp2,hmsg⟩:=hs;obtain ⟨⟨f1,f2,f3,f4,f5,f6,f7⟩,g2,g3,g4⟩:=g;obtain ⟨hch,hch2⟩:=zdp hp;have pc:=Paths.zkm s.paths zz0;rw [hch] at pc;obtain ⟨w,hw⟩:∃ w,s.paths[choose s]?=some w:=⟨_,zy2 hch2⟩
 have pn:=Sch.yvb s.config.turns s.sched s.queue zz0 zz0 hlast;have po:=ybo s a c (choose s) w hw zz0;have hop:opened s (choose s)=decide (w.zaz<w.window):=by rw [opened,hw]
 rw [hop] at po;generalize hG:nx s [a,c]=G;refine zaq mixed Tryz.func103 zz4 [1000,1007,1008] zbt ?_;(conv=>whnf)
 (refine cL ?_;refine dL pc ?_)
 by_cases c1:zdu s<0
 case pos =>
  (refine cL ?_;refine dL pn ?_)
  refine sD ?_;refine zac ?_ ?_
  . exact zy12 c1
  (conv=>whnf);rw [yrb c1] at hG;exact yy61
 obtain ⟨k,hkl,hke⟩:=yfe (t:=s.config.turns) (s:=s.sched) (q:=s.queue) zz131;have hke':zdu s=k:=hke;rw [hke] at pn;obtain ⟨m,hm⟩:∃ m,s.queue[k]?=some m:=⟨_,zy2 hkl⟩
 have hmf:=hmsg m (zy7 hm);obtain ⟨mf,mh,ms,ml,md⟩:=hmf;obtain ⟨n1,n2,n3⟩:=zpi (s:=s) (m:=m) hp1 hp2 ms ml md
 (refine cL ?_;refine dL pn ?_)
 refine sD ?_;by_cases c2:w.zaz<w.window
 case neg =>
  rw [zy15 c2] at po
  (refine zaf [] [(1000,1000),(1007,1007),(1008,1008)] [] ?_;(conv=>whnf);refine dG po ?_)
  rw [yrc hw c2] at hG;exact yy61
 rw [zy12 c2] at po
 (refine zaf [] [(1000,1000),(1007,1007),(1008,1008)] [] ?_;(conv=>whnf);refine dG po ?_)
 by_cases c3:(s.out.length:Int)>=60
 case pos =>
  refine zac ?_ ?_
  . rw [zy3];exact zy12 c3
  (conv=>whnf);rw [yrd c3] at hG;exact yy61
 refine zab ?_ ?_
 . rw [zy3];exact zy15 c3
 conv=>whnf
 (try refine sG ?_)
 refine zam hm rfl (zw ?_);refine zbw (z':=(m.message.data.length:Int)-m.sent) ?_ ?_
 . show W _=_
   rw [zy3];exact zbs zz0 zz0
 (conv=>whnf);refine zil.meet PUnit (fun _=>hsP [1000,1007,1008] 298 [(0,.ptr 1000 0),(3,i64 (choose s)),(4,i64 k),(5,.ptr 5 0),(6,i64 (many s m))] (rnH s m a c)) ?_ ?_
 . conv=>whnf
   refine zah (fun c=>?_) (fun c=>?_)
   . have c':(m.message.data.length:Int)-m.sent>s.config.part:=zy29 c
     (conv=>whnf);exact ⟨⟨⟩,(zcd [(1000,some 1000),(1007,some 1007),(1008,some 1008),(5,some 5)] zz71)⟩
   . have c':¬ (m.message.data.length:Int)-m.sent>s.config.part:=zy36 c
     (conv=>whnf);exact ⟨⟨⟩,(zcd [(1000,some 1000),(1007,some 1007),(1008,some 1008),(5,some 5)] zz71)⟩
 rintro ⟨⟩;(conv=>whnf);refine ⟨{x:List Path×List Path // s.paths=x.1++x.2},fun | ⟨(A,B),_⟩=>hsP [1000,1007,1008] 298 [(0,.ptr 1000 0),(3,i64 (choose s)),(4,i64 k),(5,.ptr 5 0),(6,i64 (many s m)),(7,i64 (A.foldl (fun n a=>W (n+a.zaz)) 0)),(89,zpx s.paths),(90,i64 s.paths.length),(91,i64 A.length)] (rnH s m a c),fun x=>x.1.2.length,⟨([],s.paths),rfl⟩,?_,?_⟩
 . exact (zdm [(1000,some 1000),(1007,some 1007),(1008,some 1008),(5,some 5)])
 rintro ⟨⟨A,B⟩,h⟩;dsimp only at h;(conv=>whnf);cases B with
 | cons p B =>
  have hz:=zbd h;refine sT ?_;refine zak h rfl (zw ?_);refine sR ?_;refine sF ?_;exact ⟨⟨(A++[p],B),zag h⟩,(zcd [(1000,some 1000),(1007,some 1007),(1008,some 1008),(5,some 5)] zz47),by simp⟩
 | nil =>
 have hz:=zbp h;rw [zy4] at h;subst h;refine sNm ?_;have hWs:W (m.sent+many s m)=m.sent+many s m:=zbs zz0 zz0;apply xfu
 . intro hrest
   by_cases c4:zaz s>0
   case neg =>
    have c6:¬ (zaz s>0/\W (zaz s+many s m)>s.room):=fun h=>c4 h.1
    refine zab (zy15 c4) (zw ?_);exact yy8
   refine zac (zy12 c4) (zw ?_);refine sRm ?_;by_cases c5:W (zaz s+many s m)>s.room
   case pos =>
    refine zac (zy12 c5) (zw ?_);rw [yre hke' hm hw c2 c3 ⟨c4,c5⟩] at hG;exact yy61
   have c6:¬ (zaz s>0/\W (zaz s+many s m)>s.room):=fun h=>c5 h.2
   refine zab (zy15 c5) (zw ?_);exact yy8
 rintro ⟨c6⟩;rw [zxk hke' hm hw c2 c3 c6] at hG;subst hG;have hov:decide (m.sent+many s m>=((m.message.data.map zcs).length:Int))=decide (m.sent+many s m=m.message.data.length):=by
  rw [zy3];by_cases h:m.sent+many s m=m.message.data.length
  . rw [zy12 h,zy12];omega
  . rw [zy15 h,zy15];omega
 (conv=>whnf);refine zao (z:=m.sent+many s m) hWs (zw ?_)
 (refine cP ?_;refine dL (Sch.xbm s.sched {m with mid:=zcp s m} (many s m) (decide (m.sent+many s m>=((m.message.data.map zcs).length:Int))) zz0) ?_)
 refine sD ?_;refine zaa (c:=(([]:List (List PV)).length+(s.out.map zbq.row).length)*200<=140737488355328) zz3 (zw ?_)
 (refine cL ?_;refine dL (zdb s.next) ?_)
 (refine cL ?_;refine dL (zdb (zcp s m)) ?_)
 refine zao (z:=m.sent+many s m) hWs (zw ?_);refine zaa (c:=0<=m.sent/\m.sent<=m.sent+many s m/\m.sent+many s m<=((m.message.data.map zcs).length:Int)) ⟨ms,by omega,by rw [zy3];omega⟩ ?_;refine zhr (o':=m.sent.toNat) (n':=(many s m).toNat) rfl (show (m.sent+many s m-m.sent).toNat=(many s m).toNat by rw [show m.sent+many s m-m.sent=many s m by omega]) ?_;refine zgt (f:=zcs) (l:=m.message.data) (o:=m.sent.toNat) (n:=(many s m).toNat) zz0 ?_;(conv=>whnf);refine zaa (c:=((([]:List (List PV))++s.out.map zbq.row).length+1)*200<=140737488355328) zz3 (zw ?_);refine sD ?_;refine sR ?_;refine zao (z:=m.sent+many s m) hWs (zw ?_);refine sR ?_;refine ⟨{x:List zaj×List zaj // s.queue=x.1++x.2},fun | ⟨(A,B),_⟩=>hsP [1000,1007,1008] 298 [(0,.ptr 1000 0),(3,i64 (choose s)),(4,i64 k),(5,.ptr 5 0),(12,zbj (decide (m.sent+many s m=m.message.data.length))),(13,.own 900),(260,Sch.qs s.queue),(261,i64 s.queue.length),(262,i64 A.length)] [(1000,pdS (cq s k m) (Sch.qs s.queue) (Sco.zec (zrx s k m).out) (zpx s.paths) (ints (zdk s m)) 1007 1008),(1007,zza a),(1008,zza c),(5,.live (.cells 117 ({m with mid:=zcp s m,sent:=m.sent+many s m,parts:=W (m.parts+1)}:zaj).cells)),(900,xgz (built s k m A))],fun x=>x.1.2.length,⟨([],s.queue),rfl⟩,?_,?_⟩
 . exact (zph [234] [(1000,some 1000),(1007,some 1007),(1008,some 1008),(5,some 5),(900,none)] (by repeat' (first | exact z0 | refine z1 ?_ | refine ⟨?_,?_⟩ | ((exact congrArg zbj hov.symm)) | ((exact xob hov)) | ((show List.map zaj.row (built s k m [])=[];rw [ywk];rfl)) | exact z2)))
 rintro ⟨⟨A,B⟩,h⟩;dsimp only at h;refine zci fun Q hQ=>?_
 (conv=>whnf);cases B with
 | cons x B =>
  have hz:=zbd h;have hbl:=ywj s k m A;refine sT ?_;refine zak h rfl (zw ?_)
  (try refine sG ?_)
  by_cases d:A.length=k
  case neg =>
   have hb:=ylh (s:=s) (m:=m) (x:=x) d;refine zab (zy5.2 zz0) (zw ?_)
   (try refine sG ?_)
   refine zac (zy85.2 zz0) (zw ?_);refine zaa (c:=(((built s k m A).map zaj.row).length+1)*96<=140737488355328) zz6 (zw ?_);exact yy109
  refine zac (zy17.2 zz0) (zw ?_)
  (try refine sG ?_)
  refine zab (by simp [d]) (zw ?_);subst d;by_cases e:m.sent+many s m=m.message.data.length
  case pos =>
   have hb:=yst (s:=s) (x:=x) (A:=A) (zy12 e);refine zab (by rw [zy12 e];rfl) (zw ?_)
   (try refine sG ?_)
   refine sF ?_;refine hQ _ _ ?_;conv=>whnf
   exact ⟨⟨(A++[x],B),zag h⟩,(zcd [(1000,some 1000),(1007,some 1007),(1008,some 1008),(5,some 5),(900,some 900)] (by repeat' (first | exact z0 | refine z1 ?_ | refine ⟨?_,?_⟩ | ((rw [hb])) | exact z2))),by simp⟩
  have hb:=yss (s:=s) (x:=x) (A:=A) (zy15 e);refine zac (by rw [zy15 e];rfl) (zw ?_);refine zaa (c:=(((built s A.length m A).map zaj.row).length+1)*96<=140737488355328) zz6 (zw ?_);exact yy109
 | nil =>
 have hz:=zbp h;rw [zy4] at h;subst h;obtain ⟨hsz,hfe⟩:=hfl k m hm;have hx:(zrx s k m).out[s.out.length]?=some (⟨s.next,m.id,0,0,0,0,m.came,m.message.life,m.message.tries,cut s m (many s m)⟩:zbq):=by
  show (s.out++[_])[s.out.length]?=_;rw [zy37 (zy28 _)];simp
 have hol:(zrx s k m).out.length=s.out.length+1:=by show (s.out++[_]).length=_;simp
 have hn1:zmm ⟨s,[a,c]⟩ k m (many s m)=fly ⟨zrx s k m,[a,c]⟩ s.out.length (choose s):=zfu s [a,c] k m;refine sN ?_;refine hQ _ _ ?_;conv=>whnf
 refine zbw (z':=(s.out.length:Int)) ?_ ?_
 . show W ((((zrx s k m).out.map zbq.row).length:Int)-1)=_
   rw [zy3,hol,zbs (by omega) (by omega)];omega
 (conv=>whnf);have hc01:choose s=0\/choose s=1:=by omega
 rcases hc01 with hc | hc
 . have ho1:(zmm ⟨s,[a,c]⟩ k m (many s m)).out=[a++[cut s m (many s m)],c]:=by
    rw [hn1,hc];simp only [fly,hx,setAt];rfl
   rw [hc] at hsz hfe;have pf:=ybl true (zrx s k m) (zmm ⟨s,[a,c]⟩ k m (many s m)).s a c s.out.length (⟨s.next,m.id,0,0,0,0,m.came,m.message.life,m.message.tries,cut s m (many s m)⟩:zbq) hx hsz (by show s.paths.length<_;omega) hfe zz0;generalize zmm ⟨s,[a,c]⟩ k m (many s m)=G at ho1 pf ⊢;rw [hc]
   (refine zaf [] [(1000,1000),(1001,900),(1007,1007),(1008,1008)] [(0,920)] ?_;(conv=>whnf);refine dG pf ?_)
   (exact zdd [(1000,some 1000),(1007,some 1007),(1008,some 1008),(0,some 920),(1,some 1008)] zz101)
 . have ho1:(zmm ⟨s,[a,c]⟩ k m (many s m)).out=[a,c++[cut s m (many s m)]]:=by
    rw [hn1,hc];simp only [fly,hx,setAt];rfl
   rw [hc] at hsz hfe;have pf:=ybm true (zrx s k m) (zmm ⟨s,[a,c]⟩ k m (many s m)).s a c s.out.length (⟨s.next,m.id,0,0,0,0,m.came,m.message.life,m.message.tries,cut s m (many s m)⟩:zbq) hx hsz (by show s.paths.length<_;omega) hfe zz0;generalize zmm ⟨s,[a,c]⟩ k m (many s m)=G at ho1 pf ⊢;rw [hc]
   (refine zaf [] [(1000,1000),(1001,900),(1007,1007),(1008,1008)] [(0,920)] ?_;(conv=>whnf);refine dG pf ?_)
   (exact zdd [(1000,some 1000),(1007,some 1007),(1008,some 1008),(0,some 1007),(1,some 920)] zz101)
end Snd
namespace Snd
open Ser
abbrev hrS (c:Chunk) (V:zae):List (Nat×zai):=[(2,scS V),(3,.live (.cells 61 c.cells)),(4,sc0)]
theorem yuv {N:Nat} (s:zae) (c:Chunk) (hS:SI N s) (hsp:c.zar.length<2 ^ 60):zan Tryz.prog 35 [s.hv,c.hv] zad (zyy s c).hv zad:=by
 have hr:=hS.right;have hs':=hS.fit;obtain ⟨h1,h2,h3,h4,h5,h6,h7⟩:=hs';obtain ⟨q1,q2⟩:-(2 ^ 40)<=s.cum/\s.cum<=2 ^ 40:=by
  have:=hS.cum;have:=hS.nextle;have:=hS.next;have:=hS.few;have:=(zct hS.cfg);omega
 generalize hT:zyy s c=T;have pnr:=zlm s.cum c.tag q1 q2;have hol:=h3.len;refine zal mixed Tryz.func35 zz4 ?_;by_cases c1:c.kind=2
 case neg =>
  rw [zyy,zy1 c1] at hT;subst hT;(conv=>whnf);refine zac zz39 ?_;conv=>whnf
  try rfl
 rw [zyy,zy0 (fun h=>h c1)] at hT;by_cases k1:zcy s.cum c.tag<s.cum
 case pos =>
  rw [zy1 (.inl k1)] at hT;subst hT;generalize zcy s.cum c.tag=nr at pnr k1;(conv=>whnf);refine zab zz39 (zw ?_)
  (try refine sG ?_)
  (refine cL ?_;refine dL pnr ?_)
  refine zac (zy12 k1) (zw ?_)
  try rfl
 by_cases k2:zcy s.cum c.tag>s.cum+s.out.length
 case pos =>
  rw [zy1 (.inr k2)] at hT;subst hT;generalize zcy s.cum c.tag=nr at pnr k1 k2;(conv=>whnf);refine zab zz39 (zw ?_)
  (try refine sG ?_)
  (refine cL ?_;refine dL pnr ?_)
  refine zab (zy15 k1) (zw ?_);refine sF ?_;refine zac (by rw [zy3];exact zy12 k2) (zw ?_)
  try rfl
 rw [zy0 (fun h=>h.elim k1 k2),zlu] at hT;have kk:¬ (zcy s.cum c.tag<s.cum\/zcy s.cum c.tag>s.cum+s.out.length):=fun h=>h.elim k1 k2
 have hks:=zun h3 s.cum c s.paths.length;have hlo:(Sco.zgj s.out s.cum c s.paths.length).2.2.2.length<=s.out.length:=by
  rw [Sco.zgj,zy0 kk];dsimp only;rw [Sco.lost,zy3];refine zy102 (zy41 _ _) ?_;rw [Sco.left,zy3];exact zy41 _ _
 have hcl:(Sco.zgj s.out s.cum c s.paths.length).2.2.1.length=s.paths.length:=by
  rw [Sco.zgj,zy0 kk];simp only [Sco.znv];rfl
 have hU:=fun t (h:SI N t)=>zwv (N:=N) (s:=t) h (part:=s.config.part) (L:=(Sco.zgj s.out s.cum c s.paths.length).2.2.2)
 have hTS:=zwu hS kk;have hk:zan Tryz.prog 84 [Sco.zec s.out,i64 s.cum,c.hv,i64 ((s.paths.map Path.row).length:Nat)] zad (.tup [Sco.zec (Sco.zgj s.out s.cum c s.paths.length).1,i64 (Sco.zgj s.out s.cum c s.paths.length).2.1,ints (Sco.zgj s.out s.cum c s.paths.length).2.2.1,ints (Sco.zgj s.out s.cum c s.paths.length).2.2.2]) zad:=by
  rw [zy3];exact Sco.yvc s.out s.cum c s.paths.length h3 hr hsp
 generalize Sco.zgj s.out s.cum c s.paths.length=K at hk hT hks hlo hcl hU hTS;obtain ⟨K1,K2,K3,K4⟩:=K;dsimp only at hk hT hks hlo hcl hU hTS;clear kk;generalize zcy s.cum c.tag=nr at pnr k1 k2;(conv=>whnf);refine zab zz39 (zw ?_)
 (try refine sG ?_)
 (refine cL ?_;refine dL pnr ?_)
 refine zab (zy15 k1) (zw ?_);refine sF ?_;refine zab (by rw [zy3];exact zy15 k2) (zw ?_)
 (try refine sG ?_)
 (refine cP ?_;refine dL hk ?_)
 refine sD ?_;refine ⟨{x:List Path×List Path // s.paths=x.1++x.2},fun | ⟨(A,B),_⟩=>hs 215 [(2,.ptr 2 0),(3,.ptr 3 0),(4,.ptr 4 0),(6,i64 s.cum),(8,i64 K2),(9,ints K3),(10,ints K4),(11,.own 900),(73,zpx s.paths),(74,i64 s.paths.length),(75,i64 A.length)] ((900,xcj (A.mapIdx fun i p=>if K3[i]?.getD 0>0 then Paths.zkw p (K3[i]?.getD 0) s.config.part (decide (K2>s.cum)) else p))::hrS c {s with out:=K1,cum:=K2,room:=c.room}),fun x=>x.1.2.length,⟨([],s.paths),rfl⟩,?_,?_⟩
 . exact (zay [(2,some 2),(3,some 3),(4,some 4),(900,none)] (by repeat' (first | exact z0 | refine z1 ?_ | refine ⟨?_,?_⟩ | ((exact zbl (by rw [zy3]))) | exact z2)))
 rintro ⟨⟨A,B⟩,h⟩;dsimp only at h;refine zci fun Q hQ=>?_
 (conv=>whnf);cases B with
 | cons p B =>
  have hz:=zbd h;have hql:s.paths.length=A.length+(p::B).length:=by rw [h];simp
  obtain ⟨n,hn⟩:∃ n,K3[A.length]?=some n:=⟨_,zy2 (by rw [hcl,hql];simp)⟩
  have hm:(A++[p]).mapIdx (fun i p=>if K3[i]?.getD 0>0 then Paths.zkw p (K3[i]?.getD 0) s.config.part (decide (K2>s.cum)) else p)=A.mapIdx (fun i p=>if K3[i]?.getD 0>0 then Paths.zkw p (K3[i]?.getD 0) s.config.part (decide (K2>s.cum)) else p)++[if n>0 then Paths.zkw p n s.config.part (decide (K2>s.cum)) else p]:=by
   rw [zy109,hn];rfl
  refine sT ?_;refine zak h rfl (zw ?_)
  (try refine sG ?_)
  refine zam hn rfl (zw ?_);by_cases d1:n>0
  case pos =>
   rw [zy1 d1] at hm;refine zac (zy12 d1) (zw ?_);refine zam hn rfl (zw ?_)
   (refine cL ?_;refine dL (Paths.ynp p n s.config.part (decide (K2>s.cum))) ?_)
   refine sD ?_;exact yy52
  rw [zy0 d1] at hm;refine zab (zy15 d1) (zw ?_)
  (try refine sG ?_)
  exact yy52
 | nil =>
 have hz:=zbp h;rw [zy4] at h;subst h;refine sN ?_;refine hQ _ _ ?_;conv=>whnf
 have hcp:(s.paths.mapIdx fun i p=>if K3[i]?.getD 0>0 then Paths.zkw p (K3[i]?.getD 0) s.config.part (decide (K2>s.cum)) else p).length=s.paths.length:=zy108;have hTe:zhl s c (K1,K2,K3,K4)=zcm {s with out:=K1,cum:=K2,room:=c.room,paths:=s.paths.mapIdx fun i p=>if K3[i]?.getD 0>0 then Paths.zkw p (K3[i]?.getD 0) s.config.part (decide (K2>s.cum)) else p}:=rfl;have htl:(zcm {s with out:=K1,cum:=K2,room:=c.room,paths:=s.paths.mapIdx fun i p=>if K3[i]?.getD 0>0 then Paths.zkw p (K3[i]?.getD 0) s.config.part (decide (K2>s.cum)) else p}).paths.length=s.paths.length:=by
  show (List.mapIdx _ _).length=_;rw [zy108];exact hcp
 have htc:(zcm {s with out:=K1,cum:=K2,room:=c.room,paths:=s.paths.mapIdx fun i p=>if K3[i]?.getD 0>0 then Paths.zkw p (K3[i]?.getD 0) s.config.part (decide (K2>s.cum)) else p}).cum=K2:=rfl;have htp:(zcm {s with out:=K1,cum:=K2,room:=c.room,paths:=s.paths.mapIdx fun i p=>if K3[i]?.getD 0>0 then Paths.zkw p (K3[i]?.getD 0) s.config.part (decide (K2>s.cum)) else p}).config.part=s.config.part:=rfl;have pf:=zox {s with out:=K1,cum:=K2,room:=c.room,paths:=s.paths.mapIdx fun i p=>if K3[i]?.getD 0>0 then Paths.zkw p (K3[i]?.getD 0) s.config.part (decide (K2>s.cum)) else p} hks zz83;rw [hTe] at hT hTS;generalize zcm {s with out:=K1,cum:=K2,room:=c.room,paths:=s.paths.mapIdx fun i p=>if K3[i]?.getD 0>0 then Paths.zkw p (K3[i]?.getD 0) s.config.part (decide (K2>s.cum)) else p}=t at pf hT hTS htl htc htp
 (refine zat [(0,950)]  ?_;(conv=>whnf);refine dOm pf ?_)
 have hpl:=hr.p0;obtain ⟨hch,hch2⟩:=zdp (s:=t) zz0;obtain ⟨w,hw⟩:∃ w,t.paths[choose t]?=some w:=⟨_,zy2 hch2⟩
 refine zil.meet PUnit (fun _=>hs 215 [(2,.ptr 2 0),(3,.ptr 3 0),(4,.ptr 4 0),(6,i64 s.cum),(8,i64 K2)] (hrS c (zgn s.config.part t K4))) ?_ ?_
 . conv=>whnf
   rcases zy121 K4 with rfl | ⟨L,z,rfl⟩
   case inl =>
    (conv=>whnf);refine sDm ?_;exact ⟨⟨⟩,(zph [950] [(2,some 2),(3,some 3),(4,some 4)] (by repeat' (first | exact z0 | refine z1 ?_ | refine ⟨?_,?_⟩ | ((exact zbl rfl)) | exact z2)))⟩
   rw [zy106] at hlo ⊢;have hUe:zgn s.config.part t (L++[z])=if z>t.recover then upS t s.config.part w else t:=by
    unfold zgn;rw [List.getLast?_concat];dsimp only;rw [upS,setAt,hw]
   have hll:((L++[z]).map (fun n:Int=>[pi n])).length=L.length+1:=by simp
   have hLl:L.length<2 ^ 38:=by
    have:=hlo;rw [zy9] at this;simp only [zy6,zy14] at this;omega
   refine zac (zy12 zz0) (zw ?_);refine sFm ?_;refine zak (f:=fun n:Int=>[pi n]) (a:=L) (b:=[]) (s:=z) rfl zz0 (zw ?_);refine sDm ?_;by_cases e0:z>t.recover
   case neg =>
    rw [zy0 e0] at hUe;refine zab (zy15 e0) (zw ?_);exact ⟨⟨⟩,(zph [950] [(2,some 2),(3,some 3),(4,some 4)] (by repeat' (first | exact z0 | refine z1 ?_ | refine ⟨?_,?_⟩ | ((rw [hUe])) | exact z2)))⟩
   rw [zy1 e0] at hUe;refine zac (zy12 e0) (zw ?_);have pc:=Paths.zkm t.paths zz0;rw [hch] at pc
   (refine cL ?_;refine dLm pc ?_)
   refine zaa zz6 (zw ?_);refine zam hw rfl (zw ?_)
   (refine cL ?_;refine dLm (Paths.zus w t.config.part) ?_)
   refine zaa zz6 (zw ?_);refine zam hw rfl (zw ?_);refine sDm ?_;refine sRm ?_;have hr:(t.paths.map Path.row).set (choose t) (Paths.zqn w t.config.part).row=(upS t t.config.part w).paths.map Path.row:=by rw [upS];dsimp only;rw [zy72]
   exact ⟨⟨⟩,(zph [950] [(2,some 2),(3,some 3),(4,some 4)] (by repeat' (first | exact z0 | refine z1 ?_ | refine ⟨?_,?_⟩ | ((rw [hUe,<- htp];exact congrArg (fun r=>zai.live (.cells 32 (yek (upS t t.config.part w) (Sch.qs t.queue) (ints t.sched.had) (Sco.zec t.out) (.p (.sl 7 r)) (ints t.mids) (ints t.fates)))) hr)) | exact z2)))⟩
 rintro ⟨⟩;have hu:=hU t hTS;generalize hug:zgn s.config.part t K4=u at hT hu;(conv=>whnf);refine zil.meet PUnit (fun _=>hs 215 [(2,.ptr 2 0),(3,.ptr 3 0),(4,.ptr 4 0)] (hrS c (zfs (decide (K2>s.cum)) u))) ?_ ?_
 . conv=>whnf
   (refine cP ?_;refine dLm (Sco.zmd u.out u.cum hu.fit.out.len) ?_)
   by_cases m1:K2>s.cum
   case neg =>
    have hv:zfs (decide (K2>s.cum)) u=u:=zy0 (fun h=>m1 (zy29 h.1));refine zab (zy15 m1) (zw ?_);exact ⟨⟨⟩,(zay [(2,some 2),(3,some 3),(4,some 4)] zz62)⟩
   refine zac (zy12 m1) (zw ?_);by_cases m2:(Sco.zea u.out u.cum).1>u.cum
   case neg =>
    have hv:zfs (decide (K2>s.cum)) u=u:=zy0 (fun h=>m2 h.2);refine zab (zy15 m2) (zw ?_);exact ⟨⟨⟩,(zay [(2,some 2),(3,some 3),(4,some 4)] zz62)⟩
   have hv:zfs (decide (K2>s.cum)) u={u with forward:=true}:=zy1 ⟨zy12 m1,m2⟩;refine zac (zy12 m2) (zw ?_);exact ⟨⟨⟩,(zay [(2,some 2),(3,some 3),(4,some 4)] zz62)⟩
 rintro ⟨⟩;have hv:=zww hu (b:=decide (K2>s.cum));generalize zfs (decide (K2>s.cum)) u=V at hT hv;have hvq:=hv.fit.queue;have hvo:=hv.fit.out.len;have hvf:=hv.fit.fates;(conv=>whnf);refine ⟨{x:List Int×List Int // V.fates=x.1++x.2},fun | ⟨(A,B),_⟩=>hs 215 [(2,.ptr 2 0),(3,.ptr 3 0),(4,.ptr 4 0),(17,.own 900),(159,ints V.fates),(160,i64 V.fates.length),(161,i64 A.length)] ((900,zzb (A.mapIdx fun id f=>settled V id f))::hrS c V),fun x=>x.1.2.length,⟨([],V.fates),rfl⟩,?_,?_⟩
 . exact (zbi [(2,some 2),(3,some 3),(4,some 4),(900,none)])
 rintro ⟨⟨A,B⟩,h⟩;dsimp only at h;refine zci fun Q hQ=>?_
 (conv=>whnf);cases B with
 | nil =>
  have hz:=zbp h;rw [zy4] at h;refine sN ?_;refine hQ _ _ ?_;conv=>whnf
  subst hT;have he:(settle V).fates=V.fates.mapIdx fun id f=>settled V id f:=rfl
  rw [show settle V={V with fates:=A.mapIdx fun id f=>settled V id f} by rw [<- h];rfl]
  try rfl
 | cons f B =>
 have hz:=zbd h;have hmi:(A++[f]).mapIdx (fun id f=>settled V id f)=A.mapIdx (fun id f=>settled V id f)++[settled V A.length f]:=zy109;have hset:settled V A.length f=if f=1/\((V.queue.any fun m=>decide (m.id=(A.length:Int)))||V.out.any fun x=>decide (x.id=(A.length:Int))&&decide (x.state≠2))=false then 2 else f:=by
  unfold settled;simp only [Bool.or_eq_false_iff]
 refine sT ?_;refine zak (f:=fun n:Int=>[pi n]) h rfl (zw ?_)
 (try refine sG ?_)
 refine ⟨{x:List zaj×List zaj // V.queue=x.1++x.2},fun | ⟨(a,b),_⟩=>hs 215 [(2,.ptr 2 0),(3,.ptr 3 0),(4,.ptr 4 0),(17,.own 900),(18,i64 A.length),(19,i64 f),(20,zbj (a.any fun m=>decide (m.id=(A.length:Int)))),(159,ints V.fates),(160,i64 V.fates.length),(161,i64 A.length),(167,Sch.qs V.queue),(168,i64 V.queue.length),(169,i64 a.length)] ((900,zzb (A.mapIdx fun id f=>settled V id f))::hrS c V),fun x=>x.1.2.length,⟨([],V.queue),rfl⟩,?_,?_⟩
 . exact (zbi [(2,some 2),(3,some 3),(4,some 4),(900,some 900)])
 rintro ⟨⟨a,b⟩,h'⟩;dsimp only at h';refine zci fun Q2 hQ2=>?_
 (conv=>whnf);cases b with
 | cons m b =>
  have hz':=zbd h';have hany:(a++[m]).any (fun m=>decide (m.id=(A.length:Int)))=(a.any (fun m=>decide (m.id=(A.length:Int)))||(m.id==(A.length:Int))):=by rw [List.any_append,List.any_cons,List.any_nil,zy142];rfl
  refine sT ?_;refine zak h' rfl (zw ?_)
  (try refine sG ?_)
  cases hb:a.any fun m=>decide (m.id=(A.length:Int)) with
  | true =>
   rw [hb] at hany;(conv=>whnf);refine sF ?_;refine hQ2 _ _ (zw ?_);exact ⟨⟨(a++[m],b),zag h'⟩,(zay [(2,some 2),(3,some 3),(4,some 4),(900,some 900)] zz99),by simp⟩
  | false =>
   rw [hb,Bool.false_or] at hany;(conv=>whnf);refine sF ?_;refine hQ2 _ _ (zw ?_);exact ⟨⟨(a++[m],b),zag h'⟩,(zay [(2,some 2),(3,some 3),(4,some 4),(900,some 900)] zz60),by simp⟩
 | nil =>
 have hz':=zbp h';rw [zy4] at h';refine sN ?_;refine hQ2 _ _ (zw ?_);obtain rfl:a=V.queue:=h'.symm;obtain ⟨q,hq⟩:∃ q,q=V.queue.any fun m=>decide (m.id=(A.length:Int)):=⟨_,rfl⟩
 rw [<- hq] at hset
 (try refine sG ?_)
 refine ⟨{x:List zbq×List zbq // V.out=x.1++x.2},fun | ⟨(a,b),_⟩=>hs 215 [(2,.ptr 2 0),(3,.ptr 3 0),(4,.ptr 4 0),(17,.own 900),(18,i64 A.length),(19,i64 f),(20,zbj (q||a.any fun x=>decide (x.id=(A.length:Int))&&decide (x.state≠2))),(159,ints V.fates),(160,i64 V.fates.length),(161,i64 A.length),(182,Sco.zec V.out),(183,i64 V.out.length),(184,i64 a.length)] ((900,zzb (A.mapIdx fun id f=>settled V id f))::hrS c V),fun x=>x.1.2.length,⟨([],V.out),rfl⟩,?_,?_⟩
 . exact (zay [(2,some 2),(3,some 3),(4,some 4),(900,some 900)] (by repeat' (first | exact z0 | refine z1 ?_ | refine ⟨?_,?_⟩ | ((rw [List.any_nil,zy142,hq])) | exact z2)))
 rintro ⟨⟨a',b⟩,h2'⟩;dsimp only at h2';refine zci fun Q3 hQ3=>?_
 (conv=>whnf);cases b with
 | cons x b =>
  have hz2:=zbd h2';have hany:(q||(a'++[x]).any fun x=>decide (x.id=(A.length:Int))&&decide (x.state≠2))=((q||a'.any fun x=>decide (x.id=(A.length:Int))&&decide (x.state≠2))||((x.id==(A.length:Int))&&(x.state != 2))):=by
   rw [List.any_append,Bool.or_assoc];congr 2;rw [List.any_cons,List.any_nil,zy142,zy120];simp
  refine sT ?_;refine zak h2' rfl (zw ?_)
  (try refine sG ?_)
  cases hb:(q||a'.any fun x=>decide (x.id=(A.length:Int))&&decide (x.state≠2)) with
  | true =>
   rw [hb] at hany;(conv=>whnf);refine sF ?_;refine hQ3 _ _ (zw ?_);exact ⟨⟨(a'++[x],b),zag h2'⟩,(zay [(2,some 2),(3,some 3),(4,some 4),(900,some 900)] zz99),by simp⟩
  | false =>
   rw [hb,Bool.false_or] at hany;(conv=>whnf);by_cases e1:x.id=(A.length:Int)
   case pos =>
    rw [show (x.id==(A.length:Int))=true from zy17.2 e1,zy104] at hany;refine zac (zy17.2 e1) (zw ?_);exact yy122
   case neg =>
    rw [show (x.id==(A.length:Int))=false from zy5.2 e1,Bool.false_and] at hany;refine zab (zy5.2 e1) (zw ?_);exact yy122
 | nil =>
 have hz2:=zbp h2';rw [zy4] at h2';refine sN ?_;refine hQ3 _ _ (zw ?_);obtain rfl:a'=V.out:=h2'.symm
 (try refine sG ?_)
 by_cases d1:f=1
 case neg =>
  rw [zy0 (fun h=>d1 h.1)] at hset;refine zab (zy5.2 d1) (zw ?_);exact yy30
 refine zac (zy17.2 d1) (zw ?_);cases ho:(q||V.out.any fun x=>decide (x.id=(A.length:Int))&&decide (x.state≠2)) with
 | true =>
  rw [ho] at hset;rw [zy0 (fun h=>Bool.noConfusion h.2)] at hset;(conv=>whnf);exact yy30
 | false =>
  rw [ho] at hset;rw [zy1 ⟨d1,rfl⟩] at hset;(conv=>whnf);exact yy30
end Snd
namespace Ln
open Ser
theorem xac (l A:List zau) (p:zau):zmo l (A++[p])=xfc (zmo l A) p:=by unfold zmo;rw [zy68];rfl
abbrev xgy (l:List zau):zai:=.live (.row 110 3 (l.map zau.row))
theorem zyk (l ps:List zau) (hl:l.length<=40) (hp:ps.length<2 ^ 62):zan Tryz.prog 107 [pks l,pks ps] zad (pks (zmo l ps)) zad:=by
 refine zal mixed Tryz.func107 zz4 ?_;(conv=>whnf);refine zaa (c:=(([]:List (List PV)).length+(l.map zau.row).length)*40<=140737488355328) zz3 (zw ?_);refine ⟨{x:List zau×List zau // ps=x.1++x.2},fun | ⟨(A,B),_⟩=>hs 26 [(5,.own 900),(11,pks ps),(12,i64 ps.length),(13,i64 A.length)] [(900,xgy (zmo l A))],fun x=>x.1.2.length,⟨([],ps),rfl⟩,?_,?_⟩
 . exact (zbi [(900,some 10)])
 rintro ⟨⟨A,B⟩,h⟩;dsimp only at h;(conv=>whnf);cases B with
 | cons p B =>
  have hz:=zbd h;have hn:=xac l A p;have hle:=yna A l hl;refine sT ?_;refine zak h rfl (zw ?_)
  (try refine sG ?_)
  by_cases c1:(zmo l A).length<40
  case pos =>
   rw [xfc,zy1 c1] at hn;refine zac (by rw [zy3,zy34];omega) (zw ?_);refine zaa (c:=(((zmo l A).map zau.row).length+1)*40<=140737488355328) zz6 (zw ?_);refine sF ?_;exact ⟨⟨(A++[p],B),zag h⟩,(zay [(900,some 23)] (by repeat' (first | exact z0 | refine z1 ?_ | refine ⟨?_,?_⟩ | ((exact zbb (f:=zau.row) hn rfl)) | exact z2))),by simp⟩
  rw [xfc,zy0 c1] at hn;refine zab (by rw [zy3,zy35];omega) (zw ?_)
  (try refine sG ?_)
  refine sF ?_;exact ⟨⟨(A++[p],B),zag h⟩,(zay [(900,some 900)] (by repeat' (first | exact z0 | refine z1 ?_ | refine ⟨?_,?_⟩ | ((rw [hn])) | exact z2))),by simp⟩
 | nil =>
  have hz:=zbp h;rw [zy4] at h;subst h
  ((refine yxw ?_;conv=>whnf);try refine sG ?_)
theorem zjv (l ps:List zau) (hl:l.length<=40) (hp:ps.length<2 ^ 62) {rows:List (List PV)} (hr:rows=l.map zau.row):zan Tryz.prog 107 [.p (.sl 3 rows),pks ps] zad (pks (zmo l ps)) zad:=by
 subst hr;exact zyk l ps hl hp
abbrev xna:List HV:=[i64 0,i64 0,i64 0,i64 0,i64 0,i64 0,i64 0,i64 0,zej,i64 0,i64 0,zej,zej,zej,i64 0,i64 0,i64 0,zej,zej,zbj false,i64 0,i64 0,i64 0,i64 0,i64 0,i64 0,i64 0,i64 0,i64 0,zej,zej,zej,zej,zej]
abbrev lnS (l:zeb):zai:=lnB l.sender l.receiver (pks l.way)
abbrev rcH (y:zeb) (p:zau):List (Nat×zai):=[(2,lnS y),(3,.live (.cells 110 p.cells)),(4,.live (.cells 40 xna))]
theorem yut {N M:Nat} (l:zeb) (p:zau) (h:LI N M l) (hM:M+120<=2000000) (hp:p.bytes.length<=120):zan Tryz.prog 108 [l.hv,p.hv] zad (zga l p).hv zad:=by
 obtain ⟨path,back,bytes⟩:=p;dsimp only at hp;generalize hT:zga l ⟨path,back,bytes⟩=T;refine zal mixed Tryz.func108 zz4 ?_;have hw:=zrc bytes;have pp:=Pck.ykl bytes zz0;rw [zga] at hT;dsimp only at hT;have hall:ziy l ⟨path,back,bytes⟩=(Pck.zfg bytes).1.foldl (zfy back) (l,false):=rfl;generalize Pck.zfg bytes=K at hT hw hall pp;obtain ⟨cs,e⟩:=K;dsimp only at hT hw hall pp;by_cases c1:e=0
 case neg =>
  rw [zy1 c1] at hT;subst hT;(conv=>whnf)
  (refine cP ?_;refine dL pp ?_)
  refine zac (zy85.2 c1) (zw ?_)
  try rfl
 subst c1;rw [zy0 (fun h=>h rfl)] at hT;(conv=>whnf)
 (refine cP ?_;refine dL pp ?_)
 (try refine sG ?_)
 refine ⟨{x:(zeb×Bool)×List Chunk×List Chunk // cs=x.2.1++x.2.2/\x.2.1.foldl (zfy back) (l,false)=x.1/\LI N (M+Rcv.wts x.2.1) x.1.1/\x.1.1.way=l.way},fun | ⟨((y,told),A,B),_⟩=>hs 75 [(2,.ptr 2 0),(3,.ptr 3 0),(4,.ptr 4 0),(7,zbj told),(21,.p (.sl 11 (cs.map Chunk.row))),(22,i64 cs.length),(23,i64 A.length)] (rcH y ⟨path,back,bytes⟩),fun x=>x.1.2.2.length,⟨((l,false),[],cs),rfl,rfl,by simpa [Rcv.wts] using h,rfl⟩,?_,?_⟩
 . exact (zbi [(2,some 2),(3,some 3),(4,some 4)])
 rintro ⟨⟨⟨y,told⟩,A,B⟩,k1,k2,k3,k4⟩;dsimp only at k1 k2 k3 k4;refine zci fun Q hQ=>?_
 (conv=>whnf);cases B with
 | cons c B =>
  have hz:=zbd k1;obtain ⟨w1,w2⟩:=hw;have hcl:=ynz cs;have hc:=w2 c (zgx k1);have hsum:Rcv.wts cs=Rcv.wts A+(Rcv.wt c+Rcv.wts B):=by rw [k1,Rcv.yfj,Rcv.zkq]
  have hwt:Rcv.wt c=c.data.length+c.zbm.length+1:=rfl;have hnx:(A++[c]).foldl (zfy back) (l,false)=zfy back (y,told) c:=by rw [zy68,k2];rfl
  have hli:=zvi (back:=back) (x:=(y,told)) (c:=c) k3 zz0;have hwy:=(yhc back (y,told) c).trans k4;rw [show M+Rcv.wts A+Rcv.wt c=M+Rcv.wts (A++[c]) by rw [Rcv.yfj,Rcv.zkq];simp [Rcv.wts];omega] at hli;refine sT ?_;refine zak k1 rfl (zw ?_)
  (try refine sG ?_)
  cases back with
  | true =>
   conv=>whnf
   (refine cP ?_;refine dL (Snd.yuv y.sender c k3.snd zz0) ?_)
   (try refine sG ?_)
   refine sF ?_;refine hQ _ _ ?_;conv=>whnf
   exact ⟨⟨(zfy true (y,told) c,A++[c],B),zag k1,hnx,hli,hwy⟩,(zbi [(2,some 2),(3,some 3),(4,some 4)]),by simp⟩
  | false =>
   conv=>whnf
   (try refine sG ?_)
   by_cases d1:c.kind=1
   case pos =>
    have e1:zfy false (y,told) c=({y with receiver:=Rcv.data y.receiver c},true):=by unfold zfy;rw [zy0 (by decide),zy1 d1]
    rw [e1] at hnx hli hwy;refine zac (zy17.2 d1) (zw ?_)
    (refine cP ?_;refine dL (Rcv.yuu y.receiver c k3.rcv zz0 zz0) ?_)
    (try refine sG ?_)
    refine sF ?_;refine hQ _ _ ?_;conv=>whnf
    exact ⟨⟨(({y with receiver:=Rcv.data y.receiver c},true),A++[c],B),zag k1,hnx,hli,hwy⟩,(zbi [(2,some 2),(3,some 3),(4,some 4)]),by simp⟩
   refine zab (zy5.2 d1) (zw ?_)
   (try refine sG ?_)
   by_cases d2:c.kind=3
   case pos =>
    have e1:zfy false (y,told) c=({y with receiver:=Rcv.forward y.receiver c},true):=by unfold zfy;rw [zy0 (by decide),zy0 d1,zy1 d2]
    rw [e1] at hnx hli hwy;refine zac (zy17.2 d2) (zw ?_)
    (refine cP ?_;refine dL (Rcv.yey y.receiver c k3.rcv zz0 zz0) ?_)
    (try refine sG ?_)
    refine sF ?_;refine hQ _ _ ?_;conv=>whnf
    exact ⟨⟨(({y with receiver:=Rcv.forward y.receiver c},true),A++[c],B),zag k1,hnx,hli,hwy⟩,(zbi [(2,some 2),(3,some 3),(4,some 4)]),by simp⟩
   have e1:zfy false (y,told) c=(y,told):=by unfold zfy;rw [zy0 (by decide),zy0 d1,zy0 d2]
   rw [e1] at hnx hli hwy;refine zab (zy5.2 d2) (zw ?_)
   (try refine sG ?_)
   refine sF ?_;refine hQ _ _ ?_;conv=>whnf
   exact ⟨⟨((y,told),A++[c],B),zag k1,hnx,hli,hwy⟩,(zbi [(2,some 2),(3,some 3),(4,some 4)]),by simp⟩
 | nil =>
 have hz:=zbp k1;rw [zy4] at k1;rw [<- k1] at k2 k3;rw [hall,k2] at hT;dsimp only at hT;obtain ⟨w1,w2⟩:=hw;have hfit:=k3.rcv.fit zz0;refine sN ?_;refine hQ _ _ ?_;conv=>whnf
 cases told with
 | false =>
  rw [zy0 (by decide)] at hT;subst hT;(conv=>whnf)
  (try refine sG ?_)
  try rfl
 | true =>
 rw [zy1 rfl] at hT;(conv=>whnf)
 (try refine sG ?_)
 have hcb:=k3.rcv.cumB zz0
 (refine cP ?_;refine dL (Rcv.ynu y.receiver zz134 (by have:=hfit.pieces;omega) (by have:=hfit.bytes;omega) hcb.1 hcb.2 (k3.rcv.spansB zz0)) ?_)
 (refine cP ?_;refine dL (Pck.zkn [Rcv.zjw y.receiver] 120 (zyp _)) ?_)
 unfold Ln.told at hT;generalize Pck.zcx [Rcv.zjw y.receiver] 120=K2 at hT ⊢;obtain ⟨b,e⟩:=K2;dsimp only at hT;by_cases c3:e=0
 case pos =>
  rw [zy1 c3] at hT;subst hT c3;(conv=>whnf)
  (refine cP ?_;refine dL (zyk y.way [⟨path,true,b⟩] (by rw [k4];exact h.way) zz5) ?_)
  try rfl
 case neg =>
  rw [zy0 c3] at hT;subst hT;refine zab (zy5.2 c3) (zw ?_)
  try rfl
end Ln
namespace Snd
open Ser
theorem yjo {α:Type} {o:List α} {c:α} {k:Nat} {f:α->α} (h:k<o.length):setAt (o++[c]) k f=setAt o k f++[c]:=by
 unfold setAt;rw [zy30 h];obtain ⟨x,hx⟩:∃ x,o[k]?=some x:=⟨_,zy2 h⟩
 rw [hx];dsimp only;rw [List.set_append_left _ _ h]
def ext (p:zep):zep:=⟨p.s,p.out++[[]]⟩
theorem ylu (p:zep) (i path:Nat):(fly p i path).out.length=p.out.length:=by
 unfold fly;split
 . rfl
 . exact zfv _ _ _
theorem ypl (p:zep) (i path:Nat):(fly p i path).s.paths.length=p.s.paths.length:=by
 unfold fly;split
 . rfl
 . exact zfv _ _ _
theorem yxf {p:zep} {i path:Nat} (h:path<p.out.length):fly (ext p) i path=ext (fly p i path):=by
 unfold fly ext;dsimp only;split
 . rfl
 . rw [yjo h]
theorem ysl {p:zep} {i path:Nat} (h:path<p.out.length):zcu path (ext p) i=ext (zcu path p i):=by
 have h2:=yxf (i:=i) h;unfold zcu;show (match p.s.out[i]? with | none=>ext p | some x=>if x.state=3/\opened p.s path=true then fly (ext p) i path else ext p)=_;cases p.s.out[i]? with
 | none=>rfl
 | some x =>
  dsimp only;by_cases c:x.state=3/\opened p.s path=true
  . rw [zy1 c,zy1 c];exact h2
  . rw [zy0 c,zy0 c]
theorem ysm (p:zep) (i path:Nat):(zcu path p i).out.length=p.out.length:=by
 unfold zcu;split
 . rfl
 . split
   . exact ylu _ _ _
   . rfl
theorem zsb {path:Nat}:∀ (L:List Nat) {p:zep},path<p.out.length->L.foldl (zcu path) (ext p)=ext (L.foldl (zcu path) p)/\(L.foldl (zcu path) p).out.length=p.out.length
 | [],p,_=>⟨rfl,rfl⟩
 | i::L,p,h=>by
  have h1:=ysm p i path;obtain ⟨h2,h3⟩:=zsb L (p:=zcu path p i) (by rw [h1];exact h);rw [zy49,zy49,ysl h];exact ⟨h2,h3.trans h1⟩
theorem ywa {p:zep} (h:choose p.s<p.out.length):again (ext p)=ext (again p):=(zsb _ h).1
theorem ywb {p:zep} (h:choose p.s<p.out.length):(again p).out.length=p.out.length:=(zsb _ h).2
theorem yzb {p:zep} {k:Nat} {m:zaj} {n:Int} (h:choose p.s<p.out.length):zmm (ext p) k m n=ext (zmm p k m n):=by
 unfold zmm;exact yxf (p:=⟨_,p.out⟩) h
theorem xef {p:zep} (h:choose p.s<p.out.length):next (ext p)=(next p).map ext:=by
 unfold next;show (if zdu p.s<0\/opened p.s (choose p.s)=false\/(p.s.out.length:Int)>=60 then none else match p.s.queue[(zdu p.s).toNat]? with
  | none=>none
  | some m=>if zaz p.s>0/\W (zaz p.s+many p.s m)>p.s.room then none else some (zmm (ext p) (zdu p.s).toNat m (many p.s m)))=_
 by_cases c1:zdu p.s<0\/opened p.s (choose p.s)=false\/(p.s.out.length:Int)>=60
 . rw [zy1 c1,zy1 c1];rfl
 rw [zy0 c1,zy0 c1];cases p.s.queue[(zdu p.s).toNat]? with
 | none=>rfl
 | some m =>
  dsimp only;by_cases c2:zaz p.s>0/\W (zaz p.s+many p.s m)>p.s.room
  . rw [zy1 c2,zy1 c2];rfl
  . rw [zy0 c2,zy0 c2,yzb h];rfl
theorem ylw {p:zep} (h:choose p.s<p.out.length):forward (ext p)=ext (forward p):=by
 unfold forward;show (if p.s.forward=false\/(Sco.zea p.s.out p.s.cum).1=p.s.cum then ext p else _)=_;by_cases c:p.s.forward=false\/(Sco.zea p.s.out p.s.cum).1=p.s.cum
 . rw [zy1 c,zy1 c]
 . rw [zy0 c,zy0 c];unfold ext;dsimp only;rw [yjo h]
theorem zui (most:Int):∀ (k:Nat) (o:List (List Chunk)),zbr most k (o++[[]])=zbr most k o
 | k,[]=>rfl
 | k,l::o=>by
  show zfe most k l.length l++zbr most (k+1) (o++[[]])=_;rw [zui most (k+1) o];rfl
def SL (s:zae):Prop:=0<=s.sched.last/\s.sched.last<s.sched.had.length
theorem yxr {s:zae} {id:Int} (h:SL s):SL (zeu s id):=by
 have e:(zeu s id).sched=if s.sched.hand=id then {s.sched with hand:=-1} else s.sched:=rfl
 unfold SL;rw [e];split<;>exact h
theorem xia {s:zae} {m:zaj} (h:SL s):SL (zjf s m):=by unfold zjf;split;exact yxr h;exact h
theorem xie {s:zae} {m:zbq} (h:SL s):SL (zgz s m):=by unfold zgz;split;exact yxr h;exact h
theorem ypa:∀ (q:List zaj) {s:zae},SL s->SL (q.foldl zjf s)
 | [],_,h=>h
 | _::q,_,h=>ypa q (xia h)
theorem ypf:∀ (q:List zbq) {s:zae},SL s->SL (q.foldl zgz s)
 | [],_,h=>h
 | _::q,_,h=>ypf q (xie h)
theorem ygl {s:zae} (h:SL s):SL (expire s):=ypf _ (ypa _ h)
theorem ygr (p:zep) (i path:Nat):(fly p i path).s.sched=p.s.sched:=by unfold fly;split<;>rfl
theorem zqk (p:zep):(forward p).s.sched=p.s.sched:=by unfold forward;split<;>rfl
theorem zqy {p q:zep} (h:next p=some q):(p.s.out.length:Int)<60/\∃ (k:Nat) (m:zaj),p.s.queue[k]?=some m/\q=zmm p k m (many p.s m):=by
 unfold next at h;by_cases c1:zdu p.s<0\/opened p.s (choose p.s)=false\/(p.s.out.length:Int)>=60
 . rw [zy1 c1] at h;cases h
 rw [zy0 c1] at h;refine ⟨by omega,(zdu p.s).toNat,?_⟩;cases hm:p.s.queue[(zdu p.s).toNat]? with
 | none=>rw [hm] at h;cases h
 | some m =>
  rw [hm] at h;dsimp only at h;split at h
  . cases h
  . cases h;exact ⟨m,rfl,rfl⟩
theorem yzg {N:Nat} {p q:zep} (hS:SI N p.s) (h:next p=some q):SL q.s:=by
 obtain ⟨-,k,m,hm,rfl⟩:=zqy h;have hq:=hS.queue m (zy7 hm);have hn:=hS.nhad;have h0:=hq.st0;have h1:=hq.st1;obtain ⟨ps,po⟩:=p;unfold SL;rw [zfu,ygr];show 0<=m.message.stream/\m.message.stream<((Sch.had ps.sched _ _ _).had.length:Int);rw [yxs];dsimp only at hn h1;omega
theorem xeh {ps:zae} {a c:List Chunk} {q:zep} (h:next ⟨ps,[a,c]⟩=some q):(ps.out.length:Int)<60/\q.out.length=2/\q.s.paths.length=ps.paths.length/\q.s.out.length=ps.out.length+1/\(yih q.out).length<=a.length+1/\(yra q.out).length<=c.length+1:=by
 obtain ⟨h1,k,m,hm,rfl⟩:=zqy h;refine ⟨h1,?_,?_,?_,?_⟩
 . rw [zfu,ylu];rfl
 . rw [zfu,ypl];rfl
 . rw [zfu];unfold fly;dsimp only;split<;>simp [zrx]
 . rw [zfu];unfold fly;dsimp only;split
   . exact ⟨by show a.length<=_;omega,by show c.length<=_;omega⟩
   . rcases hc:choose ps with _ | _ | n
     . constructor
       . show (a++[_]).length<=_;simp
       . show c.length<=_;omega
     . constructor
       . show a.length<=_;omega
       . show (c++[_]).length<=_;simp
     . constructor
       . show a.length<=_;omega
       . show c.length<=_;omega
end Snd
namespace Snd
open Ser
def OK2 (p:zep):Prop:=∀ l∈p.out,∀ c∈l,Okc c
theorem xmy {np nf:Nat} {x:zbq} (h:XI np nf x):Okc x.chunk:=by unfold Okc;rw [h.zar,h.zbm];simp
theorem xao {o:List (List Chunk)} {k:Nat} {x:Chunk} {l:List Chunk} (h:l∈setAt o k (·++[x])):l∈o\/∃ m∈o,l=m++[x]:=by
 unfold setAt at h;split at h
 . exact .inl h
 . rename_i y hy
   rcases zy48 h with h | h
   . exact .inl h
   . exact .inr ⟨y,zy7 hy,h⟩
theorem yro {s:zae} {o:List (List Chunk)} {k:Nat} {x:Chunk} (h:OK2 ⟨s,o⟩) (hx:Okc x):∀ l∈setAt o k (·++[x]),∀ c∈l,Okc c:=by
 intro l hl c hc;rcases xao hl with h1 | ⟨m,hm,rfl⟩
 . exact h l h1 c hc
 . rcases zy13.1 hc with h2 | h2
   . exact h m hm c h2
   . rw [zy11] at h2;subst h2;exact hx
theorem yxg {N:Nat} {p:zep} (hS:SI N p.s) (h:OK2 p) (i path:Nat):OK2 (fly p i path):=by
 unfold fly;split
 . exact h
 . rename_i x hx
   exact yro (s:=p.s) h (xmy (hS.out x (zy7 hx)))
theorem ysn {N:Nat} {p:zep} (hS:SI N p.s) (h:OK2 p) (path i:Nat):OK2 (zcu path p i):=by
 unfold zcu;split
 . exact h
 . split
   . exact yxg hS h _ _
   . exact h
theorem zzr {N path:Nat}:∀ (L:List Nat) {p:zep},SI N p.s->path<p.s.paths.length->OK2 p->OK2 (L.foldl (zcu path) p)
 | [],_,_,_,h=>h
 | i::L,p,hS,hp,h=>by
  obtain ⟨h1,h2⟩:=zqa hS hp i;exact zzr L h1 (by rw [h2];exact hp) (ysn hS h path i)
theorem ywc {N:Nat} {p:zep} (hS:SI N p.s) (h:OK2 p):OK2 (again p):=zzr _ hS (choose_lt' hS) h
theorem xeg {N:Nat} {p q:zep} (hS:SI N p.s) (h:OK2 p) (hq:next p=some q):OK2 q:=by
 obtain ⟨-,k,m,hm,rfl⟩:=zqy hq;obtain ⟨ps,po⟩:=p;rw [zfu];exact yxg (p:=⟨zrx ps k m,po⟩) (ywr hS hm) h _ _
theorem yic {N:Nat}:∀ (n:Nat) {p:zep},SI N p.s->OK2 p->OK2 (zew n p)
 | 0,_,_,h=>h
 | n+1,p,hS,h=>by
  rw [zew];cases hq:next p with
  | none=>exact h
  | some q=>exact yic n (zss hS hq) (xeg hS h hq)
theorem yly {p:zep} (h:OK2 p):OK2 (forward p):=by
 unfold forward;split
 . exact h
 . exact yro (s:=p.s) h (yxk p.s)
theorem yib {N:Nat}:∀ (n:Nat) {p:zep},SI N p.s->p.out.length=p.s.paths.length->zew n (ext p)=ext (zew n p)
 | 0,_,_,_=>rfl
 | n+1,p,hS,hl=>by
  have hc:choose p.s<p.out.length:=by rw [hl];exact choose_lt' hS
  rw [zew,zew,xef hc];cases hq:next p with
  | none=>rfl
  | some q =>
   obtain ⟨-,k,m,hm,he⟩:=zqy hq;have hql:q.out.length=q.s.paths.length:=by
    rw [he];obtain ⟨ps,po⟩:=p;rw [zfu,ylu,ypl];exact hl
   exact yib n (zss hS hq) hql
theorem yso {N:Nat} {p:zep} (hS:SI N p.s):(again p).s.paths.length=p.s.paths.length:=by
 have key:∀ (L:List Nat) (path:Nat) {p:zep},SI N p.s->path<p.s.paths.length->(L.foldl (zcu path) p).s.paths.length=p.s.paths.length:=by
  intro L path
  induction L with
  | nil=>intro p _ _;rfl
  | cons i L ih =>
   intro p hS hp;obtain ⟨h1,h2⟩:=zqa hS hp i;rw [zy49,ih h1 (by rw [h2];exact hp),h2]
 exact key _ _ hS (choose_lt' hS)
theorem xfb {N:Nat} {E:zae} (hE:SI N E) (hp:E.paths.length=1\/E.paths.length=2) (most:Int):(zew 61 (again (forward ⟨E,[[],[]]⟩))).s=(zew 61 (again (forward ⟨E,List.replicate E.paths.length []⟩))).s /\
 zbr most 0 (zew 61 (again (forward ⟨E,[[],[]]⟩))).out=zbr most 0 (zew 61 (again (forward ⟨E,List.replicate E.paths.length []⟩))).out:=by
 rcases hp with hp | hp
 . have e0:(⟨E,[[],[]]⟩:zep)=ext ⟨E,[[]]⟩:=rfl
   have hc0:choose E<1:=by rw [<- hp];exact choose_lt' hE
   rw [hp,e0,ylw (p:=⟨E,[[]]⟩) hc0];show _/\_=zbr most 0 (zew 61 (again (forward ⟨E,[[]]⟩))).out;have hF:SI N (forward ⟨E,[[]]⟩).s:=zhq hE;have hFo:(forward ⟨E,[[]]⟩).out.length=1:=by unfold forward;split<;>simp [zfv]
   have hFp:(forward ⟨E,[[]]⟩).s.paths.length=1:=by unfold forward;split<;>simp [zfv,hp]
   have hc1:choose (forward ⟨E,[[]]⟩).s<(forward ⟨E,[[]]⟩).out.length:=by rw [hFo,<- hFp];exact choose_lt' hF
   rw [ywa hc1,yib 61 (zqc hF) (by rw [ywb hc1,yso hF,hFo,hFp])];exact ⟨rfl,zui most 0 _⟩
 . rw [hp];exact ⟨rfl,rfl⟩
theorem yir (most path:Int):∀ (n:Nat) (l:List Chunk),(zfe most path n l).length<=n
 | 0,_=>zy28 _
 | n+1,l=>by
  unfold zfe;split
  . exact zy103 _
  . have h:=yir most path n (l.drop (zcc most l).toNat)
    have h1:(zlf most path l).length<=1:=by unfold zlf;split<;>simp
    rw [zy9];omega
theorem xmm (most:Int) (a c:List Chunk):zbr most 0 ([a,c].take 0)++zfe most 0 a.length a=zbr most 0 ([a,c].take (0+1)):=by simp [zbr]
theorem xmn (most:Int) (a c:List Chunk):zbr most 0 ([a,c].take 1)++zfe most 1 c.length c=zbr most 0 ([a,c].take (1+1)):=by simp [zbr]
theorem yzt (most:Int) (a c:List Chunk):(zbr most 0 ([a,c].take 0)).length=0:=rfl
theorem yzu (most:Int) (a c:List Chunk):(zbr most 0 ([a,c].take 1)).length<=a.length:=by
 have:=yir most 0 a.length a
 simpa [zbr] using this
end Snd
namespace Snd
open Ser
theorem ykk (t:zae) (came life:Int):zan Tryz.prog 98 [i64 came,i64 life,.ptr 1000 0] (lk .free [(1000,scS t)]) (zbj (old t.clock came life)) (lk .free [(1000,scS t)]):=by
 refine zaq mixed Tryz.func98 zz4 [1000] zbt ?_;(conv=>whnf);by_cases c1:life>0
 . refine sT ?_
   refine sR ?_
   try refine sT ?_
   (exact zdd [(1000,some 1000)] zz16)
 . refine sN ?_
   try refine sN ?_
   (exact zdd [(1000,some 1000)] zz16)
abbrev rpS (t:zae):List (Nat×zai):=[(1,scS t),(2,sc0)]
abbrev puH (E:zae) (p:zep):List (Nat×zai):=[(1,scS E),(2,sc0),(96,pdP p.s 900 901),(900,zza (yih p.out)),(901,zza (yra p.out))]
theorem ydx:∀ {b:List zbq} {z:Int} {sk:List zdv},(∀ (i:Nat) s,b[i]?=some s->s.number=z+1+i)->z<=(Sco.zde z sk b).1
 | [],z,sk,_=>zy74 _
 | s::r,z,sk,h=>by
  have h0:=h 0 s rfl;have hr:∀ (i:Nat) t,r[i]?=some t->t.number=s.number+1+i:=by
   intro i t ht;have:=h (i+1) t (by simpa using ht);omega
  rw [Sco.zde];split
  . exact zy74 _
  . split
    . split
      . exact zy74 _
      . have:=ydx (sk:=Sco.skip s.chunk sk) hr;omega
    . have:=ydx (sk:=sk) hr;omega
theorem zln {N:Nat} (s:zae) (hS:SI N s) (hL:SL s):zan Tryz.prog 40 [s.hv] zad (.tup [(zit s).1.hv,.p (.sl 3 ((zit s).2.map zau.row))]) zad:=by
 have hP:zit s=(yfi (zew 61 (again (forward ⟨expire s,List.replicate s.paths.length []⟩))).s,zbr s.config.packet 0 (zew 61 (again (forward ⟨expire s,List.replicate s.paths.length []⟩))).out):=rfl;generalize zit s=P at hP ⊢;have hsq:=hS.fit.queue;refine zal mixed Tryz.func40 zz4 ?_;(conv=>whnf);refine ⟨{x:(List zaj×List zaj)×zae // s.queue=x.1.1++x.1.2/\x.1.1.foldl zjf s=x.2/\SI N x.2/\x.2.fates.length=s.fates.length},
  fun | ⟨((A,B),t),_⟩=>hs 331 [(1,.ptr 1 0),(2,.ptr 2 0),(4,.clo 98 [.ptr 1 0]),(27,Sch.qs s.queue),(28,i64 s.queue.length),(29,i64 A.length)] (rpS t),fun x=>x.1.1.2.length,⟨(([],s.queue),s),rfl,rfl,hS,rfl⟩,?_,?_⟩
 . exact (zbi [(1,some 1),(2,some 2)])
 rintro ⟨⟨⟨A,B⟩,t⟩,k1,k2,k3,k4⟩;dsimp only at k1 k2 k3 k4;refine zci fun Q hQ=>?_
 (conv=>whnf);cases B with
 | cons m B =>
  have hz:=zbd k1;have zcq:(A++[m]).foldl zjf s=zjf t m:=by rw [zy68,k2];rfl
  have hq:=hS.queue m (zgx k1);have hm0:=hq.id0;have hm1:=hq.id1;obtain ⟨id,hid⟩:∃ k:Nat,m.id=k:=⟨m.id.toNat,by omega⟩
  have kn:=ywy k3 (m:=m) zz0;refine sT ?_;refine zak k1 rfl (zw ?_)
  (refine zaf [] [(1000,1)] [] ?_;(conv=>whnf);refine dG (ykk t m.came m.message.life) ?_)
  cases ho:old t.clock m.came m.message.life with
  | true =>
   rw [zjf,zy1 ho] at zcq kn;have pg:=ybn t id k3 zz0;rw [<- hid] at pg;(conv=>whnf)
   (try refine sG ?_)
   (refine cP ?_;refine dL pg ?_)
   refine sF ?_;refine hQ _ _ ?_;conv=>whnf
   exact ⟨⟨((A++[m],B),zeu t m.id),zag k1,zcq,kn.1,kn.2.trans k4⟩,(zbi [(1,some 1),(2,some 2)]),by simp⟩
  | false =>
   rw [zjf,zy0 (by rw [ho];decide)] at zcq;(conv=>whnf)
   (try refine sG ?_)
   refine sF ?_;refine hQ _ _ ?_;conv=>whnf
   exact ⟨⟨((A++[m],B),t),zag k1,zcq,k3,k4⟩,(zbi [(1,some 1),(2,some 2)]),by simp⟩
 | nil =>
 have hz:=zbp k1;rw [zy4] at k1;rw [<- k1] at k2;have hE2:t.out.foldl zgz t=expire s:=by rw [expire,k2]
 have hES:=(zqj hS).1;have hEL:=ygl hL;have hER:=(ygk hS.pf).2;generalize expire s=E at hE2 hES hEL hER hP;refine sN ?_;refine hQ _ _ ?_;conv=>whnf
 refine ⟨{x:(List zbq×List zbq)×zae // t.out=x.1.1++x.1.2/\x.1.1.foldl zgz t=x.2/\SI N x.2/\x.2.fates.length=t.fates.length},
  fun | ⟨((A,B),u),_⟩=>hs 331 [(1,.ptr 1 0),(2,.ptr 2 0),(4,.clo 98 [.ptr 1 0]),(46,Sco.zec t.out),(47,i64 t.out.length),(48,i64 A.length)] (rpS u),fun x=>x.1.1.2.length,⟨(([],t.out),t),rfl,rfl,k3,rfl⟩,?_,?_⟩
 . exact (zbi [(1,some 1),(2,some 2)])
 have g4:=k3.out;have hto:=k3.fit.out.len;clear k4 k2 k1 hQ Q;rintro ⟨⟨⟨A,B⟩,u⟩,k1,k2,k3,k4⟩;dsimp only at k1 k2 k3 k4;refine zci fun Q hQ=>?_
 (conv=>whnf);cases B with
 | cons x B =>
  have hz:=zbd k1;have zcq:(A++[x]).foldl zgz t=zgz u x:=by rw [zy68,k2];rfl
  have hm:=g4 x (zgx k1);have hm0:=hm.id0;have hm1:=hm.id1;obtain ⟨id,hid⟩:∃ k:Nat,x.id=k:=⟨x.id.toNat,by omega⟩
  have kn:=ywz k3 (m:=x) zz0;have hidl:id<u.fates.length:=by omega
  have pg:=ybn u id k3 hidl;rw [<- hid] at pg;obtain ⟨f,hf⟩:∃ f,u.fates[id]?=some f:=⟨_,zy2 hidl⟩
  have hdue:xcf u x=(decide (f=1)&&(decide (x.state≠2)&&(old u.clock x.came x.life||(decide (x.state=3)&&(decide (x.tries>0)&&decide (x.times>x.tries)))))):=by
   unfold xcf;rw [hid,zy24,hf];rfl
  refine sT ?_;refine zak k1 rfl (zw ?_);refine zam hf zz0 (zw ?_);by_cases d1:f=1
  case neg =>
   refine zab ?_ ?_
   . simpa using d1
   conv=>whnf
   (try refine sG ?_)
   refine sF ?_;refine hQ _ _ ?_;conv=>whnf
   rw [zgz,zy0 (by rw [hdue];simp [d1])] at zcq;exact yy50
  refine zac ?_ ?_
  . simpa using d1
  (conv=>whnf);by_cases d2:x.state=2
  case pos =>
   refine zab ?_ ?_
   . simpa using d2
   conv=>whnf
   (try refine sG ?_)
   refine sF ?_;refine hQ _ _ ?_;conv=>whnf
   rw [zgz,zy0 (by rw [hdue];simp [d1,d2])] at zcq;exact yy50
  refine zac ?_ ?_
  . simpa using d2
  conv=>whnf
  (refine zaf [] [(1000,1)] [] ?_;(conv=>whnf);refine dG (ykk u x.came x.life) ?_)
  cases d3:old u.clock x.came x.life with
  | true =>
   conv=>whnf
   (try refine sG ?_)
   (refine cP ?_;refine dL pg ?_)
   refine sF ?_;refine hQ _ _ ?_;conv=>whnf
   rw [zgz,zy1 (by rw [hdue];simp [d1,d2,d3])] at zcq kn;exact ⟨⟨((A++[x],B),zeu u x.id),zag k1,zcq,kn.1,kn.2.trans k4⟩,(zbi [(1,some 1),(2,some 2)]),by simp⟩
  | false =>
  (conv=>whnf);by_cases d4:x.state=3
  case neg =>
   refine zab ?_ ?_
   . simpa using d4
   conv=>whnf
   (try refine sG ?_)
   refine sF ?_;refine hQ _ _ ?_;conv=>whnf
   rw [zgz,zy0 (by rw [hdue];simp [d1,d2,d3,d4])] at zcq;exact yy50
  refine zac ?_ ?_
  . simpa using d4
  (conv=>whnf);by_cases d5:x.tries>0
  case neg =>
   refine zab ?_ ?_
   . simpa using d5
   conv=>whnf
   (try refine sG ?_)
   refine sF ?_;refine hQ _ _ ?_;conv=>whnf
   rw [zgz,zy0 (by rw [hdue];simp [d1,d2,d3,d4,d5])] at zcq;exact yy50
  refine zac ?_ ?_
  . simpa using d5
  (conv=>whnf);by_cases d6:x.times>x.tries
  case neg =>
   refine zab ?_ ?_
   . simpa using d6
   conv=>whnf
   (try refine sG ?_)
   refine sF ?_;refine hQ _ _ ?_;conv=>whnf
   rw [zgz,zy0 (by rw [hdue];simp [d1,d2,d3,d4,d5,d6])] at zcq;exact yy50
  refine zac ?_ ?_
  . simpa using d6
  conv=>whnf
  (try refine sG ?_)
  (refine cP ?_;refine dL pg ?_)
  refine sF ?_;refine hQ _ _ ?_;conv=>whnf
  rw [zgz,zy1 (by rw [hdue];simp [d1,d2,d3,d4,d5,d6])] at zcq kn;exact ⟨⟨((A++[x],B),zeu u x.id),zag k1,zcq,kn.1,kn.2.trans k4⟩,(zbi [(1,some 1),(2,some 2)]),by simp⟩
 | nil =>
 have hz:=zbp k1;rw [zy4] at k1;rw [<- k1,hE2] at k2;subst k2;refine sN ?_;refine hQ _ _ ?_;conv=>whnf
 have hfe:=hES.fit
 (refine cP ?_;refine dL (Sco.zmd E.out E.cum hfe.out.len) ?_)
 refine sDm ?_;have hpl:1<=E.paths.length/\E.paths.length<=2:=by have:=hES.npaths;have:=zct hES.cfg;omega
 obtain ⟨hch,hch2⟩:=zdp (s:=E) zz0;obtain ⟨w,hw⟩:∃ w,E.paths[choose E]?=some w:=⟨_,zy2 hch2⟩
 have hc01:choose E=0\/choose E=1:=by omega
 have hge:=ydx (sk:=[]) hES.nums;have pc:=Paths.zkm E.paths zz0;rw [hch] at pc;generalize hF:forward ⟨E,[[],[]]⟩=F;refine zil.meet PUnit (fun _=>hs 331 [(1,.ptr 1 0),(2,.ptr 2 0),(9,.ptr 96 0)] (puH E F)) ?_ ?_
 . conv=>whnf
   by_cases f1:E.forward=true
   case neg =>
    rw [zud (.inl (by simpa using f1))] at hF;subst hF;refine zab (by simpa using f1) (zw ?_);exact ⟨⟨⟩,(zbi [(1,some 1),(2,some 2),(96,some 96),(900,none),(901,none)])⟩
   refine zac f1 (zw ?_);by_cases f2:(Sco.zea E.out E.cum).1>E.cum
   case neg =>
    rw [zud (.inr (by unfold Sco.zea at f2 ⊢;omega))] at hF;subst hF;refine zab (zy15 f2) (zw ?_);exact ⟨⟨⟩,(zbi [(1,some 1),(2,some 2),(96,some 96),(900,none),(901,none)])⟩
   refine zac (zy12 f2) (zw ?_);have fy:¬ (E.forward=false\/(Sco.zea E.out E.cum).1=E.cum):=by rintro (h | h);rw [f1] at h;cases h;omega
   rcases hc01 with hc | hc
   . rw [zws fy hw (l:=[]) (by rw [hc];rfl)] at hF
     rw [hc] at pc hw hF;subst hF
     (refine cL ?_;refine dL pc ?_)
     refine ⟨0,rfl,by decide,zw ?_⟩
     (refine cL ?_;refine dL (zdb _) ?_)
     refine zaa (c:=(1:Nat)*128<=140737488355328) zz4 (zw ?_);refine ⟨0,rfl,by decide,zw ?_⟩;refine sD ?_;refine zaa (c:=(([]:List (List PV)).length+(E.paths.map Path.row).length)*56<=140737488355328) zz3 (zw ?_)
     (try refine sG ?_)
     have hl:=(zy8.1 hw).1;refine sOm ?_;refine zam (l:=E.paths) hw rfl (zw ?_);by_cases c3:w.zcw=0
     case neg =>
      have hr:([]:List (List PV))++E.paths.map Path.row=(E.paths.set 0 (zcw E w)).map Path.row:=by rw [zqd c3,zlz hw];rfl
      refine zab (zy5.2 c3) (zw ?_);exact ⟨⟨⟩,(zph [158] [(1,some 1),(2,some 2),(96,some 96),(900,some 148),(901,none)] zz27)⟩
     have hr:(([]:List (List PV))++E.paths.map Path.row).set 0 ({w with zcw:=W (E.clock+w.wait)}:Path).row=(E.paths.set 0 (zcw E w)).map Path.row:=by rw [zmt c3,zy72];rfl
     refine zac (zy17.2 c3) (zw ?_);refine sOm ?_;refine zam (l:=E.paths) hw rfl (zw ?_);refine sRm ?_;refine sOm ?_;refine zam (l:=E.paths) hw rfl (zw ?_);refine sDm ?_;exact ⟨⟨⟩,(zph [158] [(1,some 1),(2,some 2),(96,some 96),(900,some 148),(901,none)] zz27)⟩
   . rw [zws fy hw (l:=[]) (by rw [hc];rfl)] at hF
     rw [hc] at pc hw hF;subst hF
     (refine cL ?_;refine dL pc ?_)
     refine ⟨1,rfl,by decide,zw ?_⟩
     (refine cL ?_;refine dL (zdb _) ?_)
     refine zaa (c:=(1:Nat)*128<=140737488355328) zz4 (zw ?_);refine ⟨1,rfl,by decide,zw ?_⟩;refine sD ?_;refine zaa (c:=(([]:List (List PV)).length+(E.paths.map Path.row).length)*56<=140737488355328) zz3 (zw ?_)
     (try refine sG ?_)
     have hl:=(zy8.1 hw).1;refine sOm ?_;refine zam (l:=E.paths) hw rfl (zw ?_);by_cases c3:w.zcw=0
     case neg =>
      have hr:([]:List (List PV))++E.paths.map Path.row=(E.paths.set 1 (zcw E w)).map Path.row:=by rw [zqd c3,zlz hw];rfl
      refine zab (zy5.2 c3) (zw ?_);exact ⟨⟨⟩,(zph [158] [(1,some 1),(2,some 2),(96,some 96),(900,none),(901,some 148)] zz28)⟩
     have hr:(([]:List (List PV))++E.paths.map Path.row).set 1 ({w with zcw:=W (E.clock+w.wait)}:Path).row=(E.paths.set 1 (zcw E w)).map Path.row:=by rw [zmt c3,zy72];rfl
     refine zac (zy17.2 c3) (zw ?_);refine sOm ?_;refine zam (l:=E.paths) hw rfl (zw ?_);refine sRm ?_;refine sOm ?_;refine zam (l:=E.paths) hw rfl (zw ?_);refine sDm ?_;exact ⟨⟨⟩,(zph [158] [(1,some 1),(2,some 2),(96,some 96),(900,none),(901,some 148)] zz28)⟩
 rintro ⟨⟩;have hFs:SI N F.s:=hF ▸ zhq hES;have hFL:SL F.s:=by unfold SL;rw [<- hF,zqk];exact hEL
 have hFo:F.out.length=2:=by rw [<- hF];unfold forward;split<;>simp [zfv]
 have hFp:F.s.paths.length=E.paths.length:=by rw [<- hF];unfold forward;split<;>simp [zfv]
 have hF01:(yih F.out).length<=1/\(yra F.out).length<=1:=by
  rw [<- hF];unfold forward;split
  . simp [yih,yra]
  . rcases hc01 with hc | hc<;>simp [hc,yih,yra,setAt]
 clear pc hge hw hc01 hch hch2 w;obtain ⟨hch,hch2⟩:=zdp (s:=F.s) zz0;have pc:=Paths.zkm F.s.paths zz0;rw [hch] at pc;have hc01:choose F.s=0\/choose F.s=1:=by omega
 generalize hcf:choose F.s=cf at pc hch2 hc01;have hFN:=hFs.len;have hNN:=hFs.few;have hFl:=hFs.fit.out.len;(conv=>whnf)
 (refine cL ?_;refine dL pc ?_)
 refine ⟨{x:Nat×zep // x.1<=F.s.out.length/\(List.range x.1).foldl (zcu (cf)) F=x.2/\SI N x.2.s/\x.2.out.length=2/\x.2.s.paths.length=E.paths.length/\x.2.s.out.length=F.s.out.length/\(yih x.2.out).length<=1+x.1/\(yra x.2.out).length<=1+x.1/\SL x.2.s},fun | ⟨(i,p),_⟩=>hs 331 [(1,.ptr 1 0),(2,.ptr 2 0),(9,.ptr 96 0),(14,i64 (cf)),(196,i64 F.s.out.length),(197,i64 i)] (puH E p),fun x=>F.s.out.length-x.1.1,⟨(0,F),zy103 _,rfl,hFs,hFo,hFp,rfl,hF01.1,hF01.2,hFL⟩,?_,?_⟩
 . exact (zay [(1,some 1),(2,some 2),(96,some 96),(900,some 900),(901,some 901)] (by repeat' (first | exact z0 | refine z1 ?_ | refine ⟨?_,?_⟩ | ((exact zbl (by simp))) | exact z2)))
 rintro ⟨⟨i,p⟩,k1,k2,k3,k4,k5,k6,k7,k8,k9⟩;dsimp only at k1 k2 k3 k4 k5 k6 k7 k8 k9;refine zci fun Q hQ=>?_
 (conv=>whnf);by_cases hi:i<F.s.out.length
 case pos =>
  obtain ⟨x,hx⟩:∃ x,p.s.out[i]?=some x:=⟨_,zy2 zz0⟩
  obtain ⟨w,hw⟩:∃ w,p.s.paths[cf]?=some w:=⟨_,zy2 zz0⟩
  have hst:=zji (zcu (cf)) F i;rw [k2] at hst;obtain ⟨ps,po⟩:=p;obtain ⟨a,c,hac⟩:∃ a c,po=[a,c]:=⟨_,_,xcc k4⟩
  subst hac;have k7:a.length<=1+i:=k7;have k8:c.length<=1+i:=k8;dsimp only at hx hw k3 k5 k6 hst;have hno:=zqb (o:=[a,c]) (c:=cf) hx hw;have hyes:=fun l (hl:[a,c][cf]?=some l)=>zms (o:=[a,c]) (c:=cf) (l:=l) hx hw hl
  refine sT ?_;refine zam hx rfl (zw ?_);by_cases d1:x.state=3
  case neg =>
   rw [hno fun h=>d1 h.1] at hst;refine zab (zy5.2 d1) (zw ?_);exact yy60
  refine zac (zy17.2 d1) (zw ?_);have po:=ybo ps a c (cf) w hw zz0;rw [show opened ps (cf)=decide (w.zaz<w.window) by rw [opened,hw]] at po;by_cases d2:w.zaz<w.window
  case neg =>
   rw [hno fun h=>d2 h.2] at hst;rw [zy15 d2] at po
   (refine zaf [] [(1000,96),(1007,900),(1008,901)] [] ?_;(conv=>whnf);refine dG po ?_)
   exact yy60
  rw [zy12 d2] at po
  (refine zaf [] [(1000,96),(1007,900),(1008,901)] [] ?_;(conv=>whnf);refine dG po ?_)
  have hyes:=fun l hl=>hyes l hl ⟨d1,d2⟩
  have hn:=zqa (p:=⟨ps,[a,c]⟩) k3 (path:=cf) (by show cf<ps.paths.length;omega) i;rcases hc01 with rfl | rfl
  . have hy:=hyes a rfl
    have hn1:=hn.1;have hn2:=hn.2;rw [hy] at hst hn1 hn2;have hfe:=zpd (p:=⟨ps,[a,c]⟩) (N:=N) (i:=i) (path:=0) (by rw [yab hx hw (l:=a) rfl];exact hn1) hx hw;rw [yab hx hw (l:=a) rfl] at hfe;have pf:=ybl false ps (zzf ps i 0 x w) a c i x hx hn1.fit.out zz0 hfe zz0
    (refine zaf [] [(1000,96),(1007,900),(1008,901)] [(0,970)] ?_;(conv=>whnf);refine dG pf ?_)
    refine sF ?_;refine hQ _ _ ?_;conv=>whnf
    exact ⟨⟨(i+1,⟨zzf ps i 0 x w,[a++[x.chunk],c]⟩),by dsimp only;omega,hst,hn1,rfl,hn2.trans k5,by show (ps.out.set i _).length=_;rw [zy25];exact k6,by show (a++[x.chunk]).length<=1+(i+1);rw [zy9];simp only [zy6,zy14];omega,by show c.length<=1+(i+1);omega,k9⟩,(zbi [(1,some 1),(2,some 2),(96,some 96),(900,some 970),(901,some 901)]),by dsimp only;omega⟩
  . have hy:=hyes c rfl
    have hn1:=hn.1;have hn2:=hn.2;rw [hy] at hst hn1 hn2;have hfe:=zpd (p:=⟨ps,[a,c]⟩) (N:=N) (i:=i) (path:=1) (by rw [yab hx hw (l:=c) rfl];exact hn1) hx hw;rw [yab hx hw (l:=c) rfl] at hfe;have pf:=ybm false ps (zzf ps i 1 x w) a c i x hx hn1.fit.out zz0 hfe zz0
    (refine zaf [] [(1000,96),(1007,900),(1008,901)] [(0,970)] ?_;(conv=>whnf);refine dG pf ?_)
    refine sF ?_;refine hQ _ _ ?_;conv=>whnf
    exact ⟨⟨(i+1,⟨zzf ps i 1 x w,[a,c++[x.chunk]]⟩),by dsimp only;omega,hst,hn1,rfl,hn2.trans k5,by show (ps.out.set i _).length=_;rw [zy25];exact k6,by show a.length<=1+(i+1);omega,by show (c++[x.chunk]).length<=1+(i+1);rw [zy9];simp only [zy6,zy14];omega,k9⟩,(zbi [(1,some 1),(2,some 2),(96,some 96),(900,some 900),(901,some 970)]),by dsimp only;omega⟩
 have hin:i=F.s.out.length:=by omega
 subst hin;have hag:again F=p:=by unfold again;rw [hcf];exact k2
 refine sN ?_;refine hQ _ _ ?_;conv=>whnf
 generalize hN61:zew 61 p=R;refine ⟨{x:Nat×zep // zew x.1 x.2=R/\SI N x.2.s/\x.2.out.length=2/\x.2.s.paths.length=E.paths.length/\61<=x.1+x.2.s.out.length/\x.1<=61/\(yih x.2.out).length+x.1<=62+F.s.out.length/\(yra x.2.out).length+x.1<=62+F.s.out.length/\SL x.2.s},fun | ⟨(j,p),_⟩=>hs 331 [(1,.ptr 1 0),(2,.ptr 2 0),(9,.ptr 96 0)] (puH E p),fun x=>x.1.1,⟨(61,p),hN61,k3,k4,k5,by dsimp only;omega,by dsimp only;omega,by dsimp only;omega,by dsimp only;omega,k9⟩,?_,?_⟩
 . exact (zbi [(1,some 1),(2,some 2),(96,some 96),(900,some 900),(901,some 901)])
 clear hQ Q k1 k2 k3 k4 k5 k6 k7 k8 k9 hi;rintro ⟨⟨j,p'⟩,k1,k3,k4,k5,k6,k6',k7,k8,k9⟩;dsimp only at k1 k3 k4 k5 k6 k6' k7 k8 k9;refine zci fun Q hQ=>?_
 (conv=>whnf);obtain ⟨ps,po⟩:=p';obtain ⟨a,c,hac⟩:∃ a c,po=[a,c]:=⟨_,_,xcc k4⟩
 subst hac;have k7:a.length+j<=62+F.s.out.length:=k7;have k8:c.length+j<=62+F.s.out.length:=k8;dsimp only at k3 k5 k6 k9;have pn:=zyj ps a c k3.pf.nfit (fun _=>k9) zz0 zz0 fun k m hm=>by
  have hc:=ywr k3 hm;have hx:(zrx ps k m).out[ps.out.length]?=some (⟨ps.next,m.id,0,0,0,0,m.came,m.message.life,m.message.tries,cut ps m (many ps m)⟩:zbq):=by
   show (ps.out++[_])[ps.out.length]?=_;rw [zy37 (zy28 _)];simp
  have hcl:=choose_lt' k3;obtain ⟨w,hw⟩:∃ w,ps.paths[choose ps]?=some w:=⟨_,zy2 hcl⟩
  have hfs:SI N (fly ⟨zrx ps k m,[a,c]⟩ ps.out.length (choose ps)).s:=yxh (p:=⟨zrx ps k m,[a,c]⟩) hc hx (by show (0:Int)≠1;decide) hcl;have hff:=zpd (p:=⟨zrx ps k m,[a,c]⟩) hfs hx hw;refine ⟨?_,hff⟩;have h:=hfs.fit.out;rw [<- hff] at h;exact h
 cases hnx:next ⟨ps,[a,c]⟩ with
 | some q =>
  rw [show nx ps [a,c]=(q,true) by rw [nx,hnx]] at pn;obtain ⟨t1,t2,t3,t4,t5,t6⟩:=xeh hnx;have hqs:=zss (p:=⟨ps,[a,c]⟩) k3 hnx;have hql:=yzg (p:=⟨ps,[a,c]⟩) k3 hnx;obtain ⟨j,rfl⟩:∃ j',j=j'+1:=⟨j-1,by omega⟩
  rw [zew,hnx] at k1
  (refine zaf [] [(1000,96),(1007,900),(1008,901)] [(0,980),(1,981)] ?_;(conv=>whnf);refine dG pn ?_)
  refine hQ _ _ ?_;conv=>whnf
  exact ⟨⟨(j,q),k1,hqs,t2,t3.trans k5,by dsimp only;omega,by dsimp only;omega,by dsimp only;omega,by dsimp only;omega,hql⟩,(zbi [(1,some 1),(2,some 2),(96,some 96),(900,some 980),(901,some 981)]),by dsimp only;omega⟩
 | none =>
 rw [show nx ps [a,c]=(⟨ps,[a,c]⟩,false) by rw [nx,hnx]] at pn;rw [zst hnx] at k1
 (refine zaf [] [(1000,96),(1007,900),(1008,901)] [(0,980),(1,981)] ?_;(conv=>whnf);refine dG pn ?_)
 refine hQ _ _ ?_;conv=>whnf
 subst k1;have hout:=k3.fit.out.len;clear hQ Q pn
 (refine cP ?_;refine dL (Sco.zmd ps.out ps.cum hout) ?_)
 refine sD ?_;generalize hZ:(Sco.zea ps.out ps.cum).1=Z;refine ⟨{x:List Path×List Path // ps.paths=x.1++x.2},fun | ⟨(A,B),_⟩=>hs 331 [(1,.ptr 1 0),(2,.ptr 2 0),(9,.ptr 96 0),(10,i64 Z),(16,.own 910),(240,zpx ps.paths),(241,i64 ps.paths.length),(242,i64 A.length)] ((910,xcj (A.map (zgi ps Z)))::puH E ⟨ps,[a,c]⟩),fun x=>x.1.2.length,⟨([],ps.paths),rfl⟩,?_,?_⟩
 . exact (zbi [(1,some 1),(2,some 2),(96,some 96),(900,some 980),(901,some 981),(910,none)])
 rintro ⟨⟨A,B⟩,h⟩;dsimp only at h;have hpql:ps.paths.length=A.length+B.length:=by rw [h];simp
 refine zci fun Q hQ=>?_
 (conv=>whnf);cases B with
 | cons x B =>
  have hz:=zbd h;refine sT ?_;refine zak h rfl (zw ?_)
  (try refine sG ?_)
  by_cases f1:x.zaz>0
  case pos =>
   refine zac (zy12 f1) (zw ?_);by_cases f2:x.zcw=0
   case pos =>
    have hwk:zgi ps Z x={x with zcw:=W (ps.clock+x.wait)}:=zy1 ⟨f1,f2⟩;refine zac (zy17.2 f2) (zw ?_);refine sR ?_;refine sD ?_;exact yy16
   have hwk:zgi ps Z x=x:=by unfold zgi;rw [zy0 (fun h=>f2 h.2),zy0 (fun h=>by omega)]
   refine zab (zy5.2 f2) (zw ?_)
   (try refine sG ?_)
   refine zab (zy5.2 zz0) (zw ?_)
   (try refine sG ?_)
   exact yy16
  refine zab (zy15 f1) (zw ?_)
  (try refine sG ?_)
  by_cases f3:x.zaz=0
  case neg =>
   have hwk:zgi ps Z x=x:=by unfold zgi;rw [zy0 (fun h=>f1 h.1),zy0 (fun h=>f3 h.1)]
   refine zab (zy5.2 f3) (zw ?_)
   (try refine sG ?_)
   exact yy16
  refine zac (zy17.2 f3) (zw ?_);by_cases f4:Z=ps.cum
  case neg =>
   have hwk:zgi ps Z x=x:=by unfold zgi;rw [zy0 (fun h=>f1 h.1),zy0 (fun h=>f4 h.2)]
   refine zab (zy5.2 f4) (zw ?_)
   (try refine sG ?_)
   exact yy16
  have hwk:zgi ps Z x={x with zcw:=0}:=by unfold zgi;rw [zy0 (fun h=>f1 h.1),zy1 ⟨f3,f4⟩]
  refine zac (zy17.2 f4) (zw ?_)
  (try refine sG ?_)
  exact yy16
 | nil =>
 have hz:=zbp h;rw [zy4] at h;subst h;refine sN ?_;refine hQ _ _ ?_;conv=>whnf
 clear hQ Q;have hok0:OK2 ⟨E,[[],[]]⟩:=by
  intro l hl x hx;simp at hl;rw [hl] at hx;cases hx
 have hok:OK2 ⟨ps,[a,c]⟩:=by
  rw [<- hN61,<- hag,<- hF];exact yic 61 (zqc (zhq hES)) (ywc (zhq hES) (yly hok0))
 have hP2:P=(yfi ps,zbr E.config.packet 0 [a,c]):=by
  obtain ⟨e1,e2⟩:=xfb hES zz0 E.config.packet;rw [hP,<- hER.paths,<- hER.config,<- e1,<- e2,hF,hag,hN61]
 have hka:∀ x∈a,Okc x:=hok a zz5;have hkc:∀ x∈c,Okc x:=hok c zz5;subst hZ;generalize hV:yfi ps=V at hP2;refine ⟨{k:Nat // k<=2},fun | ⟨k,_⟩=>hs 331 [(1,.ptr 1 0),(2,.ptr 2 0),(9,.ptr 96 0),(19,.own 920),(289,.agg [.p (.sl 11 (a.map Chunk.row)),.p (.sl 11 (c.map Chunk.row))]),(290,i64 k)] [(1,scS E),(2,sc0),(96,.live (.cells 148 (pdC V (Sch.qs V.queue) (ints V.sched.had) (Sco.zec V.out) (zpx V.paths) (ints V.mids) (ints V.fates) (.p (.sl 11 (a.map Chunk.row))) (.p (.sl 11 (c.map Chunk.row)))))),(920,zhu (zbr E.config.packet 0 ([a,c].take k)))],fun k=>2-k.1,⟨0,by omega⟩,?_,?_⟩
 . subst hV
   exact (zph [900,901,910] [(1,some 1),(2,some 2),(96,some 96),(920,none)] (by repeat' (first | exact z0 | refine z1 ?_ | refine ⟨?_,?_⟩ | exact z2)))
 rintro ⟨k,hk⟩;refine zci fun Q hQ=>?_
 (conv=>whnf);obtain rfl | rfl | rfl:k=0\/k=1\/k=2:=by omega
 . skip
   (try refine sG ?_)
   refine ⟨0,rfl,by decide,zw ?_⟩;refine ⟨{x:Nat×List Chunk×List zau // x.2.2++zfe E.config.packet 0 x.1 x.2.1=zbr E.config.packet 0 ([a,c].take (0+1))/\x.2.1.length<=x.1/\(∀ z∈x.2.1,Okc z)/\x.2.2.length+x.2.1.length<=2 ^ 36},fun | ⟨(n,L,acc),_⟩=>hs 331 [(1,.ptr 1 0),(2,.ptr 2 0),(9,.ptr 96 0),(19,.own 920),(20,i64 0),(21,.p (.sl 11 (L.map Chunk.row))),(289,.agg [.p (.sl 11 (a.map Chunk.row)),.p (.sl 11 (c.map Chunk.row))]),(290,i64 0)] [(1,scS E),(2,sc0),(96,.live (.cells 148 (pdC V (Sch.qs V.queue) (ints V.sched.had) (Sco.zec V.out) (zpx V.paths) (ints V.mids) (ints V.fates) (.p (.sl 11 (a.map Chunk.row))) (.p (.sl 11 (c.map Chunk.row)))))),(920,zhu acc)],fun x=>x.1.2.1.length,⟨(a.length,a,zbr E.config.packet 0 ([a,c].take 0)),xmm E.config.packet a c,zy28 _,hka,by have:=yzt E.config.packet a c;dsimp only at this ⊢;omega⟩,?_,?_⟩
   . exact (zbi [(1,some 1),(2,some 2),(96,some 96),(920,some 920)])
   rintro ⟨⟨n,L,acc⟩,i1,i2,i3,i4⟩;dsimp only at i1 i2 i3 i4;refine zci fun Q2 hQ2=>?_
   (conv=>whnf);cases L with
   | nil =>
    rw [znh,zy4] at i1;refine hQ2 _ _ (zw ?_);refine sF ?_;refine hQ _ _ ?_;conv=>whnf
    exact ⟨⟨0+1,by omega⟩,(zay [(1,some 1),(2,some 2),(96,some 96),(920,some 920)] zz90),by dsimp only;omega⟩
   | cons z L =>
   obtain ⟨r,r1,r2,r3⟩:=zxx (most:=E.config.packet) (l:=z::L) zz5;obtain ⟨n,rfl⟩:∃ n',n=n'+1:=⟨n-1,by rw [zy6] at i2;omega⟩
   refine sT ?_
   (refine cL ?_;refine dLm (Pck.yki (z::L) E.config.packet ⟨by omega,i3⟩) ?_)
   refine zil.meet PUnit (fun _=>hs 331 [(1,.ptr 1 0),(2,.ptr 2 0),(9,.ptr 96 0),(19,.own 920),(20,i64 0),(21,.p (.sl 11 ((z::L).map Chunk.row))),(22,i64 (zcc E.config.packet (z::L))),(289,.agg [.p (.sl 11 (a.map Chunk.row)),.p (.sl 11 (c.map Chunk.row))]),(290,i64 0)] [(1,scS E),(2,sc0),(96,.live (.cells 148 (pdC V (Sch.qs V.queue) (ints V.sched.had) (Sco.zec V.out) (zpx V.paths) (ints V.mids) (ints V.fates) (.p (.sl 11 (a.map Chunk.row))) (.p (.sl 11 (c.map Chunk.row)))))),(920,zhu acc)]) ?_ ?_
   . conv=>whnf
     exact yy49
   rintro ⟨⟩;(conv=>whnf)
   (try refine sG ?_)
   refine zaa zz6 (zw ?_);refine zgt (l:=z::L) zz118 ?_;(conv=>whnf);have hrt:(((z::L).drop 0).take (zcc E.config.packet (z::L)-0).toNat)=(z::L).take r:=by rw [zy107,r1];simp
   have pb:=Pck.zkn (((z::L).drop 0).take (zcc E.config.packet (z::L)-0).toNat) E.config.packet zz103;generalize hK:Pck.zcx (((z::L).drop 0).take (zcc E.config.packet (z::L)-0).toNat) E.config.packet=K at pb;rw [hrt] at hK;obtain ⟨bts,er⟩:=K
   (refine cP ?_;refine dL pb ?_)
   refine sD ?_;have hpn:zfe E.config.packet 0 (n+1) (z::L)=(if er=0 then [(⟨0,false,bts⟩:zau)] else [])++zfe E.config.packet 0 n ((z::L).drop r):=by
    rw [zfe,zy0 (by simp),zlf,r1,zy24,hK]
   rw [hpn] at i1;by_cases e:er=0
   case pos =>
    rw [zy1 e,<- zy26] at i1;refine zac (zy17.2 e) (zw ?_);refine zaa (c:=((acc.map zau.row).length+1)*40<=140737488355328) zz6 (zw ?_);have hr2:r=(zcc E.config.packet (z::L)).toNat:=by rw [r1,zy24]
    refine zaa zz6 (zw ?_);refine zft (l:=z::L) zz21 ?_;(conv=>whnf);refine hQ2 _ _ (zw ?_);exact ⟨⟨(n,(z::L).drop r,(acc++[⟨0,false,bts⟩])),i1,by dsimp only;rw [zy42];omega,fun x hx=>i3 x (zy63 hx),by dsimp only;rw [zy42];simp only [zy9,zy6,zy14] at i4 ⊢;omega⟩,(zay [(1,some 1),(2,some 2),(96,some 96),(920,some 321)] zz43),by dsimp only;rw [zy42];omega⟩
   case neg =>
    exact yy35
 . skip
   (try refine sG ?_)
   refine ⟨1,rfl,by decide,zw ?_⟩;refine ⟨{x:Nat×List Chunk×List zau // x.2.2++zfe E.config.packet 1 x.1 x.2.1=zbr E.config.packet 0 ([a,c].take (1+1))/\x.2.1.length<=x.1/\(∀ z∈x.2.1,Okc z)/\x.2.2.length+x.2.1.length<=2 ^ 36},fun | ⟨(n,L,acc),_⟩=>hs 331 [(1,.ptr 1 0),(2,.ptr 2 0),(9,.ptr 96 0),(19,.own 920),(20,i64 1),(21,.p (.sl 11 (L.map Chunk.row))),(289,.agg [.p (.sl 11 (a.map Chunk.row)),.p (.sl 11 (c.map Chunk.row))]),(290,i64 1)] [(1,scS E),(2,sc0),(96,.live (.cells 148 (pdC V (Sch.qs V.queue) (ints V.sched.had) (Sco.zec V.out) (zpx V.paths) (ints V.mids) (ints V.fates) (.p (.sl 11 (a.map Chunk.row))) (.p (.sl 11 (c.map Chunk.row)))))),(920,zhu acc)],fun x=>x.1.2.1.length,⟨(c.length,c,zbr E.config.packet 0 ([a,c].take 1)),xmn E.config.packet a c,zy28 _,hkc,by have:=yzu E.config.packet a c;dsimp only at this ⊢;omega⟩,?_,?_⟩
   . exact (zbi [(1,some 1),(2,some 2),(96,some 96),(920,some 920)])
   rintro ⟨⟨n,L,acc⟩,i1,i2,i3,i4⟩;dsimp only at i1 i2 i3 i4;refine zci fun Q2 hQ2=>?_
   (conv=>whnf);cases L with
   | nil =>
    rw [znh,zy4] at i1;refine hQ2 _ _ (zw ?_);refine sF ?_;refine hQ _ _ ?_;conv=>whnf
    exact ⟨⟨1+1,by omega⟩,(zay [(1,some 1),(2,some 2),(96,some 96),(920,some 920)] zz90),by dsimp only;omega⟩
   | cons z L =>
   obtain ⟨r,r1,r2,r3⟩:=zxx (most:=E.config.packet) (l:=z::L) zz5;obtain ⟨n,rfl⟩:∃ n',n=n'+1:=⟨n-1,by rw [zy6] at i2;omega⟩
   refine sT ?_
   (refine cL ?_;refine dLm (Pck.yki (z::L) E.config.packet ⟨by omega,i3⟩) ?_)
   refine zil.meet PUnit (fun _=>hs 331 [(1,.ptr 1 0),(2,.ptr 2 0),(9,.ptr 96 0),(19,.own 920),(20,i64 1),(21,.p (.sl 11 ((z::L).map Chunk.row))),(22,i64 (zcc E.config.packet (z::L))),(289,.agg [.p (.sl 11 (a.map Chunk.row)),.p (.sl 11 (c.map Chunk.row))]),(290,i64 1)] [(1,scS E),(2,sc0),(96,.live (.cells 148 (pdC V (Sch.qs V.queue) (ints V.sched.had) (Sco.zec V.out) (zpx V.paths) (ints V.mids) (ints V.fates) (.p (.sl 11 (a.map Chunk.row))) (.p (.sl 11 (c.map Chunk.row)))))),(920,zhu acc)]) ?_ ?_
   . conv=>whnf
     exact yy49
   rintro ⟨⟩;(conv=>whnf)
   (try refine sG ?_)
   refine zaa zz6 (zw ?_);refine zgt (l:=z::L) zz118 ?_;(conv=>whnf);have hrt:(((z::L).drop 0).take (zcc E.config.packet (z::L)-0).toNat)=(z::L).take r:=by rw [zy107,r1];simp
   have pb:=Pck.zkn (((z::L).drop 0).take (zcc E.config.packet (z::L)-0).toNat) E.config.packet zz103;generalize hK:Pck.zcx (((z::L).drop 0).take (zcc E.config.packet (z::L)-0).toNat) E.config.packet=K at pb;rw [hrt] at hK;obtain ⟨bts,er⟩:=K
   (refine cP ?_;refine dL pb ?_)
   refine sD ?_;have hpn:zfe E.config.packet 1 (n+1) (z::L)=(if er=0 then [(⟨1,false,bts⟩:zau)] else [])++zfe E.config.packet 1 n ((z::L).drop r):=by
    rw [zfe,zy0 (by simp),zlf,r1,zy24,hK]
   rw [hpn] at i1;by_cases e:er=0
   case pos =>
    rw [zy1 e,<- zy26] at i1;refine zac (zy17.2 e) (zw ?_);refine zaa (c:=((acc.map zau.row).length+1)*40<=140737488355328) zz6 (zw ?_);have hr2:r=(zcc E.config.packet (z::L)).toNat:=by rw [r1,zy24]
    refine zaa zz6 (zw ?_);refine zft (l:=z::L) zz21 ?_;(conv=>whnf);refine hQ2 _ _ (zw ?_);exact ⟨⟨(n,(z::L).drop r,(acc++[⟨1,false,bts⟩])),i1,by dsimp only;rw [zy42];omega,fun x hx=>i3 x (zy63 hx),by dsimp only;rw [zy42];simp only [zy9,zy6,zy14] at i4 ⊢;omega⟩,(zay [(1,some 1),(2,some 2),(96,some 96),(920,some 321)] zz43),by dsimp only;rw [zy42];omega⟩
   case neg =>
    exact yy35
 (try refine sG ?_)
 refine hQ _ _ ?_;conv=>whnf
 rw [hP2]
 try rfl
end Snd
namespace Snd
open Ser
theorem yvd (s:zae) (m:Message) (hs:Fit s) (hd:m.data.length<2 ^ 38) :
 zan Tryz.prog 32 [s.hv,m.hv] zad (.tup [(zpq s m).1.hv,i64 (zpq s m).2.1,i64 (zpq s m).2.2]) zad:=by
 obtain ⟨h1,h2,h3,h4,h5,h6,h7⟩:=hs;refine zal mixed Tryz.func32 zz4 ?_;(conv=>whnf)
 (repeat' (first | (refine zcg ?_;conv=>whnf) | (refine zaa ?_ ?_;(first | kernel_rfl | decide);conv=>whnf) | (refine zaw ?_ ?_;kernel_rfl;conv=>whnf) | (refine zil.go ?_;conv=>whnf) | (refine zah (fun h=>?_) (fun h=>?_)<;>conv=>whnf)))
 all_goals try simp only [zy45,zy52,zy17,zy5,zy34,zy35,zy3] at *
 all_goals first
  | (rw [zkj (e:=3) (by simp only [zeq];(repeat' split)<;>first | rfl | omega) (by decide)];rfl)
  | (rw [zkj (e:=4) (by simp only [zeq];(repeat' split)<;>first | rfl | omega) (by decide)];rfl)
  | (rw [zkj (e:=7) (by simp only [zeq];(repeat' split)<;>first | rfl | omega) (by decide)];rfl)
  | rw [zre (by simp only [zeq];(repeat' split)<;>first | rfl | omega)]
 refine zaa (c:=(([]:List (List PV)).length+s.queue.length)*96<=140737488355328) zz3 (zw ?_);refine zaa (c:=((([]:List (List PV))++s.queue.map zaj.row).length+1)*96<=140737488355328) zz3 (zw ?_);refine sD ?_;refine zaa (c:=(([]:List (List PV)).length+(s.fates.map fun n=>[pi n]).length)*8<=140737488355328) zz3 (zw ?_);refine zaa (c:=((([]:List (List PV))++s.fates.map fun n=>[pi n]).length+1)*8<=140737488355328) zz3 (zw ?_);have hq:(([]:List (List PV))++s.queue.map zaj.row)++[(⟨s.fates.length,-1,s.clock,0,0,m⟩:zaj).row]=(zgv s m).queue.map zaj.row:=by simp [zgv]
 have hf:(([]:List (List PV))++s.fates.map fun n=>[pi n])++[[pi 1]]=(zgv s m).fates.map fun n=>[pi n]:=by simp [zgv]
 show HV.tup [.agg (yek s (.p (.sl 10 ((([]:List (List PV))++s.queue.map zaj.row)++[(⟨s.fates.length,-1,s.clock,0,0,m⟩:zaj).row]))) (ints s.sched.had) (Sco.zec s.out) (zpx s.paths) (ints s.mids) (.p (.sl 1 ((([]:List (List PV))++s.fates.map fun n=>[pi n])++[[pi 1]])))),i64 s.fates.length,i64 0]=_;rw [hq,hf];rfl
def wrL (c:Config):List (Int×Int×Int):=[(c.streams,1,4),(c.paths,1,2),(c.part,1,16),(c.packet,40,120),(c.waiting,1,12),(c.first,0,65535)]
abbrev wrR (x:Int×Int×Int):List PV:=[pi x.1,pi x.2.1,pi x.2.2]
theorem xhd {c:Config} {x:Int×Int×Int} (hx:x∈wrL c) (h:x.1<x.2.1\/x.1>x.2.2):zjj c=3:=by
 have:c.streams<1\/c.streams>4\/c.paths<1\/c.paths>2\/c.part<1\/c.part>16\/c.packet<40\/c.packet>120\/c.waiting<1\/c.waiting>12\/c.first<0\/c.first>=65536:=by
  simp only [wrL,zy18,List.not_mem_nil,or_false] at hx;rcases hx with rfl | rfl | rfl | rfl | rfl | rfl<;>dsimp only at h<;>omega
 unfold zjj;rw [zy1 this]
theorem xoe {c:Config} (h:∀ x∈wrL c,¬ (x.1<x.2.1\/x.1>x.2.2)):zjj c=if c.turns<1\/c.turns>5 then 1 else 0:=by
 have h1:=h (c.streams,1,4) zz142;have h2:=h (c.paths,1,2) zz142;have h3:=h (c.part,1,16) zz142;have h4:=h (c.packet,40,120) zz142;have h5:=h (c.waiting,1,12) zz142;have h6:=h (c.first,0,65535) zz142;dsimp only at h1 h2 h3 h4 h5 h6;unfold zjj;rw [zy0 (by omega)]
theorem zhx (c:Config):zan Tryz.prog 59 [c.hv] zad (i64 (zjj c)) zad:=by
 refine zal mixed Tryz.func59 zz4 ?_;(conv=>whnf);refine ⟨{x:List (Int×Int×Int)×List (Int×Int×Int) // wrL c=x.1++x.2/\∀ y∈x.1,¬ (y.1<y.2.1\/y.1>y.2.2)},fun | ⟨(A,B),_⟩=>hs 50 [(1,.ptr 1 0),(23,.own 900),(24,i64 (wrL c).length),(25,i64 A.length)] [(1,.live (.cells 24 c.cells)),(900,.live (.row 103 3 ((wrL c).map wrR)))],fun x=>x.1.2.length,⟨([],wrL c),rfl,by simp⟩,?_,?_⟩
 . exact (zbi [(1,some 1),(900,some 23)])
 rintro ⟨⟨A,B⟩,h,hA⟩;dsimp only at h hA;(conv=>whnf);cases B with
 | cons x B =>
  have hz:=zbd h;have hx:=zgx h;have h6:(wrL c).length=6:=rfl;refine sT ?_;refine sO ?_;refine zak (f:=wrR) h rfl (zw ?_)
  (try refine sG ?_)
  refine ⟨0,rfl,by decide,zw ?_⟩;refine ⟨1,rfl,by decide,zw ?_⟩;by_cases c1:x.1<x.2.1
  case pos =>
   rw [xhd hx (.inl c1)];refine zac (zy12 c1) ?_;conv=>whnf
   try rfl
  refine zab (zy15 c1) (zw ?_);refine ⟨0,rfl,by decide,zw ?_⟩;refine ⟨2,rfl,by decide,zw ?_⟩;by_cases c2:x.1>x.2.2
  case pos =>
   rw [xhd hx (.inr c2)];refine zac (zy12 c2) ?_;conv=>whnf
   try rfl
  refine zab (zy15 c2) ?_;conv=>whnf
  (try refine sG ?_)
  refine sF ?_;exact ⟨⟨(A++[x],B),zag h,fun y hy=>by rcases zy13.1 hy with hy | hy;exact hA y hy;rw [zy11] at hy;subst hy;exact fun h=>h.elim c1 c2⟩,(zbi [(1,some 1),(900,some 900)]),by simp⟩
 | nil =>
  have hz:=zbp h;rw [zy4] at h;rw [<- h] at hA;rw [xoe hA];refine sN ?_;by_cases c1:c.turns<1
  case pos =>
   rw [zy1 (.inl c1)];refine zac (zy12 c1) ?_;conv=>whnf
   try rfl
  refine zab (zy15 c1) (zw ?_);by_cases c2:c.turns>5
  case pos =>
   rw [zy1 (.inr c2)];refine zac (zy12 c2) ?_;conv=>whnf
   try rfl
  rw [zy0 (fun h=>h.elim c1 c2)];refine zab (zy15 c2) ?_;conv=>whnf
  try rfl
theorem yuz (c:Config):zan Tryz.prog 27 [c.hv] zad (.tup [(yky c).1.hv,i64 (yky c).2]) zad:=by
 refine zal mixed Tryz.func27 zz4 ?_;(conv=>whnf)
 (refine cP ?_;refine dL (zhx c) ?_)
 by_cases c0:zjj c=0
 case neg =>
  rw [yky,zy0 c0];refine zac (zy85.2 c0) (zw ?_)
  try rfl
 rw [yky,zy1 c0];refine zab (by simpa using c0) (zw ?_)
 (try refine sG ?_)
 obtain ⟨b1,b2,b3,b4,b5,b6,b7,b8,b9,b10,b11,b12,-⟩:=zct c0;refine zao (z:=c.first-1) (zbs zz0 zz0) (zw ?_);refine zao (z:=c.first-1) (zbs zz0 zz0) (zw ?_);refine zao (z:=2*c.streams) (zbs zz0 zz0) (zw ?_);refine zaa (c:=0<=2*c.streams/\2*c.streams=2*c.streams/\2*c.streams*(8:Nat)<=140737488355328) ⟨by omega,rfl,by omega⟩ (zw ?_);refine zao (z:=c.streams-1) (zbs zz0 zz0) (zw ?_);refine zaa (c:=0<=c.streams/\c.streams=c.streams/\c.streams*(8:Nat)<=140737488355328) ⟨by omega,rfl,by omega⟩ (zw ?_);refine sD ?_;have hsl:c.streams-1=(Sch.new c.streams).last:=(zbs zz0 zz0).symm;refine ⟨{i:Nat // (i:Int)<=c.paths},fun | ⟨i,_⟩=>hs 51 [(1,.ptr 1 0),(2,.ptr 2 0),(5,.ptr 5 0),(34,i64 c.paths),(35,i64 i)] [(1,.live (.cells 24 [i64 c.streams,i64 c.part,i64 c.packet,i64 c.paths,i64 (c).turns,i64 c.waiting,i64 c.first])),(2,sc0),(5,.live (.cells 32 (yek (zoq c) zej (.own 901) zej (.own 900) (.own 902) zej))),(900,xcj (List.replicate i (Paths.new c.part))),(901,zzb (Sch.new c.streams).had),(902,zzb (List.replicate (2*c.streams).toNat 0))],fun i=>c.paths.toNat-i.1,⟨0,by omega⟩,?_,?_⟩
 . exact (zay [(1,some 1),(2,some 2),(5,some 5),(900,none),(901,some 30),(902,some 24)] (by repeat' (first | exact z0 | refine z1 ?_ | refine ⟨?_,?_⟩ | ((exact zas (by rw [zy83];rfl))) | ((refine zas ?_;rw [show (Sch.new c.streams).had=List.replicate (max c.streams 0).toNat 0 from rfl,zy83,show max c.streams 0=c.streams by omega];rfl)) | ((exact congrArg (fun z=>zai.live (.cells 32 (yek {zoq c with sched:=⟨z,-1,[]⟩} zej (.own 30) zej zej (.own 24) zej))) hsl)) | exact z2)))
 rintro ⟨i,k1⟩;(conv=>whnf);by_cases hi:(i:Int)<c.paths
 case pos =>
  refine sT ?_;refine sR ?_;refine sR ?_;refine zaa (c:=(((List.replicate i (Paths.new c.part)).map Path.row).length+1)*56<=140737488355328) zz3 (zw ?_);refine sF ?_;exact ⟨⟨i+1,by omega⟩,(zay [(1,some 1),(2,some 2),(5,some 5),(900,some 47),(901,some 901),(902,some 902)] zz65),by dsimp only;omega⟩
 case neg =>
  have hin:c.paths.toNat=i:=by omega
  refine sN ?_;rw [show (zoq c)={zoq c with paths:=List.replicate i (Paths.new c.part)} by rw [<- hin];rfl]
  try rfl
end Snd
namespace Snd
open Ser
theorem SL.side {s t:zae} (h:SL s) (e:t.sched=s.sched):SL t:=by unfold SL;rw [e];exact h
theorem yjp (s:zae):(Snd.settle s).sched=s.sched:=rfl
theorem xim {s:zae} (h:SL s) (c:Chunk):SL (zyy s c):=by
 unfold zyy;split
 . exact h
 split
 . exact h
 rw [zlu];refine h.side ?_;rw [yjp];unfold zfs;have hU:∀ p l,(zgn p (zhl s c (Sco.zgj s.out s.cum c s.paths.length)) l).sched=s.sched:=fun p l=>by
  unfold zgn;split
  . rfl
  . split<;>rfl
 split
 . exact hU _ _
 . exact hU _ _
theorem zxc (part:Int):∀ (l:List Nat) (s:zae),(l.foldl (zhs part) s).sched=s.sched
 | [],_=>rfl
 | i::l,s=>by
  rw [zy49,zxc part l];unfold zhs;split
  . rfl
  split
  . rfl
  . dsimp only;split<;>rfl
theorem xbz {s:zae} (h:SL s):SL (tick s):=h.side (zxc _ _ _)
theorem ztw {path:Nat}:∀ (l:List Nat) (p:zep),(l.foldl (zcu path) p).s.sched=p.s.sched
 | [],_=>rfl
 | i::l,p=>by
  rw [zy49,ztw l];unfold zcu;split
  . rfl
  . split
    . exact ygr _ _ _
    . rfl
theorem yqz {N:Nat}:∀ (n:Nat) {p:zep},SI N p.s->SL p.s->SL (zew n p).s
 | 0,_,_,h=>h
 | n+1,p,hS,h=>by
  rw [zew];cases hq:next p with
  | none=>exact h
  | some q=>exact yqz n (zss hS hq) (yzg hS hq)
theorem xjo {N:Nat} {s:zae} (hS:SI N s) (h:SL s):SL (zit s).1:=by
 have h1:=ygl h;have s1:=(zqj hS).1;have s2:=zhq (o:=List.replicate s.paths.length []) s1;have h2:SL (forward ⟨expire s,List.replicate s.paths.length []⟩).s:=h1.side (zqk _);have h3:SL (again (forward ⟨expire s,List.replicate s.paths.length []⟩)).s:=h2.side (ztw _ _);exact (yqz 61 (zqc s2) h3).side rfl
theorem xiy {c:Config} (h:zjj c=0):SL (zoq c):=by
 have hw:=zct h;have e1:(zoq c).sched=Sch.new c.streams:=rfl;unfold SL;rw [e1];unfold Sch.new;dsimp only;rw [zbs (by omega) (by omega),zy96];omega
end Snd
namespace Ln
open Ser
theorem yps {back:Bool}:∀ (cs:List Chunk) {x:zeb×Bool},Snd.SL x.1.sender->Snd.SL (cs.foldl (zfy back) x).1.sender
 | [],_,h=>h
 | c::cs,x,h=>by
  refine yps (back:=back) cs ?_;unfold zfy;split
  . exact Snd.xim h c
  split
  . exact h
  split
  . exact h
  . exact h
theorem ywo {l:zeb} (h:Snd.SL l.sender) (p:zau):Snd.SL (zga l p).sender:=by
 have h2:Snd.SL (ziy l p).1.sender:=yps (back:=p.back) _ (x:=(l,false)) h;unfold zga;split
 . exact h
 split
 . unfold told;split<;>exact h2
 . exact h2
theorem zwn {N:Nat} {l:zeb} (hS:Snd.SI N l.sender) (h:Snd.SL l.sender):Snd.SL (emit l).sender:=Snd.xjo hS h
theorem xln {N M:Nat} {l:zeb} (h:LI N M l) (hl:Snd.SL l.sender) (x:Step) (hN:N+1<=2 ^ 20) (hM:M+120<=2000000):Snd.SL (doS l x).1.sender:=by
 unfold doS;split
 . split
   . rename_i e
     exact zwn (l:={l with sender:=Snd.zgv l.sender x.message}) (Snd.zte h.snd e hN) (hl.side rfl)
   . exact hl
 split
 . split
   . exact hl
   split
   . exact hl
   rename_i p hp;have hb:=h.bytes p (zy7 hp);split
   . exact zwn (l:={l with way:=zmo l.way [p]}) h.snd hl
   . split
     . exact zwn (zwi (l:={l with way:=l.way.eraseIdx x.n.toNat}) ⟨h.snd,h.rcv,h.small,by show (l.way.eraseIdx _).length<=40;have:=h.way;rw [zy78];split<;>omega,fun q hq=>h.bytes q (zy60 hq)⟩ hb hM).snd (ywo (l:={l with way:=l.way.eraseIdx x.n.toNat}) hl p)
     . exact zwn (l:={l with way:=l.way.eraseIdx x.n.toNat}) h.snd hl
 split
 . exact zwn (l:={l with sender:=Snd.tick l.sender}) (Snd.zto h.snd) (Snd.xbz hl)
 . exact hl
theorem ykh {N M:Nat} (l:zeb) (p:zau) (h:LI N M l) (hM:M+120<=2000000) (hp:p.bytes.length<=120) {rows:List (List PV)} (hr:rows=l.way.map zau.row) :
 zan Tryz.prog 108 [.agg (lnC l.sender l.receiver (.p (.sl 3 rows))),p.hv] zad (zga l p).hv zad:=by
 subst hr;exact yut l p h hM hp
theorem xfl {N M:Nat} (l:zeb) (x:Step) (h:LI N M l) (hsl:Snd.SL l.sender) (hN:N+1<=2 ^ 20) (hM:M+120<=2000000) (hx:x.message.data.length<2 ^ 38) :
 zan Tryz.prog 44 [l.hv,x.hv] zad (.tup [(doS l x).1.hv,(doS l x).2.hv]) zad:=by
 have hway:=h.way;have hby:=h.bytes;generalize hT:doS l x=T;rw [doS] at hT;refine zal mixed Tryz.func44 zz4 ?_;(conv=>whnf)
 (try refine sG ?_)
 by_cases c1:x.kind=1
 case pos =>
  rw [zy1 c1] at hT;refine zac (zy17.2 c1) (zw ?_);have ps:=Snd.yvd l.sender x.message h.snd.fit hx;by_cases e1:Snd.zeq l.sender x.message=0
  case pos =>
   rw [zy1 e1] at hT;rw [Snd.zre e1] at ps;dsimp only at ps
   (refine cP ?_;refine dL ps ?_)
   (try refine sG ?_)
   have hy:=(show LI (N+1) M {l with sender:=Snd.zgv l.sender x.message} from ⟨Snd.zte h.snd e1 hN,h.rcv,h.small,h.way,h.bytes⟩)
   have hyl:=(show Snd.SL (Snd.zgv l.sender x.message) from hsl.side rfl)
   have hyw:=hy.way;have pp:=Snd.zln (({l with sender:=Snd.zgv l.sender x.message}:zeb)).sender hy.snd hyl;have pu:=zjv (({l with sender:=Snd.zgv l.sender x.message}:zeb)).way (Snd.zit (({l with sender:=Snd.zgv l.sender x.message}:zeb)).sender).2 hyw (Snd.zhy hy.snd) (rows:=(l.way.map zau.row)) (rfl);unfold emit at hT;generalize Snd.zit (({l with sender:=Snd.zgv l.sender x.message}:zeb)).sender=PP at hT pp pu;exact yy29
  case neg =>
   rw [zy0 e1] at hT;subst hT;rw [Snd.zkj rfl e1] at ps;dsimp only at ps
   (refine cP ?_;refine dL ps ?_)
   refine zac (zy85.2 e1) (zw ?_)
   try rfl
 rw [zy0 c1] at hT;refine zab (zy5.2 c1) (zw ?_)
 (try refine sG ?_)
 by_cases c2:x.kind=2\/x.kind=3\/x.kind=4
 case neg =>
  rw [zy0 c2] at hT;have c2:=not_or.1 c2;have c3:=not_or.1 c2.2;refine zab (zy5.2 c2.1) (zw ?_)
  (try refine sG ?_)
  refine zab (zy5.2 c3.1) (zw ?_)
  (try refine sG ?_)
  refine zab (zy5.2 c3.2) (zw ?_)
  (try refine sG ?_)
  by_cases c5:x.kind=5
  case pos =>
   rw [zy1 c5] at hT;refine zac (zy17.2 c5) (zw ?_)
   (refine cP ?_;refine dL (Snd.yve l.sender h.snd) ?_)
   have hy:=(show LI N M {l with sender:=Snd.tick l.sender} from ⟨Snd.zto h.snd,h.rcv,h.small,h.way,h.bytes⟩)
   have hyl:=(Snd.xbz hsl)
   have hyw:=hy.way;have pp:=Snd.zln (({l with sender:=Snd.tick l.sender}:zeb)).sender hy.snd hyl;have pu:=zjv (({l with sender:=Snd.tick l.sender}:zeb)).way (Snd.zit (({l with sender:=Snd.tick l.sender}:zeb)).sender).2 hyw (Snd.zhy hy.snd) (rows:=(l.way.map zau.row)) (rfl);unfold emit at hT;generalize Snd.zit (({l with sender:=Snd.tick l.sender}:zeb)).sender=PP at hT pp pu;exact yy29
  case neg =>
   rw [zy0 c5] at hT;subst hT;refine zab (zy5.2 c5) (zw ?_)
   try rfl
 rw [zy1 c2] at hT;have c6:x.kind=2\/x.kind≠2/\(x.kind=3\/x.kind≠3/\x.kind=4):=by omega
 rcases c6 with c6 | ⟨c8,c6 | ⟨c7,c6⟩⟩
 . refine zac (zy17.2 c6) (zw ?_)
   (try refine sG ?_)
   try (refine zac (zy17.2 c6) ?_;conv=>whnf)
   by_cases n0:x.n<0
   case pos =>
    rw [zy1 n0] at hT;subst hT;refine zac (zy12 n0) (zw ?_)
    try rfl
   rw [zy0 n0] at hT;refine zab (zy15 n0) (zw ?_);cases hp:l.way[x.n.toNat]? with
   | none =>
    exact yy98
   | some p =>
   rw [hp] at hT;dsimp only at hT;have hlt:=(zy8.1 hp).1;have hpb:=hby p (zy7 hp);have her:l.way.eraseIdx x.n.toNat=l.way.take x.n.toNat++l.way.drop (x.n.toNat+1):=zy71 _ _;refine zab (zy15 zz6) (zw ?_)
   (try refine sG ?_)
   refine Snd.zam hp zz0 (zw ?_)
   (try refine sG ?_)
   rw [zy0 (by omega),zy1 c6] at hT;refine zab (zy5.2 zz0) (zw ?_);refine zaa zz6 (zw ?_);refine zgt (l:=l.way) zz141 ?_;(conv=>whnf);refine zaa (c:=(([]:List (List PV)).length+(((l.way.drop 0).take (x.n-0).toNat).map zau.row).length)*40<=140737488355328) zz123 (zw ?_);refine zao (z:=x.n+1) (zbs zz0 zz0) (zw ?_);refine zaa zz6 (zw ?_);refine zft (l:=l.way) zz79 ?_;(conv=>whnf);refine zaa (c:=((([]:List (List PV))++((l.way.drop 0).take (x.n-0).toNat).map zau.row).length+((l.way.drop (x.n+1).toNat).map zau.row).length)*40<=140737488355328) zz88 (zw ?_);refine sD ?_;have zqp:(([]:List (List PV))++((l.way.drop 0).take (x.n-0).toNat).map zau.row)++(l.way.drop (x.n+1).toNat).map zau.row=(l.way.eraseIdx x.n.toNat).map zau.row:=by
    rw [her,zy39,zy66,zy107,show (x.n-0).toNat=x.n.toNat by omega,show (x.n+1).toNat=x.n.toNat+1 by omega]
   have hli:LI N M {l with way:=l.way.eraseIdx x.n.toNat}:=⟨h.snd,h.rcv,h.small,by show (l.way.eraseIdx _).length<=40;rw [zy78];split<;>omega,fun q hq=>hby q (zy60 hq)⟩
   refine zac (zy17.2 c6) (zw ?_);have hcl:=zwi hli hpb hM;have hcs:=ywo (l:={l with way:=l.way.eraseIdx x.n.toNat}) hsl p;have pc:=ykh {l with way:=l.way.eraseIdx x.n.toNat} p hli hM hpb zqp;generalize zga {l with way:=l.way.eraseIdx x.n.toNat} p=Y at hT hcl hcs pc
   (refine cP ?_;refine dL pc ?_)
   have hy:=hcl;have hyl:=hcs;have hyw:=hy.way;have pp:=Snd.zln (Y).sender hy.snd hyl;have pu:=zjv (Y).way (Snd.zit (Y).sender).2 hyw (Snd.zhy hy.snd) (rows:=(Y.way.map zau.row)) (rfl);unfold emit at hT;generalize Snd.zit (Y).sender=PP at hT pp pu;exact yy29
 . refine zab (zy5.2 c8) (zw ?_)
   (try refine sG ?_)
   refine zac (zy17.2 c6) (zw ?_)
   (try refine sG ?_)
   try (refine zac (zy17.2 c6) ?_;conv=>whnf)
   by_cases n0:x.n<0
   case pos =>
    rw [zy1 n0] at hT;subst hT;refine zac (zy12 n0) (zw ?_)
    try rfl
   rw [zy0 n0] at hT;refine zab (zy15 n0) (zw ?_);cases hp:l.way[x.n.toNat]? with
   | none =>
    exact yy98
   | some p =>
   rw [hp] at hT;dsimp only at hT;have hlt:=(zy8.1 hp).1;have hpb:=hby p (zy7 hp);have her:l.way.eraseIdx x.n.toNat=l.way.take x.n.toNat++l.way.drop (x.n.toNat+1):=zy71 _ _;refine zab (zy15 zz6) (zw ?_)
   (try refine sG ?_)
   refine Snd.zam hp zz0 (zw ?_)
   (try refine sG ?_)
   rw [zy0 (by omega),zy0 c8] at hT;refine zab (zy5.2 zz0) (zw ?_);refine zaa zz6 (zw ?_);refine zgt (l:=l.way) zz141 ?_;(conv=>whnf);refine zaa (c:=(([]:List (List PV)).length+(((l.way.drop 0).take (x.n-0).toNat).map zau.row).length)*40<=140737488355328) zz123 (zw ?_);refine zao (z:=x.n+1) (zbs zz0 zz0) (zw ?_);refine zaa zz6 (zw ?_);refine zft (l:=l.way) zz79 ?_;(conv=>whnf);refine zaa (c:=((([]:List (List PV))++((l.way.drop 0).take (x.n-0).toNat).map zau.row).length+((l.way.drop (x.n+1).toNat).map zau.row).length)*40<=140737488355328) zz88 (zw ?_);refine sD ?_;have zqp:(([]:List (List PV))++((l.way.drop 0).take (x.n-0).toNat).map zau.row)++(l.way.drop (x.n+1).toNat).map zau.row=(l.way.eraseIdx x.n.toNat).map zau.row:=by
    rw [her,zy39,zy66,zy107,show (x.n-0).toNat=x.n.toNat by omega,show (x.n+1).toNat=x.n.toNat+1 by omega]
   have hli:LI N M {l with way:=l.way.eraseIdx x.n.toNat}:=⟨h.snd,h.rcv,h.small,by show (l.way.eraseIdx _).length<=40;rw [zy78];split<;>omega,fun q hq=>hby q (zy60 hq)⟩
   refine zab (zy5.2 c8) (zw ?_);have hy:=hli;have hyl:=hsl;have hyw:=hy.way;have pp:=Snd.zln (({l with way:=l.way.eraseIdx x.n.toNat}:zeb)).sender hy.snd hyl;have pu:=zjv (({l with way:=l.way.eraseIdx x.n.toNat}:zeb)).way (Snd.zit (({l with way:=l.way.eraseIdx x.n.toNat}:zeb)).sender).2 hyw (Snd.zhy hy.snd) (rows:=_) (zqp);unfold emit at hT;generalize Snd.zit (({l with way:=l.way.eraseIdx x.n.toNat}:zeb)).sender=PP at hT pp pu;exact yy29
 . refine zab (zy5.2 c8) (zw ?_)
   (try refine sG ?_)
   refine zab (zy5.2 c7) (zw ?_)
   (try refine sG ?_)
   refine zac (zy17.2 c6) (zw ?_)
   (try refine sG ?_)
   try (refine zac (zy17.2 c6) ?_;conv=>whnf)
   by_cases n0:x.n<0
   case pos =>
    rw [zy1 n0] at hT;subst hT;refine zac (zy12 n0) (zw ?_)
    try rfl
   rw [zy0 n0] at hT;refine zab (zy15 n0) (zw ?_);cases hp:l.way[x.n.toNat]? with
   | none =>
    exact yy98
   | some p =>
   rw [hp] at hT;dsimp only at hT;have hlt:=(zy8.1 hp).1;have hpb:=hby p (zy7 hp);have her:l.way.eraseIdx x.n.toNat=l.way.take x.n.toNat++l.way.drop (x.n.toNat+1):=zy71 _ _;refine zab (zy15 zz6) (zw ?_)
   (try refine sG ?_)
   refine Snd.zam hp zz0 (zw ?_)
   (try refine sG ?_)
   rw [zy1 c6] at hT;refine zac (zy17.2 c6) (zw ?_)
   (refine cP ?_;refine dL (zyk l.way [p] hway zz5) ?_)
   have xde:LI N M {l with way:=zmo l.way [p]}:=yaw h fun q hq=>by rw [zy11] at hq;subst hq;exact hpb
   have hy:=xde;have hyl:=hsl;have hyw:=hy.way;have pp:=Snd.zln (({l with way:=zmo l.way [p]}:zeb)).sender hy.snd hyl;have pu:=zjv (({l with way:=zmo l.way [p]}:zeb)).way (Snd.zit (({l with way:=zmo l.way [p]}:zeb)).sender).2 hyw (Snd.zhy hy.snd) (rows:=((zmo l.way [p]).map zau.row)) (rfl);unfold emit at hT;generalize Snd.zit (({l with way:=zmo l.way [p]}:zeb)).sender=PP at hT pp pu;exact yy29
end Ln
namespace Ln
open Ser
theorem yva (c:Config):zan Tryz.prog 43 [c.hv] zad (.tup [(zuy c).1.hv,i64 (zuy c).2]) zad:=by
 refine zal mixed Tryz.func43 zz4 ?_;(conv=>whnf);have pn:=Snd.yuz c;by_cases c1:Snd.zjj c=0
 case neg =>
  rw [show zuy c=(noL,Snd.zjj c) from zy0 c1];rw [show Snd.yky c=(Snd.noS,Snd.zjj c) from zy0 c1] at pn
  (refine cP ?_;refine dL pn ?_)
  refine zac (zy85.2 c1) (zw ?_)
  try rfl
 have hw:=Snd.zct c1;rw [show zuy c=(zhm c,0) from zy1 c1];rw [show Snd.yky c=(Snd.zoq c,0) from zy1 c1] at pn
 (refine cP ?_;refine dL pn ?_)
 (try refine sG ?_)
 (refine cP ?_;refine dL (Rcv.yuy c zz0 zz0 zz0) ?_)
 ((refine zaw ?_ ?_;(· kernel_rfl);conv=>whnf);try refine sG ?_)
 try rfl
theorem zyi (c:Config) (l:List Step) (c1:Snd.zjj c=0) (hb:∀ x∈l,x.message.data.length<2 ^ 38) :
 zan Tryz.prog 30 [c.hv,yvn l] zad (.tup [(zkg (zhm c) (l.take 200)).1.hv,.p (.sl 2 ((zkg (zhm c) (l.take 200)).2.map Answer.row))]) zad:=by
 refine zal mixed Tryz.func30 zz4 ?_;generalize hT:zkg (zhm c) (l.take 200)=T;(conv=>whnf);have pn:=yva c;rw [show zuy c=(zhm c,0) from zy1 c1] at pn
 (refine cP ?_;refine dL pn ?_)
 (try refine sG ?_)
 refine ⟨{x:(zeb×List Answer)×List Step×List Step // l=x.2.1++x.2.2/\x.2.1.length<=200/\zkg (zhm c) x.2.1=x.1/\LI x.2.1.length (120*x.2.1.length) x.1.1/\Snd.SL x.1.1.sender},fun | ⟨((y,az),A,B),_⟩=>hs 44 [(4,.ptr 4 0),(6,.ptr 6 0),(8,.own 900),(21,yvn l),(22,i64 l.length),(23,i64 A.length)] [(4,.live (.cells 40 xmz)),(6,lnL y),(900,xjs az)],fun x=>x.1.2.2.length,⟨((zhm c,[]),[],l),rfl,by simp,rfl,zxg c1,Snd.xiy c1⟩,?_,?_⟩
 . exact (zbi [(4,some 4),(6,some 6),(900,none)])
 rintro ⟨⟨⟨y,az⟩,A,B⟩,k1,k0,k2,k3,k4⟩;dsimp only at k1 k0 k2 k3 k4;refine zci fun Q hQ=>?_
 (conv=>whnf);have hal:az.length=A.length:=by have:=zrb A (zhm c);rw [k2] at this;exact this
 cases B with
 | cons x B =>
  have hz:=zbd k1;have hxd:=hb x (zgx k1);have hnx:=yiz (zhm c) A x;rw [k2] at hnx;dsimp only at hnx;refine sT ?_;refine zak k1 rfl (zw ?_)
  (try refine sG ?_)
  by_cases c2:A.length=200
  case pos =>
   have ht:l.take 200=A:=by rw [k1,<- c2,zy140]
   rw [ht,k2] at hT;subst hT;refine zac (zy17.2 zz0) (zw ?_);refine hQ _ _ ?_;conv=>whnf
   try rfl
  have hli:=yoo k3 x zz0 zz0;have hsl:=xln k3 k4 x zz0 zz0;have pd:=xfl y x k3 k4 zz0 zz0 hxd;generalize doS y x=D at hnx hli hsl pd;obtain ⟨z,a⟩:=D;dsimp only at hnx hli hsl pd;refine zab (zy5.2 zz0) (zw ?_)
  (try refine sG ?_)
  (refine cP ?_;refine dL pd ?_)
  refine zaa (c:=((az.map Answer.row).length+1)*16<=140737488355328) zz6 (zw ?_);refine sF ?_;refine hQ _ _ ?_;conv=>whnf
  exact ⟨⟨((z,az++[a]),A++[x],B),zag k1,by simp;omega,hnx,by rw [zy9,zy55,show 120*(A.length+1)=120*A.length+120 by omega];exact hli,hsl⟩,(zay [(4,some 4),(6,some 6),(900,some 40)] zz75),by simp⟩
 | nil =>
  have hz:=zbp k1;rw [zy4] at k1;have ht:l.take 200=A:=by rw [k1,zy31 k0]
  rw [ht,k2] at hT;subst hT;refine sN ?_;refine hQ _ _ ?_;conv=>whnf
  try rfl
end Ln
namespace Snd
open Ser
end Snd
namespace Ln
open Ser
end Ln
namespace Gh
open Ser Snd Ln
def zzi:Message:=⟨0,true,0,0,[104,101,108,108,111]⟩
def zuu:zbk:=⟨0,0,true,[104,101,108,108,111]⟩
def zmp:Step:=⟨1,0,zzi⟩
def xos:zeb:=(doS (zhm ylj) zmp).1
theorem xgn (y:zeb):doS y (stp 1)=(y,⟨4,0⟩)\/doS y (stp 1)=(y,⟨3,0⟩):=by
 by_cases h:(0:Int)>=y.sender.config.streams
 . right
   unfold doS zeq;simp [stp,h]
 . left
   unfold doS zeq;simp [stp,h]
theorem xgm:(doS (zhm ylj) zmp).2=⟨0,0⟩:=by kernel_rfl
theorem xgp:(doS (zhm ylj) zmp).1.sender.fates=[1]:=by kernel_rfl
theorem xmb:zje [zmp,stp 1] (zkg (zhm ylj) [zmp,stp 1]).2=[zzi]:=by
 simp only [zkg];rcases xgn xos with h | h
 . have h:doS (doS (zhm ylj) zmp).1 (stp 1)=_:=h
   rw [h,xgm];rfl
 . have h:doS (doS (zhm ylj) zmp).1 (stp 1)=_:=h
   rw [h,xgm];rfl
theorem xgo:(zkg (zhm ylj) [zmp,stp 1]).1.sender.fates=[1]:=by
 simp only [zkg];rcases xgn xos with h | h
 . have h:doS (doS (zhm ylj) zmp).1 (stp 1)=_:=h
   rw [h];exact xgp
 . have h:doS (doS (zhm ylj) zmp).1 (stp 1)=_:=h
   rw [h];exact xgp
theorem yla {X:zeb} {az:List Answer} (p0:zan Tryz.prog 58 [ylj.hv,yvn [zmp,stp 1]] zad (.tup [msgs [zzi],i64 0]) zad) (p1:zan Tryz.prog 30 [ylj.hv,yvn [zmp,stp 1]] zad (.tup [X.hv,xnh az]) zad)
 (p2:zan Tryz.prog 61 [X.hv] zad (.agg [i64 1,i64 0,i64 0]) zad) (p3:zan Tryz.prog 62 [msgs [zzi],zuv [zuu]] zad (zbj true) zad)
 (p4:zan Tryz.prog 62 [msgs [],zuv [zuu]] zad (zbj false) zad) (p5:zan Tryz.prog 62 [msgs [zzi],zuv [zuu,zuu]] zad (zbj false) zad):zan Tryz.prog 64 [] zad (zbj true) zad:=by
 refine zal mixed Tryz.func64 zz4 ?_;(conv=>whnf)
 ((refine zaa ?_ ?_;(· first | kernel_rfl | exact om);conv=>whnf);try refine sG ?_)
 (refine cP ?_;refine dL p0 ?_)
 (refine cP ?_;refine dL p1 ?_)
 ((refine zaa ?_ ?_;(· first | kernel_rfl | exact om);conv=>whnf);try refine sG ?_)
 (refine cP ?_;refine dLm p2 ?_)
 refine ⟨by rfl,zw ?_⟩
 (refine cL ?_;refine dLm p3 ?_)
 (refine cL ?_;refine dLm p4 ?_)
 refine zaa (by decide +kernel) (zw ?_)
 (refine cL ?_;refine dLm p5 ?_)
 try rfl
theorem yjt:zan Tryz.prog 64 [] zad (zbj true) zad:=by
 have p0:=ybp ylj [zmp,stp 1] zz4 zz4;have p1:=zyi ylj [zmp,stp 1] zz4 zz4;rw [show zkp ylj [zmp,stp 1]=([zzi],0) by rw [zkp,zy0 (by decide),zy0 (by decide),xmb]] at p0;rw [show ([zmp,stp 1]:List Step).take 200=[zmp,stp 1] from rfl] at p1;have p2:=ybh (zkg (zhm ylj) [zmp,stp 1]).1 (by rw [xgo];decide);rw [xgo] at p2;have p3:=zoi [zzi] [zuu] zz4 zz4;have p4:=zoi [] [zuu] zz4 zz4;have p5:=zoi [zzi] [zuu,zuu] zz4 zz4;rw [show zlh [zzi] [zuu]=true by decide +kernel] at p3;rw [show zlh [] [zuu]=false by decide +kernel] at p4;rw [show zlh [zzi] [zuu,zuu]=false by decide +kernel] at p5;exact yla p0 p1 p2 p3 p4 p5
theorem ymp (c:Config) (l:List Step) (hb:∀ x∈l,x.message.data.length<2 ^ 38) (hl:l.length<2 ^ 38):zan Tryz.prog 15 [c.hv,yvn l] zad (zbj true) zad:=by
 refine zal mixed Tryz.func15 zz4 ?_;(conv=>whnf)
 (refine cL ?_;refine dL yjt ?_)
 have pt:=ybp c l hb hl;by_cases c3:Snd.zjj c=0
 case neg =>
  rw [show zkp c l=([],Snd.zjj c) from zy1 c3] at pt;dsimp only at pt;generalize Snd.zjj c=e at c3 pt
  (refine cP ?_;refine dL pt ?_)
  refine zac (zy85.2 c3) (zw ?_)
  try rfl
 by_cases c2:l.length>200
 case pos =>
  rw [show zkp c l=([],5) by rw [zkp,zy0 (fun h=>h c3),zy1 c2]] at pt;dsimp only at pt
  (refine cP ?_;refine dL pt ?_)
  try rfl
 rw [show zkp c l=(zje l (zkg (zhm c) l).2,0) by rw [zkp,zy0 (fun h=>h c3),zy0 c2]] at pt;have pb:=zyi c l c3 hb;rw [zy31 (by omega)] at pb;have hpl:=zrb l (zhm c);have hli:=yrn l (zxg c3) zz0 zz0;obtain ⟨hright,hsum⟩:=yuc c3 (l:=l) zz0;generalize zkg (zhm c) l=P at pt pb hpl hli hright hsum;obtain ⟨y,az⟩:=P;dsimp only at pt pb hpl hli hright hsum;have pr:=ynt l az hpl hl;have hTl:=zrs l az;generalize zje l az=T at pt pr hTl hright hsum;have pcn:=ybh y (by have:=hli.snd.many;omega);have p1:=zoi T y.receiver.log zz0 (by have:=hli.rcv.log;omega);rw [hright] at p1;unfold yvr at pcn;generalize nF 1 y.sender.fates=n1 at pcn hsum;generalize nF 2 y.sender.fates=n2 at pcn hsum;generalize nF 3 y.sender.fates=n3 at pcn hsum
 (refine cP ?_;refine dL pt ?_)
 (try refine sG ?_)
 (refine cP ?_;refine dL pb ?_)
 (refine cP ?_;refine dL pcn ?_)
 (refine cP ?_;refine dLm pr ?_)
 refine zac (beq_self_eq_true _) (zw ?_)
 (refine cL ?_;refine dLm p1 ?_)
 refine ⟨0,rfl,by decide,zw ?_⟩;refine ⟨1,rfl,by decide,zw ?_⟩;refine ⟨2,rfl,by decide,zw ?_⟩;refine ⟨0,rfl,by decide,zw ?_⟩;refine zac (zy12 (show (n1:Int)<=((T.map Message.row).length:Int) by rw [zy3];omega)) (zw ?_);refine ⟨1,rfl,by decide,zw ?_⟩;refine zac (zy12 (show (n2:Int)<=((T.map Message.row).length:Int) by rw [zy3];omega)) (zw ?_);refine ⟨2,rfl,by decide,zw ?_⟩;refine zac (zy12 (show (n3:Int)<=((T.map Message.row).length:Int) by rw [zy3];omega)) (zw ?_);refine ⟨0,rfl,by decide,zw ?_⟩;refine ⟨1,rfl,by decide,zw ?_⟩;refine zao (z:=(n1:Int)+n2) (zbs zz0 zz0) (zw ?_);refine ⟨2,rfl,by decide,zw ?_⟩;refine zao (z:=(n1:Int)+n2+n3) (zbs zz0 zz0) (zw ?_);rw [show ((n1:Int)+n2+n3==((T.map Message.row).length:Int))=true from zy17.2 (by rw [zy3];omega)]
 try rfl
end Gh
end Go.HL
