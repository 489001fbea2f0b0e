/- Walks, contracts and laws of the law's functions: part 5. No condition. -/
import Derived.Test.YticmofoeecjnhaaGreatMd
set_option linter.unusedSimpArgs false
namespace Go.HL
open Go.Proofs
namespace Snd
open Ser
set_option maxHeartbeats 8000000
set_option maxRecDepth 100000
set_option linter.unusedSimpArgs false
def comeP (ps:List Path) (part:Int) (moved:Bool) (A:List Int):List Path:=ps.mapIdx fun i p=>if A[i]?.getD 0 > 0 then Paths.acked p (A[i]?.getD 0) part moved else p
theorem ztj {ps:List Path} {part:Int} {moved:Bool} {A:List Int}:(comeP ps part moved A)[A.length]?=ps[A.length]?:=by
 rw [comeP,List.getElem?_mapIdx,List.getElem?_eq_none (Nat.le_refl _)]
 cases ps[A.length]? <;> simp
theorem zqz {ps:List Path} {part:Int} {moved:Bool} {A:List Int} {n:Int} {p:Path} (hp:ps[A.length]?=some p) :
 comeP ps part moved (A++[n])=(comeP ps part moved A).set A.length (if n > 0 then Paths.acked p n part moved else p):=by
 apply List.ext_getElem?
 intro i
 rw [List.getElem?_set,comeP,comeP,List.getElem?_mapIdx,List.getElem?_mapIdx,List.length_mapIdx]
 have hl:=(List.getElem?_eq_some_iff.1 hp).1
 by_cases hi:A.length=i
 . subst hi
   rw [if_pos rfl,if_pos hl,hp]
   simp
 . rw [if_neg hi]
   rcases Nat.lt_or_ge i A.length with h | h
   . rw [List.getElem?_append_left h]
   . rw [List.getElem?_eq_none (l:=A++[n]) (by simp;omega),List.getElem?_eq_none (l:=A) h]
theorem zwm {l:List Sent} (h:Sco.Sized l) (cum:Int) (c:Chunk) (paths:Int):Sco.Sized (Sco.sack l cum c paths).1:=by
 have hf:∀ (p:Sent -> Bool) (l:List Sent),Sco.total (l.filter p) <= Sco.total l:=by
  intro p l
  induction l with
  | nil=>exact Nat.le_refl _
  | cons x l ih =>
   rw [List.filter_cons,Sco.zez]
   split
   . rw [Sco.zez];omega
   . omega
 have hm:∀ (f:Sent -> Sent) (l:List Sent),(∀ x,(f x).chunk=x.chunk) -> Sco.total (l.map f)=Sco.total l:=by
  intro f l hf
  simp only [Sco.total,List.map_map]
  congr 1
  exact List.map_congr_left fun s _=>by simp [hf]
 unfold Sco.sack
 split
 . exact h
 . refine ⟨?_,?_⟩
   . have:=List.length_filter_le (fun s:Sent=>decide (s.number > near cum c.tag)) l
     have:=h.len
     simp only [Sco.left,List.length_map];omega
   . dsimp only
     rw [hm _ _ (fun x=>by unfold Sco.age;(repeat' split) <;> rfl),Sco.left,hm _ _ (fun x=>by unfold Sco.turn;split <;> rfl)]
     exact Nat.lt_of_le_of_lt (hf _ _) h.bytes
def zfi (s:Sender) (c:Chunk) (k:List Sent × Int × List Int × List Int):Sender:=flights { s with out:=k.1,cum:=k.2.1,room:=c.room,paths:=comeP s.paths s.config.part (decide (k.2.1 > s.cum)) k.2.2.1 }
def zgk (part:Int) (t:Sender) (lost:List Int):Sender:=match lost.getLast? with
 | none=>t
 | some z=>if z > t.recover then { t with paths:=setAt t.paths (choose t) fun p=>Paths.halved p part,recover:=W (t.next - 1) } else t
def zes (moved:Bool) (u:Sender):Sender:=if moved=true /\ (Sco.point u.out u.cum).1 > u.cum then { u with forward:=true } else u
theorem zmw (s:Sender) (c:Chunk):heard s c=settle (zes (decide ((Sco.sack s.out s.cum c s.paths.length).2.1 > s.cum)) (zgk s.config.part (zfi s c (Sco.sack s.out s.cum c s.paths.length)) (Sco.sack s.out s.cum c s.paths.length).2.2.2)):=rfl
def upS (t:Sender) (part:Int) (w:Path):Sender:={ t with paths:=t.paths.set (choose t) (Paths.halved w part),recover:=W (t.next - 1) }
theorem Fit.fwd {s:Sender} (h:Fit s):Fit { s with forward:=true }:=⟨h.queue,h.had,h.out,h.paths,h.mids,h.fates,h.data⟩
theorem Fit.up {s:Sender} (h:Fit s) {part:Int} {w:Path}:Fit (upS s part w):=⟨h.queue,h.had,h.out,by show (s.paths.set _ _).length < _;rw [List.length_set];exact h.paths,h.mids,h.fates,h.data⟩
theorem yfp (s:Sender) (c:Chunk) (hs:Fit s) (hr:Sco.Right s.out s.cum s.paths.length) (hsp:c.spans.length < 2 ^ 60) :
 FunOK Tryz.prog 34 [s.hv,c.hv] zac (sndO (hear s c) 0 1 2 3 4 5) (lk .free (sndB (hear s c) 0 1 2 3 4 5 [])):=by
 have hs':=hs
 obtain ⟨h1,h2,h3,h4,h5,h6,h7⟩:=hs
 generalize hT:hear s c=T
 refine zaj mixed Tryz.func34 (by decide) [] (fun _=>.inl rfl) ?_
 conv=>whnf
 (refine zam [(0,20),(1,21),(2,22),(3,23),(4,24),(5,25)]  ?_;(conv=>whnf);refine dO (zbx s hs') ?_)
 by_cases c1:c.kind=2
 case neg =>
  rw [hear,if_pos c1] at hT
  subst hT
  refine zaf ?_ ?_
  . simpa using c1
  conv=>whnf
  exact zai [(0,some 20),(1,some 21),(2,some 22),(3,some 23),(4,some 24),(5,some 25)] rfl rfl trivial rfl rfl ⟨⟨rfl,.inl ⟨20,rfl,rfl⟩⟩,⟨rfl,.inl ⟨21,rfl,rfl⟩⟩,⟨rfl,.inl ⟨22,rfl,rfl⟩⟩,⟨rfl,.inl ⟨23,rfl,rfl⟩⟩,⟨rfl,.inl ⟨24,rfl,rfl⟩⟩,⟨rfl,.inl ⟨25,rfl,rfl⟩⟩,trivial⟩
 case pos =>
  rw [hear,if_neg (fun h=>h c1)] at hT
  refine zad ?_ ?_
  . simpa using c1
  conv=>whnf
  repeat (refine hcut.go ?_;conv=>whnf)
  have hk:=Sco.yfo s.out s.cum c ((s.paths.map Path.row).length:Nat) h3 (by rw [List.length_map];exact hr) hsp
  by_cases k1:near s.cum c.tag < s.cum \/ near s.cum c.tag > s.cum+s.out.length
  case pos =>
   rw [if_pos k1] at hT
   subst hT
   rw [Sco.sack,if_pos k1] at hk
   (refine zam [(0,31),(1,32),(2,33)]  ?_;(conv=>whnf);refine dO hk ?_)
   (refine cL ?_;refine dL (zgf s.cum c.tag) ?_)
   refine zaf ?_ ?_
   . have:near s.cum c.tag ≠ s.cum:=by omega
     simpa using this
   conv=>whnf
   exact zai [(0,some 20),(1,some 21),(2,some 22),(3,some 23),(4,some 24),(5,some 25)] rfl rfl trivial rfl rfl ⟨⟨rfl,.inl ⟨20,rfl,rfl⟩⟩,⟨rfl,.inl ⟨21,rfl,rfl⟩⟩,⟨rfl,.inl ⟨22,rfl,rfl⟩⟩,⟨rfl,.inl ⟨23,rfl,rfl⟩⟩,⟨rfl,.inl ⟨24,rfl,rfl⟩⟩,⟨rfl,.inl ⟨25,rfl,rfl⟩⟩,trivial⟩
  case neg =>
   rw [if_neg k1,zmw] at hT
   have hks:=zwm h3 s.cum c s.paths.length
   have hlo:(Sco.sack s.out s.cum c s.paths.length).2.2.2.length <= s.out.length:=by
    rw [Sco.sack,if_neg k1]
    dsimp only
    rw [Sco.lost,List.length_map]
    refine Nat.le_trans (List.length_filter_le _ _) ?_
    rw [Sco.left,List.length_map];exact List.length_filter_le _ _
   have hK:(Sco.sack s.out s.cum c ((s.paths.map Path.row).length:Nat)).2.1=near s.cum c.tag:=by rw [Sco.sack,if_neg k1]
   rw [hK] at hk
   (refine zam [(0,31),(1,32),(2,33)]  ?_;(conv=>whnf);refine dO hk ?_)
   (refine cL ?_;refine dL (zgf s.cum c.tag) ?_)
   rw [show (near s.cum c.tag != near s.cum c.tag)=false from bne_self_eq_false _]
   conv=>whnf
   refine sD ?_
   have hcl:(Sco.sack s.out s.cum c ((s.paths.map Path.row).length:Nat)).2.2.1.length=s.paths.length:=by
    rw [Sco.sack,if_neg k1];simp only [Sco.zqn];rw [List.length_map];rfl
   have hid:s.paths.mapIdx (fun _ p=>p)=s.paths:=by apply List.ext_getElem <;> simp
   have epl:(s.paths.map Path.row).length=s.paths.length:=List.length_map _
   rw [<- epl] at hT hks hlo
   generalize Sco.sack s.out s.cum c ((s.paths.map Path.row).length:Nat)=K at hcl hK hk hT hks hlo ⊢
   rw [hK] at hT
   refine ⟨{ x:List Int × List Int // K.2.2.1=x.1++x.2 },fun | ⟨(A,B),_⟩=>hs 133 [(2,.ptr 2 0),(4,.ptr 4 0),(5,.ptr 5 0),(9,.own 907),(10,hbool (decide (near s.cum c.tag > s.cum))),(55,.own 906),(56,i64 s.paths.length),(57,i64 A.length)] ((2,.live (.cells 32 (sndC s (Sch.qs s.queue) (ints s.sched.had) (Sco.sents s.out) (pths s.paths) (ints s.mids) (ints s.fates)))) :: (4,.live (.cells 32 zeroS)) :: (5,.live (.cells 32 (sndC { s with cum:=near s.cum c.tag,room:=c.room } (.own 900) (.own 901) (.own 902) (.own 903) (.own 904) (.own 905)))) :: sndB { s with out:=K.1,paths:=comeP s.paths s.config.part (decide (near s.cum c.tag > s.cum)) A } 900 901 902 903 904 905 [(906,rowT K.2.2.1),(907,rowT K.2.2.2)]),fun x=>x.1.2.length,⟨([],K.2.2.1),rfl⟩,?_,?_⟩
   . exact (hle_X [(2,some 2),(4,some 4),(5,some 5),(900,some 20),(901,some 21),(902,some 31),(903,some 23),(904,some 24),(905,some 25),(906,some 32),(907,some 33)] (by repeat' (first | exact z0 | refine z1 ?_ | refine ⟨?_,?_⟩ | ((exact zaw (by rw [List.length_map];omega))) | ((exact zal (by simp [comeP,hid]))) | exact z2)))
   rintro ⟨⟨A,B⟩,h⟩
   dsimp only at h
   conv=>whnf
   cases B with
   | cons n B =>
    have hz:=zbi h
    obtain ⟨p,hp⟩:∃ p,s.paths[A.length]?=some p:=⟨_,List.getElem?_eq_getElem (by omega)⟩
    have hpl:A.length < (comeP s.paths s.config.part (decide (near s.cum c.tag > s.cum)) A).length:=by rw [comeP,List.length_mapIdx];omega
    refine sT ?_
    refine sOm ?_
    refine zah (f:=fun n:Int=>[pi n]) h rfl ?_;conv=>whnf
    by_cases d1:n > 0
    case pos =>
     rw [show decide (n > 0)=true from decide_eq_true d1]
     conv=>whnf
     refine zaa ⟨by omega,by rw [List.length_map];exact_mod_cast hpl⟩ ?_;conv=>whnf
     refine zag (ztj.trans hp) rfl ?_;conv=>whnf
     (refine cL ?_;refine dL (Paths.yfa p n s.config.part (decide (near s.cum c.tag > s.cum))) ?_)
     refine zaa ⟨by omega,by rw [List.length_map];exact_mod_cast hpl⟩ ?_;conv=>whnf
     refine zag (ztj.trans hp) rfl ?_;conv=>whnf
     refine sD ?_
     refine sF ?_
     exact ⟨⟨(A++[n],B),zak h⟩,(hle_X ((2,some 2) :: ((4,some 4) :: (5,some 5) :: (pJ8 []))) (by repeat' (first | exact z0 | refine z1 ?_ | refine ⟨?_,?_⟩ | ((exact (zcy rfl).trans (zal (by rw [zqz hp,if_pos d1];rfl)))) | exact z2))),by simp⟩
    case neg =>
     rw [show decide (n > 0)=false from decide_eq_false d1]
     conv=>whnf
     refine sF ?_
     exact ⟨⟨(A++[n],B),zak h⟩,(hle_X ((2,some 2) :: ((4,some 4) :: (5,some 5) :: (pJ8 []))) (by repeat' (first | exact z0 | refine z1 ?_ | refine ⟨?_,?_⟩ | ((exact zal (by rw [zqz hp,if_neg d1,zkj (ztj.trans hp)]))) | exact z2))),by simp⟩
   | nil =>
    have hz:=zbr h
    rw [List.append_nil] at h
    refine sN ?_
    have hcp:(comeP s.paths s.config.part (decide (near s.cum c.tag > s.cum)) A).length=s.paths.length:=by rw [comeP,List.length_mapIdx]
    (refine zab [] [(1000,5),(1001,900),(1002,901),(1003,902),(1004,903),(1005,904),(1006,905)] [(0,930),(1,931),(2,932),(3,933),(4,934),(5,935)] ?_;(conv=>whnf);refine dG (zsu { s with cum:=near s.cum c.tag,room:=c.room,out:=K.1,paths:=comeP s.paths s.config.part (decide (near s.cum c.tag > s.cum)) A } hks (by dsimp only;omega)) ?_)
    rw [show zfi s c K=flights { s with cum:=near s.cum c.tag,room:=c.room,out:=K.1,paths:=comeP s.paths s.config.part (decide (near s.cum c.tag > s.cum)) A } by rw [zfi,hK,h]] at hT
    have hfl:(flights { s with cum:=near s.cum c.tag,room:=c.room,out:=K.1,paths:=comeP s.paths s.config.part (decide (near s.cum c.tag > s.cum)) A }).paths.length=s.paths.length:=by
     show (List.mapIdx _ _).length=_
     rw [List.length_mapIdx];exact hcp
    have hfo:(flights { s with cum:=near s.cum c.tag,room:=c.room,out:=K.1,paths:=comeP s.paths s.config.part (decide (near s.cum c.tag > s.cum)) A }).out=K.1:=rfl
    have hft:Fit (flights { s with cum:=near s.cum c.tag,room:=c.room,out:=K.1,paths:=comeP s.paths s.config.part (decide (near s.cum c.tag > s.cum)) A }):=⟨h1,h2,hks,by omega,h5,h6,h7⟩
    generalize flights { s with cum:=near s.cum c.tag,room:=c.room,out:=K.1,paths:=comeP s.paths s.config.part (decide (near s.cum c.tag > s.cum)) A }=t at hT hfl hfo hft ⊢
    generalize decide (near s.cum c.tag > s.cum)=mv at hT ⊢
    have hpl:=hr.p0
    obtain ⟨hch,hch2⟩:=zcp (s:=t) (by omega)
    obtain ⟨w,hw⟩:∃ w,t.paths[choose t]?=some w:=⟨_,List.getElem?_eq_getElem hch2⟩
    obtain ⟨K1,K2,K3,K4⟩:=K
    dsimp only at hT hcl hK hks h hz hfo hlo ⊢
    rcases List.eq_nil_or_concat K4 with rfl | ⟨L,z,rfl⟩
    case inl =>
     rw [show zgk s.config.part t []=t from rfl] at hT
     conv=>whnf
     refine sD ?_
     (refine zab [] [(1000,932)] [(0,960)] ?_;(conv=>whnf);refine dG (Sco.zcx t.out t.cum (by have:=hft.out.len;omega)) ?_)
     cases mv with
     | false =>
      rw [show zes false t=t from if_neg (fun h=>absurd h.1 (by decide))] at hT
      subst hT
      conv=>whnf
      (refine zab [] [(1000,5),(1001,930),(1002,931),(1003,932),(1004,933),(1005,934),(1006,935)] [(0,980),(1,981),(2,982),(3,983),(4,984),(5,985)] ?_;(conv=>whnf);refine dG (zcz t (hft)) ?_ ⟨rfl,rfl,rfl,⟨⟨rfl,_,rfl,.inl ⟨rfl,rfl⟩⟩,⟨⟨rfl,_,rfl,.inl ⟨rfl,rfl⟩⟩,⟨⟨rfl,_,rfl,.inl ⟨rfl,rfl⟩⟩,⟨⟨rfl,_,rfl,.inl ⟨rfl,rfl⟩⟩,⟨⟨rfl,_,rfl,.inl ⟨rfl,rfl⟩⟩,⟨⟨rfl,_,rfl,.inl ⟨rfl,rfl⟩⟩,⟨⟨rfl,_,rfl,.inl ⟨rfl,rfl⟩⟩,trivial⟩⟩⟩⟩⟩⟩⟩,⟨⟨rfl,rfl⟩,⟨⟨rfl,rfl⟩,⟨⟨rfl,rfl⟩,⟨⟨rfl,rfl⟩,⟨⟨rfl,rfl⟩,⟨⟨rfl,rfl⟩,trivial⟩⟩⟩⟩⟩⟩,rfl,rfl,rfl⟩)
      refine zai [(0,some 980),(1,some 981),(2,some 982),(3,some 983),(4,some 984),(5,some 985)] rfl rfl trivial rfl rfl ⟨⟨rfl,.inl ⟨980,rfl,rfl⟩⟩,⟨rfl,.inl ⟨981,rfl,rfl⟩⟩,⟨rfl,.inl ⟨982,rfl,rfl⟩⟩,⟨rfl,.inl ⟨983,rfl,rfl⟩⟩,⟨rfl,.inl ⟨984,rfl,rfl⟩⟩,⟨rfl,.inl ⟨985,rfl,rfl⟩⟩,trivial⟩
     | true =>
      conv=>whnf
      by_cases e1:(Sco.point t.out t.cum).1 > t.cum
      case pos =>
       rw [show zes true t={ t with forward:=true } from if_pos ⟨rfl,e1⟩] at hT
       subst hT
       rw [show decide ((Sco.point t.out t.cum).1 > t.cum)=true from decide_eq_true e1]
       conv=>whnf
       (refine zab [] [(1000,5),(1001,930),(1002,931),(1003,932),(1004,933),(1005,934),(1006,935)] [(0,980),(1,981),(2,982),(3,983),(4,984),(5,985)] ?_;(conv=>whnf);refine dG (zcz ({ t with forward:=true }:Sender) ((Fit.fwd hft))) ?_ ⟨rfl,rfl,rfl,⟨⟨rfl,_,rfl,.inl ⟨rfl,rfl⟩⟩,⟨⟨rfl,_,rfl,.inl ⟨rfl,rfl⟩⟩,⟨⟨rfl,_,rfl,.inl ⟨rfl,rfl⟩⟩,⟨⟨rfl,_,rfl,.inl ⟨rfl,rfl⟩⟩,⟨⟨rfl,_,rfl,.inl ⟨rfl,rfl⟩⟩,⟨⟨rfl,_,rfl,.inl ⟨rfl,rfl⟩⟩,⟨⟨rfl,_,rfl,.inl ⟨rfl,rfl⟩⟩,trivial⟩⟩⟩⟩⟩⟩⟩,⟨⟨rfl,rfl⟩,⟨⟨rfl,rfl⟩,⟨⟨rfl,rfl⟩,⟨⟨rfl,rfl⟩,⟨⟨rfl,rfl⟩,⟨⟨rfl,rfl⟩,trivial⟩⟩⟩⟩⟩⟩,rfl,rfl,rfl⟩)
       refine zai [(0,some 980),(1,some 981),(2,some 982),(3,some 983),(4,some 984),(5,some 985)] rfl rfl trivial rfl rfl ⟨⟨rfl,.inl ⟨980,rfl,rfl⟩⟩,⟨rfl,.inl ⟨981,rfl,rfl⟩⟩,⟨rfl,.inl ⟨982,rfl,rfl⟩⟩,⟨rfl,.inl ⟨983,rfl,rfl⟩⟩,⟨rfl,.inl ⟨984,rfl,rfl⟩⟩,⟨rfl,.inl ⟨985,rfl,rfl⟩⟩,trivial⟩
      case neg =>
       rw [show zes true t=t from if_neg (fun h=>e1 h.2)] at hT
       subst hT
       rw [show decide ((Sco.point t.out t.cum).1 > t.cum)=false from decide_eq_false e1]
       conv=>whnf
       (refine zab [] [(1000,5),(1001,930),(1002,931),(1003,932),(1004,933),(1005,934),(1006,935)] [(0,980),(1,981),(2,982),(3,983),(4,984),(5,985)] ?_;(conv=>whnf);refine dG (zcz t (hft)) ?_ ⟨rfl,rfl,rfl,⟨⟨rfl,_,rfl,.inl ⟨rfl,rfl⟩⟩,⟨⟨rfl,_,rfl,.inl ⟨rfl,rfl⟩⟩,⟨⟨rfl,_,rfl,.inl ⟨rfl,rfl⟩⟩,⟨⟨rfl,_,rfl,.inl ⟨rfl,rfl⟩⟩,⟨⟨rfl,_,rfl,.inl ⟨rfl,rfl⟩⟩,⟨⟨rfl,_,rfl,.inl ⟨rfl,rfl⟩⟩,⟨⟨rfl,_,rfl,.inl ⟨rfl,rfl⟩⟩,trivial⟩⟩⟩⟩⟩⟩⟩,⟨⟨rfl,rfl⟩,⟨⟨rfl,rfl⟩,⟨⟨rfl,rfl⟩,⟨⟨rfl,rfl⟩,⟨⟨rfl,rfl⟩,⟨⟨rfl,rfl⟩,trivial⟩⟩⟩⟩⟩⟩,rfl,rfl,rfl⟩)
       refine zai [(0,some 980),(1,some 981),(2,some 982),(3,some 983),(4,some 984),(5,some 985)] rfl rfl trivial rfl rfl ⟨⟨rfl,.inl ⟨980,rfl,rfl⟩⟩,⟨rfl,.inl ⟨981,rfl,rfl⟩⟩,⟨rfl,.inl ⟨982,rfl,rfl⟩⟩,⟨rfl,.inl ⟨983,rfl,rfl⟩⟩,⟨rfl,.inl ⟨984,rfl,rfl⟩⟩,⟨rfl,.inl ⟨985,rfl,rfl⟩⟩,trivial⟩
    case inr =>
     rw [List.concat_eq_append] at hT ⊢
     have hU:zgk s.config.part t (L++[z])=if z > t.recover then upS t s.config.part w else t:=by
      unfold zgk
      rw [List.getLast?_concat]
      dsimp only
      rw [upS,setAt,hw]
     rw [hU] at hT
     have hll:((L++[z]).map (fun n:Int=>[pi n])).length=L.length+1:=by simp
     have hLl:L.length < 2 ^ 38:=by
      have:=hlo
      rw [List.concat_eq_append,List.length_append] at this
      simp only [List.length_cons,List.length_nil] at this
      have:=h3.len
      omega
     rw [show decide (((List.map (fun n:Int=>[pi n]) (L++[z])).length:Int) > 0)=true from decide_eq_true (by omega)]
     conv=>whnf
     refine sFm ?_
     refine zaa (by omega) ?_;conv=>whnf
     refine zah (f:=fun n:Int=>[pi n]) (a:=L) (b:=[]) (s:=z) rfl (by omega) ?_;conv=>whnf
     refine sD ?_
     by_cases e0:z > t.recover
     case neg =>
      rw [if_neg e0] at hT
      rw [show decide (z > t.recover)=false from decide_eq_false e0]
      conv=>whnf
      repeat (refine hcut.go ?_;conv=>whnf)
      (refine zab [] [(1000,932)] [(0,960)] ?_;(conv=>whnf);refine dG (Sco.zcx t.out t.cum (by have:=hft.out.len;omega)) ?_)
      cases mv with
      | false =>
       rw [show zes false t=t from if_neg (fun h=>absurd h.1 (by decide))] at hT
       subst hT
       conv=>whnf
       (refine zab [] [(1000,5),(1001,930),(1002,931),(1003,932),(1004,933),(1005,934),(1006,935)] [(0,980),(1,981),(2,982),(3,983),(4,984),(5,985)] ?_;(conv=>whnf);refine dG (zcz t (hft)) ?_ ⟨rfl,rfl,rfl,⟨⟨rfl,_,rfl,.inl ⟨rfl,rfl⟩⟩,⟨⟨rfl,_,rfl,.inl ⟨rfl,rfl⟩⟩,⟨⟨rfl,_,rfl,.inl ⟨rfl,rfl⟩⟩,⟨⟨rfl,_,rfl,.inl ⟨rfl,rfl⟩⟩,⟨⟨rfl,_,rfl,.inl ⟨rfl,rfl⟩⟩,⟨⟨rfl,_,rfl,.inl ⟨rfl,rfl⟩⟩,⟨⟨rfl,_,rfl,.inl ⟨rfl,rfl⟩⟩,trivial⟩⟩⟩⟩⟩⟩⟩,⟨⟨rfl,rfl⟩,⟨⟨rfl,rfl⟩,⟨⟨rfl,rfl⟩,⟨⟨rfl,rfl⟩,⟨⟨rfl,rfl⟩,⟨⟨rfl,rfl⟩,trivial⟩⟩⟩⟩⟩⟩,rfl,rfl,rfl⟩)
       refine zai [(0,some 980),(1,some 981),(2,some 982),(3,some 983),(4,some 984),(5,some 985)] rfl rfl trivial rfl rfl ⟨⟨rfl,.inl ⟨980,rfl,rfl⟩⟩,⟨rfl,.inl ⟨981,rfl,rfl⟩⟩,⟨rfl,.inl ⟨982,rfl,rfl⟩⟩,⟨rfl,.inl ⟨983,rfl,rfl⟩⟩,⟨rfl,.inl ⟨984,rfl,rfl⟩⟩,⟨rfl,.inl ⟨985,rfl,rfl⟩⟩,trivial⟩
      | true =>
       conv=>whnf
       by_cases e1:(Sco.point t.out t.cum).1 > t.cum
       case pos =>
        rw [show zes true t={ t with forward:=true } from if_pos ⟨rfl,e1⟩] at hT
        subst hT
        rw [show decide ((Sco.point t.out t.cum).1 > t.cum)=true from decide_eq_true e1]
        conv=>whnf
        (refine zab [] [(1000,5),(1001,930),(1002,931),(1003,932),(1004,933),(1005,934),(1006,935)] [(0,980),(1,981),(2,982),(3,983),(4,984),(5,985)] ?_;(conv=>whnf);refine dG (zcz ({ t with forward:=true }:Sender) ((Fit.fwd hft))) ?_ ⟨rfl,rfl,rfl,⟨⟨rfl,_,rfl,.inl ⟨rfl,rfl⟩⟩,⟨⟨rfl,_,rfl,.inl ⟨rfl,rfl⟩⟩,⟨⟨rfl,_,rfl,.inl ⟨rfl,rfl⟩⟩,⟨⟨rfl,_,rfl,.inl ⟨rfl,rfl⟩⟩,⟨⟨rfl,_,rfl,.inl ⟨rfl,rfl⟩⟩,⟨⟨rfl,_,rfl,.inl ⟨rfl,rfl⟩⟩,⟨⟨rfl,_,rfl,.inl ⟨rfl,rfl⟩⟩,trivial⟩⟩⟩⟩⟩⟩⟩,⟨⟨rfl,rfl⟩,⟨⟨rfl,rfl⟩,⟨⟨rfl,rfl⟩,⟨⟨rfl,rfl⟩,⟨⟨rfl,rfl⟩,⟨⟨rfl,rfl⟩,trivial⟩⟩⟩⟩⟩⟩,rfl,rfl,rfl⟩)
        refine zai [(0,some 980),(1,some 981),(2,some 982),(3,some 983),(4,some 984),(5,some 985)] rfl rfl trivial rfl rfl ⟨⟨rfl,.inl ⟨980,rfl,rfl⟩⟩,⟨rfl,.inl ⟨981,rfl,rfl⟩⟩,⟨rfl,.inl ⟨982,rfl,rfl⟩⟩,⟨rfl,.inl ⟨983,rfl,rfl⟩⟩,⟨rfl,.inl ⟨984,rfl,rfl⟩⟩,⟨rfl,.inl ⟨985,rfl,rfl⟩⟩,trivial⟩
       case neg =>
        rw [show zes true t=t from if_neg (fun h=>e1 h.2)] at hT
        subst hT
        rw [show decide ((Sco.point t.out t.cum).1 > t.cum)=false from decide_eq_false e1]
        conv=>whnf
        (refine zab [] [(1000,5),(1001,930),(1002,931),(1003,932),(1004,933),(1005,934),(1006,935)] [(0,980),(1,981),(2,982),(3,983),(4,984),(5,985)] ?_;(conv=>whnf);refine dG (zcz t (hft)) ?_ ⟨rfl,rfl,rfl,⟨⟨rfl,_,rfl,.inl ⟨rfl,rfl⟩⟩,⟨⟨rfl,_,rfl,.inl ⟨rfl,rfl⟩⟩,⟨⟨rfl,_,rfl,.inl ⟨rfl,rfl⟩⟩,⟨⟨rfl,_,rfl,.inl ⟨rfl,rfl⟩⟩,⟨⟨rfl,_,rfl,.inl ⟨rfl,rfl⟩⟩,⟨⟨rfl,_,rfl,.inl ⟨rfl,rfl⟩⟩,⟨⟨rfl,_,rfl,.inl ⟨rfl,rfl⟩⟩,trivial⟩⟩⟩⟩⟩⟩⟩,⟨⟨rfl,rfl⟩,⟨⟨rfl,rfl⟩,⟨⟨rfl,rfl⟩,⟨⟨rfl,rfl⟩,⟨⟨rfl,rfl⟩,⟨⟨rfl,rfl⟩,trivial⟩⟩⟩⟩⟩⟩,rfl,rfl,rfl⟩)
        refine zai [(0,some 980),(1,some 981),(2,some 982),(3,some 983),(4,some 984),(5,some 985)] rfl rfl trivial rfl rfl ⟨⟨rfl,.inl ⟨980,rfl,rfl⟩⟩,⟨rfl,.inl ⟨981,rfl,rfl⟩⟩,⟨rfl,.inl ⟨982,rfl,rfl⟩⟩,⟨rfl,.inl ⟨983,rfl,rfl⟩⟩,⟨rfl,.inl ⟨984,rfl,rfl⟩⟩,⟨rfl,.inl ⟨985,rfl,rfl⟩⟩,trivial⟩
     case pos =>
      rw [if_pos e0] at hT
      rw [show decide (z > t.recover)=true from decide_eq_true e0]
      conv=>whnf
      have pc:=Paths.zcq t.paths (by omega)
      rw [hch] at pc
      (refine cL ?_;refine dL pc ?_)
      refine zaa (by rw [List.length_map];omega) ?_;conv=>whnf
      refine zag hw rfl ?_;conv=>whnf
      (refine cL ?_;refine dL (Paths.zgz w s.config.part) ?_)
      refine zaa (by rw [List.length_map];omega) ?_;conv=>whnf
      refine zag hw rfl ?_;conv=>whnf
      refine sD ?_
      refine sR ?_
      (refine zab [] [(1000,932)] [(0,960)] ?_;(conv=>whnf);refine dG (Sco.zcx t.out t.cum (by have:=hft.out.len;omega)) ?_)
      cases mv with
      | false =>
       rw [show zes false (upS t s.config.part w)=(upS t s.config.part w) from if_neg (fun h=>absurd h.1 (by decide))] at hT
       subst hT
       conv=>whnf
       (refine zab [] [(1000,5),(1001,930),(1002,931),(1003,932),(1004,933),(1005,934),(1006,935)] [(0,980),(1,981),(2,982),(3,983),(4,984),(5,985)] ?_;(conv=>whnf);refine dG (zcz (upS t s.config.part w) ((Fit.up hft))) ?_ ⟨rfl,rfl,rfl,⟨⟨rfl,_,rfl,.inl ⟨rfl,rfl⟩⟩,⟨⟨rfl,_,rfl,.inl ⟨rfl,rfl⟩⟩,⟨⟨rfl,_,rfl,.inl ⟨rfl,rfl⟩⟩,⟨⟨rfl,_,rfl,.inl ⟨rfl,rfl⟩⟩,⟨⟨rfl,_,rfl,.inl ⟨rfl,(zcy rfl)⟩⟩,⟨⟨rfl,_,rfl,.inl ⟨rfl,rfl⟩⟩,⟨⟨rfl,_,rfl,.inl ⟨rfl,rfl⟩⟩,trivial⟩⟩⟩⟩⟩⟩⟩,⟨⟨rfl,rfl⟩,⟨⟨rfl,rfl⟩,⟨⟨rfl,rfl⟩,⟨⟨rfl,rfl⟩,⟨⟨rfl,rfl⟩,⟨⟨rfl,rfl⟩,trivial⟩⟩⟩⟩⟩⟩,rfl,rfl,rfl⟩)
       refine zai [(0,some 980),(1,some 981),(2,some 982),(3,some 983),(4,some 984),(5,some 985)] rfl rfl trivial rfl rfl ⟨⟨rfl,.inl ⟨980,rfl,rfl⟩⟩,⟨rfl,.inl ⟨981,rfl,rfl⟩⟩,⟨rfl,.inl ⟨982,rfl,rfl⟩⟩,⟨rfl,.inl ⟨983,rfl,rfl⟩⟩,⟨rfl,.inl ⟨984,rfl,rfl⟩⟩,⟨rfl,.inl ⟨985,rfl,rfl⟩⟩,trivial⟩
      | true =>
       conv=>whnf
       by_cases e1:(Sco.point t.out t.cum).1 > t.cum
       case pos =>
        rw [show zes true (upS t s.config.part w)={ (upS t s.config.part w) with forward:=true } from if_pos ⟨rfl,e1⟩] at hT
        subst hT
        rw [show decide ((Sco.point t.out t.cum).1 > t.cum)=true from decide_eq_true e1]
        conv=>whnf
        (refine zab [] [(1000,5),(1001,930),(1002,931),(1003,932),(1004,933),(1005,934),(1006,935)] [(0,980),(1,981),(2,982),(3,983),(4,984),(5,985)] ?_;(conv=>whnf);refine dG (zcz ({ (upS t s.config.part w) with forward:=true }:Sender) ((Fit.fwd (Fit.up hft)))) ?_ ⟨rfl,rfl,rfl,⟨⟨rfl,_,rfl,.inl ⟨rfl,rfl⟩⟩,⟨⟨rfl,_,rfl,.inl ⟨rfl,rfl⟩⟩,⟨⟨rfl,_,rfl,.inl ⟨rfl,rfl⟩⟩,⟨⟨rfl,_,rfl,.inl ⟨rfl,rfl⟩⟩,⟨⟨rfl,_,rfl,.inl ⟨rfl,(zcy rfl)⟩⟩,⟨⟨rfl,_,rfl,.inl ⟨rfl,rfl⟩⟩,⟨⟨rfl,_,rfl,.inl ⟨rfl,rfl⟩⟩,trivial⟩⟩⟩⟩⟩⟩⟩,⟨⟨rfl,rfl⟩,⟨⟨rfl,rfl⟩,⟨⟨rfl,rfl⟩,⟨⟨rfl,rfl⟩,⟨⟨rfl,rfl⟩,⟨⟨rfl,rfl⟩,trivial⟩⟩⟩⟩⟩⟩,rfl,rfl,rfl⟩)
        refine zai [(0,some 980),(1,some 981),(2,some 982),(3,some 983),(4,some 984),(5,some 985)] rfl rfl trivial rfl rfl ⟨⟨rfl,.inl ⟨980,rfl,rfl⟩⟩,⟨rfl,.inl ⟨981,rfl,rfl⟩⟩,⟨rfl,.inl ⟨982,rfl,rfl⟩⟩,⟨rfl,.inl ⟨983,rfl,rfl⟩⟩,⟨rfl,.inl ⟨984,rfl,rfl⟩⟩,⟨rfl,.inl ⟨985,rfl,rfl⟩⟩,trivial⟩
       case neg =>
        rw [show zes true (upS t s.config.part w)=(upS t s.config.part w) from if_neg (fun h=>e1 h.2)] at hT
        subst hT
        rw [show decide ((Sco.point t.out t.cum).1 > t.cum)=false from decide_eq_false e1]
        conv=>whnf
        (refine zab [] [(1000,5),(1001,930),(1002,931),(1003,932),(1004,933),(1005,934),(1006,935)] [(0,980),(1,981),(2,982),(3,983),(4,984),(5,985)] ?_;(conv=>whnf);refine dG (zcz (upS t s.config.part w) ((Fit.up hft))) ?_ ⟨rfl,rfl,rfl,⟨⟨rfl,_,rfl,.inl ⟨rfl,rfl⟩⟩,⟨⟨rfl,_,rfl,.inl ⟨rfl,rfl⟩⟩,⟨⟨rfl,_,rfl,.inl ⟨rfl,rfl⟩⟩,⟨⟨rfl,_,rfl,.inl ⟨rfl,rfl⟩⟩,⟨⟨rfl,_,rfl,.inl ⟨rfl,(zcy rfl)⟩⟩,⟨⟨rfl,_,rfl,.inl ⟨rfl,rfl⟩⟩,⟨⟨rfl,_,rfl,.inl ⟨rfl,rfl⟩⟩,trivial⟩⟩⟩⟩⟩⟩⟩,⟨⟨rfl,rfl⟩,⟨⟨rfl,rfl⟩,⟨⟨rfl,rfl⟩,⟨⟨rfl,rfl⟩,⟨⟨rfl,rfl⟩,⟨⟨rfl,rfl⟩,trivial⟩⟩⟩⟩⟩⟩,rfl,rfl,rfl⟩)
        refine zai [(0,some 980),(1,some 981),(2,some 982),(3,some 983),(4,some 984),(5,some 985)] rfl rfl trivial rfl rfl ⟨⟨rfl,.inl ⟨980,rfl,rfl⟩⟩,⟨rfl,.inl ⟨981,rfl,rfl⟩⟩,⟨rfl,.inl ⟨982,rfl,rfl⟩⟩,⟨rfl,.inl ⟨983,rfl,rfl⟩⟩,⟨rfl,.inl ⟨984,rfl,rfl⟩⟩,⟨rfl,.inl ⟨985,rfl,rfl⟩⟩,trivial⟩
theorem yji (s:Sender) (c:Chunk) (hs:Fit s) (hr:Sco.Right s.out s.cum s.paths.length) (hsp:c.spans.length < 2 ^ 60) :
 FunOK Tryz.prog 34 [s.hv,c.hv] zac (hear s c).hv zac:=by
 refine zbn Tryz.func34 (yfp s c hs hr hsp) ?_
 conv=>whnf
 rfl
end Snd
end Go.HL
namespace Go.HL
open Go.Proofs
namespace Snd
open Ser
set_option maxHeartbeats 4000000
set_option maxRecDepth 100000
set_option linter.unusedSimpArgs false
structure QI (c:Config) (fates:List Int) (m:Queued):Prop where
 id0:0 <= m.id
 id1:m.id < fates.length
 fate:fates[m.id.toNat]?=some 1
 st0:0 <= m.message.stream
 st1:m.message.stream < c.streams
 len1:1 <= m.message.data.length
 len2:m.message.data.length <= 60
 parts:0 <= m.parts
 sent:m.sent=m.parts * c.part
 left:m.sent < m.message.data.length
structure XI (np nf:Nat) (x:Sent):Prop where
 path0:0 <= x.path
 path1:x.path < np
 id0:0 <= x.id
 id1:x.id < nf
 spans:x.chunk.spans=[]
 skips:x.chunk.skips=[]
 data:x.chunk.data.length <= 16
def owed (q:List Queued):Int:=(q.map fun m=>61 - m.parts).sum
structure SI (N:Nat) (s:Sender):Prop where
 cfg:wrgS s.config=0
 nums:∀ (i:Nat) x,s.out[i]?=some x -> x.number=s.cum+1+i
 next:s.next=s.cum+1+s.out.length
 cum:s.config.first - 1 <= s.cum
 owes:s.next+owed s.queue <= s.config.first+61 * s.fates.length
 npaths:(s.paths.length:Int)=s.config.paths
 nhad:(s.sched.had.length:Int)=s.config.streams
 nmids:(s.mids.length:Int)=2 * s.config.streams
 waits:(s.queue.length:Int) <= s.config.waiting
 queue:∀ m ∈ s.queue,QI s.config s.fates m
 out:∀ x ∈ s.out,XI s.paths.length s.fates.length x
 flight:∀ (i:Nat) p,s.paths[i]?=some p -> p.flight=Sco.fl i s.out
 many:s.fates.length <= N
 few:N <= 2 ^ 20
theorem zbo {c:Config} (h:wrgS c=0):1 <= c.streams /\ c.streams <= 4 /\ 1 <= c.paths /\ c.paths <= 2 /\ 1 <= c.part /\ c.part <= 16 /\ 40 <= c.packet /\ c.packet <= 120 /\ 1 <= c.waiting /\ c.waiting <= 12 /\ 0 <= c.first /\ c.first < 65536 /\ 1 <= (c).turns /\ (c).turns <= 5:=by
 unfold wrgS at h
 split at h
 . cases h
 . split at h
   . cases h
   . omega
theorem QI.few {c:Config} {fates:List Int} {m:Queued} (h:QI c fates m) (hp:1 <= c.part):m.parts <= 59:=by
 have h1:=h.sent
 have h2:=h.left
 have h3:=h.len2
 have h4:=h.parts
 have h5:m.parts * 1 <= m.parts * c.part:=Int.mul_le_mul_of_nonneg_left hp h4
 omega
theorem ztk {c:Config} {fates:List Int} (hp:1 <= c.part):∀ {q:List Queued},(∀ m ∈ q,QI c fates m) -> 0 <= owed q
 | [],_=>by simp [owed]
 | m :: q,h=>by
  have h1:=(h m (by simp)).few hp
  have h2:=ztk hp (q:=q) fun x hx=>h x (by simp [hx])
  simp only [owed,List.map_cons,List.sum_cons] at h2 ⊢;omega
theorem zib (m:Queued) (q:List Queued):owed (m :: q)=61 - m.parts+owed q:=by simp [owed]
theorem zis (a b:List Queued):owed (a++b)=owed a+owed b:=by simp [owed]
section
variable {N:Nat} {s:Sender}
theorem SI.len (h:SI N s):(s.out.length:Int) <= 61 * N:=by
 have h1:=h.next
 have h2:=h.cum
 have h3:=h.owes
 have h4:=ztk (by have:=zbo h.cfg;omega) h.queue
 have h5:=h.many
 omega
theorem SI.nextle (h:SI N s):s.next <= 65536+61 * N:=by
 have h3:=h.owes
 have h4:=ztk (by have:=zbo h.cfg;omega) h.queue
 have h5:=h.many
 have h6:=zbo h.cfg
 omega
theorem yco:∀ {l:List Sent},(∀ x ∈ l,x.chunk.data.length <= 16) -> Sco.total l <= 16 * l.length
 | [],_=>by simp [Sco.total]
 | x :: l,h=>by
  have h1:=h x (by simp)
  have h2:=yco (l:=l) fun y hy=>h y (by simp [hy])
  rw [Sco.zez,List.length_cons];omega
theorem SI.total (h:SI N s):(Sco.total s.out:Int) <= 16 * (61 * N):=by
 have h1:=yco fun x hx=>(h.out x hx).data
 have h2:=h.len
 omega
theorem SI.fit (h:SI N s):Fit s:=by
 have h1:=h.len
 have h2:=h.few
 have h3:=h.total
 have h4:=zbo h.cfg
 have h5:=h.npaths
 have h6:=h.nhad
 have h7:=h.nmids
 have h8:=h.waits
 have h9:=h.many
 exact ⟨by omega,by omega,⟨by omega,by omega⟩,by omega,by omega,by omega,fun m hm=>by have:=(h.queue m hm).len2;omega⟩
theorem SI.right (h:SI N s):Sco.Right s.out s.cum s.paths.length:=by
 have h1:=h.npaths
 have h2:=zbo h.cfg
 have h3:=h.nextle
 have h4:=h.next
 have h5:=h.cum
 have h6:=h.few
 exact ⟨fun x hx=>⟨(h.out x hx).path0,(h.out x hx).path1⟩,by omega,by omega,by omega,by omega,h.nums⟩
theorem SI.pf (h:SI N s):PF 62 s:=by
 have h1:=h.len
 have h2:=h.few
 have h3:=h.total
 have h4:=zbo h.cfg
 have h5:=h.npaths
 have h6:=h.nhad
 have h7:=h.nmids
 have h8:=h.waits
 have h9:=h.many
 refine ⟨⟨h.fit,by omega,fun m hm=>⟨(h.queue m hm).id0,(h.queue m hm).id1⟩,fun x hx=>⟨(h.out x hx).id0,(h.out x hx).id1⟩⟩,by omega,by omega,by omega,fun m hm=>?_,fun x hx=>?_,by omega,by omega⟩
 . have q:=h.queue m hm
   have q1:=q.st0
   have q2:=q.st1
   have q3:=q.len2
   have q4:=q.sent
   have q5:=q.parts
   have q6:0 <= m.parts * s.config.part:=Int.mul_nonneg q5 (by omega)
   refine ⟨⟨q1,by omega,by omega,by omega,fun _=>?_⟩,by omega,by omega,q.left,by omega⟩
   unfold midAt
   split <;> omega
 . have q:=h.out x hx
   exact ⟨by rw [q.spans];decide,by rw [q.skips];decide⟩
theorem SI.mono {M:Nat} (h:SI N s) (h1:N <= M) (h2:M <= 2 ^ 20):SI M s:=⟨h.cfg,h.nums,h.next,h.cum,h.owes,h.npaths,h.nhad,h.nmids,h.waits,h.queue,h.out,h.flight,Nat.le_trans h.many h1,h2⟩
end
theorem yru {c:Config} (h:wrgS c=0):SI 0 (newS c):=by
 obtain ⟨h1,h2,h3,h4,h5,h6,h7,h8,h9,h10,h11,h12,h13,h14⟩:=zbo h
 refine ⟨h,fun i x hx=>?_,?_,?_,?_,?_,?_,?_,?_,fun m hm=>?_,fun x hx=>?_,fun i p hp=>?_,?_,by decide⟩
 . simp [newS] at hx
 . simp [newS]
 . show c.first - 1 <= c.first - 1;omega
 . show c.first+owed [] <= c.first+61 * (([]:List Int).length:Int);simp [owed]
 . show ((List.replicate c.paths.toNat (Paths.new c.part)).length:Int)=c.paths;simp;omega
 . show ((Sch.new c.streams).had.length:Int)=c.streams
   simp [Sch.new];omega
 . show ((List.replicate (2 * c.streams).toNat (0:Int)).length:Int)=2 * c.streams;simp;omega
 . show (([]:List Queued).length:Int) <= c.waiting;simp;omega
 . simp [newS] at hm
 . simp [newS] at hx
 . have hp:(List.replicate c.paths.toNat (Paths.new c.part))[i]?=some p:=hp
   rw [List.getElem?_replicate] at hp
   split at hp
   . cases hp;simp [Paths.new,Sco.fl,newS]
   . cases hp
 . show ([]:List Int).length <= 0;simp
theorem QI.more {c:Config} {fates:List Int} {m:Queued} (h:QI c fates m) (f:Int):QI c (fates++[f]) m :=
 ⟨h.id0,by have:=h.id1;simp;omega,by have:=h.id0;have:=h.id1;rw [List.getElem?_append_left (by omega)];exact h.fate,h.st0,h.st1,h.len1,h.len2,h.parts,h.sent,h.left⟩
theorem XI.more {np nf nf':Nat} {x:Sent} (h:XI np nf x) (hn:nf <= nf'):XI np nf' x:=⟨h.path0,h.path1,h.id0,by have:=h.id1;omega,h.spans,h.skips,h.data⟩
theorem zzv {N:Nat} {s:Sender} {m:Message} (h:SI N s) (he:zdv s m=0) (hN:N+1 <= 2 ^ 20):SI (N+1) (sendS s m):=by
 unfold zdv at he
 split at he
 . cases he
 split at he
 . cases he
 split at he
 . cases he
 rename_i c1 c2 c3
 refine ⟨h.cfg,h.nums,h.next,h.cum,?_,h.npaths,h.nhad,h.nmids,?_,fun q hq=>?_,fun x hx=>(h.out x hx).more (by simp [sendS]),h.flight,?_,hN⟩
 . have h1:=h.owes
   show s.next+owed (s.queue++[⟨s.fates.length,-1,s.clock,0,0,m⟩]) <= s.config.first+61 * ((s.fates++[1]).length:Int)
   rw [zis,zib]
   simp only [owed,List.map_nil,List.sum_nil,List.length_append,List.length_cons,List.length_nil] at h1 ⊢
   push_cast;omega
 . show ((s.queue++[_]).length:Int) <= s.config.waiting
   simp;omega
 . rcases List.mem_append.1 hq with hq | hq
   . exact (h.queue q hq).more 1
   . rw [List.mem_singleton] at hq;subst hq
     exact ⟨by simp,by simp [sendS];omega,by simp [sendS],by dsimp only;omega,by show m.stream < s.config.streams;omega,by dsimp only;omega,by dsimp only;omega,by simp,by simp,by dsimp only;omega⟩
 . have:=h.many
   show (s.fates++[1]).length <= N+1;simp;omega
theorem yjj (id:Int) (s:Sender) (m:Queued) (hm:m.parts <= 60):W (s.next+1)=s.next+1 -> (end1 id s m).next+owed ([m].filter fun m=>decide (m.id ≠ id)) <= s.next+owed [m]:=by
 intro hW
 unfold end1
 by_cases c:m.id=id
 . have e1:[m].filter (fun m=>decide (m.id ≠ id))=[]:=by simp [c]
   rw [e1]
   split
   . show W (s.next+1)+owed [] <= _
     simp only [owed,List.map_nil,List.sum_nil,List.map_cons,List.sum_cons];omega
   . simp only [owed,List.map_nil,List.sum_nil,List.map_cons,List.sum_cons];omega
 . rw [if_neg (fun h=>c h.1)]
   simp [c,owed]
theorem ycp (id:Int):∀ (q:List Queued) (s:Sender),(∀ m ∈ q,m.parts <= 60) -> -1000 <= s.next -> s.next+q.length < 2 ^ 60 -> s.next=s.cum+1+s.out.length -> (∀ (i:Nat) x,s.out[i]?=some x -> x.number=s.cum+1+i) ->
 (q.foldl (end1 id) s).next=s.cum+1+(q.foldl (end1 id) s).out.length /\ (∀ (i:Nat) x,(q.foldl (end1 id) s).out[i]?=some x -> x.number=s.cum+1+i) /\ (q.foldl (end1 id) s).next+owed (q.filter fun m=>decide (m.id ≠ id)) <= s.next+owed q
 | [],s,_,_,_,h1,h2=>⟨h1,h2,Int.le_refl _⟩
 | m :: q,s,hq,h0,hb,h1,h2=>by
  have hW:W (s.next+1)=s.next+1:=by simp only [List.length_cons] at hb;exact W_fit (by omega) (by omega)
  have hk:=zqu id s m
  have hcum:(end1 id s m).cum=s.cum:=by rw [hk]
  have ho:=yjj id s m (hq m (by simp)) hW
  have h1':(end1 id s m).next=(end1 id s m).cum+1+(end1 id s m).out.length /\ s.next <= (end1 id s m).next /\ (end1 id s m).next <= s.next+1:=by
   unfold end1
   split
   . dsimp only;rw [hW];simp;omega
   . exact ⟨h1,by omega,by omega⟩
  have h2':∀ (i:Nat) x,(end1 id s m).out[i]?=some x -> x.number=(end1 id s m).cum+1+i:=by
   rw [hcum]
   unfold end1
   split
   . intro i x hx
     have hx:(s.out++[endOf s.next m])[i]?=some x:=hx
     rcases Nat.lt_or_ge i s.out.length with hi | hi
     . rw [List.getElem?_append_left hi] at hx;exact h2 i x hx
     . rw [List.getElem?_append_right hi] at hx
       have:i - s.out.length=0:=by
        rcases Nat.eq_zero_or_pos (i - s.out.length) with h | h
        . exact h
        . rw [List.getElem?_eq_none (by simp;omega)] at hx;cases hx
       rw [this] at hx
       cases hx
       show s.next=_
       omega
   . exact h2
  obtain ⟨r1,r2,r3⟩:=ycp id q (end1 id s m) (fun x hx=>hq x (by simp [hx])) (by omega) (by simp only [List.length_cons] at hb;push_cast at hb;omega) h1'.1 h2'
  rw [List.foldl_cons]
  rw [hcum] at r1 r2
  refine ⟨r1,r2,?_⟩
  have e1:(m :: q).filter (fun m=>decide (m.id ≠ id))=[m].filter (fun m=>decide (m.id ≠ id))++q.filter fun m=>decide (m.id ≠ id):=by rw [<- List.filter_append];rfl
  rw [e1,zis,zib]
  simp only [owed,List.map_cons,List.map_nil,List.sum_cons,List.sum_nil] at ho r3 ⊢
  omega
theorem yjk {np nf:Nat} (id:Int) (hnp:0 < np) (hid:0 <= id /\ id < nf):∀ (q:List Queued) (s:Sender),(∀ x ∈ s.out,XI np nf x) -> ∀ x ∈ (q.foldl (end1 id) s).out,XI np nf x
 | [],s,h,x,hx=>h x hx
 | m :: q,s,h,x,hx=>by
  refine yjk id hnp hid q (end1 id s m) (fun y hy=>?_) x hx
  unfold end1 at hy
  split at hy
  . rename_i c
    rcases List.mem_append.1 hy with hy | hy
    . exact h y hy
    . rw [List.mem_singleton] at hy;subst hy
      exact ⟨Int.le_refl _,by show (0:Int) < np;omega,by show 0 <= m.id;omega,by show m.id < nf;omega,rfl,rfl,by simp [endOf]⟩
  . exact h y hy
theorem zra {s:Sender} {i:Nat} {p:Path} (h:(flights s).paths[i]?=some p):p.flight=Sco.fl i s.out:=by
 have h:(s.paths.mapIdx fun i p=>flP s.out i p)[i]?=some p:=h
 rw [List.getElem?_mapIdx] at h
 cases hp:s.paths[i]? with
 | none=>rw [hp] at h;cases h
 | some q=>rw [hp] at h;cases h;rfl
theorem zmx (s:Sender) (id:Nat):(giveS s id).out=(s.queue.foldl (end1 id) { s with fates:=s.fates.set id 3 }).out.map (Sco.give id):=rfl
theorem zwn (s:Sender) (id:Nat):(giveS s id).next=(s.queue.foldl (end1 id) { s with fates:=s.fates.set id 3 }).next:=rfl
theorem zgl (s:Sender) (id:Nat):(giveS s id).queue=s.queue.filter fun m=>decide (m.id ≠ (id:Int)):=rfl
theorem zdy (s:Sender) (id:Nat):(giveS s id).fates=s.fates.set id 3:=by
 show (s.queue.foldl (end1 id) { s with fates:=s.fates.set id 3 }).fates=_
 rw [zlk]
theorem zzw {s:Sender} {id:Nat} {i:Nat} {p:Path} (h:(giveS s id).paths[i]?=some p):p.flight=Sco.fl i (giveS s id).out:=by
 unfold giveS at h ⊢
 dsimp only at h ⊢
 have:=zra h
 exact this
theorem ztl {N:Nat} {s:Sender} (h:SI N s) {id:Nat} (hid:id < s.fates.length):SI N (giveS s id):=by
 obtain ⟨r,-,-,-⟩:=zfh s id
 have hw:=zbo h.cfg
 have hl:=h.nextle
 have hw2:=h.waits
 have hf:=h.few
 have hc:=h.cum
 have hn:=h.next
 obtain ⟨e1,e2,e3⟩:=ycp id s.queue { s with fates:=s.fates.set id 3 } (fun m hm=>by have:=(h.queue m hm).few (by omega);omega) (by dsimp only;omega) (by dsimp only;omega) h.next h.nums
 refine ⟨by rw [r.config];exact h.cfg,fun i x hx=>?_,?_,by rw [r.config,r.cum];exact h.cum,?_,by rw [r.paths,r.config];exact h.npaths,by rw [r.had,r.config];exact h.nhad,by rw [r.mids,r.config];exact h.nmids,?_,fun m hm=>?_,fun x hx=>?_,fun i p hp=>?_,by rw [r.fates];exact h.many,h.few⟩
 . rw [zmx,List.getElem?_map] at hx
   cases hy:(s.queue.foldl (end1 id) { s with fates:=s.fates.set id 3 }).out[i]? with
   | none=>rw [hy] at hx;cases hx
   | some y =>
    rw [hy] at hx
    cases hx
    rw [r.cum,show (Sco.give id y).number=y.number by unfold Sco.give;split <;> rfl]
    exact e2 i y hy
 . rw [zwn,zmx,r.cum,List.length_map];exact e1
 . rw [zwn,zgl,r.config,r.fates]
   have:=h.owes
   dsimp only at e3
   omega
 . rw [zgl,r.config]
   have:=List.length_filter_le (fun m:Queued=>decide (m.id ≠ (id:Int))) s.queue
   omega
 . rw [zgl] at hm
   obtain ⟨hm1,hm2⟩:=List.mem_filter.1 hm
   have hm2:m.id ≠ id:=of_decide_eq_true hm2
   have q:=h.queue m hm1
   have q0:=q.id0
   rw [r.config,zdy]
   exact ⟨q.id0,by rw [List.length_set];exact q.id1,by rw [List.getElem?_set_ne (by omega)];exact q.fate,q.st0,q.st1,q.len1,q.len2,q.parts,q.sent,q.left⟩
 . rw [zmx] at hx
   obtain ⟨y,hy,rfl⟩:=List.mem_map.1 hx
   have hp:=h.npaths
   have:=yjk (np:=s.paths.length) (nf:=s.fates.length) id (by omega) ⟨by omega,by omega⟩ s.queue { s with fates:=s.fates.set id 3 } h.out y hy
   rw [r.paths,r.fates]
   unfold Sco.give
   split
   . exact ⟨this.path0,this.path1,this.id0,this.id1,this.spans,this.skips,this.data⟩
   . exact this
 . exact zzw hp
theorem yqb {N:Nat} {s:Sender} (h:SI N s) {m:Queued} (hm:0 <= m.id /\ m.id < s.fates.length):SI N (expQ s m) /\ (expQ s m).fates.length=s.fates.length:=by
 unfold expQ
 split
 . obtain ⟨k,hk⟩:∃ k:Nat,m.id=k:=⟨m.id.toNat,by omega⟩
   rw [hk];exact ⟨ztl h (by omega),by rw [zdy,List.length_set]⟩
 . exact ⟨h,rfl⟩
theorem yqc {N:Nat} {s:Sender} (h:SI N s) {m:Sent} (hm:0 <= m.id /\ m.id < s.fates.length):SI N (expX s m) /\ (expX s m).fates.length=s.fates.length:=by
 unfold expX
 split
 . obtain ⟨k,hk⟩:∃ k:Nat,m.id=k:=⟨m.id.toNat,by omega⟩
   rw [hk];exact ⟨ztl h (by omega),by rw [zdy,List.length_set]⟩
 . exact ⟨h,rfl⟩
theorem zko {N:Nat}:∀ (q:List Queued) (s:Sender),SI N s -> (∀ m ∈ q,0 <= m.id /\ m.id < s.fates.length) -> SI N (q.foldl expQ s) /\ (q.foldl expQ s).fates.length=s.fates.length
 | [],s,h,_=>⟨h,rfl⟩
 | m :: q,s,h,hq=>by
  obtain ⟨a,b⟩:=yqb h (hq m (by simp))
  obtain ⟨c,d⟩:=zko q (expQ s m) a fun x hx=>by rw [b];exact hq x (by simp [hx])
  exact ⟨c,d.trans b⟩
theorem ycq {N:Nat}:∀ (q:List Sent) (s:Sender),SI N s -> (∀ m ∈ q,0 <= m.id /\ m.id < s.fates.length) -> SI N (q.foldl expX s) /\ (q.foldl expX s).fates.length=s.fates.length
 | [],s,h,_=>⟨h,rfl⟩
 | m :: q,s,h,hq=>by
  obtain ⟨a,b⟩:=yqc h (hq m (by simp))
  obtain ⟨c,d⟩:=ycq q (expX s m) a fun x hx=>by rw [b];exact hq x (by simp [hx])
  exact ⟨c,d.trans b⟩
theorem zwo {N:Nat} {s:Sender} (h:SI N s):SI N (expire s) /\ (expire s).fates.length=s.fates.length:=by
 obtain ⟨a,b⟩:=zko s.queue s h fun m hm=>⟨(h.queue m hm).id0,(h.queue m hm).id1⟩
 obtain ⟨c,d⟩:=ycq (s.queue.foldl expQ s).out _ a fun x hx=>⟨(a.out x hx).id0,(a.out x hx).id1⟩
 exact ⟨c,d.trans b⟩
end Snd
end Go.HL
namespace Go.HL
open Go.Proofs
namespace Snd
open Ser
set_option maxHeartbeats 4000000
set_option maxRecDepth 100000
set_option linter.unusedSimpArgs false
theorem zgm {α:Type} (l:List α) (k:Nat) (f:α -> α):(setAt l k f).length=l.length:=by
 unfold setAt;split <;> simp
theorem zox {α:Type} {l:List α} {k:Nat} {f:α -> α} {i:Nat} {y:α} (h:(setAt l k f)[i]?=some y):(i ≠ k /\ l[i]?=some y) \/ (i=k /\ ∃ x,l[k]?=some x /\ y=f x):=by
 unfold setAt at h
 split at h
 . rename_i hn
   by_cases e:i=k
   . subst e;rw [hn] at h;cases h
   . exact .inl ⟨e,h⟩
 . rename_i x hx
   by_cases e:i=k
   . subst e
     have hk:=(List.getElem?_eq_some_iff.1 hx).1
     rw [List.getElem?_set_self hk] at h
     cases h
     exact .inr ⟨rfl,x,hx,rfl⟩
   . rw [List.getElem?_set_ne (fun h=>e h.symm)] at h;exact .inl ⟨e,h⟩
theorem zlm (p:Int) (x:Sent) (l:List Sent):Sco.fl p (x :: l)=Sco.fl p [x]+Sco.fl p l:=by
 rw [show x :: l=[x]++l from rfl,Sco.yig]
theorem yoe (p:Int):∀ {l:List Sent} {i:Nat} {x:Sent},l[i]?=some x -> ∀ y,Sco.fl p (l.set i y)+Sco.fl p [x]=Sco.fl p l+Sco.fl p [y]
 | [],i,x,h,y=>by simp at h
 | z :: l,0,x,h,y=>by
  simp only [List.getElem?_cons_zero,Option.some.injEq] at h
  subst h
  rw [List.set_cons_zero,zlm,zlm p z l];omega
 | z :: l,i+1,x,h,y=>by
  simp only [List.getElem?_cons_succ] at h
  have:=yoe p h y
  rw [List.set_cons_succ,zlm,zlm p z l];omega
section
variable {N:Nat} {s:Sender}
theorem SI.side (h:SI N s) {ps:List Path} {k:Int} {r:Int} {f:Bool} {z:Int} (hl:ps.length=s.paths.length) (hf:∀ (i:Nat) p,ps[i]?=some p -> p.flight=Sco.fl i s.out) :
 SI N { s with paths:=ps,clock:=k,room:=r,forward:=f,recover:=z } :=
 ⟨h.cfg,h.nums,h.next,h.cum,h.owes,by show (ps.length:Int)=_;rw [hl];exact h.npaths,h.nhad,h.nmids,h.waits,h.queue,fun x hx=>by show XI ps.length _ x;rw [hl];exact h.out x hx,hf,h.many,h.few⟩
theorem choose_lt' (h:SI N s):choose s < s.paths.length:=(zcp h.pf.some).2
theorem zrb {o:List (List Chunk)} (h:SI N s):SI N (forward ⟨s,o⟩).s:=by
 unfold forward
 split
 . exact h
 . refine h.side (zgm _ _ _) fun i p hp=>?_
   rcases zox hp with ⟨-,hp⟩ | ⟨rfl,q,hq,rfl⟩
   . exact h.flight i p hp
   . rw [<- h.flight _ q hq]
     unfold alarm;split <;> rfl
theorem yof {p:Pump} (h:SI N p.s) {i path:Nat} {x:Sent} (hx:p.s.out[i]?=some x) (hst:x.state ≠ 1) (hp:path < p.s.paths.length):SI N (fly p i path).s:=by
 obtain ⟨s,o⟩:=p
 dsimp only at h hx hp
 have hxm:=List.mem_of_getElem? hx
 have hxi:=h.out x hxm
 have hil:=(List.getElem?_eq_some_iff.1 hx).1
 have hw:=zbo h.cfg
 have hnp:=h.npaths
 have htot:=h.total
 have hfew:=h.few
 have h0:∀ q:Int,Sco.fl q [x]=0:=fun q=>by rw [Sco.zqm,if_neg (fun h=>hst h.1)]
 unfold fly
 simp only [hx]
 refine ⟨h.cfg,fun j y hy=>?_,?_,h.cum,h.owes,?_,h.nhad,h.nmids,h.waits,h.queue,fun y hy=>?_,fun j q hq=>?_,h.many,h.few⟩
 . have hy:(s.out.set i (flyX x path))[j]?=some y:=hy
   by_cases e:i=j
   . subst e
     rw [List.getElem?_set_self hil] at hy
     cases hy
     exact h.nums i x hx
   . rw [List.getElem?_set_ne e] at hy;exact h.nums j y hy
 . show s.next=s.cum+1+((s.out.set i _).length:Int)
   rw [List.length_set];exact h.next
 . show ((setAt s.paths path _).length:Int)=_
   rw [zgm];exact h.npaths
 . have hy:y ∈ s.out.set i (flyX x path):=hy
   show XI (setAt s.paths path _).length _ y
   rw [zgm]
   rcases List.mem_or_eq_of_mem_set hy with hy | rfl
   . exact h.out y hy
   . exact ⟨by show (0:Int) <= path;omega,by show (path:Int) < s.paths.length;omega,hxi.id0,hxi.id1,hxi.spans,hxi.skips,hxi.data⟩
 . show q.flight=(Sco.fl j (s.out.set i (flyX x path)):Nat)
   have e1:=yoe (j:Int) hx (flyX x path)
   rw [h0] at e1
   have e2:Sco.fl (j:Int) [flyX x path]=if path=j then x.chunk.data.length else 0:=by
    rw [Sco.zqm]
    by_cases e:path=j
    . rw [if_pos e,if_pos ⟨rfl,by show (path:Int)=j;omega⟩];rfl
    . rw [if_neg e,if_neg (by rintro ⟨-,h⟩;have h:(path:Int)=j:=h;omega)]
   rcases zox hq with ⟨ne,hq⟩ | ⟨rfl,w,hw2,rfl⟩
   . rw [h.flight j q hq]
     rw [if_neg (fun h=>ne h.symm)] at e2
     omega
   . rw [if_pos rfl] at e2
     have e3:=h.flight j w hw2
     have e4:=Sco.fl_le (j:Int) s.out
     have e5:=hxi.data
     show W (w.flight+x.chunk.data.length)=_
     rw [e3,W_fit (by omega) (by omega)]
     omega
theorem yjl {p:Pump} (h:SI N p.s) {path:Nat} (hp:path < p.s.paths.length) (i:Nat):SI N (zcj path p i).s /\ (zcj path p i).s.paths.length=p.s.paths.length:=by
 unfold zcj
 split
 . exact ⟨h,rfl⟩
 . rename_i x hx
   split
   . rename_i c
     refine ⟨yof h hx (by rw [c.1];decide) hp,?_⟩
     unfold fly
     simp only [hx]
     exact zgm _ _ _
   . exact ⟨h,rfl⟩
theorem zwp {path:Nat}:∀ (L:List Nat) {p:Pump},SI N p.s -> path < p.s.paths.length -> SI N (L.foldl (zcj path) p).s
 | [],_,h,_=>h
 | i :: L,p,h,hp=>by
  obtain ⟨a,b⟩:=yjl h hp i
  exact zwp L a (by rw [b];exact hp)
theorem ycr {p:Pump} (h:SI N p.s):SI N (again p).s:=zwp _ h (choose_lt' h)
theorem yms {q:List Queued} {k:Nat} {m y:Queued} (h:q[k]?=some m):owed (q.set k y)=owed q+m.parts - y.parts:=by
 obtain ⟨a,b,rfl,rfl⟩:∃ a b,q=a++m :: b /\ a.length=k:=⟨q.take k,q.drop (k+1),by
  have hk:=(List.getElem?_eq_some_iff.1 h)
  obtain ⟨hk,e⟩:=hk
  rw [<- e,List.getElem_cons_drop,List.take_append_drop],by have:=(List.getElem?_eq_some_iff.1 h).1;simp;omega⟩
 rw [List.set_append_right _ _ (Nat.le_refl _),Nat.sub_self,List.set_cons_zero,zis,zis,zib,zib];omega
theorem yfq {q:List Queued} {k:Nat} {m:Queued} (h:q[k]?=some m):owed (q.eraseIdx k)=owed q+m.parts - 61:=by
 obtain ⟨a,b,rfl,rfl⟩:∃ a b,q=a++m :: b /\ a.length=k:=⟨q.take k,q.drop (k+1),by
  have hk:=(List.getElem?_eq_some_iff.1 h)
  obtain ⟨hk,e⟩:=hk
  rw [<- e,List.getElem_cons_drop,List.take_append_drop],by have:=(List.getElem?_eq_some_iff.1 h).1;simp;omega⟩
 rw [List.eraseIdx_append_of_length_le (Nat.le_refl _),Nat.sub_self,List.eraseIdx_cons_zero,zis,zis,zib];omega
theorem yfr (s:Sender) (m:Queued):(zdd s m).length=s.mids.length:=by
 unfold zdd;split
 . exact zgm _ _ _
 . rfl
theorem yqd (sc:Sched) (m:Queued) (n:Int) (o:Bool):(Sch.had sc m n o).had.length=sc.had.length:=by
 unfold Sch.had
 dsimp only
 split <;> simp
def cutS (s:Sender) (k:Nat) (m:Queued):Sender :=
 { s with mids:=zdd s m,sched:=Sch.had s.sched { m with mid:=midOf s m } (many s m) (decide (m.sent+many s m=m.message.data.length)),out:=s.out++[⟨s.next,m.id,0,0,0,0,m.came,m.message.life,m.message.tries,cut s m (many s m)⟩],next:=W (s.next+1),queue:=if decide (m.sent+many s m=m.message.data.length) then s.queue.eraseIdx k else s.queue.set k { m with mid:=midOf s m,sent:=m.sent+many s m,parts:=W (m.parts+1) } }
theorem zkp (s:Sender) (o:List (List Chunk)) (k:Nat) (m:Queued):next1 ⟨s,o⟩ k m (many s m)=fly ⟨cutS s k m,o⟩ s.out.length (choose s):=rfl
theorem yrv (h:SI N s) {k:Nat} {m:Queued} (hm:s.queue[k]?=some m):SI N (cutS s k m):=by
 have hw:=zbo h.cfg
 have q:=h.queue m (List.mem_of_getElem? hm)
 have hfew:=q.few (by omega)
 have hN:=h.few
 have hnl:=h.nextle
 have hcum:=h.cum
 have hnx:=h.next
 have hp:=h.npaths
 have q1:=q.parts
 have q2:=q.sent
 have q3:=q.left
 have q4:=q.len2
 have q5:0 <= m.parts * s.config.part:=Int.mul_nonneg q1 (by omega)
 obtain ⟨n1,n2,n3⟩:=zll (s:=s) (m:=m) (by omega) (by omega) (by omega) q3 (by omega)
 have n4:many s m <= s.config.part:=by unfold many;split <;> omega
 have hW:W (s.next+1)=s.next+1:=W_fit (by omega) (by omega)
 have hWp:W (m.parts+1)=m.parts+1:=W_fit (by omega) (by omega)
 refine ⟨h.cfg,fun j y hy=>?_,?_,h.cum,?_,h.npaths,?_,?_,?_,fun y hy=>?_,fun y hy=>?_,fun j p hp=>?_,h.many,h.few⟩
 . have hy:(s.out++[_])[j]?=some y:=hy
   rcases Nat.lt_or_ge j s.out.length with hj | hj
   . rw [List.getElem?_append_left hj] at hy;exact h.nums j y hy
   . rw [List.getElem?_append_right hj] at hy
     have e:j - s.out.length=0:=by
      rcases Nat.eq_zero_or_pos (j - s.out.length) with h | h
      . exact h
      . rw [List.getElem?_eq_none (by simp;omega)] at hy;cases hy
     rw [e] at hy
     cases hy
     show s.next=s.cum+1+j
     omega
 . show W (s.next+1)=s.cum+1+((s.out++[_]).length:Int)
   rw [hW,List.length_append,List.length_singleton];push_cast;omega
 . have:=h.owes
   show W (s.next+1)+owed (if decide (m.sent+many s m=m.message.data.length) then s.queue.eraseIdx k else s.queue.set k { m with mid:=midOf s m,sent:=m.sent+many s m,parts:=W (m.parts+1) }) <= s.config.first+61 * (s.fates.length:Int)
   rw [hW]
   split
   . rw [yfq hm];omega
   . rw [yms hm];dsimp only;rw [hWp];omega
 . show ((Sch.had s.sched _ _ _).had.length:Int)=_
   rw [yqd];exact h.nhad
 . show ((zdd s m).length:Int)=_
   rw [yfr];exact h.nmids
 . show ((if decide (m.sent+many s m=m.message.data.length) then s.queue.eraseIdx k else s.queue.set k { m with mid:=midOf s m,sent:=m.sent+many s m,parts:=W (m.parts+1) }).length:Int) <= s.config.waiting
   have:=h.waits
   split
   . rw [List.length_eraseIdx];split <;> omega
   . rw [List.length_set];exact this
 . have hy:y ∈ (if decide (m.sent+many s m=m.message.data.length) then s.queue.eraseIdx k else s.queue.set k { m with mid:=midOf s m,sent:=m.sent+many s m,parts:=W (m.parts+1) }):=hy
   show QI s.config s.fates y
   split at hy
   . exact h.queue y (List.mem_of_mem_eraseIdx hy)
   . rename_i c
     have c:m.sent+many s m ≠ m.message.data.length:=by simpa using c
     rcases List.mem_or_eq_of_mem_set hy with hy | rfl
     . exact h.queue y hy
     . have e:many s m=s.config.part:=by
        unfold many at c ⊢
        split at c
        . omega
        . rename_i c2;rw [if_neg c2]
       refine ⟨q.id0,q.id1,q.fate,q.st0,q.st1,q.len1,q.len2,?_,?_,?_⟩
       . show 0 <= W (m.parts+1);omega
       . show m.sent+many s m=W (m.parts+1) * s.config.part
         rw [hWp,e,q2,Int.add_mul,Int.one_mul]
       . show m.sent+many s m < m.message.data.length;omega
 . have hy:y ∈ s.out++[_]:=hy
   rcases List.mem_append.1 hy with hy | hy
   . exact h.out y hy
   . rw [List.mem_singleton] at hy;subst hy
     refine ⟨Int.le_refl _,by show (0:Int) < s.paths.length;omega,q.id0,q.id1,rfl,rfl,?_⟩
     show ((m.message.data.drop m.sent.toNat).take (many s m).toNat).length <= 16
     rw [List.length_take];omega
 . show p.flight=(Sco.fl j (s.out++[_]):Nat)
   rw [Sco.yig,h.flight j p hp,Sco.zqm,if_neg (by rintro ⟨h,-⟩;cases h)];rfl
theorem yjm {p q:Pump} (h:SI N p.s) (hq:next p=some q):SI N q.s:=by
 obtain ⟨s,o⟩:=p
 unfold next at hq
 dsimp only at hq h
 split at hq
 . cases hq
 rename_i c
 cases hm:s.queue[(zde s).toNat]? with
 | none=>rw [hm] at hq;cases hq
 | some m =>
  rw [hm] at hq
  dsimp only at hq
  split at hq
  . cases hq
  . cases hq
    rw [zkp]
    have h2:=yrv h hm
    exact yof (p:=⟨cutS s (zde s).toNat m,o⟩) h2 (x:=⟨s.next,m.id,0,0,0,0,m.came,m.message.life,m.message.tries,cut s m (many s m)⟩) (by show (s.out++[_])[s.out.length]?=_;simp) (by intro h;cases h) (choose_lt' h)
theorem ycs:∀ (n:Nat) {p:Pump},SI N p.s -> SI N (nexts n p).s
 | 0,_,h=>h
 | n+1,p,h=>by
  unfold nexts
  split
  . exact h
  . rename_i q hq;exact ycs n (yjm h hq)
theorem ymt (h:SI N s):SI N (woken s):=by
 refine h.side (by simp) fun i p hp=>?_
 rw [List.getElem?_map] at hp
 cases hq:s.paths[i]? with
 | none=>rw [hq] at hp;cases hp
 | some q =>
  rw [hq] at hp
  cases hp
  rw [<- h.flight i q hq]
  unfold wake
  split
  . rfl
  . split <;> rfl
theorem yqe (h:SI N s):SI N (pump s).1:=ymt (ycs 61 (ycr (zrb (zwo h).1)))
theorem zjn {n:Int}:∀ {l:List Sent} {cum:Int},(∀ (i:Nat) x,l[i]?=some x -> x.number=cum+1+i) -> cum <= n -> l.filter (fun x=>decide (x.number > n))=l.drop (n - cum).toNat
 | [],_,_,_=>by simp
 | x :: l,cum,h,hn=>by
  have h0:=h 0 x rfl
  have h1:∀ (i:Nat) y,l[i]?=some y -> y.number=cum+1+1+i:=fun i y hy=>by
   have:=h (i+1) y (by rw [List.getElem?_cons_succ];exact hy)
   push_cast at this;omega
  by_cases c:cum=n
  . subst c
    have:∀ y ∈ x :: l,y.number > cum:=fun y hy=>by
     obtain ⟨i,hi⟩:=List.getElem?_of_mem hy
     have:=h i y hi;omega
    rw [List.filter_eq_self.2 fun y hy=>decide_eq_true (this y hy)];simp
  . rw [List.filter_cons,if_neg (by simp at h0 ⊢;omega),zjn h1 (by omega)]
    have:(n - cum).toNat=(n - (cum+1)).toNat+1:=by omega
    rw [this,List.drop_succ_cons]
theorem yqf {l:List Sent} {cum:Int} {c:Chunk} {np:Int} (h:∀ (i:Nat) x,l[i]?=some x -> x.number=cum+1+i) (hk:¬ (near cum c.tag < cum \/ near cum c.tag > cum+l.length)) :
 ∃ g:Sent -> Sent,(∀ x,(g x).number=x.number /\ (g x).path=x.path /\ (g x).id=x.id /\ (g x).chunk=x.chunk) /\ (Sco.sack l cum c np).1=(l.drop (near cum c.tag - cum).toNat).map g:=by
 refine ⟨fun x=>Sco.age (Sco.zer c (near cum c.tag) l) (Sco.turn c (near cum c.tag) x),fun x=>?_,?_⟩
 . have e1:∀ (k:Int) y,(Sco.age k y).number=y.number /\ (Sco.age k y).path=y.path /\ (Sco.age k y).id=y.id /\ (Sco.age k y).chunk=y.chunk:=fun k y=>by unfold Sco.age;(repeat' split) <;> exact ⟨rfl,rfl,rfl,rfl⟩
   have e2:∀ k y,(Sco.turn c k y).number=y.number /\ (Sco.turn c k y).path=y.path /\ (Sco.turn c k y).id=y.id /\ (Sco.turn c k y).chunk=y.chunk:=fun k y=>by unfold Sco.turn;split <;> exact ⟨rfl,rfl,rfl,rfl⟩
   obtain ⟨a1,a2,a3,a4⟩:=e1 (Sco.zer c (near cum c.tag) l) (Sco.turn c (near cum c.tag) x)
   obtain ⟨b1,b2,b3,b4⟩:=e2 (near cum c.tag) x
   exact ⟨a1.trans b1,a2.trans b2,a3.trans b3,a4.trans b4⟩
 . rw [Sco.sack,if_neg hk]
   dsimp only
   rw [Sco.left,zjn h (by omega),List.map_map];rfl
theorem zwq (h:SI N s) {c:Chunk} (hk:¬ (near s.cum c.tag < s.cum \/ near s.cum c.tag > s.cum+s.out.length)):SI N (zfi s c (Sco.sack s.out s.cum c s.paths.length)):=by
 obtain ⟨g,hg,e⟩:=yqf (np:=s.paths.length) h.nums hk
 have e2:(Sco.sack s.out s.cum c s.paths.length).2.1=near s.cum c.tag:=by rw [Sco.sack,if_neg hk]
 have hl:(zfi s c (Sco.sack s.out s.cum c s.paths.length)).paths.length=s.paths.length:=by
  show (List.mapIdx _ (List.mapIdx _ _)).length=_
  simp
 have ho:(zfi s c (Sco.sack s.out s.cum c s.paths.length)).out=(s.out.drop (near s.cum c.tag - s.cum).toNat).map g:=e
 have hc:(zfi s c (Sco.sack s.out s.cum c s.paths.length)).cum=near s.cum c.tag:=e2
 have hn:=h.next
 have hcu:=h.cum
 refine ⟨h.cfg,fun i x hx=>?_,?_,?_,h.owes,by rw [hl];exact h.npaths,h.nhad,h.nmids,h.waits,h.queue,fun x hx=>?_,fun i p hp=>?_,h.many,h.few⟩
 case refine_5=>have:=zra (s:={ s with out:=(Sco.sack s.out s.cum c s.paths.length).1,cum:=(Sco.sack s.out s.cum c s.paths.length).2.1,room:=c.room,paths:=comeP s.paths s.config.part (decide ((Sco.sack s.out s.cum c s.paths.length).2.1 > s.cum)) (Sco.sack s.out s.cum c s.paths.length).2.2.1 }) hp;exact this
 . rw [ho,List.getElem?_map,List.getElem?_drop] at hx
   cases hy:s.out[(near s.cum c.tag - s.cum).toNat+i]? with
   | none=>rw [hy] at hx;cases hx
   | some y =>
    rw [hy] at hx
    cases hx
    rw [(hg y).1,h.nums _ y hy,hc];push_cast;omega
 . rw [ho,hc,List.length_map,List.length_drop]
   show s.next=_
   omega
 . rw [hc];show s.config.first - 1 <= _;omega
 . rw [ho] at hx
   obtain ⟨y,hy,rfl⟩:=List.mem_map.1 hx
   have q:=h.out y (List.mem_of_mem_drop hy)
   obtain ⟨g1,g2,g3,g4⟩:=hg y
   rw [hl]
   exact ⟨by rw [g2];exact q.path0,by rw [g2];exact q.path1,by rw [g3];exact q.id0,by rw [g3];exact q.id1,by rw [g4];exact q.spans,by rw [g4];exact q.skips,by rw [g4];exact q.data⟩
theorem zwr (h:SI N s) {part:Int} {L:List Int}:SI N (zgk part s L):=by
 unfold zgk
 split
 . exact h
 . split
   . refine h.side (zgm _ _ _) fun i p hp=>?_
     rcases zox hp with ⟨-,hp⟩ | ⟨rfl,q,hq,rfl⟩
     . exact h.flight i p hp
     . rw [<- h.flight _ q hq];rfl
   . exact h
theorem zws (h:SI N s) {b:Bool}:SI N (zes b s):=by
 unfold zes
 split
 . exact h.side rfl h.flight
 . exact h
theorem yjn (h:SI N s):SI N (settle s):=by
 have hl:(settle s).fates.length=s.fates.length:=by show (List.mapIdx _ _).length=_;simp
 refine ⟨h.cfg,h.nums,h.next,h.cum,by rw [hl];exact h.owes,h.npaths,h.nhad,h.nmids,h.waits,fun m hm=>?_,fun x hx=>by rw [hl];exact h.out x hx,h.flight,by rw [hl];exact h.many,h.few⟩
 have hm:m ∈ s.queue:=hm
 have q:=h.queue m hm
 have q0:=q.id0
 refine ⟨q.id0,by rw [hl];exact q.id1,?_,q.st0,q.st1,q.len1,q.len2,q.parts,q.sent,q.left⟩
 show (s.fates.mapIdx fun id f=>settled s id f)[m.id.toNat]?=some 1
 rw [List.getElem?_mapIdx,q.fate]
 show some (settled s m.id.toNat 1)=some 1
 rw [settled,if_neg]
 rintro ⟨-,h2,-⟩
 rw [List.any_eq_false] at h2
 exact h2 m hm (decide_eq_true (by omega))
theorem yqg (h:SI N s) (c:Chunk):SI N (hear s c):=by
 unfold hear
 split
 . exact h
 split
 . exact h
 . rename_i c1 c2
   rw [zmw]
   exact yjn (zws (zwr (zwq h c2)))
theorem yjo (i j:Nat):∀ l:List Sent,Sco.fl j (l.map (Sco.late i))=if i=j then 0 else Sco.fl j l
 | []=>by simp [Sco.fl]
 | x :: l=>by
  rw [List.map_cons,zlm,yjo i j l,zlm (j:Int) x l,Sco.zqm,Sco.zqm]
  unfold Sco.late
  by_cases c:x.state=1 /\ x.path=i
  . rw [if_pos c,if_neg (by rintro ⟨h,-⟩;cases h)]
    by_cases e:i=j
    . rw [if_pos e,if_pos e]
    . rw [if_neg e,if_neg e,if_neg (by rintro ⟨-,h⟩;have:=c.2;omega)]
  . rw [if_neg c]
    by_cases e:i=j
    . subst e;rw [if_pos rfl,if_pos rfl,if_neg c]
    . rw [if_neg e,if_neg e]
theorem ymu (h:SI N s) (part:Int) (i:Nat):SI N (late1 part s i):=by
 unfold late1
 split
 . exact h
 rename_i p hp
 split
 . exact h
 have hil:=(List.getElem?_eq_some_iff.1 hp).1
 have h2:SI N { s with out:=s.out.map (Sco.late i),paths:=s.paths.set i (Paths.late p part) }:=by
  have e:∀ x,(Sco.late i x).number=x.number /\ (Sco.late i x).path=x.path /\ (Sco.late i x).id=x.id /\ (Sco.late i x).chunk=x.chunk:=fun x=>by unfold Sco.late;split <;> exact ⟨rfl,rfl,rfl,rfl⟩
  refine ⟨h.cfg,fun j y hy=>?_,?_,h.cum,h.owes,?_,h.nhad,h.nmids,h.waits,h.queue,fun y hy=>?_,fun j q hq=>?_,h.many,h.few⟩
  . have hy:(s.out.map (Sco.late i))[j]?=some y:=hy
    rw [List.getElem?_map] at hy
    cases hz:s.out[j]? with
    | none=>rw [hz] at hy;cases hy
    | some z=>rw [hz] at hy;cases hy;rw [(e z).1];exact h.nums j z hz
  . show s.next=s.cum+1+((s.out.map (Sco.late i)).length:Int)
    rw [List.length_map];exact h.next
  . show ((s.paths.set i _).length:Int)=_
    rw [List.length_set];exact h.npaths
  . have hy:y ∈ s.out.map (Sco.late i):=hy
    obtain ⟨z,hz,rfl⟩:=List.mem_map.1 hy
    have q:=h.out z hz
    obtain ⟨g1,g2,g3,g4⟩:=e z
    show XI (s.paths.set i _).length _ _
    rw [List.length_set]
    exact ⟨by rw [g2];exact q.path0,by rw [g2];exact q.path1,by rw [g3];exact q.id0,by rw [g3];exact q.id1,by rw [g4];exact q.spans,by rw [g4];exact q.skips,by rw [g4];exact q.data⟩
  . have hq:(s.paths.set i (Paths.late p part))[j]?=some q:=hq
    show q.flight=(Sco.fl j (s.out.map (Sco.late i)):Nat)
    rw [yjo]
    by_cases e:i=j
    . subst e
      rw [List.getElem?_set_self hil] at hq
      cases hq
      rw [if_pos rfl];rfl
    . rw [List.getElem?_set_ne e] at hq
      rw [if_neg e];exact h.flight j q hq
 dsimp only
 split
 . exact h2.side rfl h2.flight
 . exact h2
theorem yct (part:Int):∀ (L:List Nat) {s:Sender},SI N s -> SI N (L.foldl (late1 part) s)
 | [],_,h=>h
 | i :: L,_,h=>yct part L (ymu h part i)
theorem zzx (h:SI N s):SI N (tick s):=yct _ _ (h.side rfl h.flight)
end
end Snd
end Go.HL
namespace Go.HL
open Go.Proofs
namespace Snd
open Ser
set_option maxHeartbeats 4000000
set_option maxRecDepth 100000
set_option linter.unusedSimpArgs false
def Loose (L:List Message) (k:Nat):Prop:=∀ m,L[k]?=some m -> m.life ≠ 0 \/ m.tries ≠ 0
structure KI (L:List Message) (s:Sender):Prop where
 len:s.fates.length=L.length
 queue:∀ m ∈ s.queue,L[m.id.toNat]?=some m.message
 out:∀ x ∈ s.out,(x.life > 0 \/ x.tries > 0) -> Loose L x.id.toNat
 gone:∀ k:Nat,s.fates[k]?=some 3 -> Loose L k
theorem zrc {L:List Message} (id:Int):∀ (q:List Queued) (s:Sender),(∀ x ∈ s.out,(x.life > 0 \/ x.tries > 0) -> Loose L x.id.toNat) -> ∀ x ∈ (q.foldl (end1 id) s).out,(x.life > 0 \/ x.tries > 0) -> Loose L x.id.toNat
 | [],s,h,x,hx=>h x hx
 | m :: q,s,h,x,hx=>by
  refine zrc id q (end1 id s m) (fun y hy=>?_) x hx
  unfold end1 at hy
  split at hy
  . rcases List.mem_append.1 hy with hy | hy
    . exact h y hy
    . rw [List.mem_singleton] at hy;subst hy
      intro hh;rcases hh with hh | hh <;> exact absurd hh (Int.lt_irrefl 0)
  . exact h y hy
section
variable {L:List Message} {s:Sender}
theorem yjp (h:KI L s) {id:Nat} (hid:Loose L id):KI L (giveS s id):=by
 refine ⟨by rw [zdy,List.length_set];exact h.len,fun m hm=>?_,fun x hx=>?_,fun k hk=>?_⟩
 . rw [zgl] at hm;exact h.queue m (List.mem_filter.1 hm).1
 . rw [zmx] at hx
   obtain ⟨y,hy,rfl⟩:=List.mem_map.1 hx
   have:=zrc id s.queue { s with fates:=s.fates.set id 3 } h.out y hy
   unfold Sco.give
   split <;> exact this
 . rw [zdy] at hk
   by_cases e:id=k
   . subst e;exact hid
   . rw [List.getElem?_set_ne e] at hk;exact h.gone k hk
theorem yqh (h:KI L s) {m:Queued} (hm:L[m.id.toNat]?=some m.message) (h0:0 <= m.id):KI L (expQ s m):=by
 unfold expQ
 split
 . rename_i c
   obtain ⟨k,hk⟩:∃ k:Nat,m.id=k:=⟨m.id.toNat,by omega⟩
   rw [hk] at hm ⊢
   refine yjp h fun y hy=>?_
   rw [Int.toNat_natCast,hy] at hm
   cases hm
   unfold old at c
   simp only [Bool.and_eq_true,decide_eq_true_eq] at c
   left;omega
 . exact h
theorem yqi (h:KI L s) {x:Sent} (hx:(x.life > 0 \/ x.tries > 0) -> Loose L x.id.toNat) (h0:0 <= x.id):KI L (expX s x):=by
 unfold expX
 split
 . rename_i c
   obtain ⟨k,hk⟩:∃ k:Nat,x.id=k:=⟨x.id.toNat,by omega⟩
   rw [hk] at hx ⊢
   refine yjp h (hx ?_)
   unfold dueX old at c
   simp only [Bool.and_eq_true,Bool.or_eq_true,decide_eq_true_eq] at c
   rcases c.2.2 with d | d
   . exact .inl d.1
   . exact .inr d.2.1
 . exact h
theorem ycu:∀ (q:List Queued) {s:Sender},KI L s -> (∀ m ∈ q,L[m.id.toNat]?=some m.message /\ 0 <= m.id) -> KI L (q.foldl expQ s)
 | [],_,h,_=>h
 | m :: q,s,h,hq=>ycu q (yqh h (hq m (by simp)).1 (hq m (by simp)).2) fun x hx=>hq x (by simp [hx])
theorem ycv:∀ (q:List Sent) {s:Sender},KI L s -> (∀ x ∈ q,((x.life > 0 \/ x.tries > 0) -> Loose L x.id.toNat) /\ 0 <= x.id) -> KI L (q.foldl expX s)
 | [],_,h,_=>h
 | m :: q,s,h,hq=>ycv q (yqi h (hq m (by simp)).1 (hq m (by simp)).2) fun x hx=>hq x (by simp [hx])
theorem zwt {N:Nat} (h:KI L s) (hs:SI N s):KI L (expire s):=by
 have h1:=ycu s.queue h fun m hm=>⟨h.queue m hm,(hs.queue m hm).id0⟩
 obtain ⟨h2,-⟩:=zko s.queue s hs fun m hm=>⟨(hs.queue m hm).id0,(hs.queue m hm).id1⟩
 exact ycv _ h1 fun x hx=>⟨h1.out x hx,(h2.out x hx).id0⟩
theorem KI.side {t:Sender} (h:KI L s) (h1:t.fates=s.fates) (h2:∀ m ∈ t.queue,∃ y ∈ s.queue,y.id=m.id /\ y.message=m.message) (h3:∀ x ∈ t.out,∃ y ∈ s.out,y.id=x.id /\ y.life=x.life /\ y.tries=x.tries):KI L t:=by
 refine ⟨by rw [h1];exact h.len,fun m hm=>?_,fun x hx=>?_,by rw [h1];exact h.gone⟩
 . obtain ⟨y,hy,e1,e2⟩:=h2 m hm;rw [<- e1,<- e2];exact h.queue y hy
 . obtain ⟨y,hy,e1,e2,e3⟩:=h3 x hx;rw [<- e1,<- e2,<- e3];exact h.out y hy
theorem zrd {o:List (List Chunk)} (h:KI L s):KI L (forward ⟨s,o⟩).s:=by
 unfold forward
 split
 . exact h
 . exact h.side rfl (fun m hm=>⟨m,hm,rfl,rfl⟩) fun x hx=>⟨x,hx,rfl,rfl,rfl⟩
theorem yog {p:Pump} (h:KI L p.s) (i path:Nat):KI L (fly p i path).s:=by
 unfold fly
 split
 . exact h
 . rename_i x hx
   refine h.side rfl (fun m hm=>⟨m,hm,rfl,rfl⟩) fun y hy=>?_
   rcases List.mem_or_eq_of_mem_set hy with hy | rfl
   . exact ⟨y,hy,rfl,rfl,rfl⟩
   . exact ⟨x,List.mem_of_getElem? hx,rfl,rfl,rfl⟩
theorem zoy {path:Nat}:∀ (l:List Nat) {p:Pump},KI L p.s -> KI L (l.foldl (zcj path) p).s
 | [],_,h=>h
 | i :: l,p,h=>by
  refine zoy l ?_
  unfold zcj
  split
  . exact h
  . split
    . exact yog h _ _
    . exact h
theorem yrw (h:KI L s) {k:Nat} {m:Queued} (hm:s.queue[k]?=some m):KI L (cutS s k m):=by
 have hmq:=List.mem_of_getElem? hm
 refine ⟨h.len,fun y hy=>?_,fun x hx=>?_,h.gone⟩
 . have hy:y ∈ (if decide (m.sent+many s m=m.message.data.length) then s.queue.eraseIdx k else s.queue.set k { m with mid:=midOf s m,sent:=m.sent+many s m,parts:=W (m.parts+1) }):=hy
   split at hy
   . exact h.queue y (List.mem_of_mem_eraseIdx hy)
   . rcases List.mem_or_eq_of_mem_set hy with hy | rfl
     . exact h.queue y hy
     . exact h.queue m hmq
 . have hx:x ∈ s.out++[_]:=hx
   rcases List.mem_append.1 hx with hx | hx
   . exact h.out x hx
   . rw [List.mem_singleton] at hx;subst hx
     intro hh y hy
     rw [show L[m.id.toNat]?=some m.message from h.queue m hmq] at hy
     cases hy
     have hh:m.message.life > 0 \/ m.message.tries > 0:=hh
     omega
theorem yjq {p q:Pump} (h:KI L p.s) (hq:next p=some q):KI L q.s:=by
 obtain ⟨s,o⟩:=p
 unfold next at hq
 dsimp only at hq h
 split at hq
 . cases hq
 cases hm:s.queue[(zde s).toNat]? with
 | none=>rw [hm] at hq;cases hq
 | some m =>
  rw [hm] at hq
  dsimp only at hq
  split at hq
  . cases hq
  . cases hq
    rw [zkp]
    exact yog (p:=⟨cutS s (zde s).toNat m,o⟩) (yrw h hm) _ _
theorem ycw:∀ (n:Nat) {p:Pump},KI L p.s -> KI L (nexts n p).s
 | 0,_,h=>h
 | n+1,p,h=>by
  unfold nexts
  split
  . exact h
  . rename_i q hq;exact ycw n (yjq h hq)
theorem yqj {N:Nat} (h:KI L s) (hs:SI N s):KI L (pump s).1:=by
 have h1:KI L (pumpP s).s:=ycw 61 (zoy _ (zrd (zwt h hs)))
 exact h1.side rfl (fun m hm=>⟨m,hm,rfl,rfl⟩) fun x hx=>⟨x,hx,rfl,rfl,rfl⟩
theorem yqk {N:Nat} (h:KI L s) (hs:SI N s) (m:Message):KI (L++[m]) (sendS s m):=by
 have hl:=h.len
 have up:∀ {k:Nat},k < L.length -> Loose L k -> Loose (L++[m]) k:=fun hk hh y hy=>by
  rw [List.getElem?_append_left hk] at hy;exact hh y hy
 refine ⟨by show (s.fates++[1]).length=_;simp;omega,fun q hq=>?_,fun x hx=>?_,fun k hk=>?_⟩
 . have hq:q ∈ s.queue++[_]:=hq
   rcases List.mem_append.1 hq with hq | hq
   . have:=h.queue q hq
     rw [List.getElem?_append_left (List.getElem?_eq_some_iff.1 this).1];exact this
   . rw [List.mem_singleton] at hq;subst hq
     show (L++[m])[((s.fates.length:Nat):Int).toNat]?=some m
     rw [Int.toNat_natCast,hl,List.getElem?_append_right (Nat.le_refl _),Nat.sub_self];rfl
 . intro hh y hy
   have hx:x ∈ s.out:=hx
   have h1:=h.out x hx hh
   have h2:=(hs.out x hx).id1
   have h3:=(hs.out x hx).id0
   exact up (by omega) h1 y hy
 . have hk:(s.fates++[1])[k]?=some 3:=hk
   rcases Nat.lt_or_ge k s.fates.length with hk2 | hk2
   . rw [List.getElem?_append_left hk2] at hk;exact up (by omega) (h.gone k hk)
   . rw [List.getElem?_append_right hk2] at hk
     rcases Nat.eq_zero_or_pos (k - s.fates.length) with e | e
     . rw [e] at hk;cases hk
     . rw [List.getElem?_eq_none (by simp;omega)] at hk;cases hk
theorem ymv (h:KI L s) (part:Int) (i:Nat):KI L (late1 part s i):=by
 unfold late1
 split
 . exact h
 split
 . exact h
 have h2:∀ f,KI L { s with out:=s.out.map (Sco.late i),paths:=f }:=fun f=>h.side rfl (fun m hm=>⟨m,hm,rfl,rfl⟩) fun x hx=>by
  obtain ⟨y,hy,rfl⟩:=List.mem_map.1 (show x ∈ s.out.map (Sco.late i) from hx)
  exact ⟨y,hy,by unfold Sco.late;split <;> rfl,by unfold Sco.late;split <;> rfl,by unfold Sco.late;split <;> rfl⟩
 dsimp only
 split
 . exact (h2 []).side rfl (fun m hm=>⟨m,hm,rfl,rfl⟩) fun x hx=>⟨x,hx,rfl,rfl,rfl⟩
 . exact h2 _
theorem ycx (part:Int):∀ (l:List Nat) {s:Sender},KI L s -> KI L (l.foldl (late1 part) s)
 | [],_,h=>h
 | i :: l,_,h=>ycx part l (ymv h part i)
theorem yql (h:KI L s):KI L (tick s):=ycx _ _ (h.side rfl (fun m hm=>⟨m,hm,rfl,rfl⟩) fun x hx=>⟨x,hx,rfl,rfl,rfl⟩)
end
theorem ycy (s:Sender) (id:Nat):(giveS s id).config=s.config:=(zfh s id).1.config
theorem zwu:∀ (q:List Queued) (s:Sender),(∀ m ∈ q,0 <= m.id) -> (q.foldl expQ s).config=s.config
 | [],_,_=>rfl
 | m :: q,s,h=>by
  rw [List.foldl_cons,zwu q _ fun x hx=>h x (by simp [hx])]
  unfold expQ
  split
  . have:=h m (by simp)
    rw [show m.id=((m.id.toNat:Nat):Int) by omega];exact ycy s _
  . rfl
theorem zwv:∀ (q:List Sent) (s:Sender),(∀ m ∈ q,0 <= m.id) -> (q.foldl expX s).config=s.config
 | [],_,_=>rfl
 | m :: q,s,h=>by
  rw [List.foldl_cons,zwv q _ fun x hx=>h x (by simp [hx])]
  unfold expX
  split
  . have:=h m (by simp)
    rw [show m.id=((m.id.toNat:Nat):Int) by omega];exact ycy s _
  . rfl
theorem yfs {N:Nat} {s:Sender} (h:SI N s):(expire s).config=s.config:=by
 obtain ⟨h2,-⟩:=zko s.queue s h fun m hm=>⟨(h.queue m hm).id0,(h.queue m hm).id1⟩
 unfold expire
 rw [zwv _ _ fun x hx=>(h2.out x hx).id0,zwu _ _ fun m hm=>(h.queue m hm).id0]
theorem yjr (p:Pump) (i c:Nat):(fly p i c).s.config=p.s.config:=by unfold fly;split <;> rfl
theorem zre {c:Nat}:∀ (l:List Nat) (p:Pump),(l.foldl (zcj c) p).s.config=p.s.config
 | [],_=>rfl
 | i :: l,p=>by
  rw [List.foldl_cons,zre l]
  unfold zcj
  split
  . rfl
  . split
    . exact yjr _ _ _
    . rfl
theorem ymw {p q:Pump} (h:next p=some q):q.s.config=p.s.config:=by
 obtain ⟨s,o⟩:=p
 unfold next at h
 dsimp only at h
 split at h
 . cases h
 cases hm:s.queue[(zde s).toNat]? with
 | none=>rw [hm] at h;cases h
 | some m =>
  rw [hm] at h
  dsimp only at h
  split at h
  . cases h
  . cases h
    rw [zkp,yjr];rfl
theorem zww:∀ (n:Nat) (p:Pump),(nexts n p).s.config=p.s.config
 | 0,_=>rfl
 | n+1,p=>by
  unfold nexts
  split
  . rfl
  . rename_i q hq;rw [zww n q,ymw hq]
theorem zzy (p:Pump):(forward p).s.config=p.s.config:=by unfold forward;split <;> rfl
theorem ymx {N:Nat} {s:Sender} (h:SI N s):(pump s).1.config=s.config:=by
 show (pumpP s).s.config=_
 unfold pumpP
 rw [zww]
 unfold again
 rw [zre,zzy]
 exact yfs h
theorem zwx {l:List Step} (h:bulkR (l.map Step.row) <= 1048576):(∀ x ∈ l,x.message.data.length <= 1048576) /\ l.length <= 1048576:=by
 have h1:∀ x:Step,x.message.data.length+1 <= bulkL x.row:=fun x=>by
  have h1:=ybw (f:=bRow) (fun x=>by simp [bRow,bulkL,PV.bulk]) x.message.data
  simp only [Step.row,bulkL,PV.bulk];omega
 refine ⟨fun x hx=>?_,?_⟩
 . have h2:=ybx (f:=Step.row) hx
   have:=h1 x;omega
 . have:=ybw (f:=Step.row) (fun x=>by have:=h1 x;omega) l
   omega
end Snd
end Go.HL
namespace Go.HL
open Go.Proofs
namespace Jn
open Srt
set_option maxHeartbeats 2000000
set_option maxRecDepth 100000
set_option linter.unusedSimpArgs false
def joinL (n:Nat):Nat -> List Piece -> Option (List UInt8)
 | _,[]=>some []
 | i,p :: r=>if p.chunk.part=(i:Int) /\ p.chunk.last=decide (i+1=n) then (joinL n (i+1) r).map (p.chunk.data++·) else none
def join (l:List Piece):Option (List UInt8):=if l=[] then none else joinL l.length 0 (srt ck l)
def lows (l:List Piece) (k:Nat):Nat:=l.countP fun p=>decide (p.chunk.part < (k:Int))
def highs (l:List Piece) (k:Nat):Nat:=l.countP fun p=>decide ((k:Int) <= p.chunk.part)
theorem ymy (l:List Piece) (k:Nat):lows l k+highs l k=l.length:=by
 induction l with
 | nil=>rfl
 | cons p l ih =>
  simp only [lows,highs,List.countP_cons,List.length_cons] at *
  by_cases h:p.chunk.part < (k:Int)
  . have h2:¬ (k:Int) <= p.chunk.part:=by omega
    simp [h,h2];omega
  . have h2:(k:Int) <= p.chunk.part:=by omega
    simp [h,h2];omega
theorem ycz {l:List Piece} {k:Nat} (h:∃ p ∈ l,p.chunk.part=(k:Int)):lows l k+1 <= lows l (k+1):=by
 induction l with
 | nil=>simp at h
 | cons p l ih =>
  have mono:∀ l:List Piece,l.countP (fun p=>decide (p.chunk.part < (k:Int))) <= l.countP (fun p=>decide (p.chunk.part < ((k+1:Nat):Int))):=fun l=>List.countP_mono_left fun x _ hx=>by simp at hx ⊢;omega
  simp only [lows,List.countP_cons] at ih ⊢
  by_cases he:p.chunk.part=(k:Int)
  . have:=mono l
    have h2:¬ p.chunk.part < (k:Int):=by omega
    have h3:p.chunk.part < ((k+1:Nat):Int):=by omega
    rw [if_neg (by simpa using h2),if_pos (decide_eq_true h3)];omega
  . have:∃ p ∈ l,p.chunk.part=(k:Int):=by
     obtain ⟨q,hq,e⟩:=h
     rcases List.mem_cons.1 hq with rfl | hq
     . exact absurd e he
     . exact ⟨q,hq,e⟩
    have:=ih this
    by_cases h2:p.chunk.part < (k:Int)
    . have h3:p.chunk.part < ((k+1:Nat):Int):=by omega
      rw [if_pos (decide_eq_true h2),if_pos (decide_eq_true h3)];omega
    . have h3:¬ p.chunk.part < ((k+1:Nat):Int):=by omega
      rw [if_neg (by simpa using h2),if_neg (fun h=>h3 (of_decide_eq_true h))];omega
theorem yoh {l:List Piece} {n:Nat} (h:∀ i,i < n -> ∃ p ∈ l,p.chunk.part=(i:Int)):∀ k,k <= n -> k <= lows l k
 | 0,_=>Nat.zero_le _
 | k+1,hk=>by have:=yoh h k (by omega);have:=ycz (h k (by omega));omega
theorem yoi {l:List Piece} {n:Nat} (hn:l.length=n) (h:∀ i,i < n -> ∃ p ∈ l,p.chunk.part=(i:Int)):∀ j,j <= n -> lows l (n - j) <= n - j
 | 0,_=>by have:=ymy l n;simp only [Nat.sub_zero];omega
 | j+1,hj=>by
  have h1:=yoi hn h j (by omega)
  have h2:=ycz (h (n - (j+1)) (by omega))
  rw [show n - (j+1)+1=n - j by omega] at h2
  omega
theorem ztm:∀ {S:List Piece} (_:Sd ck S) (k:Nat) (i:Nat) (hi:i < S.length),(S[i].chunk.part < (k:Int) ↔ i < lows S k)
 | x :: S,h,k,0,hi=>by
  simp only [lows,List.countP_cons,List.getElem_cons_zero]
  by_cases hx:x.chunk.part < (k:Int)
  . simp [hx]
  . have:S.countP (fun p=>decide (p.chunk.part < (k:Int)))=0:=List.countP_eq_zero.2 fun y hy=>by have:=h.1 y hy;simp;simp only [ck] at this;omega
    simp [hx,this]
 | x :: S,h,k,i+1,hi=>by
  have ih:=ztm h.2 k i (by simpa using hi)
  simp only [lows,List.countP_cons,List.getElem_cons_succ] at *
  by_cases hx:x.chunk.part < (k:Int)
  . simp [hx];exact ih
  . have:S.countP (fun p=>decide (p.chunk.part < (k:Int)))=0:=List.countP_eq_zero.2 fun y hy=>by have:=h.1 y hy;simp;simp only [ck] at this;omega
    rw [this] at ih ⊢
    simp [hx];omega
theorem zzz {S:List Piece} (hs:Sd ck S) (h:∀ i,i < S.length -> ∃ p ∈ S,p.chunk.part=(i:Int)) (i:Nat) (hi:i < S.length):S[i].chunk.part=(i:Int):=by
 have e:∀ k,k <= S.length -> lows S k=k:=fun k hk=>by
  have h1:=yoh h k hk
  have h2:=yoi rfl h (S.length - k) (by omega)
  rw [show S.length - (S.length - k)=k by omega] at h2
  omega
 have h1:=ztm hs i i hi
 have h2:=ztm hs (i+1) i hi
 rw [e i (by omega)] at h1
 rw [e (i+1) (by omega)] at h2
 omega
def tot (l:List Piece):Nat:=(l.map fun p=>p.chunk.data.length).sum
theorem yda {l l':List Piece} (h:l.Perm l'):tot l=tot l':=(h.map _).sum_nat
theorem zds (p:Piece) (l:List Piece):tot (p :: l)=p.chunk.data.length+tot l:=rfl
theorem zoz (a b:List Piece):tot (a++b)=tot a+tot b:=by simp [tot]
theorem yqm {l:List Piece} {p:Piece} (h:p ∈ l):p.chunk.data.length <= tot l:=by
 induction l with
 | nil=>cases h
 | cons q l ih =>
  rw [zds]
  rcases List.mem_cons.1 h with rfl | h
  . omega
  . have:=ih h;omega
def cat (l:List Piece):List UInt8:=(l.map fun p=>p.chunk.data).flatten
theorem ydb (l:List Piece) (p:Piece):cat (l++[p])=cat l++p.chunk.data:=by simp [cat]
theorem yqn (l:List Piece):(cat l).length=tot l:=by induction l with
 | nil=>rfl
 | cons p l ih=>rw [zds,<- ih];simp [cat]
abbrev pieces (l:List Piece):HV:=.p (.sl 12 (l.map Piece.row))
theorem zrf (n:Int):FunOK Tryz.prog 214 [i64 n] zac (hbool false) zac:=by
 refine zao mixed Tryz.func214 (by decide) ?_
 conv=>whnf
 simp
theorem zwy (a b:Int):FunOK Tryz.prog 209 [i64 a,i64 b] zac (i64 (if a < b then -1 else if a > b then 1 else 0)) zac:=by
 refine zao mixed Tryz.func209 (by decide) ?_
 conv=>whnf
 (refine cL ?_;refine dL (zrf a) ?_)
 (refine cL ?_;refine dL (zrf b) ?_)
 by_cases c:a < b
 . rw [if_pos c]
   ((refine hif_T ?_;conv=>whnf);try (refine hcut.go ?_;conv=>whnf))
 rw [if_neg c]
 refine sN ?_
 by_cases c2:a > b
 . rw [if_pos c2]
   ((refine hif_T ?_;conv=>whnf);try (refine hcut.go ?_;conv=>whnf))
 rw [if_neg c2]
 ((refine hif_F ?_;conv=>whnf);try (refine hcut.go ?_;conv=>whnf))
theorem ztn:CmpOK 208:=fun a b=>by
 refine zao mixed Tryz.func208 (by decide) ?_
 conv=>whnf
 (refine cL ?_;refine dL (zwy a.chunk.part b.chunk.part) ?_)
 rfl
theorem yjs {x:HV} {a b:Bool} (h:a=b):HV.tup [x,hbool a]=HV.tup [x,hbool b]:=by rw [h]
theorem zwz (l:List Piece) (hb:l.length < 2 ^ 39):FunOK Tryz.prog 206 [.p (.sl 12 (l.map Piece.row))] zac (.own 0) (lk .free [(0,.live (.row 162 12 (l.map Piece.row)))]):=by
 refine zaj mixed Tryz.func206 (by decide) [] (fun _=>.inl rfl) ?_
 conv=>whnf
 intro b hn
 conv=>whnf
 refine zae (fun c=>?_) (fun c=>?_)
 . conv=>whnf
   refine zai [(0,none)] rfl rfl trivial rfl rfl ⟨⟨rfl,.inr ⟨rfl,hn c⟩⟩,trivial⟩
 . conv=>whnf
   refine zaa (c:=(([]:List (List PV)).length+(l.map Piece.row).length) * 136 <= 140737488355328) (by simp;omega) ?_
   conv=>whnf
   refine zai [(0,some 7)] rfl rfl trivial rfl rfl ⟨⟨rfl,.inl ⟨7,rfl,?_⟩⟩,trivial⟩
   rfl
theorem yjt (l:List Piece) (hb:l.length < 2 ^ 38) (ht:tot l < 2 ^ 40) :
 FunOK Tryz.prog 200 [pieces l] zac (.tup [.own 0,hbool (join l).isSome]) (lk .free [(0,.live (.row 5 1 (((join l).getD []).map bRow)))]):=by
 refine zaj mixed Tryz.func200 (by decide) [] (fun _=>.inl rfl) ?_
 conv=>whnf
 (refine zam [(0,9)] ?_;(conv=>whnf);refine dO (zwz l (by omega)) ?_)
 (refine zab [] [(1000,9)] [] ?_;(conv=>whnf);refine dG (yic ztn l (by omega)) ?_)
 have hl:=zei (key:=ck) l
 have ht2:tot (srt ck l) < 2 ^ 40:=by rw [yda zgy];exact ht
 obtain ⟨S,hS⟩:∃ S,S=srt ck l:=⟨_,rfl⟩
 have hj:join l=if l=[] then none else joinL S.length 0 S:=by rw [join,<- hS,<- hl,hS]
 rw [<- hS] at hl ht2
 refine ⟨{ x:List Piece × List Piece // S=x.1++x.2 /\ joinL S.length 0 S=(joinL S.length x.1.length x.2).map (cat x.1++·) },fun | ⟨(A,B),_⟩=>hs 45 [(4,.own 900),(5,.own 901),(12,.own 900),(13,i64 S.length),(14,i64 A.length)] [(900,.live (.row 162 12 (S.map Piece.row))),(901,.live (.row 5 1 ((cat A).map bRow)))],fun x=>x.1.2.length,⟨([],S),rfl,by simp [cat]⟩,?_,?_⟩
 . exact (hle_X [(900,some 9),(901,none)] (by repeat' (first | exact z0 | refine z1 ?_ | refine ⟨?_,?_⟩ | ((exact zaw (by rw [List.length_map,hS]))) | ((exact zal (by rw [hS]))) | exact z2)))
 rintro ⟨⟨A,B⟩,h,hr⟩
 dsimp only at h hr
 have hAB:S.length=A.length+B.length:=by rw [h];simp
 have htA:tot S=tot A+tot B:=by rw [h,zoz]
 conv=>whnf
 cases B with
 | nil =>
  rw [List.length_nil] at hAB
  rw [joinL] at hr
  have hcat:joinL S.length 0 S=some (cat A):=by rw [hr];simp
  have h0:tot []=0:=rfl
  refine sN ?_
  by_cases hln:l=[]
  . subst hln
    have hl0:S.length=0:=hl
    have:A=[]:=List.eq_nil_of_length_eq_zero (by omega)
    subst this
    refine zai [(0,some 901)] rfl rfl trivial rfl (yjs ?_) ⟨⟨rfl,.inl ⟨901,rfl,rfl⟩⟩,trivial⟩
    rw [List.length_map,hl0];rfl
  . have:=List.length_pos_iff.2 hln
    have hjv:join l=some (cat A):=by rw [hj,if_neg hln,hcat]
    rw [hjv]
    refine zai [(0,some 901)] rfl rfl trivial rfl (yjs ?_) ⟨⟨rfl,.inl ⟨901,rfl,rfl⟩⟩,trivial⟩
    simp;omega
 | cons p B =>
  rw [List.length_cons] at hAB
  rw [zds] at htA
  rw [joinL] at hr
  have hca:=yqn A
  have hln:l ≠ []:=fun h=>by subst h;have hl0:S.length=0:=hl;omega
  rw [if_neg hln] at hj
  refine sT ?_
  refine sO ?_
  refine zah h (by simp) ?_;conv=>whnf
  have e:((A.length:Int) == ((S.map Piece.row).length:Int) - 1)=decide (A.length+1=S.length):=by
   rw [List.length_map,Bool.eq_iff_iff];simp;omega
  by_cases c1:p.chunk.part=(A.length:Int)
  . refine zad (by simp [c1]) ?_;conv=>whnf
    refine sF ?_
    by_cases c2:p.chunk.last=decide (A.length+1=S.length)
    . rw [if_pos ⟨c1,c2⟩] at hr
      refine zad (by rw [e,c2];simp) ?_;conv=>whnf
      try (refine hcut.go ?_;conv=>whnf)
      refine zaa (c:=(((cat A).map bRow).length+(p.chunk.data.map bRow).length) * 1 <= 140737488355328) (by simp;omega) ?_;conv=>whnf
      try (refine hcut.go ?_;conv=>whnf)
      refine sF ?_
      refine ⟨⟨(A++[p],B),by rw [h];simp,by dsimp only;rw [hr,Option.map_map,List.length_append,List.length_singleton];congr 1;funext x;simp [ydb]⟩,(hle_X [(900,some 900),(901,some 39)] (by repeat' (first | exact z0 | refine z1 ?_ | refine ⟨?_,?_⟩ | ((exact zal (by rw [ydb];simp))) | exact z2))),by simp⟩
    . rw [if_neg fun h=>c2 h.2] at hr
      have hjv:join l=none:=by rw [hj,hr];rfl
      refine zaf (by rw [e];cases hp:p.chunk.last <;> cases hd:decide (A.length+1=S.length) <;> simp_all) ?_;conv=>whnf
      try (refine hcut.go ?_;conv=>whnf)
      rw [hjv]
      refine zai [(0,none)] rfl rfl trivial rfl rfl ⟨⟨rfl,.inr ⟨rfl,rfl⟩⟩,trivial⟩
  . rw [if_neg fun h=>c1 h.1] at hr
    have hjv:join l=none:=by rw [hj,hr];rfl
    refine zaf (by simpa using c1) ?_;conv=>whnf
    try (refine hcut.go ?_;conv=>whnf)
    rw [hjv]
    refine zai [(0,none)] rfl rfl trivial rfl rfl ⟨⟨rfl,.inr ⟨rfl,rfl⟩⟩,trivial⟩
end Jn
end Go.HL
namespace Go.HL
namespace Ser
set_option linter.unusedSimpArgs false
def rise:List Span -> Prop
 | []=>True
 | s :: r=>s.lo <= s.hi /\ -9223372036854775808 <= s.lo /\ s.hi <= 9223372036854775807 /\ (∀ t ∈ r,s.hi+1 < t.lo) /\ rise r
theorem zhe:∀ {a b:List Span},rise (a++b) ↔ rise a /\ rise b /\ ∀ s ∈ a,∀ t ∈ b,s.hi+1 < t.lo
 | [],b=>by simp [rise]
 | s :: a,b=>by
  simp only [List.cons_append,rise,zhe (a:=a) (b:=b),List.mem_append,List.mem_cons]
  constructor
  . rintro ⟨h1,h2,h3,h4,h5,h6,h7⟩
    exact ⟨⟨h1,h2,h3,fun t ht=>h4 t (.inl ht),h5⟩,h6,fun x hx t ht=>by rcases hx with rfl | hx;exact h4 t (.inr ht);exact h7 x hx t ht⟩
  . rintro ⟨⟨h1,h2,h3,h4,h5⟩,h6,h7⟩
    exact ⟨h1,h2,h3,fun t ht=>by rcases ht with ht | ht;exact h4 t ht;exact h7 s (.inl rfl) t ht,h5,h6,fun x hx t ht=>h7 x (.inr hx) t ht⟩
theorem zfs:∀ {l:List Span},rise l -> ∀ s ∈ l,s.lo <= s.hi /\ -9223372036854775808 <= s.lo /\ s.hi <= 9223372036854775807
 | s :: r,h,t,ht=>by
  rcases List.mem_cons.1 ht with rfl | ht
  . exact ⟨h.1,h.2.1,h.2.2.1⟩
  . exact zfs h.2.2.2.2 t ht
theorem zic {l:List Span} {n:Int}:has l n=true ↔ ∃ s ∈ l,s.lo <= n /\ n <= s.hi:=by
 simp [has,List.any_eq_true]
theorem yju {l:List Span} {n:Int}:has l n=false ↔ ∀ s ∈ l,¬ (s.lo <= n /\ n <= s.hi):=by
 rw [<- Bool.not_eq_true,zic];simp
theorem zto (a b:List Span) (n:Int):has (a++b) n=(has a n || has b n):=by simp [has]
theorem zhf (s:Span) (b:List Span) (n:Int):has (s :: b) n=((decide (s.lo <= n) && decide (n <= s.hi)) || has b n):=by simp [has]
def lowB (n:Int) (s:Span):Bool:=decide (s.hi < n)
def below (l:List Span) (n:Int):List Span:=l.takeWhile (lowB n)
def above (l:List Span) (n:Int):List Span:=l.dropWhile (lowB n)
def cutL (n:Int) (a:List Span):List Span × Int:=match a.getLast? with
 | some s=>if s.hi=n - 1 then (a.dropLast,s.lo) else (a,n)
 | none=>(a,n)
def cutR (n:Int):List Span -> Int × List Span
 | t :: r=>if t.lo=n+1 then (t.hi,r) else (n,t :: r)
 | []=>(n,[])
def add (l:List Span) (n:Int):List Span :=
 if has l n then l else (cutL n (below l n)).1++⟨(cutL n (below l n)).2,(cutR n (above l n)).1⟩ :: (cutR n (above l n)).2
theorem split (l:List Span) (n:Int):l=below l n++above l n:=(List.takeWhile_append_dropWhile).symm
theorem zmy {l:List Span} {n:Int}:∀ s ∈ below l n,s.hi < n:=fun s hs=>by
 have:=List.all_eq_true.1 (List.all_takeWhile (p:=lowB n) (l:=l)) s hs
 simpa [lowB] using this
theorem ydc {l:List Span} {n:Int} (h:rise l) (hn:has l n=false):∀ s ∈ above l n,n < s.lo:=by
 intro s hs
 have hsp:=split l n
 have hr:rise (above l n):=by rw [hsp] at h;exact (zhe.1 h).2.1
 have hno:∀ t ∈ above l n,¬ (t.lo <= n /\ n <= t.hi):=fun t ht=>yju.1 hn t (by rw [hsp];exact List.mem_append_right _ ht)
 have hhd:∀ t r,above l n=t :: r -> ¬ t.hi < n:=by
  intro t r e hlt
  have:=List.head?_dropWhile_not (lowB n) l
  rw [show l.dropWhile (lowB n)=t :: r from e] at this
  simp [lowB] at this;omega
 cases ha:above l n with
 | nil=>rw [ha] at hs;simp at hs
 | cons t r =>
  have h1:=hhd t r ha
  have h2:=hno t (by rw [ha];simp)
  rw [ha] at hr hs
  have h3:=hr.1
  rcases List.mem_cons.1 hs with rfl | hs
  . omega
  . have:=hr.2.2.2.1 s hs;omega
theorem yjv {l:List Span} {n:Int} (h:rise l):∀ (i:Nat) (hi:i < l.length),l[i].hi < n ↔ i < (below l n).length:=by
 intro i hi
 have hsp:=split l n
 constructor
 . intro hlt
   apply Classical.byContradiction
   intro hge
   have hmem:l[i] ∈ above l n:=by
    have e:l[i]?=(above l n)[i - (below l n).length]?:=by
     conv=>lhs;rw [hsp]
     exact List.getElem?_append_right (by omega)
    rw [List.getElem?_eq_getElem hi] at e
    exact List.mem_of_getElem? e.symm
   have hr:rise (above l n):=by rw [hsp] at h;exact (zhe.1 h).2.1
   cases ha:above l n with
   | nil=>rw [ha] at hmem;simp at hmem
   | cons t r =>
    have h1:¬ t.hi < n:=by
     intro hlt
     have:=List.head?_dropWhile_not (lowB n) l
     rw [show l.dropWhile (lowB n)=t :: r from ha] at this
     simp [lowB] at this;omega
    rw [ha] at hr hmem
    rcases List.mem_cons.1 hmem with e | hm
    . rw [e] at hlt;exact h1 hlt
    . have h4:=hr.2.2.2.1 _ hm
      have h5:=(zfs hr.2.2.2.2 _ hm).1
      have:=hr.1
      omega
 . intro hlt
   have e:l[i]?=(below l n)[i]?:=by
    conv=>lhs;rw [hsp]
    exact List.getElem?_append_left hlt
   rw [List.getElem?_eq_getElem hi] at e
   exact zmy _ (List.mem_of_getElem? e.symm)
theorem yjw {a:List Span} {n:Int} (h:rise a) (hn:∀ s ∈ a,s.hi < n) :
 (cutL n a).2 <= n /\ (∀ s ∈ (cutL n a).1,s.hi+1 < (cutL n a).2) /\ rise (cutL n a).1 /\ (-9223372036854775808 <= n -> -9223372036854775808 <= (cutL n a).2) /\ ∀ m,(has (cutL n a).1 m || (decide ((cutL n a).2 <= m) && decide (m < n)))=has a m:=by
 rcases List.eq_nil_or_concat a with rfl | ⟨a',s,rfl⟩
 . simp [cutL,rise,has]
   intro m hm;exact of_decide_eq_true hm
 . rw [List.concat_eq_append] at h hn ⊢
   have hs:=hn s (by simp)
   have hr:=zhe.1 h
   have h3:∀ x ∈ a',x.hi+1 < s.lo:=fun x hx=>hr.2.2 x hx s (by simp)
   have h4:=hr.2.1.1
   simp only [cutL,List.getLast?_concat]
   split
   . rename_i he
     simp only [List.dropLast_concat]
     refine ⟨by omega,h3,hr.1,fun _=>hr.2.1.2.1,fun m=>?_⟩
     rw [zto,zhf]
     have:decide (m < n)=decide (m <= s.hi):=by rw [decide_eq_decide];omega
     rw [this];simp [has]
   . rename_i he
     refine ⟨Int.le_refl _,fun x hx=>?_,h,fun h=>h,fun m=>?_⟩
     . rcases List.mem_append.1 hx with hx | hx
       . have:=h3 x hx;dsimp only;omega
       . rw [List.mem_singleton.1 hx];dsimp only;omega
     . have:(decide (n <= m) && decide (m < n))=false:=by simp <;> omega
       dsimp only
       rw [this,Bool.or_false]
theorem yjx {b:List Span} {n:Int} (h:rise b) (hn:∀ s ∈ b,n < s.lo) :
 n <= (cutR n b).1 /\ (∀ s ∈ (cutR n b).2,(cutR n b).1+1 < s.lo) /\ rise (cutR n b).2 /\ (n <= 9223372036854775807 -> (cutR n b).1 <= 9223372036854775807) /\ ∀ m,(has (cutR n b).2 m || (decide (n < m) && decide (m <= (cutR n b).1)))=has b m:=by
 cases b with
 | nil =>
  simp [cutR,rise,has]
  intro m hm;exact decide_eq_false (by omega)
 | cons t r =>
  have ht:=hn t (by simp)
  simp only [cutR]
  split
  . rename_i he
    refine ⟨by have:=h.1;dsimp only;omega,h.2.2.2.1,h.2.2.2.2,fun _=>h.2.2.1,fun m=>?_⟩
    rw [zhf,Bool.or_comm]
    congr 2
    rw [decide_eq_decide];omega
  . rename_i he
    refine ⟨Int.le_refl _,fun x hx=>?_,h,fun h=>h,fun m=>?_⟩
    . rcases List.mem_cons.1 hx with rfl | hx
      . dsimp only;omega
      . have:=h.2.2.2.1 x hx;have:=h.1;dsimp only;omega
    . have:(decide (n < m) && decide (m <= n))=false:=by simp
      dsimp only
      rw [this,Bool.or_false]
theorem ztp {l:List Span} {n:Int} (h:rise l) (h1:-9223372036854775808 <= n) (h2:n <= 9223372036854775807):rise (add l n) /\ ∀ m,has (add l n) m=(has l m || decide (m=n)):=by
 unfold add
 cases hn:has l n with
 | true =>
  refine ⟨h,fun m=>?_⟩
  by_cases hm:m=n
  . subst hm;simp [hn]
  . simp [hm]
 | false =>
  simp only [Bool.false_eq_true,if_false]
  have hsp:=split l n
  have hab:=h
  rw [hsp] at hab
  obtain ⟨ra,rb,rab⟩:=zhe.1 hab
  obtain ⟨a1,a2,a3,a4,a5⟩:=yjw ra zmy
  obtain ⟨b1,b2,b3,b4,b5⟩:=yjx rb (ydc h hn)
  have a4:=a4 h1
  have b4:=b4 h2
  have b6:∀ s ∈ (cutR n (above l n)).2,n < s.lo:=fun s hs=>by have:=b2 s hs;omega
  refine ⟨zhe.2 ⟨a3,⟨by dsimp only;omega,a4,b4,b2,b3⟩,fun s hs t ht=>?_⟩,fun m=>?_⟩
  . rcases List.mem_cons.1 ht with rfl | ht
    . exact a2 s hs
    . have:=a2 s hs;have:=b6 t ht;omega
  . have e:has l m=(has (below l n) m || has (above l n) m):=by rw [<- zto,<- hsp]
    rw [zto,zhf,e,<- a5 m,<- b5 m]
    generalize has (cutL n (below l n)).1 m=A
    generalize has (cutR n (above l n)).2 m=B
    dsimp only
    rcases Int.lt_trichotomy m n with hlt | rfl | hgt
    . have e1:decide (m < n)=true:=by simpa using hlt
      have e2:decide (n < m)=false:=by simp;omega
      have e3:decide (m=n)=false:=by simp;omega
      have e4:decide (m <= (cutR n (above l n)).1)=true:=by simp;omega
      rw [e1,e2,e3,e4];simp [Bool.or_assoc,Bool.or_comm,Bool.or_left_comm]
    . have e4:decide (m <= (cutR m (above l m)).1)=true:=by simp;omega
      have e5:decide ((cutL m (below l m)).2 <= m)=true:=by simp;omega
      rw [e4,e5];simp
    . have e1:decide (m < n)=false:=by simp;omega
      have e2:decide (n < m)=true:=by simpa using hgt
      have e3:decide (m=n)=false:=by simp;omega
      have e4:decide ((cutL n (below l n)).2 <= m)=true:=by simp;omega
      rw [e1,e2,e3,e4];simp [Bool.or_assoc,Bool.or_comm,Bool.or_left_comm]
end Ser
end Go.HL
namespace Go.HL
open Go.Proofs
namespace Ser
set_option maxHeartbeats 2000000
set_option maxRecDepth 100000
set_option linter.unusedSimpArgs false
def cmp (n:Int) (s:Span):Int:=if s.hi < n then -1 else if s.lo > n then 1 else 0
theorem ztn (n:Int) (s:Span):FunOK Tryz.prog 196 [s.hv,i64 n] zac (i64 (cmp n s)) zac:=by
 refine zao mixed Tryz.func196 (by decide) ?_
 conv=>whnf
 refine zae (fun c=>?_) (fun c=>?_)
 . have c:s.hi < n:=by simpa using c
   conv=>whnf
   rw [cmp,if_pos c]
 . have c:¬ s.hi < n:=by simpa using c
   conv=>whnf
   refine zae (fun c2=>?_) (fun c2=>?_)
   . have c2:s.lo > n:=by simpa using c2
     conv=>whnf
     rw [cmp,if_neg c,if_pos c2]
   . have c2:¬ s.lo > n:=by simpa using c2
     conv=>whnf
     rw [cmp,if_neg c,if_neg c2]
theorem yrx {n:Int} {s:Span}:cmp n s < 0 ↔ s.hi < n:=by
 unfold cmp
 split
 . simp [*]
 . split <;> simp [*]
theorem found {l:List Span} {n:Int} (h:rise l):zor (cmp n) l (below l n).length=has l n:=by
 have hsp:=split l n
 have e:l[(below l n).length]?=(above l n)[0]?:=by
  conv=>lhs;arg 1;rw [hsp]
  rw [List.getElem?_append_right (Nat.le_refl _),Nat.sub_self]
 have e2:has l n=has (above l n) n:=by
  conv=>lhs;arg 1;rw [hsp]
  rw [zto,yju.2 fun s hs=>by have:=zmy s hs;omega,Bool.false_or]
 rw [zor,e,e2]
 cases ha:above l n with
 | nil=>rfl
 | cons t r =>
  have hr:rise (above l n):=by rw [hsp] at h;exact (zhe.1 h).2.1
  rw [ha] at hr
  have h1:¬ t.hi < n:=by
   intro hlt
   have:=List.head?_dropWhile_not (lowB n) l
   rw [show l.dropWhile (lowB n)=t :: r from ha] at this
   simp [lowB] at this;omega
  have h2:has r n=false:=yju.2 fun s hs=>by have:=hr.2.2.2.1 s hs;omega
  rw [zhf,h2,Bool.or_false]
  show (cmp n t == 0)=_
  rw [cmp,if_neg h1]
  by_cases c:t.lo > n
  . rw [if_pos c,decide_eq_false (by omega)];rfl
  . rw [if_neg c,decide_eq_true (by omega),decide_eq_true (by omega)];rfl
theorem zdg (l:List Span) (hb:l.length < 2 ^ 40):FunOK Tryz.prog 150 [.p (.sl 2 (l.map Span.row))] zac (.own 0) (lk .free [(0,.live (.row 199 2 (l.map Span.row)))]):=by
 refine zaj mixed Tryz.func150 (by decide) [] (fun _=>.inl rfl) ?_
 conv=>whnf
 intro b hn
 conv=>whnf
 refine zae (fun c=>?_) (fun c=>?_)
 . conv=>whnf
   refine zai [(0,none)] rfl rfl trivial rfl rfl ⟨⟨rfl,.inr ⟨rfl,hn c⟩⟩,trivial⟩
 . conv=>whnf
   refine zaa (c:=(([]:List (List PV)).length+(l.map Span.row).length) * 16 <= 140737488355328) (by simp;omega) ?_
   conv=>whnf
   refine zai [(0,some 7)] rfl rfl trivial rfl rfl ⟨⟨rfl,.inl ⟨7,rfl,?_⟩⟩,trivial⟩
   rfl
theorem zej {α:Type} (l:List α):l=[] \/ ∃ a x,l=a++[x]:=by
 rcases List.eq_nil_or_concat l with h | ⟨a,x,h⟩
 . exact .inl h
 . exact .inr ⟨a,x,by rw [h,List.concat_eq_append]⟩
theorem zgn (n:Int) (a:List Span) (s:Span):cutL n (a++[s])=if s.hi=n - 1 then (a,s.lo) else (a++[s],n):=by
 simp [cutL]
theorem ztq {α:Type} {t n:Nat} {f:α -> List PV} {a b:List α} {x y:α} {k:Nat} {r:List PV} (hk:k=a.length) (hr:f y=r) :
 HSlot.live (.row t n (((a++[x]++b).map f).set k r))=HSlot.live (.row t n ((a++[y]++b).map f)):=by
 rw [List.append_assoc,List.append_assoc];exact (zcw hk hr).symm
theorem zrg {α:Type} {t n:Nat} {f:α -> List PV} {a b:List α} (h:a=b):HSlot.live (.row t n (a.map f))=HSlot.live (.row t n (b.map f)):=by rw [h]
theorem yjy (A B:List Span) (n:Int) (hl:rise (A++B)) (hA:below (A++B) n=A) (hB:above (A++B) n=B) (hb:(A++B).length < 2 ^ 39) (h1:-9223372036854775808 <= n) (h2:n <= 9223372036854775807) :
 FunOK Tryz.prog 181 [spans (A++B),i64 n] zac (.own 0) (lk .free [(0,.live (.row 199 2 ((add (A++B) n).map Span.row)))]):=by
 refine zaj mixed Tryz.func181 (by decide) [] (fun _=>.inl rfl) ?_
 have hlen:(A++B).length=A.length+B.length:=List.length_append
 have hf:=found (n:=n) hl
 rw [hA] at hf
 conv=>whnf
 (refine zam [(0,9)]  ?_;(conv=>whnf);refine dO (zdg (A++B) (by omega)) ?_)
 (refine cZ ?_;refine dL (ypv (ztn n) (A++B) A.length (by omega) (fun i h=>by rw [yrx,yjv hl i h,hA]) (by omega)) ?_)
 rw [hf]
 cases hn:has (A++B) n with
 | true =>
  have ha:add (A++B) n=A++B:=by rw [add,hn];rfl
  rw [ha]
  conv=>whnf
  refine zai [(0,some 9)] rfl rfl trivial rfl rfl ⟨⟨rfl,.inl ⟨9,rfl,rfl⟩⟩,trivial⟩
 | false =>
  have ha:add (A++B) n=(cutL n A).1++⟨(cutL n A).2,(cutR n B).1⟩ :: (cutR n B).2:=by rw [add,hn,hA,hB];rfl
  rw [ha]
  conv=>whnf
  have hAl:A.length < 2 ^ 39:=by omega
  have hlow:∀ s ∈ A,s.hi < n:=by have:=zmy (l:=A++B) (n:=n);rwa [hA] at this
  have habv:∀ s ∈ B,n < s.lo:=by have:=ydc hl hn;rwa [hB] at this
  (refine zab [] [(1000,9),(1001,23)] [(0,24)] ?_;(conv=>whnf);refine dG (zzp A B ⟨n,n⟩ _ rfl (by omega)) ?_ ⟨rfl,rfl,rfl,⟨⟨rfl,_,rfl,.inl ⟨rfl,rfl⟩⟩,⟨⟨rfl,_,rfl,.inl ⟨rfl,rfl⟩⟩,trivial⟩⟩,⟨⟨rfl,rfl⟩,trivial⟩,rfl,rfl,rfl⟩)
  cases B with
  | nil =>
   refine zax (z':=((A.length+1:Nat):Int)) (by show W ((A.length:Int)+1)=_;rw [W_fit (by omega) (by omega)];push_cast;rfl) ?_;conv=>whnf
   refine sN ?_
   have hR:cutR n []=(n,[]):=rfl
   rw [hR]
   rcases zej A with rfl | ⟨A',s,rfl⟩
   . conv=>whnf
     try (refine hcut.go ?_;conv=>whnf)
     refine zai [(0,some 24)] rfl rfl trivial rfl rfl ⟨⟨rfl,.inl ⟨24,rfl,rfl⟩⟩,trivial⟩
   . have hs:s.hi < n:=hlow s (by simp)
     have hsl:(A'++[s]).length=A'.length+1:=by simp
     have hs2:=zfs hl s (by simp)
     refine sT ?_
     refine zax (z':=((A'.length:Nat):Int)) (by show W (((A'++[s]).length:Int) - 1)=_;rw [W_fit (by omega) (by omega)];omega) ?_;conv=>whnf
     refine sOm ?_
     refine zah (show A'++[s]++⟨n,n⟩ :: []=A'++s :: ⟨n,n⟩ :: [] by simp) rfl ?_;conv=>whnf
     refine zan (z:=n - 1) (W_fit (by omega) (by omega)) ?_;conv=>whnf
     by_cases he:s.hi=n - 1
     . refine sT ?_
       refine zax (z':=((A'.length:Nat):Int)) (by show W (((A'++[s]).length:Int) - 1)=_;rw [W_fit (by omega) (by omega)];omega) ?_;conv=>whnf
       refine sOm ?_
       refine zah (show A'++[s]++⟨n,n⟩ :: []=(A'++[s])++⟨n,n⟩ :: [] from rfl) rfl ?_;conv=>whnf
       refine sOm ?_
       refine zah (show A'++[s]++⟨n,n⟩ :: []=A'++s :: ⟨n,n⟩ :: [] by simp) (by simp) ?_;conv=>whnf
       refine zax (z':=((A'.length+2:Nat):Int)) (by show W (((A'++[s]).length:Int)+1)=_;rw [W_fit (by omega) (by omega)];omega) ?_;conv=>whnf
       refine zab [] [(1000,24)] [(0,84)] ?_;conv=>whnf
       refine ⟨_,_,_,_,zfr (A'++[⟨s.lo,n⟩]) ([]) ⟨n,n⟩ _ _ (by simp) (by simp;omega) (by simp at hAl hb ⊢;omega),⟨rfl,rfl,rfl,⟨⟨rfl,_,rfl,.inl ⟨rfl,?_⟩⟩,trivial⟩,⟨⟨rfl,rfl⟩,trivial⟩,rfl,rfl,rfl⟩,?_⟩
       . exact ztq (f:=Span.row) (a:=A') (b:=⟨n,n⟩ :: []) (x:=s) (y:=⟨s.lo,n⟩) (by simp) rfl
       conv=>whnf
       rw [zgn,if_pos he]
       refine zai [(0,some 84)] rfl rfl trivial rfl rfl ⟨⟨rfl,.inl ⟨84,rfl,?_⟩⟩,trivial⟩
       exact zrg (by first | (simp;done) | (simp;rfl))
     . refine sN ?_
       rw [zgn,if_neg he]
       refine zai [(0,some 24)] rfl rfl trivial rfl rfl ⟨⟨rfl,.inl ⟨24,rfl,rfl⟩⟩,trivial⟩
  | cons x B =>
   have hx:=habv x (by simp)
   have hx2:=zfs hl x (by simp)
   have hbl:(x :: B).length=B.length+1:=rfl
   refine zax (z':=((A.length+1:Nat):Int)) (by show W ((A.length:Int)+1)=_;rw [W_fit (by omega) (by omega)];push_cast;rfl) ?_;conv=>whnf
   refine sT ?_
   refine zax (z':=((A.length+1:Nat):Int)) (by show W ((A.length:Int)+1)=_;rw [W_fit (by omega) (by omega)];push_cast;rfl) ?_;conv=>whnf
   refine sOm ?_
   refine zah (show A++⟨n,n⟩ :: x :: B=(A++[⟨n,n⟩])++x :: B by simp) (by simp) ?_;conv=>whnf
   refine zan (z:=n+1) (W_fit (by omega) (by omega)) ?_;conv=>whnf
   by_cases hr:x.lo=n+1
   . refine sT ?_
     have hR:cutR n (x :: B)=(x.hi,B):=by simp [cutR,hr]
     rw [hR]
     refine zax (z':=((A.length+1:Nat):Int)) (by show W ((A.length:Int)+1)=_;rw [W_fit (by omega) (by omega)];push_cast;rfl) ?_;conv=>whnf
     refine sOm ?_
     refine zah (show A++⟨n,n⟩ :: x :: B=(A++[⟨n,n⟩])++x :: B by simp) (by simp) ?_;conv=>whnf
     refine sOm ?_
     refine zah (show A++⟨n,n⟩ :: x :: B=A++⟨n,n⟩ :: x :: B from rfl) (by simp) ?_;conv=>whnf
     refine zax (z':=((A.length+1:Nat):Int)) (by show W ((A.length:Int)+1)=_;rw [W_fit (by omega) (by omega)];push_cast;rfl) ?_;conv=>whnf
     refine zax (z':=((A.length+2:Nat):Int)) (by show W ((A.length:Int)+2)=_;rw [W_fit (by omega) (by omega)];push_cast;rfl) ?_;conv=>whnf
     refine zab [] [(1000,24)] [(0,56)] ?_;conv=>whnf
     refine ⟨_,_,_,_,zzo (out:=A++⟨n,x.hi⟩ :: B) (A++[⟨n,x.hi⟩]) B x _ _ rfl (by simp) (by simp) (by simp;omega) (by simp at hAl hb ⊢;omega),⟨rfl,rfl,rfl,⟨⟨rfl,_,rfl,.inl ⟨rfl,?_⟩⟩,trivial⟩,⟨⟨rfl,rfl⟩,trivial⟩,rfl,rfl,rfl⟩,?_⟩
     . refine (zcw (f:=Span.row) (a:=A) (b:=x :: B) (x:=⟨n,n⟩) (y:=⟨n,x.hi⟩) (by simp) rfl).symm.trans (zrg (by simp))
     conv=>whnf
     try (refine hcut.go ?_;conv=>whnf)
     rcases zej A with rfl | ⟨A',s,rfl⟩
     . conv=>whnf
       try (refine hcut.go ?_;conv=>whnf)
       refine zai [(0,some 56)] rfl rfl trivial rfl rfl ⟨⟨rfl,.inl ⟨56,rfl,rfl⟩⟩,trivial⟩
     . have hs:s.hi < n:=hlow s (by simp)
       have hsl:(A'++[s]).length=A'.length+1:=by simp
       have hs2:=zfs hl s (by simp)
       refine sT ?_
       refine zax (z':=((A'.length:Nat):Int)) (by show W (((A'++[s]).length:Int) - 1)=_;rw [W_fit (by omega) (by omega)];omega) ?_;conv=>whnf
       refine sOm ?_
       refine zah (show A'++[s]++⟨n,x.hi⟩ :: B=A'++s :: ⟨n,x.hi⟩ :: B by simp) rfl ?_;conv=>whnf
       refine zan (z:=n - 1) (W_fit (by omega) (by omega)) ?_;conv=>whnf
       by_cases he:s.hi=n - 1
       . refine sT ?_
         refine zax (z':=((A'.length:Nat):Int)) (by show W (((A'++[s]).length:Int) - 1)=_;rw [W_fit (by omega) (by omega)];omega) ?_;conv=>whnf
         refine sOm ?_
         refine zah (show A'++[s]++⟨n,x.hi⟩ :: B=(A'++[s])++⟨n,x.hi⟩ :: B from rfl) rfl ?_;conv=>whnf
         refine sOm ?_
         refine zah (show A'++[s]++⟨n,x.hi⟩ :: B=A'++s :: ⟨n,x.hi⟩ :: B by simp) (by simp) ?_;conv=>whnf
         refine zax (z':=((A'.length+2:Nat):Int)) (by show W (((A'++[s]).length:Int)+1)=_;rw [W_fit (by omega) (by omega)];omega) ?_;conv=>whnf
         refine zab [] [(1000,56)] [(0,84)] ?_;conv=>whnf
         refine ⟨_,_,_,_,zfr (A'++[⟨s.lo,x.hi⟩]) (B) ⟨n,x.hi⟩ _ _ (by simp) (by simp;omega) (by simp at hAl hb ⊢;omega),⟨rfl,rfl,rfl,⟨⟨rfl,_,rfl,.inl ⟨rfl,?_⟩⟩,trivial⟩,⟨⟨rfl,rfl⟩,trivial⟩,rfl,rfl,rfl⟩,?_⟩
         . exact ztq (f:=Span.row) (a:=A') (b:=⟨n,x.hi⟩ :: B) (x:=s) (y:=⟨s.lo,x.hi⟩) (by simp) rfl
         conv=>whnf
         rw [zgn,if_pos he]
         refine zai [(0,some 84)] rfl rfl trivial rfl rfl ⟨⟨rfl,.inl ⟨84,rfl,?_⟩⟩,trivial⟩
         exact zrg (by first | (simp;done) | (simp;rfl))
       . refine sN ?_
         rw [zgn,if_neg he]
         refine zai [(0,some 56)] rfl rfl trivial rfl rfl ⟨⟨rfl,.inl ⟨56,rfl,rfl⟩⟩,trivial⟩
   . refine sN ?_
     have hR:cutR n (x :: B)=(n,x :: B):=by simp [cutR,hr]
     rw [hR]
     rcases zej A with rfl | ⟨A',s,rfl⟩
     . conv=>whnf
       try (refine hcut.go ?_;conv=>whnf)
       refine zai [(0,some 24)] rfl rfl trivial rfl rfl ⟨⟨rfl,.inl ⟨24,rfl,rfl⟩⟩,trivial⟩
     . have hs:s.hi < n:=hlow s (by simp)
       have hsl:(A'++[s]).length=A'.length+1:=by simp
       have hs2:=zfs hl s (by simp)
       refine sT ?_
       refine zax (z':=((A'.length:Nat):Int)) (by show W (((A'++[s]).length:Int) - 1)=_;rw [W_fit (by omega) (by omega)];omega) ?_;conv=>whnf
       refine sOm ?_
       refine zah (show A'++[s]++⟨n,n⟩ :: x :: B=A'++s :: ⟨n,n⟩ :: x :: B by simp) rfl ?_;conv=>whnf
       refine zan (z:=n - 1) (W_fit (by omega) (by omega)) ?_;conv=>whnf
       by_cases he:s.hi=n - 1
       . refine sT ?_
         refine zax (z':=((A'.length:Nat):Int)) (by show W (((A'++[s]).length:Int) - 1)=_;rw [W_fit (by omega) (by omega)];omega) ?_;conv=>whnf
         refine sOm ?_
         refine zah (show A'++[s]++⟨n,n⟩ :: x :: B=(A'++[s])++⟨n,n⟩ :: x :: B from rfl) rfl ?_;conv=>whnf
         refine sOm ?_
         refine zah (show A'++[s]++⟨n,n⟩ :: x :: B=A'++s :: ⟨n,n⟩ :: x :: B by simp) (by simp) ?_;conv=>whnf
         refine zax (z':=((A'.length+2:Nat):Int)) (by show W (((A'++[s]).length:Int)+1)=_;rw [W_fit (by omega) (by omega)];omega) ?_;conv=>whnf
         refine zab [] [(1000,24)] [(0,84)] ?_;conv=>whnf
         refine ⟨_,_,_,_,zfr (A'++[⟨s.lo,n⟩]) (x :: B) ⟨n,n⟩ _ _ (by simp) (by simp;omega) (by simp at hAl hb ⊢;omega),⟨rfl,rfl,rfl,⟨⟨rfl,_,rfl,.inl ⟨rfl,?_⟩⟩,trivial⟩,⟨⟨rfl,rfl⟩,trivial⟩,rfl,rfl,rfl⟩,?_⟩
         . exact ztq (f:=Span.row) (a:=A') (b:=⟨n,n⟩ :: x :: B) (x:=s) (y:=⟨s.lo,n⟩) (by simp) rfl
         conv=>whnf
         rw [zgn,if_pos he]
         refine zai [(0,some 84)] rfl rfl trivial rfl rfl ⟨⟨rfl,.inl ⟨84,rfl,?_⟩⟩,trivial⟩
         exact zrg (by first | (simp;done) | (simp;rfl))
       . refine sN ?_
         rw [zgn,if_neg he]
         refine zai [(0,some 24)] rfl rfl trivial rfl rfl ⟨⟨rfl,.inl ⟨24,rfl,rfl⟩⟩,trivial⟩
end Ser
end Go.HL
namespace Go.HL
open Go.Proofs
namespace Ser
set_option maxHeartbeats 2000000
set_option maxRecDepth 100000
set_option linter.unusedSimpArgs false
theorem ymz (l:List Span) (n:Int) (hl:rise l) (hb:l.length < 2 ^ 39) (h1:-9223372036854775808 <= n) (h2:n <= 9223372036854775807) :
 FunOK Tryz.prog 181 [spans l,i64 n] zac (.own 0) (lk .free [(0,.live (.row 199 2 ((add l n).map Span.row)))]):=by
 have hsp:=split l n
 have h:=yjy (below l n) (above l n) n (by rwa [<- hsp]) (by rw [<- hsp]) (by rw [<- hsp]) (by rwa [<- hsp]) h1 h2
 rwa [<- hsp] at h
def up:List Span -> Int -> Int × List Span
 | [],n=>(n,[])
 | s :: r,n=>if s.lo <= n+1 then up r (if s.hi > n then s.hi else n) else (n,s :: r)
def wnd:List Span -> List Span -> HV
 | [],_=>.own 900
 | _ :: a,b=>.osl 900 2 (a.length+1) b.length
theorem ydd {α:Type} {f:α -> List PV} {l a b c:List α} {o n:Nat} {K:List (List PV) -> Prop} (h:l=a++b++c) (ho:o=a.length) (hn:n=b.length) (hk:K (b.map f)):hsub (l.map f) o n K:=by
 subst h ho hn
 refine ⟨_,rfl,by simp,?_⟩
 rwa [<- List.map_drop,<- List.map_take,List.append_assoc,List.drop_left,List.take_left]
theorem yoj {i s o o' n n':Nat} (ho:o=o') (hn:n=n'):HV.osl i s o n=.osl i s o' n':=by rw [ho,hn]
theorem yjz (l:List Span) (n:Int) (hl:∀ s ∈ l,s.hi <= 1099511627776) (hb:l.length < 2 ^ 39) (h1:-1099511627776 <= n) (h2:n <= 1099511627776) :
 FunOK Tryz.prog 180 [spans l,i64 n] zac (.tup [i64 (up l n).1,.own 0]) (lk .free [(0,.live (.row 199 2 ((up l n).2.map Span.row)))]):=by
 refine zaj mixed Tryz.func180 (by decide) [] (fun _=>.inl rfl) ?_
 generalize hR:up l n=R
 conv=>whnf
 (refine zam [(0,8)]  ?_;(conv=>whnf);refine dO (zdg l (by omega)) ?_)
 refine ⟨{ x:(List Span × List Span) × Int // l=x.1.1++x.1.2 /\ R=up x.1.2 x.2 /\ -1099511627776 <= x.2 /\ x.2 <= 1099511627776 },fun | ⟨((a,b),m),_⟩=>hs 32 [(1,i64 m),(6,wnd a b)] [(900,.live (.row 199 2 (l.map Span.row)))],fun x=>x.1.1.2.length,⟨(([],l),n),rfl,hR.symm,h1,h2⟩,?_,?_⟩
 . exact (hle_Q [(900,some 8)])
 rintro ⟨⟨⟨a,b⟩,m⟩,h,hu,hm1,hm2⟩
 dsimp only at h hu hm1 hm2
 have hlen:l.length=a.length+b.length:=by rw [h];simp
 have hlm:(l.map Span.row).length=l.length:=by simp
 cases a with
 | nil =>
  rw [List.nil_append] at h
  rw [List.length_nil,Nat.zero_add] at hlen
  conv=>whnf
  cases b with
  | nil =>
   rw [List.length_nil] at hlen
   refine sN ?_
   (refine zam [(0,31)]  ?_;(conv=>whnf);refine dO (zdg l (by omega)) ?_)
   subst hu
   refine zai [(0,some 31)] rfl rfl trivial rfl rfl ⟨⟨rfl,.inl ⟨31,rfl,?_⟩⟩,trivial⟩
   exact zrg h
  | cons s r =>
   rw [List.length_cons] at hlen
   have hs:=hl s (by rw [h];simp)
   refine sT ?_
   refine zaa (by omega) ?_;conv=>whnf
   refine zah (a:=[]) h rfl ?_;conv=>whnf
   refine sF ?_
   by_cases c:s.lo <= m+1
   . refine sT ?_
     refine zaa (by omega) ?_;conv=>whnf
     refine zah (a:=[]) h rfl ?_;conv=>whnf
     refine zaa (by omega) ?_;conv=>whnf
     refine ⟨⟨(([s],r),if s.hi > m then s.hi else m),h,by dsimp only;rw [hu,up,if_pos c],by dsimp only;split <;> omega,by dsimp only;split <;> omega⟩,(hle_X [(900,some 900)] (by repeat' (first | exact z0 | refine z1 ?_ | refine ⟨?_,?_⟩ | ((exact yoj (by simp) (by omega))) | exact z2))),by simp⟩
   . refine sN ?_
     (refine zam [(0,31)]  ?_;(conv=>whnf);refine dO (zdg l (by omega)) ?_)
     rw [show up (s :: r) m=(m,s :: r) by simp [up,c]] at hu
     subst hu
     refine zai [(0,some 31)] rfl rfl trivial rfl rfl ⟨⟨rfl,.inl ⟨31,rfl,?_⟩⟩,trivial⟩
     exact zrg h
 | cons t a =>
  rw [List.length_cons] at hlen
  have hal:(a.length:Int)+1=((t :: a).length:Nat):=by simp
  conv=>whnf
  cases b with
  | nil =>
   rw [List.length_nil] at hlen
   conv=>whnf
   try (refine hcut.go ?_;conv=>whnf)
   refine zam [(0,31)] ?_;conv=>whnf
   refine ydd (a:=t :: a) (b:=[]) (c:=[]) (by rw [h];simp) rfl rfl ?_
   conv=>whnf
   refine ⟨_,_,zdg [] (by simp),⟨⟨⟨rfl,rfl⟩,trivial⟩,rfl,rfl,rfl⟩,?_⟩
   conv=>whnf
   subst hu
   refine zai [(0,some 31)] rfl rfl trivial rfl rfl ⟨⟨rfl,.inl ⟨31,rfl,rfl⟩⟩,trivial⟩
  | cons s r =>
   rw [List.length_cons] at hlen
   have hs:=hl s (by rw [h];simp)
   have hrl:(s :: r).length=r.length+1:=rfl
   refine sT ?_
   refine zaa (by omega) ?_;conv=>whnf
   refine zah (a:=t :: a) h (by simp) ?_;conv=>whnf
   refine sF ?_
   by_cases c:s.lo <= m+1
   . refine sT ?_
     refine zaa (by omega) ?_;conv=>whnf
     refine zah (a:=t :: a) h (by simp) ?_;conv=>whnf
     refine zaa (by omega) ?_;conv=>whnf
     refine ⟨⟨((t :: (a++[s]),r),if s.hi > m then s.hi else m),by rw [h];simp,by dsimp only;rw [hu,up,if_pos c],by dsimp only;split <;> omega,by dsimp only;split <;> omega⟩,(hle_X [(900,some 900)] (by repeat' (first | exact z0 | refine z1 ?_ | refine ⟨?_,?_⟩ | ((exact yoj (by simp) (by omega))) | exact z2))),by simp⟩
   . refine sN ?_
     refine zam [(0,31)] ?_;conv=>whnf
     refine ydd (a:=t :: a) (b:=s :: r) (c:=[]) (by rw [h];simp) rfl rfl ?_
     conv=>whnf
     refine ⟨_,_,zdg (s :: r) (by omega),⟨⟨⟨rfl,rfl⟩,trivial⟩,rfl,rfl,rfl⟩,?_⟩
     conv=>whnf
     rw [show up (s :: r) m=(m,s :: r) by simp [up,c]] at hu
     subst hu
     refine zai [(0,some 31)] rfl rfl trivial rfl rfl ⟨⟨rfl,.inl ⟨31,rfl,rfl⟩⟩,trivial⟩
instance:DecidableEq Span:=fun a b=>decidable_of_iff (a.lo=b.lo /\ a.hi=b.hi) ⟨fun h=>by cases a;cases b;simp_all,fun h=>by rw [h];simp⟩
end Ser
end Go.HL
namespace Go.HL
open Go.Proofs
namespace Ser
set_option maxHeartbeats 2000000
set_option maxRecDepth 100000
set_option linter.unusedSimpArgs false
def p1 (n:Int):List Span -> Int × Int -> Int × Int
 | [],p=>p
 | s :: r,p=>p1 n r (if s.hi=n - 1 then (s.lo,p.2) else if s.lo=n+1 then (p.1,s.hi) else p)
def p2 (n lo hi:Int):List Span -> Bool -> List Span
 | [],put=>if put then [] else [⟨lo,hi⟩]
 | s :: r,put=>if s.hi=n - 1 \/ s.lo=n+1 then p2 n lo hi r put else if put=false /\ s.lo > n then ⟨lo,hi⟩ :: s :: p2 n lo hi r true else s :: p2 n lo hi r put
end Ser
end Go.HL
namespace Go.HL
open Go.Proofs
namespace Rcv
open Srt Jn Ser
set_option maxHeartbeats 4000000
set_option maxRecDepth 100000
set_option linter.unusedSimpArgs false
def rcvC (r:Receiver) (a b c d:HV):List HV:=[i64 r.config.streams,i64 r.config.part,i64 r.config.packet,i64 r.config.paths,i64 r.config.turns,i64 r.config.waiting,i64 r.config.first,i64 r.cum,a,b,c,d]
abbrev rowS (l:List Span):HSlot:=.live (.row 199 2 (l.map Span.row))
abbrev rowP (l:List Piece):HSlot:=.live (.row 162 12 (l.map Piece.row))
abbrev rowT (l:List Int):HSlot:=.live (.row 3 1 (l.map fun n=>[pi n]))
abbrev rowL (l:List Arrival):HSlot:=.live (.row 56 4 (l.map Arrival.row))
abbrev rcvO (r:Receiver) (a b c d:Nat):HV:=.agg (rcvC r (.own a) (.own b) (.own c) (.own d))
abbrev rcvB (r:Receiver) (a b c d:Nat) (L:List (Nat × HSlot)):List (Nat × HSlot):=(a,rowS r.spans) :: (b,rowP r.pieces) :: (c,rowT r.turn) :: (d,rowL r.log) :: L
abbrev tkH (r:Receiver):List (Nat × HSlot):=(1000,.live (.cells 225 (rcvC r (.own 1001) (.own 1002) (.own 1003) (.own 1004)))) :: rcvB r 1001 1002 1003 1004 []
abbrev tkD (r:Receiver):List (Nat × HSlot):=(1000,.live (.cells 225 (rcvC r (.own 0) (.own 1) (.own 2) (.own 3)))) :: rcvB r 0 1 2 3 [(1001,.dead),(1002,.dead),(1003,.dead),(1004,.dead)]
def newR (c:Config):Receiver:=⟨c,c.first - 1,[],[],List.replicate (max c.streams 0).toNat 0,[]⟩
theorem zkd (c:Config) (h1:-9223372036854775808 < c.first) (h2:c.first <= 9223372036854775807) (h3:c.streams <= 1099511627776) :
 FunOK Tryz.prog 110 [c.hv] zac (rcvO (newR c) 0 1 2 3) (lk .free (rcvB (newR c) 0 1 2 3 [])):=by
 refine zaj mixed Tryz.func110 (by decide) [] (fun _=>.inl rfl) ?_
 conv=>whnf
 refine sF ?_
 refine zaa (c:=(0 <= (if 0 > c.streams then 0 else c.streams:Int) /\ (if 0 > c.streams then 0 else c.streams:Int)=(if 0 > c.streams then 0 else c.streams:Int) /\ (if 0 > c.streams then 0 else c.streams:Int) * (8:Nat) <= 140737488355328)) (by split <;> omega) ?_;conv=>whnf
 refine sD ?_
 refine zai [(0,none),(1,none),(2,some 10),(3,none)] rfl rfl trivial rfl rfl ⟨⟨rfl,.inr ⟨rfl,rfl⟩⟩,⟨rfl,.inr ⟨rfl,rfl⟩⟩,⟨rfl,.inl ⟨10,rfl,?_⟩⟩,⟨rfl,.inr ⟨rfl,rfl⟩⟩,trivial⟩
 refine zal ?_
 rw [show (newR c).turn=List.replicate (max c.streams 0).toNat 0 from rfl,List.map_replicate]
 have:(max c.streams 0).toNat=(if 0 > c.streams then 0 else c.streams:Int).toNat:=by split <;> omega
 rw [this];rfl
structure Fit (r:Receiver):Prop where
 spans:r.spans.length < 2 ^ 36
 pieces:r.pieces.length < 2 ^ 22
 bytes:tot r.pieces < 2 ^ 22
 turn:r.turn.length < 2 ^ 36
 log:r.log.length < 2 ^ 36
 data:∀ a ∈ r.log,a.data.length < 2 ^ 40
abbrev zeroR:List HV:=[i64 0,i64 0,i64 0,i64 0,i64 0,i64 0,i64 0,i64 0,hnil,hnil,hnil,hnil]
theorem zbx (r:Receiver) (hr:Fit r):FunOK Tryz.prog 111 [r.hv] zac (rcvO r 0 1 2 3) (lk .free (rcvB r 0 1 2 3 [])):=by
 obtain ⟨h1,h2,h3,h4,h5,h6⟩:=hr
 refine zaj mixed Tryz.func111 (by decide) [] (fun _=>.inl rfl) ?_
 conv=>whnf
 (refine zam [(0,11)]  ?_;(conv=>whnf);refine dO (Cl.zdg r.spans (by omega)) ?_)
 (refine zam [(0,14)]  ?_;(conv=>whnf);refine dO (Cl.zlh r.turn (by omega)) ?_)
 refine sD ?_
 refine ⟨{ x:List Piece × List Piece // r.pieces=x.1++x.2 },fun | ⟨(A,B),_⟩=>hs 56 [(1,.ptr 1 0),(2,.ptr 2 0),(3,.own 900),(18,pieces r.pieces),(19,i64 r.pieces.length),(20,i64 A.length)] [(1,.live (.cells 37 (rcvC r (.own 11) (pieces r.pieces) (.own 14) (.p (.sl 4 (r.log.map Arrival.row)))))),(2,.live (.cells 37 zeroR)),(11,rowS r.spans),(14,rowT r.turn),(900,rowP A)],fun x=>x.1.2.length,⟨([],r.pieces),rfl⟩,?_,?_⟩
 . exact (hle_Q [(1,some 1),(2,some 2),(11,some 11),(14,some 14),(900,none)])
 rintro ⟨⟨A,B⟩,h⟩
 dsimp only at h
 have hl:r.pieces.length=A.length+B.length:=by rw [h];simp
 conv=>whnf
 cases B with
 | cons p B =>
  have hp:p.chunk.data.length <= tot r.pieces:=yqm (by rw [h];simp)
  rw [List.length_cons] at hl
  refine sT ?_
  refine zah h rfl ?_;conv=>whnf
  (refine zam [(0,27)]  ?_;(conv=>whnf);refine dO (Cl.zbv p.chunk.data (by omega)) ?_)
  refine zaa (c:=((A.map Piece.row).length+1) * 136 <= 140737488355328) (by simp;omega) ?_;conv=>whnf
  refine sF ?_
  refine ⟨⟨(A++[p],B),by rw [h];simp⟩,(hle_X [(1,some 1),(2,some 2),(11,some 11),(14,some 14),(900,some 33)] (by repeat' (first | exact z0 | refine z1 ?_ | refine ⟨?_,?_⟩ | ((exact zbj (f:=Piece.row) rfl rfl)) | exact z2))),by simp⟩
 | nil =>
  rw [List.length_nil] at hl
  rw [List.append_nil] at h
  refine sN ?_
  refine ⟨{ x:List Arrival × List Arrival // r.log=x.1++x.2 },fun | ⟨(A,B),_⟩=>hs 56 [(1,.ptr 1 0),(2,.ptr 2 0),(3,.own 900),(6,.own 901),(36,.p (.sl 4 (r.log.map Arrival.row))),(37,i64 r.log.length),(38,i64 A.length)] [(1,.live (.cells 37 (rcvC r (.own 11) (pieces r.pieces) (.own 14) (.p (.sl 4 (r.log.map Arrival.row)))))),(2,.live (.cells 37 zeroR)),(11,rowS r.spans),(14,rowT r.turn),(900,rowP r.pieces),(901,rowL A)],fun x=>x.1.2.length,⟨([],r.log),rfl⟩,?_,?_⟩
  . exact (hle_X [(1,some 1),(2,some 2),(11,some 11),(14,some 14),(900,some 900),(901,none)] (by repeat' (first | exact z0 | refine z1 ?_ | refine ⟨?_,?_⟩ | ((exact zal (by rw [h]))) | exact z2)))
  rintro ⟨⟨A,B⟩,h⟩
  dsimp only at h
  have hl:r.log.length=A.length+B.length:=by rw [h];simp
  conv=>whnf
  cases B with
  | cons p B =>
   have hp:=h6 p (by rw [h];simp)
   rw [List.length_cons] at hl
   refine sT ?_
   refine zah h rfl ?_;conv=>whnf
   (refine zam [(0,44)]  ?_;(conv=>whnf);refine dO (Cl.zbv p.data (by omega)) ?_)
   refine zaa (c:=((A.map Arrival.row).length+1) * 48 <= 140737488355328) (by simp;omega) ?_;conv=>whnf
   refine sF ?_
   refine ⟨⟨(A++[p],B),by rw [h];simp⟩,(hle_X [(1,some 1),(2,some 2),(11,some 11),(14,some 14),(900,some 900),(901,some 49)] (by repeat' (first | exact z0 | refine z1 ?_ | refine ⟨?_,?_⟩ | ((exact zbj (f:=Arrival.row) rfl rfl)) | exact z2))),by simp⟩
  | nil =>
   rw [List.length_nil] at hl
   rw [List.append_nil] at h
   refine sN ?_
   refine zai [(0,some 11),(1,some 900),(2,some 14),(3,some 901)] rfl rfl trivial rfl rfl ⟨⟨rfl,.inl ⟨11,rfl,rfl⟩⟩,⟨rfl,.inl ⟨900,rfl,rfl⟩⟩,⟨rfl,.inl ⟨14,rfl,rfl⟩⟩,⟨rfl,.inl ⟨901,rfl,?_⟩⟩,trivial⟩
   exact zal (by rw [h])
theorem zxa (r:Receiver) (h2:r.pieces.length < 2 ^ 40) (h3:tot r.pieces < 2 ^ 60):FunOK Tryz.prog 179 [r.hv] zac (i64 (tot r.pieces:Nat)) zac:=by
 refine zao mixed Tryz.func179 (by decide) ?_
 conv=>whnf
 refine ⟨{ x:List Piece × List Piece // r.pieces=x.1++x.2 },fun | ⟨(A,B),_⟩=>hs 21 [(3,i64 (tot A:Nat)),(7,pieces r.pieces),(8,i64 r.pieces.length),(9,i64 A.length)] [],fun x=>x.1.2.length,⟨([],r.pieces),rfl⟩,?_,?_⟩
 . exact (hle_Q [])
 rintro ⟨⟨A,B⟩,h⟩
 dsimp only at h
 have hl:r.pieces.length=A.length+B.length:=by rw [h];simp
 have ht:tot r.pieces=tot A+tot B:=by rw [h,zoz]
 conv=>whnf
 cases B with
 | cons p B =>
  rw [List.length_cons] at hl
  rw [zds] at ht
  refine sT ?_
  refine zah h rfl ?_;conv=>whnf
  refine sF ?_
  refine sF ?_
  exact ⟨⟨(A++[p],B),by rw [h];simp⟩,(hle_X [] (by repeat' (first | exact z0 | refine z1 ?_ | refine ⟨?_,?_⟩ | ((exact zaw (by rw [zoz,zds];simp [tot]))) | exact z2))),by simp⟩
 | nil =>
  rw [List.length_nil] at hl
  rw [List.append_nil] at h
  refine sN ?_
  rw [h]
def mine (s m:Int) (o:Bool) (p:Piece):Bool:=decide (p.chunk.stream=s) && decide (p.chunk.mid=m) && (p.chunk.ordered == o)
theorem yka (p:Piece) (s m:Int) (o:Bool):FunOK Tryz.prog 199 [.rp p.row,i64 s,i64 m,hbool o] zac (hbool (mine s m o p)) zac:=by
 refine zao mixed Tryz.func199 (by decide) ?_
 conv=>whnf
 by_cases c1:p.chunk.stream=s
 . refine zaf (by simpa using c1) ?_;conv=>whnf
   by_cases c2:p.chunk.mid=m
   . refine zaf (by simpa using c2) ?_;conv=>whnf
     simp [mine,c1,c2]
   . refine zad (by simpa using c2) ?_;conv=>whnf
     simp [mine,c2]
 . refine zad (by simpa using c1) ?_;conv=>whnf
   simp [mine,c1]
theorem yft (s m:Int) (o:Bool) (p:Piece):FunOK Tryz.prog 211 [p.hv,.rp [pi s],.rp [pi m],.rp [pb o]] zac (hbool (mine s m o p)) zac:=by
 refine zao mixed Tryz.func211 (by decide) ?_
 conv=>whnf
 ((refine zay ?_;(conv=>whnf);refine ⟨_,yka p s m o,rfl,?_⟩;conv=>whnf);try (refine hcut.go ?_;conv=>whnf))
def dropR (r:Receiver) (s m:Int) (o:Bool):Receiver:={ r with pieces:=r.pieces.filter fun p=>!mine s m o p }
theorem zpa (r:Receiver) (s m:Int) (o:Bool) (h2:r.pieces.length < 2 ^ 38) :
 FunOK Tryz.prog 201 [.ptr 1000 0,i64 s,i64 m,hbool o] (lk .free (tkH r)) (.tup []) (lk .free (tkD (dropR r s m o))):=by
 refine zaj mixed Tryz.func201 (by decide) [1000,1001,1002,1003,1004] zav ?_
 conv=>whnf
 (refine zab [false,true] [(1000,1002)] [(0,15)] ?_;(conv=>whnf);refine dG (Cl.yez (fun p=>yft s m o p) r.pieces (by omega)) ?_)
 (exact zbh (pK5 [(0,some 1001),(1,some 15),(2,some 1003),(3,some 1004)]))
def dlv (r:Receiver) (s m:Int) (o:Bool):Receiver × Bool:=match join (r.pieces.filter (mine s m o)) with
 | none=>(r,false)
 | some b=>({ dropR r s m o with log:=r.log++[⟨s,m,o,b⟩] },true)
theorem zit (f:Piece -> Bool):∀ l:List Piece,tot (l.filter f) <= tot l
 | []=>Nat.le_refl _
 | p :: l=>by
  have:=zit f l
  rw [List.filter_cons]
  split
  . rw [zds,zds];omega
  . rw [zds];omega
theorem zid (r:Receiver) (s m:Int) (o:Bool) (h2:r.pieces.length < 2 ^ 37) (h3:tot r.pieces < 2 ^ 40) (h4:r.log.length < 2 ^ 38) :
 FunOK Tryz.prog 183 [.ptr 1000 0,i64 s,i64 m,hbool o] (lk .free (tkH r)) (hbool (dlv r s m o).2) (lk .free (tkD (dlv r s m o).1)):=by
 refine zaj mixed Tryz.func183 (by decide) [1000,1001,1002,1003,1004] zav ?_
 conv=>whnf
 refine ⟨{ x:List Piece × List Piece // r.pieces=x.1++x.2 },fun | ⟨(A,B),_⟩=>hsP [1000,1001,1002,1003,1004] 61 [(0,.ptr 1000 0),(1,i64 s),(2,i64 m),(3,hbool o),(8,hbool false),(9,.own 900),(18,.own 1002),(19,i64 r.pieces.length),(20,i64 A.length)] (tkH r++[(900,rowP (A.filter (mine s m o)))]),fun x=>x.1.2.length,⟨([],r.pieces),rfl⟩,?_,?_⟩
 . exact (hle_Y (pK5 [(900,none)]) (by repeat' (first | exact z0 | refine z1 ?_ | refine ⟨?_,?_⟩ | ((exact zaw om)) | exact z2)))
 rintro ⟨⟨A,B⟩,h⟩
 dsimp only at h
 have hl:r.pieces.length=A.length+B.length:=by rw [h];simp
 have hf:=List.length_filter_le (mine s m o) A
 conv=>whnf
 cases B with
 | cons p B =>
  rw [List.length_cons] at hl
  refine sT ?_
  refine sO ?_
  refine zah h rfl ?_;conv=>whnf
  (refine cL ?_;refine dL (yka p s m o) ?_)
  cases hp:mine s m o p with
  | true =>
   conv=>whnf
   try (refine hcut.go ?_;conv=>whnf)
   refine zaa (c:=(((A.filter (mine s m o)).map Piece.row).length+1) * 136 <= 140737488355328) (by simp;omega) ?_;conv=>whnf
   try (refine hcut.go ?_;conv=>whnf)
   refine sF ?_
   exact ⟨⟨(A++[p],B),by rw [h];simp⟩,(hle_Y (pK5 [(900,some 31)]) (by repeat' (first | exact z0 | refine z1 ?_ | refine ⟨?_,?_⟩ | ((exact zbj (f:=Piece.row) (by rw [List.filter_append,List.filter_cons,if_pos hp];rfl) rfl)) | exact z2))),by simp⟩
  | false =>
   conv=>whnf
   try (refine hcut.go ?_;conv=>whnf)
   refine sF ?_
   exact ⟨⟨(A++[p],B),by rw [h];simp⟩,(hle_Y (pK5 [(900,some 900)]) (by repeat' (first | exact z0 | refine z1 ?_ | refine ⟨?_,?_⟩ | ((exact zal (by rw [List.filter_append,List.filter_cons,if_neg (by rw [hp];decide)];simp))) | exact z2))),by simp⟩
 | nil =>
  rw [List.length_nil] at hl
  rw [List.append_nil] at h
  have ht:=zit (mine s m o) A
  have hA:tot A=tot r.pieces:=by rw [h]
  have hd:dlv r s m o=match join (A.filter (mine s m o)) with
   | none=>(r,false)
   | some b=>({ dropR r s m o with log:=r.log++[⟨s,m,o,b⟩] },true):=by rw [dlv,h]
  have ps:=yjt (A.filter (mine s m o)) (by omega) (by omega)
  refine sN ?_
  cases hj:join (A.filter (mine s m o)) with
  | none =>
   rw [hj] at hd ps
   rw [hd]
   (refine zam [(0,35)]  ?_;(conv=>whnf);refine dO ps ?_)
   (exact zbh (pK5 [(0,some 1001),(1,some 1002),(2,some 1003),(3,some 1004)]))
  | some b =>
   rw [hj] at hd ps
   rw [hd]
   (refine zam [(0,35)]  ?_;(conv=>whnf);refine dO ps ?_)
   refine zaa (c:=((r.log.map Arrival.row).length+1) * 48 <= 140737488355328) (by simp;omega) ?_;conv=>whnf
   try (refine hcut.go ?_;conv=>whnf)
   (refine zab [] [(1000,1000),(1001,1001),(1002,1002),(1003,1003),(1004,52)] [(0,910),(1,911),(2,912),(3,913)] ?_;(conv=>whnf);refine dG (zpa { r with log:=r.log++[⟨s,m,o,b⟩] } s m o (by dsimp only;omega)) ?_ ⟨rfl,rfl,rfl,⟨⟨rfl,_,rfl,.inl ⟨rfl,rfl⟩⟩,⟨⟨rfl,_,rfl,.inl ⟨rfl,rfl⟩⟩,⟨⟨rfl,_,rfl,.inl ⟨rfl,rfl⟩⟩,⟨⟨rfl,_,rfl,.inl ⟨rfl,rfl⟩⟩,⟨⟨rfl,_,rfl,.inl ⟨rfl,zbj (f:=Arrival.row) (x:=⟨s,m,o,b⟩) rfl rfl⟩⟩,trivial⟩⟩⟩⟩⟩,⟨⟨rfl,rfl⟩,⟨⟨rfl,rfl⟩,⟨⟨rfl,rfl⟩,⟨⟨rfl,rfl⟩,trivial⟩⟩⟩⟩,rfl,rfl,rfl⟩)
   (exact zbh (pK5 [(0,some 910),(1,some 911),(2,some 912),(3,some 913)]))
theorem ztr {l:List Piece} {b:List UInt8} (h:join l=some b):0 < l.length:=by
 unfold join at h
 split at h
 . cases h
 . rename_i c;exact List.length_pos_iff.2 c
theorem zkq {r:Receiver} {s m:Int} {o:Bool} (h:(dlv r s m o).2=true):(dlv r s m o).1.pieces.length < r.pieces.length:=by
 unfold dlv at h ⊢
 split
 . rename_i hj;rw [hj] at h;cases h
 . rename_i b hj
   have h1:=ztr hj
   have h2:(r.pieces.filter fun p=>!mine s m o p).length+(r.pieces.filter (mine s m o)).length=r.pieces.length:=by
    induction r.pieces with
    | nil=>rfl
    | cons p l ih =>
     rw [List.filter_cons,List.filter_cons]
     cases mine s m o p <;> simp <;> omega
   show (r.pieces.filter fun p=>!mine s m o p).length < _
   omega
theorem zgo (r:Receiver) (s m:Int) (o:Bool):(dlv r s m o).1.turn=r.turn /\ (dlv r s m o).1.cum=r.cum /\ (dlv r s m o).1.spans=r.spans /\ (dlv r s m o).1.config=r.config /\ (dlv r s m o).1.pieces.length <= r.pieces.length /\ tot (dlv r s m o).1.pieces <= tot r.pieces /\
 (dlv r s m o).1.log.length+(dlv r s m o).1.pieces.length <= r.log.length+r.pieces.length:=by
 have hl:=fun h=>zkq (r:=r) (s:=s) (m:=m) (o:=o) h
 unfold dlv at hl ⊢
 split
 . exact ⟨rfl,rfl,rfl,rfl,Nat.le_refl _,Nat.le_refl _,Nat.le_refl _⟩
 . rename_i b hj
   rw [hj] at hl
   have h1:=hl rfl
   dsimp only [dropR] at h1 ⊢
   refine ⟨rfl,rfl,rfl,rfl,List.length_filter_le _ _,zit _ _,?_⟩
   simp only [List.length_append,List.length_singleton];omega
def bump (r:Receiver) (k:Nat):Receiver:={ r with turn:=r.turn.set k (r.turn[k]?.getD 0+1) }
def zkr:Nat -> Receiver -> Nat -> Receiver
 | 0,r,_=>r
 | n+1,r,k=>if (dlv r k (tag (r.turn[k]?.getD 0)) true).2 then zkr n (bump (dlv r k (tag (r.turn[k]?.getD 0)) true).1 k) k else (dlv r k (tag (r.turn[k]?.getD 0)) true).1
def turns (r:Receiver) (k:Nat):Receiver:=zkr (r.pieces.length+1) r k
theorem zrh (r:Receiver) (k:Nat):turns r k=if (dlv r k (tag (r.turn[k]?.getD 0)) true).2 then turns (bump (dlv r k (tag (r.turn[k]?.getD 0)) true).1 k) k else (dlv r k (tag (r.turn[k]?.getD 0)) true).1:=by
 have gen:∀ (n m:Nat) (r:Receiver),r.pieces.length < n -> r.pieces.length < m -> zkr n r k=zkr m r k:=by
  intro n
  induction n with
  | zero=>intro m r h;omega
  | succ n ih =>
   intro m r h1 h2
   cases m with
   | zero=>omega
   | succ m =>
    rw [zkr,zkr]
    split
    . rename_i hd
      have:=zkq hd
      exact ih m _ (by show (dlv r k _ true).1.pieces.length < n;omega) (by show (dlv r k _ true).1.pieces.length < m;omega)
    . rfl
 conv=>lhs;rw [turns,zkr]
 split
 . rename_i hd
   have:=zkq hd
   exact gen _ _ _ (by show (dlv r k _ true).1.pieces.length < _;omega) (by show (dlv r k _ true).1.pieces.length < _;exact Nat.lt_succ_self _)
 . rfl
structure TFit (r:Receiver) (k:Nat):Prop where
 pieces:r.pieces.length < 2 ^ 22
 bytes:tot r.pieces < 2 ^ 22
 log:r.log.length+r.pieces.length < 2 ^ 37
 has:k < r.turn.length
 lo:-(2 ^ 60) < r.turn[k]?.getD 0
 hi:r.turn[k]?.getD 0+r.pieces.length < 2 ^ 60
theorem ykb (r:Receiver) (k:Nat) (hf:TFit r k) :
 FunOK Tryz.prog 182 [.ptr 1000 0,i64 k] (lk .free (tkH r)) (.tup []) (lk .free (tkD (turns r k))):=by
 generalize hT:turns r k=T
 refine zaj mixed Tryz.func182 (by decide) [1000,1001,1002,1003,1004] zav ?_
 conv=>whnf
 refine ⟨{ x:Receiver // TFit x k /\ turns x k=T },fun | ⟨x,_⟩=>hsP [1000,1001,1002,1003,1004] 26 [(0,.ptr 1000 0),(1,i64 k)] ((1000,.live (.cells 225 (rcvC x (.own 900) (.own 901) (.own 902) (.own 903)))) :: rcvB x 900 901 902 903 [(1001,.dead),(1002,.dead),(1003,.dead),(1004,.dead)]),fun x=>x.1.pieces.length,⟨r,hf,hT⟩,?_,?_⟩
 . exact (hle_P (pK5 [(900,some 1001),(901,some 1002),(902,some 1003),(903,some 1004)]))
 rintro ⟨x,⟨h1,h2,h3,h4,h5,h6⟩,he⟩
 conv=>whnf
 refine sO ?_
 refine zcd k rfl h4 ?_;conv=>whnf
 have hg:x.turn[k]?.getD 0=x.turn[k]:=by simp [h4]
 (refine cL ?_;refine dL (zbw _) ?_)
 have hstep:=zrh x k
 rw [he,hg] at hstep
 rw [hg] at h5 h6
 obtain ⟨k1,k2,k3,k4,k5,k6,k7⟩:=zgo x k (tag x.turn[k]) true
 have hless:(dlv x k (tag x.turn[k]) true).2=true -> (dlv x k (tag x.turn[k]) true).1.pieces.length < x.pieces.length:=fun h=>zkq h
 (refine zab [] [(1000,1000),(1001,900),(1002,901),(1003,902),(1004,903)] [(0,910),(1,911),(2,912),(3,913)] ?_;(conv=>whnf);refine dG (zid x k (tag x.turn[k]) true (by omega) (by omega) (by omega)) ?_)
 generalize hD:dlv x k (tag x.turn[k]) true=D at *
 obtain ⟨y,ok⟩:=D
 dsimp only at k1 k2 k3 k4 k5 k6 k7 hless hstep
 have h4':k < y.turn.length:=by rw [k1];exact h4
 have hyk:y.turn[k]=x.turn[k]:=by simp only [k1]
 cases ok with
 | false =>
  have hstep:T=y:=hstep
  subst hstep
  conv=>whnf
  try (refine hcut.go ?_;conv=>whnf)
  (exact zbh (pK5 [(0,some 910),(1,some 911),(2,some 912),(3,some 913)]))
 | true =>
  have hless:=hless rfl
  conv=>whnf
  try (refine hcut.go ?_;conv=>whnf)
  refine sO ?_
  refine zcd k rfl h4' ?_;conv=>whnf
  rw [hyk]
  refine sF ?_
  refine sO ?_
  refine zcd k rfl h4' ?_;conv=>whnf
  have hb:(bump y k).turn[k]?.getD 0=x.turn[k]+1:=by
   show (y.turn.set k (y.turn[k]?.getD 0+1))[k]?.getD 0=_
   rw [List.getElem?_set_self h4',List.getElem?_eq_getElem h4',hyk];rfl
  refine ⟨⟨bump y k,⟨by show y.pieces.length < _;omega,by show tot y.pieces < _;omega,by show y.log.length+y.pieces.length < _;omega,by show k < (y.turn.set k _).length;rw [List.length_set];exact h4',by rw [hb];omega,by rw [hb];show _+(y.pieces.length:Int) < _;omega⟩,?_⟩,(hle_Y (pK5 [(900,some 910),(901,some 911),(902,some 912),(903,some 913)]) (by repeat' (first | exact z0 | refine z1 ?_ | refine ⟨?_,?_⟩ | ((refine zal ?_;show _=(y.turn.set k (y.turn[k]?.getD 0+1)).map _;rw [List.map_set,List.getElem?_eq_getElem h4',hyk];rfl)) | exact z2))),by show y.pieces.length < x.pieces.length;omega⟩
  rw [hstep];rfl
end Rcv
end Go.HL
namespace Go.HL
open Go.Proofs
namespace Rcv
open Srt Jn Ser
set_option maxHeartbeats 4000000
set_option maxRecDepth 100000
set_option linter.unusedSimpArgs false
theorem zpb (r:Receiver) (k:Nat) (z:Int) (hz:z=k) (hf:TFit r k) :
 FunOK Tryz.prog 182 [.ptr 1000 0,i64 z] (lk .free (tkH r)) (.tup []) (lk .free (tkD (turns r k))):=by
 subst hz;exact ykb r k hf
structure Takes (r:Receiver) (c:Chunk) (n:Int):Prop where
 kind:c.kind=1
 low:0 <= c.stream
 high:c.stream < r.turn.length
 above:r.cum < n
 fresh:has r.spans n=false
 room:n=r.cum+1 \/ (tot r.pieces:Int)+c.data.length <= 400
def put (r:Receiver) (c:Chunk):Receiver :=
 { r with pieces:=r.pieces++[⟨near r.cum c.tag,c⟩],cum:=(up (add r.spans (near r.cum c.tag)) r.cum).1,spans:=(up (add r.spans (near r.cum c.tag)) r.cum).2 }
instance ysi (r:Receiver) (c:Chunk) (n:Int):Decidable (Takes r c n) :=
 decidable_of_iff (c.kind=1 /\ 0 <= c.stream /\ c.stream < r.turn.length /\ r.cum < n /\ has r.spans n=false /\ (n=r.cum+1 \/ (tot r.pieces:Int)+c.data.length <= 400)) ⟨fun ⟨a,b,d,e,f,g⟩=>⟨a,b,d,e,f,g⟩,fun ⟨a,b,d,e,f,g⟩=>⟨a,b,d,e,f,g⟩⟩
def data (r:Receiver) (c:Chunk):Receiver:=if Takes r c (near r.cum c.tag) then (if c.ordered then turns (put r c) c.stream.toNat else (dlv (put r c) c.stream c.mid false).1) else r
structure DFit (r:Receiver) (c:Chunk):Prop where
 fit:Fit r
 rise:rise r.spans
 hi:∀ s ∈ r.spans,s.hi <= 2 ^ 39
 cum1:-(2 ^ 39) <= r.cum
 cum2:r.cum <= 2 ^ 39
 turn:∀ t ∈ r.turn,-(2 ^ 59) < t /\ t < 2 ^ 59
 data:c.data.length < 2 ^ 21
 more:tot r.pieces < 2 ^ 21
 many:r.pieces.length < 2 ^ 21
theorem ykc {l:List Span} {n M:Int} (h:Ser.rise l) (h1:-9223372036854775808 <= n) (h2:n <= 9223372036854775807) (hl:∀ s ∈ l,s.hi <= M) (hn:n <= M):∀ s ∈ add l n,s.hi <= M:=by
 obtain ⟨r1,r2⟩:=ztp h h1 h2
 intro s hs
 have h3:=(zfs r1 s hs).1
 have h4:has (add l n) s.hi=true:=zic.2 ⟨s,hs,h3,Int.le_refl _⟩
 rw [r2,Bool.or_eq_true] at h4
 rcases h4 with h4 | h4
 . obtain ⟨t,ht,_,h5⟩:=zic.1 h4
   have:=hl t ht;omega
 . have:s.hi=n:=by simpa using h4
   omega
theorem yde (l:List Span) (n:Int):(add l n).length <= l.length+1:=by
 unfold add
 split
 . omega
 . have h1:(cutL n (below l n)).1.length <= (below l n).length:=by
    unfold cutL;split
    . split
      . simp
      . exact Nat.le_refl _
    . exact Nat.le_refl _
   have h2:(cutR n (above l n)).2.length <= (above l n).length:=by
    cases above l n with
    | nil=>exact Nat.le_refl _
    | cons t r=>simp only [cutR];split <;> simp
   have h3:l.length=(below l n).length+(above l n).length:=by
    conv=>lhs;rw [split l n]
    exact List.length_append
   simp only [List.length_append,List.length_cons];omega
theorem ykd (r:Receiver) (c:Chunk) (hf:DFit r c):FunOK Tryz.prog 152 [r.hv,c.hv] zac (rcvO (data r c) 0 1 2 3) (lk .free (rcvB (data r c) 0 1 2 3 [])):=by
 obtain ⟨h1,h2,h3,h4,h5,h6,h7,h8,h9⟩:=hf
 obtain ⟨n1,n2,n3⟩:=zhx (a:=r.cum) (t:=c.tag) (by omega) (by omega)
 generalize hD:data r c=D
 refine zaj mixed Tryz.func152 (by decide) [] (fun _=>.inl rfl) ?_
 conv=>whnf
 (refine zam [(0,910),(1,911),(2,912),(3,913)]  ?_;(conv=>whnf);refine dO (zbx r h1) ?_)
 (refine cL ?_;refine dL (zgf r.cum c.tag) ?_)
 have no:¬ Takes r c (near r.cum c.tag) -> D=r:=fun h=>by rw [<- hD,data,if_neg h]
 by_cases c1:c.kind=1
 case neg =>
  obtain rfl:=no fun h=>c1 h.1
  refine zaf (by simpa using c1) ?_;conv=>whnf
  refine sD ?_
  (exact zbh [(0,some 910),(1,some 911),(2,some 912),(3,some 913)])
 refine zad (by simp [c1]) ?_;conv=>whnf
 by_cases c2:c.stream < 0
 . obtain rfl:=no fun h=>by have:=h.2;omega
   refine zaf (by simpa using c2) ?_;conv=>whnf
   refine sD ?_
   (exact zbh [(0,some 910),(1,some 911),(2,some 912),(3,some 913)])
 refine zad (by simpa using c2) ?_;conv=>whnf
 by_cases c3:c.stream >= r.turn.length
 . obtain rfl:=no fun h=>by have:=h.3;omega
   refine zaf (by simpa using c3) ?_;conv=>whnf
   refine sD ?_
   (exact zbh [(0,some 910),(1,some 911),(2,some 912),(3,some 913)])
 refine zad (by simpa using c3) ?_;conv=>whnf
 by_cases c4:near r.cum c.tag <= r.cum
 . obtain rfl:=no fun h=>by have:=h.4;omega
   refine zaf (by simpa using c4) ?_;conv=>whnf
   refine sD ?_
   (exact zbh [(0,some 910),(1,some 911),(2,some 912),(3,some 913)])
 refine zad (by simpa using c4) ?_;conv=>whnf
 (refine cL ?_;refine dL (ycd r.spans (near r.cum c.tag) (by have:=h1.spans;omega)) ?_)
 cases c5:has r.spans (near r.cum c.tag) with
 | true =>
  obtain rfl:=no fun h=>by have:=h.5;rw [c5] at this;cases this
  conv=>whnf
  refine sD ?_
  (exact zbh [(0,some 910),(1,some 911),(2,some 912),(3,some 913)])
 | false =>
 conv=>whnf
 refine sF ?_
 have g1:=h1.spans
 have g2:=h1.log
 have rest:Takes r c (near r.cum c.tag) -> D=if c.ordered then turns (put r c) c.stream.toNat else (dlv (put r c) c.stream c.mid false).1:=fun h=>by rw [<- hD,data,if_pos h]
 have hput:tot (put r c).pieces=tot r.pieces+c.data.length:=by show tot (r.pieces++[_])=_;rw [zoz,zds];rfl
 have hpl:(put r c).pieces.length=r.pieces.length+1:=by show (r.pieces++[_]).length=_;simp
 have hadd:=ykc (n:=near r.cum c.tag) (M:=1099511627776) h2 (by omega) (by omega) (fun s hs=>by have:=h3 s hs;omega) (by omega)
 have hal:=yde r.spans (near r.cum c.tag)
 by_cases c6:near r.cum c.tag=r.cum+1
 case' pos =>
  have ok:Takes r c (near r.cum c.tag):=⟨c1,by omega,by omega,by omega,c5,.inl c6⟩
  refine zad (by simpa using c6) ?_;conv=>whnf
  ((refine zau ?_ ?_;(· kernel_rfl);conv=>whnf);try (refine hcut.go ?_;conv=>whnf))
 case' neg =>
  refine zaf (by simpa using c6) ?_;conv=>whnf
  (refine cL ?_;refine dL (zxa r (by omega) (by omega)) ?_)
  refine sF ?_
  by_cases c7:(tot r.pieces:Int)+c.data.length > 400
  case pos =>
   obtain rfl:=no fun h=>by have:=h.6;omega
   refine sD ?_
   refine zaf (by simpa using c7) ?_;conv=>whnf
   try (refine hcut.go ?_;conv=>whnf)
   (exact zbh [(0,some 910),(1,some 911),(2,some 912),(3,some 913)])
  have ok:Takes r c (near r.cum c.tag):=⟨c1,by omega,by omega,by omega,c5,.inr (by omega)⟩
  refine sD ?_
  refine zad (by simpa using c7) ?_;conv=>whnf
  try (refine hcut.go ?_;conv=>whnf)
 all_goals (
  have rest:=rest ok
  (refine zam [(0,66)]  ?_;(conv=>whnf);refine dO (Cl.zbv c.data (by omega)) ?_)
  refine zaa (c:=((r.pieces.map Piece.row).length+1) * 136 <= 140737488355328) (by simp;omega) ?_;conv=>whnf
  refine sD ?_
  (refine zam [(0,88)]  ?_;(conv=>whnf);refine dO (ymz r.spans (near r.cum c.tag) h2 (by omega) (by omega) (by omega)) ?_)
  (refine zam [(0,92)]  ?_;(conv=>whnf);refine dO (yjz (add r.spans (near r.cum c.tag)) r.cum hadd (by omega) (by omega) (by omega)) ?_)
  refine sD ?_
  obtain ⟨k,hk⟩:∃ k:Nat,c.stream=k:=⟨c.stream.toNat,by omega⟩
  have hkl:k < r.turn.length:=by omega
  have htk:(put r c).turn[k]?.getD 0=r.turn[k]:=by show r.turn[k]?.getD 0=_;rw [List.getElem?_eq_getElem hkl];rfl
  have htb:=h6 _ (List.getElem_mem hkl)
  refine zae (fun ho=>?_) (fun ho=>?_)
  . rw [if_pos ho,show c.stream.toNat=k by omega] at rest
    subst rest
    conv=>whnf
    (refine zab [] [(1000,10),(1001,92),(1002,78),(1003,912),(1004,913)] [(0,920),(1,921),(2,922),(3,923)] ?_;(conv=>whnf);refine dG (zpb (put r c) k _ hk ⟨by omega,by omega,by show r.log.length+_ < _;omega,hkl,by rw [htk];omega,by rw [htk];omega⟩) ?_ ⟨rfl,rfl,rfl,⟨⟨rfl,_,rfl,.inl ⟨rfl,rfl⟩⟩,⟨⟨rfl,_,rfl,.inl ⟨rfl,rfl⟩⟩,⟨⟨rfl,_,rfl,.inl ⟨rfl,zbj (f:=Piece.row) (x:=⟨near r.cum c.tag,c⟩) rfl rfl⟩⟩,⟨⟨rfl,_,rfl,.inl ⟨rfl,rfl⟩⟩,⟨⟨rfl,_,rfl,.inl ⟨rfl,rfl⟩⟩,trivial⟩⟩⟩⟩⟩,⟨⟨rfl,rfl⟩,⟨⟨rfl,rfl⟩,⟨⟨rfl,rfl⟩,⟨⟨rfl,rfl⟩,trivial⟩⟩⟩⟩,rfl,rfl,rfl⟩)
    (exact zbh [(0,some 920),(1,some 921),(2,some 922),(3,some 923)])
  . rw [if_neg (by rw [ho];decide)] at rest
    subst rest
    conv=>whnf
    (refine zab [] [(1000,10),(1001,92),(1002,78),(1003,912),(1004,913)] [(0,920),(1,921),(2,922),(3,923)] ?_;(conv=>whnf);refine dG (zid (put r c) c.stream c.mid false (by omega) (by omega) (by show r.log.length < _;omega)) ?_ ⟨rfl,rfl,rfl,⟨⟨rfl,_,rfl,.inl ⟨rfl,rfl⟩⟩,⟨⟨rfl,_,rfl,.inl ⟨rfl,rfl⟩⟩,⟨⟨rfl,_,rfl,.inl ⟨rfl,zbj (f:=Piece.row) (x:=⟨near r.cum c.tag,c⟩) rfl rfl⟩⟩,⟨⟨rfl,_,rfl,.inl ⟨rfl,rfl⟩⟩,⟨⟨rfl,_,rfl,.inl ⟨rfl,rfl⟩⟩,trivial⟩⟩⟩⟩⟩,⟨⟨rfl,rfl⟩,⟨⟨rfl,rfl⟩,⟨⟨rfl,rfl⟩,⟨⟨rfl,rfl⟩,trivial⟩⟩⟩⟩,rfl,rfl,rfl⟩)
    (exact zbh [(0,some 920),(1,some 921),(2,some 922),(3,some 923)]))
def shift (c:Int) (s:Span):Span:=⟨s.lo - c,s.hi - c⟩
def tells (r:Receiver):Chunk:=⟨2,tag r.cum,0,0,0,false,false,[],(r.spans.take 6).map (shift r.cum),(if 0 > 400 - (tot r.pieces:Int) then 0 else 400 - (tot r.pieces:Int)),[]⟩
theorem yfu {α:Type} (A:List α) (x:α) (f:α -> α):((A++[x]).take 6).map f=if A.length < 6 then (A.take 6).map f++[f x] else (A.take 6).map f:=by
 split
 . rename_i h
   rw [List.take_of_length_le (by simp;omega),List.take_of_length_le (by omega)];simp
 . rename_i h
   rw [List.take_append_of_le_length (by omega)]
abbrev tellC (r:Receiver) (v:HV):List HV:=[i64 2,i64 (tells r).tag,i64 0,i64 0,i64 0,hbool false,hbool false,hnil,v,i64 (tells r).room,hnil]
theorem yke (r:Receiver) (h1:r.spans.length < 2 ^ 40) (h2:r.pieces.length < 2 ^ 40) (h3:tot r.pieces < 2 ^ 60) (hc:-(2 ^ 60) <= r.cum) (hc2:r.cum <= 2 ^ 60) (hsp:∀ s ∈ r.spans,-(2 ^ 61) <= s.lo /\ s.lo <= 2 ^ 61 /\ -(2 ^ 61) <= s.hi /\ s.hi <= 2 ^ 61) :
 FunOK Tryz.prog 154 [r.hv] zac (.agg (tellC r (.own 0))) (lk .free [(0,rowS (tells r).spans)]):=by
 refine zaj mixed Tryz.func154 (by decide) [] (fun _=>.inl rfl) ?_
 conv=>whnf
 (refine cL ?_;refine dL (zbw r.cum) ?_)
 (refine cL ?_;refine dL (zxa r (by omega) (by omega)) ?_)
 refine sF ?_
 refine sD ?_
 refine ⟨{ x:List Span × List Span // r.spans=x.1++x.2 },fun | ⟨(A,B),_⟩=>hs 43 [(1,.ptr 1 0),(2,.ptr 2 0),(3,.ptr 3 0),(15,spans r.spans),(16,i64 r.spans.length),(17,i64 A.length)] [(1,.live (.cells 37 (rcvC r (spans r.spans) (pieces r.pieces) (.p (.sl 1 (r.turn.map fun n=>[pi n]))) (.p (.sl 4 (r.log.map Arrival.row)))))),(2,.live (.cells 61 [i64 0,i64 0,i64 0,i64 0,i64 0,hbool false,hbool false,hnil,hnil,i64 0,hnil])),(3,.live (.cells 61 (tellC r (.own 900)))),(900,rowS ((A.take 6).map (shift r.cum)))],fun x=>x.1.2.length,⟨([],r.spans),rfl⟩,?_,?_⟩
 . exact (hle_Q [(1,some 1),(2,some 2),(3,some 3),(900,none)])
 rintro ⟨⟨A,B⟩,h⟩
 dsimp only at h
 have hl:r.spans.length=A.length+B.length:=by rw [h];simp
 conv=>whnf
 cases B with
 | cons p B =>
  have hp:=hsp p (by rw [h];simp)
  rw [List.length_cons] at hl
  have hq:((A.take 6).map (shift r.cum)).length=min 6 A.length:=by simp
  refine sT ?_
  refine zah h rfl ?_;conv=>whnf
  have hsn:=yfu A p (shift r.cum)
  by_cases c:A.length < 6
  . rw [if_pos c] at hsn
    refine sT ?_
    refine sF ?_
    refine sF ?_
    refine zaa (c:=((((A.take 6).map (shift r.cum)).map Span.row).length+1) * 16 <= 140737488355328) (by simp;omega) ?_;conv=>whnf
    try (refine hcut.go ?_;conv=>whnf)
    refine sF ?_
    refine ⟨⟨(A++[p],B),by rw [h];simp⟩,(hle_X [(1,some 1),(2,some 2),(3,some 3),(900,some 39)] (by repeat' (first | exact z0 | refine z1 ?_ | refine ⟨?_,?_⟩ | ((exact zbj (f:=Span.row) hsn rfl)) | exact z2))),by simp⟩
  . rw [if_neg c] at hsn
    refine sN ?_
    refine sF ?_
    refine ⟨⟨(A++[p],B),by rw [h];simp⟩,(hle_X [(1,some 1),(2,some 2),(3,some 3),(900,some 900)] (by repeat' (first | exact z0 | refine z1 ?_ | refine ⟨?_,?_⟩ | ((exact zal (by rw [hsn]))) | exact z2))),by simp⟩
 | nil =>
  rw [List.length_nil] at hl
  rw [List.append_nil] at h
  refine sN ?_
  (exact zby [(0,some 900)] (by repeat' (first | exact z0 | refine z1 ?_ | refine ⟨?_,?_⟩ | ((exact zal (by rw [<- h];rfl))) | exact z2)))
end Rcv
end Go.HL
namespace Go.HL
open Go.Proofs
namespace Rcv
open Srt Jn Ser
set_option maxHeartbeats 4000000
set_option maxRecDepth 100000
set_option linter.unusedSimpArgs false
def pass (r:Receiver) (k:Nat):Receiver:=bump (if (dlv r k (tag (r.turn[k]?.getD 0)) true).2 then (dlv r k (tag (r.turn[k]?.getD 0)) true).1 else dropR (dlv r k (tag (r.turn[k]?.getD 0)) true).1 k (tag (r.turn[k]?.getD 0)) true) k
def passes:Nat -> Receiver -> Nat -> Receiver
 | 0,r,_=>r
 | n+1,r,k=>passes n (pass r k) k
def upto (r:Receiver) (k:Nat) (n:Int):Receiver:=passes (n+1 - r.turn[k]?.getD 0).toNat r k
def skip1 (r:Receiver) (s:Skip):Receiver :=
 if s.stream < 0 \/ (r.turn.length:Int) <= s.stream then r else if s.ordered=false then dropR r s.stream s.mid false
 else turns (upto r s.stream.toNat (near (r.turn[s.stream.toNat]?.getD 0) s.mid)) s.stream.toNat
structure SFit (r:Receiver):Prop where
 pieces:r.pieces.length < 2 ^ 22
 bytes:tot r.pieces < 2 ^ 22
 log:r.log.length+r.pieces.length < 2 ^ 37
 lo:∀ t ∈ r.turn,-(2 ^ 57) < t
 hi:∀ t ∈ r.turn,t < 2 ^ 57
theorem ziu (r:Receiver) (k:Nat):(pass r k).turn=r.turn.set k (r.turn[k]?.getD 0+1) /\ (pass r k).cum=r.cum /\ (pass r k).spans=r.spans /\ (pass r k).config=r.config /\ (pass r k).pieces.length <= r.pieces.length /\ tot (pass r k).pieces <= tot r.pieces /\
 (pass r k).log.length+(pass r k).pieces.length <= r.log.length+r.pieces.length:=by
 obtain ⟨h1,h2,h3,h4,h5,h6,h7⟩:=zgo r k (tag (r.turn[k]?.getD 0)) true
 unfold pass
 generalize dlv r k (tag (r.turn[k]?.getD 0)) true=D at *
 obtain ⟨y,ok⟩:=D
 dsimp only at h1 h2 h3 h4 h5 h6 h7 ⊢
 cases ok with
 | true=>exact ⟨by show y.turn.set _ (y.turn[k]?.getD 0+1)=_;rw [h1],h2,h3,h4,h5,h6,h7⟩
 | false =>
  have f1:=List.length_filter_le (fun p=>!mine k (tag (r.turn[k]?.getD 0)) true p) y.pieces
  have f2:=zit (fun p=>!mine k (tag (r.turn[k]?.getD 0)) true p) y.pieces
  refine ⟨by show y.turn.set _ (y.turn[k]?.getD 0+1)=_;rw [h1],h2,h3,h4,?_,?_,?_⟩
  . show (List.filter _ _).length <= _;omega
  . show tot (List.filter _ _) <= _;omega
  . show _+(List.filter _ _).length <= _;show y.log.length+_ <= _;omega
theorem ykf {r:Receiver} {k:Nat} {n:Int} (h:k < r.turn.length) (hn:r.turn[k]?.getD 0 <= n):upto r k n=upto (pass r k) k n:=by
 obtain ⟨h1,_⟩:=ziu r k
 unfold upto
 rw [h1,List.getElem?_set_self h]
 show passes _ _ _=passes (n+1 - (r.turn[k]?.getD 0+1)).toNat _ _
 obtain ⟨j,hj⟩:∃ j,(n+1 - r.turn[k]?.getD 0).toNat=j+1:=⟨(n+1 - r.turn[k]?.getD 0).toNat - 1,by omega⟩
 rw [hj,passes,show (n+1 - (r.turn[k]?.getD 0+1)).toNat=j by omega]
theorem yna {r:Receiver} {k:Nat} {n:Int} (hn:n < r.turn[k]?.getD 0):upto r k n=r:=by
 unfold upto
 rw [show (n+1 - r.turn[k]?.getD 0).toNat=0 by omega];rfl
theorem zoi (r:Receiver) (s:Skip) (hf:SFit r) :
 FunOK Tryz.prog 184 [.ptr 1000 0,s.hv] (lk .free (tkH r)) (.tup []) (lk .free (tkD (skip1 r s))):=by
 obtain ⟨f1,f2,f3,f4,f5⟩:=hf
 generalize hT:skip1 r s=T
 refine zaj mixed Tryz.func184 (by decide) [1000,1001,1002,1003,1004] zav ?_
 conv=>whnf
 by_cases c1:s.stream < 0
 . rw [skip1,if_pos (.inl c1)] at hT
   subst hT
   refine zaf (by simpa using c1) ?_;conv=>whnf
   refine sD ?_
   (exact zbh (pK5 [(0,some 1001),(1,some 1002),(2,some 1003),(3,some 1004)]))
 refine zad (by simpa using c1) ?_;conv=>whnf
 refine sD ?_
 by_cases c2:(r.turn.length:Int) <= s.stream
 . rw [skip1,if_pos (.inr c2)] at hT
   subst hT
   refine zaf (by simpa using c2) ?_;conv=>whnf
   (exact zbh (pK5 [(0,some 1001),(1,some 1002),(2,some 1003),(3,some 1004)]))
 refine zad (by simpa using c2) ?_;conv=>whnf
 cases hs3:s.ordered with
 | false =>
  rw [skip1,if_neg (by omega),if_pos hs3] at hT
  subst hT
  conv=>whnf
  try (refine hcut.go ?_;conv=>whnf)
  (refine zab [] [(1000,1000),(1001,1001),(1002,1002),(1003,1003),(1004,1004)] [(0,910),(1,911),(2,912),(3,913)] ?_;(conv=>whnf);refine dG (zpa r s.stream s.mid false (by omega)) ?_)
  (exact zbh (pK5 [(0,some 910),(1,some 911),(2,some 912),(3,some 913)]))
 | true =>
 rw [skip1,if_neg (by omega),if_neg (by rw [hs3];decide)] at hT
 obtain ⟨k,hk⟩:∃ k:Nat,s.stream=k:=⟨s.stream.toNat,by omega⟩
 have hkl:k < r.turn.length:=by omega
 have hg:r.turn[k]?.getD 0=r.turn[k]:=by simp [hkl]
 have b1:=f4 _ (List.getElem_mem hkl)
 have b2:=f5 _ (List.getElem_mem hkl)
 rw [show s.stream.toNat=k by omega,hg] at hT
 conv=>whnf
 try (refine hcut.go ?_;conv=>whnf)
 refine sO ?_
 refine zcd k (by omega) hkl ?_;conv=>whnf
 (refine cL ?_;refine dL (zgf r.turn[k] s.mid) ?_)
 refine sD ?_
 obtain ⟨n1,n2,n3⟩:=zhx (a:=r.turn[k]) (t:=s.mid) (by omega) (by omega)
 generalize near r.turn[k] s.mid=n at hT n1 n2 n3 ⊢
 refine ⟨{ x:Receiver // TFit x k /\ x.turn[k]?.getD 0 <= 2 ^ 58 /\ turns (upto x k n) k=T },fun | ⟨x,_⟩=>hsP [1000,1001,1002,1003,1004] 88 [(0,.ptr 1000 0),(3,.ptr 3 0),(4,i64 n)] ((1000,.live (.cells 225 (rcvC x (.own 900) (.own 901) (.own 902) (.own 903)))) :: rcvB x 900 901 902 903 [(3,.live (.cells 180 [i64 s.stream,i64 s.mid,hbool true])),(1001,.dead),(1002,.dead),(1003,.dead),(1004,.dead)]),fun x=>(n+1 - x.1.turn[k]?.getD 0).toNat,⟨r,⟨f1,f2,f3,hkl,by rw [hg];omega,by rw [hg];omega⟩,by rw [hg];omega,hT⟩,?_,?_⟩
 . exact (hle_P (pK5 ((900,some 1001) :: (901,some 1002) :: (902,some 1003) :: (903,some 1004) :: [(3,some 3)])))
 rintro ⟨x,⟨h1,h2,h3,h4,h5,h6⟩,h7,he⟩
 conv=>whnf
 refine sO ?_
 refine zcd k (by omega) h4 ?_;conv=>whnf
 refine sD ?_
 have hx:x.turn[k]?.getD 0=x.turn[k]:=by simp [h4]
 rw [hx] at h5 h6 h7
 by_cases c3:x.turn[k] <= n
 . rw [ykf h4 (by omega)] at he
   obtain ⟨k1,k2,k3,k4,k5,k6,k7⟩:=ziu x k
   rw [hx] at k1
   have hpas:pass x k=bump (if (dlv x k (tag x.turn[k]) true).2 then (dlv x k (tag x.turn[k]) true).1 else dropR (dlv x k (tag x.turn[k]) true).1 k (tag x.turn[k]) true) k:=by rw [pass,hx]
   obtain ⟨d1,d2,d3,d4,d5,d6,d7⟩:=zgo x k (tag x.turn[k]) true
   have hgt:(pass x k).turn[k]?.getD 0=x.turn[k]+1:=by rw [k1,List.getElem?_set_self h4];rfl
   have next:TFit (pass x k) k /\ (pass x k).turn[k]?.getD 0 <= 2 ^ 58 /\ turns (upto (pass x k) k n) k=T:=⟨⟨by omega,by omega,by omega,by rw [k1,List.length_set];exact h4,by rw [hgt];omega,by rw [hgt];omega⟩,by rw [hgt];omega,he⟩
   have less:(n+1 - (pass x k).turn[k]?.getD 0).toNat < (n+1 - x.turn[k]?.getD 0).toNat:=by rw [hgt,hx];omega
   refine sT ?_
   refine sO ?_
   refine zcd k (by omega) h4 ?_;conv=>whnf
   (refine cL ?_;refine dL (zbw _) ?_)
   refine sD ?_
   (refine zab [] [(1000,1000),(1001,900),(1002,901),(1003,902),(1004,903)] [(0,910),(1,911),(2,912),(3,913)] ?_;(conv=>whnf);refine dG (zid x s.stream (tag x.turn[k]) true (by omega) (by omega) (by omega)) ?_)
   rw [<- hk] at hpas d1 d2 d3 d4 d5 d6 d7
   have hbm:∀ (y:Receiver) (z:Int),y.turn=x.turn -> z=x.turn[k]+1 -> HSlot.live (.row 3 1 ((bump y k).turn.map fun n=>[pi n]))=HSlot.live (.row 3 1 ((y.turn.map fun n=>[pi n]).set s.stream.toNat [pi z])):=fun y z hy hz=>by
    refine zal ?_
    show (y.turn.set k (y.turn[k]?.getD 0+1)).map _=_
    rw [hy,hx,List.map_set,hz,show s.stream.toNat=k by omega]
   generalize dlv x s.stream (tag x.turn[k]) true=D at *
   obtain ⟨y,ok⟩:=D
   dsimp only at d1 d2 d3 d4 d5 d6 d7 hpas
   have h4y:k < y.turn.length:=by rw [d1];exact h4
   have hyk:y.turn[k]=x.turn[k]:=by simp only [d1]
   cases ok with
   | true =>
    have hpas:pass x k=bump y k:=hpas
    conv=>whnf
    try (refine hcut.go ?_;conv=>whnf)
    refine sO ?_
    refine zcd k (by omega) h4y ?_;conv=>whnf
    rw [hyk]
    refine sF ?_
    refine sO ?_
    refine zcd k (by omega) h4y ?_;conv=>whnf
    refine sD ?_
    rw [hpas] at next less
    refine ⟨⟨_,next⟩,(hle_Y (pK5 ((3,some 3) :: [(900,some 910),(901,some 911),(902,some 912),(903,some 913)])) (by repeat' (first | exact z0 | refine z1 ?_ | refine ⟨?_,?_⟩ | ((exact hbm y (x.turn[k]+1) d1 rfl)) | ((exact (hbm y (x.turn[k]+1) d1 rfl).symm)) | exact z2))),less⟩
   | false =>
    have hpas:pass x k=bump (dropR y s.stream (tag x.turn[k]) true) k:=by rw [hpas,hk];rfl
    conv=>whnf
    try (refine hcut.go ?_;conv=>whnf)
    (refine zab [] [(1000,1000),(1001,910),(1002,911),(1003,912),(1004,913)] [(0,920),(1,921),(2,922),(3,923)] ?_;(conv=>whnf);refine dG (zpa y s.stream (tag x.turn[k]) true (by omega)) ?_)
    have e1:(dropR y s.stream (tag x.turn[k]) true).turn=x.turn:=d1
    generalize dropR y s.stream (tag x.turn[k]) true=w at hpas e1 ⊢
    have h4w:k < w.turn.length:=by rw [e1];exact h4
    have hwk:w.turn[k]=x.turn[k]:=by simp only [e1]
    refine sO ?_
    refine zcd k (by omega) h4w ?_;conv=>whnf
    rw [hwk]
    refine sF ?_
    refine sO ?_
    refine zcd k (by omega) h4w ?_;conv=>whnf
    refine sD ?_
    rw [hpas] at next less
    refine ⟨⟨_,next⟩,(hle_Y (pK5 ((3,some 3) :: [(900,some 920),(901,some 921),(902,some 922),(903,some 923)])) (by repeat' (first | exact z0 | refine z1 ?_ | refine ⟨?_,?_⟩ | ((exact hbm w (x.turn[k]+1) e1 rfl)) | ((exact (hbm w (x.turn[k]+1) e1 rfl).symm)) | exact z2))),less⟩
 . rw [yna (by omega)] at he
   subst he
   refine sN ?_
   (refine zab [] [(1000,1000),(1001,900),(1002,901),(1003,902),(1004,903)] [(0,910),(1,911),(2,912),(3,913)] ?_;(conv=>whnf);refine dG (zpb x k _ hk ⟨h1,h2,h3,h4,by omega,by omega⟩) ?_ ⟨rfl,rfl,rfl,⟨⟨rfl,_,rfl,.inl ⟨rfl,rfl⟩⟩,⟨⟨rfl,_,rfl,.inl ⟨rfl,rfl⟩⟩,⟨⟨rfl,_,rfl,.inl ⟨rfl,rfl⟩⟩,⟨⟨rfl,_,rfl,.inl ⟨rfl,rfl⟩⟩,⟨⟨rfl,_,rfl,.inl ⟨rfl,rfl⟩⟩,trivial⟩⟩⟩⟩⟩,⟨⟨rfl,rfl⟩,⟨⟨rfl,rfl⟩,⟨⟨rfl,rfl⟩,⟨⟨rfl,rfl⟩,trivial⟩⟩⟩⟩,rfl,rfl,rfl⟩)
   (exact zbh (pK5 [(0,some 910),(1,some 911),(2,some 912),(3,some 913)]))
end Rcv
end Go.HL
namespace Go.HL
open Go.Proofs
namespace Rcv
open Srt Jn Ser
set_option maxHeartbeats 1000000
set_option linter.unusedSimpArgs false
theorem zxb {n:Nat}:∀ {S:List Piece} {i:Nat} {b:List UInt8},joinL n i S=some b -> b.length=tot S
 | [],_,_,h=>by rw [joinL] at h;cases h;rfl
 | p :: r,i,b,h=>by
  rw [joinL] at h
  split at h
  . obtain ⟨d,hd,rfl⟩:=Option.map_eq_some_iff.1 h
    rw [List.length_append,zds,zxb hd]
  . cases h
theorem ynb {l:List Piece} {b:List UInt8} (h:join l=some b):b.length=tot l:=by
 unfold join at h
 split at h
 . cases h
 . rw [zxb h,yda zgy]
def logs (l:List Arrival):Nat:=(l.map fun a=>a.data.length).sum
theorem ydf (a b:List Arrival):logs (a++b)=logs a+logs b:=by simp [logs]
theorem ync {l:List Arrival} {a:Arrival} (h:a ∈ l):a.data.length <= logs l:=by
 obtain ⟨x,y,rfl⟩:=List.append_of_mem h
 rw [ydf]
 simp [logs];omega
structure Goes (r r':Receiver) (d:Nat):Prop where
 len:r'.turn.length=r.turn.length
 cum:r'.cum=r.cum
 spans:r'.spans=r.spans
 config:r'.config=r.config
 pieces:r'.pieces.length <= r.pieces.length
 bytes:tot r'.pieces <= tot r.pieces
 log:r'.log.length+r'.pieces.length <= r.log.length+r.pieces.length
 mass:logs r'.log+tot r'.pieces <= logs r.log+tot r.pieces
 pre:r.log <+: r'.log
 lo:∀ L:Int,(∀ t ∈ r.turn,L < t) -> ∀ t ∈ r'.turn,L < t
 hi:∀ T:Int,(∀ t ∈ r.turn,t+r.pieces.length <= T) -> ∀ t ∈ r'.turn,t+r'.pieces.length <= T+d
theorem Goes.refl (r:Receiver):Goes r r 0:=⟨rfl,rfl,rfl,rfl,Nat.le_refl _,Nat.le_refl _,Nat.le_refl _,Nat.le_refl _,List.prefix_refl _,fun _ h=>h,fun T h t ht=>by have:=h t ht;omega⟩
theorem Goes.trans {a b c:Receiver} {d e:Nat} (h:Goes a b d) (k:Goes b c e):Goes a c (d+e):=by
 obtain ⟨a1,a2,a3,a4,a5,a6,a7,a8,a9,a10,a11⟩:=h
 obtain ⟨b1,b2,b3,b4,b5,b6,b7,b8,b9,b10,b11⟩:=k
 exact ⟨b1.trans a1,b2.trans a2,b3.trans a3,b4.trans a4,by omega,by omega,by omega,by omega,a9.trans b9,fun L h=>b10 L (a10 L h),fun T h t ht=>by have:=b11 (T+d) (a11 T h) t ht;omega⟩
theorem Goes.more {a b:Receiver} {d e:Nat} (h:Goes a b d) (k:d <= e):Goes a b e:={ h with hi:=fun T ht t hm=>by have:=h.hi T ht t hm;omega }
theorem ynd {l:List Piece} (f:Piece -> Bool):(l.filter fun p=>!f p).length+(l.filter f).length=l.length:=by
 induction l with
 | nil=>rfl
 | cons p l ih =>
  rw [List.filter_cons,List.filter_cons]
  cases f p <;> simp <;> omega
theorem ydg {l:List Piece} (f:Piece -> Bool):tot (l.filter fun p=>!f p)+tot (l.filter f)=tot l:=by
 induction l with
 | nil=>rfl
 | cons p l ih =>
  rw [List.filter_cons,List.filter_cons]
  cases f p <;> simp [zds] <;> omega
theorem zxc (r:Receiver) (s m:Int) (o:Bool):Goes r (dropR r s m o) 0:=by
 have h1:=ynd (l:=r.pieces) (mine s m o)
 have h2:=ydg (l:=r.pieces) (mine s m o)
 refine ⟨rfl,rfl,rfl,rfl,?_,?_,?_,?_,List.prefix_refl _,fun _ h=>h,fun T h t ht=>?_⟩
 . show (r.pieces.filter fun p=>!mine s m o p).length <= _;omega
 . show tot (r.pieces.filter fun p=>!mine s m o p) <= _;omega
 . show _+(r.pieces.filter fun p=>!mine s m o p).length <= _;show r.log.length+_ <= _;omega
 . show _+tot (r.pieces.filter fun p=>!mine s m o p) <= _;show logs r.log+_ <= _;omega
 . have:=h t ht
   show t+((r.pieces.filter fun p=>!mine s m o p).length:Int) <= _;omega
theorem zts (r:Receiver) (s m:Int) (o:Bool):Goes r (dlv r s m o).1 0:=by
 obtain ⟨a1,a2,a3,a4,a5,a6,a7⟩:=zgo r s m o
 refine ⟨by rw [a1],a2,a3,a4,a5,a6,a7,?_,?_,fun L h=>by rw [a1];exact h,fun T h t ht=>by rw [a1] at ht;have:=h t ht;omega⟩
 . unfold dlv
   split
   . exact Nat.le_refl _
   . rename_i b hj
     have h1:=ynb hj
     have h2:=ydg (l:=r.pieces) (mine s m o)
     show logs (r.log++[_])+tot (r.pieces.filter fun p=>!mine s m o p) <= _
     rw [ydf]
     simp only [logs,List.map_cons,List.map_nil,List.sum_cons,List.sum_nil] at *
     omega
 . unfold dlv
   split
   . exact List.prefix_refl _
   . exact List.prefix_append _ _
theorem yaa {l:List Int} {k:Nat} {t:Int} (h:t ∈ l.set k (l[k]?.getD 0+1)):t ∈ l \/ (t - 1 ∈ l):=by
 by_cases hk:k < l.length
 . rcases List.mem_or_eq_of_mem_set h with h | h
   . exact .inl h
   . right
     rw [h,List.getElem?_eq_getElem hk]
     simp only [Option.getD_some]
     rw [show l[k]+1 - 1=l[k] by omega]
     exact List.getElem_mem hk
 . rw [List.set_eq_of_length_le (by omega)] at h
   exact .inl h
theorem zpc (r:Receiver) (k:Nat):Goes r (bump r k) 1:=by
 refine ⟨by show (r.turn.set k _).length=_;rw [List.length_set],rfl,rfl,rfl,Nat.le_refl _,Nat.le_refl _,Nat.le_refl _,Nat.le_refl _,List.prefix_refl _,fun L h t ht=>?_,fun T h t ht=>?_⟩
 . rcases yaa ht with h1 | h1
   . exact h t h1
   . have:=h _ h1;omega
 . show t+(r.pieces.length:Int) <= _
   rcases yaa ht with h1 | h1
   . have:=h t h1;omega
   . have:=h _ h1;omega
theorem yfv {r x:Receiver} (k:Nat) (h:Goes r x 0) (hl:x.pieces.length < r.pieces.length) (ht:x.turn=r.turn):Goes r (bump x k) 0:=by
 have h1:=h.trans (zpc x k)
 refine { h1 with hi:=fun T hT t htm=>?_ }
 show t+(x.pieces.length:Int) <= _
 rcases yaa htm with h2 | h2
 . rw [ht] at h2;have:=hT t h2;omega
 . rw [ht] at h2;have:=hT _ h2;omega
theorem zln:∀ (n:Nat) (r:Receiver) (k:Nat),r.pieces.length < n -> Goes r (turns r k) 0
 | 0,r,k,h=>by omega
 | n+1,r,k,h=>by
  rw [zrh]
  have h1:=zts r k (tag (r.turn[k]?.getD 0)) true
  split
  . rename_i hd
    have h2:=zkq hd
    have h3:=yfv k h1 h2 (zgo r k (tag (r.turn[k]?.getD 0)) true).1
    exact h3.trans (zln n _ k (by show (dlv r k (tag (r.turn[k]?.getD 0)) true).1.pieces.length < n;omega))
  . exact h1
theorem ykg (r:Receiver) (k:Nat):Goes r (pass r k) 1:=by
 have h1:=zts r k (tag (r.turn[k]?.getD 0)) true
 unfold pass
 split
 . exact h1.trans (zpc _ _)
 . exact (h1.trans (zxc _ _ _ _)).trans (zpc _ _)
theorem zpd:∀ (n:Nat) (r:Receiver) (k:Nat),Goes r (passes n r k) n
 | 0,r,_=>Goes.refl r
 | n+1,r,k=>((ykg r k).trans (zpd n _ k)).more (by omega)
theorem zxd (r:Receiver) (s:Skip) (h:∀ t ∈ r.turn,-(2 ^ 60) < t /\ t < 2 ^ 60):Goes r (skip1 r s) 32769:=by
 unfold skip1
 split
 . exact (Goes.refl r).more (by omega)
 split
 . exact (zxc _ _ _ _).more (by omega)
 rename_i c _
 have hk:s.stream.toNat < r.turn.length:=by omega
 have hb:=h _ (List.getElem_mem hk)
 have hg:r.turn[s.stream.toNat]?.getD 0=r.turn[s.stream.toNat]:=by simp [hk]
 obtain ⟨n1,n2,n3⟩:=zhx (a:=r.turn[s.stream.toNat]) (t:=s.mid) (by omega) (by omega)
 have h1:=zpd (near r.turn[s.stream.toNat] s.mid+1 - r.turn[s.stream.toNat]).toNat r s.stream.toNat
 refine (Goes.trans (b:=upto r s.stream.toNat (near (r.turn[s.stream.toNat]?.getD 0) s.mid)) (d:=32769) (e:=0) ?_ (zln _ _ _ (Nat.lt_succ_self _)))
 unfold upto
 rw [hg]
 exact h1.more (by omega)
theorem zxe:∀ (l:List Skip) (r:Receiver) (L T:Int),-(2 ^ 59) <= L -> T+l.length * 32769 < 2 ^ 59 -> (∀ t ∈ r.turn,L < t) -> (∀ t ∈ r.turn,t+r.pieces.length <= T) -> Goes r (l.foldl skip1 r) (l.length * 32769)
 | [],r,_,_,_,_,_,_=>(Goes.refl r).more (by omega)
 | s :: l,r,L,T,h1,h2,h3,h4=>by
  rw [List.length_cons] at h2
  have g:=zxd r s fun t ht=>by have:=h3 t ht;have:=h4 t ht;omega
  have g2:=zxe l (skip1 r s) L (T+32769) h1 (by omega) (g.lo L h3) (g.hi T h4)
  rw [List.foldl_cons,List.length_cons]
  exact (g.trans g2).more (by omega)
def forward (r:Receiver) (c:Chunk):Receiver :=
 if ¬ c.kind=3 \/ near r.cum c.tag <= r.cum then r else c.skips.foldl skip1 { r with cum:=(up r.spans (near r.cum c.tag)).1,spans:=(up r.spans (near r.cum c.tag)).2 }
structure RFit (N:Nat) (r:Receiver):Prop where
 log:r.log.length+r.pieces.length <= N
 mass:logs r.log+tot r.pieces <= N
 many:r.spans.length <= N
 rise:rise r.spans
 above:∀ s ∈ r.spans,r.cum+1 < s.lo
 his:∀ s ∈ r.spans,s.hi <= r.cum+32768
 cum1:-1 <= r.cum
 cum2:r.cum <= 100000+32768 * N
 lo:∀ t ∈ r.turn,-1 < t
 hi:∀ t ∈ r.turn,t+r.pieces.length <= 32769 * N
 streams:r.turn.length < 2 ^ 30
theorem RFit.more {N M:Nat} {r:Receiver} (h:RFit N r) (k:N <= M):RFit M r :=
 ⟨by have:=h.log;omega,by have:=h.mass;omega,by have:=h.many;omega,h.rise,h.above,h.his,h.cum1,by have:=h.cum2;omega,h.lo,fun t ht=>by have:=h.hi t ht;omega,h.streams⟩
theorem RFit.fit {N:Nat} {r:Receiver} (h:RFit N r) (hN:N <= 2 ^ 20):Fit r:=by
 obtain ⟨h1,h2,h3,h4,h5,h6,h7,h8,h9,h10,h11⟩:=h
 exact ⟨by omega,by omega,by omega,by omega,by omega,fun a ha=>by have:=ync ha;omega⟩
theorem RFit.dfit {N:Nat} {r:Receiver} (h:RFit N r) (hN:N <= 2 ^ 20) {c:Chunk} (hc:c.data.length <= 2 ^ 20):DFit r c:=by
 have hf:=h.fit hN
 obtain ⟨h1,h2,h3,h4,h5,h6,h7,h8,h9,h10,h11⟩:=h
 exact ⟨hf,h4,fun s hs=>by have:=h6 s hs;omega,by omega,by omega,fun t ht=>by have:=h9 t ht;have:=h10 t ht;omega,by omega,by omega,by omega⟩
theorem zie:∀ {l:List Span} {n:Int} (_:Ser.rise l),n <= (up l n).1 /\ (up l n).2.length <= l.length /\ Ser.rise (up l n).2 /\ (∀ s ∈ (up l n).2,s ∈ l) /\ (∀ s ∈ (up l n).2,(up l n).1+1 < s.lo) /\ ((up l n).1=n \/ ∃ s ∈ l,(up l n).1=s.hi)
 | [],n,_=>by simp [up,Ser.rise]
 | s :: r,n,h=>by
  rw [up]
  split
  . rename_i c
    have ih:=zie (l:=r) (n:=if s.hi > n then s.hi else n) h.2.2.2.2
    have h1:n <= (if s.hi > n then s.hi else n):=by split <;> omega
    have h2:(if s.hi > n then s.hi else n)=n \/ (if s.hi > n then s.hi else n)=s.hi:=by split <;> simp
    generalize (if s.hi > n then s.hi else n)=n' at *
    obtain ⟨i1,i2,i3,i4,i5,i6⟩:=ih
    refine ⟨by omega,by simp;omega,i3,fun t ht=>by simp [i4 t ht],i5,?_⟩
    rcases i6 with i6 | ⟨t,ht,e⟩
    . rcases h2 with h2 | h2
      . exact .inl (i6.trans h2)
      . exact .inr ⟨s,by simp,i6.trans h2⟩
    . exact .inr ⟨t,by simp [ht],e⟩
  . rename_i c
    refine ⟨Int.le_refl _,Nat.le_refl _,h,fun t ht=>ht,fun t ht=>?_,.inl rfl⟩
    have h0:=h.1
    rcases List.mem_cons.1 ht with rfl | ht
    . omega
    . have:=h.2.2.2.1 t ht;omega
theorem up_in:∀ {l:List Span} {n m:Int} (_:Ser.rise l),has l m=true -> m <= (up l n).1 \/ has (up l n).2 m=true
 | [],n,m,_,h=>by simp [has] at h
 | s :: r,n,m,h,hm=>by
  rw [up]
  split
  . rename_i c
    rw [zhf,Bool.or_eq_true] at hm
    have u:=(zie (n:=if s.hi > n then s.hi else n) h.2.2.2.2).1
    have h1:s.hi <= (if s.hi > n then s.hi else n):=by split <;> omega
    rcases hm with hm | hm
    . left
      have:m <= s.hi:=by simp at hm;exact hm.2
      omega
    . exact up_in h.2.2.2.2 hm
  . exact .inr hm
theorem RFit.goes {N d e:Nat} {r r':Receiver} (h:RFit N r) (g:Goes r r' d) (hd:d <= 32769 * e):RFit (N+e) r':=by
 obtain ⟨h1,h2,h3,h4,h5,h6,h7,h8,h9,h10,h11⟩:=h
 obtain ⟨a1,a2,a3,a4,a5,a6,a7,a8,a9,a10,a11⟩:=g
 exact ⟨by omega,by omega,by rw [a3];omega,by rw [a3];exact h4,by rw [a2,a3];exact h5,fun s hs=>by rw [a3] at hs;have:=h6 s hs;omega,by omega,by omega,a10 _ h9,fun t ht=>by have:=a11 _ h10 t ht;omega,by omega⟩
theorem RFit.put {N:Nat} {r:Receiver} (h:RFit N r) (hN:N <= 2 ^ 21) {c:Chunk} (ht:Takes r c (near r.cum c.tag)):RFit (N+(c.data.length+1)) (put r c):=by
 obtain ⟨h1,h2,h3,h4,h5,h6,h7,h8,h9,h10,h11⟩:=h
 obtain ⟨n1,n2,n3⟩:=zhx (a:=r.cum) (t:=c.tag) (by omega) (by omega)
 have ha:=ht.above
 unfold Rcv.put
 generalize near r.cum c.tag=n at *
 have hadd:=ykc (n:=n) (M:=r.cum+32768) h4 (by omega) (by omega) (fun s hs=>by have:=h6 s hs;omega) (by omega)
 have hal:=yde r.spans n
 obtain ⟨u1,u2,u3,u4,u5,u6⟩:=zie (n:=r.cum) (ztp h4 (n:=n) (by omega) (by omega)).1
 refine ⟨?_,?_,?_,u3,u5,fun s hs=>?_,?_,?_,h9,?_,h11⟩
 . simp only [List.length_append,List.length_singleton];omega
 . dsimp only
   rw [zoz,zds]
   have:tot []=0:=rfl
   dsimp only;omega
 . dsimp only;omega
 . have:=hadd s (u4 s hs);dsimp only;omega
 . dsimp only;omega
 . dsimp only
   rcases u6 with u6 | ⟨s,hs,u6⟩
   . omega
   . have:=hadd s hs;omega
 . intro t htt
   have:=h10 t htt
   simp only [List.length_append,List.length_singleton];omega
theorem yne {N:Nat} {r:Receiver} (h:RFit N r) (hN:N <= 2 ^ 21) (c:Chunk):RFit (N+(c.data.length+1)) (data r c):=by
 unfold data
 split
 . rename_i ht
   have hp:=h.put hN ht
   split
   . exact hp.goes (e:=0) (zln _ _ _ (Nat.lt_succ_self _)) (Nat.zero_le _)
   . exact hp.goes (e:=0) (zts _ _ _ _) (Nat.zero_le _)
 . exact h.more (by omega)
theorem yab {N:Nat} {r:Receiver} (h:RFit N r) (hN:N <= 2 ^ 21) (c:Chunk) (hc:c.skips.length <= 2 ^ 21):RFit (N+(c.skips.length+1)) (forward r c):=by
 unfold forward
 split
 . exact h.more (by omega)
 rename_i ht
 obtain ⟨h1,h2,h3,h4,h5,h6,h7,h8,h9,h10,h11⟩:=h
 obtain ⟨n1,n2,n3⟩:=zhx (a:=r.cum) (t:=c.tag) (by omega) (by omega)
 have ha:r.cum < near r.cum c.tag:=by
  apply Classical.byContradiction;intro hc;exact ht (.inr (by omega))
 generalize near r.cum c.tag=n at *
 obtain ⟨u1,u2,u3,u4,u5,u6⟩:=zie (n:=n) h4
 have hw:RFit (N+1) { r with cum:=(up r.spans n).1,spans:=(up r.spans n).2 }:=by
  refine ⟨by dsimp only;omega,by dsimp only;omega,by dsimp only;omega,u3,u5,fun s hs=>?_,by dsimp only;omega,?_,h9,fun t htt=>by have:=h10 t htt;dsimp only;omega,h11⟩
  . have:=h6 s (u4 s hs);dsimp only;omega
  . dsimp only
    rcases u6 with u6 | ⟨s,hs,u6⟩
    . omega
    . have:=h6 s hs;omega
 have g:=zxe c.skips { r with cum:=(up r.spans n).1,spans:=(up r.spans n).2 } (-1) (32769 * N) (by omega) (by omega) h9 h10
 exact (hw.goes (e:=c.skips.length) g (by omega)).more (by omega)
theorem zks {a t n:Int} (h1:-(2 ^ 61) <= a) (h2:a <= 2 ^ 61) (h3:a - 32767 <= n) (h4:n <= a+32768) (h5:tag n=tag t):near a t=n:=by
 obtain ⟨n1,n2,n3⟩:=zhx (a:=a) (t:=t) h1 h2
 rw [<- h5] at n3
 unfold tag at n3;omega
end Rcv
end Go.HL
namespace Go.HL
open Go.Proofs
namespace Rcv
open Srt Jn Ser
set_option maxHeartbeats 4000000
set_option maxRecDepth 100000
set_option linter.unusedSimpArgs false
theorem RFit.skip {N:Nat} {r:Receiver} (h:RFit N r) (hN:N <= 2 ^ 23) (s:Skip):RFit (N+1) (skip1 r s) :=
 h.goes (e:=1) (zxd r s fun t ht=>by have:=h.lo t ht;have:=h.hi t ht;omega) (by omega)
theorem RFit.sfit {N:Nat} {r:Receiver} (h:RFit N r) (hN:N < 2 ^ 22):SFit r:=by
 obtain ⟨h1,h2,h3,h4,h5,h6,h7,h8,h9,h10,h11⟩:=h
 exact ⟨by omega,by omega,by omega,fun t ht=>by have:=h9 t ht;omega,fun t ht=>by have:=h10 t ht;omega⟩
def at_up (r:Receiver) (n:Int):Receiver:={ r with cum:=(up r.spans n).1,spans:=(up r.spans n).2 }
theorem RFit.up {N:Nat} {r:Receiver} (h:RFit N r) (_:N <= 2 ^ 22) {n:Int} (n1:r.cum < n) (n2:n <= r.cum+32768):RFit (N+1) (at_up r n):=by
 obtain ⟨h1,h2,h3,h4,h5,h6,h7,h8,h9,h10,h11⟩:=h
 obtain ⟨u1,u2,u3,u4,u5,u6⟩:=zie (n:=n) h4
 unfold at_up
 refine ⟨by dsimp only;omega,by dsimp only;omega,by dsimp only;omega,u3,u5,fun s hs=>?_,by dsimp only;omega,?_,h9,fun t htt=>by have:=h10 t htt;dsimp only;omega,h11⟩
 . have:=h6 s (u4 s hs);dsimp only;omega
 . dsimp only
   rcases u6 with u6 | ⟨s,hs,u6⟩
   . omega
   . have:=h6 s hs;omega
theorem zxf (r:Receiver) (c:Chunk) {N:Nat} (h:RFit N r) (hN:N <= 2 ^ 20) (hc:c.skips.length <= 2 ^ 20) :
 FunOK Tryz.prog 153 [r.hv,c.hv] zac (rcvO (forward r c) 0 1 2 3) (lk .free (rcvB (forward r c) 0 1 2 3 [])):=by
 have hfit:=h.fit hN
 have h6:=h.his
 have h7:=h.cum1
 have h8:=h.cum2
 obtain ⟨n1,n2,n3⟩:=zhx (a:=r.cum) (t:=c.tag) (by omega) (by omega)
 generalize hD:forward r c=D
 refine zaj mixed Tryz.func153 (by decide) [] (fun _=>.inl rfl) ?_
 conv=>whnf
 (refine zam [(0,910),(1,911),(2,912),(3,913)]  ?_;(conv=>whnf);refine dO (zbx r hfit) ?_)
 (refine cL ?_;refine dL (zgf r.cum c.tag) ?_)
 by_cases c1:c.kind=3
 case neg =>
  obtain rfl:r=D:=by rw [<- hD,forward,if_pos (.inl c1)]
  refine zaf (by simpa using c1) ?_;conv=>whnf
  try (refine hcut.go ?_;conv=>whnf)
  (exact zbh [(0,some 910),(1,some 911),(2,some 912),(3,some 913)])
 refine zad (by simp [c1]) ?_;conv=>whnf
 by_cases c2:near r.cum c.tag <= r.cum
 . obtain rfl:r=D:=by rw [<- hD,forward,if_pos (.inr c2)]
   refine zaf (by simpa using c2) ?_;conv=>whnf
   try (refine hcut.go ?_;conv=>whnf)
   (exact zbh [(0,some 910),(1,some 911),(2,some 912),(3,some 913)])
 refine zad (by simpa using c2) ?_;conv=>whnf
 try (refine hcut.go ?_;conv=>whnf)
 have hw:=h.up (by omega) (n:=near r.cum c.tag) (by omega) (by omega)
 have e:c.skips.foldl skip1 (at_up r (near r.cum c.tag))=D:=by rw [<- hD,forward,if_neg (by simp [c1];omega)];rfl
 (refine zam [(0,37)]  ?_;(conv=>whnf);refine dO (yjz r.spans (near r.cum c.tag) (fun s hs=>by have:=h6 s hs;omega) (by have:=hfit.spans;omega) (by omega) (by omega)) ?_)
 refine ⟨{ x:Receiver × List Skip × List Skip // c.skips=x.2.1++x.2.2 /\ RFit (N+1+x.2.1.length) x.1 /\ x.2.2.foldl skip1 x.1=D },fun | ⟨(x,a,b),_⟩=>hs 61 [(4,.ptr 4 0),(5,.ptr 12 0),(47,.p (.sl 3 (c.skips.map Skip.row))),(48,i64 c.skips.length),(49,i64 a.length)] ((4,.live (.cells 37 zeroR)) :: (12,.live (.cells 225 (rcvC x (.own 900) (.own 901) (.own 902) (.own 903)))) :: rcvB x 900 901 902 903 []),fun x=>x.1.2.2.length,⟨(at_up r (near r.cum c.tag),[],c.skips),rfl,hw,e⟩,?_,?_⟩
 . exact (hle_Q [(4,some 4),(12,some 12),(900,some 37),(901,some 911),(902,some 912),(903,some 913)])
 rintro ⟨⟨x,a,b⟩,h1,h2,h3⟩
 dsimp only at h1 h2 h3
 conv=>whnf
 cases b with
 | cons s b =>
  have hz:=zbi h1
  refine sT ?_
  refine zah h1 rfl ?_;conv=>whnf
  (refine zab [] [(1000,12),(1001,900),(1002,901),(1003,902),(1004,903)] [(0,910),(1,911),(2,912),(3,913)] ?_;(conv=>whnf);refine dG (zoi x s (h2.sfit (by omega))) ?_)
  refine sF ?_
  exact ⟨⟨(skip1 x s,a++[s],b),zak h1,by have:=h2.skip (by omega) s;simpa [Nat.add_assoc] using this,h3⟩,(hle_Q [(4,some 4),(12,some 12),(900,some 910),(901,some 911),(902,some 912),(903,some 913)]),by simp⟩
 | nil =>
  have hz:=zbr h1
  have h3:x=D:=h3
  subst h3
  refine sN ?_
  (exact zbh [(0,some 900),(1,some 901),(2,some 902),(3,some 903)])
end Rcv
end Go.HL
namespace Go.HL
open Go.Proofs
namespace Rcv
open Srt Jn Ser
set_option maxHeartbeats 4000000
set_option maxRecDepth 100000
set_option linter.unusedSimpArgs false
theorem zxg {r:Receiver} {s m:Int} {o:Bool} (h:(dlv r s m o).2=false):(dlv r s m o).1=r:=by
 unfold dlv at h ⊢
 split
 . rfl
 . rename_i b hj;rw [hj] at h;cases h
end Rcv
end Go.HL
namespace Go.HL
open Go.Proofs
namespace Rcv
open Srt Jn Ser
set_option maxHeartbeats 4000000
set_option maxRecDepth 100000
set_option linter.unusedSimpArgs false
end Rcv
end Go.HL
namespace Go.HL
open Go.Proofs
namespace Rcv
open Srt Jn Ser
set_option maxHeartbeats 4000000
set_option maxRecDepth 100000
set_option linter.unusedSimpArgs false
end Rcv
end Go.HL
namespace Go.HL
open Go.Proofs
namespace Rcv
open Srt Jn Ser
set_option maxHeartbeats 4000000
set_option maxRecDepth 100000
set_option linter.unusedSimpArgs false
end Rcv
end Go.HL
namespace Go.HL
open Go.Proofs
set_option maxHeartbeats 1000000
set_option maxRecDepth 100000
set_option linter.unusedSimpArgs false
end Go.HL
namespace Go.HL
open Go.Proofs
namespace Rcv
open Srt Jn Ser
set_option maxHeartbeats 4000000
set_option maxRecDepth 100000
set_option linter.unusedSimpArgs false
def wt (c:Chunk):Nat:=c.data.length+c.skips.length+1
def wts (l:List Chunk):Nat:=(l.map wt).sum
theorem ykh (a b:List Chunk):wts (a++b)=wts a+wts b:=by simp [wts]
theorem ziv (c:Chunk) (b:List Chunk):wts (c :: b)=wt c+wts b:=by simp [wts]
end Rcv
end Go.HL
namespace Go.HL
open Go.Proofs
namespace Rcv
open Srt Jn Ser
set_option maxHeartbeats 4000000
set_option maxRecDepth 100000
set_option linter.unusedSimpArgs false
theorem RFit.cumB {N:Nat} {r:Receiver} (h:RFit N r) (hN:N <= 2 ^ 20):-(2 ^ 60) <= r.cum /\ r.cum <= 2 ^ 60:=by
 have:=h.cum1;have:=h.cum2;omega
theorem RFit.spansB {N:Nat} {r:Receiver} (h:RFit N r) (hN:N <= 2 ^ 20):∀ s ∈ r.spans,-(2 ^ 61) <= s.lo /\ s.lo <= 2 ^ 61 /\ -(2 ^ 61) <= s.hi /\ s.hi <= 2 ^ 61:=fun s hs=>by
 have h1:=h.above s hs
 have h2:=h.his s hs
 have h3:=h.cum1
 have h4:=h.cum2
 have h5:=(zfs h.rise s hs).1
 omega
end Rcv
end Go.HL
namespace Go.HL
open Go.Proofs
namespace Rcv
open Srt Jn Ser
set_option maxHeartbeats 4000000
set_option maxRecDepth 100000
set_option linter.unusedSimpArgs false
theorem yki (c:Config) (h1:-9223372036854775808 < c.first) (h2:c.first <= 9223372036854775807) (h3:c.streams <= 1099511627776):FunOK Tryz.prog 110 [c.hv] zac (newR c).hv zac:=by
 refine zbn Tryz.func110 (zkd c h1 h2 h3) ?_
 conv=>whnf
 rfl
theorem yfw (r:Receiver) (c:Chunk) (hf:DFit r c):FunOK Tryz.prog 152 [r.hv,c.hv] zac (data r c).hv zac:=by
 refine zbn Tryz.func152 (ykd r c hf) ?_
 generalize data r c=d
 conv=>whnf
 rfl
theorem ztt (r:Receiver) (c:Chunk) {N:Nat} (h:RFit N r) (hN:N <= 2 ^ 20) (hc:c.skips.length <= 2 ^ 20):FunOK Tryz.prog 153 [r.hv,c.hv] zac (forward r c).hv zac:=by
 refine zbn Tryz.func153 (zxf r c h hN hc) ?_
 generalize forward r c=d
 conv=>whnf
 rfl
theorem yfx (r:Receiver) (h1:r.spans.length < 2 ^ 40) (h2:r.pieces.length < 2 ^ 40) (h3:tot r.pieces < 2 ^ 60) (hc:-(2 ^ 60) <= r.cum) (hc2:r.cum <= 2 ^ 60) (hsp:∀ s ∈ r.spans,-(2 ^ 61) <= s.lo /\ s.lo <= 2 ^ 61 /\ -(2 ^ 61) <= s.hi /\ s.hi <= 2 ^ 61) :
 FunOK Tryz.prog 154 [r.hv] zac (tells r).hv zac:=by
 refine zbn Tryz.func154 (yke r h1 h2 h3 hc hc2 hsp) ?_
 conv=>whnf
 rfl
theorem zow (r:Receiver) (hr:Fit r):FunOK Tryz.prog 111 [r.hv] zac r.hv zac:=by
 refine zbn Tryz.func111 (zbx r hr) ?_
 conv=>whnf
 rfl
def cfg8:Config:=⟨2,4,60,1,1,5,7⟩
def a8:Chunk:=⟨1,8,0,1,0,true,true,[98],[],0,[]⟩
def a7:Chunk:=⟨1,7,0,0,0,true,true,[97],[],0,[]⟩
def r1:Receiver:=⟨cfg8,6,[⟨8,8⟩],[⟨8,a8⟩],[0,0],[]⟩
def r2:Receiver:=⟨cfg8,8,[],[],[2,0],[⟨0,0,true,[97]⟩,⟨0,1,true,[98]⟩]⟩
end Rcv
end Go.HL
namespace Go.HL
open Go.Proofs
namespace Ln
open Ser
set_option maxHeartbeats 4000000
set_option maxRecDepth 100000
set_option linter.unusedSimpArgs false
def put1 (w:List Packet) (p:Packet):List Packet:=if w.length < 40 then w++[p] else w
def putW (w ps:List Packet):List Packet:=ps.foldl put1 w
def hear1 (back:Bool) (x:Line × Bool) (c:Chunk):Line × Bool :=
 if back then ({ x.1 with sender:=Snd.hear x.1.sender c },x.2) else
 if c.kind=1 then ({ x.1 with receiver:=Rcv.data x.1.receiver c },true) else
 if c.kind=3 then ({ x.1 with receiver:=Rcv.forward x.1.receiver c },true) else x
def told (path:Int) (l:Line):Line:=if (Pck.pbytes [Rcv.tells l.receiver] 120).2=0 then { l with way:=putW l.way [⟨path,true,(Pck.pbytes [Rcv.tells l.receiver] 120).1⟩] } else l
def ziw (l:Line) (p:Packet):Line × Bool:=(Pck.pparse p.bytes).1.foldl (hear1 p.back) (l,false)
def come (l:Line) (p:Packet):Line :=
 if (Pck.pparse p.bytes).2 ≠ 0 then l else if (ziw l p).2 then told p.path (ziw l p).1 else (ziw l p).1
def emit (l:Line):Line:={ l with sender:=(Snd.pump l.sender).1,way:=putW l.way (Snd.pump l.sender).2 }
def doS (l:Line) (x:Step):Line × Answer :=
 if x.kind=1 then (if Snd.zdv l.sender x.message=0 then (emit { l with sender:=Snd.sendS l.sender x.message },⟨0,l.sender.fates.length⟩) else (l,⟨Snd.zdv l.sender x.message,0⟩)) else
 if x.kind=2 \/ x.kind=3 \/ x.kind=4 then (if x.n < 0 then (l,⟨6,0⟩) else match l.way[x.n.toNat]? with
  | none=>(l,⟨6,0⟩)
  | some p=>if x.kind=4 then (emit { l with way:=putW l.way [p] },⟨0,0⟩) else
   (emit (if x.kind=2 then come { l with way:=l.way.eraseIdx x.n.toNat } p else { l with way:=l.way.eraseIdx x.n.toNat }),⟨0,0⟩)) else
 if x.kind=5 then (emit { l with sender:=Snd.tick l.sender },⟨0,0⟩) else (l,⟨1,0⟩)
def newL (c:Config):Line:=⟨Snd.newS c,Rcv.newR c,[]⟩
def play:Line -> List Step -> Line × List Answer
 | l,[]=>(l,[])
 | l,x :: r=>((play (doS l x).1 r).1,(doS l x).2 :: (play (doS l x).1 r).2)
theorem ydh:∀ (a:List Step) (l:Line) (b:List Step),play l (a++b)=((play (play l a).1 b).1,(play l a).2++(play (play l a).1 b).2)
 | [],l,b=>rfl
 | x :: a,l,b=>by
  have h:=ydh a (doS l x).1 b
  rw [List.cons_append,play,h];rfl
theorem ztu:∀ (a:List Step) (l:Line),(play l a).2.length=a.length
 | [],_=>rfl
 | x :: a,l=>by rw [play,List.length_cons,ztu a];rfl
theorem ykj:∀ (ps w:List Packet),w.length <= 40 -> (putW w ps).length <= 40
 | [],w,h=>h
 | p :: ps,w,h=>by
  unfold putW
  rw [List.foldl_cons]
  refine ykj ps _ ?_
  unfold put1
  split
  . simp;omega
  . exact h
theorem ztv:∀ (ps w:List Packet),∀ p ∈ putW w ps,p ∈ w \/ p ∈ ps
 | [],w,p,h=>.inl h
 | q :: ps,w,p,h=>by
  unfold putW at h
  rw [List.foldl_cons] at h
  rcases ztv ps _ p h with h | h
  . unfold put1 at h
    split at h
    . rcases List.mem_append.1 h with h | h
      . exact .inl h
      . rw [List.mem_singleton] at h;subst h;exact .inr (by simp)
    . exact .inl h
  . exact .inr (by simp [h])
theorem zlo (l:List Chunk) (most:Int) (h:0 <= most):((Pck.pbytes l most).1.length:Int) <= most:=by
 unfold Pck.pbytes
 (repeat' split) <;> first | (simp;omega) | (dsimp only;omega)
theorem yqo (kind:Int) (b:List UInt8):(Chk.zct kind b).1.data.length+(Chk.zct kind b).1.skips.length <= b.length /\ (Chk.zct kind b).1.spans.length <= b.length:=by
 have h1:=Chk.zhy (b.drop 2)
 have h2:=Chk.zhd (b.drop 4)
 have h3:(b.drop 2).length <= b.length:=by simp
 have h4:(b.drop 4).length <= b.length:=by simp
 unfold Chk.zct
 (repeat' split) <;> constructor <;> first | (simp [Chk.no];done) | (dsimp only [Chk.no];simp;omega) | (dsimp only [Chk.no];omega)
theorem ynf {b:List UInt8} (h:(Chk.parse b).2.2=0):Rcv.wt (Chk.parse b).1+1 <= (Chk.parse b).2.1.toNat /\ (Chk.parse b).2.1.toNat <= b.length /\ (Chk.parse b).1.spans.length <= b.length:=by
 have h1:=yqo (b[0]?.getD 0).toNat ((b.drop 2).take (b[1]?.getD 0).toNat)
 have h2:((b.drop 2).take (b[1]?.getD 0).toNat).length <= (b[1]?.getD 0).toNat:=by simp;omega
 have h3:((b.drop 2).take (b[1]?.getD 0).toNat).length <= b.length:=by simp;omega
 unfold Chk.parse at h ⊢
 (repeat' split at h) <;> first | contradiction | skip
 . rename_i c1 c2 c3 c4
   rw [if_neg c1,if_neg c2,if_neg c3,if_neg c4]
   unfold Rcv.wt
   dsimp only
   refine ⟨by omega,by omega,by omega⟩
theorem zxh:∀ (f:Nat) (b:List UInt8),Rcv.wts (Pck.zdx f b).1 <= b.length /\ ∀ c ∈ (Pck.zdx f b).1,c.spans.length <= b.length /\ Rcv.wt c <= b.length
 | 0,b=>by simp [Pck.zdx,Rcv.wts]
 | f+1,b=>by
  have ih:=zxh f (b.drop (Chk.parse b).2.1.toNat)
  unfold Pck.zdx
  (repeat' split) <;> first | (simp [Rcv.wts];done) | skip
  rename_i c1 c2 c3
  have hp:=ynf (Decidable.not_not.1 c2)
  rw [List.length_drop] at ih
  refine ⟨?_,fun c hc=>?_⟩
  . dsimp only
    rw [Rcv.ziv];omega
  . rcases List.mem_cons.1 hc with rfl | hc
    . exact ⟨hp.2.2,by omega⟩
    . have:=ih.2 c hc;omega
theorem zpe (b:List UInt8):Rcv.wts (Pck.pparse b).1 <= b.length /\ ∀ c ∈ (Pck.pparse b).1,c.spans.length <= b.length /\ Rcv.wt c <= b.length:=by
 unfold Pck.pparse
 split
 . simp [Rcv.wts]
 . exact zxh _ _
theorem ykk {most path:Int} {l:List Chunk} (h0:0 <= most):∀ p ∈ Snd.pack1 most path l,(p.bytes.length:Int) <= most /\ p.back=false:=by
 intro p hp
 unfold Snd.pack1 at hp
 split at hp
 . rw [List.mem_singleton] at hp;subst hp;exact ⟨zlo _ _ h0,rfl⟩
 . simp at hp
theorem zxi {most path:Int} (h0:0 <= most):∀ (n:Nat) (l:List Chunk),∀ p ∈ Snd.packN most path n l,(p.bytes.length:Int) <= most /\ p.back=false
 | 0,l,p,hp=>by simp [Snd.packN] at hp
 | n+1,l,p,hp=>by
  unfold Snd.packN at hp
  split at hp
  . simp at hp
  . rcases List.mem_append.1 hp with hp | hp
    . exact ykk h0 p hp
    . exact zxi h0 n _ p hp
theorem zmg {most:Int} (h0:0 <= most):∀ (ls:List (List Chunk)) (k:Nat),∀ p ∈ Snd.zbk most k ls,(p.bytes.length:Int) <= most /\ p.back=false
 | [],k,p,hp=>by simp [Snd.zbk] at hp
 | l :: ls,k,p,hp=>by
  unfold Snd.zbk at hp
  rcases List.mem_append.1 hp with hp | hp
  . exact zxi h0 _ _ p hp
  . exact zmg h0 ls _ p hp
structure LI (N M:Nat) (l:Line):Prop where
 snd:Snd.SI N l.sender
 rcv:Rcv.RFit M l.receiver
 small:M <= 2 ^ 20
 way:l.way.length <= 40
 bytes:∀ p ∈ l.way,p.bytes.length <= 120
section
variable {N M:Nat} {l:Line}
theorem LI.more (h:LI N M l) {M':Nat} (h1:M <= M') (h2:M' <= 2 ^ 20):LI N M' l:=⟨h.snd,h.rcv.more h1,h2,h.way,h.bytes⟩
theorem ztw {back:Bool} {x:Line × Bool} {c:Chunk} (h:LI N M x.1) (hM:M+Rcv.wt c <= 2 ^ 20):LI N (M+Rcv.wt c) (hear1 back x c).1:=by
 have hw:Rcv.wt c=c.data.length+c.skips.length+1:=rfl
 unfold hear1
 split
 . exact ⟨Snd.yqg h.snd c,h.rcv.more (by omega),hM,h.way,h.bytes⟩
 split
 . exact ⟨h.snd,(Rcv.yne h.rcv (by omega) c).more (by omega),hM,h.way,h.bytes⟩
 split
 . exact ⟨h.snd,(Rcv.yab h.rcv (by omega) c (by omega)).more (by omega),hM,h.way,h.bytes⟩
 . exact h.more (by omega) hM
theorem ydi {back:Bool}:∀ (cs:List Chunk) {M:Nat} {x:Line × Bool},LI N M x.1 -> M+Rcv.wts cs <= 2 ^ 20 -> LI N (M+Rcv.wts cs) (cs.foldl (hear1 back) x).1
 | [],M,x,h,_=>h
 | c :: cs,M,x,h,hM=>by
  rw [Rcv.ziv] at hM ⊢
  have:=ydi (back:=back) cs (ztw (back:=back) (c:=c) h (by omega)) (by omega)
  rw [<- Nat.add_assoc];exact this
theorem zxj (h:LI N M l) {ps:List Packet} (hp:∀ p ∈ ps,p.bytes.length <= 120):LI N M { l with way:=putW l.way ps } :=
 ⟨h.snd,h.rcv,h.small,ykj ps _ h.way,fun p hq=>by rcases ztv ps _ p hq with hq | hq;exact h.bytes p hq;exact hp p hq⟩
theorem yqp (h:LI N M l) (path:Int):LI N M (told path l):=by
 unfold told
 split
 . refine zxj h fun p hp=>?_
   rw [List.mem_singleton] at hp;subst hp
   have:=zlo [Rcv.tells l.receiver] 120 (by decide)
   dsimp only;omega
 . exact h
theorem ykl (h:LI N M l) {p:Packet} (hp:p.bytes.length <= 120) (hM:M+120 <= 2 ^ 20):LI N (M+120) (come l p):=by
 have hw:=(zpe p.bytes).1
 have h2:LI N (M+120) (ziw l p).1:=(ydi (back:=p.back) (Pck.pparse p.bytes).1 (x:=(l,false)) h (by omega)).more (by omega) hM
 unfold come
 split
 . exact h.more (by omega) hM
 split
 . exact yqp h2 _
 . exact h2
theorem zpf (h:LI N M l):LI N M (emit l):=by
 have hw:=Snd.zbo h.snd.cfg
 have hc:=Snd.ymx h.snd
 have h2:LI N M { l with sender:=(Snd.pump l.sender).1 }:=⟨Snd.yqe h.snd,h.rcv,h.small,h.way,h.bytes⟩
 refine zxj h2 fun p hp=>?_
 have:=(zmg (by omega) _ _ p hp).1
 omega
theorem ykm (h:LI N M l) (x:Step) (hN:N+1 <= 2 ^ 20) (hM:M+120 <= 2 ^ 20):LI (N+1) (M+120) (doS l x).1:=by
 have h0:LI (N+1) (M+120) l:=⟨h.snd.mono (by omega) hN,h.rcv.more (by omega),hM,h.way,h.bytes⟩
 unfold doS
 split
 . split
   . rename_i e
     exact zpf (l:={ l with sender:=Snd.sendS l.sender x.message }) ⟨Snd.zzv h.snd e hN,h0.rcv,hM,h.way,h.bytes⟩
   . exact h0
 split
 . split
   . exact h0
   split
   . exact h0
   rename_i p hp
   have hb:=h.bytes p (List.mem_of_getElem? hp)
   have he:∀ {N M:Nat},LI N M l -> LI N M { l with way:=l.way.eraseIdx x.n.toNat }:=fun h =>
    ⟨h.snd,h.rcv,h.small,by show (l.way.eraseIdx _).length <= 40;have:=h.way;rw [List.length_eraseIdx];split <;> omega,fun q hq=>h.bytes q (List.mem_of_mem_eraseIdx hq)⟩
   split
   . refine zpf (zxj h0 fun q hq=>?_)
     rw [List.mem_singleton] at hq;subst hq;exact hb
   . refine zpf ?_
     split
     . exact ykl (he ⟨h.snd.mono (by omega) hN,h.rcv,h.small,h.way,h.bytes⟩) hb hM
     . exact he h0
 split
 . exact zpf (l:={ l with sender:=Snd.tick l.sender }) ⟨Snd.zzx h0.snd,h0.rcv,hM,h.way,h.bytes⟩
 . exact h0
theorem ztx:∀ (a:List Step) {N M:Nat} {l:Line},LI N M l -> N+a.length <= 2 ^ 20 -> M+120 * a.length <= 2 ^ 20 -> LI (N+a.length) (M+120 * a.length) (play l a).1
 | [],N,M,l,h,_,_=>h
 | x :: a,N,M,l,h,h1,h2=>by
  simp only [List.length_cons] at h1 h2 ⊢
  have:=ztx a (ykm h x (by omega) (by omega)) (by omega) (by omega)
  rw [show N+(a.length+1)=N+1+a.length by omega,show M+120 * (a.length+1)=M+120+120 * a.length by omega];exact this
end
theorem zty {c:Config} (h:Snd.wrgS c=0):LI 0 0 (newL c):=by
 have hw:=Snd.zbo h
 have hl:(Rcv.newR c).turn.length <= 4:=by simp [Rcv.newR];omega
 have ht:∀ t ∈ (Rcv.newR c).turn,t=0:=fun t ht=>(List.mem_replicate.1 ht).2
 exact ⟨Snd.yru h,⟨Nat.le_refl _,Nat.le_refl _,Nat.le_refl _,trivial,by simp [newL,Rcv.newR],by simp [newL,Rcv.newR],by show -1 <= c.first - 1;omega,by show c.first - 1 <= _;omega,fun t htt=>by rw [ht t htt];decide,fun t htt=>by rw [ht t htt];simp [newL,Rcv.newR],by show (Rcv.newR c).turn.length < _;omega⟩,by decide,by simp [newL],by simp [newL]⟩
end Ln
end Go.HL
namespace Go.HL
open Go.Proofs
namespace Ln
open Ser
set_option maxHeartbeats 8000000
set_option maxRecDepth 100000
set_option linter.unusedSimpArgs false
abbrev rowPk (l:List Packet):HSlot:=.live (.row 110 3 (l.map Packet.row))
abbrev pks (l:List Packet):HV:=.p (.sl 3 (l.map Packet.row))
def lnC (s:Sender) (r:Receiver) (w:HV):List HV:=[i64 s.config.streams,i64 s.config.part,i64 s.config.packet,i64 s.config.paths,i64 s.config.turns,i64 s.config.waiting,i64 s.config.first,i64 s.clock,Sch.qs s.queue,i64 s.sched.last,i64 s.sched.hand,ints s.sched.had,Sco.sents s.out,Snd.pths s.paths,i64 s.cum,i64 s.next,i64 s.room,ints s.mids,ints s.fates,hbool s.forward,i64 s.recover,
 i64 r.config.streams,i64 r.config.part,i64 r.config.packet,i64 r.config.paths,i64 r.config.turns,i64 r.config.waiting,i64 r.config.first,i64 r.cum,.p (.sl 2 (r.spans.map Span.row)),.p (.sl 12 (r.pieces.map Piece.row)),ints r.turn,.p (.sl 4 (r.log.map Arrival.row)),w]
abbrev lnB (s:Sender) (r:Receiver) (w:HV):HSlot:=.live (.cells 40 (lnC s r w))
theorem ydj (ps:List Packet) (h1:ps.length < 2 ^ 22) (h2:∀ p ∈ ps,p.bytes.length < 2 ^ 38):FunOK Tryz.prog 112 [pks ps] zac (.own 0) (lk .free [(0,rowPk ps)]):=by
 refine zaj mixed Tryz.func112 (by decide) [] (fun _=>.inl rfl) ?_
 conv=>whnf
 refine ⟨{ x:List Packet × List Packet // ps=x.1++x.2 },fun | ⟨(A,B),_⟩=>hs 22 [(3,.own 900),(6,pks ps),(7,i64 ps.length),(8,i64 A.length)] [(900,rowPk A)],fun x=>x.1.2.length,⟨([],ps),rfl⟩,?_,?_⟩
 . exact (hle_Q [(900,none)])
 rintro ⟨⟨A,B⟩,h⟩
 dsimp only at h
 conv=>whnf
 cases B with
 | cons p B =>
  have hz:=zbi h
  have hp:=h2 p (zgx h)
  refine sT ?_
  refine zah h rfl ?_;conv=>whnf
  (refine zam [(0,14)]  ?_;(conv=>whnf);refine dO (Cl.zbv p.bytes (by omega)) ?_)
  refine zaa (c:=((A.map Packet.row).length+1) * 40 <= 140737488355328) (by simp;omega) ?_;conv=>whnf
  refine sF ?_
  exact ⟨⟨(A++[p],B),zak h⟩,(hle_X [(900,some 19)] (by repeat' (first | exact z0 | refine z1 ?_ | refine ⟨?_,?_⟩ | ((exact zbj (f:=Packet.row) rfl rfl)) | exact z2))),by simp⟩
 | nil =>
  have hz:=zbr h
  rw [List.append_nil] at h
  refine sN ?_
  exact zai [(0,some 900)] rfl rfl trivial rfl rfl ⟨⟨rfl,.inl ⟨900,rfl,by exact zal (by rw [h])⟩⟩,trivial⟩
theorem zxk (l:Line) (h1:Snd.Fit l.sender) (h2:Rcv.Fit l.receiver) (h3:l.way.length < 2 ^ 22) (h4:∀ p ∈ l.way,p.bytes.length < 2 ^ 38):FunOK Tryz.prog 55 [l.hv] zac (.agg (lnC l.sender l.receiver (.own 0))) (lk .free [(0,rowPk l.way)]):=by
 refine zaj mixed Tryz.func55 (by decide) [] (fun _=>.inl rfl) ?_
 conv=>whnf
 (refine cP ?_;refine dL (Snd.zow l.sender h1) ?_)
 (refine cP ?_;refine dL (Rcv.zow l.receiver h2) ?_)
 (refine zam [(0,20)]  ?_;(conv=>whnf);refine dO (ydj l.way h3 h4) ?_)
 refine sD ?_
 exact zai [(0,some 20)] rfl rfl trivial rfl rfl ⟨⟨rfl,.inl ⟨20,rfl,rfl⟩⟩,trivial⟩
theorem ydk (w A:List Packet) (p:Packet):putW w (A++[p])=put1 (putW w A) p:=by simp [putW]
theorem zhg (s:Sender) (r:Receiver) (w ps:List Packet) (h1:ps.length < 2 ^ 62):FunOK Tryz.prog 116 [.ptr 1000 0,pks ps] (lk .free [(1000,lnB s r (.own 1001)),(1001,rowPk w)]) (.tup []) (lk .free [(1000,lnB s r (.own 0)),(0,rowPk (putW w ps)),(1001,.dead)]):=by
 refine zaj mixed Tryz.func116 (by decide) [1000,1001] zav ?_
 conv=>whnf
 refine ⟨{ x:List Packet × List Packet // ps=x.1++x.2 },fun | ⟨(A,B),_⟩=>hsP [1000,1001] 29 [(0,.ptr 1000 0),(6,pks ps),(7,i64 ps.length),(8,i64 A.length)] [(1000,lnB s r (.own 900)),(900,rowPk (putW w A)),(1001,.dead)],fun x=>x.1.2.length,⟨([],ps),rfl⟩,?_,?_⟩
 . exact (hle_P [(1000,some 1000),(1001,some 1001),(900,some 1001)])
 rintro ⟨⟨A,B⟩,h⟩
 dsimp only at h
 conv=>whnf
 cases B with
 | cons p B =>
  have hz:=zbi h
  refine sT ?_
  refine zah h rfl ?_;conv=>whnf
  by_cases c:(putW w A).length < 40
  case pos =>
   refine sT ?_
   refine zaa (c:=(((putW w A).map Packet.row).length+1) * 40 <= 140737488355328) (by simp;omega) ?_;conv=>whnf
   refine sD ?_
   refine sF ?_
   exact ⟨⟨(A++[p],B),zak h⟩,(hle_Y [(1000,some 1000),(1001,some 1001),(900,some 25)] (by repeat' (first | exact z0 | refine z1 ?_ | refine ⟨?_,?_⟩ | ((exact zbj (f:=Packet.row) (by rw [ydk,put1,if_pos c]) rfl)) | exact z2))),by simp⟩
  case neg =>
   refine sN ?_
   refine sF ?_
   exact ⟨⟨(A++[p],B),zak h⟩,(hle_Y [(1000,some 1000),(1001,some 1001),(900,some 900)] (by repeat' (first | exact z0 | refine z1 ?_ | refine ⟨?_,?_⟩ | ((exact zal (by rw [ydk,put1,if_neg c]))) | exact z2))),by simp⟩
 | nil =>
  have hz:=zbr h
  rw [List.append_nil] at h
  refine sN ?_
  (exact zby [(1000,some 1000),(1001,some 1001),(0,some 900)] (by repeat' (first | exact z0 | refine z1 ?_ | refine ⟨?_,?_⟩ | ((exact zal (by rw [h]))) | exact z2)))
end Ln
end Go.HL
namespace Go.HL
open Go.Proofs
namespace Ln
open Ser
set_option maxHeartbeats 8000000
set_option maxRecDepth 100000
set_option linter.unusedSimpArgs false
theorem ykn (back:Bool) (x:Line × Bool) (c:Chunk):(hear1 back x c).1.way=x.1.way:=by
 unfold hear1;(repeat' split) <;> rfl
theorem yko:∀ cs:List Chunk,cs.length <= Rcv.wts cs
 | []=>by simp [Rcv.wts]
 | c :: cs=>by
  have:=yko cs
  rw [Rcv.ziv,List.length_cons];unfold Rcv.wt;omega
theorem yac (r:Receiver):Pck.Sized [Rcv.tells r]:=⟨by simp,fun c hc=>by
 rw [List.mem_singleton] at hc
 subst hc
 exact ⟨by simp [Rcv.tells];omega,by simp [Rcv.tells]⟩⟩
theorem yfy {N M:Nat} (l:Line) (p:Packet) (h:LI N M l) (hM:M+120 <= 2 ^ 20) (hp:p.bytes.length <= 120):FunOK Tryz.prog 118 [.ptr 1000 0,p.hv] (lk .free [(1000,lnB l.sender l.receiver (.own 1001)),(1001,rowPk l.way)]) (.tup [])
 (lk .free [(1000,lnB (come l p).sender (come l p).receiver (.own 0)),(0,rowPk (come l p).way),(1001,.dead)]):=by
 obtain ⟨path,back,bytes⟩:=p
 dsimp only at hp
 generalize hT:come l ⟨path,back,bytes⟩=T
 refine zaj mixed Tryz.func118 (by decide) [1000,1001] zav ?_
 conv=>whnf
 have hw:=zpe bytes
 (refine cP ?_;refine dL (Pck.zzj bytes (by omega)) ?_)
 rw [come] at hT
 dsimp only at hT
 have hall:ziw l ⟨path,back,bytes⟩=(Pck.pparse bytes).1.foldl (hear1 back) (l,false):=rfl
 generalize Pck.pparse bytes=K at hT hw hall ⊢
 obtain ⟨cs,e⟩:=K
 dsimp only at hT hw hall
 by_cases c1:e=0
 case neg =>
  rw [if_pos c1] at hT
  subst hT
  rw [show (e != 0)=true from bne_iff_ne.2 c1]
  conv=>whnf
  (exact zbh [(1000,some 1000),(1001,some 1001),(0,some 1001)])
 case pos =>
 subst c1
 rw [if_neg (fun h=>h rfl)] at hT
 conv=>whnf
 repeat (refine hcut.go ?_;conv=>whnf)
 refine ⟨{ x:(Line × Bool) × List Chunk × List Chunk // cs=x.2.1++x.2.2 /\ x.2.1.foldl (hear1 back) (l,false)=x.1 /\ LI N (M+Rcv.wts x.2.1) x.1.1 /\ x.1.1.way=l.way },fun | ⟨((y,told),A,B),_⟩=>hsP [1000,1001] 85 [(0,.ptr 1000 0),(3,.ptr 3 0),(6,hbool told),(19,.p (.sl 11 (cs.map Chunk.row))),(20,i64 cs.length),(21,i64 A.length)] [(1000,lnB y.sender y.receiver (.own 1001)),(1001,rowPk l.way),(3,.live (.cells 110 (⟨path,back,bytes⟩:Packet).cells))],fun x=>x.1.2.2.length,⟨((l,false),[],cs),rfl,rfl,h,rfl⟩,?_,?_⟩
 . exact (hle_P [(1000,some 1000),(1001,some 1001),(3,some 3)])
 rintro ⟨⟨⟨y,told⟩,A,B⟩,k1,k2,k3,k4⟩
 dsimp only at k1 k2 k3 k4
 conv=>whnf
 cases B with
 | cons c B =>
  have hz:=zbi k1
  obtain ⟨w1,w2⟩:=hw
  have hcl:=yko cs
  have hc:=w2 c (zgx k1)
  have hsum:Rcv.wts cs=Rcv.wts A+(Rcv.wt c+Rcv.wts B):=by rw [k1,Rcv.ykh,Rcv.ziv]
  have hwt:Rcv.wt c=c.data.length+c.skips.length+1:=rfl
  have hnx:(A++[c]).foldl (hear1 back) (l,false)=hear1 back (y,told) c:=by rw [List.foldl_append,k2];rfl
  have hli:=ztw (back:=back) (x:=(y,told)) (c:=c) k3 (by omega)
  have hwy:=(ykn back (y,told) c).trans k4
  rw [show M+Rcv.wts A+Rcv.wt c=M+Rcv.wts (A++[c]) by rw [Rcv.ykh,Rcv.ziv];simp [Rcv.wts];omega] at hli
  have hfit:=k3.rcv.fit (by omega)
  refine sT ?_
  refine zah k1 rfl ?_;conv=>whnf
  repeat (refine hcut.go ?_;conv=>whnf)
  cases back with
  | true =>
   conv=>whnf
   (refine cP ?_;refine dL (Snd.yji y.sender c k3.snd.fit k3.snd.right (by omega)) ?_)
   refine sD ?_
   repeat (refine hcut.go ?_;conv=>whnf)
   refine sF ?_
   exact ⟨⟨(hear1 true (y,told) c,A++[c],B),zak k1,hnx,hli,hwy⟩,(hle_P [(1000,some 1000),(1001,some 1001),(3,some 3)]),by simp⟩
  | false =>
   conv=>whnf
   repeat (refine hcut.go ?_;conv=>whnf)
   by_cases d1:c.kind=1
   case pos =>
    have e1:hear1 false (y,told) c=({ y with receiver:=Rcv.data y.receiver c },true):=by unfold hear1;rw [if_neg (by decide),if_pos d1]
    rw [e1] at hnx hli hwy
    rw [show (c.kind == 1)=true from beq_iff_eq.2 d1]
    conv=>whnf
    (refine cP ?_;refine dL (Rcv.yfw y.receiver c (k3.rcv.dfit (by omega) (by omega))) ?_)
    refine sD ?_
    repeat (refine hcut.go ?_;conv=>whnf)
    refine sF ?_
    exact ⟨⟨(({ y with receiver:=Rcv.data y.receiver c },true),A++[c],B),zak k1,hnx,hli,hwy⟩,(hle_P [(1000,some 1000),(1001,some 1001),(3,some 3)]),by simp⟩
   case neg =>
    rw [show (c.kind == 1)=false from beq_eq_false_iff_ne.2 d1]
    conv=>whnf
    repeat (refine hcut.go ?_;conv=>whnf)
    by_cases d2:c.kind=3
    case pos =>
     have e1:hear1 false (y,told) c=({ y with receiver:=Rcv.forward y.receiver c },true):=by unfold hear1;rw [if_neg (by decide),if_neg d1,if_pos d2]
     rw [e1] at hnx hli hwy
     rw [show (c.kind == 3)=true from beq_iff_eq.2 d2]
     conv=>whnf
     (refine cP ?_;refine dL (Rcv.ztt y.receiver c k3.rcv (by omega) (by omega)) ?_)
     refine sD ?_
     repeat (refine hcut.go ?_;conv=>whnf)
     refine sF ?_
     exact ⟨⟨(({ y with receiver:=Rcv.forward y.receiver c },true),A++[c],B),zak k1,hnx,hli,hwy⟩,(hle_P [(1000,some 1000),(1001,some 1001),(3,some 3)]),by simp⟩
    case neg =>
     have e1:hear1 false (y,told) c=(y,told):=by unfold hear1;rw [if_neg (by decide),if_neg d1,if_neg d2]
     rw [e1] at hnx hli hwy
     rw [show (c.kind == 3)=false from beq_eq_false_iff_ne.2 d2]
     conv=>whnf
     repeat (refine hcut.go ?_;conv=>whnf)
     refine sF ?_
     exact ⟨⟨((y,told),A++[c],B),zak k1,hnx,hli,hwy⟩,(hle_P [(1000,some 1000),(1001,some 1001),(3,some 3)]),by simp⟩
 | nil =>
  have hz:=zbr k1
  rw [List.append_nil] at k1
  rw [<- k1] at k2 k3
  rw [hall,k2] at hT
  dsimp only at hT
  obtain ⟨w1,w2⟩:=hw
  have hfit:=k3.rcv.fit (by omega)
  refine sN ?_
  cases told with
  | false =>
   rw [if_neg (by decide)] at hT
   subst hT
   conv=>whnf
   (exact zby [(1000,some 1000),(1001,some 1001),(0,some 1001)] (by repeat' (first | exact z0 | refine z1 ?_ | refine ⟨?_,?_⟩ | ((exact zal (by rw [k4]))) | exact z2)))
  | true =>
   rw [if_pos rfl] at hT
   conv=>whnf
   repeat (refine hcut.go ?_;conv=>whnf)
   have hcb:=k3.rcv.cumB (by omega)
   (refine cP ?_;refine dL (Rcv.yfx y.receiver (by have:=hfit.spans;omega) (by have:=hfit.pieces;omega) (by have:=hfit.bytes;omega) hcb.1 hcb.2 (k3.rcv.spansB (by omega))) ?_)
   (refine cP ?_;refine dL (Pck.zdu [Rcv.tells y.receiver] 120 (yac _)) ?_)
   unfold Ln.told at hT
   generalize Pck.pbytes [Rcv.tells y.receiver] 120=K2 at hT ⊢
   obtain ⟨b,e⟩:=K2
   dsimp only at hT
   by_cases c3:e=0
   case pos =>
    rw [if_pos c3] at hT
    subst hT c3
    conv=>whnf
    (refine zab [false,true] [(1000,1000),(1001,1001)] [(0,940)] ?_;(conv=>whnf);refine dG (zhg y.sender y.receiver l.way [⟨path,true,b⟩] (by simp)) ?_)
    (exact zby [(1000,some 1000),(1001,some 1001),(0,some 940)] (by repeat' (first | exact z0 | refine z1 ?_ | refine ⟨?_,?_⟩ | ((exact zal (by rw [k4]))) | exact z2)))
   case neg =>
    rw [if_neg c3] at hT
    subst hT
    rw [show (e == 0)=false from beq_eq_false_iff_ne.2 c3]
    conv=>whnf
    (exact zby [(1000,some 1000),(1001,some 1001),(0,some 1001)] (by repeat' (first | exact z0 | refine z1 ?_ | refine ⟨?_,?_⟩ | ((exact zal (by rw [k4]))) | exact z2)))
end Ln
end Go.HL
namespace Go.HL
open Go.Proofs
namespace Snd
open Ser
set_option maxHeartbeats 8000000
set_option maxRecDepth 100000
set_option linter.unusedSimpArgs false
theorem PF.down {j i:Nat} {s:Sender} (h:PF (j+i) s):PF j s:=⟨h.g,h.some,h.part,h.part2,h.msg,h.chunk,Nat.lt_of_le_of_lt (Nat.add_le_add_left (Nat.mul_le_mul_right _ (Nat.le_add_right j i)) _) h.bytes,h.few⟩
theorem PO.down {g:Config} {j i n k:Nat} {p:Pump} (h:PO g (j+i) n k p):PO g j n k p:=⟨h.pf.down,h.paths,h.outs,h.config,h.most⟩
theorem ydl:∀ (i:Nat) {g:Config} {j n k:Nat} {p:Pump},PO g (j+i) n k p -> PO g j n (k+i) (nexts i p)
 | 0,_,_,_,_,_,h=>h
 | i+1,g,j,n,k,p,h=>by
  unfold nexts
  rcases zzs (j:=j+i) h with ⟨-,e⟩ | ⟨q,-,e,-,-,h2⟩
  . rw [e];exact h.down.mono (by omega)
  . rw [e]
    have:=ydl i h2
    exact this.mono (by omega)
theorem zxl (most path:Int):∀ (n:Nat) (l:List Chunk),(packN most path n l).length <= n
 | 0,l=>by simp [packN]
 | n+1,l=>by
  have:=zxl most path n (l.drop (room1 most l).toNat)
  have h1:(pack1 most path l).length <= 1:=by unfold pack1;split <;> simp
  unfold packN
  split
  . simp
  . rw [List.length_append];omega
theorem zmh (most:Int) {k:Nat}:∀ (ls:List (List Chunk)) (i:Nat),(∀ l ∈ ls,l.length <= k) -> (zbk most i ls).length <= k * ls.length
 | [],i,_=>by simp [zbk]
 | l :: ls,i,h=>by
  have h1:=zxl most i l.length l
  have h2:=zmh most ls (i+1) fun x hx=>h x (by simp [hx])
  have h3:=h l (by simp)
  unfold zbk
  rw [List.length_append,List.length_cons,Nat.mul_add];omega
theorem zkt {N:Nat} {s:Sender} (h:SI N s):(pump s).2.length < 2 ^ 62:=by
 have e1:=zth (zir (zkn h.pf))
 have e2:=ydl (j:=1) 61 e1
 have h1:=(zir (zkn h.pf)).pf.few
 have h2:=h.npaths
 have h3:=zbo h.cfg
 have h4:=zmh s.config.packet (pumpP s).out 0 fun l hl=>(e2.most l hl).1
 have h5:(pumpP s).out.length=s.paths.length:=e2.outs
 rw [h5] at h4
 have h6:s.paths.length <= 2:=by omega
 show (zbk s.config.packet 0 (pumpP s).out).length < _
 refine Nat.lt_of_le_of_lt h4 (Nat.lt_of_le_of_lt (Nat.mul_le_mul_left _ h6) ?_)
 omega
end Snd
namespace Ln
open Ser
set_option maxHeartbeats 8000000
set_option maxRecDepth 100000
set_option linter.unusedSimpArgs false
def noR:Receiver:=⟨⟨0,0,0,0,0,0,0⟩,0,[],[],[],[]⟩
def noL:Line:=⟨Snd.noS,noR,[]⟩
def newLP (c:Config):Line × Int:=if Snd.wrgS c=0 then (newL c,0) else (noL,Snd.wrgS c)
theorem zpg (c:Config):FunOK Tryz.prog 54 [c.hv] zac (.tup [(newLP c).1.hv,i64 (newLP c).2]) zac:=by
 refine zao mixed Tryz.func54 (by decide) ?_
 conv=>whnf
 have pn:=Snd.zkd c
 by_cases c1:Snd.wrgS c=0
 case neg =>
  rw [show newLP c=(noL,Snd.wrgS c) from if_neg c1]
  rw [show Snd.newP c=(Snd.noS,Snd.wrgS c) from if_neg c1] at pn
  (refine cP ?_;refine dL pn ?_)
  rw [show (Snd.wrgS c != 0)=true from bne_iff_ne.2 c1]
  conv=>whnf
  try rfl
 case pos =>
  have hw:=Snd.zbo c1
  rw [show newLP c=(newL c,0) from if_pos c1]
  rw [show Snd.newP c=(Snd.newS c,0) from if_pos c1] at pn
  (refine cP ?_;refine dL pn ?_)
  repeat (refine hcut.go ?_;conv=>whnf)
  (refine cP ?_;refine dL (Rcv.yki c (by omega) (by omega) (by omega)) ?_)
  ((refine zau ?_ ?_;(· kernel_rfl);conv=>whnf);try (refine hcut.go ?_;conv=>whnf))
  try rfl
theorem yng (l:List Packet) (i j:Nat) (hij:i <= j) (hj:j <= l.length) (hb:l.length < 2 ^ 40) :
 FunOK Tryz.prog 117 [.osl 1000 3 0 (l.map Packet.row).length,i64 i,i64 j] (lk .free [(1000,.live (.row 110 3 (l.map Packet.row)))])
  (.osl 1000 3 0 (l.length - (j - i))) (lk .free [(1000,.live (.row 110 3 ((l.take i++l.drop j).map Packet.row++List.replicate (j - i) ([pi 0,pb false,.v (.slice none 0 0)]))))]):=by
 refine zaj mixed Tryz.func117 (by decide) [1000] zav ?_
 have hlr:(l.map Packet.row).length=l.length:=by simp
 conv=>whnf
 refine sO ?_
 by_cases h:i=j
 . subst h
   refine sT ?_
   refine zai [(1000,some 1000)] rfl rfl ⟨rfl,trivial⟩ rfl ?_ ⟨⟨rfl,.inl ⟨1000,rfl,?_⟩⟩,trivial⟩
   . show HV.osl 1000 3 0 (l.length - (i - i))=HV.osl 1000 3 0 (l.map Packet.row).length
     rw [hlr,Nat.sub_self];rfl
   . show HSlot.live (.row _ 3 (l.map Packet.row))=HSlot.live (.row _ 3 _)
     rw [List.take_append_drop,Nat.sub_self,List.replicate_zero,List.append_nil]
 . refine sN ?_
   refine sO ?_
   refine sO ?_
   refine ⟨_,rfl,?_,?_⟩
   . rw [hlr];omega
   conv=>whnf
   refine zaa (by simp;omega) ?_
   conv=>whnf
   refine zau ?_ ?_
   . kernel_rfl
   conv=>whnf
   refine zaa (by simp [splice];omega) ?_
   conv=>whnf
   refine zaa (by simp [splice];omega) ?_
   conv=>whnf
   refine zai [(1000,some 1000)] rfl rfl ⟨rfl,trivial⟩ rfl ?_ ⟨⟨rfl,.inl ⟨1000,rfl,?_⟩⟩,trivial⟩
   . show HV.osl 1000 3 0 _=HV.osl 1000 3 0 _
     congr 1
     simp;omega
   . refine (congrArg (fun r=>HSlot.live (.row _ 3 r)) (zte (rows:=l.map Packet.row) (i:=i) (j:=j) (z:=([pi 0,pb false,.v (.slice none 0 0)])) hij (by rw [hlr];exact hj) ?_ ?_ ?_ ?_ ?_)).trans ?_
     . simp <;> omega
     . simp <;> omega
     . simp <;> omega
     . simp;omega
     . simp;omega
     . rw [List.map_append,List.map_take,List.map_drop];rfl
theorem yry (l:List Packet) (i j:Nat) (hij:i <= j) (hj:j <= l.length) (hb:l.length < 2 ^ 40) :
 FunOK Tryz.prog 117 [.own 1000,i64 i,i64 j] (lk .free [(1000,.live (.row 110 3 (l.map Packet.row)))])
  (.own 0) (lk .free [(1000,.dead),(0,.live (.row 110 3 ((l.take i++l.drop j).map Packet.row)))]):=by
 have h:=zgb (d:=0) (L:=[]) (rows:=(l.take i++l.drop j).map Packet.row++List.replicate (j - i) ([pi 0,pb false,.v (.slice none 0 0)])) (zob (yng l i j hij hj hb)) (.inl rfl) (by simp;omega) rfl (by decide)
 rwa [List.take_left' (by simp;omega)] at h
theorem yfz (a b:List Packet) (x:Packet) (i j:Int) (hi:i=a.length) (hj:j=a.length+1) (hb:(a++x :: b).length < 2 ^ 40) :
 FunOK Tryz.prog 117 [.own 1000,i64 i,i64 j] (lk .free [(1000,.live (.row 110 3 ((a++x :: b).map Packet.row)))])
  (.own 0) (lk .free [(1000,.dead),(0,.live (.row 110 3 ((a++b).map Packet.row)))]):=by
 subst hi hj
 have h:=yry (a++x :: b) a.length (a.length+1) (by omega) (by simp) hb
 rwa [List.take_left,show (a++x :: b).drop (a.length+1)=b by rw [<- List.drop_drop,List.drop_left];rfl,Int.natCast_add] at h
theorem zxm {inp out:List Packet} (a b:List Packet) (x:Packet) (i j:Int) (h1:inp=a++x :: b) (h2:out=a++b) (hi:i=a.length) (hj:j=a.length+1) (hb:inp.length < 2 ^ 40) :
 FunOK Tryz.prog 117 [.own 1000,i64 i,i64 j] (lk .free [(1000,.live (.row 110 3 (inp.map Packet.row)))])
  (.own 0) (lk .free [(1000,.dead),(0,.live (.row 110 3 (out.map Packet.row)))]):=by
 subst h1 h2;exact yfz a b x i j hi hj hb
theorem ynh {N M:Nat} (l:Line) (x:Step) (h:LI N M l) (hN:N+1 <= 2 ^ 20) (hM:M+120 <= 2 ^ 20) (hx:x.message.data.length < 2 ^ 38) :
 FunOK Tryz.prog 65 [l.hv,x.hv] zac (.tup [.agg (lnC (doS l x).1.sender (doS l x).1.receiver (.own 0)),(doS l x).2.hv]) (lk .free [(0,rowPk (doS l x).1.way)]):=by
 have hway:=h.way
 have hby:=h.bytes
 generalize hT:doS l x=T
 rw [doS] at hT
 refine zaj mixed Tryz.func65 (by decide) [] (fun _=>.inl rfl) ?_
 conv=>whnf
 (refine zam [(0,20)]  ?_;(conv=>whnf);refine dO (zxk l h.snd.fit (h.rcv.fit h.small) (by omega) (fun p hp=>by have:=hby p hp;omega)) ?_)
 by_cases c1:x.kind=1
 case pos =>
  rw [if_pos c1] at hT
  rw [show (x.kind == 1)=true from beq_iff_eq.2 c1]
  conv=>whnf
  have ps:=Snd.yjc l.sender x.message h.snd.fit hx
  by_cases e1:Snd.zdv l.sender x.message=0
  case pos =>
   rw [if_pos e1] at hT
   subst hT
   rw [Snd.zwk e1] at ps
   (refine cP ?_;refine dL ps ?_)
   repeat (refine hcut.go ?_;conv=>whnf)
   have hy:=(show LI (N+1) M { l with sender:=Snd.sendS l.sender x.message } from ⟨Snd.zzv h.snd e1 hN,h.rcv,h.small,h.way,h.bytes⟩)
   have hyw:=Snd.zbo hy.snd.cfg
   have hyp:=hy.snd.npaths
   (refine cP ?_;refine dL (Snd.zia (({ l with sender:=Snd.sendS l.sender x.message }:Line)).sender hy.snd.pf (by unfold inI;omega) (by omega)) ?_)
   repeat (refine hcut.go ?_;conv=>whnf)
   (refine zab [] [(1000,6),(1001,20)] [(0,950)] ?_;(conv=>whnf);refine dG (zhg (Snd.pump (({ l with sender:=Snd.sendS l.sender x.message }:Line)).sender).1 (({ l with sender:=Snd.sendS l.sender x.message }:Line)).receiver (({ l with sender:=Snd.sendS l.sender x.message }:Line)).way (Snd.pump (({ l with sender:=Snd.sendS l.sender x.message }:Line)).sender).2 (Snd.zkt hy.snd)) ?_ ⟨rfl,rfl,rfl,⟨⟨rfl,_,rfl,.inl ⟨rfl,rfl⟩⟩,⟨⟨rfl,_,rfl,.inl ⟨rfl,rfl⟩⟩,trivial⟩⟩,⟨⟨rfl,rfl⟩,trivial⟩,rfl,rfl,rfl⟩)
   refine sD ?_
   exact zai [(0,some 950)] rfl rfl trivial rfl rfl ⟨⟨rfl,.inl ⟨950,rfl,rfl⟩⟩,trivial⟩
  case neg =>
   rw [if_neg e1] at hT
   subst hT
   rw [Snd.zmv rfl e1] at ps
   (refine cP ?_;refine dL ps ?_)
   rw [show (Snd.zdv l.sender x.message != 0)=true from bne_iff_ne.2 e1]
   conv=>whnf
   exact zai [(0,some 20)] rfl rfl trivial rfl rfl ⟨⟨rfl,.inl ⟨20,rfl,rfl⟩⟩,trivial⟩
 case neg =>
  rw [if_neg c1] at hT
  rw [show (x.kind == 1)=false from beq_eq_false_iff_ne.2 c1]
  conv=>whnf
  repeat (refine hcut.go ?_;conv=>whnf)
  by_cases c2:x.kind=2 \/ x.kind=3 \/ x.kind=4
  case neg =>
   rw [if_neg c2] at hT
   have c2:=not_or.1 c2
   have c3:=not_or.1 c2.2
   rw [show (x.kind == 2)=false from beq_eq_false_iff_ne.2 c2.1]
   conv=>whnf
   repeat (refine hcut.go ?_;conv=>whnf)
   rw [show (x.kind == 3)=false from beq_eq_false_iff_ne.2 c3.1]
   conv=>whnf
   repeat (refine hcut.go ?_;conv=>whnf)
   rw [show (x.kind == 4)=false from beq_eq_false_iff_ne.2 c3.2]
   conv=>whnf
   repeat (refine hcut.go ?_;conv=>whnf)
   by_cases c5:x.kind=5
   case pos =>
    rw [if_pos c5] at hT
    subst hT
    rw [show (x.kind == 5)=true from beq_iff_eq.2 c5]
    conv=>whnf
    repeat (refine hcut.go ?_;conv=>whnf)
    (refine cP ?_;refine dL (Snd.yjd l.sender h.snd.fit) ?_)
    repeat (refine hcut.go ?_;conv=>whnf)
    have hy:=(show LI N M { l with sender:=Snd.tick l.sender } from ⟨Snd.zzx h.snd,h.rcv,h.small,h.way,h.bytes⟩)
    have hyw:=Snd.zbo hy.snd.cfg
    have hyp:=hy.snd.npaths
    (refine cP ?_;refine dL (Snd.zia (({ l with sender:=Snd.tick l.sender }:Line)).sender hy.snd.pf (by unfold inI;omega) (by omega)) ?_)
    repeat (refine hcut.go ?_;conv=>whnf)
    (refine zab [] [(1000,6),(1001,20)] [(0,950)] ?_;(conv=>whnf);refine dG (zhg (Snd.pump (({ l with sender:=Snd.tick l.sender }:Line)).sender).1 (({ l with sender:=Snd.tick l.sender }:Line)).receiver (({ l with sender:=Snd.tick l.sender }:Line)).way (Snd.pump (({ l with sender:=Snd.tick l.sender }:Line)).sender).2 (Snd.zkt hy.snd)) ?_ ⟨rfl,rfl,rfl,⟨⟨rfl,_,rfl,.inl ⟨rfl,rfl⟩⟩,⟨⟨rfl,_,rfl,.inl ⟨rfl,rfl⟩⟩,trivial⟩⟩,⟨⟨rfl,rfl⟩,trivial⟩,rfl,rfl,rfl⟩)
    refine sD ?_
    exact zai [(0,some 950)] rfl rfl trivial rfl rfl ⟨⟨rfl,.inl ⟨950,rfl,rfl⟩⟩,trivial⟩
   case neg =>
    rw [if_neg c5] at hT
    subst hT
    rw [show (x.kind == 5)=false from beq_eq_false_iff_ne.2 c5]
    conv=>whnf
    exact zai [(0,some 20)] rfl rfl trivial rfl rfl ⟨⟨rfl,.inl ⟨20,rfl,rfl⟩⟩,trivial⟩
  case pos =>
   rw [if_pos c2] at hT
   have c6:x.kind=2 \/ x.kind ≠ 2 /\ (x.kind=3 \/ x.kind ≠ 3 /\ x.kind=4):=by omega
   rcases c6 with c6 | ⟨c8,c6 | ⟨c7,c6⟩⟩
   . rw [show (x.kind == 2)=true from beq_iff_eq.2 c6]
     conv=>whnf
     repeat (refine hcut.go ?_;conv=>whnf)
     by_cases n0:x.n < 0
     case pos =>
      rw [if_pos n0] at hT
      subst hT
      rw [show decide (x.n < 0)=true from decide_eq_true n0]
      conv=>whnf
      exact zai [(0,some 20)] rfl rfl trivial rfl rfl ⟨⟨rfl,.inl ⟨20,rfl,rfl⟩⟩,trivial⟩
     case neg =>
     rw [if_neg n0] at hT
     rw [show decide (x.n < 0)=false from decide_eq_false n0]
     conv=>whnf
     cases hp:l.way[x.n.toNat]? with
     | none =>
      rw [hp] at hT
      dsimp only at hT
      subst hT
      have hge:=List.getElem?_eq_none_iff.1 hp
      rw [show decide (x.n >= ((l.way.map Packet.row).length:Int))=true from decide_eq_true (by rw [List.length_map];omega)]
      conv=>whnf
      exact zai [(0,some 20)] rfl rfl trivial rfl rfl ⟨⟨rfl,.inl ⟨20,rfl,rfl⟩⟩,trivial⟩
     | some p =>
     rw [hp] at hT
     dsimp only at hT
     have hlt:=(List.getElem?_eq_some_iff.1 hp).1
     have hpb:=hby p (List.mem_of_getElem? hp)
     have hsp:l.way=l.way.take x.n.toNat++p :: l.way.drop (x.n.toNat+1):=by
      obtain ⟨hk,e⟩:=List.getElem?_eq_some_iff.1 hp
      rw [<- e,List.getElem_cons_drop,List.take_append_drop]
     have hsl:(l.way.take x.n.toNat).length=x.n.toNat:=by simp;omega
     have her:l.way.eraseIdx x.n.toNat=l.way.take x.n.toNat++l.way.drop (x.n.toNat+1):=List.eraseIdx_eq_take_drop_succ _ _
     rw [show decide (x.n >= ((l.way.map Packet.row).length:Int))=false from decide_eq_false (by rw [List.length_map];omega)]
     conv=>whnf
     repeat (refine hcut.go ?_;conv=>whnf)
     refine zaa ⟨by omega,by rw [List.length_map];omega⟩ ?_;conv=>whnf
     refine Snd.zag hp (by omega) ?_;conv=>whnf
     rw [if_neg (by omega),if_pos c6] at hT
     rw [show (x.kind == 4)=false from beq_eq_false_iff_ne.2 (by omega)]
     conv=>whnf
     repeat (refine hcut.go ?_;conv=>whnf)
     refine zan (z:=x.n+1) (W_fit (by omega) (by omega)) ?_;conv=>whnf
     (refine zab [] [(1000,20)] [(0,930)] ?_;(conv=>whnf);refine dG (zxm (l.way.take x.n.toNat) (l.way.drop (x.n.toNat+1)) p x.n (x.n+1) hsp rfl (by omega) (by omega) (by omega)) ?_)
     rw [show (x.kind == 2)=true from beq_iff_eq.2 c6]
     conv=>whnf
     subst hT
     have hli:LI N M { l with way:=l.way.eraseIdx x.n.toNat }:=⟨h.snd,h.rcv,h.small,by show (l.way.eraseIdx _).length <= 40;rw [List.length_eraseIdx];split <;> omega,fun q hq=>hby q (List.mem_of_mem_eraseIdx hq)⟩
     (refine zab [] [(1000,6),(1001,930)] [(0,940)] ?_;(conv=>whnf);refine dG (yfy { l with way:=l.way.eraseIdx x.n.toNat } p hli hM hpb) ?_ ⟨rfl,rfl,rfl,⟨⟨rfl,_,rfl,.inl ⟨rfl,rfl⟩⟩,⟨⟨rfl,_,rfl,.inl ⟨rfl,(zal (by rw [her]))⟩⟩,trivial⟩⟩,⟨⟨rfl,rfl⟩,trivial⟩,rfl,rfl,rfl⟩)
     repeat (refine hcut.go ?_;conv=>whnf)
     have hy:=(ykl hli hpb hM)
     have hyw:=Snd.zbo hy.snd.cfg
     have hyp:=hy.snd.npaths
     (refine cP ?_;refine dL (Snd.zia ((come { l with way:=l.way.eraseIdx x.n.toNat } p)).sender hy.snd.pf (by unfold inI;omega) (by omega)) ?_)
     repeat (refine hcut.go ?_;conv=>whnf)
     (refine zab [] [(1000,6),(1001,940)] [(0,950)] ?_;(conv=>whnf);refine dG (zhg (Snd.pump ((come { l with way:=l.way.eraseIdx x.n.toNat } p)).sender).1 ((come { l with way:=l.way.eraseIdx x.n.toNat } p)).receiver ((come { l with way:=l.way.eraseIdx x.n.toNat } p)).way (Snd.pump ((come { l with way:=l.way.eraseIdx x.n.toNat } p)).sender).2 (Snd.zkt hy.snd)) ?_ ⟨rfl,rfl,rfl,⟨⟨rfl,_,rfl,.inl ⟨rfl,rfl⟩⟩,⟨⟨rfl,_,rfl,.inl ⟨rfl,rfl⟩⟩,trivial⟩⟩,⟨⟨rfl,rfl⟩,trivial⟩,rfl,rfl,rfl⟩)
     refine sD ?_
     exact zai [(0,some 950)] rfl rfl trivial rfl rfl ⟨⟨rfl,.inl ⟨950,rfl,rfl⟩⟩,trivial⟩
   . rw [show (x.kind == 2)=false from beq_eq_false_iff_ne.2 c8]
     conv=>whnf
     repeat (refine hcut.go ?_;conv=>whnf)
     rw [show (x.kind == 3)=true from beq_iff_eq.2 c6]
     conv=>whnf
     repeat (refine hcut.go ?_;conv=>whnf)
     by_cases n0:x.n < 0
     case pos =>
      rw [if_pos n0] at hT
      subst hT
      rw [show decide (x.n < 0)=true from decide_eq_true n0]
      conv=>whnf
      exact zai [(0,some 20)] rfl rfl trivial rfl rfl ⟨⟨rfl,.inl ⟨20,rfl,rfl⟩⟩,trivial⟩
     case neg =>
     rw [if_neg n0] at hT
     rw [show decide (x.n < 0)=false from decide_eq_false n0]
     conv=>whnf
     cases hp:l.way[x.n.toNat]? with
     | none =>
      rw [hp] at hT
      dsimp only at hT
      subst hT
      have hge:=List.getElem?_eq_none_iff.1 hp
      rw [show decide (x.n >= ((l.way.map Packet.row).length:Int))=true from decide_eq_true (by rw [List.length_map];omega)]
      conv=>whnf
      exact zai [(0,some 20)] rfl rfl trivial rfl rfl ⟨⟨rfl,.inl ⟨20,rfl,rfl⟩⟩,trivial⟩
     | some p =>
     rw [hp] at hT
     dsimp only at hT
     have hlt:=(List.getElem?_eq_some_iff.1 hp).1
     have hpb:=hby p (List.mem_of_getElem? hp)
     have hsp:l.way=l.way.take x.n.toNat++p :: l.way.drop (x.n.toNat+1):=by
      obtain ⟨hk,e⟩:=List.getElem?_eq_some_iff.1 hp
      rw [<- e,List.getElem_cons_drop,List.take_append_drop]
     have hsl:(l.way.take x.n.toNat).length=x.n.toNat:=by simp;omega
     have her:l.way.eraseIdx x.n.toNat=l.way.take x.n.toNat++l.way.drop (x.n.toNat+1):=List.eraseIdx_eq_take_drop_succ _ _
     rw [show decide (x.n >= ((l.way.map Packet.row).length:Int))=false from decide_eq_false (by rw [List.length_map];omega)]
     conv=>whnf
     repeat (refine hcut.go ?_;conv=>whnf)
     refine zaa ⟨by omega,by rw [List.length_map];omega⟩ ?_;conv=>whnf
     refine Snd.zag hp (by omega) ?_;conv=>whnf
     rw [if_neg (by omega),if_neg c8] at hT
     rw [show (x.kind == 4)=false from beq_eq_false_iff_ne.2 (by omega)]
     conv=>whnf
     repeat (refine hcut.go ?_;conv=>whnf)
     refine zan (z:=x.n+1) (W_fit (by omega) (by omega)) ?_;conv=>whnf
     (refine zab [] [(1000,20)] [(0,930)] ?_;(conv=>whnf);refine dG (zxm (l.way.take x.n.toNat) (l.way.drop (x.n.toNat+1)) p x.n (x.n+1) hsp rfl (by omega) (by omega) (by omega)) ?_)
     rw [show (x.kind == 2)=false from beq_eq_false_iff_ne.2 c8]
     conv=>whnf
     repeat (refine hcut.go ?_;conv=>whnf)
     subst hT
     have hli:LI N M { l with way:=l.way.eraseIdx x.n.toNat }:=⟨h.snd,h.rcv,h.small,by show (l.way.eraseIdx _).length <= 40;rw [List.length_eraseIdx];split <;> omega,fun q hq=>hby q (List.mem_of_mem_eraseIdx hq)⟩
     have hy:=hli
     have hyw:=Snd.zbo hy.snd.cfg
     have hyp:=hy.snd.npaths
     (refine cP ?_;refine dL (Snd.zia (({ l with way:=l.way.eraseIdx x.n.toNat }:Line)).sender hy.snd.pf (by unfold inI;omega) (by omega)) ?_)
     repeat (refine hcut.go ?_;conv=>whnf)
     (refine zab [] [(1000,6),(1001,930)] [(0,950)] ?_;(conv=>whnf);refine dG (zhg (Snd.pump (({ l with way:=l.way.eraseIdx x.n.toNat }:Line)).sender).1 (({ l with way:=l.way.eraseIdx x.n.toNat }:Line)).receiver (({ l with way:=l.way.eraseIdx x.n.toNat }:Line)).way (Snd.pump (({ l with way:=l.way.eraseIdx x.n.toNat }:Line)).sender).2 (Snd.zkt hy.snd)) ?_ ⟨rfl,rfl,rfl,⟨⟨rfl,_,rfl,.inl ⟨rfl,rfl⟩⟩,⟨⟨rfl,_,rfl,.inl ⟨rfl,(zal (by rw [her]))⟩⟩,trivial⟩⟩,⟨⟨rfl,rfl⟩,trivial⟩,rfl,rfl,rfl⟩)
     refine sD ?_
     exact zai [(0,some 950)] rfl rfl trivial rfl rfl ⟨⟨rfl,.inl ⟨950,rfl,rfl⟩⟩,trivial⟩
   . rw [show (x.kind == 2)=false from beq_eq_false_iff_ne.2 c8]
     conv=>whnf
     repeat (refine hcut.go ?_;conv=>whnf)
     rw [show (x.kind == 3)=false from beq_eq_false_iff_ne.2 c7]
     conv=>whnf
     repeat (refine hcut.go ?_;conv=>whnf)
     rw [show (x.kind == 4)=true from beq_iff_eq.2 c6]
     conv=>whnf
     repeat (refine hcut.go ?_;conv=>whnf)
     by_cases n0:x.n < 0
     case pos =>
      rw [if_pos n0] at hT
      subst hT
      rw [show decide (x.n < 0)=true from decide_eq_true n0]
      conv=>whnf
      exact zai [(0,some 20)] rfl rfl trivial rfl rfl ⟨⟨rfl,.inl ⟨20,rfl,rfl⟩⟩,trivial⟩
     case neg =>
     rw [if_neg n0] at hT
     rw [show decide (x.n < 0)=false from decide_eq_false n0]
     conv=>whnf
     cases hp:l.way[x.n.toNat]? with
     | none =>
      rw [hp] at hT
      dsimp only at hT
      subst hT
      have hge:=List.getElem?_eq_none_iff.1 hp
      rw [show decide (x.n >= ((l.way.map Packet.row).length:Int))=true from decide_eq_true (by rw [List.length_map];omega)]
      conv=>whnf
      exact zai [(0,some 20)] rfl rfl trivial rfl rfl ⟨⟨rfl,.inl ⟨20,rfl,rfl⟩⟩,trivial⟩
     | some p =>
     rw [hp] at hT
     dsimp only at hT
     have hlt:=(List.getElem?_eq_some_iff.1 hp).1
     have hpb:=hby p (List.mem_of_getElem? hp)
     have hsp:l.way=l.way.take x.n.toNat++p :: l.way.drop (x.n.toNat+1):=by
      obtain ⟨hk,e⟩:=List.getElem?_eq_some_iff.1 hp
      rw [<- e,List.getElem_cons_drop,List.take_append_drop]
     have hsl:(l.way.take x.n.toNat).length=x.n.toNat:=by simp;omega
     have her:l.way.eraseIdx x.n.toNat=l.way.take x.n.toNat++l.way.drop (x.n.toNat+1):=List.eraseIdx_eq_take_drop_succ _ _
     rw [show decide (x.n >= ((l.way.map Packet.row).length:Int))=false from decide_eq_false (by rw [List.length_map];omega)]
     conv=>whnf
     repeat (refine hcut.go ?_;conv=>whnf)
     refine zaa ⟨by omega,by rw [List.length_map];omega⟩ ?_;conv=>whnf
     refine Snd.zag hp (by omega) ?_;conv=>whnf
     rw [if_pos c6] at hT
     rw [show (x.kind == 4)=true from beq_iff_eq.2 c6]
     conv=>whnf
     (refine zam [(0,935)]  ?_;(conv=>whnf);refine dO (ydj [p] (by simp) (fun q hq=>by rw [List.mem_singleton] at hq;subst hq;omega)) ?_)
     (refine zab [false,true] [(1000,6),(1001,20)] [(0,940)] ?_;(conv=>whnf);refine dG (zhg l.sender l.receiver l.way [p] (by simp)) ?_)
     repeat (refine hcut.go ?_;conv=>whnf)
     subst hT
     have hput:LI N M { l with way:=putW l.way [p] }:=zxj h fun q hq=>by rw [List.mem_singleton] at hq;subst hq;exact hpb
     have hy:=hput
     have hyw:=Snd.zbo hy.snd.cfg
     have hyp:=hy.snd.npaths
     (refine cP ?_;refine dL (Snd.zia (({ l with way:=putW l.way [p] }:Line)).sender hy.snd.pf (by unfold inI;omega) (by omega)) ?_)
     repeat (refine hcut.go ?_;conv=>whnf)
     (refine zab [] [(1000,6),(1001,940)] [(0,950)] ?_;(conv=>whnf);refine dG (zhg (Snd.pump (({ l with way:=putW l.way [p] }:Line)).sender).1 (({ l with way:=putW l.way [p] }:Line)).receiver (({ l with way:=putW l.way [p] }:Line)).way (Snd.pump (({ l with way:=putW l.way [p] }:Line)).sender).2 (Snd.zkt hy.snd)) ?_ ⟨rfl,rfl,rfl,⟨⟨rfl,_,rfl,.inl ⟨rfl,rfl⟩⟩,⟨⟨rfl,_,rfl,.inl ⟨rfl,rfl⟩⟩,trivial⟩⟩,⟨⟨rfl,rfl⟩,trivial⟩,rfl,rfl,rfl⟩)
     refine sD ?_
     exact zai [(0,some 950)] rfl rfl trivial rfl rfl ⟨⟨rfl,.inl ⟨950,rfl,rfl⟩⟩,trivial⟩
theorem ykp {N M:Nat} (l:Line) (x:Step) (h:LI N M l) (hN:N+1 <= 2 ^ 20) (hM:M+120 <= 2 ^ 20) (hx:x.message.data.length < 2 ^ 38) :
 FunOK Tryz.prog 65 [l.hv,x.hv] zac (.tup [(doS l x).1.hv,(doS l x).2.hv]) zac:=by
 refine zbn Tryz.func65 (ynh l x h hN hM hx) ?_
 generalize doS l x=d
 conv=>whnf
 rfl
theorem zbx {N M:Nat} (l:Line) (h:LI N M l):FunOK Tryz.prog 55 [l.hv] zac l.hv zac:=by
 have hway:=h.way
 refine zbn Tryz.func55 (zxk l h.snd.fit (h.rcv.fit h.small) (by omega) (fun p hp=>by have:=h.bytes p hp;omega)) ?_
 conv=>whnf
 rfl
end Ln
end Go.HL
namespace Go.HL
open Go.Proofs
namespace Ln
open Ser
set_option maxHeartbeats 8000000
set_option maxRecDepth 100000
set_option linter.unusedSimpArgs false
abbrev rowAn (l:List Answer):HSlot:=.live (.row 81 2 (l.map Answer.row))
abbrev stps (l:List Step):HV:=.p (.sl 7 (l.map Step.row))
abbrev lnL (l:Line):HSlot:=.live (.cells 40 l.cells)
abbrev zeroL:List HV:=[i64 0,i64 0,i64 0,i64 0,i64 0,i64 0,i64 0,i64 0,hnil,i64 0,i64 0,hnil,hnil,hnil,i64 0,i64 0,i64 0,hnil,hnil,hbool false,i64 0,i64 0,i64 0,i64 0,i64 0,i64 0,i64 0,i64 0,i64 0,hnil,hnil,hnil,hnil,hnil]
def playP (c:Config) (l:List Step):Line × List Answer × Int :=
 if Snd.wrgS c ≠ 0 then (noL,[],Snd.wrgS c) else if l.length > 200 then (noL,[],5) else ((play (newL c) l).1,(play (newL c) l).2,0)
theorem ykq (l:Line) (A:List Step) (x:Step):play l (A++[x])=((doS (play l A).1 x).1,(play l A).2++[(doS (play l A).1 x).2]):=by
 rw [ydh];rfl
theorem zxn (c:Config) (l:List Step) (h:Snd.wrgS c ≠ 0 \/ l.length > 200) :
 FunOK Tryz.prog 21 [c.hv,stps l] zac (.tup [(playP c l).1.hv,.p (.sl 2 ((playP c l).2.1.map Answer.row)),i64 (playP c l).2.2]) zac:=by
 refine zao mixed Tryz.func21 (by decide) ?_
 generalize hT:playP c l=T
 rw [playP] at hT
 conv=>whnf
 have pn:=zpg c
 by_cases c1:Snd.wrgS c=0
 case neg =>
  rw [if_pos c1] at hT
  subst hT
  rw [show newLP c=(noL,Snd.wrgS c) from if_neg c1] at pn
  (refine cP ?_;refine dL pn ?_)
  rw [show (Snd.wrgS c != 0)=true from bne_iff_ne.2 c1]
  conv=>whnf
  try rfl
 case pos =>
  rw [if_neg (fun h=>h c1)] at hT
  rw [show newLP c=(newL c,0) from if_pos c1] at pn
  (refine cP ?_;refine dL pn ?_)
  repeat (refine hcut.go ?_;conv=>whnf)
  have c2:l.length > 200:=h.resolve_left (fun h=>h c1)
  rw [if_pos c2] at hT
  subst hT
  refine zaf (by simp;omega) ?_;conv=>whnf
  try rfl
theorem yga (c:Config) (l:List Step) (c1:Snd.wrgS c=0) (c2:¬ l.length > 200) (hb:∀ x ∈ l,x.message.data.length < 2 ^ 38) :
 FunOK Tryz.prog 21 [c.hv,stps l] zac (.tup [(playP c l).1.hv,.own 0,i64 (playP c l).2.2]) (lk .free [(0,rowAn (playP c l).2.1)]):=by
 refine zaj mixed Tryz.func21 (by decide) [] (fun _=>.inl rfl) ?_
 generalize hT:playP c l=T
 rw [playP,if_neg (fun h=>h c1),if_neg c2] at hT
 conv=>whnf
 have pn:=zpg c
 rw [show newLP c=(newL c,0) from if_pos c1] at pn
 (refine cP ?_;refine dL pn ?_)
 repeat (refine hcut.go ?_;conv=>whnf)
 refine zad (by simp;omega) ?_;conv=>whnf
 repeat (refine hcut.go ?_;conv=>whnf)
 refine ⟨{ x:(Line × List Answer) × List Step × List Step // l=x.2.1++x.2.2 /\ play (newL c) x.2.1=x.1 /\ LI x.2.1.length (120 * x.2.1.length) x.1.1 },fun | ⟨((y,az),A,B),_⟩=>hs 47 [(4,.ptr 4 0),(7,.ptr 7 0),(9,.own 900),(27,stps l),(28,i64 l.length),(29,i64 A.length)] [(4,.live (.cells 40 zeroL)),(7,lnL y),(900,rowAn az)],fun x=>x.1.2.2.length,⟨((newL c,[]),[],l),rfl,rfl,zty c1⟩,?_,?_⟩
 . exact (hle_Q [(4,some 4),(7,some 7),(900,none)])
 rintro ⟨⟨⟨y,az⟩,A,B⟩,k1,k2,k3⟩
 dsimp only at k1 k2 k3
 conv=>whnf
 cases B with
 | cons x B =>
  have hz:=zbi k1
  have hxd:=hb x (zgx k1)
  have hnx:=ykq (newL c) A x
  rw [k2] at hnx
  dsimp only at hnx
  have hli:=ykm k3 x (by omega) (by omega)
  have pd:=ykp y x k3 (by omega) (by omega) hxd
  have hal:az.length=A.length:=by have:=ztu A (newL c);rw [k2] at this;exact this
  generalize doS y x=D at hnx hli pd
  obtain ⟨z,a⟩:=D
  dsimp only at hnx hli
  refine sT ?_
  refine zah k1 rfl ?_;conv=>whnf
  (refine cP ?_;refine dL pd ?_)
  refine zaa (c:=((az.map Answer.row).length+1) * 16 <= 140737488355328) (by rw [List.length_map];omega) ?_;conv=>whnf
  refine sF ?_
  exact ⟨⟨((z,az++[a]),A++[x],B),zak k1,hnx,by rw [List.length_append,List.length_singleton,show 120 * (A.length+1)=120 * A.length+120 by omega];exact hli⟩,(hle_X [(4,some 4),(7,some 7),(900,some 43)] (by repeat' (first | exact z0 | refine z1 ?_ | refine ⟨?_,?_⟩ | ((exact zbj (f:=Answer.row) rfl rfl)) | exact z2))),by simp⟩
 | nil =>
  have hz:=zbr k1
  rw [List.append_nil] at k1
  rw [<- k1] at k2
  rw [k2] at hT
  subst hT
  refine sN ?_
  exact zai [(0,some 900)] rfl rfl trivial rfl rfl ⟨⟨rfl,.inl ⟨900,rfl,rfl⟩⟩,trivial⟩
theorem zxo (c:Config) (l:List Step) (hb:∀ x ∈ l,x.message.data.length < 2 ^ 38) :
 FunOK Tryz.prog 21 [c.hv,stps l] zac (.tup [(playP c l).1.hv,.p (.sl 2 ((playP c l).2.1.map Answer.row)),i64 (playP c l).2.2]) zac:=by
 by_cases h:Snd.wrgS c ≠ 0 \/ l.length > 200
 . exact zxn c l h
 have h:=not_or.1 h
 refine zbn Tryz.func21 (yga c l (Decidable.not_not.1 h.1) h.2 hb) ?_
 generalize playP c l=d
 conv=>whnf
 rfl
end Ln
end Go.HL
namespace Go.HL
open Go.Proofs
namespace Snd
open Ser
set_option maxHeartbeats 8000000
set_option maxRecDepth 100000
set_option linter.unusedSimpArgs false
def cfg9:Config:=⟨1,4,40,1,1,3,0⟩
def msg9:Message:=⟨0,false,0,0,[104,101,108,108,111]⟩
end Snd
end Go.HL
namespace Go.HL
open Go.Proofs
namespace Ln
open Ser Snd
set_option maxHeartbeats 8000000
set_option maxRecDepth 100000
set_option linter.unusedSimpArgs false
def stp (k:Int):Step:=⟨k,0,⟨0,false,0,0,[]⟩⟩
def hello:Step:=⟨1,0,msg9⟩
def ln9a:Line:=⟨⟨⟨1,4,40,1,1,3,0⟩,0,[],⟨0,(-1),[5]⟩,[⟨0,0,1,0,0,1,0,0,0,⟨1,0,0,0,0,false,false,[104,101,108,108],[],0,[]⟩⟩,⟨1,0,1,0,0,1,0,0,0,⟨1,1,0,0,1,true,false,[111],[],0,[]⟩⟩],[⟨8,128,0,5,0,3,3⟩],(-1),2,400,[0,1],[1],false,(-1)⟩,⟨⟨1,4,40,1,1,3,0⟩,(-1),[],[],[0],[]⟩,[⟨0,false,[1,11,0,0,0,0,0,0,0,104,101,108,108,1,8,0,1,0,1,0,0,1,111]⟩]⟩
def ln9b:Line:=⟨⟨⟨1,4,40,1,1,3,0⟩,0,[],⟨0,(-1),[5]⟩,[⟨0,0,1,0,0,1,0,0,0,⟨1,0,0,0,0,false,false,[104,101,108,108],[],0,[]⟩⟩,⟨1,0,1,0,0,1,0,0,0,⟨1,1,0,0,1,true,false,[111],[],0,[]⟩⟩],[⟨8,128,0,5,0,3,3⟩],(-1),2,400,[0,1],[1],false,(-1)⟩,⟨⟨1,4,40,1,1,3,0⟩,1,[],[],[0],[⟨0,0,false,[104,101,108,108,111]⟩]⟩,[⟨0,true,[2,4,0,1,1,144]⟩]⟩
def ln9c:Line:=⟨⟨⟨1,4,40,1,1,3,0⟩,0,[],⟨0,(-1),[5]⟩,[],[⟨12,128,0,0,0,0,3⟩],1,2,400,[0,1],[2],false,(-1)⟩,⟨⟨1,4,40,1,1,3,0⟩,1,[],[],[0],[⟨0,0,false,[104,101,108,108,111]⟩]⟩,[]⟩
def ln9d:Line:=⟨⟨⟨1,4,40,1,1,3,0⟩,1,[],⟨0,(-1),[5]⟩,[],[⟨12,128,0,0,0,0,3⟩],1,2,400,[0,1],[2],false,(-1)⟩,⟨⟨1,4,40,1,1,3,0⟩,1,[],[],[0],[⟨0,0,false,[104,101,108,108,111]⟩]⟩,[]⟩
theorem ln9_a:doS (newL cfg9) hello=(ln9a,⟨0,0⟩):=by kernel_rfl
theorem ln9_b:doS ln9a (stp 2)=(ln9b,⟨0,0⟩):=by kernel_rfl
theorem ln9_c:doS ln9b (stp 2)=(ln9c,⟨0,0⟩):=by kernel_rfl
theorem ln9_d:doS ln9c (stp 5)=(ln9d,⟨0,0⟩):=by kernel_rfl
theorem ydm:play (newL cfg9) [hello,stp 2,stp 2]=(ln9c,[⟨0,0⟩,⟨0,0⟩,⟨0,0⟩]):=by
 simp only [play,ln9_a,ln9_b,ln9_c]
theorem yok:LI 3 360 ln9c:=by
 have:=ztx [hello,stp 2,stp 2] (zty (c:=cfg9) (by decide)) (by decide) (by decide)
 rw [ydm] at this;exact this
theorem yqq:LI 4 480 ln9d:=by
 have:=ykm yok (stp 5) (by decide) (by decide)
 rw [ln9_d] at this;exact this
theorem yad {X Y N:Line} {a b d A:Answer} {u:Arrival} (p0:FunOK Tryz.prog 21 [cfg9.hv,stps [hello,stp 2,stp 2]] zac (.tup [X.hv,.p (.sl 2 ([a,b,d].map Answer.row)),i64 0]) zac) (p1:FunOK Tryz.prog 65 [X.hv,(stp 5).hv] zac (.tup [Y.hv,A.hv]) zac)
 (p2:FunOK Tryz.prog 54 [cfg9.hv] zac (.tup [N.hv,i64 0]) zac) (p3:FunOK Tryz.prog 55 [Y.hv] zac Y.hv zac)
 (e1:d.err=0) (e2:X.receiver.log=[u]) (e3:u.data=[104,101,108,108,111]) (e4:X.sender.fates=[2]) (e5:A.err=0) (e6:Y.sender.clock=1) (e7:N.way=[]) (e8:Y.receiver.log.length=1):FunOK Tryz.prog 56 [] zac (hbool true) zac:=by
 refine zao mixed Tryz.func56 (by decide) ?_
 conv=>whnf
 ((refine zaa ?_ ?_;(· first | kernel_rfl | exact om);conv=>whnf);try (refine hcut.go ?_;conv=>whnf))
 (refine cP ?_;refine dL p0 ?_)
 (refine cP ?_;refine dL p1 ?_)
 (refine cP ?_;refine dL p2 ?_)
 refine zbg (r:=d.row) (by decide) rfl ?_;conv=>whnf
 rw [show (d.err == 0)=true by rw [e1];rfl]
 conv=>whnf
 rw [show (((X.receiver.log.map Arrival.row).length:Int) == 1)=true by rw [e2];rfl]
 refine zaf rfl ?_;conv=>whnf
 refine zbg (r:=u.row) (by decide) (by rw [e2];rfl) ?_;conv=>whnf
 refine zhq rfl ?_;conv=>whnf
 refine zaf (by rw [e3];decide +kernel) ?_;conv=>whnf
 rw [show (((X.sender.fates.map fun n:Int=>[pi n]).length:Int) == 1)=true by rw [List.length_map,e4];rfl]
 refine zaf rfl ?_;conv=>whnf
 refine zbg (r:=[pi 2]) (by decide) (by rw [e4];rfl) ?_;conv=>whnf
 rw [show (A.err == 0)=true by rw [e5];rfl]
 refine zaf rfl ?_;conv=>whnf
 rw [show (Y.sender.clock == 1)=true by rw [e6];rfl]
 refine zaf rfl ?_;conv=>whnf
 rw [show (((N.way.map Packet.row).length:Int) == 0)=true by rw [e7];rfl]
 refine zaf rfl ?_;conv=>whnf
 (refine cP ?_;refine dL p3 ?_)
 rw [show (((Y.receiver.log.map Arrival.row).length:Int) == 1)=true by rw [List.length_map,e8];rfl]
 try rfl
theorem zxp:FunOK Tryz.prog 56 [] zac (hbool true) zac:=by
 have p0:=zxo cfg9 [hello,stp 2,stp 2] (by decide)
 have p1:=ykp ln9c (stp 5) yok (by decide) (by decide) (by decide)
 have p2:=zpg cfg9
 have p3:=zbx ln9d yqq
 rw [show newLP cfg9=(newL cfg9,0) from if_pos (by decide)] at p2
 rw [show playP cfg9 [hello,stp 2,stp 2]=(ln9c,[⟨0,0⟩,⟨0,0⟩,⟨0,0⟩],0) by rw [playP,if_neg (by decide),if_neg (by decide),ydm]] at p0
 rw [ln9_d] at p1
 exact yad p0 p1 p2 p3 rfl rfl rfl rfl rfl rfl rfl rfl
end Ln
end Go.HL
namespace Go.HL
open Go.Proofs
namespace Rcv
open Srt Jn Ser
set_option maxHeartbeats 1000000
set_option linter.unusedSimpArgs false
theorem zxq {n:Nat}:∀ {S:List Piece} {i:Nat} {b:List UInt8},joinL n i S=some b -> ∀ k (hk:k < S.length),S[k].chunk.part=((i+k:Nat):Int) /\ S[k].chunk.last=decide (i+k+1=n)
 | p :: r,i,b,h,k,hk=>by
  rw [joinL] at h
  split at h
  . rename_i c
    obtain ⟨d,hd,-⟩:=Option.map_eq_some_iff.1 h
    cases k with
    | zero=>exact ⟨c.1,c.2⟩
    | succ k =>
     have:=zxq hd k (by simpa using hk)
     rw [List.getElem_cons_succ,show i+(k+1)=i+1+k by omega]
     exact this
  . cases h
def msg (s j:Nat) (X:List Chunk):List Chunk:=X.filter fun c=>decide (c.stream=s) && decide (c.mid=j)
section
variable {C X Y:List Chunk} {M:Nat -> List (List UInt8)} {r:Receiver} {T:Nat -> Nat}
end
end Rcv
end Go.HL
namespace Go.HL
open Go.Proofs
namespace Sch
set_option maxHeartbeats 2000000
set_option maxRecDepth 100000
section
variable {α:Type} {p:α -> Bool}
theorem ztz:∀ {l:List α} {k:Nat},0 <= zbe p k l -> ∃ i,∃ h:i < l.length,zbe p k l=((k+i:Nat):Int) /\ p l[i]=true /\ ∀ j,(hj:j < i) -> p (l[j]'(Nat.lt_trans hj h))=false
 | [],k,h=>by simp [zbe] at h
 | y :: r,k,h=>by
  simp only [zbe] at h ⊢
  by_cases hp:p y=true
  . exact ⟨0,by simp,by rw [if_pos hp];simp,by simpa using hp,fun j hj=>absurd hj (by omega)⟩
  . rw [if_neg hp] at h ⊢
    obtain ⟨i,h1,h2,h3,h4⟩:=ztz h
    refine ⟨i+1,by simp;omega,by rw [h2];congr 1;omega,by simpa using h3,fun j hj=>?_⟩
    cases j with
    | zero=>simpa using hp
    | succ j=>simpa using h4 j (by omega)
end
def Good (q:List Queued) (r:Int):Prop:=∃ k,∃ h:k < q.length,r=k /\ ∀ m ∈ q.take k,m.message.stream ≠ (q[k]).message.stream
theorem zlp {q:List Queued} {st:Int} (h:0 <= first q st):Good q (first q st):=by
 obtain ⟨i,h1,h2,h3,h4⟩:=ztz h
 refine ⟨i,h1,by rw [first,h2];simp,fun m hm=>?_⟩
 obtain ⟨j,hj,rfl⟩:=List.getElem_of_mem hm
 have hji:j < i:=by simp at hj;omega
 have h5:=h4 j hji
 rw [List.getElem_take]
 simp only [beq_iff_eq,beq_eq_false_iff_ne] at h3 h5
 rw [h3];exact h5
theorem zlq {q:List Queued} {last n:Int}:∀ {j k:Nat},0 <= after q last n k j -> Good q (after q last n k j)
 | 0,k,h=>by simp [after] at h
 | j+1,k,h=>by
  simp only [after] at h ⊢
  split
  . rename_i h1;exact zlp h1
  . rename_i h1
    rw [if_neg h1] at h
    exact zlq h
theorem zxr {q:List Queued}:∀ {j k:Nat},0 <= zdj q k j -> Good q (zdj q k j)
 | 0,k,h=>by simp [zdj] at h
 | j+1,k,h=>by
  simp only [zdj] at h ⊢
  split
  . rename_i h1;exact zlp h1
  . rename_i h1
    rw [if_neg h1] at h
    exact zxr h
end Sch
end Go.HL
namespace Go.HL
open Go.Proofs
namespace Gh
open Ser Srt Jn
set_option maxHeartbeats 4000000
set_option maxRecDepth 100000
set_option linter.unusedSimpArgs false
structure Prt where
 id:Nat
 chunk:Chunk
def Cls (a b:Chunk):Prop:=a.stream=b.stream /\ a.ordered=b.ordered
theorem Cls.symm {a b:Chunk} (h:Cls a b):Cls b a:=⟨h.1.symm,h.2.symm⟩
theorem Cls.trans {a b c:Chunk} (h:Cls a b) (k:Cls b c):Cls a c:=⟨h.1.trans k.1,h.2.trans k.2⟩
structure zmi (P:Int) (m:Message) (x:Chunk):Prop where
 part0:0 <= x.part
 inn:x.part * P < m.data.length
 data:x.data=(m.data.drop (x.part * P).toNat).take P.toNat
 last:x.last=decide ((m.data.length:Int) <= x.part * P+P)
structure HI (c:Config) (L:List Message) (H:List Prt):Prop where
 tag:∀ (i:Nat) x,H[i]?=some x -> x.chunk.kind=1 /\ x.chunk.tag=tag (c.first+i) /\ x.chunk.spans=[] /\ x.chunk.room=0 /\ x.chunk.skips=[]
 msg:∀ x ∈ H,∃ m,L[x.id]?=some m /\ x.chunk.stream=m.stream /\ x.chunk.ordered=m.ordered /\ (x.chunk.data ≠ [] -> zmi c.part m x.chunk)
 mid:∀ x ∈ H,0 <= x.chunk.mid /\ x.chunk.mid < H.length
 key:∀ x ∈ H,∀ y ∈ H,Cls x.chunk y.chunk -> (x.id < y.id ↔ x.chunk.mid < y.chunk.mid)
 order:∀ (i j:Nat) x y,i < j -> H[i]?=some x -> H[j]?=some y -> Cls x.chunk y.chunk -> x.id <= y.id
 part:∀ (i j:Nat) x y,i < j -> H[i]?=some x -> H[j]?=some y -> x.id=y.id -> x.chunk.part < y.chunk.part
section
variable {c:Config} {L:List Message} {H:List Prt}
theorem HI.cls (h:HI c L H) {x y:Prt} (hx:x ∈ H) (hy:y ∈ H) (e:x.id=y.id):Cls x.chunk y.chunk:=by
 obtain ⟨m,h1,h2,h3,-⟩:=h.msg x hx
 obtain ⟨n,k1,k2,k3,-⟩:=h.msg y hy
 rw [e,k1] at h1
 cases h1
 exact ⟨h2.trans k2.symm,h3.trans k3.symm⟩
theorem HI.same (h:HI c L H) {x y:Prt} (hx:x ∈ H) (hy:y ∈ H) (e:Cls x.chunk y.chunk):x.id=y.id ↔ x.chunk.mid=y.chunk.mid:=by
 have h1:=h.key x hx y hy e
 have h2:=h.key y hy x hx e.symm
 omega
theorem HI.at (h:HI c L H) {i j:Nat} {x y:Prt} (hx:H[i]?=some x) (hy:H[j]?=some y) (e:x.id=y.id) (e2:x.chunk.part=y.chunk.part):i=j:=by
 rcases Nat.lt_trichotomy i j with hl | hl | hl
 . have:=h.part i j x y hl hx hy e;omega
 . exact hl
 . have:=h.part j i y x hl hy hx e.symm;omega
end
theorem zxs {P:Int} {m:Message} (hP:1 <= P) {n:Nat}:∀ {S:List Piece} {i:Nat} {b:List UInt8},joinL n i S=some b -> (∀ p ∈ S,zmi P m p.chunk) -> S ≠ [] -> n=i+S.length -> b=m.data.drop (i * P).toNat
 | [],_,_,_,_,h,_=>absurd rfl h
 | p :: r,i,b,h,hp,_,hn=>by
  rw [joinL] at h
  split at h
  . rename_i c
    obtain ⟨d,hd,rfl⟩:=Option.map_eq_some_iff.1 h
    have hq:=hp p (by simp)
    have h0:0 <= (i:Int) * P:=Int.mul_nonneg (by omega) (by omega)
    have e1:((i+1:Nat):Int) * P=i * P+P:=by push_cast;rw [Int.add_mul,Int.one_mul]
    have e2:(((i+1:Nat):Int) * P).toNat=(i * P).toNat+P.toNat:=by rw [e1];omega
    rw [hq.data,c.1]
    cases r with
    | nil =>
     rw [joinL] at hd
     cases hd
     have hl:=hq.last
     rw [c.2,c.1] at hl
     rw [decide_eq_true (by simp at hn;omega)] at hl
     have hl:=of_decide_eq_true hl.symm
     rw [List.append_nil,List.take_of_length_le (by rw [List.length_drop];omega)]
    | cons q r =>
     have ih:=zxs hP hd (fun x hx=>hp x (by simp [hx])) (by simp) (by simp at hn ⊢;omega)
     rw [ih,e2,<- List.drop_drop,List.take_append_drop]
  . cases h
theorem yni {P:Int} {m:Message} (hP:1 <= P) {l:List Piece} {b:List UInt8} (h:join l=some b) (hp:∀ p ∈ l,zmi P m p.chunk):b=m.data:=by
 unfold join at h
 split at h
 . cases h
 . rename_i hl
   have hs:=zei (key:=ck) l
   have:=zxs hP h (fun p hp'=>hp p (zgy.mem_iff.1 hp')) (by intro e;rw [e] at hs;exact hl (List.length_eq_zero_iff.1 hs.symm)) (by omega)
   simpa using this
theorem zlr {l:List Piece} {b:List UInt8} (h:join l=some b):∀ i:Nat,i < l.length -> ∃ p ∈ l,p.chunk.part=(i:Int) /\ p.chunk.last=decide (i+1=l.length):=by
 intro i hi
 unfold join at h
 split at h
 . cases h
 . have hs:=zei (key:=ck) l
   obtain ⟨g1,g2⟩:=Rcv.zxq h i (by omega)
   rw [Nat.zero_add] at g1 g2
   exact ⟨_,zgy.mem_iff.1 (List.getElem_mem (by omega)),g1,g2⟩
theorem zxt:∀ (k:Nat) (l:List Nat),l.Nodup -> (∀ x ∈ l,x < k) -> l.length <= k
 | 0,l,_,h=>by
  cases l with
  | nil=>simp
  | cons x r=>exact absurd (h x (by simp)) (by omega)
 | k+1,l,hn,h=>by
  have ih:=zxt k (l.erase k) (hn.erase k) (fun x hx=>by
   have h1:=h x (List.mem_of_mem_erase hx)
   have h2:x ≠ k:=fun e=>by subst e;exact (hn.not_mem_erase) hx
   omega)
  rw [List.length_erase] at ih
  split at ih <;> omega
theorem ydn {n:Nat}:∀ {S:List Piece} {i:Nat},(∀ k (hk:k < S.length),S[k].chunk.part=((i+k:Nat):Int) /\ S[k].chunk.last=decide (i+k+1=n)) -> ∃ b,joinL n i S=some b
 | [],i,_=>⟨[],rfl⟩
 | p :: r,i,h=>by
  have h0:=h 0 (by simp)
  obtain ⟨b,hb⟩:=ydn (S:=r) (i:=i+1) fun k hk=>by
   have:=h (k+1) (by simpa using hk)
   rw [List.getElem_cons_succ] at this
   rw [show i+1+k=i+(k+1) by omega]
   exact this
  refine ⟨p.chunk.data++b,?_⟩
  rw [joinL,if_pos ⟨by simpa using h0.1,by simpa using h0.2⟩,hb];rfl
theorem ygb {P:Int} {m:Message} (hP:1 <= P) {l:List Piece} (h:∀ p ∈ l,zmi P m p.chunk) (hd:l.Pairwise fun p q=>p.chunk.part ≠ q.chunk.part) (hm:m.data ≠ [])
 (hw:∀ j:Nat,(j:Int) * P < m.data.length -> ∃ p ∈ l,p.chunk.part=j):∃ b,join l=some b:=by
 have hmul:∀ {a b:Int},a <= b -> a * P <= b * P:=fun hab=>Int.mul_le_mul_of_nonneg_right hab (by omega)
 have h0:(0:Int) < m.data.length:=by have:=List.length_pos_iff.2 hm;omega
 have hnd:(l.map fun p=>p.chunk.part.toNat).Nodup:=by
  refine List.Pairwise.map _ (fun a b=>?_) (List.Pairwise.imp_of_mem (fun {a b} ha hb hab=>(⟨ha,hb,hab⟩:a ∈ l /\ b ∈ l /\ a.chunk.part ≠ b.chunk.part)) hd)
  rintro ⟨ha,hb,hab⟩ e
  have:=(h a ha).part0
  have:=(h b hb).part0
  omega
 have hsl:=zei (key:=ck) l
 have hsm:∀ p,p ∈ srt ck l ↔ p ∈ l:=fun p=>zgy.mem_iff
 have hall:∀ i,i < l.length -> ∃ p ∈ l,p.chunk.part=(i:Int):=by
  intro i hi
  by_cases c:(i:Int) * P < m.data.length
  . exact hw i c
  . exfalso
    have:=zxt i _ hnd fun x hx=>by
     obtain ⟨p,hp,rfl⟩:=List.mem_map.1 hx
     have h1:=(h p hp).inn
     have h2:=(h p hp).part0
     apply Classical.byContradiction
     intro hc
     have:=hmul (show (i:Int) <= p.chunk.part by omega)
     omega
    rw [List.length_map] at this
    omega
 have hturn:=zzz (zly (key:=ck) (l:=l)) fun i hi=>by
  obtain ⟨p,hp,e⟩:=hall i (by omega)
  exact ⟨p,(hsm p).2 hp,e⟩
 have hbnd:(l.length:Int) * P >= m.data.length:=by
  apply Classical.byContradiction
  intro hc
  obtain ⟨p,hp,e⟩:=hw l.length (by omega)
  obtain ⟨k,hk,e2⟩:=List.getElem_of_mem ((hsm p).2 hp)
  have:=hturn k hk
  rw [e2] at this
  omega
 have hlne:l ≠ []:=by
  rintro rfl
  have:(([]:List Piece).length:Int) * P=0:=by simp
  omega
 obtain ⟨b,hb⟩:=ydn (n:=l.length) (S:=srt ck l) (i:=0) fun k hk=>by
  have hp:=hturn k hk
  refine ⟨by rw [hp];simp,?_⟩
  have hq:=h _ ((hsm _).1 (List.getElem_mem hk))
  rw [hq.last,hp,decide_eq_decide]
  have e1:((k+1:Nat):Int) * P=k * P+P:=by push_cast;rw [Int.add_mul,Int.one_mul]
  constructor
  . intro hle
    apply Classical.byContradiction
    intro hc
    obtain ⟨p,hp2,e⟩:=hall (k+1) (by omega)
    have:=(h p hp2).inn
    rw [e] at this
    omega
  . intro e
    have:(l.length:Int) * P=k * P+P:=by rw [<- e1];congr 1;omega
    omega
 exact ⟨b,by rw [join,if_neg hlne];exact hb⟩
theorem ygc {turns:Int} {s:Sched} {q:List Queued} (h:0 <= Sch.next turns s q):∃ k,∃ hk:k < q.length,Sch.next turns s q=k /\ ((q[k]).id=s.hand \/ ∀ m ∈ q.take k,m.message.stream ≠ (q[k]).message.stream):=by
 have good:∀ {r:Int},Sch.Good q r -> ∃ k,∃ hk:k < q.length,r=k /\ ((q[k]).id=s.hand \/ ∀ m ∈ q.take k,m.message.stream ≠ (q[k]).message.stream):=by
  rintro r ⟨k,hk,e,hg⟩;exact ⟨k,hk,e,.inr hg⟩
 unfold Sch.next at h ⊢
 by_cases c1:(q.length:Int)=0
 . rw [if_pos c1] at h;omega
 rw [if_neg c1] at h ⊢
 by_cases c2:(s.had.length:Int)=0
 . rw [if_pos c2] at h;omega
 rw [if_neg c2] at h ⊢
 by_cases c3:turns=2
 . rw [if_pos c3] at h ⊢
   by_cases c4:Sch.zof s q >= 0
   . rw [if_pos c4]
     obtain ⟨i,h1,h2,h3,-⟩:=Sch.ztz (p:=fun m:Queued=>m.id == s.hand) (l:=q) (k:=0) c4
     exact ⟨i,h1,by rw [Sch.zof,h2,Nat.zero_add],.inl (by simpa using h3)⟩
   . rw [if_neg c4] at h ⊢
     exact good (Sch.zlq h)
 rw [if_neg c3] at h ⊢
 by_cases c4:turns=3
 . rw [if_pos c4] at h ⊢;exact good (Sch.zlq h)
 rw [if_neg c4] at h ⊢
 by_cases c5:turns=4
 . rw [if_pos c5] at h ⊢;exact good (Sch.zxr h)
 rw [if_neg c5] at h ⊢
 by_cases c6:turns=5
 . rw [if_pos c6] at h ⊢
   unfold Sch.least at h ⊢
   split at h
   . omega
   . rename_i c7;rw [if_neg c7];exact good (Sch.zlp h)
 rw [if_neg c6]
 exact ⟨0,by omega,rfl,.inr (by simp)⟩
end Gh
end Go.HL
namespace Go.HL
open Go.Proofs
namespace Gh
open Ser Snd
set_option maxHeartbeats 4000000
set_option maxRecDepth 100000
set_option linter.unusedSimpArgs false
def Of (m:Queued) (x:Chunk):Prop:=x.stream=m.message.stream /\ x.ordered=m.message.ordered
def Whole (c:Config) (L:List Message) (H:List Prt) (id:Nat):Prop:=∀ m,L[id]?=some m -> ∀ j:Nat,(j:Int) * c.part < m.data.length -> ∃ y ∈ H,y.id=id /\ y.chunk.part=j /\ y.chunk.data ≠ []
def midC (s:Sender) (x:Chunk):Int:=s.mids[(x.stream+if x.ordered then 0 else s.config.streams).toNat]?.getD 0
structure Bgn (H:List Prt) (m:Queued):Prop where
 some:0 < m.parts
 one:∃ y ∈ H,(y.id:Int)=m.id /\ y.chunk.mid=m.mid /\ Of m y.chunk
 top:∀ y ∈ H,Of m y.chunk -> (y.id:Int) <= m.id
 part:∀ y ∈ H,(y.id:Int)=m.id -> y.chunk.part < m.parts
 all:∀ j:Nat,(j:Int) < m.parts -> ∃ y ∈ H,(y.id:Int)=m.id /\ y.chunk.part=j /\ y.chunk.data ≠ []
structure GS (c:Config) (L:List Message) (H:List Prt) (A:Nat -> Prop) (s:Sender):Prop where
 cfg:s.config=c
 hi:HI c L H
 len:c.first+H.length=s.next
 out:∀ (k:Nat) x,s.out[k]?=some x -> ∃ y,H[(s.cum+1 - c.first).toNat+k]?=some y /\ x.id=(y.id:Int) /\ x.chunk=y.chunk
 stop:∀ x ∈ s.out,x.chunk.data=[] -> x.state=4 \/ x.state=0
 gone:∀ x ∈ s.out,x.state=4 -> s.fates[x.id.toNat]?=some 3
 come:∀ (k:Nat) x,s.out[k]?=some x -> x.state=2 -> A ((s.cum+1 - c.first).toNat+k)
 done:∀ (i:Nat) y,H[i]?=some y -> c.first+i <= s.cum -> A i \/ s.fates[y.id]?=some 3
 ids:∀ m ∈ s.queue,0 <= m.id
 rise:s.queue.Pairwise fun a b=>a.id < b.id
 hand:∀ m ∈ s.queue,m.id=s.sched.hand -> 0 <= m.mid
 handn:s.sched.hand < L.length
 fresh:∀ m ∈ s.queue,m.mid < 0 -> m.parts=0 /\ ∀ y ∈ H,Of m y.chunk -> (y.id:Int) < m.id
 begun:∀ m ∈ s.queue,0 <= m.mid -> Bgn H m
 mids:∀ y ∈ H,y.chunk.mid < midC s y.chunk
 midn:∀ n ∈ s.mids,0 <= n /\ n <= H.length
 whole:∀ id,id < L.length -> s.fates[id]? ≠ some 3 -> (∃ m ∈ s.queue,m.id=(id:Int)) \/ Whole c L H id
 told:∀ id,s.fates[id]?=some 2 -> ∀ (i:Nat) y,H[i]?=some y -> y.id=id -> A i
section
variable {c:Config} {L:List Message} {H:List Prt} {A:Nat -> Prop} {s:Sender}
theorem GS.congr {t:Sender} (h:GS c L H A s) (e1:t.config=s.config) (e2:t.out=s.out) (e3:t.next=s.next) (e4:t.cum=s.cum) (e5:t.fates=s.fates) (e6:t.queue=s.queue) (e7:t.sched.hand=s.sched.hand) (e8:t.mids=s.mids):GS c L H A t:=by
 obtain ⟨cfg,clock,q,⟨la,ha,hd⟩,o,ps,cu,nx,ro,mi,fa,fo,re⟩:=t
 dsimp only at e1 e2 e3 e4 e5 e6 e7 e8
 subst e1 e2 e3 e4 e5 e6 e7 e8
 exact ⟨h.cfg,h.hi,h.len,h.out,h.stop,h.gone,h.come,h.done,h.ids,h.rise,h.hand,h.handn,h.fresh,h.begun,h.mids,h.midn,h.whole,h.told⟩
theorem GS.more {B:Nat -> Prop} (h:GS c L H A s) (hB:∀ i,A i -> B i):GS c L H B s :=
 ⟨h.cfg,h.hi,h.len,h.out,h.stop,h.gone,fun k x h1 h2=>hB _ (h.come k x h1 h2),fun i y h1 h2=>(h.done i y h1 h2).imp (hB i) id,h.ids,h.rise,h.hand,h.handn,h.fresh,h.begun,h.mids,h.midn,h.whole,fun id h1 i y h2 h3=>hB i (h.told id h1 i y h2 h3)⟩
theorem zda {α:Type} {l:List α} {y x:α} {i:Nat} (h:(l++[y])[i]?=some x):l[i]?=some x \/ (i=l.length /\ x=y):=by
 rcases Nat.lt_or_ge i l.length with hi | hi
 . rw [List.getElem?_append_left hi] at h;exact .inl h
 . rw [List.getElem?_append_right hi] at h
   rcases Nat.eq_zero_or_pos (i - l.length) with h0 | h0
   . rw [h0] at h;cases h;exact .inr ⟨by omega,rfl⟩
   . rw [List.getElem?_eq_none (by simp;omega)] at h;cases h
theorem zeu {α:Type} {l E:List α} {x:α} {i:Nat} (h:l[i]?=some x):(l++E)[i]?=some x:=by
 rw [List.getElem?_append_left (List.getElem?_eq_some_iff.1 h).1];exact h
theorem ykr {α:Type} (l:List α) (y:α):(l++[y])[l.length]?=some y:=by simp
theorem zcn {α:Type} {l:List α} {x:α} {i:Nat} (h:l[i]?=some x):i < l.length:=(List.getElem?_eq_some_iff.1 h).1
theorem HI.push (h:HI c L H) {y:Prt} (t:y.chunk.kind=1 /\ y.chunk.tag=Ser.tag (c.first+H.length) /\ y.chunk.spans=[] /\ y.chunk.room=0 /\ y.chunk.skips=[])
 (m:∃ m,L[y.id]?=some m /\ y.chunk.stream=m.stream /\ y.chunk.ordered=m.ordered /\ (y.chunk.data ≠ [] -> zmi c.part m y.chunk)) (n:0 <= y.chunk.mid /\ y.chunk.mid <= H.length)
 (k:∀ x ∈ H,Cls x.chunk y.chunk -> x.id <= y.id /\ (x.id < y.id ↔ x.chunk.mid < y.chunk.mid) /\ x.chunk.mid <= y.chunk.mid) (p:∀ x ∈ H,x.id=y.id -> x.chunk.part < y.chunk.part):HI c L (H++[y]):=by
 refine ⟨fun i x hx=>?_,fun x hx=>?_,fun x hx=>?_,fun x hx z hz hc=>?_,fun i j x z hij hx hz hc=>?_,fun i j x z hij hx hz he=>?_⟩
 . rcases zda hx with hx' | ⟨e1,e2⟩
   . exact h.tag i x hx'
   . rw [e1,e2];exact t
 . rcases List.mem_append.1 hx with hx' | hx'
   . exact h.msg x hx'
   . rw [List.mem_singleton.1 hx'];exact m
 . rw [List.length_append,List.length_singleton]
   rcases List.mem_append.1 hx with hx' | hx'
   . have:=h.mid x hx';push_cast;omega
   . rw [List.mem_singleton.1 hx'];push_cast;omega
 . rcases List.mem_append.1 hx with hx' | hx'
   . rcases List.mem_append.1 hz with hz' | hz'
     . exact h.key x hx' z hz' hc
     . rw [List.mem_singleton.1 hz'] at hc ⊢;exact (k x hx' hc).2.1
   . rw [List.mem_singleton.1 hx'] at hc ⊢
     rcases List.mem_append.1 hz with hz' | hz'
     . have:=k z hz' hc.symm;omega
     . rw [List.mem_singleton.1 hz'];omega
 . rcases zda hz with hz' | ⟨e1,e2⟩
   . rcases zda hx with hx' | ⟨e3,e4⟩
     . exact h.order i j x z hij hx' hz' hc
     . have:=zcn hz';omega
   . rcases zda hx with hx' | ⟨e3,e4⟩
     . rw [e2] at hc ⊢;exact (k x (List.mem_of_getElem? hx') hc).1
     . omega
 . rcases zda hz with hz' | ⟨e1,e2⟩
   . rcases zda hx with hx' | ⟨e3,e4⟩
     . exact h.part i j x z hij hx' hz' he
     . have:=zcn hz';omega
   . rcases zda hx with hx' | ⟨e3,e4⟩
     . rw [e2] at he ⊢;exact p x (List.mem_of_getElem? hx') he
     . omega
theorem Whole.more {E:List Prt} {id:Nat} (h:Whole c L H id):Whole c L (H++E) id:=fun m hm j hj=>by
 obtain ⟨y,h1,h2⟩:=h m hm j hj
 exact ⟨y,List.mem_append_left _ h1,h2⟩
theorem GS.num (h:GS c L H A s) {N:Nat} (hs:SI N s):(s.cum+1 - c.first).toNat+s.out.length=H.length:=by
 have h1:=h.len
 have h2:=hs.next
 have h3:=hs.cum
 rw [h.cfg] at h3
 omega
theorem GS.few (h:GS c L H A s) {N:Nat} (hs:SI N s):H.length <= 61 * N:=by
 have h1:=h.len
 have h3:=hs.owes
 have h4:=ztk (by have:=zbo hs.cfg;omega) hs.queue
 have h5:=hs.many
 rw [h.cfg] at h3
 omega
theorem zxu (id:Int):∀ (q:List Queued) (s:Sender),(∀ m ∈ q,¬ (m.id=id /\ m.parts > 0)) -> q.foldl (end1 id) s=s
 | [],_,_=>rfl
 | m :: q,s,h=>by
  rw [List.foldl_cons,show end1 id s m=s from if_neg (h m (by simp))]
  exact zxu id q s fun x hx=>h x (by simp [hx])
theorem ydo (id:Int):∀ (q:List Queued) (s:Sender),q.Pairwise (fun a b=>a.id < b.id) -> q.foldl (end1 id) s=s \/ ∃ m ∈ q,m.id=id /\ m.parts > 0 /\ q.foldl (end1 id) s={ s with out:=s.out++[endOf s.next m],next:=W (s.next+1) }
 | [],_,_=>.inl rfl
 | m :: q,s,h=>by
  obtain ⟨h1,h2⟩:=List.pairwise_cons.1 h
  rw [List.foldl_cons]
  by_cases c:m.id=id /\ m.parts > 0
  . right
    refine ⟨m,by simp,c.1,c.2,?_⟩
    rw [show end1 id s m={ s with out:=s.out++[endOf s.next m],next:=W (s.next+1) } from if_pos c]
    exact zxu id q _ fun x hx hh=>by have:=h1 x hx;omega
  . rw [show end1 id s m=s from if_neg c]
    rcases ydo id q s h2 with h3 | ⟨x,hx,h3⟩
    . exact .inl h3
    . exact .inr ⟨x,by simp [hx],h3⟩
theorem GS.fate (h:GS c L H A s) (id:Nat):GS c L H A { s with fates:=s.fates.set id 3 }:=by
 have hg:∀ k:Nat,s.fates[k]?=some 3 -> (s.fates.set id 3)[k]?=some 3:=fun k hk=>by
  by_cases e:id=k
  . subst e;rw [List.getElem?_set_self (zcn hk)]
  . rw [List.getElem?_set_ne e];exact hk
 refine ⟨h.cfg,h.hi,h.len,h.out,h.stop,fun x hx h4=>hg _ (h.gone x hx h4),h.come,fun i y h1 h2=>(h.done i y h1 h2).imp (fun z=>z) (hg _),h.ids,h.rise,h.hand,h.handn,h.fresh,h.begun,h.mids,h.midn,fun k hk h3=>?_,fun k h2=>?_⟩
 . exact h.whole k hk fun h5=>h3 (hg k h5)
 . have h2:(s.fates.set id 3)[k]?=some 2:=h2
   by_cases e:id=k
   . subst e
     rcases Nat.lt_or_ge id s.fates.length with hl | hl
     . rw [List.getElem?_set_self hl] at h2;cases h2
     . rw [List.getElem?_eq_none (by rw [List.length_set];exact hl)] at h2;cases h2
   . rw [List.getElem?_set_ne e] at h2;exact h.told k h2
theorem GS.leave (h:GS c L H A s) {id:Nat} (hf:s.fates[id]?=some 3) {w:Int} (hw:w=s.sched.hand \/ w=-1):GS c L H A { s with queue:=s.queue.filter (fun m=>decide (m.id ≠ (id:Int))),sched:={ s.sched with hand:=w } }:=by
 have hm:∀ m ∈ s.queue.filter (fun m=>decide (m.id ≠ (id:Int))),m ∈ s.queue:=fun m hm=>(List.mem_filter.1 hm).1
 refine ⟨h.cfg,h.hi,h.len,h.out,h.stop,h.gone,h.come,h.done,fun m h1=>h.ids m (hm m h1),h.rise.filter _,fun m h1 h2=>?_,?_,fun m h1=>h.fresh m (hm m h1),fun m h1=>h.begun m (hm m h1),h.mids,h.midn,fun k hk h3=>?_,h.told⟩
 . have h2:m.id=w:=h2
   rcases hw with hw | hw
   . exact h.hand m (hm m h1) (by rw [h2,hw])
   . have:=h.ids m (hm m h1);omega
 . have:=h.handn
   show w < _
   rcases hw with hw | hw <;> omega
 . rcases h.whole k hk h3 with ⟨m,h4,h5⟩ | h4
   . by_cases e:k=id
     . subst e;exact absurd hf h3
     . exact .inl ⟨m,List.mem_filter.2 ⟨h4,decide_eq_true (by omega)⟩,h5⟩
   . exact .inr h4
theorem GS.endp (h:GS c L H A s) {N:Nat} (hs:(s.cum+1 - c.first).toNat+s.out.length=H.length) (hc:c.first - 1 <= s.cum) (hfew:H.length < 2 ^ 30) {m:Queued} (hb:Bgn H m) (h0:0 <= m.id) (hq:∀ q ∈ s.queue,q.id ≠ m.id) (hf:s.fates[m.id.toNat]?=some 3) (hmid:m.mid <= H.length /\ 0 <= m.mid) (hN:H.length <= N) (hN2:N < 65536) :
 GS c L (H++[⟨m.id.toNat,(endOf s.next m).chunk⟩]) A { s with out:=s.out++[endOf s.next m],next:=s.next+1 }:=by
 obtain ⟨y0,y1,y2,y3,y4⟩:=hb.one
 have hcl:∀ x:Prt,Cls x.chunk (endOf s.next m).chunk -> Of m x.chunk:=fun x hx=>⟨hx.1,hx.2⟩
 have htag:tag m.mid=m.mid:=by unfold tag;omega
 have hyid:y0.id=m.id.toNat:=by omega
 have hln:=h.len
 have hnew:HI c L (H++[⟨m.id.toNat,(endOf s.next m).chunk⟩]):=by
  refine h.hi.push ⟨rfl,?_,rfl,rfl,rfl⟩ ?_ ?_ ?_ ?_
  . show tag s.next=_;rw [<- hln]
  . obtain ⟨w,w1,w2,w3,-⟩:=h.hi.msg y0 y1
    exact ⟨w,by show L[m.id.toNat]?=_;rw [<- hyid];exact w1,by show m.message.stream=_;rw [<- y4.1];exact w2,by show m.message.ordered=_;rw [<- y4.2];exact w3,fun hd=>absurd rfl hd⟩
  . show 0 <= tag m.mid /\ tag m.mid <= _;rw [htag];omega
  . intro x hx hxc
    have h1:=hb.top x hx (hcl x hxc)
    have h2:Cls x.chunk y0.chunk:=⟨(hcl x hxc).1.trans y4.1.symm,(hcl x hxc).2.trans y4.2.symm⟩
    have h3:=h.hi.key x hx y0 y1 h2
    have h4:=h.hi.key y0 y1 x hx h2.symm
    show x.id <= m.id.toNat /\ (x.id < m.id.toNat ↔ x.chunk.mid < tag m.mid) /\ x.chunk.mid <= tag m.mid
    rw [htag,<- y3,<- hyid]
    omega
  . intro x hx he
    show x.chunk.part < m.parts
    exact hb.part x hx (by have he:x.id=m.id.toNat:=he;omega)
 have hmem:∀ x ∈ H,x ∈ H++[(⟨m.id.toNat,(endOf s.next m).chunk⟩:Prt)]:=fun x hx=>List.mem_append_left _ hx
 refine ⟨h.cfg,hnew,?_,fun k x hx=>?_,fun x hx hd=>?_,fun x hx h4=>?_,fun k x hx h2=>?_,fun i y hy hle=>?_,h.ids,h.rise,h.hand,h.handn,fun q hq' hmn=>?_,fun q hq' hmn=>?_,fun y hy=>?_,fun n hn=>?_,fun k hk h3=>?_,fun k h2 i y hy he=>?_⟩
 . show c.first+((H++[_]).length:Int)=s.next+1
   rw [List.length_append,List.length_singleton];push_cast;omega
 . have hx:(s.out++[endOf s.next m])[k]?=some x:=hx
   rcases zda hx with hx | ⟨rfl,rfl⟩
   . obtain ⟨y,h1,h2⟩:=h.out k x hx
     exact ⟨y,zeu h1,h2⟩
   . exact ⟨⟨m.id.toNat,(endOf s.next m).chunk⟩,by show (H++[_])[(s.cum+1 - c.first).toNat+s.out.length]?=_;rw [hs];exact ykr _ _,by show m.id=(m.id.toNat:Int);omega,rfl⟩
 . rcases List.mem_append.1 hx with hx | hx
   . exact h.stop x hx hd
   . rw [List.mem_singleton] at hx;subst hx;exact .inr rfl
 . rcases List.mem_append.1 hx with hx | hx
   . exact h.gone x hx h4
   . rw [List.mem_singleton] at hx;subst hx;cases h4
 . have hx:(s.out++[endOf s.next m])[k]?=some x:=hx
   rcases zda hx with hx | ⟨rfl,rfl⟩
   . exact h.come k x hx h2
   . cases h2
 . rcases zda hy with hy | ⟨rfl,rfl⟩
   . exact h.done i y hy hle
   . have hle:c.first+(H.length:Int) <= s.cum:=hle
     omega
 . obtain ⟨f1,f2⟩:=h.fresh q hq' hmn
   refine ⟨f1,fun y hy hof=>?_⟩
   rcases List.mem_append.1 hy with hy | hy
   . exact f2 y hy hof
   . rw [List.mem_singleton] at hy;subst hy
     have:=f2 y0 y1 ⟨y4.1.trans hof.1,y4.2.trans hof.2⟩
     show (m.id.toNat:Int) < q.id;omega
 . have b:=h.begun q hq' hmn
   obtain ⟨z0,z1,z2⟩:=b.one
   refine ⟨b.some,⟨z0,hmem z0 z1,z2⟩,fun y hy hof=>?_,fun y hy he=>?_,fun j hj=>?_⟩
   . rcases List.mem_append.1 hy with hy | hy
     . exact b.top y hy hof
     . rw [List.mem_singleton] at hy;subst hy
       have:=b.top y0 y1 ⟨y4.1.trans hof.1,y4.2.trans hof.2⟩
       show (m.id.toNat:Int) <= q.id;omega
   . rcases List.mem_append.1 hy with hy | hy
     . exact b.part y hy he
     . rw [List.mem_singleton] at hy;subst hy
       have he:(m.id.toNat:Int)=q.id:=he
       exact absurd (by omega) (hq q hq')
   . obtain ⟨w,w1,w2⟩:=b.all j hj
     exact ⟨w,hmem w w1,w2⟩
 . rcases List.mem_append.1 hy with hy | hy
   . exact h.mids y hy
   . rw [List.mem_singleton] at hy;subst hy
     have:=h.mids y0 y1
     show tag m.mid < midC s (endOf s.next m).chunk
     rw [htag,<- y3]
     have e:midC s (endOf s.next m).chunk=midC s y0.chunk:=by
      unfold midC;rw [y4.1,y4.2];rfl
     rw [e];exact this
 . have:=h.midn n hn
   rw [List.length_append,List.length_singleton];push_cast;omega
 . rcases h.whole k hk h3 with h4 | h4
   . exact .inl h4
   . exact .inr h4.more
 . rcases zda hy with hy | ⟨rfl,rfl⟩
   . exact h.told k h2 i y hy he
   . have he:m.id.toNat=k:=he
     subst he
     have h2:s.fates[m.id.toNat]?=some 2:=h2
     rw [hf] at h2;cases h2
theorem GS.mapOut (h:GS c L H A s) {g:Sent -> Sent} (hg:∀ x,(g x).id=x.id /\ (g x).chunk=x.chunk) (h1:∀ x ∈ s.out,x.chunk.data=[] -> x.state=4 \/ x.state=0 -> (g x).state=4 \/ (g x).state=0) (h2:∀ x ∈ s.out,(g x).state=4 -> x.state=4 \/ s.fates[x.id.toNat]?=some 3) (h3:∀ x ∈ s.out,(g x).state=2 -> x.state=2) :
 GS c L H A { s with out:=s.out.map g }:=by
 refine ⟨h.cfg,h.hi,h.len,fun k x hx=>?_,fun x hx hd=>?_,fun x hx h4=>?_,fun k x hx hst=>?_,h.done,h.ids,h.rise,h.hand,h.handn,h.fresh,h.begun,h.mids,h.midn,h.whole,h.told⟩
 . have hx:(s.out.map g)[k]?=some x:=hx
   rw [List.getElem?_map] at hx
   cases hy:s.out[k]? with
   | none=>rw [hy] at hx;cases hx
   | some y =>
    rw [hy] at hx;cases hx
    obtain ⟨w,w1,w2,w3⟩:=h.out k y hy
    exact ⟨w,w1,(hg y).1.trans w2,(hg y).2.trans w3⟩
 . obtain ⟨y,hy,rfl⟩:=List.mem_map.1 hx
   rw [(hg y).2] at hd
   exact h1 y hy hd (h.stop y hy hd)
 . obtain ⟨y,hy,rfl⟩:=List.mem_map.1 hx
   rw [(hg y).1]
   rcases h2 y hy h4 with h5 | h5
   . exact h.gone y hy h5
   . exact h5
 . have hx:(s.out.map g)[k]?=some x:=hx
   rw [List.getElem?_map] at hx
   cases hy:s.out[k]? with
   | none=>rw [hy] at hx;cases hx
   | some y =>
    rw [hy] at hx;cases hx
    exact h.come k y hy (h3 y (List.mem_of_getElem? hy) hst)
theorem yks {N:Nat} (h:GS c L H A s) (hs:SI N s) (hN:N <= 500) {id:Nat} (hid:s.fates[id]?=some 1):∃ E,GS c L (H++E) A (giveS s id):=by
 have hf:(s.fates.set id 3)[id]?=some 3:=by rw [List.getElem?_set_self (zcn hid)]
 have hcap:=h.few hs
 have hlen:=h.num hs
 have hcu:=hs.cum
 rw [h.cfg] at hcu
 have g1:=h.fate id
 have g2:=g1.leave (id:=id) hf (w:=if s.sched.hand=(id:Int) then -1 else s.sched.hand) (by show _=s.sched.hand \/ _;split;exact .inr rfl;exact .inl rfl)
 have key:∃ E,GS c L (H++E) A { { s with fates:=s.fates.set id 3,queue:=s.queue.filter (fun m=>decide (m.id ≠ (id:Int))),sched:={ s.sched with hand:=if s.sched.hand=(id:Int) then -1 else s.sched.hand } } with out:=(s.queue.foldl (end1 id) { s with fates:=s.fates.set id 3 }).out,next:=(s.queue.foldl (end1 id) { s with fates:=s.fates.set id 3 }).next }:=by
  rcases ydo id s.queue { s with fates:=s.fates.set id 3 } h.rise with e | ⟨m,hm,m1,m2,e⟩
  . rw [e];exact ⟨[],by rw [List.append_nil];exact g2⟩
  . have hb:=h.begun m hm (by
     rcases Int.lt_or_le m.mid 0 with hlt | hge
     . have:=(h.fresh m hm hlt).1;omega
     . exact hge)
    obtain ⟨y0,y1,y2,y3,y4⟩:=hb.one
    have ym:=h.hi.mid y0 y1
    have hnl:=hs.nextle
    have hn0:=hs.next
    have hc0:=(zbo hs.cfg)
    rw [h.cfg] at hc0
    have hW:W (s.next+1)=s.next+1:=W_fit (by omega) (by omega)
    have g3:=g2.endp (N:=30500) (m:=m) hlen hcu (by omega) hb (by omega) (fun q hq=>by have:=of_decide_eq_true (List.mem_filter.1 hq).2;omega) (by rw [m1];exact hf) (by omega) (by omega) (by omega)
    rw [e]
    refine ⟨_,g3.congr rfl rfl ?_ rfl rfl rfl rfl rfl⟩
    exact hW
 obtain ⟨E,g4⟩:=key
 have g5:=g4.mapOut (g:=Sco.give id) (fun x=>by unfold Sco.give;split <;> exact ⟨rfl,rfl⟩) (fun x _ _ hx=>by unfold Sco.give;split;exact .inl rfl;exact hx) (fun x _ hx=>by
  unfold Sco.give at hx
  split at hx
  . rename_i c;right;show (s.fates.set id 3)[x.id.toNat]?=_;rw [c.1];exact hf
  . exact .inl hx) (fun x _ hx=>by
  unfold Sco.give at hx
  split at hx
  . cases hx
  . exact hx)
 obtain ⟨r,-,-,-⟩:=zfh s id
 exact ⟨E,g5.congr r.config rfl rfl r.cum (zdy s id) rfl (by show (if s.sched.hand=(id:Int) then { s.sched with hand:=-1 } else s.sched:Sched).hand=if s.sched.hand=(id:Int) then -1 else s.sched.hand;split <;> rfl) r.mids⟩
end
end Gh
end Go.HL
namespace Go.HL
open Go.Proofs
namespace Pck
open Chk
set_option maxHeartbeats 2000000
set_option maxRecDepth 100000
set_option linter.unusedSimpArgs false
theorem zmj:∀ {l:List Chunk} {f:Nat},(zbc l).length <= f -> zbq l=0 -> zdx f (zbc l)=(l.map clean,0)
 | [],f,_,_=>by cases f <;> rfl
 | c :: r,f,h,hw=>by
  simp only [zbq] at hw
  have hc:wrong c=0:=by
   rcases Int.decEq (wrong c) 0 with h | h
   . rw [if_pos h] at hw;exact hw
   . exact h
  rw [if_neg (fun h=>h hc)] at hw
  have hb:zbc (c :: r)=Chk.bytes c++zbc r:=rfl
  have hlen:2 <= (Chk.bytes c).length:=by rw [Chk.bytes,if_pos hc];simp
  rw [hb,List.length_append] at h
  obtain ⟨g,rfl⟩:∃ g,f=g+1:=⟨f - 1,by omega⟩
  rw [hb,zdx,if_neg (by rw [List.length_append];omega),zzi hc,if_neg (fun h=>h rfl)]
  have hd:(Chk.bytes c++zbc r).drop (((Chk.bytes c).length:Int)).toNat=zbc r:=by simp
  rw [show (clean c,((Chk.bytes c).length:Int),(0:Int)).2.1=((Chk.bytes c).length:Int) from rfl,hd,zmj (by omega) hw]
  rfl
theorem pb_ok {l:List Chunk} {most:Int} (h:(pbytes l most).2=0):l.length ≠ 0 /\ zbq l=0 /\ ((zbc l).length:Int) <= most /\ pbytes l most=(zbc l,0):=by
 unfold pbytes at h ⊢
 by_cases h1:l.length=0
 . rw [if_pos h1] at h;cases h
 rw [if_neg h1] at h ⊢
 by_cases h2:zbq l ≠ 0
 . rw [if_pos h2] at h;exact absurd h h2
 rw [if_neg h2] at h ⊢
 by_cases h3:((zbc l).length:Int) > most
 . rw [if_pos h3] at h;cases h
 rw [if_neg h3]
 exact ⟨h1,by omega,by omega,rfl⟩
end Pck
end Go.HL
namespace Go.HL
open Go.Proofs
namespace Gh
open Ser Snd
set_option maxHeartbeats 4000000
set_option maxRecDepth 100000
set_option linter.unusedSimpArgs false
def gF (s:Sender) (id:Nat):Prop:=s.fates[id]?=some 3
def zph (H:List Prt) (ch:Chunk):Prop:=∃ (i:Nat) (y:Prt),H[i]?=some y /\ ch=y.chunk /\ ch.data ≠ []
def FwdOK (c:Config) (H:List Prt) (A F:Nat -> Prop) (ch:Chunk):Prop:=∃ n:Int,c.first - 1 <= n /\ n < c.first+H.length /\ tag ch.tag=tag n /\ (∀ (i:Nat) y,H[i]?=some y -> c.first+i <= n -> A i \/ F y.id) /\
 ∀ sk ∈ ch.skips,∃ (i:Nat) (y:Prt),H[i]?=some y /\ c.first+i <= n /\ F y.id /\ sk.stream=y.chunk.stream /\ sk.ordered=y.chunk.ordered /\ sk.mid=y.chunk.mid
def Sends (c:Config) (H:List Prt) (A F:Nat -> Prop) (ch:Chunk):Prop:=zph H ch \/ (ch.kind=3 /\ FwdOK c H A F ch)
theorem zph.more {H E:List Prt} {ch:Chunk} (h:zph H ch):zph (H++E) ch:=by
 obtain ⟨i,y,h1,h2⟩:=h;exact ⟨i,y,zeu h1,h2⟩
theorem yae {H E:List Prt} {i:Nat} {y:Prt} (h:(H++E)[i]?=some y) (hi:i < H.length):H[i]?=some y:=by
 rwa [List.getElem?_append_left hi] at h
theorem FwdOK.more {c:Config} {H E:List Prt} {A B F G:Nat -> Prop} {ch:Chunk} (h:FwdOK c H A F ch) (hA:∀ i,A i -> B i) (hF:∀ i,F i -> G i):FwdOK c (H++E) B G ch:=by
 obtain ⟨n,h1,h2,h3,h4,h5⟩:=h
 refine ⟨n,h1,by rw [List.length_append];push_cast;omega,h3,fun i y hy hle=>(h4 i y (yae hy (by omega)) hle).imp (hA i) (hF _),fun sk hsk=>?_⟩
 obtain ⟨i,y,k1,k2,k3,k4⟩:=h5 sk hsk
 exact ⟨i,y,zeu k1,k2,hF _ k3,k4⟩
theorem Sends.more {c:Config} {H E:List Prt} {A B F G:Nat -> Prop} {ch:Chunk} (h:Sends c H A F ch) (hA:∀ i,A i -> B i) (hF:∀ i,F i -> G i):Sends c (H++E) B G ch :=
 h.imp zph.more fun h=>⟨h.1,h.2.more hA hF⟩
section
variable {c:Config} {L:List Message} {H:List Prt} {A:Nat -> Prop} {s:Sender} {N:Nat}
theorem zxv (s:Sender) {id k:Nat} (h:gF s k):gF (giveS s id) k:=by
 unfold gF at h ⊢
 rw [zdy]
 by_cases e:id=k
 . subst e;rw [List.getElem?_set_self (zcn h)]
 . rw [List.getElem?_set_ne e];exact h
theorem zua (hN:N <= 500):∀ (q:List Queued) {H:List Prt} {s:Sender},GS c L H A s -> SI N s -> q.Pairwise (fun a b=>a.id < b.id) -> (∀ m ∈ q,m ∈ s.queue) -> ∃ E,GS c L (H++E) A (q.foldl expQ s) /\ (∀ k,gF s k -> gF (q.foldl expQ s) k)
 | [],H,s,h,_,_,_=>⟨[],by rw [List.append_nil];exact h,fun _ h=>h⟩
 | m :: q,H,s,h,hs,hp,hm=>by
  obtain ⟨p1,p2⟩:=List.pairwise_cons.1 hp
  have hq:=hs.queue m (hm m (by simp))
  have h0:=hq.id0
  rw [List.foldl_cons]
  by_cases c1:old s.clock m.came m.message.life=true
  . rw [show expQ s m=giveS s m.id from if_pos c1]
    obtain ⟨k,hk⟩:∃ k:Nat,m.id=k:=⟨m.id.toNat,by omega⟩
    have hf:=hq.fate
    have hid1:=hq.id1
    rw [hk] at hf ⊢
    rw [Int.toNat_natCast] at hf
    obtain ⟨E,g⟩:=yks h hs hN hf
    obtain ⟨E2,g2,g3⟩:=zua hN q g (ztl hs (by omega)) p2 fun x hx=>by
     rw [zgl]
     exact List.mem_filter.2 ⟨hm x (by simp [hx]),decide_eq_true (by have:=p1 x hx;omega)⟩
    exact ⟨E++E2,by rw [<- List.append_assoc];exact g2,fun j hj=>g3 j (zxv s hj)⟩
  . rw [show expQ s m=s from if_neg c1]
    exact zua hN q h hs p2 fun x hx=>hm x (by simp [hx])
theorem zub (hN:N <= 500):∀ (q:List Sent) {H:List Prt} {s:Sender},GS c L H A s -> SI N s -> (∀ m ∈ q,0 <= m.id /\ m.id < s.fates.length) -> ∃ E,GS c L (H++E) A (q.foldl expX s) /\ (∀ k,gF s k -> gF (q.foldl expX s) k)
 | [],H,s,h,_,_=>⟨[],by rw [List.append_nil];exact h,fun _ h=>h⟩
 | x :: q,H,s,h,hs,hx=>by
  obtain ⟨x0,x1⟩:=hx x (by simp)
  rw [List.foldl_cons]
  by_cases c1:dueX s x=true
  . rw [show expX s x=giveS s x.id from if_pos c1]
    obtain ⟨k,hk⟩:∃ k:Nat,x.id=k:=⟨x.id.toNat,by omega⟩
    have hf:s.fates[k]?=some 1:=by
     unfold dueX at c1
     rw [Bool.and_eq_true,decide_eq_true_eq,hk,Int.toNat_natCast] at c1
     cases hz:s.fates[k]? with
     | none=>rw [hz] at c1;exact absurd c1.1 (by decide)
     | some z=>rw [hz] at c1;rw [show z=1 from c1.1]
    rw [hk]
    obtain ⟨E,g⟩:=yks h hs hN hf
    obtain ⟨E2,g2,g3⟩:=zub hN q g (ztl hs (by omega)) fun y hy=>by
     rw [zdy,List.length_set];exact hx y (by simp [hy])
    exact ⟨E++E2,by rw [<- List.append_assoc];exact g2,fun j hj=>g3 j (zxv s hj)⟩
  . rw [show expX s x=s from if_neg c1]
    exact zub hN q h hs fun y hy=>hx y (by simp [hy])
theorem ykt (h:GS c L H A s) (hs:SI N s) (hN:N <= 500):∃ E,GS c L (H++E) A (expire s) /\ ∀ k,gF s k -> gF (expire s) k:=by
 obtain ⟨E,g1,g2⟩:=zua hN s.queue h hs h.rise fun _ h=>h
 obtain ⟨a,b⟩:=zko s.queue s hs fun m hm=>⟨(hs.queue m hm).id0,(hs.queue m hm).id1⟩
 obtain ⟨E2,g3,g4⟩:=zub hN (s.queue.foldl expQ s).out g1 a fun x hx=>⟨(a.out x hx).id0,(a.out x hx).id1⟩
 exact ⟨E++E2,by rw [<- List.append_assoc];exact g3,fun k hk=>g4 k (g2 k hk)⟩
theorem ydp {ch:Chunk} {t:Skip}:∀ {l:List Skip},t ∈ Sco.skip ch l -> t ∈ l \/ t=⟨ch.stream,ch.mid,ch.ordered⟩
 | [],h=>by
  rw [Sco.skip,List.mem_singleton] at h;exact .inr h
 | x :: r,h=>by
  rw [Sco.skip] at h
  split at h
  . rename_i c1
    unfold Sco.zha at c1
    simp only [Bool.and_eq_true,beq_iff_eq] at c1
    rcases List.mem_cons.1 h with h | h
    . rw [h,c1.1.1,c1.1.2];exact .inr rfl
    . exact .inl (by simp [h])
  . rcases List.mem_cons.1 h with h | h
    . exact .inl (by simp [h])
    . exact (ydp h).imp (fun h=>by simp [h]) id
theorem zuc (h:GS c L H A s) (hs:SI N s):∀ (l:List Sent) (k:Nat) (sk:List Skip) (cu:Int),s.out.drop k=l -> cu=s.cum+k -> k <= s.out.length -> (∀ (i:Nat) y,H[i]?=some y -> c.first+i <= cu -> A i \/ gF s y.id) ->
 (∀ t ∈ sk,∃ (i:Nat) (y:Prt),H[i]?=some y /\ c.first+i <= cu /\ gF s y.id /\ t.stream=y.chunk.stream /\ t.ordered=y.chunk.ordered /\ t.mid=y.chunk.mid) ->
 s.cum <= (Sco.zcf cu sk l).1 /\ (Sco.zcf cu sk l).1 <= s.cum+s.out.length /\ (∀ (i:Nat) y,H[i]?=some y -> c.first+i <= (Sco.zcf cu sk l).1 -> A i \/ gF s y.id) /\
 (∀ t ∈ (Sco.zcf cu sk l).2,∃ (i:Nat) (y:Prt),H[i]?=some y /\ c.first+i <= (Sco.zcf cu sk l).1 /\ gF s y.id /\ t.stream=y.chunk.stream /\ t.ordered=y.chunk.ordered /\ t.mid=y.chunk.mid)
 | [],k,sk,cu,_,h2,h3,h4,h5=>⟨by show s.cum <= cu;omega,by show cu <= _;omega,h4,h5⟩
 | x :: r,k,sk,cu,h1,h2,h3,h4,h5=>by
  have stay:s.cum <= cu /\ cu <= s.cum+s.out.length /\ (∀ (i:Nat) y,H[i]?=some y -> c.first+i <= cu -> A i \/ gF s y.id) /\ (∀ t ∈ sk,∃ (i:Nat) (y:Prt),H[i]?=some y /\ c.first+i <= cu /\ gF s y.id /\ t.stream=y.chunk.stream /\ t.ordered=y.chunk.ordered /\ t.mid=y.chunk.mid):=⟨by omega,by omega,h4,h5⟩
  have hx:s.out[k]?=some x:=by
   have:(s.out.drop k)[0]?=some x:=by rw [h1];rfl
   rwa [List.getElem?_drop,Nat.add_zero] at this
  have hk:=zcn hx
  have hr:s.out.drop (k+1)=r:=by rw [<- List.drop_drop,h1];rfl
  have hnum:=hs.nums k x hx
  obtain ⟨y,y1,y2,y3⟩:=h.out k x hx
  have hcu:=hs.cum
  rw [h.cfg] at hcu
  have hix:c.first+((((s.cum+1 - c.first).toNat+k:Nat)):Int)=x.number:=by rw [hnum];omega
  have hyid:x.id.toNat=y.id:=by omega
  rw [Sco.zcf]
  by_cases c1:x.number ≠ W (cu+1) \/ (x.state ≠ 4 /\ x.state ≠ 2)
  . rw [if_pos c1];exact stay
  rw [if_neg c1]
  have hst:x.state=4 \/ x.state=2:=by omega
  have hcov:∀ (i:Nat) z,H[i]?=some z -> c.first+i <= x.number -> A i \/ gF s z.id:=by
   intro i z hz hle
   by_cases e:c.first+i <= cu
   . exact h4 i z hz e
   . have:i=(s.cum+1 - c.first).toNat+k:=by omega
     subst this
     rw [y1] at hz
     cases hz
     rcases hst with h6 | h6
     . right;have:=h.gone x (List.mem_of_getElem? hx) h6;rwa [hyid] at this
     . exact .inl (h.come k x hx h6)
  by_cases c2:x.state=4
  . rw [if_pos c2]
    split
    . exact stay
    . refine zuc h hs r (k+1) _ x.number hr (by rw [hnum];push_cast;omega) (by omega) hcov fun t ht=>?_
      rcases ydp ht with ht | rfl
      . obtain ⟨i,z,z1,z2,z3⟩:=h5 t ht
        exact ⟨i,z,z1,by omega,z3⟩
      . refine ⟨_,y,y1,by omega,?_,?_,?_,?_⟩
        . have:=h.gone x (List.mem_of_getElem? hx) c2;rwa [hyid] at this
        . show x.chunk.stream=_;rw [y3]
        . show x.chunk.ordered=_;rw [y3]
        . show x.chunk.mid=_;rw [y3]
  . rw [if_neg c2]
    refine zuc h hs r (k+1) _ x.number hr (by rw [hnum];push_cast;omega) (by omega) hcov fun t ht=>?_
    obtain ⟨i,z,z1,z2,z3⟩:=h5 t ht
    exact ⟨i,z,z1,by omega,z3⟩
def OutOK (c:Config) (H:List Prt) (A:Nat -> Prop) (p:Pump):Prop:=∀ l ∈ p.out,∀ ch ∈ l,Sends c H A (gF p.s) ch
theorem yku {o:List (List Chunk)} {k:Nat} {x:Chunk} {Q:Chunk -> Prop} (h:∀ l ∈ o,∀ ch ∈ l,Q ch) (hx:Q x):∀ l ∈ setAt o k (·++[x]),∀ ch ∈ l,Q ch:=by
 intro l hl ch hc
 unfold setAt at hl
 split at hl
 . exact h l hl ch hc
 . rename_i y hy
   rcases List.mem_or_eq_of_mem_set hl with hl | rfl
   . exact h l hl ch hc
   . rcases List.mem_append.1 hc with hc | hc
     . exact h y (List.mem_of_getElem? hy) ch hc
     . rw [List.mem_singleton] at hc;subst hc;exact hx
theorem ygd {p:Pump} (h:GS c L H A p.s) (hs:SI N p.s) (ho:OutOK c H A p):GS c L H A (forward p).s /\ OutOK c H A (forward p) /\ (forward p).s.fates=p.s.fates:=by
 unfold forward
 split
 . exact ⟨h,ho,rfl⟩
 . have hcu:=hs.cum
   rw [h.cfg] at hcu
   have hnum:=h.num hs
   have hcap:=h.few hs
   obtain ⟨k1,k2,k3,k4⟩:=zuc h hs p.s.out 0 [] p.s.cum rfl (by simp) (by simp) (fun i y hy hle=>h.done i y hy hle) (by simp)
   refine ⟨h.congr rfl rfl rfl rfl rfl rfl rfl rfl,yku ho (.inr ⟨rfl,(Sco.point p.s.out p.s.cum).1,?_,?_,?_,k3,k4⟩),rfl⟩
   . show _ <= (Sco.zcf p.s.cum [] p.s.out).1;omega
   . show (Sco.zcf p.s.cum [] p.s.out).1 < _;omega
   . show tag (tag _)=_;unfold tag;omega
theorem yol {p:Pump} (h:GS c L H A p.s) (ho:OutOK c H A p) {i path:Nat} {x:Sent} (hx:p.s.out[i]?=some x) (hd:x.chunk.data ≠ []):GS c L H A (fly p i path).s /\ OutOK c H A (fly p i path) /\ (fly p i path).s.fates=p.s.fates:=by
 obtain ⟨y,y1,y2,y3⟩:=h.out i x hx
 have hil:=zcn hx
 unfold fly
 simp only [hx]
 refine ⟨?_,yku ho (.inl ⟨_,y,y1,y3,hd⟩),trivial⟩
 refine ⟨h.cfg,h.hi,h.len,fun k z hz=>?_,fun z hz hzd=>?_,fun z hz h4=>?_,fun k z hz h2=>?_,h.done,h.ids,h.rise,h.hand,h.handn,h.fresh,h.begun,h.mids,h.midn,h.whole,h.told⟩
 . have hz:(p.s.out.set i (flyX x path))[k]?=some z:=hz
   by_cases e:i=k
   . subst e
     rw [List.getElem?_set_self hil] at hz;cases hz
     exact ⟨y,y1,y2,y3⟩
   . rw [List.getElem?_set_ne e] at hz;exact h.out k z hz
 . rcases List.mem_or_eq_of_mem_set hz with hz | rfl
   . exact h.stop z hz hzd
   . exact absurd hzd hd
 . rcases List.mem_or_eq_of_mem_set hz with hz | rfl
   . exact h.gone z hz h4
   . cases h4
 . have hz:(p.s.out.set i (flyX x path))[k]?=some z:=hz
   by_cases e:i=k
   . subst e
     rw [List.getElem?_set_self hil] at hz;cases hz
     cases h2
   . rw [List.getElem?_set_ne e] at hz;exact h.come k z hz h2
theorem ykv {p:Pump} (h:GS c L H A p.s) (ho:OutOK c H A p) (path i:Nat):GS c L H A (zcj path p i).s /\ OutOK c H A (zcj path p i) /\ (zcj path p i).s.fates=p.s.fates:=by
 unfold zcj
 split
 . exact ⟨h,ho,rfl⟩
 . rename_i x hx
   split
   . rename_i c1
     refine yol h ho hx fun hd=>?_
     have:=h.stop x (List.mem_of_getElem? hx) hd
     omega
   . exact ⟨h,ho,rfl⟩
theorem zxw {path:Nat}:∀ (l:List Nat) {p:Pump},GS c L H A p.s -> OutOK c H A p -> GS c L H A (l.foldl (zcj path) p).s /\ OutOK c H A (l.foldl (zcj path) p) /\ (l.foldl (zcj path) p).s.fates=p.s.fates
 | [],_,h,ho=>⟨h,ho,rfl⟩
 | i :: l,p,h,ho=>by
  obtain ⟨h1,h2,h3⟩:=ykv h ho path i
  obtain ⟨k1,k2,k3⟩:=zxw (path:=path) l h1 h2
  exact ⟨k1,k2,k3.trans h3⟩
theorem mem_set' {α:Type} {l:List α} {k:Nat} {a y:α} (h:y ∈ l.set k a):y=a \/ ∃ i,i ≠ k /\ l[i]?=some y:=by
 obtain ⟨i,hi⟩:=List.getElem?_of_mem h
 by_cases e:k=i
 . subst e
   rw [List.getElem?_set_self (by have:=zcn hi;rwa [List.length_set] at this)] at hi
   cases hi;exact .inl rfl
 . rw [List.getElem?_set_ne e] at hi;exact .inr ⟨i,fun h=>e h.symm,hi⟩
theorem mem_erase' {α:Type} {l:List α} {k:Nat} {y:α} (h:y ∈ l.eraseIdx k):∃ i,i ≠ k /\ l[i]?=some y:=by
 obtain ⟨i,hi⟩:=List.getElem?_of_mem h
 rw [List.getElem?_eraseIdx] at hi
 split at hi
 . exact ⟨i,by omega,hi⟩
 . exact ⟨i+1,by omega,hi⟩
theorem yaf {q:List Queued} (h:q.Pairwise fun a b=>a.id < b.id) {i j:Nat} {x y:Queued} (hx:q[i]?=some x) (hy:q[j]?=some y) (hij:i < j):x.id < y.id:=by
 obtain ⟨h1,e1⟩:=List.getElem?_eq_some_iff.1 hx
 obtain ⟨h2,e2⟩:=List.getElem?_eq_some_iff.1 hy
 rw [<- e1,<- e2]
 exact List.pairwise_iff_getElem.1 h i j h1 h2 hij
end
end Gh
end Go.HL
