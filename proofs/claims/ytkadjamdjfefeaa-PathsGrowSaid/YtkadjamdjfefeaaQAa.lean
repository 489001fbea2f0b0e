/- Walks, contracts and laws of the law's functions: part 1. No condition. -/
import Derived.Calls
import Derived.KernelRfl
import Derived.WalkKit
import Derived.MapKept
import Derived.Maps.RangeRun
import Derived.Deep.AppendSrc
import Derived.Deep.MidRow
import Derived.Laws.OwnMore
import Derived.Lib.SliceRun
import Derived.ChangeKeysEq
import Derived.Laws.IdiomStrings
import Derived.Laws.Slices
import Derived.Deep.Upon
import Derived.Orders
import Derived.Tactics
import Derived.Laws.Sem
import Derived.ProofKit
import Derived.OpenShut
import Derived.JoinedCond
import Derived.Carry
set_option maxHeartbeats 32000000
set_option maxRecDepth 100000
set_option linter.unusedSimpArgs false
theorem zw {P Q:Prop} (q:Q) (e:Q -> P:=by (intro h;(conv=>whnf);exact h)):P:=e q
abbrev zy0:=@Nat.eq_of_beq_eq_true
abbrev zy1:=@Bool.and_eq_true
abbrev zy2:=@Nat.le_of_ble_eq_true
abbrev zy3:=@Option.map_eq_some_iff
abbrev zy4:=@List.mem_map
abbrev zy5:=@List.eq_nil_of_length_eq_zero
abbrev zy6:=@List.mem_append
abbrev zy7:=@if_neg
abbrev zy8:=@List.getElem?_eq_some_iff
abbrev zy9:=@List.mem_cons
abbrev zy10:=@List.getElem?_map
abbrev zy11:=@if_pos
abbrev zy12:=@Nat.add_mul
abbrev zy13:=@List.map_cons
abbrev zy14:=@List.getElem?_take
abbrev zy15:=@List.getElem?_eq_getElem
abbrev zy16:=@Array.toArray_toList
abbrev zy17:=@List.getElem?_drop
abbrev zy18:=@Option.map_some
abbrev zy19:=@List.all_eq_true
abbrev zy20:=@Array.getD_eq_getD_getElem?
abbrev zy21:=@Array.getElem?_eq_some_iff
abbrev zy22:=@List.mem_of_getElem?
abbrev zy23:=@List.getElem?_append_left
abbrev zy24:=@List.getElem?_eq_none
abbrev zy25:=@Nat.zero_add
abbrev zy26:=@Bool.false_eq_true
abbrev zy27:=@List.mem_of_mem_take
abbrev zy28:=@Nat.mul_le_mul_right
abbrev zy29:=@List.getElem?_append_right
abbrev zy30:=@Array.getElem?_eq_getElem
abbrev zy31:=@List.eq_of_mem_replicate
abbrev zy32:=@Nat.lt_of_lt_of_le
abbrev zy33:=@decide_eq_false_iff_not
abbrev zy34:=@List.flatten_append
abbrev zy35:=@List.length_cons
abbrev zy36:=@List.length_append
abbrev zy37:=@List.length_map
abbrev zy38:=@Nat.add_zero
abbrev zy39:=@Nat.lt_or_ge
abbrev zy40:=@List.ext_getElem?
abbrev zy41:=@List.mem_singleton
abbrev zy42:=@Array.getElem?_toList
abbrev zy43:=@decide_eq_false
abbrev zy44:=@Bool.not_eq_true'
abbrev zy45:=@decide_eq_true_eq
abbrev zy46:=@List.mem_of_mem_drop
abbrev zy47:=@Nat.le_refl
abbrev zy48:=@List.any_eq_true
abbrev zy49:=@List.length_take
abbrev zy50:=@List.getElem?_range
abbrev zy51:=@List.replicate_succ
abbrev zy52:=@List.getElem?_cons_succ
abbrev zy53:=@List.map_append
abbrev zy54:=@List.flatten_cons
abbrev zy55:=@Array.getElem?_modify
abbrev zy56:=@List.length_replicate
abbrev zy57:=@List.take_append_drop
abbrev zy58:=@beq_iff_eq
abbrev zy59:=@Array.getElem?_append_left
abbrev zy60:=@Nat.add_assoc
abbrev zy61:=@List.map_congr_left
abbrev zy62:=@List.nodup_cons
abbrev zy63:=@Nat.le_trans
abbrev zy64:=@List.getElem?_replicate
abbrev zy65:=@List.getElem?_set
abbrev zy66:=@List.drop_eq_nil_of_le
abbrev zy67:=@Option.bind_some
abbrev zy68:=@Bool.or_eq_true
theorem zz0 {P:Prop} (h:P:=by omega):P:=h
theorem zz1 {P:Prop} (h:P:=by simp):P:=h
theorem zz2 {P:Prop} (h:P:=by simp [zav,hg,hb]):P:=h
theorem zz3 {P:Prop} (h:P:=by simpa using hl):P:=h
theorem zz4 {P:Prop} (h:P:=by simp;exact Nat.pos_of_ne_zero (fun h=>hys (List.eq_nil_of_length_eq_zero h))):P:=h
theorem zz5 {P:Prop} (h:P:=by simpa using hx):P:=h
theorem zz6 {P:Prop} (h:P:=by simpa using hv):P:=h
theorem zz7 {P:Prop} (h:P:=by simp at hi ⊢;exact .inr hi):P:=h
theorem zz8 {P:Prop} (h:P:=by simp [zau]):P:=h
theorem zz9 {P:Prop} (h:P:=by simpa using ho):P:=h
theorem zz10 {P:Prop} (h:P:=by decide):P:=h
theorem zz11 {P:Prop} (h:P:=by simp;omega):P:=h
theorem zz12 {P:Prop} (h:P:=by simp at hi ⊢;exact .inl hi):P:=h
theorem zz13 {P:Prop} (h:P:=by simp only [zad];exact ⟨out,rfl,hrep⟩):P:=h
theorem zz14 {P:Prop} (h:P:=by simp only [maxLen];omega):P:=h
theorem zz15 {P:Prop} (h:P:=by simp [Loc.at,hn]):P:=h
theorem zz16 {P:Prop} (h:P:=by simp [hy]):P:=h
theorem zz17 {P:Prop} (h:P:=by simpa using hnw.length):P:=h
theorem zz18 {P:Prop} (h:P:=by simpa using zbh):P:=h
theorem zz19 {P:Prop} (h:P:=by simpa using hr):P:=h
theorem zz20 {P:Prop} (h:P:=by intro e he;cases he):P:=h
theorem zz21 {P:Prop} (h:P:=by simpa using h):P:=h
theorem zz22 {P:Prop} (h:P:=by simp [he]):P:=h
theorem yy3 {P:Prop} (h:P:=by
 by_cases h:i=id
 . subst h;rw [zaf] at hi;cases hi
 . rw [hHo i h] at hi;exact hok.free i hi):P:=h
theorem yy6 {P:Prop} (h:P:=by
 rw [hother k ?_]
 . exact hok.frame k hk hk0
 . rintro rfl
   rcases (hl3 hn).1 with h | h
   . exact hk0 h
   . omega):P:=h
theorem yy8 {P:Prop} (h:P:=by
 by_cases h:i=id
 . subst h;rw [zaf] at hi;cases hi
 . rw [hHo i h] at hi
   obtain ⟨li,h1,h2,h3⟩:=hok.ro i bi hi;exact ⟨li,h1,h2.mono (.refl m) hkeep fun hn'=>(hkeep _ (h3 hn')).1,fun hn'=>(hkeep _ (h3 hn')).2⟩):P:=h
theorem yy9 {P:Prop} (h:P:=by
 by_cases h:i=id
 . subst h;rw [zaf] at hi;cases hi
 . rw [hHo i h] at hi
   obtain ⟨li,h1,h2,h3⟩:=hok.ro i bi hi;exact ⟨li,hext _ _ h1,h2.mono hext hkeep fun hn=>(hkeep _ (h3 hn)).1,fun hn=>(hkeep _ (h3 hn)).2⟩):P:=h
theorem yy11 {P:Prop} (h:P:=by
 obtain ⟨li,h1,h2,h3⟩:=hok.live i bi hi;refine ⟨li,h1,h2.mono (.refl m) hkeep fun hn'=>hother _ fun he=>h (hok.inj i id bi b li l hi hl h1 hm hn' hn he),fun hn'=>⟨(h3 hn').1,by have:=(h3 hn').2;omega⟩⟩):P:=h
theorem yy13 {P:Prop} (h:P:=by
 by_cases h:i=id
 . subst h;rw [zaf] at hi;cases hi
 . by_cases h':i'=id
   . subst h';rw [zaf] at hi';cases hi'
   . rw [hHo i h] at hi;rw [hHo i' h'] at hi'
     exact hok.inj i i' bi bi' li li' hi hi'):P:=h
theorem yy14 {P:Prop} (h:P:=by
 intro k hk;obtain ⟨h1,h2,h3⟩:=hk;refine ⟨rfl,h1,h2,?_⟩;rintro ⟨i,li,bi,hi1,hi2⟩;by_cases h:i=id
 . subst h;rw [zaf] at hi1;cases hi1
 . rw [hHo i h] at hi1;exact h3 ⟨i,li,bi,hi1,hi2⟩):P:=h
theorem yy15 {P:Prop} (h:P:=by
 by_cases h:i=id
 . subst h;rw [zaf] at hi;cases hi
 . rw [hHo i h] at hi
   obtain ⟨li,h1,h2,h3⟩:=hok.live i bi hi;exact ⟨li,h1,h2.mono (.refl m) hkeep fun _=>rfl,h3⟩):P:=h
theorem yy18 {P:Prop} (h:P:=by
 cases xs with
 | nil=>cases ys with
  | nil=>exact ⟨true,h,rfl⟩
  | cons y ys=>exact h.elim
 | cons x xs=>obtain ⟨b,hb⟩:=zja x xs;rw [hb] at hf;cases hf):P:=h
theorem yy20 {P:Prop} (h:P:=by
 intro k hk;obtain ⟨h1,h2,h3⟩:=hk;refine ⟨hother k ?_,h1,by omega,fun h=>h3 (hown k h)⟩;rintro rfl;exact h3 ⟨id,l,b,hl,hm,hn,rfl⟩):P:=h
theorem yy21 {P:Prop} (h:P:=by
 rw [ht.zeros] at hall ⊢;refine zae.of_get zz1 fun k x v hx hv=>?_
 rw [zy10,hv] at hx;cases hx;exact zbd v (zy19.1 hall v (zy22 hv))):P:=h
theorem yy22 {P:Prop} (h:P:=by
 split at h
 . rename_i t n rows hb;exact key t n rows (.inl hb) h
 . rename_i t n rows hb;exact key t n rows (.inr hb) h
 . exact h.elim):P:=h
theorem yy23 {P:Prop} (h:P:=by
 rw [hxx] at hx;refine ⟨_,h,.ret hok ?_ hx []⟩;simp only [zad] at hx;obtain ⟨l,_,_,hv⟩:=hx;simp only [execOp,hv];rfl):P:=h
theorem yy24 {P:Prop} (h:P:=by
 obtain ⟨li,h1,h2,h3⟩:=hok.ro i bi hi;exact ⟨li,h1,h2.mono (.refl m) hkeep fun _=>rfl,fun hn=>(hkeep _ (h3 hn)).2⟩):P:=h
theorem yy27 {P:Prop} (h:P:=by
 by_cases h:i=id
 . subst h;rw [zaf] at hi;cases hi
 . rw [hHo i h] at hi;exact (hmo i h).trans (hok.free i hi)):P:=h
namespace Go.HL
inductive PV where
 | v (x:Value)
 | sl (n:Nat) (rows:List (List PV))
inductive HV where
 | p (x:PV)
 | ptr (id off:Nat)
 | eptr (id n i off:Nat)
 | rp (cells:List PV)
 | own (id:Nat)
 | osl (id n off len:Nat)
 | mp (id:Nat)
 | agg (l:List HV)
 | tup (l:List HV)
 | clo (f:FuncId) (caps:List HV)
 | und
 | any
inductive zcq where
 | cells (t:TypeId) (cs:List HV)
 | row (t:TypeId) (n:Nat) (rows:List (List PV))
 | buf (t:TypeId) (n:Nat) (rows:List (List PV)) (cap:Nat)
 | map (kc:Nat) (agg:Bool) (es:List (Value×List PV))
 | iter (kc:Nat) (agg:Bool) (left:List (Value×List PV)) (cur:Option (Value×List PV))
inductive zaa where
 | free
 | dead
 | live (b:zcq)
 | ro (b:zcq)
structure HS where
 n:Nat
 slot:Nat->HV
 heap:Nat->zaa
 pins:List Nat
def upd {α:Type} (f:Nat->α) (i:Nat) (x:α):Nat->α:=fun j=>bif Nat.beq j i then x else f j
inductive TK where
 | int (k:IntKind)
 | bool
 | str
 | slice (e:TypeId)
 | struct (fs:List (Nat×Nat))
 | arr (n:Nat) (e:TypeId)
 | map (k e:TypeId)
 | other
structure TyD where
 k:TK
 size:Nat
 bytes:Nat
 zero:List Value
 zagg:Bool
def zoe:Value->Bool
 | .agg _=>true
 | _=>false
def zcn:TypeDesc->TK
 | .int k=>.int k
 | .bool=>.bool
 | .string=>.str
 | .slice e=>.slice e
 | .struct fs=>.struct (fs.toList.map fun f=>(f.offset,f.type))
 | .array n e=>.arr n e
 | .map k e=>.map k e
 | _=>.other
def zvy (P:Program) (t:TypeId):Option TyD :=
 match P.underlying t,P.info? t with
 | some u,some i=>match i.zero with
  | some z=>some ⟨zcn u,i.size,i.bytes,z.cells.toList,zoe z⟩
  | none=>none
 | _,_=>none
structure Res where
 val:HV
 ups:List (Nat×zaa)
 tch:List Nat
def ret (x:HV):Res:=⟨x,[],[]⟩
abbrev hint (k:IntKind) (n:Int):HV:=.p (.v (.int k n))
abbrev zbp (b:Bool):HV:=.p (.v (.bool b))
abbrev zro:HV:=.p (.v (.slice none 0 0))
def hif (b:Bool) (A B:Prop):Prop:=match b with | true=>A | false=>B
def zer (c k:Prop):Prop:=c/\k
def zgq (k:IntKind) (z:Int) (K:Int->Prop):Prop:=∃ y,y=k.wrap z/\K y
def zms (rows:List (List PV)) (i:Int) (K:List PV->Prop):Prop:=∃ r,0<=i/\rows[i.toNat]?=some r/\K r
def zpq (b:UInt8):List PV:=[.v (.int .u8 b.toNat)]
def zpy (rows:List (List PV)) (K:List UInt8->Prop):Prop:=∃ bs:List UInt8,rows=bs.map zpq/\K bs
def zkj (rows:List (List PV)) (off len:Nat) (K:List (List PV)->Prop):Prop:=∃ rs,rs=(rows.drop off).take len/\off+len<=rows.length/\K rs
def zfl:Value->HV
 | .agg cs=>bif cs.toList.all (·.oneCell') then .agg (cs.toList.map fun v=>.p (.v v)) else .any
 | .tuple _=>.any
 | v=>.p (.v v)
def evalOp (slot:Nat->HV):Operand->HV
 | .tmp t=>slot t
 | .const v=>zfl v
 | .func f=>.clo f []
 | .global _=>.any
def zbi:HV->List HV
 | .agg l=>l
 | x=>[x]
def zbo:List HV->(List HV->Prop)->Prop
 | [],k=>k []
 | x::xs,k=>match x with
  | .p v=>zbo xs fun ys=>k (.p v::ys)
  | .ptr i o=>zbo xs fun ys=>k (.ptr i o::ys)
  | .eptr i n j o=>zbo xs fun ys=>k (.eptr i n j o::ys)
  | .rp c=>zbo xs fun ys=>k (.rp c::ys)
  | .own i=>zbo xs fun ys=>k (.own i::ys)
  | .osl i n o l=>zbo xs fun ys=>k (.osl i n o l::ys)
  | .mp i=>zbo xs fun ys=>k (.mp i::ys)
  | .agg l=>zbo xs fun ys=>k (.agg l::ys)
  | .tup l=>zbo xs fun ys=>k (.tup l::ys)
  | .clo f c=>zbo xs fun ys=>k (.clo f c::ys)
  | .und=>zbo xs fun ys=>k (.und::ys)
  | .any=>zbo xs fun ys=>k (.any::ys)
def zdh:List PV->(List PV->Prop)->Prop
 | [],k=>k []
 | x::xs,k=>match x with
  | .v a=>zdh xs fun ys=>k (.v a::ys)
  | .sl n r=>zdh xs fun ys=>k (.sl n r::ys)
def force (x:HV) (k:HV->Prop):Prop:=match x with
 | .p v=>k (.p v)
 | .ptr i o=>k (.ptr i o)
 | .eptr i n j o=>k (.eptr i n j o)
 | .rp c=>k (.rp c)
 | .own i=>k (.own i)
 | .osl i n o l=>k (.osl i n o l)
 | .mp i=>k (.mp i)
 | .agg l=>zbo l fun l=>k (.agg l)
 | .tup l=>k (.tup l)
 | .clo f c=>k (.clo f c)
 | .und=>k .und
 | .any=>k .any
def zhb {α:Type}:List α->Nat->List α->List α
 | cs,0,[]=>cs
 | [],_,_=>[]
 | c::cs,n+1,xs=>c::zhb cs n xs
 | _::cs,0,x::xs=>x::zhb cs 0 xs
def zio {α:Type}:List α->Nat->Nat->List α
 | _,0,0=>[]
 | [],_,_=>[]
 | c::cs,0,n+1=>c::zio cs 0 n
 | _::cs,o+1,n=>zio cs o n
def nth {α:Type}:List α->Nat->Option α
 | [],_=>none
 | x::_,0=>some x
 | _::xs,n+1=>nth xs n
def zba:TK->Bool
 | .struct _=>true
 | .arr _ _=>true
 | _=>false
def zei (d:TyD) (cs:List HV) (off:Nat) (K:HV->Prop):Prop :=
 match zba d.k with
 | true=>bif Nat.ble (off+d.size) cs.length then zbo (zio cs off d.size) fun l=>K (.agg l) else False
 | false=>match nth cs off with | some x=>force x K | none=>False
def zct (d:TyD) (cs:List PV) (off:Nat) (K:HV->Prop):Prop :=
 match zba d.k with
 | true=>bif Nat.ble (off+d.size) cs.length then zdh (zio cs off d.size) fun l=>K (.agg (l.map .p)) else False
 | false=>match nth cs off with
  | some (.v x)=>K (.p (.v x))
  | some (.sl n r)=>K (.p (.sl n r))
  | none=>False
def zaq (s:zaa) (K:zcq->Prop):Prop :=
 match s with
 | .live b=>K b
 | .ro b=>K b
 | _=>False
def zue (s:zaa) (id:Nat) (b:zcq) (x:HV) (K:Res->Prop):Prop :=
 match s with
 | .free=>K ⟨x,[(id,.live b)],[id]⟩
 | _=>False
def hpv (H:Nat->zaa) (x:HV) (K:PV->List (Nat×zaa)->Prop):Prop:=match x with
 | .p v=>K v []
 | .own id=>match H id with
  | .live (.row t n rows)=>K (.sl n rows) [(id,.ro (.row t n rows))]
  | .ro (.row t n rows)=>K (.sl n rows) [(id,.ro (.row t n rows))]
  | _=>False
 | _=>False
def zmq (H:Nat->zaa):List HV->(List PV->List (Nat×zaa)->Prop)->Prop
 | [],K=>K [] []
 | x::xs,K=>hpv H x fun v u=>zmq H xs fun vs us=>K (v::vs) (u++us)
def zdb (H:Nat->zaa) (n₀:Nat) (x:HV) (K:Nat->List (List PV)->List Nat->Prop):Prop:=match x with
 | .p (.sl n rows)=>K n rows []
 | .p (.v (.slice none 0 0))=>K n₀ [] []
 | .own id=>zaq (H id) fun b=>match b with
  | .row _ n rows=>K n rows [id]
  | _=>False
 | .osl id n off len=>zaq (H id) fun b=>match b with
  | .row _ n' rows=>bif Nat.beq n n' then zkj rows off len fun rs=>K n rs [id] else False
  | .buf _ n' rows _=>bif Nat.beq n n' then zkj rows off len fun rs=>K n rs [id] else False
  | _=>False
 | _=>False
def zde (rows:List (List PV)) (o:Nat) (ys:List (List PV)):List (List PV):=rows.take o++ys++rows.drop (o+ys.length)
def zti (b:zcq) (K:TypeId->Nat->List (List PV)->(List (List PV)->zcq)->Nat->Prop):Prop:=match b with
 | .row t n rows=>K t n rows (.row t n) rows.length
 | .buf t n rows c=>K t n rows (fun r=>.buf t n r c) c
 | .cells _ _=>False
 | .map _ _ _=>False
 | .iter _ _ _ _=>False
def tyK (P:Program) (t:TypeId) (K:TyD->Prop):Prop:=match zvy P t with | some d=>K d | none=>False
def zbv (P:Program) (t:TypeId) (K:TypeId->TyD->Prop):Prop:=tyK P t fun d=>match d.k with
 | .slice e=>tyK P e fun de=>K e de
 | _=>False
def zhd:List HV->List HV->(Bool->Prop)->Prop
 | [],[],K=>K true
 | x::xs,y::ys,K=>match x with
  | .p (.v (.int k a))=>match y with
   | .p (.v (.int k' b))=>bif k==k' then zhd xs ys fun r=>K ((a==b)&&r) else False
   | _=>False
  | .p (.v (.bool a))=>match y with
   | .p (.v (.bool b))=>zhd xs ys fun r=>K ((a==b)&&r)
   | _=>False
  | _=>False
 | _,_,_=>False
def zfv:List HV->List Bool
 | []=>[]
 | .p (.v (.int _ _))::r=>true::zfv r
 | _::r=>false::zfv r
def zfm (P:Program):Nat->List Field->List Bool->Bool
 | _,[],[]=>true
 | i, f :: fs, b :: bs => f.name != "_" && f.offset == i && (match P.underlying f.type with | some (.int _) => b | some .bool => !b | _ => false) && zfm P (i + 1) fs bs
 | _,_,_=>false
def zpu (P:Program) (n:Nat) (e:TypeId) (ks:List Bool):Bool :=
 ks==List.replicate n true&&(match P.underlying e with | some (.int _)=>true | _=>false)&&P.cellsOf e==1&&(P.info? e).isSome
def ztl (P:Program) (t:TypeId) (ks:List Bool):Bool :=
 (match P.underlying t with | some (.struct a)=>zfm P 0 a.toList ks | some (.array n e)=>zpu P n e ks | _=>false)&&!P.stoodInHeld t&&!P.eqGuardType P.depth t
def zjo:Operand->Bool
 | .const (.slice _ _ _)=>true
 | _=>false
def zuz (P:Program) (cs:Bool) (t:TypeId) (op:BinOp) (x y:HV) (K:Res->Prop):Prop :=
 match x with
 | .p (.v (.int k a))=>match y with
  | .p (.v (.int k' b))=>match op with
   | .shr=>zer (0<=b/\b<=k.bits) (K (ret (hint k (a / 2 ^ b.toNat))))
   | .shl=>zer (0<=b/\b<=k.bits) (zgq k (a*2 ^ b.toNat) fun z=>K (ret (hint k z)))
   | .add=>bif k==k' then zgq k (a+b) fun z=>K (ret (hint k z)) else False
   | .sub=>bif k==k' then zgq k (a-b) fun z=>K (ret (hint k z)) else False
   | .mul=>bif k==k' then zgq k (a*b) fun z=>K (ret (hint k z)) else False
   | .quo=>bif k==k' then zer (b≠0) (zgq k (a.tdiv b) fun z=>K (ret (hint k z))) else False
   | .rem=>bif k==k' then zer (b≠0) (K (ret (hint k (a.tmod b)))) else False
   | .and=>bif k==k' then K (ret (hint k (bits .and k a b))) else False
   | .or=>bif k==k' then K (ret (hint k (bits .or k a b))) else False
   | .eql=>bif k==k' then K (ret (zbp (a==b))) else False
   | .neq=>bif k==k' then K (ret (zbp (a != b))) else False
   | .lss=>bif k==k' then K (ret (zbp (decide (a<b)))) else False
   | .leq=>bif k==k' then K (ret (zbp (decide (a<=b)))) else False
   | .gtr=>bif k==k' then K (ret (zbp (decide (a>b)))) else False
   | .geq=>bif k==k' then K (ret (zbp (decide (a>=b)))) else False
   | _=>False
  | _=>False
 | .p (.v (.bool a))=>match y with
  | .p (.v (.bool b))=>tyK P t fun td=>match td.k with
   | .bool=>match op with
    | .eql=>K (ret (zbp (a==b)))
    | .neq=>K (ret (zbp (!(a==b))))
    | _=>False
   | _=>False
  | _=>False
 | .p (.v (.string a))=>match y with
  | .p (.v (.string b))=>match op with
   | .eql=>K (ret (zbp (a.toList==b.toList)))
   | .neq=>K (ret (zbp (!(a.toList==b.toList))))
   | .add=>zer (a.size+b.size<=9223372036854775807) (K (ret (.p (.v (.string (a++b))))))
   | _=>False
  | _=>False
 | .agg xs=>match y with
  | .agg ys=>zer (ztl P t (zfv xs)=true) (match op with
   | .eql=>zhd xs ys fun b=>K (ret (zbp b))
   | .neq=>zhd xs ys fun b=>K (ret (zbp (!b)))
   | _=>False)
  | _=>False
 | .p (.sl _ rows)=>match y with
  | .p (.v (.slice none 0 0))=>zbv P t fun _ _=>match op with
   | .eql=>match cs with
    | true=>∀ b:Bool,(b=true->rows=[])->K (ret (zbp b))
    | false=>False
   | _=>False
  | _=>False
 | .p (.v (.slice none 0 0))=>match y with
  | .p (.v (.slice none 0 0))=>zbv P t fun _ _=>match op with
   | .eql=>K (ret (zbp true))
   | _=>False
  | _=>False
 | _=>False
def zmw:HV->Option Nat
 | .own id=>some id
 | _=>none
def zju (P:Program) (t:TypeId) (op:BinOp) (id:Nat) (y:HV) (H:Nat->zaa) (K:Res->Prop):Prop:=match y with
 | .p (.v (.slice none 0 0))=>match op with
  | .eql=>zbv P t fun _ _=>zaq (H id) fun b=>match b with
   | .row _ _ rows=>∀ b:Bool,(b=true->rows=[])->K ⟨zbp b,[],[id]⟩
   | _=>False
  | _=>False
 | _=>False
def zik:Op->Bool
 | .binOp _ _ _ y _=>!zjo y
 | .next _ _=>false
 | _=>true
def zkk:List HV->Bool
 | []=>true
 | x::r=>match x with
  | .agg _=>false
  | .tup _=>false
  | .und=>false
  | .any=>false
  | _=>zkk r
def zqh (P:Program) (t:TypeId) (k:Prop):Prop:=match (P.info? t).map (·.size) with
 | some (_+1)=>k
 | _=>False
def zgp (P:Program) (fs:List (Nat×Nat)):List (Nat×HV)->List HV->(List HV->Prop)->Prop
 | [],cs,K=>K cs
 | (i,x)::r,cs,K=>match nth fs i with
  | some (off,tf)=>bif zkk (zbi x)&&(P.info? tf).map (·.size)==some (zbi x).length&&Nat.ble (off+(zbi x).length) cs.length then zgp P fs r (zhb cs off (zbi x)) K else False
  | none=>False
abbrev zai:=FuncId->List HV->(Nat->zaa)->Nat->Res->Prop
def zvi (C:zai) (f:FuncId) (args:List HV) (d:Nat) (H:Nat->zaa) (K:Res->Prop):Prop:=∃ r,C f args H d r/\K r
def evL (ev:Operand->HV):List Operand->(List HV->Prop)->Prop
 | [],K=>K []
 | x::r,K=>force (ev x) fun v=>evL ev r fun vs=>K (v::vs)
def zho (x:HV) (H:Nat->zaa) (sz:Nat) (K:Res->Prop) (len:Nat) (l h:Int):Prop :=
 zer (0<=l/\l<=h/\h<=len) (match x with
  | .p (.sl n rows)=>bif Nat.beq n sz then zkj rows l.toNat (h-l).toNat fun rs=>K (ret (.p (.sl n rs))) else False
  | .own id=>match H id with
   | .live (.row _ n _)=>bif Nat.beq n sz then K ⟨.osl id n l.toNat (h-l).toNat,[],[id]⟩ else False
   | .ro (.row _ n _)=>bif Nat.beq n sz then K ⟨.osl id n l.toNat (h-l).toNat,[],[id]⟩ else False
   | _=>False
  | _=>False)
def zex (x:HV) (H:Nat->zaa) (sz:Nat) (lo hi:Option HV) (K:Res->Prop):Prop :=
 zdb H 0 x fun _ rows _ =>
  match lo with
  | none=>match hi with
   | none=>zho x H sz K rows.length 0 rows.length
   | some (.p (.v (.int _ h)))=>zho x H sz K rows.length 0 h
   | _=>False
  | some (.p (.v (.int _ l)))=>match hi with
   | none=>zho x H sz K rows.length l rows.length
   | some (.p (.v (.int _ h)))=>zho x H sz K rows.length l h
   | _=>False
  | _=>False
def zsg (H:Nat->zaa) (id n off len sz:Nat) (lo hi:Option HV) (K:Res->Prop):Prop :=
 zaq (H id) fun b=>zti b fun _ _ _ _ lim=>bif Nat.beq n sz then
  match lo with
  | none=>match hi with
   | none=>zer ((off:Int)+len<=lim) (K ⟨.osl id n off len,[],[id]⟩)
   | some (.p (.v (.int _ h)))=>zer (0<=h/\(off:Int)+h<=lim) (K ⟨.osl id n off h.toNat,[],[id]⟩)
   | _=>False
  | some (.p (.v (.int _ l)))=>match hi with
   | none=>zer (0<=l/\l<=len/\(off:Int)+len<=lim) (K ⟨.osl id n (off+l.toNat) (len-l.toNat),[],[id]⟩)
   | some (.p (.v (.int _ h)))=>zer (0<=l/\l<=h/\(off:Int)+h<=lim) (K ⟨.osl id n (off+l.toNat) (h-l).toNat,[],[id]⟩)
   | _=>False
  | _=>False
  else False
def ziu (P:Program) (t:TypeId) (s:ByteArray) (lo hi:Option HV) (K:Res->Prop):Prop:=tyK P t fun td=>match td.k with
 | .str=>match lo with
  | some (.p (.v (.int _ l)))=>match hi with
   | some (.p (.v (.int _ h)))=>zer (0<=l/\l<=h/\h<=s.size) (K (ret (.p (.v (.string (s.extract l.toNat h.toNat))))))
   | _=>False
  | _=>False
 | _=>False
def isStr:HV->Option ByteArray
 | .p (.v (.string s))=>some s
 | _=>none
def zdj (x:HV) (H:Nat->zaa) (sz:Nat) (l h mx:Int) (K:Res->Prop):Prop:=match x with
 | .p (.sl n rows)=>zer (0<=l/\l<=h/\h<=mx/\mx<=rows.length) (bif Nat.beq n sz then zkj rows l.toNat (h-l).toNat fun rs=>K (ret (.p (.sl n rs))) else False)
 | .own id=>zaq (H id) fun b=>match b with
  | .row _ _ rows=>zer (0<=l/\l<=h/\h<=mx/\mx<=rows.length) (K ⟨.any,[],[id]⟩)
  | _=>False
 | .osl id _ off len=>zaq (H id) fun b=>zti b fun _ _ _ _ lim=>zer (0<=l/\l<=h/\h<=mx/\(off:Int)+mx<=lim/\mx<=len) (K ⟨.any,[],[id]⟩)
 | _=>False
def zva (n:Nat) (i:Int) (K:Nat->Prop):Prop:=∃ j:Nat,i=j/\j<n/\K j
def zey:TK->Nat
 | .int .i8=>1
 | .int .i16=>2
 | .int .i32=>3
 | .int .i64=>4
 | .int .u8=>5
 | .int .u16=>6
 | .int .u32=>7
 | .int .u64=>8
 | .str=>9
 | .bool=>10
 | _=>0
def zmy (n:Nat):Value->Bool
 | .int k _=>Nat.beq n (zey (.int k))
 | .string _=>Nat.beq n 9
 | .bool _=>Nat.beq n 10
 | _=>false
def zpd:Value->Value->Bool
 | .int _ a,.int _ b=>a==b
 | .string a,.string b=>a==b
 | .bool a,.bool b=>a==b
 | _,_=>false
def zml (es:List (Value×List PV)) (k:Value):Option (List PV):=match es with
 | []=>none
 | (k',v)::r=>if zpd k k' then some v else zml r k
def zus (es:List (Value×List PV)) (k:Value) (v:List PV):List (Value×List PV):=match es with
 | []=>[(k,v)]
 | (k',v')::r=>if zpd k k' then (k,v)::r else (k',v')::zus r k v
def zfn (es:List (Value×List PV)) (k:Value) (K:Option (List PV)->Prop):Prop:=∃ o,o=zml es k/\K o
def zwk (es:List (Value×List PV)) (k:Value) (v:List PV) (K:List (Value×List PV)->Prop):Prop:=∃ o,o=zus es k v/\K o
def zka (P:Program) (t:TypeId) (K:TyD->TypeId->TyD->Prop):Prop:=tyK P t fun d=>match d.k with
 | .map k e=>tyK P k fun dk=>tyK P e fun de=>K dk e de
 | _=>False
def zmi (P:Program) (t:TypeId) (K:Nat->TyD->Prop):Prop:=tyK P t fun d=>match d.k with
 | .arr n e=>tyK P e fun de=>K n de
 | _=>False
def zwe (P:Program):Nat->List TypeId->List (Option Nat)
 | 0,_=>[]
 | _+1,[]=>[]
 | n+1,t::ts=>match P.underlying t with
  | some (.struct fs)=>zwe P n (fs.toList.map (·.type)++ts)
  | some (.slice e)=>some (P.cellsOf e)::zwe P n ts
  | _=>none::zwe P n ts
abbrev lay (P:Program) (t:TypeId):List (Option Nat):=zwe P 100 [t]
def zlj:Option Nat->PV->PV
 | some k,.v (.slice none 0 0)=>.sl k []
 | _,x=>x
def ziz:List (Option Nat)->List PV->List PV
 | _,[]=>[]
 | [],xs=>xs
 | o::os,x::xs=>zlj o x::ziz os xs
def ztn (H:Nat->zaa) (os:List (Option Nat)) (xs:List HV) (K:List PV->List (Nat×zaa)->Prop):Prop:=zmq H xs fun vs u=>zdh (ziz os vs) fun vs=>K vs u
def zin (H:Nat->zaa) (os:List (Option Nat)) (n:Nat):List HV->(List (List PV)->List (Nat×zaa)->Prop)->Prop
 | [],K=>K [] []
 | x::xs,K=>bif zkk (zbi x) then ztn H os (zbi x) fun r u=>bif Nat.beq r.length n then zin H os n xs fun rs us=>K (r::rs) (u++us) else False else False
def okK (ok:Bool) (v:HV) (b:Bool) (id:Nat) (K:Res->Prop):Prop:=match ok with
 | true=>K ⟨.tup [v,zbp b],[],[id]⟩
 | false=>K ⟨v,[],[id]⟩
def zoy (P:Program) (e:TypeId) (de:TyD) (ok:Bool) (agg:Bool) (o:Option (List PV)) (K:Res->Prop) (id:Nat):Prop :=
 bif agg==zba de.k then match o with
  | some cs=>bif Nat.beq cs.length de.size then zct de cs 0 fun v=>okK ok v true id K else False
  | none=>bif Nat.beq de.zero.length de.size&&de.zero.all (·.oneCell')&&de.zagg==zba de.k then zct de (ziz (lay P e) (de.zero.map .v)) 0 fun v=>okK ok v false id K else False
  else False
def zod:HV->Bool
 | .agg _=>true
 | _=>false
def zcw (P:Program) (t:TypeId) (x i y:HV) (H:Nat->zaa) (K:Res->Prop):Prop:=zka P t fun dk e de=>match i with
 | .p (.v k)=>bif zmy (zey dk.k) k then match x with
  | .mp id=>match H id with
   | .live (.map kc agg es)=>bif zkk (zbi y)&&agg==zod y&&Nat.beq kc (zey dk.k) then ztn H (lay P e) (zbi y) fun vs us=>bif Nat.beq vs.length de.size&&us.isEmpty then
    zwk es k vs fun es'=>K ⟨.und,[(id,.live (.map kc agg es'))],[id]⟩ else False
    else False
   | _=>False
  | _=>False
  else False
 | _=>False
def zci (P:Program) (t:TypeId) (x i:HV) (H:Nat->zaa) (K:Res->Prop):Prop:=zbv P t fun _ de=>match i with
 | .p (.v (.int _ i))=>match x with
  | .p (.sl n rows)=>bif Nat.beq n de.size then zms rows i fun r=>K (ret (.rp r)) else False
  | .own id=>zaq (H id) fun b=>match b with
   | .row _ n rows=>bif Nat.beq n de.size then zer (0<=i/\i<rows.length) (K ⟨.eptr id n i.toNat 0,[],[id]⟩) else False
   | .cells _ cs=>bif Nat.beq 1 de.size then zva cs.length i fun j=>K ⟨.ptr id j,[],[id]⟩ else False
   | _=>False
  | .osl id n off len=>bif Nat.beq n de.size then zer (0<=i/\i<len) (K (ret (.eptr id n (off+i.toNat) 0))) else False
  | _=>False
 | _=>False
def zwj (kc:Nat) (agg:Bool) (left:List (Value×List PV)) (id:Nat) (K:Res->Prop):Prop :=
 (left=[]->K ⟨.tup [zbp false],[],[id]⟩)/\∀ A x B,left=A++x::B->K ⟨.tup [zbp true,.any,.any],[(id,.live (.iter kc agg (A++B) (some x)))],[id]⟩
def zvj (agg:Bool) (cur:Option (Value×List PV)) (K:Value->PV->Prop):Prop:=∃ k v,agg=false/\cur=some (k,[v])/\K k v
def zsj:Nat->List (Nat×Operand)->Bool
 | _,[]=>true
 | k,(i,_)::r=>Nat.beq i k&&zsj (k+1) r
def zdr (P:Program) (t:TypeId) (x y:HV) (d:Nat) (H:Nat->zaa) (K:Res->Prop):Prop :=
 zbv P t fun e de=>zdb H de.size y fun n ys ty=>bif Nat.beq n de.size&&Nat.blt 0 de.size&&Nat.blt 0 de.bytes&&Nat.beq de.zero.length de.size then
  match x with
  | .p (.v (.slice none 0 0))=>match H d with
   | .free=>zer (ys.length*de.bytes<=140737488355328) (K ⟨.own d,[(d,.live (.row e de.size ys))],d::ty⟩)
   | _=>False
  | .own id=>match H id with
   | .live (.row e' n rows)=>bif Nat.beq e' e&&Nat.beq n de.size then match H d with
    | .free=>zer ((rows.length+ys.length)*de.bytes<=140737488355328) (K ⟨.own d,[(id,.dead),(d,.live (.row e n (rows++ys)))],d::id::ty⟩)
    | _=>False
    else False
   | _=>False
  | .osl id n1 off len=>match H id with
   | .live b=>zti b fun t1 n2 rows mk lim=>bif Nat.beq t1 e&&Nat.beq n2 de.size&&Nat.beq n1 de.size then
    zer (off+len<=rows.length/\off+len+ys.length<=lim) (K ⟨.osl id n1 off (len+ys.length),[(id,.live (mk (zde rows (off+len) ys)))],id::ty⟩) else False
   | _=>False
  | _=>False
  else False
def zch (P:Program) (t:TypeId) (x:HV) (z:Int) (d:Nat) (H:Nat->zaa) (K:Res->Prop):Prop :=
 zbv P t fun e de=>bif Nat.blt 0 de.size&&Nat.blt 0 de.bytes&&Nat.beq de.zero.length de.size&&de.zero.all (·.oneCell') then
  match x with
  | .osl id n1 off len=>zaq (H id) fun b=>match b with
   | .buf _ n2 rows cap=>bif Nat.beq n2 de.size&&Nat.beq n1 de.size then
    zer (0<=z/\z<=9223372036854775807/\(cap:Int)<off+len+z/\off+len<=rows.length/\(len+z)*de.bytes<=140737488355328) (match H d with
     | .free=>K ⟨.own d,[(d,.live (.row e de.size ((rows.drop off).take len++List.replicate z.toNat (de.zero.map .v))))],[d,id]⟩
     | _=>False) else False
   | _=>False
  | _=>False
  else False
def zpr (H:Nat->zaa) (n:Nat) (y:HV) (most:Nat) (K:Nat->List (List PV)->List Nat->Prop):Prop:=match y with
 | .osl id n1 off len=>zaq (H id) fun b=>zti b fun _ n2 rows _ _=>bif Nat.beq n1 n2 then zkj rows off (Nat.min len most) fun rs=>K n1 rs [id] else False
 | y=>zdb H n y fun n rows ty=>K n (rows.take most) ty
def zkw (P:Program) (t:TypeId) (x y:HV) (H:Nat->zaa) (K:Res->Prop):Prop :=
 zbv P t fun _ de=>match x with
  | .osl id n1 off len=>match H id with
   | .live b=>zti b fun _ n2 rows mk lim=>zpr H de.size y len fun n ys ty=>bif Nat.beq n2 de.size&&Nat.beq n1 de.size&&Nat.beq n de.size then
    zer (off<=rows.length/\off+ys.length<=lim) (K ⟨hint .i64 ys.length,[(id,.live (mk (zde rows off ys)))],id::ty⟩) else False
   | _=>False
  | _=>False
def zgo (P:Program) (t:TypeId) (x:HV) (H:Nat->zaa) (K:Res->Prop):Prop :=
 zbv P t fun _ de=>bif Nat.beq de.zero.length de.size&&de.zero.all (·.oneCell') then match x with
  | .osl id n1 off len=>match H id with
   | .live b=>zti b fun _ n2 rows mk lim=>bif Nat.beq n2 de.size&&Nat.beq n1 de.size then
    zer (off<=rows.length/\off+len<=lim) (K ⟨.tup [],[(id,.live (mk (zde rows off (List.replicate len (de.zero.map .v)))))],[id]⟩) else False
   | _=>False
  | _=>False
  else False
def zat (P:Program) (C:zai) (op:Op) (d:Nat) (ev:Operand->HV) (H:Nat->zaa) (K:Res->Prop):Prop :=
 match op with
 | .move x=>force (ev x) fun v=>K (ret v)
 | .assign x=>force (ev x) fun v=>K (ret v)
 | .pick c a b=>match ev c with
  | .p (.v (.bool c))=>hif c (force (ev a) fun v=>K (ret v)) (force (ev b) fun v=>K (ret v))
  | _=>False
 | .alloc t=>tyK P t fun td=>bif td.zero.all (·.oneCell') then zue (H d) d (.cells t (td.zero.map fun v=>.p (.v v))) (.ptr d 0) K else False
 | .box t x=>force (ev x) fun v=>bif zkk (zbi v) then zue (H d) d (.cells t (zbi v)) (.ptr d 0) K else False
 | .build t ps=>tyK P t fun td=>match td.k with
  | .struct fs=>bif td.zero.all (·.oneCell')&&fs.all (fun f=>(P.info? f.2).isSome) then
   zgp P fs (ps.toList.map fun x=>(x.1,ev x.2)) (td.zero.map fun v=>.p (.v v)) fun l=>zbo l fun l=>bif zkk l then K (ret (.agg l)) else False
   else False
  | .arr n e=>tyK P e fun de=>bif td.zero.all (·.oneCell') then
   zgp P ((List.range n).map fun i=>(Nat.mul i de.size,e)) (ps.toList.map fun x=>(x.1,ev x.2)) (td.zero.map fun v=>.p (.v v)) fun l=>zbo l fun l=>bif zkk l then K (ret (.agg l)) else False
   else False
  | _=>False
 | .buildSlice t n ps=>zbv P t fun e de=>bif Nat.beq ps.toList.length n&&zsj 0 ps.toList&&Nat.ble (n*de.size) 16777216&&Nat.blt 0 de.size then
  zin H (lay P e) de.size (ps.toList.map fun x=>ev x.2) fun rows us=>match H d with
  | .free=>K ⟨.own d,us++[(d,.live (.row e de.size rows))],d::us.map (·.1)⟩
  | _=>False
  else False
 | .load t a=>tyK P t fun td=>match ev a with
  | .ptr id off=>zaq (H id) fun b=>match b with
   | .cells _ cs=>zei td cs off fun v=>K ⟨v,[],[id]⟩
   | _=>False
  | .rp cs=>zct td cs 0 fun v=>K (ret v)
  | .eptr id n i off=>zaq (H id) fun b=>match b with
   | .row _ n' rows=>bif Nat.beq n n' then zms rows i fun r=>zct td r off fun v=>K ⟨v,[],[id]⟩ else False
   | _=>False
  | _=>False
 | .store t a x=>tyK P t fun td=>match ev a with
  | .ptr id off=>match H id with
   | .live (.cells t cs)=>force (ev x) fun v=>bif zkk (zbi v)&&Nat.beq (zbi v).length td.size&&Nat.ble (off+td.size) cs.length then
    zbo (zhb cs off (zbi v)) fun cs=>K ⟨.und,[(id,.live (.cells t cs))],[id]⟩ else False
   | _=>False
  | .eptr id n' i off=>match H id with
   | .live (.row t1 n rows)=>bif zkk (zbi (ev x)) then ztn H (lay P t) (zbi (ev x)) fun vs us=>zms rows i fun r=>bif Nat.beq n n'&&Nat.beq vs.length td.size&&Nat.ble (off+td.size) r.length&&us.isEmpty then
    zdh (zhb r off vs) fun r'=>K ⟨.und,[(id,.live (.row t1 n (rows.set i r')))],[id]⟩ else False else False
   | _=>False
  | _=>False
 | .nilCheck x=>match ev x with
  | .ptr i o=>K (ret (.ptr i o))
  | .eptr i n j o=>K (ret (.eptr i n j o))
  | .rp c=>K (ret (.rp c))
  | _=>False
 | .binOp op t x y _=>match zmw (ev x) with
  | some id=>(match zjo y with
   | true=>zju P t op id (ev y) H K
   | false=>False)
  | none=>zuz P (zjo y) t op (ev x) (ev y) K
 | .unOp op _ x=>match op with
  | .not=>match ev x with
   | .p (.v (.bool b))=>K (ret (zbp (!b)))
   | _=>False
  | .neg=>match ev x with
   | .p (.v (.int k z))=>zgq k (0-z) fun y=>K (ret (hint k y))
   | _=>False
  | _=>False
 | .convert src dst x=>tyK P src fun ts=>tyK P dst fun td=>match ev x with
  | .p (.v (.int _ z))=>match td.k with
   | .int k=>zgq k z fun y=>K (ret (hint k y))
   | _=>False
  | .p (.v (.string s))=>match td.k with
   | .slice e=>tyK P e fun de=>match de.k with
    | .int .u8=>match ts.k with
     | .str=>zer (s.size<=maxLen) (K (ret (.p (.sl 1 (s.data.toList.map zpq)))))
     | _=>False
    | _=>False
   | _=>False
  | x=>match td.k with
   | .str=>match ts.k with
    | .slice e=>tyK P e fun de=>match de.k with
     | .int .u8=>zdb H 1 x fun n rows ty=>bif Nat.beq n 1 then zpy rows fun bs=>K ⟨.p (.v (.string ⟨bs.toArray⟩)),[],ty⟩ else False
     | _=>False
    | _=>False
   | .slice e=>bif Nat.beq src dst then tyK P e fun de=>match de.k with
    | .int .u8=>match x with
     | .own id=>match H id with
      | .live (.row _ n rows)=>zer (rows≠[]) (K ⟨.p (.sl n rows),[(id,.dead)],[id]⟩)
      | _=>False
     | _=>False
    | _=>False
    else False
   | _=>False
 | .fieldAddr t x f=>tyK P t fun td=>match td.k with
  | .struct fs=>match nth fs f with
   | some (o,tf)=>zqh P tf (match ev x with
    | .ptr id off=>K (ret (.ptr id (Nat.add off o)))
    | .eptr id n i off=>K (ret (.eptr id n i (Nat.add off o)))
    | .rp cs=>K (ret (.rp (cs.drop o)))
    | _=>False)
   | none=>False
  | _=>False
 | .field t x f=>tyK P t fun td=>match td.k with
  | .struct fs=>match nth fs f with
   | some (o,tf)=>match ev x with
    | .agg l=>tyK P tf fun tdf=>zei tdf l o fun v=>K (ret v)
    | _=>False
   | none=>False
  | _=>False
 | .indexAddr t x i=>match ev x with
  | .ptr id off=>zmi P t fun n de=>match ev i with
   | .p (.v (.int _ i))=>zva n i fun j=>K (ret (.ptr id (Nat.add off (Nat.mul j de.size))))
   | _=>False
  | v=>zci P t v (ev i) H K
 | .index t x i=>zmi P t fun n de=>match ev x with
  | .agg l=>match ev i with
   | .p (.v (.int _ i))=>zva n i fun j=>zei de l (Nat.mul j de.size) fun v=>K (ret v)
   | _=>False
  | _=>False
 | .makeMap t r=>match r with
  | none=>zka P t fun dk _ de=>match H d with
   | .free=>K ⟨.mp d,[(d,.live (.map (zey dk.k) (zba de.k) []))],[d]⟩
   | _=>False
  | some _=>False
 | .lookup t x i ok=>zka P t fun dk e de=>match ev i with
  | .p (.v k)=>bif zmy (zey dk.k) k then match ev x with
   | .mp id=>zaq (H id) fun b=>match b with
    | .map kc agg es=>bif Nat.beq kc (zey dk.k) then zfn es k fun o=>zoy P e de ok agg o K id else False
    | _=>False
   | _=>False
   else False
  | _=>False
 | .range t x=>zka P t fun _ _ _=>match ev x with
  | .mp id=>match H id with
   | .live (.map kc agg es)=>match H d with
    | .free=>K ⟨.ptr d 0,[(id,.dead),(d,.live (.iter kc agg es none))],[d,id]⟩
    | _=>False
   | _=>False
  | _=>False
 | .next x str=>match str with
  | true=>False
  | false=>match ev x with
   | .ptr id 0=>match H id with
    | .live (.iter kc agg left _)=>zwj kc agg left id K
    | _=>False
   | _=>False
 | .entry x=>match ev x with
  | .ptr id 0=>zaq (H id) fun b=>match b with
   | .iter _ agg _ cur=>zvj agg cur fun k v=>K ⟨.tup [.p (.v k),.p v],[],[id]⟩
   | _=>False
  | _=>False
 | .mapUpdate t x i y=>zcw P t (ev x) (ev i) (ev y) H K
 | .insert t x i y=>zcw P t (ev x) (ev i) (ev y) H K
 | .slice t x lo hi mx=>match mx with
  | none=>match isStr (ev x) with
   | some s=>ziu P t s (lo.map ev) (hi.map ev) K
   | none=>zbv P t fun _ de=>match ev x with
    | .osl id n off len=>zsg H id n off len de.size (lo.map ev) (hi.map ev) K
    | v=>zex v H de.size (lo.map ev) (hi.map ev) K
  | some m=>zbv P t fun _ de=>match lo.map ev with
   | some (.p (.v (.int _ l)))=>match hi.map ev with
    | some (.p (.v (.int _ h)))=>match ev m with
     | .p (.v (.int _ m))=>zdj (ev x) H de.size l h m K
     | _=>False
    | _=>False
   | _=>False
 | .makeSlice t l c=>zbv P t fun e de=>bif de.zero.all (·.oneCell')&&Nat.blt 0 de.bytes&&Nat.beq de.zero.length de.size&&Nat.blt 0 de.size then match ev l with
  | .p (.v (.int _ l))=>match ev c with
   | .p (.v (.int _ c))=>zer (0<=l/\l=c/\c*de.bytes<=140737488355328) (match H d with
    | .free=>(match de.k with
     | .slice _=>(match de.zero with
      | [z]=>zva 140737488355329 l fun j=>K ⟨.own d,[(d,.live (.cells e (List.replicate j (.p (.v z)))))],[d]⟩
      | _=>False)
     | _=>K ⟨.own d,[(d,.live (.row e de.size (List.replicate l.toNat (de.zero.map .v))))],[d]⟩)
    | _=>False)
   | _=>False
  | _=>False
  else False
 | .makeFunc fn first caps=>match fn with
  | .func f=>bif first.isEmpty then evL ev caps.toList fun l=>K (ret (.clo f l)) else False
  | _=>False
 | .extract t i=>match ev t with
  | .tup l=>match nth l i with
   | some x=>force x fun v=>K (ret v)
   | none=>False
  | _=>False
 | .call c=>match c.callee with
  | .builtin .len=>match c.args.toList with
   | [x]=>match c.argTypes.toList with
    | [t]=>tyK P t fun td=>match td.k with
     | .str=>match ev x with
      | .p (.v (.string s))=>K ⟨hint .i64 s.size,[],[]⟩
      | _=>False
     | .slice _=>match ev x with
      | .osl _ _ _ len=>K ⟨hint .i64 len,[],[]⟩
      | .own id=>zaq (H id) fun b=>match b with
       | .cells _ cs=>K ⟨hint .i64 cs.length,[],[id]⟩
       | .row _ _ rows=>K ⟨hint .i64 rows.length,[],[id]⟩
       | _=>False
      | x=>zdb H 0 x fun _ rows ty=>K ⟨hint .i64 rows.length,[],ty⟩
     | _=>False
    | _=>False
   | _=>False
  | .builtin .min=>match c.args.toList with
   | [x,y]=>match ev x with
    | .p (.v (.int k a))=>match ev y with
     | .p (.v (.int _ b))=>K (ret (hint k (if b<a then b else a)))
     | _=>False
    | _=>False
   | _=>False
  | .builtin .max=>match c.args.toList with
   | [x,y]=>match ev x with
    | .p (.v (.int k a))=>match ev y with
     | .p (.v (.int _ b))=>K (ret (hint k (if b>a then b else a)))
     | _=>False
    | _=>False
   | _=>False
  | .builtin .append=>match c.args.toList with
   | [x,y]=>match c.argTypes.toList with
    | [t,t']=>(match Nat.beq t t' with
    | true=>zdr P t (ev x) (ev y) d H K
    | false=>tyK P t' fun td=>match td.k with
     | .int .i64=>match ev y with
      | .p (.v (.int .i64 z))=>zch P t (ev x) z d H K
      | _=>False
     | _=>False)
    | _=>False
   | _=>False
  | .builtin .copy=>match c.args.toList with
   | [x,y]=>match c.argTypes.toList with
    | [t,_]=>zkw P t (ev x) (ev y) H K
    | _=>False
   | _=>False
  | .builtin .clear=>match c.args.toList with
   | [x]=>match c.argTypes.toList with
    | [t]=>zgo P t (ev x) H K
    | _=>False
   | _=>False
  | .builtin .cap=>match c.args.toList with
   | [x]=>match c.argTypes.toList with
    | [t]=>zbv P t fun _ _=>match ev x with
     | .osl id _ off _=>zaq (H id) fun b=>match b with
      | .buf _ _ _ cap=>zer (off<=cap) (K ⟨hint .i64 ((cap-off:Nat):Int),[],[id]⟩)
      | _=>False
     | _=>False
    | _=>False
   | _=>False
  | .value f=>match ev f with
   | .clo f caps=>evL ev c.args.toList fun args=>zvi C f (args++caps) d H K
   | _=>False
  | _=>False
 | _=>False
def HS.put (s:HS) (d:Option Nat) (x:HV):HS:=match d with | some d=>{s with slot:=upd s.slot d x} | none=>s
def zbb (H:Nat->zaa):List (Nat×zaa)->Nat->zaa
 | []=>H
 | (i,b)::r=>zbb (upd H i b) r
def HS.app (s:HS) (d:Option Nat) (r:Res):HS:=match d with
 | some d=>⟨s.n,upd s.slot d r.val,zbb s.heap r.ups,s.pins⟩
 | none=>⟨s.n,s.slot,zbb s.heap r.ups,s.pins⟩
def zbh (P:Program) (C:zai) (dst:Option Nat) (op:Op) (s:HS) (K:Res->HS->Prop):Prop :=
 match dst with
 | some d=>bif Nat.blt d s.n then zat P C op d (evalOp s.slot) s.heap fun r=>K r (s.app (some d) r) else False
 | none=>zat P C op 0 (evalOp s.slot) s.heap fun r=>K r (s.app none r)
def zla (dst:Option Nat) (s:HS) (K:HS->Prop):Prop :=
 match dst with
 | some d=>bif Nat.blt d s.n then K (s.put (some d) .und) else False
 | none=>K s
mutual
def zau:HV->List Nat
 | .ptr i _=>[i]
 | .eptr i _ _ _=>[i]
 | .own i=>[i]
 | .osl i _ _ _=>[i]
 | .mp i=>[i]
 | .agg l=>zcm l
 | .tup l=>zcm l
 | .clo _ l=>zcm l
 | _=>[]
def zcm:List HV->List Nat
 | []=>[]
 | x::r=>zau x++zcm r
end
def zll (ev:Operand->HV):List Operand->List Nat
 | []=>[]
 | x::r=>zau (ev x)++zll ev r
def looks:Op->Bool
 | .move _=>false
 | .assign _=>false
 | .pick _ _ _=>false
 | .build _ _=>false
 | .nilCheck _=>false
 | .fieldAddr _ _ _=>false
 | .field _ _ _=>false
 | .extract _ _=>false
 | .makeFunc _ _ _=>false
 | _=>true
def zfw (op:Op) (ev:Operand->HV) (d:Nat):List Nat:=match looks op with
 | true=>d::zll ev op.operands.toList
 | false=>[]
abbrev Lab:=Option (Res×List Nat)
def zjt (P:Program) (C:zai) (all:List Oper) (o:Oper) (s:HS) (acc:List Lab) (go:HS->List Lab->Prop):Prop :=
 match o with
 | ⟨dst,op,_,_,_,guard⟩ =>
  match guard with
  | none=>zbh P C dst op s fun r s'=>go s' (some (r,zfw op (evalOp s.slot) (dst.getD 0))::acc)
  | some (j,want)=>match (nth all j).bind (·.dst) with
   | some g=>match s.slot g with
    | .p (.v (.bool b)) =>
     hif b
      (hif want (zbh P C dst op (s.put (some g) (zbp true)) fun r s'=>go s' (some (r,zfw op (evalOp s.slot) (dst.getD 0))::acc))
       (zla dst (s.put (some g) (zbp true)) fun s'=>go s' (none::acc)))
      (hif want (zla dst (s.put (some g) (zbp false)) fun s'=>go s' (none::acc))
       (zbh P C dst op (s.put (some g) (zbp false)) fun r s'=>go s' (some (r,zfw op (evalOp s.slot) (dst.getD 0))::acc)))
    | .und=>zla dst s fun s'=>go s' (none::acc)
    | _=>False
   | none=>False
noncomputable def zki (P:Program) (C:zai) (all l:List Oper):HS->List Lab->(List Lab->HS->Prop)->Prop :=
 List.rec (motive:=fun _=>HS->List Lab->(List Lab->HS->Prop)->Prop) (fun s acc K=>K acc s) (fun o _ ih s acc K=>zjt P C all o s acc fun s' acc'=>ih s' acc' K) l
theorem zky (P:Program) (C:zai) (all:List Oper) (o:Oper) (os:List Oper) (s:HS) (acc:List Lab) (K:List Lab->HS->Prop) :
 zki P C all (o::os) s acc K=zjt P C all o s acc fun s' acc'=>zki P C all os s' acc' K:=rfl
def ztv (k:Nat):Nat:=Nat.shiftLeft 1 k
def zfs (ms:List Nat):List Edge->Nat
 | []=>0
 | e::r=>bif Region.binds .any e then Nat.lor (Nat.lor (ztv e.on) ((nth ms e.on).getD 0)) (zfs ms r) else zfs ms r
def zft:List Oper->List Nat->List Nat
 | [],ms=>ms
 | o::os,ms=>zft os (ms++[zfs ms o.after.toList])
def zru:List Nat->List Nat->Bool
 | [],_=>true
 | x::r,l=>!(l.any (Nat.beq x))&&zru r l
def znj:Lab->List Nat
 | some (r,_)=>r.ups.map (·.1)
 | none=>[]
def zih:Lab->List Nat
 | some (r,l)=>l++(r.tch++r.ups.map (·.1))
 | none=>[]
def zkm (all:Array Oper) (o:Oper) (lab:Lab) (m:Nat):Nat->List Oper->List Lab->Bool
 | k,x::xs,l::ls=>(Nat.testBit m k||(x.apart all o&&zru (znj l) (zih lab)&&zru (znj lab) (zih l)))&&zkm all o lab m (k+1) xs ls
 | _,_,_=>true
def indep (all:Array Oper) (labs:List Lab) (ms:List Nat):Nat->List Oper->List Lab->Bool
 | k,o::os,l::ls=>zkm all o l ((nth ms k).getD 0) 0 (all.toList.take k) (labs.take k)&&indep all labs ms (k+1) os ls
 | _,_,_=>true
def zdg:Nat->List Oper->Bool
 | _,[]=>true
 | k,o::os=>(o.after.toList.all fun e=>!Region.binds .any e||Nat.blt e.on k)&&zdg (k+1) os
def zdz (all:Array Oper) (labs:List Lab):Bool:=(all.toList.all fun o=>zik o.op)&&zdg 0 all.toList&&indep all labs (zft all.toList []) 0 all.toList labs
inductive HX where
 | normal
 | exit (id:Nat)
 | ret
def lk {α:Type} (d:α):List (Nat×α)->Nat->α
 | [],_=>d
 | (j,x)::r,i=>bif Nat.beq i j then x else lk d r i
def hs (n:Nat) (slots:List (Nat×HV)) (heap:List (Nat×zaa)):HS:=⟨n,lk .any slots,lk .free heap,[]⟩
def hsP (pins:List Nat) (n:Nat) (slots:List (Nat×HV)) (heap:List (Nat×zaa)):HS:=⟨n,lk .any slots,lk .free heap,pins⟩
def pin:Nat:=1000
abbrev Ren:=Nat->Option (Option Nat)
def lkN:List (Nat×Option Nat)->Ren
 | [],_=>none
 | (j,x)::r,i=>bif Nat.beq i j then some x else lkN r i
mutual
def rn (σ:Ren):HV->HV
 | .p x=>.p x
 | .ptr i o=>match σ i with | some (some j)=>.ptr j o | _=>.any
 | .eptr i n k o=>match σ i with | some (some j)=>.eptr j n k o | _=>.any
 | .rp c=>.rp c
 | .own i=>match σ i with | some (some j)=>.own j | some none=>zro | none=>.any
 | .osl i n o l=>match σ i with | some (some j)=>.osl j n o l | _=>.any
 | .mp i=>match σ i with | some (some j)=>.mp j | _=>.any
 | .agg l=>.agg (rnL σ l)
 | .tup l=>.tup (rnL σ l)
 | .clo f c=>.clo f (rnL σ c)
 | .und=>.und
 | .any=>.any
def rnL (σ:Ren):List HV->List HV
 | []=>[]
 | x::r=>rn σ x::rnL σ r
end
mutual
def zeb (σ:Ren):HV->Bool
 | .p _=>true
 | .ptr i _=>match σ i with | some (some _)=>true | _=>false
 | .eptr i _ _ _=>match σ i with | some (some _)=>true | _=>false
 | .rp _=>true
 | .own i=>match σ i with | some _=>true | none=>false
 | .osl i _ _ _=>match σ i with | some (some _)=>true | _=>false
 | .mp i=>match σ i with | some (some _)=>true | _=>false
 | .agg l=>zfd σ l
 | .tup l=>zfd σ l
 | .clo _ c=>zfd σ c
 | .und=>true
 | .any=>true
def zfd (σ:Ren):List HV->Bool
 | []=>true
 | x::r=>zeb σ x&&zfd σ r
end
def rnB (σ:Ren):zcq->zcq
 | .cells t cs=>.cells t (rnL σ cs)
 | .row t n rows=>.row t n rows
 | .buf t n rows c=>.buf t n rows c
 | .map c a es=>.map c a es
 | .iter c a es x=>.iter c a es x
def zgd (σ:Ren):zcq->Bool
 | .cells _ cs=>zfd σ cs
 | .row _ _ _=>true
 | .buf _ _ _ _=>true
 | .map _ _ _=>true
 | .iter _ _ _ _=>true
def zvr:zcq->Prop
 | .row _ _ rows=>rows=[]
 | .buf _ _ _ _=>False
 | .map _ _ _=>False
 | .iter _ _ _ _=>False
 | .cells _ _=>False
mutual
def fzV (fz:List Nat) (H:Nat->zaa):HV->HV
 | .own id=>bif fz.any (Nat.beq id) then (match H id with
  | .live (.row _ n rows)=>.p (.sl n rows)
  | .ro (.row _ n rows)=>.p (.sl n rows)
  | _=>.own id) else .own id
 | .agg l=>.agg (fzL fz H l)
 | .tup l=>.tup (fzL fz H l)
 | .p x=>.p x
 | .ptr i o=>.ptr i o
 | .eptr i n k o=>.eptr i n k o
 | .rp c=>.rp c
 | .osl i n o l=>.osl i n o l
 | .mp i=>.mp i
 | .clo f c=>.clo f c
 | .und=>.und
 | .any=>.any
def fzL (fz:List Nat) (H:Nat->zaa):List HV->List HV
 | []=>[]
 | x::r=>fzV fz H x::fzL fz H r
end
def fzH (fz:List Nat) (H:Nat->zaa):Nat->zaa:=fun id=>match H id with
 | .free=>.free
 | .dead=>.dead
 | .ro b=>.ro b
 | .live (.row t n rows)=>bif fz.any (Nat.beq id) then .ro (.row t n rows) else .live (.row t n rows)
 | .live (.cells t cs)=>.live (.cells t (fzL fz H cs))
 | .live (.buf t n rows c)=>.live (.buf t n rows c)
 | .live (.map c a es)=>.live (.map c a es)
 | .live (.iter c a es x)=>.live (.iter c a es x)
def fzS (fz:List Nat) (s:HS):HS:=⟨s.n,fun i=>fzV fz s.heap (s.slot i),fzH fz s.heap,s.pins⟩
structure zvz (s t:HS):Prop where
 n:t.n=s.n
 pins:t.pins=s.pins
 out:∃ σ:Ren,
  (∀ i,t.slot i=.any\/(zeb σ (t.slot i)=true/\rn σ (t.slot i)=s.slot i)) /\
  (∀ id,match t.heap id with
   | .free=>σ id=none
   | .dead=>True
   | .live b=>zgd σ b=true/\((∃ j,σ id=some (some j)/\s.heap j=.live (rnB σ b))\/(σ id=some none/\zvr b))
   | .ro b=>zgd σ b=true/\∃ j,σ id=some (some j)/\(s.heap j=.live (rnB σ b)\/s.heap j=.ro (rnB σ b))) /\
  (∀ id id' b j,t.heap id=.live b->t.heap id'≠.dead->σ id=some (some j)->σ id'=some (some j)->id=id') /\
  (∀ id∈s.pins,σ id=some (some id))
def HLe (s t:HS):Prop:=∃ fz:List Nat,zvz (fzS fz s) t
def zvl (rec:HS->(HX->HS->Prop)->Prop) (s:HS) (Q:HX->HS->Prop):Prop :=
 ∃ (α:Type) (I:α->HS) (μ:α->Nat) (x₀:α),HLe s (I x₀)/\∀ x,rec (I x) fun e s'=>match e with
  | .normal=>∃ x',HLe s' (I x')/\μ x'<μ x
  | .exit i=>Q (.exit i) s'
  | .ret=>Q .ret s'
def zhf (ex:List Nat) (q:Nat) (all:Array Oper) (o:Oper) (lab:Lab) (m:Nat):Nat->List Oper->List Lab->Bool
 | k,x::xs,l::ls=>(Nat.testBit m k||(x.apart all o&&(ex.any (Nat.beq k)||ex.any (Nat.beq q)||(zru (znj l) (zih lab)&&zru (znj lab) (zih l)))))&&zhf ex q all o lab m (k+1) xs ls
 | _,_,_=>true
def zoc (ex:List Nat) (all:Array Oper) (labs:List Lab) (ms:List Nat):Nat->List Oper->List Lab->Bool
 | k,o::os,l::ls=>zhf ex k all o l ((nth ms k).getD 0) 0 (all.toList.take k) (labs.take k)&&zoc ex all labs ms (k+1) os ls
 | _,_,_=>true
def zdv (ex:List Nat) (all:Array Oper) (labs:List Lab):Bool:=zdg 0 all.toList&&zoc ex all labs (zft all.toList []) 0 all.toList labs
def zpo (id:Nat):List (Nat×zaa)->List zaa
 | []=>[]
 | (i,b)::r=>bif Nat.beq i id then b::zpo id r else zpo id r
def zfi (id:Nat):List Lab->List zaa
 | []=>[]
 | some (r,_)::ls=>zpo id r.ups++zfi id ls
 | none::ls=>zfi id ls
def isDst (a:Nat):Option Nat->Bool
 | some d=>Nat.beq d a
 | none=>false
def zdf (a:Nat):List Oper->List Lab->List HV
 | o::os,some (r,_)::ls=>bif isDst a o.dst then r.val::zdf a os ls else zdf a os ls
 | _::os,none::ls=>zdf a os ls
 | _,_=>[]
def placeOf:HV->Option Nat
 | .ptr i _=>some i
 | .eptr i _ _ _=>some i
 | _=>none
def zqb (P:Program) (t:TypeId) (x:HV) (b:zaa) (K:Res->Prop):Prop:=tyK P t fun td=>match x with
 | .ptr id off=>zaq b fun b=>match b with
  | .cells _ cs=>zei td cs off fun v=>K ⟨v,[],[id]⟩
  | _=>False
 | .eptr id n i off=>zaq b fun b=>match b with
  | .row _ n' rows=>bif Nat.beq n n' then zms rows i fun r=>zct td r off fun v=>K ⟨v,[],[id]⟩ else False
  | _=>False
 | _=>False
def zrr {α:Type} (p:α->Prop):List α->Prop
 | []=>True
 | x::r=>p x/\zrr p r
def zol (P:Program) (s0:HS) (all:List Oper) (labs:List Lab) (t:TypeId) (a:Nat) (r:Res):Prop :=
 zrr (fun x=>match placeOf x with
  | some id=>zrr (fun b=>zqb P t x b (·=r)) (s0.heap id::zfi id labs)
  | none=>match x with
   | .rp _=>False
   | _=>True) (s0.slot a::zdf a all labs)
def zsb (b:zaa) (id:Nat) (K:Res->Prop):Prop:=zaq b fun b=>match b with
 | .cells _ cs=>K ⟨hint .i64 cs.length,[],[id]⟩
 | .row _ _ rows=>K ⟨hint .i64 rows.length,[],[id]⟩
 | _=>False
def zvq (s0:HS) (all:List Oper) (labs:List Lab) (a:Nat) (r:Res):Prop :=
 zrr (fun x=>match x with
  | .own id=>zrr (fun b=>zsb b id (·=r)) (s0.heap id::zfi id labs)
  | .any=>True
  | _=>False) (s0.slot a::zdf a all labs)
def zly (P:Program) (s0:HS) (all:List Oper) (labs:List Lab) (j:Nat):Prop:=match nth all j with
 | some o=>match o.op with
  | .load t (.tmp a)=>match nth labs j with
   | some (some (r,_))=>(match r.ups with | []=>True | _=>False)/\zol P s0 all labs t a r
   | _=>False
  | .call c=>match c.callee with
   | .builtin .len=>match c.args.toList with
    | [.tmp a]=>match nth labs j with
     | some (some (r,_))=>(match r.ups with | []=>True | _=>False)/\zvq s0 all labs a r
     | _=>False
    | _=>False
   | _=>False
  | _=>False
 | none=>False
def zuc (P:Program) (s0:HS) (all:Array Oper) (labs:List Lab) (k:Prop):Prop:=(zdz all labs=true\/∃ ex:List Nat,zdv ex all labs=true/\zrr (zly P s0 all.toList labs) ex)/\k
abbrev HWP:=HS->(HX->HS->Prop)->Prop
def zwl (P:Program) (C:zai) (ops:Array Oper) (draw:Bool):HWP:=fun s Q=>match draw with
 | false=>zki P C ops.toList ops.toList s [] fun _ s=>Q .normal s
 | true=>bif ops.toList.all fun o=>zik o.op then zki P C ops.toList ops.toList s [] fun labs s'=>zuc P s ops labs.reverse (Q .normal s') else False
def zvo (x y:HWP):HWP:=fun s Q=>x s fun e s'=>match e with
 | .normal=>y s' Q
 | .exit id=>Q (.exit id) s'
 | .ret=>Q .ret s'
inductive zub (X:(HX->HS->Prop)->Prop) (Y:HWP) (Q:HX->HS->Prop):Prop where
 | go (h:X fun e s'=>match e with
  | .normal=>Y s' Q
  | .exit id=>Q (.exit id) s'
  | .ret=>Q .ret s')
 | meet (α:Type) (I:α->HS) (h:X fun e s'=>match e with
  | .normal=>∃ a,HLe s' (I a)
  | .exit id=>Q (.exit id) s'
  | .ret=>Q .ret s') (k:∀ a,Y (I a) Q)
noncomputable def zrs (c:Code):Nat×List Nat :=
 Code.rec (motive:=fun _=>Nat×List Nat) (1,[]) (fun _ _ _=>(1,[])) (fun _ _ a b=>bif Nat.beq a.1 0 then a else (b.1,a.2++b.2)) (fun _ _ _ a b=>(Nat.add a.1 b.1,a.2++b.2))
  (fun id _ b=>(Nat.add b.1 (b.2.filter (Nat.beq id)).length,b.2.filter fun i=>!Nat.beq id i)) (fun _ b=>(0,b.2))
  (fun _ _ _ _ _ _=>(1,[])) (fun id=>(0,[id])) (fun _ b=>b) (fun _=>(1,[])) (fun _=>(0,[])) (0,[]) (fun _=>(0,[])) c
noncomputable def zql:Code->Bool
 | .region _ _ _=>false
 | c=>Nat.blt 1 (zrs c).1
def zto (x y:HWP):HWP:=fun s Q=>zub (x s) y Q
def zqj (c:Operand) (x y:HWP):HWP:=fun s Q=>match evalOp s.slot c with
 | .p (.v (.bool b))=>hif b (x s Q) (y s Q)
 | _=>False
def zmv (id:Nat) (x:HWP):HWP:=fun s Q=>x s fun e s'=>match e with
 | .normal=>Q .normal s'
 | .exit i=>bif Nat.beq i id then Q .normal s' else Q (.exit i) s'
 | .ret=>Q .ret s'
noncomputable def hwp (P:Program) (C:zai) (c:Code):HWP :=
 Code.rec (motive:=fun _=>HWP) (fun s Q=>Q .normal s) (fun _ ops draw=>zwl P C ops draw) (fun a _ x y=>bif zql a then zto x y else zvo x y) (fun c _ _ x y=>zqj c x y) (fun id _ x=>zmv id x) (fun _ x s Q=>zvl x s Q)
  (fun _ _ _ _ _ _ _ _=>False) (fun id s Q=>Q (.exit id) s) (fun _ _ _ _=>False) (fun _ _ _=>False) (fun _ _ _=>False) (fun s Q=>Q .ret s) (fun _ _ _=>False) c
def zqg (P:Program) (s:HS):ResultVar->(HV->Prop)->Prop
 | .tmp t,K=>force (s.slot t) K
 | .cell a t,K=>tyK P t fun td=>match s.slot a with
  | .ptr id off=>zaq (s.heap id) fun b=>match b with
   | .cells _ cs=>zei td cs off K
   | _=>False
  | _=>False
def zsf (P:Program) (s:HS):List ResultVar->(List HV->Prop)->Prop
 | [],K=>K []
 | r::rs,K=>zqg P s r fun v=>zsf P s rs fun vs=>K (v::vs)
def zwd (P:Program) (s:HS) (rs:List ResultVar) (K:HV->Prop):Prop :=
 match rs with
 | [r]=>zqg P s r K
 | rs=>zsf P s rs fun l=>K (.tup l)
def zry (args:List HV) (n:Nat) (H:Nat->zaa) (pins:List Nat):HS:=⟨n,fun i=>(nth args i).getD .und,H,pins⟩
noncomputable def zwi (P:Program) (C:zai) (fn:Func) (args:List HV) (H:Nat->zaa) (pins:List Nat) (K:HV->(Nat->zaa)->Prop):Prop :=
 match fn.body with
 | some c=>bif Nat.ble args.length fn.ntmps then hwp P C c (zry args fn.ntmps H pins) fun e s=>match e with
  | .exit _=>False
  | _=>zwd P s fn.results.toList fun v=>K v s.heap
  else False
 | none=>False
end Go.HL
namespace Go.HL
open Go.RowKit (Below)
structure Loc where
 blk:Nat
 cap:Nat
 len:Nat
 nil:Bool
abbrev zbj:=Nat->Option Loc
inductive zcj (w:World) (R:Nat->Prop):PV->Value->Prop where
 | v (x:Value) (h:x.oneCell'=true):zcj w R (.v x) x
 | sl0 (n:Nat) (a:Option Addr) (c:Nat) (hm:c<=maxLen):zcj w R (.sl n []) (.slice a 0 c)
 | sl (n:Nat) (rows:List (List PV)) (b o c:Nat) (cv:Nat->Value) (hc:rows.length<=c) (hm:c<=maxLen) (hn:∀ r∈rows,r.length=n) (hR:R b)
  (hcell:∀ k x,rows.flatten[k]?=some x->w.cell? ⟨b,o+k,none⟩=some (cv k))
  (hrep:∀ k x,rows.flatten[k]?=some x->zcj w R x (cv k)):zcj w R (.sl n rows) (.slice (some ⟨b,o,none⟩) rows.length c)
theorem zcj.mono {w w':World} {R R':Nat->Prop} (h:∀ b,R b->w'.heap[b]?=w.heap[b]?/\R' b) {x:PV} {v:Value} (hx:zcj w R x v):zcj w' R' x v:=by
 induction hx with
 | v x h=>exact .v x h
 | sl0 n a c hm=>exact .sl0 n a c hm
 | sl n rows b o c cv hc hm hn hR hcell hrep ih =>
  exact .sl n rows b o c cv hc hm hn (h b hR).2 (fun k x hk=>by rw [World.cell?_of_block (w:=w) (h b hR).1];exact hcell k x hk) ih
theorem zcj.one {w:World} {R:Nat->Prop} {x:PV} {v:Value} (h:zcj w R x v):v.oneCell'=true:=by
 cases h<;>first | assumption | rfl
theorem zcj.nil_sl {w:World} {R:Nat->Prop} {v:Value} (n:Nat) (h:zcj w R (.v (.slice none 0 0)) v):zcj w R (.sl n []) v:=by
 cases h;exact .sl0 n none 0 (Nat.zero_le _)
def zdl (w:World) (R:Nat->Prop) (b o:Nat) (xs:List PV):Prop:=∀ (k:Nat) x,xs[k]?=some x->∃ cv,w.cell? ⟨b,o+k,none⟩=some cv/\zcj w R x cv
theorem zdl.mono {w w':World} {R R':Nat->Prop} (h:∀ b,R b->w'.heap[b]?=w.heap[b]?/\R' b) {b o:Nat} {xs:List PV} (hb:xs≠[]->R b) (hx:zdl w R b o xs):zdl w' R' b o xs:=by
 intro k x hk;obtain ⟨cv,hc,hp⟩:=hx k x hk;have hne:xs≠[]:=by rintro rfl;simp at hk
 exact ⟨cv,by rw [World.cell?_of_block (w:=w) (h b (hb hne)).1];exact hc,hp.mono h⟩
def Loc.room (l:Loc):Nat:=if l.nil then 0 else l.cap
def Loc.at (l:Loc) (o:Nat):Option Addr:=if l.nil then none else some ⟨l.blk,o,none⟩
def hdr (l:Loc):Value:=if l.nil then .slice none 0 0 else .slice (some ⟨l.blk,0,none⟩) l.len l.cap
mutual
def zad (m:zbj) (w:World) (R:Nat->Prop):HV->Value->Prop
 | .p x,v=>zcj w R x v
 | .ptr id off,v=>∃ l,m id=some l/\l.nil=false/\v=.pointer (some ⟨l.blk,off,none⟩)
 | .eptr id n i off,v=>∃ l,m id=some l/\l.nil=false/\v=.pointer (some ⟨l.blk,i*n+off,none⟩)
 | .rp cs,v=>∃ b o,v=.pointer (some ⟨b,o,none⟩)/\(cs≠[]->R b)/\zdl w R b o cs
 | .own id,v=>∃ l,m id=some l/\v=hdr l
 | .osl id n off len,v=>∃ l a,m id=some l/\off+len<=l.room/\l.room<=maxLen/\v=.slice a len (l.room-off)/\(off<l.room\/off=0->a=l.at (off*n))
 | .mp id,v=>∃ l,m id=some l/\l.nil=false/\v=.map (some l.blk)
 | .agg l,v=>∃ arr:Array Value,v=.agg arr/\zae m w R l arr.toList
 | .tup l,v=>∃ arr:Array Value,v=.tuple arr/\zae m w R l arr.toList
 | .clo f cs,v=>∃ arr:Array Value,v=.func (.func f) #[] arr/\zae m w R cs arr.toList
 | .und,v=>v=undef
 | .any,_=>True
def zae (m:zbj) (w:World) (R:Nat->Prop):List HV->List Value->Prop
 | [],vs=>vs=[]
 | x::xs,vs=>∃ v r,vs=v::r/\zad m w R x v/\zae m w R xs r
end
def zkl (m m':zbj):Prop:=∀ id l,m id=some l->m' id=some l
section
variable {m m':zbj} {w w':World} {R R':Nat->Prop}
mutual
theorem zad.mono (hm:zkl m m') (h:∀ b,R b->w'.heap[b]?=w.heap[b]?/\R' b):(x:HV)->(v:Value)->zad m w R x v->zad m' w' R' x v
 | .p x,v,hx=>by simp only [zad] at hx ⊢;exact hx.mono h
 | .ptr id off,v,hx=>by simp only [zad] at hx ⊢;obtain ⟨l,h1,h2⟩:=hx;exact ⟨l,hm _ _ h1,h2⟩
 | .eptr id n i off,v,hx=>by simp only [zad] at hx ⊢;obtain ⟨l,h1,h2⟩:=hx;exact ⟨l,hm _ _ h1,h2⟩
 | .rp cs,v,hx=>by
  simp only [zad] at hx ⊢;obtain ⟨b,o,h1,h2,h3⟩:=hx;exact ⟨b,o,h1,fun hc=>(h b (h2 hc)).2,h3.mono h h2⟩
 | .own id,v,hx=>by simp only [zad] at hx ⊢;obtain ⟨l,h1,h2⟩:=hx;exact ⟨l,hm _ _ h1,h2⟩
 | .osl id n off len,v,hx=>by simp only [zad] at hx ⊢;obtain ⟨l,a,h1,h2⟩:=hx;exact ⟨l,a,hm _ _ h1,h2⟩
 | .mp id,v,hx=>by simp only [zad] at hx ⊢;obtain ⟨l,h1,h2⟩:=hx;exact ⟨l,hm _ _ h1,h2⟩
 | .agg l,v,hx=>by simp only [zad] at hx ⊢;obtain ⟨arr,h1,h2⟩:=hx;exact ⟨arr,h1,zae.mono hm h l _ h2⟩
 | .tup l,v,hx=>by simp only [zad] at hx ⊢;obtain ⟨arr,h1,h2⟩:=hx;exact ⟨arr,h1,zae.mono hm h l _ h2⟩
 | .clo f cs,v,hx=>by simp only [zad] at hx ⊢;obtain ⟨arr,h1,h2⟩:=hx;exact ⟨arr,h1,zae.mono hm h cs _ h2⟩
 | .und,v,hx=>by simp only [zad] at hx ⊢;exact hx
 | .any,v,hx=>by simp only [zad]
theorem zae.mono (hm:zkl m m') (h:∀ b,R b->w'.heap[b]?=w.heap[b]?/\R' b):(x:List HV)->(v:List Value)->zae m w R x v->zae m' w' R' x v
 | [],v,hx=>by simp only [zae] at hx ⊢;exact hx
 | x::xs,v,hx=>by
  simp only [zae] at hx ⊢;obtain ⟨a,r,h1,h2,h3⟩:=hx;exact ⟨a,r,h1,zad.mono hm h x a h2,zae.mono hm h xs r h3⟩
end
theorem zae.length:{xs:List HV}->{vs:List Value}->zae m w R xs vs->vs.length=xs.length
 | [],vs,h=>by simp only [zae] at h;simp [h]
 | x::xs,vs,h=>by
  simp only [zae] at h;obtain ⟨v,r,rfl,_,h3⟩:=h;simp [zae.length h3]
theorem zae.get:{xs:List HV}->{vs:List Value}->zae m w R xs vs->∀ (k:Nat) x,xs[k]?=some x->∃ v,vs[k]?=some v/\zad m w R x v
 | [],vs,h,k,x,hk=>by simp at hk
 | y::xs,vs,h,k,x,hk=>by
  simp only [zae] at h;obtain ⟨v,r,rfl,h2,h3⟩:=h;cases k with
  | zero=>simp at hk;subst hk;exact ⟨v,by simp,h2⟩
  | succ k=>simp at hk;simpa using zae.get h3 k x hk
theorem zae.of_get:{xs:List HV}->{vs:List Value}->vs.length=xs.length->(∀ (k:Nat) x v,xs[k]?=some x->vs[k]?=some v->zad m w R x v)->zae m w R xs vs
 | [],vs,hl,h=>by simp only [zae];exact zy5 zz3
 | y::xs,[],hl,h=>by simp at hl
 | y::xs,v::vs,hl,h=>by
  simp only [zae];exact ⟨v,vs,rfl,h 0 y v zz1 zz1,zae.of_get zz3 fun k x v hx hv=>h (k+1) x v zz5 zz6⟩
end
inductive zbg (w:World) (R:Nat->Prop):List PV->List Value->Prop where
 | nil:zbg w R [] []
 | cons {x:PV} {v:Value} {xs:List PV} {vs:List Value} (h:zcj w R x v) (r:zbg w R xs vs):zbg w R (x::xs) (v::vs)
theorem zbg.mono {w w':World} {R R':Nat->Prop} (h:∀ b,R b->w'.heap[b]?=w.heap[b]?/\R' b) {xs:List PV} {vs:List Value} (hx:zbg w R xs vs):zbg w' R' xs vs:=by
 induction hx with
 | nil=>exact .nil
 | cons h1 _ ih=>exact .cons (h1.mono h) ih
def zrn (w:World) (R:Nat->Prop) (agg:Bool) (x:Value×List PV) (e:MapEntry):Prop :=
 e.key=x.1/\(match agg with
  | true=>∃ arr:Array Value,e.val=.agg arr/\zbg w R x.2 arr.toList
  | false=>e.val.oneCell'=true/\zbg w R x.2 [e.val])
inductive zck (w:World) (R:Nat->Prop) (agg:Bool):List (Value×List PV)->List MapEntry->Prop where
 | nil:zck w R agg [] []
 | cons {x:Value×List PV} {e:MapEntry} {xs:List (Value×List PV)} {es:List MapEntry} (h:zrn w R agg x e) (t:zck w R agg xs es):zck w R agg (x::xs) (e::es)
theorem zrn.mono {w w':World} {R R':Nat->Prop} {agg:Bool} (h:∀ b,R b->w'.heap[b]?=w.heap[b]?/\R' b) {x:Value×List PV} {e:MapEntry} (hx:zrn w R agg x e):zrn w' R' agg x e:=by
 obtain ⟨h1,h2⟩:=hx;refine ⟨h1,?_⟩;cases agg with
 | true=>obtain ⟨arr,h3,h4⟩:=h2;exact ⟨arr,h3,h4.mono h⟩
 | false=>exact ⟨h2.1,h2.2.mono h⟩
theorem zck.mono {w w':World} {R R':Nat->Prop} {agg:Bool} (h:∀ b,R b->w'.heap[b]?=w.heap[b]?/\R' b) {xs:List (Value×List PV)} {es:List MapEntry} (hx:zck w R agg xs es):zck w' R' agg xs es:=by
 induction hx with
 | nil=>exact .nil
 | cons h1 _ ih=>exact .cons (h1.mono h) ih
def zmx:Nat->TypeDesc
 | 1=>.int .i8
 | 2=>.int .i16
 | 3=>.int .i32
 | 4=>.int .i64
 | 5=>.int .u8
 | 6=>.int .u16
 | 7=>.int .u32
 | 8=>.int .u64
 | 9=>.string
 | _=>.bool
structure zwa (w:World) (R:Nat->Prop) (kc:Nat) (agg:Bool) (left:List (Value×List PV)) (cur:Option (Value×List PV)) (bm:Nat) (arr:Array MapEntry) (clock:Nat) (seen:Array Nat):Prop where
 map:w.heap[bm]?=some (.map arr clock)
 ok:R bm
 stamped:MapKept.Stamped arr clock
 keys:∀ x∈arr.toList,MapKept.IsKey (zmx kc) x.key
 left:zck w R agg left (leftOf arr seen).toList
 cur:∀ x,cur=some x->∃ e∈arr.toList,(∃ s0:Array Nat,seen=s0.push e.born)/\zrn w R agg x e
theorem zwa.mono {w w':World} {R R':Nat->Prop} (h:∀ b,R b->w'.heap[b]?=w.heap[b]?/\R' b) {kc:Nat} {agg:Bool} {left:List (Value×List PV)} {cur:Option (Value×List PV)} {bm:Nat} {arr:Array MapEntry} {clock:Nat} {seen:Array Nat}
 (hx:zwa w R kc agg left cur bm arr clock seen):zwa w' R' kc agg left cur bm arr clock seen :=
 ⟨(h bm hx.ok).1.trans hx.map,(h bm hx.ok).2,hx.stamped,hx.keys,hx.left.mono h,fun x hc=>let ⟨e,h1,h2,h3⟩:=hx.cur x hc;⟨e,h1,h2,h3.mono h⟩⟩
def zeh (m:zbj) (w:World) (R:Nat->Prop) (l:Loc):zcq->Prop
 | .cells t cs=>(l.nil=false/\l.len=cs.length/\l.cap=cs.length)/\∃ arr:Array Value,w.heap[l.blk]?=some (.cells arr t (0,0))/\zae m w R cs arr.toList
 | .map kc agg es=>l.nil=false/\∃ (arr:Array MapEntry) (clock:Nat),w.heap[l.blk]?=some (.map arr clock)/\zck w R agg es arr.toList/\MapKept.Stamped arr clock/\∀ x∈arr.toList,MapKept.IsKey (zmx kc) x.key
 | .iter kc agg left cur=>l.nil=false/\∃ (bm:Nat) (arr:Array MapEntry) (clock:Nat) (seen:Array Nat),w.heap[l.blk]?=some (.mapIter (some bm) clock seen clock)/\zwa w R kc agg left cur bm arr clock seen
 | .row t n rows=>l.len=rows.length/\(∀ r∈rows,r.length=n)/\((l.nil=true/\rows=[])\/(l.nil=false/\rows.length<=l.cap/\l.cap<=maxLen /\
  ∃ arr:Array Value,w.heap[l.blk]?=some (.cells arr t (0,0))/\arr.size=l.cap*n/\∀ (k:Nat) x,rows.flatten[k]?=some x->∃ cv,arr[k]?=some cv/\zcj w R x cv))
 | .buf t n rows c=>l.nil=false/\l.cap=c/\(∀ r∈rows,r.length=n)/\rows.length<=l.cap/\l.cap<=maxLen /\
  ∃ arr:Array Value,w.heap[l.blk]?=some (.cells arr t (0,0))/\arr.size=l.cap*n/\∀ (k:Nat) x,rows.flatten[k]?=some x->∃ cv,arr[k]?=some cv/\zcj w R x cv
theorem zeh.mono {m m':zbj} {w w':World} {R R':Nat->Prop} (hm:zkl m m') (h:∀ b,R b->w'.heap[b]?=w.heap[b]?/\R' b) {l:Loc} {b:zcq}
 (hb:l.nil=false->w'.heap[l.blk]?=w.heap[l.blk]?) (hx:zeh m w R l b):zeh m' w' R' l b:=by
 cases b with
 | cells t cs =>
  obtain ⟨h1,arr,h2,h3⟩:=hx;exact ⟨h1,arr,(hb h1.1).trans h2,zae.mono hm h _ _ h3⟩
 | map kc agg es =>
  obtain ⟨h1,arr,c,h2,h3,h4⟩:=hx;exact ⟨h1,arr,c,(hb h1).trans h2,h3.mono h,h4⟩
 | iter kc agg left cur =>
  obtain ⟨h1,bm,arr,c,seen,h2,h3⟩:=hx;exact ⟨h1,bm,arr,c,seen,(hb h1).trans h2,h3.mono h⟩
 | row t n rows =>
  obtain ⟨h1,h2,h3⟩:=hx;refine ⟨h1,h2,?_⟩;rcases h3 with h3 | ⟨h3,h4,h5,arr,h6,h7,h8⟩
  . exact .inl h3
  . refine .inr ⟨h3,h4,h5,arr,(hb h3).trans h6,h7,fun k x hk=>?_⟩
    obtain ⟨cv,h9,h10⟩:=h8 k x hk;exact ⟨cv,h9,h10.mono h⟩
 | buf t n rows c =>
  obtain ⟨h1,h2,h3,h4,h5,arr,h6,h7,h8⟩:=hx;refine ⟨h1,h2,h3,h4,h5,arr,(hb h1).trans h6,h7,fun k x hk=>?_⟩;obtain ⟨cv,h9,h10⟩:=h8 k x hk;exact ⟨cv,h9,h10.mono h⟩
structure Ctx where
 dom:Nat->Prop
 w0:World
 own0:Nat->Prop
 m0:zbj
def zes (m:zbj) (H:Nat->zaa) (b:Nat):Prop:=∃ id l blk,H id=.live blk/\m id=some l/\l.nil=false/\l.blk=b
def RR (Γ:Ctx) (m:zbj) (H:Nat->zaa) (w:World) (b:Nat):Prop:=(Γ.dom b\/Γ.w0.heap.size<=b)/\b<w.heap.size/\¬ zes m H b
structure zag (Γ:Ctx) (m:zbj) (H:Nat->zaa) (w:World):Prop where
 size:Γ.w0.heap.size<=w.heap.size
 os:w.os=Γ.w0.os
 tape:w.tape=Γ.w0.tape
 output:w.output=Γ.w0.output
 frame:∀ b,b<Γ.w0.heap.size->¬ Γ.own0 b->w.heap[b]?=Γ.w0.heap[b]?
 free:∀ id,H id=.free->m id=none
 live:∀ id b,H id=.live b->∃ l,m id=some l/\zeh m w (RR Γ m H w) l b/\(l.nil=false->(Γ.own0 l.blk\/Γ.w0.heap.size<=l.blk)/\l.blk<w.heap.size)
 ro:∀ id b,H id=.ro b->∃ l,m id=some l/\zeh m w (RR Γ m H w) l b/\(l.nil=false->RR Γ m H w l.blk)
 inj:∀ id id' b b' l l',H id=.live b->H id'=.live b'->m id=some l->m id'=some l'->l.nil=false->l'.nil=false->l.blk=l'.blk->id=id'
 dom:∀ b,Γ.own0 b->Γ.dom b
structure WS (Γ:Ctx) (H:Nat->zaa) (m:zbj) (w:World) (H':Nat->zaa) (m':zbj) (w':World):Prop where
 ext:zkl m m'
 ok:zag Γ m' H' w'
 keep:∀ b,RR Γ m H w b->w'.heap[b]?=w.heap[b]?/\RR Γ m' H' w' b
theorem zkl.refl (m:zbj):zkl m m:=fun _ _ h=>h
theorem zkl.trans {a b c:zbj} (h:zkl a b) (k:zkl b c):zkl a c:=fun id l hl=>k _ _ (h id l hl)
theorem WS.refl {Γ:Ctx} {H:Nat->zaa} {m:zbj} {w:World} (h:zag Γ m H w):WS Γ H m w H m w:=⟨.refl m,h,fun _ hb=>⟨rfl,hb⟩⟩
theorem WS.trans {Γ:Ctx} {H H' H'':Nat->zaa} {m m' m'':zbj} {w w' w'':World} (h:WS Γ H m w H' m' w') (k:WS Γ H' m' w' H'' m'' w''):WS Γ H m w H'' m'' w'' :=
 ⟨h.ext.trans k.ext,k.ok,fun b hb=>⟨(k.keep b (h.keep b hb).2).1.trans (h.keep b hb).1,(k.keep b (h.keep b hb).2).2⟩⟩
theorem WS.rep {Γ:Ctx} {H H':Nat->zaa} {m m':zbj} {w w':World} (h:WS Γ H m w H' m' w') {x:HV} {v:Value} (hx:zad m w (RR Γ m H w) x v):zad m' w' (RR Γ m' H' w') x v :=
 zad.mono h.ext h.keep x v hx
theorem WS.repL {Γ:Ctx} {H H':Nat->zaa} {m m':zbj} {w w':World} (h:WS Γ H m w H' m' w') {x:List HV} {v:List Value} (hx:zae m w (RR Γ m H w) x v):zae m' w' (RR Γ m' H' w') x v :=
 zae.mono h.ext h.keep x v hx
theorem zag.drew {Γ:Ctx} {m:zbj} {H:Nat->zaa} {w:World} (h:zag Γ m H w):zag Γ m H w.drew :=
 ⟨h.size,h.os,h.tape,h.output,h.frame,h.free,
  fun id b hb=>let ⟨l,h1,h2,h3⟩:=h.live id b hb;⟨l,h1,zeh.mono (w:=w) (w':=w.drew) (R:=RR Γ m H w) (R':=RR Γ m H w.drew) (.refl _) (fun _ hr=>⟨rfl,hr⟩) (fun _=>rfl) h2,h3⟩,
  fun id b hb=>let ⟨l,h1,h2,h3⟩:=h.ro id b hb;⟨l,h1,zeh.mono (w:=w) (w':=w.drew) (R:=RR Γ m H w) (R':=RR Γ m H w.drew) (.refl _) (fun _ hr=>⟨rfl,hr⟩) (fun _=>rfl) h2,h3⟩,h.inj,h.dom⟩
theorem WS.drew {Γ:Ctx} {m:zbj} {H:Nat->zaa} {w:World} (h:zag Γ m H w):WS Γ H m w H m w.drew:=⟨.refl m,h.drew,fun _ hb=>⟨rfl,hb⟩⟩
theorem zaf {α:Type} (f:Nat->α) (i:Nat) (x:α):upd f i x i=x:=by simp [upd]
theorem zah {α:Type} (f:Nat->α) {i j:Nat} (x:α) (h:j≠i):upd f i x j=f j:=by
 have hb:Nat.beq j i=false:=by
  cases hb:Nat.beq j i with
  | false=>rfl
  | true=>exact absurd (zy0 hb) h
 simp [upd,hb]
theorem zed {α:Type} (f:Nat->α) (i:Nat):upd f i (f i)=f:=by
 funext j
 by_cases h:j=i
 . subst h;exact zaf _ _ _
 . exact zah _ _ h
section
variable {Γ:Ctx} {m:zbj} {H:Nat->zaa} {w:World}
theorem WS.newObj (hok:zag Γ m H w) {id:Nat} (hf:H id=.free) {o:Obj} {b:zcq} {cap len:Nat}
 (hb:∀ m' R',zkl m m'->(∀ b,RR Γ m H w b->(w.alloc o).heap[b]?=w.heap[b]?/\R' b)->zeh m' (w.alloc o) R' ⟨w.heap.size,cap,len,false⟩ b) :
 ∃ m',WS Γ H m w (upd H id (.live b)) m' (w.alloc o)/\m' id=some ⟨w.heap.size,cap,len,false⟩:=by
 let l:Loc:=⟨w.heap.size,cap,len,false⟩
 let m':zbj:=upd m id (some l)
 have hmid:m id=none:=hok.free id hf;have hext:zkl m m':=by
  intro i x hx;by_cases h:i=id
  . subst h;rw [hmid] at hx;cases hx
  . exact (zah m _ h).trans hx
 have hm':m' id=some l:=zaf _ _ _;have hmo:∀ i,i≠id->m' i=m i:=fun i h=>zah m _ h
 have hHo:∀ i,i≠id->upd H id (.live b) i=H i:=fun i h=>zah H _ h
 have hold:∀ k,k<w.heap.size->(w.alloc o).heap[k]?=w.heap[k]?:=fun k hk=>Below.heap_alloc w _ k hk
 have hkeep:∀ k,RR Γ m H w k->(w.alloc o).heap[k]?=w.heap[k]?/\RR Γ m' (upd H id (.live b)) (w.alloc o) k:=by
  intro k hk;obtain ⟨h1,h2,h3⟩:=hk;refine ⟨hold k h2,h1,by simp;omega,?_⟩;rintro ⟨i,li,bi,hi1,hi2,hi3,hi4⟩;by_cases h:i=id
  . subst h;rw [hm'] at hi2;cases hi2;simp [l] at hi4;omega
  . rw [hHo i h] at hi1;rw [hmo i h] at hi2;exact h3 ⟨i,li,bi,hi1,hi2,hi3,hi4⟩
 refine ⟨m',⟨hext,?_,hkeep⟩,hm'⟩;refine ⟨zy63 hok.size zz1,hok.os,hok.tape,hok.output,fun k hk hn=>(hold k (zy32 hk hok.size)).trans (hok.frame k hk hn),?_,?_,?_,?_,hok.dom⟩
 . intro i hi
   exact yy27
 . intro i bi hi
   by_cases h:i=id
   . subst h
     rw [zaf] at hi;cases hi;exact ⟨l,hm',hb m' _ hext hkeep,fun _=>⟨.inr hok.size,by simp [l]⟩⟩
   . rw [hHo i h] at hi
     obtain ⟨li,h1,h2,h3⟩:=hok.live i bi hi;exact ⟨li,hext _ _ h1,h2.mono hext hkeep fun hn=>hold _ (h3 hn).2,fun hn=>⟨(h3 hn).1,by have:=(h3 hn).2;simp;omega⟩⟩
 . intro i bi hi
   exact yy9
 . intro i i' bi bi' li li' hi hi' hl hl' hn hn' he
   by_cases h:i=id<;>by_cases h':i'=id
   . rw [h,h']
   . subst h
     rw [hm'] at hl;cases hl;rw [hHo i' h'] at hi';rw [hmo i' h'] at hl';obtain ⟨lx,h1,_,h3⟩:=hok.live i' bi' hi';rw [hl'] at h1;cases h1;have:=(h3 hn').2;simp [l] at he;omega
   . subst h'
     rw [hm'] at hl';cases hl';rw [hHo i h] at hi;rw [hmo i h] at hl;obtain ⟨lx,h1,_,h3⟩:=hok.live i bi hi;rw [hl] at h1;cases h1;have:=(h3 hn).2;simp [l] at he;omega
   . rw [hHo i h] at hi;rw [hmo i h] at hl;rw [hHo i' h'] at hi';rw [hmo i' h'] at hl'
     exact hok.inj i i' bi bi' li li' hi hi' hl hl' hn hn' he
theorem WS.new (hok:zag Γ m H w) {id:Nat} (hf:H id=.free) {arr:Array Value} {t:TypeId} {b:zcq} {cap len:Nat}
 (hb:∀ m' R',zkl m m'->(∀ b,RR Γ m H w b->(w.alloc (.cells arr t)).heap[b]?=w.heap[b]?/\R' b)->zeh m' (w.alloc (.cells arr t)) R' ⟨w.heap.size,cap,len,false⟩ b) :
 ∃ m',WS Γ H m w (upd H id (.live b)) m' (w.alloc (.cells arr t))/\m' id=some ⟨w.heap.size,cap,len,false⟩ :=
 WS.newObj hok hf hb
theorem WS.newNil (hok:zag Γ m H w) {id:Nat} (hf:H id=.free) (t:TypeId) (n:Nat) :
 ∃ m',WS Γ H m w (upd H id (.live (.row t n []))) m' w/\m' id=some ⟨0,0,0,true⟩:=by
 let l:Loc:=⟨0,0,0,true⟩
 let m':zbj:=upd m id (some l)
 have hmid:m id=none:=hok.free id hf;have hext:zkl m m':=by
  intro i x hx;by_cases h:i=id
  . subst h;rw [hmid] at hx;cases hx
  . exact (zah m _ h).trans hx
 have hm':m' id=some l:=zaf _ _ _;have hmo:∀ i,i≠id->m' i=m i:=fun i h=>zah m _ h
 have hHo:∀ i,i≠id->upd H id (.live (.row t n [])) i=H i:=fun i h=>zah H _ h
 have hkeep:∀ k,RR Γ m H w k->w.heap[k]?=w.heap[k]?/\RR Γ m' (upd H id (.live (.row t n []))) w k:=by
  intro k hk;obtain ⟨h1,h2,h3⟩:=hk;refine ⟨rfl,h1,h2,?_⟩;rintro ⟨i,li,bi,hi1,hi2,hi3,hi4⟩;by_cases h:i=id
  . subst h;rw [hm'] at hi2;cases hi2;cases hi3
  . rw [hHo i h] at hi1;rw [hmo i h] at hi2;exact h3 ⟨i,li,bi,hi1,hi2,hi3,hi4⟩
 refine ⟨m',⟨hext,?_,hkeep⟩,hm'⟩;refine ⟨hok.size,hok.os,hok.tape,hok.output,hok.frame,?_,?_,?_,?_,hok.dom⟩
 . intro i hi
   exact yy27
 . intro i bi hi
   by_cases h:i=id
   . subst h
     rw [zaf] at hi;cases hi;exact ⟨l,hm',⟨rfl,by simp,.inl ⟨rfl,rfl⟩⟩,fun h=>by cases h⟩
   . rw [hHo i h] at hi
     obtain ⟨li,h1,h2,h3⟩:=hok.live i bi hi;exact ⟨li,hext _ _ h1,h2.mono hext hkeep fun _=>rfl,h3⟩
 . intro i bi hi
   exact yy9
 . intro i i' bi bi' li li' hi hi' hl hl' hn hn' he
   by_cases h:i=id
   . subst h;rw [hm'] at hl;cases hl;cases hn
   . by_cases h':i'=id
     . subst h';rw [hm'] at hl';cases hl';cases hn'
     . rw [hHo i h] at hi;rw [hmo i h] at hl;rw [hHo i' h'] at hi';rw [hmo i' h'] at hl'
       exact hok.inj i i' bi bi' li li' hi hi' hl hl' hn hn' he
theorem WS.drop (hok:zag Γ m H w) {id:Nat} {b:zcq} (hl:H id=.live b):WS Γ H m w (upd H id .dead) m w:=by
 have hHo:∀ i,i≠id->upd H id .dead i=H i:=fun i h=>zah H _ h
 have hkeep:∀ k,RR Γ m H w k->w.heap[k]?=w.heap[k]?/\RR Γ m (upd H id .dead) w k:=by
  exact yy14
 refine ⟨.refl m,?_,hkeep⟩;refine ⟨hok.size,hok.os,hok.tape,hok.output,hok.frame,?_,?_,?_,?_,hok.dom⟩
 . intro i hi
   exact yy3
 . intro i bi hi
   exact yy15
 . intro i bi hi
   by_cases h:i=id
   . subst h;rw [zaf] at hi;cases hi
   . rw [hHo i h] at hi
     exact yy24
 . intro i i' bi bi' li li' hi hi'
   exact yy13
theorem WS.freeze (hok:zag Γ m H w) {id:Nat} {b:zcq} (hl:H id=.live b\/H id=.ro b):WS Γ H m w (upd H id (.ro b)) m w:=by
 rcases hl with hl | hl
 case inr=>rw [<- hl,zed];exact .refl hok
 have hHo:∀ i,i≠id->upd H id (.ro b) i=H i:=fun i h=>zah H _ h
 have hkeep:∀ k,RR Γ m H w k->w.heap[k]?=w.heap[k]?/\RR Γ m (upd H id (.ro b)) w k:=by
  exact yy14
 refine ⟨.refl m,?_,hkeep⟩;refine ⟨hok.size,hok.os,hok.tape,hok.output,hok.frame,?_,?_,?_,?_,hok.dom⟩
 . intro i hi
   exact yy3
 . intro i bi hi
   exact yy15
 . intro i bi hi
   by_cases h:i=id
   . subst h
     rw [zaf] at hi;cases hi;obtain ⟨li,h1,h2,h3⟩:=hok.live i b hl;refine ⟨li,h1,h2.mono (.refl m) hkeep fun _=>rfl,fun hn=>⟨(h3 hn).1.imp (hok.dom _) (fun h=>h),(h3 hn).2,?_⟩⟩;rintro ⟨j,lj,bj,hj1,hj2,hj3,hj4⟩;by_cases hji:j=i
     . subst hji;rw [zaf] at hj1;cases hj1
     . rw [hHo j hji] at hj1
       exact hji (hok.inj j i bj b lj li hj1 hl hj2 h1 hj3 hn hj4)
   . rw [hHo i h] at hi
     exact yy24
 . intro i i' bi bi' li li' hi hi'
   exact yy13
theorem WS.set (hok:zag Γ m H w) {id:Nat} {b b':zcq} {l:Loc} (hl:H id=.live b) (hm:m id=some l) (hn:l.nil=false) {w':World}
 (hs:w'.heap.size=w.heap.size) (hos:w'.os=w.os) (htape:w'.tape=w.tape) (hout:w'.output=w.output) (hother:∀ k,k≠l.blk->w'.heap[k]?=w.heap[k]?)
 (hb:∀ R',(∀ b,RR Γ m H w b->w'.heap[b]?=w.heap[b]?/\R' b)->zeh m w' R' l b'):WS Γ H m w (upd H id (.live b')) m w':=by
 have hHo:∀ i,i≠id->upd H id (.live b') i=H i:=fun i h=>zah H _ h
 have hown:∀ k,zes m (upd H id (.live b')) k->zes m H k:=by
  rintro k ⟨i,li,bi,hi1,hi2⟩;by_cases h:i=id
  . subst h;exact ⟨i,li,b,hl,hi2⟩
  . rw [hHo i h] at hi1;exact ⟨i,li,bi,hi1,hi2⟩
 have hkeep:∀ k,RR Γ m H w k->w'.heap[k]?=w.heap[k]?/\RR Γ m (upd H id (.live b')) w' k:=by
  exact yy20
 obtain ⟨l0,hl1,hl2,hl3⟩:=hok.live id b hl;rw [hm] at hl1;cases hl1;refine ⟨.refl m,?_,hkeep⟩;refine ⟨by have:=hok.size;omega,hos.trans hok.os,htape.trans hok.tape,hout.trans hok.output,?_,?_,?_,?_,?_,hok.dom⟩
 . intro k hk hk0
   exact yy6
 . intro i hi
   exact yy3
 . intro i bi hi
   by_cases h:i=id
   . subst h
     rw [zaf] at hi;cases hi;exact ⟨l,hm,hb _ hkeep,fun _=>⟨(hl3 hn).1,by have:=(hl3 hn).2;omega⟩⟩
   . rw [hHo i h] at hi
     exact yy11
 . intro i bi hi
   exact yy8
 . intro i i' bi bi' li li' hi hi' hl hl' hn hn' he
   have hx:∀ j bj,upd H id (.live b') j=.live bj->∃ bj',H j=.live bj':=by
    intro j bj hj;by_cases h:j=id
    . subst h;exact ⟨b,by assumption⟩
    . rw [hHo j h] at hj;exact ⟨bj,hj⟩
   obtain ⟨c,hc⟩:=hx i bi hi;obtain ⟨c',hc'⟩:=hx i' bi' hi';exact hok.inj i i' c c' li li' hc hc' hl hl' hn hn' he
theorem WS.kill (hok:zag Γ m H w) {id:Nat} {b:zcq} {l:Loc} (hl:H id=.live b) (hm:m id=some l) (hn:l.nil=false) {w':World}
 (hs:w'.heap.size=w.heap.size) (hos:w'.os=w.os) (htape:w'.tape=w.tape) (hout:w'.output=w.output) (hother:∀ k,k≠l.blk->w'.heap[k]?=w.heap[k]?) :
 WS Γ H m w (upd H id .dead) m w'/\RR Γ m (upd H id .dead) w' l.blk:=by
 have hHo:∀ i,i≠id->upd H id .dead i=H i:=fun i h=>zah H _ h
 have hown:∀ k,zes m (upd H id .dead) k->zes m H k:=by
  rintro k ⟨i,li,bi,hi1,hi2⟩;by_cases h:i=id
  . subst h;rw [zaf] at hi1;cases hi1
  . rw [hHo i h] at hi1;exact ⟨i,li,bi,hi1,hi2⟩
 have hkeep:∀ k,RR Γ m H w k->w'.heap[k]?=w.heap[k]?/\RR Γ m (upd H id .dead) w' k:=by
  exact yy20
 obtain ⟨l0,hl1,hl2,hl3⟩:=hok.live id b hl;rw [hm] at hl1;cases hl1;refine ⟨⟨.refl m,?_,hkeep⟩,?_,by have:=(hl3 hn).2;omega,?_⟩
 . refine ⟨by have:=hok.size;omega,hos.trans hok.os,htape.trans hok.tape,hout.trans hok.output,?_,?_,?_,?_,?_,hok.dom⟩
   . intro k hk hk0
     exact yy6
   . intro i hi
     exact yy3
   . intro i bi hi
     by_cases h:i=id
     . subst h;rw [zaf] at hi;cases hi
     . rw [hHo i h] at hi
       exact yy11
   . intro i bi hi
     exact yy8
   . intro i i' bi bi' li li' hi hi' h1 h1' hn1 hn1' he
     have hx:∀ j bj,upd H id .dead j=.live bj->H j=.live bj:=by
      intro j bj hj;by_cases h:j=id
      . subst h;rw [zaf] at hj;cases hj
      . rw [hHo j h] at hj;exact hj
     exact hok.inj i i' bi bi' li li' (hx i bi hi) (hx i' bi' hi') h1 h1' hn1 hn1' he
 . rcases (hl3 hn).1 with h | h
   . exact .inl (hok.dom _ h)
   . exact .inr h
 . rintro ⟨i,li,bi,hi1,hi2,hi3,hi4⟩
   by_cases h:i=id
   . subst h;rw [zaf] at hi1;cases hi1
   . rw [hHo i h] at hi1
     exact h (hok.inj i id bi b li l hi1 hl hi2 hm hi3 hn hi4)
theorem WS.rename (hok:zag Γ m H w) {id d:Nat} {b b':zcq} {l:Loc} (hl:H id=.live b) (hm:m id=some l) (hn:l.nil=false) (hd:H d=.free) (len:Nat) {w':World}
 (hs:w'.heap.size=w.heap.size) (hos:w'.os=w.os) (htape:w'.tape=w.tape) (hout:w'.output=w.output) (hother:∀ k,k≠l.blk->w'.heap[k]?=w.heap[k]?)
 (hb:∀ m' R',zkl m m'->(∀ b,RR Γ m H w b->w'.heap[b]?=w.heap[b]?/\R' b)->zeh m' w' R' ⟨l.blk,l.cap,len,false⟩ b') :
 ∃ m',WS Γ H m w (upd (upd H id .dead) d (.live b')) m' w'/\m' d=some ⟨l.blk,l.cap,len,false⟩:=by
 let l':Loc:=⟨l.blk,l.cap,len,false⟩
 let m':zbj:=upd m d (some l')
 have hdid:d≠id:=by rintro rfl;rw [hl] at hd;cases hd
 have hmd:m d=none:=hok.free d hd;have hext:zkl m m':=by
  intro i x hx;by_cases h:i=d
  . subst h;rw [hmd] at hx;cases hx
  . exact (zah m _ h).trans hx
 have hm':m' d=some l':=zaf _ _ _;have hmo:∀ i,i≠d->m' i=m i:=fun i h=>zah m _ h
 let H':=upd (upd H id .dead) d (.live b')
 have hHd:H' d=.live b':=zaf _ _ _;have hHi:H' id=.dead:=(zah _ _ (Ne.symm hdid)).trans (zaf _ _ _);have hHo:∀ i,i≠d->i≠id->H' i=H i:=fun i h h'=>(zah _ _ h).trans (zah _ _ h')
 obtain ⟨l0,hl1,hl2,hl3⟩:=hok.live id b hl;rw [hm] at hl1;cases hl1;have hkeep:∀ k,RR Γ m H w k->w'.heap[k]?=w.heap[k]?/\RR Γ m' H' w' k:=by
  intro k hk;obtain ⟨h1,h2,h3⟩:=hk;refine ⟨hother k ?_,h1,by omega,?_⟩
  . rintro rfl
    exact h3 ⟨id,l,b,hl,hm,hn,rfl⟩
  rintro ⟨i,li,bi,hi1,hi2,hi3,hi4⟩;by_cases h:i=d
  . subst h;rw [hm'] at hi2;cases hi2;exact h3 ⟨id,l,b,hl,hm,hn,hi4⟩
  . by_cases h':i=id
    . subst h';rw [hHi] at hi1;cases hi1
    . rw [hHo i h h'] at hi1;rw [hmo i h] at hi2;exact h3 ⟨i,li,bi,hi1,hi2,hi3,hi4⟩
 refine ⟨m',⟨hext,?_,hkeep⟩,hm'⟩;refine ⟨by have:=hok.size;omega,hos.trans hok.os,htape.trans hok.tape,hout.trans hok.output,?_,?_,?_,?_,?_,hok.dom⟩
 . intro k hk hk0
   exact yy6
 . intro i hi
   by_cases h:i=d
   . subst h;change H' i=_ at hi;rw [hHd] at hi;cases hi
   . by_cases h':i=id
     . subst h';change H' i=_ at hi;rw [hHi] at hi;cases hi
     . change H' i=_ at hi;rw [hHo i h h'] at hi;exact (hmo i h).trans (hok.free i hi)
 . intro i bi hi
   change H' i=_ at hi
   by_cases h:i=d
   . subst h
     rw [hHd] at hi;cases hi;exact ⟨l',hm',hb m' _ hext hkeep,fun _=>⟨(hl3 hn).1,by have:=(hl3 hn).2;simp only [l'];omega⟩⟩
   . by_cases h':i=id
     . subst h';rw [hHi] at hi;cases hi
     . rw [hHo i h h'] at hi
       obtain ⟨li,h1,h2,h3⟩:=hok.live i bi hi;exact ⟨li,hext _ _ h1,h2.mono hext hkeep fun hn'=>hother _ fun he=>h' (hok.inj i id bi b li l hi hl h1 hm hn' hn he),fun hn'=>⟨(h3 hn').1,by have:=(h3 hn').2;omega⟩⟩
 . intro i bi hi
   change H' i=_ at hi
   by_cases h:i=d
   . subst h;rw [hHd] at hi;cases hi
   . by_cases h':i=id
     . subst h';rw [hHi] at hi;cases hi
     . rw [hHo i h h'] at hi
       obtain ⟨li,h1,h2,h3⟩:=hok.ro i bi hi;exact ⟨li,hext _ _ h1,h2.mono hext hkeep fun hn'=>(hkeep _ (h3 hn')).1,fun hn'=>(hkeep _ (h3 hn')).2⟩
 . intro i i' bi bi' li li' hi hi' hli hli' hni hni' he
   change H' i=_ at hi
   change H' i'=_ at hi'
   have hx:∀ j bj lj,H' j=.live bj->m' j=some lj->lj.nil=false->∃ j' bj' lj',H j'=.live bj'/\m j'=some lj'/\lj'.nil=false/\lj'.blk=lj.blk/\((j=d/\j'=id)\/(j≠d/\j'=j/\j≠id)):=by
    intro j bj lj hj hlj hnj;by_cases h:j=d
    . subst h;rw [hm'] at hlj;cases hlj;exact ⟨id,b,l,hl,hm,hn,rfl,.inl ⟨rfl,rfl⟩⟩
    . by_cases h':j=id
      . subst h';rw [hHi] at hj;cases hj
      . rw [hHo j h h'] at hj;rw [hmo j h] at hlj;exact ⟨j,bj,lj,hj,hlj,hnj,rfl,.inr ⟨h,rfl,h'⟩⟩
   obtain ⟨j,bj,lj,a1,a2,a3,a4,a5⟩:=hx i bi li hi hli hni;obtain ⟨j',bj',lj',c1,c2,c3,c4,c5⟩:=hx i' bi' li' hi' hli' hni';have hjj:=hok.inj j j' bj bj' lj lj' a1 c1 a2 c2 a3 c3 (by rw [a4,c4,he]);rcases a5 with ⟨e1,e2⟩ | ⟨e1,e2,e3⟩<;>rcases c5 with ⟨f1,f2⟩ | ⟨f1,f2,f3⟩
   . rw [e1,f1]
   . exact absurd (f2.symm.trans (hjj.symm.trans e2)) f3
   . exact absurd (e2.symm.trans (hjj.trans f2)) e3
   . rw [<- e2,<- f2,hjj]
end
end Go.HL
namespace Go.HL
open Go.RowKit (Below)
theorem zca:∀ (l:List HV) (k:List HV->Prop),zbo l k=k l
 | [],k=>rfl
 | x::xs,k=>by cases x<;>simp only [zbo,zca xs]
theorem zbw:∀ (l:List PV) (k:List PV->Prop),zdh l k=k l
 | [],k=>rfl
 | x::xs,k=>by cases x<;>simp only [zdh,zbw xs]
theorem force_eq (x:HV) (k:HV->Prop):force x k=k x:=by cases x<;>simp only [force,zca]
theorem zgn (ev:Operand->HV):∀ (l:List Operand) (K:List HV->Prop),evL ev l K=K (l.map ev)
 | [],K=>rfl
 | x::r,K=>by simp only [evL,force_eq,zgn ev r,zy13]
theorem zcs {b:Bool} {A B:Prop} (h:hif b A B):(b=true/\A)\/(b=false/\B):=by
 cases b
 . exact .inr ⟨rfl,h⟩
 . exact .inl ⟨rfl,h⟩
theorem zab {b:Bool} {A:Prop} (h:bif b then A else False):b=true/\A:=by
 cases b
 . exact h.elim
 . exact ⟨rfl,h⟩
theorem zce {α:Type}:∀ (l:List α) (i:Nat),nth l i=l[i]?
 | [],i=>by simp [nth]
 | x::xs,0=>by simp [nth]
 | x::xs,i+1=>by simp [nth,zce xs i]
theorem zff {α:Type}:∀ (l:List α) (o n:Nat),zio l o n=(l.drop o).take n
 | l,0,0=>by cases l<;>simp [zio]
 | [],0,n+1=>by simp [zio]
 | [],o+1,n=>by simp [zio]
 | c::cs,0,n+1=>by simp [zio,zff cs 0 n]
 | c::cs,o+1,n=>by simp [zio,zff cs o n]
theorem zbl {α:Type}:∀ (l:List α) (o:Nat) (xs:List α),(zhb l o xs).length=l.length
 | l,0,[]=>by cases l<;>simp [zhb]
 | [],0,x::xs=>by simp [zhb]
 | [],o+1,xs=>by simp [zhb]
 | c::cs,o+1,xs=>by simp [zhb,zbl cs o xs]
 | c::cs,0,x::xs=>by simp [zhb,zbl cs 0 xs]
theorem zcu {α:Type}:∀ (l:List α) (o:Nat) (xs:List α) (k:Nat),(zhb l o xs)[k]?=if o<=k/\k<o+xs.length/\k<l.length then xs[k-o]? else l[k]?
 | l,0,[],k=>by
  have:zhb l 0 []=l:=by cases l<;>simp [zhb]
  rw [this,zy7 (by simp)]
 | [],0,x::xs,k=>by simp [zhb]
 | [],o+1,xs,k=>by simp [zhb]
 | c::cs,o+1,xs,k=>by
  cases k with
  | zero=>simp [zhb]
  | succ k =>
   simp only [zhb,zy52,zcu cs o xs k,zy35];by_cases h:o<=k/\k<o+xs.length/\k<cs.length
   . rw [zy11 h,zy11 (by omega)];congr 1;omega
   . rw [zy7 h,zy7 (by omega)]
 | c::cs,0,x::xs,k=>by
  cases k with
  | zero=>simp [zhb]
  | succ k =>
   simp only [zhb,zy52,zcu cs 0 xs k,zy35];by_cases h:0<=k/\k<0+xs.length/\k<cs.length
   . rw [zy11 h,zy11 (by omega)];simp
   . rw [zy7 h,zy7 (by omega)]
structure zgh (P:Program) (t:TypeId) (d:TyD) (u:TypeDesc) (i:TypeInfo) (z:Value):Prop where
 und:P.underlying t=some u
 info:P.info? t=some i
 zero:i.zero=some z
 kind:d.k=zcn u
 size:d.size=i.size
 bytes:d.bytes=i.bytes
 zeros:d.zero=z.cells.toList
 zagg:d.zagg=zoe z
theorem zuv {P:Program} {t:TypeId} {d:TyD} (h:zvy P t=some d):∃ u i z,zgh P t d u i z:=by
 unfold zvy at h;split at h
 . rename_i u i hu hi
   split at h
   . rename_i z hz
     cases h;exact ⟨u,i,z,⟨hu,hi,hz,rfl,rfl,rfl,rfl,rfl⟩⟩
   . cases h
 . cases h
theorem zbf {P:Program} {t:TypeId} {K:TyD->Prop} (h:tyK P t K):∃ d u i z,zgh P t d u i z/\K d:=by
 unfold tyK at h;split at h
 . rename_i d hd
   obtain ⟨u,i,z,ht⟩:=zuv hd;exact ⟨d,u,i,z,ht,h⟩
 . exact h.elim
theorem zof {u:TypeDesc}:zba (zcn u)=u.isRow:=by cases u<;>rfl
theorem zgh.isAgg {P:Program} {t:TypeId} {d:TyD} {u:TypeDesc} {i:TypeInfo} {z:Value} (h:zgh P t d u i z) (w:World):(isAgg t).run P w=.ok (zba d.k) w:=by
 rw [h.kind,zof];unfold Go.isAgg;rw [Sem.run_bind,run_underlying h.und w];cases u<;>rfl
theorem zgh.slice {P:Program} {t e:TypeId} {d:TyD} {u:TypeDesc} {i:TypeInfo} {z:Value} (h:zgh P t d u i z) (hk:d.k=.slice e):P.underlying t=some (.slice e):=by
 rw [h.und,show u=.slice e from ?_];have:=h.kind.symm.trans hk;cases u<;>simp [zcn] at this
 rw [this]
theorem zgh.int {P:Program} {t:TypeId} {k:IntKind} {d:TyD} {u:TypeDesc} {i:TypeInfo} {z:Value} (h:zgh P t d u i z) (hk:d.k=.int k):P.underlying t=some (.int k):=by
 rw [h.und,show u=.int k from ?_];have:=h.kind.symm.trans hk;cases u<;>simp [zcn] at this
 rw [this]
theorem zgh.str {P:Program} {t:TypeId} {d:TyD} {u:TypeDesc} {i:TypeInfo} {z:Value} (h:zgh P t d u i z) (hk:d.k=.str):P.underlying t=some .string:=by
 rw [h.und,show u=.string from ?_];have:=h.kind.symm.trans hk;cases u<;>simp [zcn] at this
 first | rfl | trivial
theorem zgh.struct {P:Program} {t:TypeId} {fs:List (Nat×Nat)} {d:TyD} {u:TypeDesc} {i:TypeInfo} {z:Value} (h:zgh P t d u i z) (hk:d.k=.struct fs) :
 ∃ a:Array Field,P.underlying t=some (.struct a)/\fs=a.toList.map fun f=>(f.offset,f.type):=by
 have:=h.kind.symm.trans hk;cases u<;>simp [zcn] at this
 rename_i a;exact ⟨a,h.und,this.symm⟩
theorem zbe {P:Program} {t:TypeId} {K:TypeId->TyD->Prop} (h:zbv P t K):∃ e d u i z,P.underlying t=some (.slice e)/\zgh P e d u i z/\K e d:=by
 unfold zbv at h;obtain ⟨d,u,i,z,ht,h⟩:=zbf h;split at h
 . rename_i e he
   obtain ⟨de,ue,ie,ze,hte,h⟩:=zbf h;exact ⟨e,de,ue,ie,ze,ht.slice he,hte,h⟩
 . exact h.elim
theorem znl {P:Program} {t:TypeId} {K:Nat->TyD->Prop} (h:zmi P t K):∃ n e de u i z,P.underlying t=some (.array n e)/\zgh P e de u i z/\K n de:=by
 unfold zmi at h;obtain ⟨d,u,i,z,ht,h⟩:=zbf h;split at h
 . rename_i n e he
   obtain ⟨de,ue,ie,ze,hte,h⟩:=zbf h;refine ⟨n,e,de,ue,ie,ze,?_,hte,h⟩;rw [ht.und];have:=ht.kind.symm.trans he;cases u<;>simp [zcn] at this
   rw [this.1,this.2]
 . exact h.elim
theorem zgx {P:Program} {t:TypeId} {K:TyD->TypeId->TyD->Prop} (h:zka P t K) :
 ∃ k e dk uk ik zk de u i z,P.underlying t=some (.map k e)/\zgh P k dk uk ik zk/\zgh P e de u i z/\K dk e de:=by
 unfold zka at h;obtain ⟨d,u,i,z,ht,h⟩:=zbf h;split at h
 . rename_i k e he
   obtain ⟨dk,uk,ik,zk,htk,h⟩:=zbf h;obtain ⟨de,ue,ie,ze,hte,h⟩:=zbf h;refine ⟨k,e,dk,uk,ik,zk,de,ue,ie,ze,?_,htk,hte,h⟩;rw [ht.und];have:=ht.kind.symm.trans he;cases u<;>simp [zcn] at this
   rw [this.1,this.2]
 . exact h.elim
section
variable {m:zbj} {w:World} {R:Nat->Prop}
theorem zad.one {x:HV} {v:Value} (h:zad m w R x v) (h1:zkk [x]=true):v.oneCell'=true:=by
 cases x<;>simp only [zad] at h<;>simp [zkk] at h1
 . exact h.one
 . obtain ⟨_,_,_,rfl⟩:=h;rfl
 . obtain ⟨_,_,_,rfl⟩:=h;rfl
 . obtain ⟨_,_,rfl,_⟩:=h;rfl
 . obtain ⟨l,_,rfl⟩:=h;unfold hdr;split<;>rfl
 . obtain ⟨_,_,_,_,_,rfl,_⟩:=h;rfl
 . obtain ⟨_,_,_,rfl⟩:=h;rfl
 . obtain ⟨_,rfl,_⟩:=h;rfl
theorem zlk {x:HV} {xs:List HV} (h:zkk (x::xs)=true):zkk [x]=true/\zkk xs=true:=by
 cases x<;>simp_all [zkk]
theorem zae.one:{xs:List HV}->{vs:List Value}->zae m w R xs vs->zkk xs=true->∀ v∈vs,v.oneCell'=true
 | [],vs,h,_=>by simp only [zae] at h;simp [h]
 | x::xs,vs,h,h1=>by
  simp only [zae] at h;obtain ⟨v,r,rfl,h2,h3⟩:=h;intro u hu;rcases zy9.1 hu with rfl | hu
  . exact h2.one (zlk h1).1
  . exact zae.one h3 (zlk h1).2 u hu
theorem zgk {v:Value} (h:v.oneCell'=true):v.cells=#[v]:=by cases v<;>first | rfl | (simp [Value.oneCell'] at h)
theorem zae.single {x:HV} {v:Value} (h:zad m w R x v):zae m w R [x] [v]:=by simp only [zae];exact ⟨v,[],rfl,h,rfl⟩
theorem zad.cells {x:HV} {v:Value} (h:zad m w R x v) (h1:zkk (zbi x)=true):zae m w R (zbi x) v.cells.toList:=by
 have key:zkk [x]=true->zbi x=[x]->zae m w R (zbi x) v.cells.toList:=by
  intro h2 h3;rw [h3,zgk (h.one h2)];exact .single h
 cases x<;>first
  | exact key h1 rfl
  | (simp only [zad] at h;obtain ⟨arr,rfl,h3⟩:=h;exact h3)
theorem zor (v:Value):zad m w R (zfl v) v:=by
 have key:v.oneCell'=true->zfl v=.p (.v v)->zad m w R (zfl v) v:=by
  intro h1 h2;rw [h2];simp only [zad];exact .v v h1
 cases v<;>first
  | exact key rfl rfl
  | skip
 . rename_i cs
   simp only [zfl];cases hall:cs.toList.all (·.oneCell') with
   | false=>simp only [cond_false,zad]
   | true =>
    simp only [cond_true,zad];refine ⟨cs,rfl,zae.of_get zz1 fun k x v hx hv=>?_⟩;simp only [zy10,hv,zy18,Option.some.injEq] at hx;subst hx;simp only [zad];exact .v v (zy19.1 hall v (zy22 hv))
 . simp only [zfl,zad]
end
def OS (Γ:Ctx) (P:Program) (m:zbj) (H:Nat->zaa) (w:World) (x:Sem Next) (r:Res):Prop :=
 ∃ v w' m',(x.run P w=.ok (.value v) w'\/(x.run P w=.ok .skip w'/\v=undef))/\WS Γ H m w (zbb H r.ups) m' w'/\zad m' w' (RR Γ m' (zbb H r.ups) w') r.val v
theorem OS.ret {Γ:Ctx} {P:Program} {m:zbj} {H:Nat->zaa} {w:World} {x:Sem Next} {y:HV} {v:Value} (hok:zag Γ m H w) (h:x.run P w=.ok (.value v) w)
 (hr:zad m w (RR Γ m H w) y v) (tch:List Nat):OS Γ P m H w x ⟨y,[],tch⟩:=⟨v,w,m,.inl h,.refl hok,hr⟩
section
variable {Γ:Ctx} {P:Program} {m:zbj} {H:Nat->zaa} {w:World} {ρ:Operand->Value} {ev:Operand->HV} {dst:Option Tmp} {ty:TypeId} {pos:String} {after:Array Edge} {guard:Option (Nat×Bool)}
theorem zax {k:IntKind} {n:Int} {v:Value} {R:Nat->Prop} (h:zad m w R (.p (.v (.int k n))) v):v=.int k n:=by simp only [zad] at h;cases h;rfl
theorem zcg {b:Bool} {v:Value} {R:Nat->Prop} (h:zad m w R (.p (.v (.bool b))) v):v=.bool b:=by simp only [zad] at h;cases h;rfl
theorem zig {s:ByteArray} {v:Value} {R:Nat->Prop} (h:zad m w R (.p (.v (.string s))) v):v=.string s:=by simp only [zad] at h;cases h;rfl
theorem zfu {v:Value} {R:Nat->Prop} (h:zad m w R (.p (.v (.slice none 0 0))) v):v=.slice none 0 0:=by simp only [zad] at h;cases h;rfl
theorem zbd {R:Nat->Prop} (v:Value) (h:v.oneCell'=true):zad m w R (.p (.v v)) v:=by simp only [zad];exact .v v h
theorem zuo {K:Res->Prop} {C:zai} {d:Nat} {x:Operand} (hok:zag Γ m H w) (hev:zad m w (RR Γ m H w) (ev x) (ρ x)) (h:zat P C (.move x) d ev H K) :
 ∃ r,K r/\OS Γ P m H w (execOp ρ ⟨dst,.move x,ty,pos,after,guard⟩) r:=by
 simp only [zat,force_eq] at h;exact ⟨_,h,.ret hok rfl hev []⟩
theorem zqu {K:Res->Prop} {C:zai} {d:Nat} {x:Operand} (hok:zag Γ m H w) (hev:zad m w (RR Γ m H w) (ev x) (ρ x)) (h:zat P C (.assign x) d ev H K) :
 ∃ r,K r/\OS Γ P m H w (execOp ρ ⟨dst,.assign x,ty,pos,after,guard⟩) r:=by
 simp only [zat,force_eq] at h;exact ⟨_,h,.ret hok rfl hev []⟩
theorem zuq {K:Res->Prop} {C:zai} {d:Nat} {c x y:Operand} (hok:zag Γ m H w) (hev:∀ x,x∈[c,x,y]->zad m w (RR Γ m H w) (ev x) (ρ x)) (h:zat P C (.pick c x y) d ev H K) :
 ∃ r,K r/\OS Γ P m H w (execOp ρ ⟨dst,.pick c x y,ty,pos,after,guard⟩) r:=by
 simp only [zat,force_eq] at h;split at h
 . rename_i b hb
   have hc:=hev c zz1;rw [hb] at hc;have hc:=zcg hc;rcases zcs h with ⟨rfl,h⟩ | ⟨rfl,h⟩
   . exact ⟨_,h,.ret hok (by simp [execOp,hc,asBool]) (hev x zz1) []⟩
   . exact ⟨_,h,.ret hok (by simp [execOp,hc,asBool]) (hev y zz1) []⟩
 . exact h.elim
theorem zak (x:Sem Value) {v:Value} {w':World} (h:x.run P w=.ok v w'):(do pure (Next.value (<- x)):Sem Next).run P w=.ok (.value v) w':=by
 simp [Sem.run_bind,h]
theorem zja (x:HV) (xs:List HV):∃ b,zfv (x::xs)=b::zfv xs:=by
 rcases x with ⟨x⟩ | _ | _ | _ | _ | _ | _ | _ | _ | _ | _<;>try exact ⟨_,rfl⟩
 rcases x with x | _<;>try exact ⟨_,rfl⟩
 cases x<;>exact ⟨_,rfl⟩
theorem zcr {R:Nat->Prop} (d:Nat) {xa ya:Array Value}:∀ (fs:List Field) (i:Nat) (xs ys:List HV) (K:Bool->Prop) (xv yv:List Value),zhd xs ys K->zfm P i fs (zfv xs)=true ->
 zae m w R xs xv->zae m w R ys yv->(∀ k:Nat,xv[k]?=xa[i+k]?)->(∀ k:Nat,yv[k]?=ya[i+k]?)->∃ b,K b/\(Op.eqFields (d+1) xa ya fs).run P w=.ok b w
 | [],i,xs,ys,K,xv,yv,h,hf,hx,hy,h1,h2=>by
  exact yy18
 | f::fs,i,[],ys,K,xv,yv,h,hf,hx,hy,h1,h2=>by simp [zfv,zfm] at hf
 | f::fs,i,x::xs,[],K,xv,yv,h,hf,hx,hy,h1,h2=>h.elim
 | f::fs,i,x::xs,y::ys,K,xv,yv,h,hf,hx,hy,h1,h2=>by
  simp only [zae] at hx hy;obtain ⟨xv0,xr,rfl,hx1,hx2⟩:=hx;obtain ⟨yv0,yr,rfl,hy1,hy2⟩:=hy;have ex:xa[i]?=some xv0:=by have:=h1 0;simpa using this.symm
  have ey:ya[i]?=some yv0:=by have:=h2 0;simpa using this.symm
  have n1:∀ k:Nat,xr[k]?=xa[i+1+k]?:=fun k=>by have:=h1 (k+1);simp at this;rw [this];congr 1;omega
  have n2:∀ k:Nat,yr[k]?=ya[i+1+k]?:=fun k=>by have:=h2 (k+1);simp at this;rw [this];congr 1;omega
  simp only [zhd] at h;split at h
  . rename_i k a
    split at h
    . rename_i k' b
      have h2:=zab h;clear h;obtain ⟨hkk,h⟩:=h2;simp only [zfv,zfm,zy1,bne_iff_ne,ne_eq,zy58] at hf;obtain ⟨⟨⟨hn,ho⟩,hu⟩,hf⟩:=hf;obtain ⟨r,hr,zbh⟩:=zcr d fs (i+1) xs ys _ xr yr h hf hx2 hy2 n1 n2;have hxv:=zax hx1;have hyv:=zax hy1;subst hxv hyv;have hk:k=k':=by simpa using hkk
      subst hk;split at hu
      . rename_i kk hkk'
        refine ⟨_,hr,?_⟩;have hag:(Go.isAgg f.type).run P w=.ok false w:=by unfold Go.isAgg;rw [Sem.run_bind,run_underlying hkk' w];rfl
        simp only [Op.eqFields,ne_eq,hn,not_false_eq_true,if_true,part,Sem.run_bind,hag,Result.andThen_ok,zy26,if_false,ho,ex,ey,Sem.run_pure,run_equalIn_int w d f.type k kk a b hkk',Sem.run_ite,zbh];by_cases hab:(a==b)=true<;>simp [hab]
      . simp at hu
      . cases hu
    . exact h.elim
  . rename_i a
    split at h
    . rename_i b
      simp only [zfv,zfm,zy1,bne_iff_ne,ne_eq,zy58] at hf;obtain ⟨⟨⟨hn,ho⟩,hu⟩,hf⟩:=hf;obtain ⟨r,hr,zbh⟩:=zcr d fs (i+1) xs ys _ xr yr h hf hx2 hy2 n1 n2;have hxv:=zcg hx1;have hyv:=zcg hy1;subst hxv hyv;split at hu
      . cases hu
      . rename_i hkk'
        refine ⟨_,hr,?_⟩;have hag:(Go.isAgg f.type).run P w=.ok false w:=by unfold Go.isAgg;rw [Sem.run_bind,run_underlying hkk' w];rfl
        simp only [Op.eqFields,ne_eq,hn,not_false_eq_true,if_true,part,Sem.run_bind,hag,Result.andThen_ok,zy26,if_false,ho,ex,ey,Sem.run_pure,run_equalIn_bool' w d f.type a b hkk',Sem.run_ite,zbh];by_cases hab:(a==b)=true<;>simp [hab]
      . cases hu
    . exact h.elim
  . exact h.elim
theorem zel {R:Nat->Prop} (d:Nat) {e:TypeId} {kk:IntKind} (he:P.underlying e=some (.int kk)) (hc:P.cellsOf e=1) {xa ya:Array Value}:∀ (n i:Nat) (xs ys:List HV) (K:Bool->Prop) (xv yv:List Value),zhd xs ys K->zfv xs=List.replicate n true ->
 zae m w R xs xv->zae m w R ys yv->(∀ k:Nat,xv[k]?=xa[i+k]?)->(∀ k:Nat,yv[k]?=ya[i+k]?)->∃ b,K b/\(Op.eqItems (d+1) e (P.cellsOf e) xa ya (List.range' i n)).run P w=.ok b w
 | 0,i,xs,ys,K,xv,yv,h,hf,hx,hy,h1,h2=>by
  exact yy18
 | n+1,i,[],ys,K,xv,yv,h,hf,hx,hy,h1,h2=>by simp [zfv,zy51] at hf
 | n+1,i,x::xs,[],K,xv,yv,h,hf,hx,hy,h1,h2=>h.elim
 | n+1,i,x::xs,y::ys,K,xv,yv,h,hf,hx,hy,h1,h2=>by
  simp only [zae] at hx hy;obtain ⟨xv0,xr,rfl,hx1,hx2⟩:=hx;obtain ⟨yv0,yr,rfl,hy1,hy2⟩:=hy;have ex:xa[i]?=some xv0:=by have:=h1 0;simpa using this.symm
  have ey:ya[i]?=some yv0:=by have:=h2 0;simpa using this.symm
  have n1:∀ k:Nat,xr[k]?=xa[i+1+k]?:=fun k=>by have:=h1 (k+1);simp at this;rw [this];congr 1;omega
  have n2:∀ k:Nat,yr[k]?=ya[i+1+k]?:=fun k=>by have:=h2 (k+1);simp at this;rw [this];congr 1;omega
  simp only [zhd] at h;split at h
  . rename_i k a
    split at h
    . rename_i k' b
      have h2:=zab h;clear h;obtain ⟨hkk,h⟩:=h2;simp only [zfv,zy51,List.cons.injEq,true_and] at hf;obtain ⟨r,hr,zbh⟩:=zel d he hc n (i+1) xs ys _ xr yr h hf hx2 hy2 n1 n2;have hxv:=zax hx1;have hyv:=zax hy1;subst hxv hyv;have hk:k=k':=by simpa using hkk
      subst hk;refine ⟨_,hr,?_⟩;have hag:(Go.isAgg e).run P w=.ok false w:=by unfold Go.isAgg;rw [Sem.run_bind,run_underlying he w];rfl
      rw [hc] at zbh ⊢;simp only [List.range'_succ,Op.eqItems,part,Sem.run_bind,hag,Result.andThen_ok,zy26,if_false,Nat.mul_one,ex,ey,Sem.run_pure,run_equalIn_int w d e k kk a b he,Sem.run_ite,zbh];by_cases hab:(a==b)=true<;>simp [hab]
    . exact h.elim
  . rename_i a
    simp [zfv,zy51] at hf
  . exact h.elim
theorem zvs {K:Res->Prop} {op:BinOp} {t yt:TypeId} {x y:Operand} (hok:zag Γ m H w) (hx:zad m w (RR Γ m H w) (ev x) (ρ x)) (hy:zad m w (RR Γ m H w) (ev y) (ρ y))
 {cs:Bool} (h:zuz P cs t op (ev x) (ev y) K):∃ r,K r/\OS Γ P m H w (execOp ρ ⟨dst,.binOp op t x y yt,ty,pos,after,guard⟩) r:=by
 have key':∀ {v:Value} {z:HV},K (ret z)->(binOp op t (ρ x) (ρ y)).run P w=.ok v w->(eqGuard op t x y (ρ x) (ρ y)).run P w=.ok () w->zad m w (RR Γ m H w) z v ->
  ∃ r,K r/\OS Γ P m H w (execOp ρ ⟨dst,.binOp op t x y yt,ty,pos,after,guard⟩) r:=by
  intro v z hk hr hg hz;refine ⟨_,hk,.ret hok ?_ hz []⟩;simp only [execOp];exact zak _ (by simp [Sem.run_bind,hg,hr])
 have key:∀ {v:Value} {z:HV},K (ret z)->(binOp op t (ρ x) (ρ y)).run P w=.ok v w->(eqGuard op t x y (ρ x) (ρ y))=pure ()->zad m w (RR Γ m H w) z v ->
  ∃ r,K r/\OS Γ P m H w (execOp ρ ⟨dst,.binOp op t x y yt,ty,pos,after,guard⟩) r:=fun hk hr hg hz=>key' hk hr (by rw [hg];rfl) hz
 unfold zuz at h;split at h
 . rename_i k a hxa
   rw [hxa] at hx;have hxv:=zax hx;split at h
   . rename_i k' b hyb
     rw [hyb] at hy;have hyv:=zax hy;have hg:eqGuard op t x y (ρ x) (ρ y)=pure ():=by rw [hxv];exact eqGuard_at_int (op:=op) (t:=t) (x:=x) (y:=y) (v:=ρ y) k a
     split at h
     . obtain ⟨hb,h⟩:=h
       refine key h ?_ hg (zbd _ rfl);rw [hxv,hyv,binOp_shr,shift_shr _ _ _ _ hb.1 hb.2];rfl
     . obtain ⟨hb,z,rfl,h⟩:=h
       refine key h ?_ hg (zbd _ rfl);rw [hxv,hyv,binOp_shl,shift_shl _ _ _ _ hb.1 hb.2];rfl
     . have h2:=zab h;clear h;obtain ⟨hkk,z,rfl,h⟩:=h2
       obtain rfl:k=k':=by simpa using hkk
       exact key h (by rw [hxv,hyv,binOp_add];rfl) hg (zbd _ rfl)
     . have h2:=zab h;clear h;obtain ⟨hkk,z,rfl,h⟩:=h2
       obtain rfl:k=k':=by simpa using hkk
       exact key h (by rw [hxv,hyv,binOp_sub];rfl) hg (zbd _ rfl)
     . have h2:=zab h;clear h;obtain ⟨hkk,z,rfl,h⟩:=h2
       obtain rfl:k=k':=by simpa using hkk
       exact key h (by rw [hxv,hyv,binOp_mul];rfl) hg (zbd _ rfl)
     . have h2:=zab h;clear h;obtain ⟨hkk,hb,z,rfl,h⟩:=h2
       obtain rfl:k=k':=by simpa using hkk
       exact key h (by rw [hxv,hyv,binOp_quo];simp [Op.intDiv,hb]) hg (zbd _ rfl)
     . have h2:=zab h;clear h;obtain ⟨hkk,hb,h⟩:=h2
       obtain rfl:k=k':=by simpa using hkk
       exact key h (by rw [hxv,hyv,binOp_rem];simp [Op.intDiv,hb]) hg (zbd _ rfl)
     . have h2:=zab h;clear h;obtain ⟨hkk,h⟩:=h2
       obtain rfl:k=k':=by simpa using hkk
       exact key h (by rw [hxv,hyv,binOp_and];rfl) hg (zbd _ rfl)
     . have h2:=zab h;clear h;obtain ⟨hkk,h⟩:=h2
       obtain rfl:k=k':=by simpa using hkk
       exact key h (by rw [hxv,hyv,binOp_or];rfl) hg (zbd _ rfl)
     . have h2:=zab h;clear h;obtain ⟨hkk,h⟩:=h2
       obtain rfl:k=k':=by simpa using hkk
       exact key h (by rw [hxv,hyv,binOp_eql];rfl) hg (zbd _ rfl)
     . have h2:=zab h;clear h;obtain ⟨hkk,h⟩:=h2
       obtain rfl:k=k':=by simpa using hkk
       exact key h (by rw [hxv,hyv,binOp_neq];rfl) hg (zbd _ rfl)
     . have h2:=zab h;clear h;obtain ⟨hkk,h⟩:=h2
       obtain rfl:k=k':=by simpa using hkk
       exact key h (by rw [hxv,hyv,binOp_lss];rfl) hg (zbd _ rfl)
     . have h2:=zab h;clear h;obtain ⟨hkk,h⟩:=h2
       obtain rfl:k=k':=by simpa using hkk
       exact key h (by rw [hxv,hyv,binOp_leq];rfl) hg (zbd _ rfl)
     . have h2:=zab h;clear h;obtain ⟨hkk,h⟩:=h2
       obtain rfl:k=k':=by simpa using hkk
       exact key h (by rw [hxv,hyv,binOp_gtr];rfl) hg (zbd _ rfl)
     . have h2:=zab h;clear h;obtain ⟨hkk,h⟩:=h2
       obtain rfl:k=k':=by simpa using hkk
       exact key h (by rw [hxv,hyv,binOp_geq];rfl) hg (zbd _ rfl)
     . exact h.elim
   . exact h.elim
 . rename_i a hxa
   rw [hxa] at hx;have hxv:=zcg hx;split at h
   . rename_i b hyb
     rw [hyb] at hy;have hyv:=zcg hy;have hg:eqGuard op t x y (ρ x) (ρ y)=pure ():=by rw [hxv];exact eqGuard_at_bool (op:=op) (t:=t) (x:=x) (y:=y) (v:=ρ y) a
     obtain ⟨td,u,i,z,ht,h⟩:=zbf h;split at h
     . rename_i hk
       have hu:P.underlying t=some .bool:=by
        rw [ht.und,show u=.bool from ?_];have:=ht.kind.symm.trans hk;cases u<;>simp [zcn] at this
        rfl
       split at h
       . exact key h (by rw [hxv,hyv,run_eql_bool w t a b hu]) hg (zbd _ rfl)
       . exact key h (by rw [hxv,hyv];simp [binOp,Op.equal,Op.maxDepth,run_equalIn_bool' w 9999 t a b hu]) hg (zbd _ rfl)
       . exact h.elim
     . exact h.elim
   . exact h.elim
 . rename_i a hxa
   rw [hxa] at hx;have hxv:=zig hx;split at h
   . rename_i b hyb
     rw [hyb] at hy;have hyv:=zig hy;have hg:eqGuard op t x y (ρ x) (ρ y)=pure ():=by rw [hxv];exact eqGuard_at_string (op:=op) (t:=t) (x:=x) (y:=y) (v:=ρ y) a
     split at h
     . exact key h (by rw [hxv,hyv];rfl) hg (zbd _ rfl)
     . exact key h (by rw [hxv,hyv];rfl) hg (zbd _ rfl)
     . obtain ⟨hsz,h⟩:=h
       refine key h ?_ hg (zbd _ rfl);have hno:¬ (((a.size+b.size:Nat):Int)>IntKind.i64.max):=by
        have:IntKind.i64.max=9223372036854775807:=by rfl
        omega
       rw [hxv,hyv];show (Op.stringOp .add a b).run P w=_;simp only [Op.stringOp,zy7 hno]
       rfl
     . exact h.elim
   . exact h.elim
 . rename_i xs hxa
   rw [hxa] at hx;split at h
   . rename_i ys hyb
     rw [hyb] at hy;simp only [zad] at hx hy;obtain ⟨xa,hxv,hx⟩:=hx;obtain ⟨ya,hyv,hy⟩:=hy;obtain ⟨hflat,h⟩:=h;simp only [ztl,zy1,zy44] at hflat;obtain ⟨⟨hf,hst⟩,heg⟩:=hflat;split at hf
     . rename_i fs hu
       have hg:(eqGuard op t x y (ρ x) (ρ y)).run P w=.ok () w:=by rw [hxv,hyv];exact run_eqGuard_agg w op t x y xa ya heg
       have hfo:P.fieldsOf t=fs:=by simp [Program.fieldsOf,hu]
       have hu':P.underlying t=some (.struct (P.fieldsOf t)):=by rw [hfo];exact hu
       split at h
       . obtain ⟨b,hb,zbh⟩:=zcr (xa:=xa) (ya:=ya) 9998 fs.toList 0 xs ys _ xa.toList ya.toList h hf hx hy (fun k=>by simp) (fun k=>by simp)
         refine key' hb ?_ hg (zbd _ rfl);rw [hxv,hyv,run_eql_struct w t xa ya,run_equalIn_struct w 9999 t xa ya hu' hst,hfo,zbh];rfl
       . obtain ⟨b,hb,zbh⟩:=zcr (xa:=xa) (ya:=ya) 9998 fs.toList 0 xs ys _ xa.toList ya.toList h hf hx hy (fun k=>by simp) (fun k=>by simp)
         refine key' hb ?_ hg (zbd _ rfl);rw [hxv,hyv,run_neq_struct w t xa ya,run_equalIn_struct w 9999 t xa ya hu' hst,hfo,zbh];rfl
       . exact h.elim
     . rename_i n e hu
       have hg:(eqGuard op t x y (ρ x) (ρ y)).run P w=.ok () w:=by rw [hxv,hyv];exact run_eqGuard_agg w op t x y xa ya heg
       simp only [zpu,zy1,zy58,Option.isSome_iff_exists] at hf;obtain ⟨⟨⟨hks,hei⟩,hc⟩,inf,hinf⟩:=hf;split at hei
       case h_2=>cases hei
       rename_i kk he;split at h
       . obtain ⟨b,hb,zbh⟩:=zel (xa:=xa) (ya:=ya) 9998 he hc n 0 xs ys _ xa.toList ya.toList h hks hx hy (fun k=>by simp) (fun k=>by simp)
         refine key' hb ?_ hg (zbd _ rfl);rw [hxv,hyv,run_eql_struct w t xa ya,run_equalIn_array w 9999 xa ya hu hinf,List.range_eq_range',zbh];rfl
       . obtain ⟨b,hb,zbh⟩:=zel (xa:=xa) (ya:=ya) 9998 he hc n 0 xs ys _ xa.toList ya.toList h hks hx hy (fun k=>by simp) (fun k=>by simp)
         refine key' hb ?_ hg (zbd _ rfl);rw [hxv,hyv,run_neq_struct w t xa ya,run_equalIn_array w 9999 xa ya hu hinf,List.range_eq_range',zbh];rfl
       . exact h.elim
     . cases hf
   . exact h.elim
 . rename_i n rows hxa
   rw [hxa] at hx;split at h
   . rename_i hyb
     rw [hyb] at hy;have hyv:=zfu hy;obtain ⟨e,d,u,i,z,hu,ht,h⟩:=zbe h;split at h
     . split at h
       case h_2=>exact h.elim
       simp only [zad] at hx;obtain ⟨a,len,c,hxv,zms⟩:∃ a len c,ρ x=.slice a len c/\(a=none->rows=[]):=by
        generalize ρ x=v at hx;cases hx with
        | sl0 n a c hm=>exact ⟨a,0,c,rfl,fun _=>rfl⟩
        | sl n rows b o c cv hc hm hn hR hcell hrep=>exact ⟨_,_,c,rfl,fun h=>by cases h⟩
       have hg:eqGuard .eql t x y (ρ x) (ρ y)=pure ():=by rw [hxv];exact eqGuard_at_slice (op:=.eql) (t:=t) (x:=x) (y:=y) (v:=ρ y) a len c
       refine key (h a.isNone (fun ha=>zms (by simpa using ha))) ?_ hg (zbd (.bool a.isNone) rfl);rw [hxv,hyv,Lib.run_eql_slice_nil w t e a len c 0 0 hu]
     . exact h.elim
   . exact h.elim
 . rename_i hxa
   rw [hxa] at hx;have hxv:=zfu hx;split at h
   . rename_i hyb
     rw [hyb] at hy;have hyv:=zfu hy;obtain ⟨e,d,u,i,z,hu,ht,h⟩:=zbe h;split at h
     . have hg:eqGuard .eql t x y (ρ x) (ρ y)=pure ():=by rw [hxv];exact eqGuard_at_slice (op:=.eql) (t:=t) (x:=x) (y:=y) (v:=ρ y) none 0 0
       refine key h ?_ hg (zbd _ rfl);rw [hxv,hyv,Lib.run_eql_slice_nil w t e none 0 0 0 0 hu];rfl
     . exact h.elim
   . exact h.elim
 . exact h.elim
end
end Go.HL
namespace Go.HL
open Go.RowKit (Below)
theorem zaw {α:Type} {n:Nat}:∀ {rows:List (List α)} {i j:Nat} {r:List α} {x:α},(∀ r∈rows,r.length=n)->rows[i]?=some r->r[j]?=some x->rows.flatten[i*n+j]?=some x
 | [],i,j,r,x,_,hi,_=>by simp at hi
 | q::rows,0,j,r,x,hl,hi,hj=>by
  simp at hi;subst hi;have hlt:j<q.length:=by
   rcases zy39 j q.length with h | h
   . exact h
   . rw [zy24 h] at hj;cases hj
  simp [zy23 hlt,hj]
 | q::rows,i+1,j,r,x,hl,hi,hj=>by
  have hq:q.length=n:=hl q zz1;have:=zaw (rows:=rows) (i:=i) (fun r hr=>hl r (by simp [hr])) (by simpa using hi) hj;rw [zy54,zy29 (by rw [hq,zy12];omega),hq,<- this];congr 1;rw [zy12];omega
theorem zam {α:Type} {n:Nat}:∀ {rows:List (List α)},(∀ r∈rows,r.length=n)->rows.flatten.length=rows.length*n
 | [],_=>by simp
 | q::rows,h=>by
  rw [zy54,zy36,zam (fun r hr=>h r (by simp [hr])),h q (by simp),zy35,zy12];omega
theorem zbm {α:Type} {n:Nat} {rows:List (List α)} {k:Nat} {x:α} (hl:∀ r∈rows,r.length=n) (h:rows.flatten[k]?=some x):∃ i j r,k=i*n+j/\j<n/\rows[i]?=some r/\r[j]?=some x:=by
 induction rows generalizing k with
 | nil=>simp at h
 | cons q rows ih =>
  have hq:q.length=n:=hl q zz1;rw [zy54] at h;rcases zy39 k q.length with hk | hk
  . rw [zy23 hk] at h
    exact ⟨0,k,q,by simp,by omega,by simp,h⟩
  . rw [zy29 hk] at h
    obtain ⟨i,j,r,e,hj,hr,hx⟩:=ih (fun r hr=>hl r (by simp [hr])) h;exact ⟨i+1,j,r,by rw [zy12];omega,hj,by simpa using hr,hx⟩
structure zme (w:World) (R:Nat->Prop) (n:Nat) (rows:List (List PV)) (v:Value):Prop where
 out:∃ a c,v=.slice a rows.length c/\rows.length<=c/\c<=maxLen/\(rows≠[]->∃ b o,a=some ⟨b,o,none⟩/\zdl w R b o rows.flatten)
 lens:∀ r∈rows,r.length=n
theorem zme.of_pv {w:World} {R:Nat->Prop} {n:Nat} {rows:List (List PV)} {v:Value} (h:zcj w R (.sl n rows) v):zme w R n rows v:=by
 cases h with
 | sl0 n a c hm=>exact ⟨⟨a,c,rfl,by simp,hm,fun h=>absurd rfl h⟩,by simp⟩
 | sl n rows b o c cv hc hm hn hR hcell hrep=>exact ⟨⟨_,c,rfl,hc,hm,fun _=>⟨b,o,rfl,fun k x hk=>⟨cv k,hcell k x hk,hrep k x hk⟩⟩⟩,hn⟩
section
variable {Γ:Ctx} {P:Program} {m:zbj} {H:Nat->zaa} {w:World}
theorem zan {id:Nat} {K:zcq->Prop} (h:zaq (H id) K):∃ b,(H id=.live b\/H id=.ro b)/\K b:=by
 unfold zaq at h;split at h
 . rename_i b hb;exact ⟨b,.inl hb,h⟩
 . rename_i b hb;exact ⟨b,.inr hb,h⟩
 . exact h.elim
theorem zag.blk (hok:zag Γ m H w) {id:Nat} {b:zcq} (h:H id=.live b\/H id=.ro b):∃ l,m id=some l/\zeh m w (RR Γ m H w) l b:=by
 rcases h with h | h
 . obtain ⟨l,h1,h2,_⟩:=hok.live id b h;exact ⟨l,h1,h2⟩
 . obtain ⟨l,h1,h2,_⟩:=hok.ro id b h;exact ⟨l,h1,h2⟩
theorem zdd {R:Nat->Prop} {l:Loc} {t:TypeId} {n:Nat} {rows:List (List PV)} (hb:zeh m w R l (.row t n rows)) (hn:l.nil=false):zdl w R l.blk 0 rows.flatten:=by
 obtain ⟨_,_,h3⟩:=hb;rcases h3 with ⟨h,_⟩ | ⟨_,_,_,arr,h4,_,h6⟩
 . rw [hn] at h;cases h
 . intro k x hk
   obtain ⟨cv,h7,h8⟩:=h6 k x hk;exact ⟨cv,by rw [zy25,cell_of_row w l.blk k arr t (0,0) h4];exact h7,h8⟩
theorem zgy {R:Nat->Prop} {l:Loc} {t:TypeId} {n:Nat} {rows:List (List PV)} (hb:zeh m w R l (.row t n rows)):zme w R n rows (hdr l):=by
 have hb':=hb;obtain ⟨h1,h2,h3⟩:=hb;rcases h3 with ⟨h,h4⟩ | ⟨h,h4,h5,_⟩
 . subst h4;exact ⟨⟨none,0,by simp [hdr,h],by simp,by simp [maxLen],fun h=>absurd rfl h⟩,by simp⟩
 . exact ⟨⟨_,l.cap,by simp [hdr,h,h1],h4,h5,fun _=>⟨l.blk,0,rfl,zdd hb' h⟩⟩,h2⟩
theorem zhi {R:Nat->Prop} {l:Loc} {t:TypeId} {n c:Nat} {rows:List (List PV)} (hb:zeh m w R l (.buf t n rows c)):zdl w R l.blk 0 rows.flatten:=by
 obtain ⟨_,_,_,_,_,arr,h4,_,h6⟩:=hb;intro k x hk;obtain ⟨cv,h7,h8⟩:=h6 k x hk;exact ⟨cv,by rw [zy25,cell_of_row w l.blk k arr t (0,0) h4];exact h7,h8⟩
theorem zfx {R:Nat->Prop} {id n off len:Nat} {v:Value} (h:zad m w R (.osl id n off len) v) :
 ∃ l a c,m id=some l/\off+len<=l.room/\len<=c/\c<=maxLen/\v=.slice a len c/\(len≠0->l.nil=false/\a=some ⟨l.blk,off*n,none⟩):=by
 simp only [zad] at h;obtain ⟨l,a,h1,h2,h3,h4,h5⟩:=h;refine ⟨l,a,_,h1,h2,by omega,by omega,h4,fun h0=>?_⟩;have hn:l.nil=false:=by
  cases hn:l.nil with
  | false=>rfl
  | true=>simp [Loc.room,hn] at h2;omega
 exact ⟨hn,(h5 (.inl zz0)).trans zz15⟩
theorem zhc {R:Nat->Prop} {l:Loc} {id n off len:Nat} {rows:List (List PV)} {v:Value} (hl:m id=some l) (hx:zad m w R (.osl id n off len) v) (hlens:∀ r∈rows,r.length=n)
 (hpc:l.nil=false->zdl w R l.blk 0 rows.flatten) (hle:off+len<=rows.length):zme w R n ((rows.drop off).take len) v:=by
 obtain ⟨l',a,c,hl',h1,h2,h3,rfl,h5⟩:=zfx hx;rw [hl] at hl';cases hl';have hlen:((rows.drop off).take len).length=len:=by simp;omega
 have zkj:∀ r∈(rows.drop off).take len,r.length=n:=fun r hr=>hlens r (zy46 (zy27 hr))
 refine ⟨⟨a,c,by rw [hlen],by omega,h3,fun hne=>?_⟩,zkj⟩;have hl0:len≠0:=by rintro rfl;exact hne (zy5 hlen)
 obtain ⟨hn,rfl⟩:=h5 hl0;refine ⟨l.blk,off*n,rfl,fun k x hk=>?_⟩;obtain ⟨i,j,r,e,hj,hr,hxx⟩:=zbm zkj hk;have hr':rows[off+i]?=some r:=by
  rw [zy14] at hr;split at hr
  . rw [zy17] at hr;exact hr
  . cases hr
 obtain ⟨cv,hc,hp⟩:=hpc hn _ x (zaw hlens hr' hxx);exact ⟨cv,by rw [<- hc];congr 2;subst e;rw [zy12];omega,hp⟩
structure Win (m:zbj) (w:World) (R:Nat->Prop) (l:Loc) (b:zcq) (t:TypeId) (n:Nat) (rows:List (List PV)) (mk:List (List PV)->zcq) (lim:Nat):Prop where
 lens:∀ r∈rows,r.length=n
 cells:l.nil=false->zdl w R l.blk 0 rows.flatten
 le:rows.length<=lim
 room:lim<=l.room
 rm:l.room<=maxLen
 set:mk rows=b
 arr:l.nil=false->∃ arr:Array Value,w.heap[l.blk]?=some (.cells arr t (0,0))/\arr.size=l.cap*n/\(∀ (k:Nat) x,rows.flatten[k]?=some x->∃ cv,arr[k]?=some cv/\zcj w R x cv) /\
  (∀ (w':World) (R':Nat->Prop) (arr':Array Value) (rows':List (List PV)),w'.heap[l.blk]?=some (.cells arr' t (0,0))->arr'.size=arr.size->(∀ r∈rows',r.length=n)->(rows'.length=rows.length\/lim=l.cap/\rows'.length<=lim/\∃ c,b=.buf t n rows c) ->
   (∀ (k:Nat) x,rows'.flatten[k]?=some x->∃ cv,arr'[k]?=some cv/\zcj w' R' x cv)->zeh m w' R' l (mk rows'))
theorem zji {R:Nat->Prop} {l:Loc} {b:zcq} {K:TypeId->Nat->List (List PV)->(List (List PV)->zcq)->Nat->Prop} (hb:zeh m w R l b) (h:zti b K) :
 ∃ t n rows mk lim,K t n rows mk lim/\Win m w R l b t n rows mk lim/\((lim=rows.length)\/∃ c,b=.buf t n rows c/\lim=c/\l.cap=c):=by
 cases b with
 | cells=>exact h.elim
 | map=>exact h.elim
 | iter=>exact h.elim
 | row t n rows =>
  have hb':=hb;obtain ⟨h1,h2,h3⟩:=hb;refine ⟨t,n,rows,_,_,h,⟨h2,fun hn=>zdd hb' hn,zy47 _,?_,?_,rfl,fun hn=>?_⟩,.inl rfl⟩
  . rcases h3 with ⟨hn,rfl⟩ | ⟨hn,h4,_⟩
    . simp
    . simp [Loc.room,hn];exact h4
  . rcases h3 with ⟨hn,rfl⟩ | ⟨hn,h4,h5,_⟩
    . simp [Loc.room,hn]
    . simp [Loc.room,hn];exact h5
  . rcases h3 with ⟨hn',_⟩ | ⟨hn',h4,h5,arr,h6,h7,h8⟩
    . rw [hn] at hn';cases hn'
    . refine ⟨arr,h6,h7,h8,fun w' R' arr' rows' a1 a2 a3 a4 a5=>?_⟩
      rcases a4 with a4 | ⟨_,_,c,hc⟩
      . exact ⟨by rw [h1,a4],a3,.inr ⟨hn,by omega,h5,arr',a1,by rw [a2,h7],a5⟩⟩
      . cases hc
 | buf t n rows c =>
  have hb':=hb;obtain ⟨h1,h2,h3,h4,h5,arr,h6,h7,h8⟩:=hb;refine ⟨t,n,rows,_,_,h,⟨h3,fun _=>zhi hb',by omega,?_,?_,rfl,fun hn=>?_⟩,.inr ⟨c,rfl,rfl,h2⟩⟩
  . simp [Loc.room,h1];omega
  . simp [Loc.room,h1];exact h5
  . refine ⟨arr,h6,h7,h8,fun w' R' arr' rows' a1 a2 a3 a4 a5=>⟨h1,h2,a3,?_,h5,arr',a1,by rw [a2,h7],a5⟩⟩
    rcases a4 with a4 | ⟨_,a4,_⟩<;>omega
theorem zew (hok:zag Γ m H w) {n₀:Nat} {x:HV} {v:Value} {K:Nat->List (List PV)->List Nat->Prop} (hx:zad m w (RR Γ m H w) x v) (h:zdb H n₀ x K) :
 ∃ n rows ids,K n rows ids/\zme w (RR Γ m H w) n rows v:=by
 unfold zdb at h;split at h
 . simp only [zad] at hx;exact ⟨_,_,_,h,.of_pv hx⟩
 . have:=zfu hx;subst this;exact ⟨_,_,_,h,⟨⟨none,0,rfl,by simp,by simp [maxLen],fun h=>absurd rfl h⟩,by simp⟩⟩
 . rename_i id
   obtain ⟨b,hb,h⟩:=zan h;split at h
   . simp only [zad] at hx
     obtain ⟨l,hl,rfl⟩:=hx;obtain ⟨l',hl',hbr⟩:=hok.blk hb;rw [hl] at hl';cases hl';exact ⟨_,_,_,h,zgy hbr⟩
   . exact h.elim
 . rename_i id n off len
   obtain ⟨b,hb,h⟩:=zan h;obtain ⟨l',hl',hbr⟩:=hok.blk hb;split at h
   . rename_i t n' rows
     have h2:=zab h;clear h;obtain ⟨hnn,rs,hrs,hle,h⟩:=h2;have hnn:=zy0 hnn;subst hnn;subst hrs;exact ⟨_,_,_,h,zhc hl' hx hbr.2.1 (fun hn=>zdd hbr hn) hle⟩
   . rename_i t n' rows c
     have h2:=zab h;clear h;obtain ⟨hnn,rs,hrs,hle,h⟩:=h2;have hnn:=zy0 hnn;subst hnn;subst hrs;exact ⟨_,_,_,h,zhc hl' hx hbr.2.2.1 (fun _=>zhi hbr) hle⟩
   . exact h.elim
 . exact h.elim
theorem zvm (hok:zag Γ m H w) {x:HV} {v:Value} {K:PV->List (Nat×zaa)->Prop} (hx:zad m w (RR Γ m H w) x v) (h:hpv H x K) :
 ∃ y us,K y us/\WS Γ H m w (zbb H us) m w/\zcj w (RR Γ m (zbb H us) w) y v/\(∀ e∈us,∃ b,(H e.1=.live b\/H e.1=.ro b)/\e.2=.ro b):=by
 unfold hpv at h;split at h
 . simp only [zad] at hx;exact ⟨_,_,h,.refl hok,hx,by simp⟩
 . rename_i id
   have key:∀ t n rows,(H id=.live (.row t n rows)\/H id=.ro (.row t n rows))->K (.sl n rows) [(id,.ro (.row t n rows))] ->
    ∃ y us,K y us/\WS Γ H m w (zbb H us) m w/\zcj w (RR Γ m (zbb H us) w) y v/\(∀ e∈us,∃ b,(H e.1=.live b\/H e.1=.ro b)/\e.2=.ro b):=by
    intro t n rows hb hK;have hws:=WS.freeze hok hb;refine ⟨_,_,hK,hws,?_,by intro e he;simp at he;subst he;exact ⟨_,hb,rfl⟩⟩;simp only [zbb];simp only [zad] at hx;obtain ⟨l,hl,rfl⟩:=hx;obtain ⟨l',hl',hbr,hro⟩:=hws.ok.ro id _ (zaf _ _ _);rw [hl] at hl';cases hl';obtain ⟨h1,h2,h3⟩:=hbr;rcases h3 with ⟨hn,h4⟩ | ⟨hn,h4,h5,arr,h6,h7,h8⟩
    . subst h4;rw [show hdr l=.slice none 0 0 by simp [hdr,hn]];exact .sl0 _ _ _ (by simp [maxLen])
    . rw [show hdr l=.slice (some ⟨l.blk,0,none⟩) rows.length l.cap by simp [hdr,hn,h1]]
      refine .sl n rows l.blk 0 l.cap (fun k=>(arr[k]?).getD undef) h4 h5 h2 (hro hn) (fun k x hk=>?_) (fun k x hk=>?_)
      . obtain ⟨cv,h9,_⟩:=h8 k x hk
        rw [zy25,cell_of_row w l.blk k arr t (0,0) h6,h9];rfl
      . obtain ⟨cv,h9,h10⟩:=h8 k x hk
        rw [h9];exact h10
   exact yy22
 . exact h.elim
end
end Go.HL
namespace Go.HL
open Go.RowKit (Below)
theorem zeq (H:Nat->zaa) (a b:List (Nat×zaa)):zbb H (a++b)=zbb (zbb H a) b:=by
 induction a generalizing H with
 | nil=>rfl
 | cons x a ih=>obtain ⟨i,y⟩:=x;exact ih _
def Frz (H:Nat->zaa) (us:List (Nat×zaa)):Prop:=∀ e∈us,∃ b,(H e.1=.live b\/H e.1=.ro b)/\e.2=.ro b
theorem Frz.upd {H:Nat->zaa} {e:Nat×zaa} {us:List (Nat×zaa)} (h:Frz H (e::us)):Frz (upd H e.1 e.2) us:=by
 intro f hf;obtain ⟨b,hb,hb2⟩:=h f (by simp [hf]);obtain ⟨c,hc,hc2⟩:=h e zz1;by_cases he:f.1=e.1
 . rw [he] at hb ⊢
   have hbc:b=c:=by
    rcases hb with hb | hb<;>rcases hc with hc | hc<;>rw [hb] at hc<;>cases hc<;>rfl
   subst hbc;exact ⟨b,.inr (by rw [zaf];exact hc2),hb2⟩
 . exact ⟨b,by rw [zah _ _ he];exact hb,hb2⟩
section
variable {Γ:Ctx} {P:Program} {m:zbj} {H:Nat->zaa} {w:World} {ρ:Operand->Value} {ev:Operand->HV} {dst:Option Tmp} {ty:TypeId} {pos:String} {after:Array Edge} {guard:Option (Nat×Bool)}
theorem WS.frz (hok:zag Γ m H w) {us:List (Nat×zaa)} (h:Frz H us):WS Γ H m w (zbb H us) m w:=by
 induction us generalizing H with
 | nil=>exact .refl hok
 | cons e us ih =>
  obtain ⟨i,y⟩:=e;obtain ⟨b,hb,hy⟩:=h (i,y) zz1;simp only at hb hy;subst hy;have h1:=WS.freeze hok hb;exact h1.trans (ih h1.ok (Frz.upd (e:=(i,.ro b)) h))
theorem zrw {us:List (Nat×zaa)} {i:Nat} {blk:zcq} (hf:Frz H us) (h:zbb H us i=.live blk):H i=.live blk/\∀ e∈us,e.1=i->False:=by
 induction us generalizing H with
 | nil=>exact ⟨h,by simp⟩
 | cons q a ih =>
  obtain ⟨j,z⟩:=q;obtain ⟨h1,h2⟩:=ih (H:=upd H j z) (Frz.upd (e:=(j,z)) hf) h;by_cases hij:i=j
  . subst hij
    obtain ⟨b',_,hz⟩:=hf (i,z) zz1;simp only at hz;subst hz;rw [zaf] at h1;cases h1
  . rw [zah _ _ hij] at h1
    refine ⟨h1,fun e he=>?_⟩;rcases zy9.1 he with rfl | he
    . exact fun h=>hij h.symm
    . exact h2 e he
theorem zgf {us:List (Nat×zaa)} {i:Nat} (h:∀ e∈us,e.1=i->False):zbb H us i=H i:=by
 induction us generalizing H with
 | nil=>rfl
 | cons q a ih =>
  obtain ⟨j,z⟩:=q;have hji:i≠j:=fun e=>h (j,z) zz1 e.symm
  exact (ih (H:=upd H j z) fun e he=>h e zz22).trans (zah _ _ hji)
theorem zks {us:List (Nat×zaa)} {i:Nat} (_:Frz H us) (h:∀ e∈us,e.1=i->False):zbb H us i=H i:=zgf h
theorem Frz.append {a b:List (Nat×zaa)} (h:Frz H a) (k:Frz H b):Frz H (a++b):=by
 intro e he;rcases zy6.1 he with he | he
 . exact h e he
 . exact k e he
theorem zbg.length {R:Nat->Prop} {xs:List PV} {vs:List Value} (hx:zbg w R xs vs):vs.length=xs.length:=by
 induction hx with
 | nil=>rfl
 | cons h1 _ ih=>simp [ih]
theorem zbg.get {R:Nat->Prop} {xs:List PV} {vs:List Value} (hx:zbg w R xs vs):∀ (k:Nat) x,xs[k]?=some x->∃ v,vs[k]?=some v/\zcj w R x v:=by
 induction hx with
 | nil=>intro k x h;simp at h
 | cons h1 _ ih =>
  intro k x h;cases k with
  | zero=>simp at h;subst h;exact ⟨_,by simp,h1⟩
  | succ k=>simpa using ih k x zz21
theorem zbg.one {R:Nat->Prop} {xs:List PV} {vs:List Value} (hx:zbg w R xs vs):∀ v∈vs,v.oneCell'=true:=by
 induction hx with
 | nil=>simp
 | cons h1 _ ih=>intro u hu;rcases zy9.1 hu with rfl | hu;exact h1.one;exact ih u hu
theorem zbg.append {R:Nat->Prop} {xs ys:List PV} {vs us:List Value} (hx:zbg w R xs vs) (hy:zbg w R ys us):zbg w R (xs++ys) (vs++us):=by
 induction hx with
 | nil=>exact hy
 | cons h1 _ ih=>exact .cons h1 ih
theorem zqe (hok:zag Γ m H w):∀ {xs:List HV} {vs:List Value} {K:List PV->List (Nat×zaa)->Prop},zae m w (RR Γ m H w) xs vs->zmq H xs K ->
 ∃ ys us,K ys us/\Frz H us/\zbg w (RR Γ m (zbb H us) w) ys vs
 | [],vs,K,hx,h=>by simp only [zae] at hx;subst hx;exact ⟨[],[],h,zz20,.nil⟩
 | x::xs,vs,K,hx,h=>by
  simp only [zae] at hx;obtain ⟨v,r,rfl,h1,h2⟩:=hx;simp only [zmq] at h;obtain ⟨y,u,hk,hws,hp,hf⟩:=zvm hok h1 h;obtain ⟨ys,us,hk2,hf2,hp2⟩:=zqe hok h2 hk;have hall:Frz H (u++us):=Frz.append hf hf2;refine ⟨_,_,hk2,hall,.cons (hp.mono ?_) (hp2.mono ?_)⟩
  . intro b hb
    refine ⟨rfl,hb.1,hb.2.1,?_⟩;rw [zeq];have hh:=WS.frz hws.ok (us:=us) (fun e he=>by
     obtain ⟨c,hc,hc2⟩:=hf2 e he;refine ⟨c,?_,hc2⟩;have:=(WS.frz hok hf)
     clear this;have gen:∀ (u:List (Nat×zaa)) (H:Nat->zaa),Frz H u->(H e.1=.live c\/H e.1=.ro c)->(zbb H u e.1=.live c\/zbb H u e.1=.ro c):=by
      intro u
      induction u with
      | nil=>intro H _ h;exact h
      | cons q u ih =>
       intro H hfz h;obtain ⟨i,z⟩:=q;refine ih _ (Frz.upd (e:=(i,z)) hfz) ?_;by_cases hi:e.1=i
       . obtain ⟨b',hb',hz⟩:=hfz (i,z) zz1
         simp only at hb' hz;subst hz;rw [hi] at h ⊢;rw [zaf];rcases h with h | h<;>rcases hb' with hb' | hb'<;>rw [h] at hb'<;>cases hb'<;>exact .inr rfl
       . rw [zah _ _ hi];exact h
     exact gen u H hf hc)
    exact (hh.keep b hb).2.2.2
  . intro b hb
    refine ⟨rfl,hb.1,hb.2.1,?_⟩;rintro ⟨i,l,blk,hi1,hi2,hi3,hi4⟩;refine hb.2.2 ⟨i,l,blk,?_,hi2,hi3,hi4⟩
    -- what is live behind all was live behind the later part alone
    have gen:∀ (a:List (Nat×zaa)) (H:Nat->zaa),Frz H a->zbb H a i=.live blk->H i=.live blk:=by
     intro a
     induction a with
     | nil=>intro H _ h;exact h
     | cons q a ih =>
      intro H hfz h;obtain ⟨j,z⟩:=q;have:=ih _ (Frz.upd (e:=(j,z)) hfz) h;by_cases hij:i=j
      . subst hij
        obtain ⟨b',_,hz⟩:=hfz (i,z) zz1;simp only at hz;subst hz;rw [zaf] at this;cases this
      . rw [zah _ _ hij] at this;exact this
    have gen2:∀ (a:List (Nat×zaa)) (H H':Nat->zaa),Frz H a->H' i=H i->(∀ e∈a,e.1=i->False)->zbb H' a i=H' i:=by
     intro a
     induction a with
     | nil=>intro H H' _ _ _;rfl
     | cons q a ih =>
      intro H H' hfz he hn;obtain ⟨j,z⟩:=q;have hji:i≠j:=fun e=>hn (j,z) zz1 e.symm
      have h1:upd H' j z i=H' i:=zah _ _ hji;have h2:upd H j z i=H i:=zah _ _ hji;have h3:zbb H' ((j,z)::a)=zbb (upd H' j z) a:=rfl;rw [h3,ih (upd H j z) (upd H' j z) (Frz.upd (e:=(j,z)) hfz) (by rw [h1,h2,he]) (fun e he'=>hn e (by simp [he']))];exact h1
    have hHi:H i=.live blk:=gen (u++us) H hall hi1;have hnin:∀ e∈us,e.1=i->False:=by
     intro e he hei;have gen3:∀ (a:List (Nat×zaa)) (H:Nat->zaa),Frz H a->e∈a->zbb H a i≠.live blk:=by
      intro a
      induction a with
      | nil=>intro H _ h;cases h
      | cons q a ih =>
       intro H hfz hm hl;obtain ⟨j,z⟩:=q;rcases zy9.1 hm with hq | hq
       . have hz:=gen a (upd H j z) (Frz.upd (e:=(j,z)) hfz) hl
         rw [hq] at hei;simp only at hei;subst hei;obtain ⟨b',_,hz2⟩:=hfz (j,z) zz1;simp only at hz2;subst hz2;rw [zaf] at hz;cases hz
       . exact ih _ (Frz.upd (e:=(j,z)) hfz) hq hl
     exact gen3 (u++us) H hall (zy6.2 (.inr he)) hi1
    rw [gen2 us H H hf2 rfl hnin];exact hHi
theorem zcj.norm {R:Nat->Prop} (o:Option Nat) {x:PV} {v:Value} (h:zcj w R x v):zcj w R (zlj o x) v:=by
 unfold zlj;split
 . exact zcj.nil_sl _ h
 . exact h
theorem zbg.norm {R:Nat->Prop}:∀ (os:List (Option Nat)) {xs:List PV} {vs:List Value},zbg w R xs vs->zbg w R (ziz os xs) vs
 | os,[],vs,h=>by cases os<;>exact h
 | [],x::xs,vs,h=>h
 | o::os,x::xs,vs,h=>by
  cases h with
  | cons h1 h2=>exact .cons (h1.norm o) (h2.norm os)
theorem zmr (hok:zag Γ m H w) {os:List (Option Nat)} {xs:List HV} {vs:List Value} {K:List PV->List (Nat×zaa)->Prop} (hx:zae m w (RR Γ m H w) xs vs) (h:ztn H os xs K) :
 ∃ ys us,K ys us/\Frz H us/\zbg w (RR Γ m (zbb H us) w) ys vs:=by
 obtain ⟨ys,us,h1,h2,h3⟩:=zqe hok hx h;rw [zbw] at h1;exact ⟨_,us,h1,h2,h3.norm os⟩
theorem zne {K:Res->Prop} {C:zai} {d:Nat} {x:Operand} (hok:zag Γ m H w) (hx:zad m w (RR Γ m H w) (ev x) (ρ x)) (h:zat P C (.nilCheck x) d ev H K) :
 ∃ r,K r/\OS Γ P m H w (execOp ρ ⟨dst,.nilCheck x,ty,pos,after,guard⟩) r:=by
 simp only [zat] at h;split at h
 . rename_i i o hxx
   exact yy23
 . rename_i i n j o hxx
   exact yy23
 . rename_i c hxx
   rw [hxx] at hx;refine ⟨_,h,.ret hok ?_ hx []⟩;simp only [zad] at hx;obtain ⟨b,o,hv,_⟩:=hx;simp only [execOp,hv];rfl
 . exact h.elim
theorem zur {K:Res->Prop} {C:zai} {d:Nat} {op:UnOp} {t:TypeId} {x:Operand} (hok:zag Γ m H w) (hx:zad m w (RR Γ m H w) (ev x) (ρ x)) (h:zat P C (.unOp op t x) d ev H K) :
 ∃ r,K r/\OS Γ P m H w (execOp ρ ⟨dst,.unOp op t x,ty,pos,after,guard⟩) r:=by
 simp only [zat] at h;split at h
 . split at h
   . rename_i b hb
     rw [hb] at hx;have hv:=zcg hx;refine ⟨_,h,.ret hok ?_ (zbd (.bool !b) rfl) []⟩;simp only [execOp,hv];rfl
   . exact h.elim
 . split at h
   . rename_i k z hb
     rw [hb] at hx;have hv:=zax hx;obtain ⟨y,rfl,h⟩:=h;refine ⟨_,h,.ret hok ?_ (zbd (.int k (k.wrap (0-z))) rfl) []⟩;simp only [execOp,hv];rfl
   . exact h.elim
 . exact h.elim
theorem zpi {K:Res->Prop} {C:zai} {d i:Nat} {x:Operand} (hok:zag Γ m H w) (hx:zad m w (RR Γ m H w) (ev x) (ρ x)) (h:zat P C (.extract x i) d ev H K) :
 ∃ r,K r/\OS Γ P m H w (execOp ρ ⟨dst,.extract x i,ty,pos,after,guard⟩) r:=by
 simp only [zat] at h;split at h
 . rename_i l hl
   rw [hl] at hx;simp only [zad] at hx;obtain ⟨arr,hv,hr⟩:=hx;split at h
   . rename_i y hy
     rw [force_eq] at h;rw [zce] at hy;obtain ⟨v,hv2,hrep⟩:=hr.get i y hy;refine ⟨_,h,.ret hok ?_ hrep []⟩;simp only [execOp,hv];exact zak _ (by simp only [Instr.extract];rw [show arr[i]?=some v by simpa using hv2];rfl)
   . exact h.elim
 . exact h.elim
theorem zae.map {R:Nat->Prop}:∀ (l:List Operand),(∀ x∈l,zad m w R (ev x) (ρ x))->zae m w R (l.map ev) (l.map ρ)
 | [],_=>by simp only [List.map_nil,zae]
 | x::r,h=>by simp only [zy13,zae];exact ⟨_,_,rfl,h x zz1,zae.map r fun y hy=>h y zz16⟩
theorem znd {K:Res->Prop} {C:zai} {d:Nat} {fn:Fn} {first caps:Array Operand} (hok:zag Γ m H w) (hx:∀ x∈caps.toList,zad m w (RR Γ m H w) (ev x) (ρ x)) (h:zat P C (.makeFunc fn first caps) d ev H K) :
 ∃ r,K r/\OS Γ P m H w (execOp ρ ⟨dst,.makeFunc fn first caps,ty,pos,after,guard⟩) r:=by
 simp only [zat] at h;split at h
 . rename_i f
   obtain ⟨hf,h⟩:=zab h;rw [zgn] at h;refine ⟨_,h,.ret hok (v:=.func (.func f) #[] (caps.map ρ)) ?_ ?_ []⟩
   . have:first=#[]:=by simpa using hf
     subst this;simp only [execOp];exact zak _ (by simp [Instr.makeFunc])
   . simp only [zad]
     exact ⟨_,rfl,by simpa using zae.map caps.toList hx⟩
 . exact h.elim
theorem zlm {K:Res->Prop} {C:zai} {d f:Nat} {t:TypeId} {x:Operand} (hok:zag Γ m H w) (hx:zad m w (RR Γ m H w) (ev x) (ρ x)) (h:zat P C (.fieldAddr t x f) d ev H K) :
 ∃ r,K r/\OS Γ P m H w (execOp ρ ⟨dst,.fieldAddr t x f,ty,pos,after,guard⟩) r:=by
 simp only [zat] at h;obtain ⟨td,u,i,z,ht,h⟩:=zbf h;split at h
 . rename_i fs hk
   obtain ⟨a,hu,hfs⟩:=ht.struct hk;split at h
   . rename_i o tf hn
     rw [zce,hfs,zy10] at hn;obtain ⟨fl,hfl,hfe⟩:=zy3.1 hn;simp only [Prod.mk.injEq] at hfe;obtain ⟨rfl,rfl⟩:=hfe;have hfl':a[f]?=some fl:=by simpa using hfl
     simp only [zqh] at h;cases hi:P.info? fl.type with
     | none=>simp only [hi,Option.map_none] at h
     | some inf =>
      simp only [hi,zy18] at h;split at h
      case h_2=>exact h.elim
      rename_i sz hsz;have hsz':inf.size≠0:=by simp at hsz;omega
      have key:∀ (b q:Nat),ρ x=.pointer (some ⟨b,q,none⟩)->(execOp ρ ⟨dst,.fieldAddr t x f,ty,pos,after,guard⟩).run P w=.ok (.value (.pointer (some ⟨b,q+fl.offset,none⟩))) w:=by
       intro b q hv;simp only [execOp,hv];exact zak _ (by simp [Instr.fieldAt,run_underlying hu,hfl',Instr.sureAddr,fieldPlace,sizeOf,typeInfo,hi,hsz',Addr.add_mid])
      split at h
      . rename_i id off hxx
        rw [hxx] at hx;simp only [zad] at hx;obtain ⟨l,h1,h2,hv⟩:=hx;refine ⟨_,h,.ret hok (key _ _ hv) ?_ []⟩;simp only [zad];exact ⟨l,h1,h2,rfl⟩
      . rename_i id n i off hxx
        rw [hxx] at hx;simp only [zad] at hx;obtain ⟨l,h1,h2,hv⟩:=hx;refine ⟨_,h,.ret hok (key _ _ hv) ?_ []⟩;simp only [zad];exact ⟨l,h1,h2,by rw [zy60];rfl⟩
      . rename_i cs hxx
        rw [hxx] at hx;simp only [zad] at hx;obtain ⟨b,q,hv,h1,h2⟩:=hx;refine ⟨_,h,.ret hok (key _ _ hv) ?_ []⟩;simp only [zad];refine ⟨b,q+fl.offset,rfl,fun hne=>h1 fun he=>hne zz22,fun k y hy=>?_⟩;rw [zy17] at hy;obtain ⟨cv,hc,hp⟩:=h2 _ y hy;exact ⟨cv,by rw [<- hc,zy60],hp⟩
      . exact h.elim
   . exact h.elim
 . exact h.elim
theorem zpj {K:Res->Prop} {t:TypeId} {x i:Operand} (hok:zag Γ m H w) (hx:zad m w (RR Γ m H w) (ev x) (ρ x)) (hi:zad m w (RR Γ m H w) (ev i) (ρ i)) (h:zci P t (ev x) (ev i) H K) :
 ∃ r,K r/\OS Γ P m H w (execOp ρ ⟨dst,.indexAddr t x i,ty,pos,after,guard⟩) r:=by
 simp only [zci] at h;obtain ⟨e,de,u,inf,z,hu,ht,h⟩:=zbe h;have hsz:∀ W:World,(sizeOf e).run P W=.ok de.size W:=fun W=>by simp [sizeOf,typeInfo,ht.info,ht.size]
 split at h
 . rename_i k n hii
   rw [hii] at hi;have hiv:=zax hi;have key:∀ (a:Addr) (len c:Nat),ρ x=.slice (some a) len c->0<=n->n<len->(execOp ρ ⟨dst,.indexAddr t x i,ty,pos,after,guard⟩).run P w=.ok (.value (.pointer (some (a.add (n.toNat*de.size))))) w:=by
    intro a len c hv h0 h1;simp only [execOp,hv,hiv];exact zak _ (by simp [Instr.indexAt,asIntOf,run_underlying hu,hsz,h0,h1])
   split at h
   . rename_i n' rows hxx
     rw [hxx] at hx;simp only [zad] at hx;have hs:=zme.of_pv hx;obtain ⟨hnn,h2⟩:=zab h;obtain ⟨r,h0,hr,h3⟩:=h2;have hnn:=zy0 hnn;obtain ⟨a,c,hv,hle,hm,hcell⟩:=hs.out;have hlt:n.toNat<rows.length:=(zy8.1 hr).1;have hne:rows≠[]:=by rintro rfl;simp at hlt
     obtain ⟨b,o,rfl,hc⟩:=hcell hne;have hRb:RR Γ m H w b:=by
      generalize ρ x=v at hx hv;cases hx with
      | sl0=>simp at hne
      | sl n rows b' o' c' cv hc' hm' hn' hR' hcell' hrep'=>cases hv;exact hR'
     refine ⟨_,h3,.ret hok (key _ _ _ hv h0 zz0) ?_ []⟩;simp only [zad];refine ⟨b,o+n.toNat*de.size,by rw [Addr.add_mid],fun _=>hRb,fun k y hy=>?_⟩;obtain ⟨cv,hcv,hp⟩:=hc _ y (zaw hs.lens hr hy);exact ⟨cv,by rw [<- hcv,<- hnn];congr 2;omega,hp⟩
   . rename_i id hxx
     rw [hxx] at hx;simp only [zad] at hx;obtain ⟨l,hl,hv⟩:=hx;obtain ⟨b,hb,h⟩:=zan h;split at h
     . rename_i t' n' rows
       have h2:=zab h;clear h;obtain ⟨hnn,h0,h⟩:=h2;have hnn:=zy0 hnn;obtain ⟨l',hl',hbr⟩:=hok.blk hb;rw [hl] at hl';cases hl';obtain ⟨h1,h2,h3⟩:=hbr;rcases h3 with ⟨hn,h4⟩ | ⟨hn,h4,h5,_⟩
       . subst h4;simp at h0;omega
       . have hv':ρ x=.slice (some ⟨l.blk,0,none⟩) l.len l.cap:=by rw [hv];simp [hdr,hn]
         refine ⟨_,h,.ret hok (key _ _ _ hv' h0.1 zz0) ?_ _⟩;simp only [zad];exact ⟨l,hl,hn,by rw [Addr.add_mid,hnn];simp⟩
     . rename_i t' cs
       have h2:=zab h;clear h;obtain ⟨hnn,j,hj,hlt,h⟩:=h2;have hnn:=zy0 hnn;obtain ⟨l',hl',hbr⟩:=hok.blk hb;rw [hl] at hl';cases hl';obtain ⟨⟨hn,h2,h3⟩,_⟩:=hbr;have hv':ρ x=.slice (some ⟨l.blk,0,none⟩) l.len l.cap:=by rw [hv];simp [hdr,hn]
       refine ⟨_,h,.ret hok (key _ _ _ hv' zz0 zz0) ?_ _⟩;simp only [zad];exact ⟨l,hl,hn,by rw [Addr.add_mid,<- hnn,hj];simp⟩
     . exact h.elim
   . rename_i id n' off len hxx
     rw [hxx] at hx;obtain ⟨l,a,c,hl,h1,h2,h3,hv,h5⟩:=zfx hx;have h2':=zab h;clear h;obtain ⟨hnn,h0,h⟩:=h2';have hnn:=zy0 hnn;obtain ⟨hn,rfl⟩:=h5 zz0;refine ⟨_,h,.ret hok (key _ _ _ hv h0.1 zz0) ?_ _⟩;simp only [zad];exact ⟨l,hl,hn,by rw [Addr.add_mid,hnn,zy12];simp⟩
   . exact h.elim
 . exact h.elim
theorem zln {K:Res->Prop} {C:zai} {d:Nat} {t:TypeId} {x i:Operand} (hok:zag Γ m H w) (hx:zad m w (RR Γ m H w) (ev x) (ρ x)) (hi:zad m w (RR Γ m H w) (ev i) (ρ i)) (h:zat P C (.indexAddr t x i) d ev H K) :
 ∃ r,K r/\OS Γ P m H w (execOp ρ ⟨dst,.indexAddr t x i,ty,pos,after,guard⟩) r:=by
 simp only [zat] at h;split at h
 . rename_i id off hpp
   rw [hpp] at hx;obtain ⟨n,e,de,u,inf,z,hu,ht,h⟩:=znl h;have hsz:∀ W:World,(sizeOf e).run P W=.ok de.size W:=fun W=>by simp [sizeOf,typeInfo,ht.info,ht.size]
   split at h
   . rename_i k i' hii
     rw [hii] at hi;have hiv:=zax hi;obtain ⟨j,rfl,hj,h⟩:=h;simp only [zad] at hx;obtain ⟨l,hl,hn,hv⟩:=hx;refine ⟨_,h,.ret hok (v:=.pointer (some ((⟨l.blk,off,none⟩:Addr).add (j*de.size)))) ?_ ?_ []⟩
     . simp only [execOp,hv,hiv]
       exact zak _ (by simp [Instr.indexAt,Instr.sureAddr,asIntOf,run_underlying hu,hsz,hj])
     . simp only [zad]
       exact ⟨l,hl,hn,by rw [Addr.add_mid];rfl⟩
   . exact h.elim
 . exact zpj hok hx hi h
end
end Go.HL
namespace Go.HL
open Go.RowKit (Below)
section
variable {Γ:Ctx} {P:Program} {m:zbj} {H:Nat->zaa} {w:World} {ρ:Operand->Value} {ev:Operand->HV} {dst:Option Tmp} {ty:TypeId} {pos:String} {after:Array Edge} {guard:Option (Nat×Bool)}
theorem World.rangeAt_of {b o:Nat} {cs:List Value} (h:∀ (k:Nat) v,cs[k]?=some v->w.cell? ⟨b,o+k,none⟩=some v):w.rangeAt b o cs:=fun j v hv=>h j v hv
theorem run_read {t:TypeId} {td:TyD} {u:TypeDesc} {i:TypeInfo} {z:Value} (ht:zgh P t td u i z) {b o:Nat} {cs:List Value} (hc:∀ (k:Nat) v,cs[k]?=some v->w.cell? ⟨b,o+k,none⟩=some v)
 (h:(zba td.k=true/\cs.length=td.size)\/(zba td.k=false/\cs.length=1)) :
 (Instr.loadAt t (.pointer (some ⟨b,o,none⟩))).run P w=.ok (if zba td.k then .agg cs.toArray else cs.headD undef) w:=by
 rcases h with ⟨ha,hl⟩ | ⟨ha,hl⟩
 . rw [run_loadAt_mid w b o t cs u (World.rangeAt_of hc) ht.und (by rw [<- zof,<- ht.kind];exact ha) (by rw [ht.info,zy18,hl,ht.size])]
   simp [ha]
 . match cs,hl with
   | [c],_ =>
    have:=hc 0 c zz1;simp [Instr.loadAt,Instr.sureAddr,loadVar,ht.isAgg,ha,show w.cell? ⟨b,o,none⟩=some c by simpa using this]
theorem zfb {R:Nat->Prop} {td:TyD} {cs:List HV} {off:Nat} {K:HV->Prop} {vs:List Value} (hr:zae m w R cs vs) (h:zei td cs off K) :
 ∃ (x:HV) (us:List Value),K x/\((zba td.k=true/\us.length=td.size)\/(zba td.k=false/\us.length=1))/\(∀ (k:Nat) v,us[k]?=some v->vs[off+k]?=some v) /\
  zad m w R x (if zba td.k then .agg us.toArray else us.headD undef):=by
 unfold zei at h;split at h
 . rename_i ha
   obtain ⟨hle,h⟩:=zab h;rw [zca,zff] at h;have hle:=zy2 hle;have hlen:=hr.length;have hul:((vs.drop off).take td.size).length=td.size:=by simp;omega
   have huv:∀ (k:Nat) v,((vs.drop off).take td.size)[k]?=some v->vs[off+k]?=some v:=by
    intro k v hv;rw [zy14] at hv;split at hv
    . rw [zy17] at hv;exact hv
    . cases hv
   refine ⟨_,(vs.drop off).take td.size,h,.inl ⟨ha,hul⟩,huv,?_⟩;simp only [ha,if_true,zad];refine ⟨_,rfl,zae.of_get (by simp [hlen]) fun k x v hx hv=>?_⟩;have hx':cs[off+k]?=some x:=by
    rw [zy14] at hx;split at hx
    . rw [zy17] at hx;exact hx
    . cases hx
   obtain ⟨v',hv',hrep⟩:=hr.get _ _ hx';have:=huv k v zz6;rw [hv'] at this;cases this;exact hrep
 . rename_i ha
   split at h
   . rename_i x hx
     rw [zce] at hx;rw [force_eq] at h;obtain ⟨v,hv,hrep⟩:=hr.get _ _ hx;refine ⟨x,[v],h,.inr ⟨ha,rfl⟩,fun k u hu=>?_,by simpa [ha] using hrep⟩;cases k with
     | zero=>simp at hu;subst hu;simpa using hv
     | succ k=>simp at hu
   . exact h.elim
theorem zls {R:Nat->Prop} {td:TyD} {cs:List PV} {off:Nat} {K:HV->Prop} {b o:Nat} (hr:zdl w R b o cs) (h:zct td cs off K) :
 ∃ (x:HV) (us:List Value),K x/\((zba td.k=true/\us.length=td.size)\/(zba td.k=false/\us.length=1))/\(∀ (k:Nat) v,us[k]?=some v->w.cell? ⟨b,o+off+k,none⟩=some v) /\
  zad m w R x (if zba td.k then .agg us.toArray else us.headD undef):=by
 unfold zct at h;split at h
 . rename_i ha
   obtain ⟨hle,h⟩:=zab h;rw [zbw,zff] at h;have hle:=zy2 hle
   let f:Nat->Value:=fun k=>(w.cell? ⟨b,o+(off+k),none⟩).getD undef
   have hf:∀ (k:Nat) x,cs[off+k]?=some x->w.cell? ⟨b,o+off+k,none⟩=some (f k)/\zcj w R x (f k):=by
    intro k x hx;obtain ⟨cv,hc,hp⟩:=hr _ _ hx;have:f k=cv:=by simp [f,hc]
    rw [this,zy60];exact ⟨hc,hp⟩
   have hget:∀ (k:Nat) v,((List.range td.size).map f)[k]?=some v->k<td.size/\v=f k:=by
    intro k v hv;rw [zy10] at hv;obtain ⟨j,hj,rfl⟩:=zy3.1 hv;rcases zy39 k td.size with hk | hk
    . rw [zy50 hk] at hj;cases hj;exact ⟨hk,rfl⟩
    . rw [zy24 (by simpa using hk)] at hj;cases hj
   refine ⟨_,(List.range td.size).map f,h,.inl ⟨ha,by simp⟩,fun k v hv=>?_,?_⟩
   . obtain ⟨hk,rfl⟩:=hget k v hv
     obtain ⟨x,hx⟩:∃ x,cs[off+k]?=some x:=⟨_,zy15 zz0⟩
     exact (hf k x hx).1
   . simp only [ha,if_true,zad]
     refine ⟨_,rfl,zae.of_get zz11 fun k x v hx hv=>?_⟩;obtain ⟨hk,rfl⟩:=hget k v zz6;rw [zy10] at hx;obtain ⟨y,hy,rfl⟩:=zy3.1 hx;rw [zy14] at hy;rw [zy11 hk,zy17] at hy;simp only [zad];exact (hf k y hy).2
 . rename_i ha
   have key:∀ y,nth cs off=some y->K (.p y)->∃ (x:HV) (us:List Value),K x/\((zba td.k=true/\us.length=td.size)\/(zba td.k=false/\us.length=1))/\(∀ (k:Nat) v,us[k]?=some v->w.cell? ⟨b,o+off+k,none⟩=some v) /\
    zad m w R x (if zba td.k then .agg us.toArray else us.headD undef):=by
    intro y hy hk;rw [zce] at hy;obtain ⟨cv,hc,hp⟩:=hr _ _ hy;refine ⟨_,[cv],hk,.inr ⟨ha,rfl⟩,fun k u hu=>?_,by rw [ha];simp only [zad];exact hp⟩;cases k with
    | zero=>simp at hu;subst hu;simpa using hc
    | succ k=>simp at hu
   split at h
   . rename_i x hx;exact key _ hx h
   . rename_i n r hx;exact key _ hx h
   . exact h.elim
theorem zun {K:Res->Prop} {C:zai} {d:Nat} {t:TypeId} {x:Operand} (hok:zag Γ m H w) (hx:zad m w (RR Γ m H w) (ev x) (ρ x)) (h:zat P C (.load t x) d ev H K) :
 ∃ r,K r/\OS Γ P m H w (execOp ρ ⟨dst,.load t x,ty,pos,after,guard⟩) r:=by
 simp only [zat] at h;obtain ⟨td,u,i,z,ht,h⟩:=zbf h;split at h
 . rename_i id off hxx
   rw [hxx] at hx;simp only [zad] at hx;obtain ⟨l,hl,hn,hv⟩:=hx;obtain ⟨b,hb,h⟩:=zan h;obtain ⟨l',hl',hbr⟩:=hok.blk hb;rw [hl] at hl';cases hl';split at h
   . rename_i t' cs
     obtain ⟨_,arr,harr,hrl⟩:=hbr;obtain ⟨y,us,hk,hus,huc,hrep⟩:=zfb hrl h;refine ⟨_,hk,.ret hok ?_ hrep _⟩;simp only [execOp,hv];refine zak _ (run_read ht (fun k v hkv=>?_) hus);rw [cell_of_row w l.blk _ arr t' (0,0) harr]
     simpa using huc k v hkv
   . exact h.elim
 . rename_i cs hxx
   rw [hxx] at hx;simp only [zad] at hx;obtain ⟨b,o,hv,_,hpc⟩:=hx;obtain ⟨y,us,hk,hus,huc,hrep⟩:=zls (m:=m) hpc h;refine ⟨_,hk,.ret hok ?_ hrep _⟩;simp only [execOp,hv];exact zak _ (run_read ht (fun k v hkv=>by simpa using huc k v hkv) hus)
 . rename_i id n i off hxx
   rw [hxx] at hx;simp only [zad] at hx;obtain ⟨l,hl,hn,hv⟩:=hx;obtain ⟨b,hb,h⟩:=zan h;obtain ⟨l',hl',hbr⟩:=hok.blk hb;rw [hl] at hl';cases hl';split at h
   . rename_i t' n' rows
     have h2:=zab h;clear h;obtain ⟨hnn,r,h0,hr,h⟩:=h2;have hnn:=zy0 hnn;subst hnn;have hpc:zdl w (RR Γ m H w) l.blk (i*n) r:=by
      intro k y hy;obtain ⟨cv,hc,hp⟩:=zdd hbr hn _ y (zaw hbr.2.1 zz19 hy);exact ⟨cv,by rw [<- hc];simp,hp⟩
     obtain ⟨y,us,hk,hus,huc,hrep⟩:=zls (m:=m) hpc h;refine ⟨_,hk,.ret hok ?_ hrep _⟩;simp only [execOp,hv];exact zak _ (run_read ht (fun k v hkv=>huc k v hkv) hus)
   . exact h.elim
 . exact h.elim
theorem zqd {id:Nat} {b:zcq} {x:HV} {K:Res->Prop} (h:zue (H id) id b x K):H id=.free/\K ⟨x,[(id,.live b)],[id]⟩:=by
 unfold zue at h;split at h
 . rename_i hf;exact ⟨hf,h⟩
 . exact h.elim
theorem OS.newCells (hok:zag Γ m H w) {id:Nat} (hf:H id=.free) {arr:Array Value} {t:TypeId} {cs:List HV} (hr:zae m w (RR Γ m H w) cs arr.toList) {x:Sem Next}
 (hx:x.run P w=.ok (.value (.pointer (some ⟨w.heap.size,0,none⟩))) (w.alloc (.cells arr t))):OS Γ P m H w x ⟨.ptr id 0,[(id,.live (.cells t cs))],[id]⟩:=by
 obtain ⟨m',hws,hm'⟩:=WS.new hok hf (arr:=arr) (t:=t) (b:=.cells t cs) (cap:=cs.length) (len:=cs.length) (fun m' R' hext hk=>⟨⟨rfl,rfl,rfl⟩,arr,heap_alloc_new w _,zae.mono hext hk _ _ hr⟩);refine ⟨_,_,m',.inl hx,hws,?_⟩;simp only [zad];exact ⟨_,hm',rfl,rfl⟩
theorem zso {K:Res->Prop} {C:zai} {d:Nat} {t:TypeId} (hok:zag Γ m H w) (h:zat P C (.alloc t) d ev H K) :
 ∃ r,K r/\OS Γ P m H w (execOp ρ ⟨dst,.alloc t,ty,pos,after,guard⟩) r:=by
 simp only [zat] at h;obtain ⟨td,u,i,z,ht,h⟩:=zbf h;obtain ⟨hall,h⟩:=zab h;obtain ⟨hf,h⟩:=zqd h;refine ⟨_,h,OS.newCells hok hf (arr:=z.cells) ?_ ?_⟩
 . rw [ht.zeros]
   refine zae.of_get zz1 fun k x v hx hv=>?_
   rw [zy10,hv] at hx;cases hx;refine zbd v ?_;rw [ht.zeros] at hall;exact zy19.1 hall v (zy22 hv)
 . simp only [execOp]
   exact zak _ (by simp [Instr.alloc,zeroValue,typeInfo,ht.info,ht.zero,newVar,newRow])
theorem zvt {K:Res->Prop} {C:zai} {d:Nat} {t:TypeId} {x:Operand} (hok:zag Γ m H w) (hx:zad m w (RR Γ m H w) (ev x) (ρ x)) (h:zat P C (.box t x) d ev H K) :
 ∃ r,K r/\OS Γ P m H w (execOp ρ ⟨dst,.box t x,ty,pos,after,guard⟩) r:=by
 simp only [zat,force_eq] at h;obtain ⟨h1,h⟩:=zab h;obtain ⟨hf,h⟩:=zqd h;refine ⟨_,h,OS.newCells hok hf (arr:=(ρ x).cells) (hx.cells h1) ?_⟩;simp only [execOp];exact zak _ (by simp [Instr.box,newVar,newRow])
def putAt (cs:Array Value) (off:Nat) (vs:List Value):Array Value:=(zhb cs.toList off vs).toArray
theorem zkq:∀ (vs:List Value) (cs:Array Value) (off j:Nat),off+j+vs.length<=cs.size ->
 (vs.zipIdx j).foldl (fun cs (p:Value×Nat)=>cs.setIfInBounds (off+p.2) p.1) cs=putAt cs (off+j) vs
 | [],cs,off,j,_=>by
  have:zhb cs.toList (off+j) []=cs.toList:=by
   apply zy40;intro k;rw [zcu,zy7 (by simp;omega)]
  simp [putAt,this]
 | v::vs,cs,off,j,h=>by
  simp only [List.zipIdx_cons,List.foldl_cons];rw [zkq vs _ off (j+1) (by simp at h ⊢;omega)];unfold putAt;congr 1;apply zy40;intro k;simp only [zcu,Array.toList_setIfInBounds,List.length_set,zy65,zy35,Array.length_toList] at *
  by_cases h1:off+(j+1)<=k/\k<off+(j+1)+vs.length/\k<cs.size
  . rw [zy11 h1,zy11 (by omega)]
    rw [show k-(off+j)=(k-(off+(j+1)))+1 by omega,zy52]
  . rw [zy7 h1]
    by_cases h2:off+j=k
    . subst h2;rw [zy11 rfl,zy11 (by omega),zy11 (by omega)];simp
    . rw [zy7 h2,zy7 (by omega)]
theorem znr {place:Nat->Option (Nat×Nat)} {cells:Array Value} {i:Nat} {v:Value} {rest:List (Nat×Value)} {off size:Nat} (hp:place i=some (off,size)) (hs:v.cells.size=size) (hle:off+size<=cells.size) :
 Instr.fill place cells ((i,v)::rest)=Instr.fill place (putAt cells off v.cells.toList) rest:=by
 have hc:¬ (v.cells.size≠size\/off+v.cells.size>cells.size):=by omega
 have:=zkq v.cells.toList cells off 0 zz11;simp only [zy38] at this
 conv=>lhs;unfold Instr.fill
 simp only [hp];rw [zy7 (by simpa using hc)];congr 1;rw [<- this,<- Array.foldl_toList];simp
theorem zss {K:Res->Prop} {C:zai} {d f:Nat} {t:TypeId} {x:Operand} (hok:zag Γ m H w) (hx:zad m w (RR Γ m H w) (ev x) (ρ x)) (h:zat P C (.field t x f) d ev H K) :
 ∃ r,K r/\OS Γ P m H w (execOp ρ ⟨dst,.field t x f,ty,pos,after,guard⟩) r:=by
 simp only [zat] at h;obtain ⟨td,u,i,z,ht,h⟩:=zbf h;split at h
 . rename_i fs hk
   obtain ⟨a,hu,hfs⟩:=ht.struct hk;split at h
   . rename_i o tf hn
     rw [zce,hfs,zy10] at hn;obtain ⟨fl,hfl,hfe⟩:=zy3.1 hn;simp only [Prod.mk.injEq] at hfe;obtain ⟨rfl,rfl⟩:=hfe;have hfl':a[f]?=some fl:=by simpa using hfl
     split at h
     . rename_i l hxx
       rw [hxx] at hx;simp only [zad] at hx;obtain ⟨arr,hv,hrl⟩:=hx;obtain ⟨tdf,uf,jf,zf,htf,h⟩:=zbf h;obtain ⟨y,us,hk2,hus,huc,hrep⟩:=zfb hrl h;refine ⟨_,hk2,.ret hok ?_ hrep _⟩;simp only [execOp,hv];refine zak _ ?_;have hpart:(part fl.type arr fl.offset).run P w=.ok (if zba tdf.k then .agg us.toArray else us.headD undef) w:=by
        unfold part;rw [Sem.run_bind,htf.isAgg w,Result.andThen_ok];rcases hus with ⟨ha,hl⟩ | ⟨ha,hl⟩
        . rw [ha]
          simp only [if_true];have hsz:(sizeOf fl.type).run P w=.ok tdf.size w:=by simp [sizeOf,typeInfo,htf.info,htf.size]
          simp only [Sem.run_bind,hsz,Result.andThen_ok,Sem.run_pure];congr 2;apply Array.ext';apply zy40;intro k;simp only [Array.toList_extract,List.extract_eq_take_drop,Nat.add_sub_cancel_left];rw [zy14];by_cases hk:k<tdf.size
          . rw [zy11 hk,zy17]
            have h1:=huc k (us[k]'zz0) (zy15 zz0);rw [h1,zy15 (by omega)]
          . rw [zy7 hk,zy24 (by omega)]
        . rw [ha]
          simp only [zy26,if_false]
          match us,hl with
          | [c],_ =>
           have h1:=huc 0 c rfl;simp only [zy38,zy42] at h1;simp [h1]
       simp [Instr.field,run_underlying hu,hfl',asAgg,hpart]
     . exact h.elim
   . exact h.elim
 . exact h.elim
end
end Go.HL
namespace Go.HL
open Go.RowKit (Below)
theorem zbx (cs:Array Value) (off:Nat) (vs:List Value):(putAt cs off vs).size=cs.size:=by simp [putAt,zbl]
theorem zbq (cs:Array Value) (off:Nat) (vs:List Value) (k:Nat):(putAt cs off vs)[k]?=if off<=k/\k<off+vs.length/\k<cs.size then vs[k-off]? else cs[k]?:=by
 simp [putAt,zcu]
theorem zbs (b:Nat):∀ (vs:List Value) (o:Nat) (w:World) (k:Nat),k≠b->(w.setCells b o vs).heap[k]?=w.heap[k]?
 | [],_,_,_,_=>rfl
 | v::r,o,w,k,h=>by rw [World.setCells,zbs b r (o+1) _ k h];exact Below.heap_setCell _ _ _ _ h
theorem zal (b:Nat):∀ (vs:List Value) (o:Nat) (w:World),(w.setCells b o vs).heap.size=w.heap.size/\(w.setCells b o vs).os=w.os/\(w.setCells b o vs).tape=w.tape/\(w.setCells b o vs).output=w.output
 | [],_,_=>⟨rfl,rfl,rfl,rfl⟩
 | v::r,o,w=>by
  obtain ⟨h1,h2,h3,h4⟩:=zal b r (o+1) (w.setCell ⟨b,o,none⟩ v);exact ⟨h1.trans zz1,h2,h3,h4⟩
theorem zbr (b:Nat) {t:TypeId} {f:Nat×Nat}:∀ (vs:List Value) (o:Nat) (w:World) (arr:Array Value),w.heap[b]?=some (.cells arr t f)->o+vs.length<=arr.size->(w.setCells b o vs).heap[b]?=some (.cells (putAt arr o vs) t f)
 | [],o,w,arr,h,_=>by
  have:putAt arr o []=arr:=by
   apply Array.ext_getElem?;intro k;rw [zbq,zy7 (by simp;omega)]
  rw [this];exact h
 | v::r,o,w,arr,h,hl=>by
  have h1:(w.setCell ⟨b,o,none⟩ v).heap[b]?=some (.cells (arr.setIfInBounds o v) t f):=by
   simp [World.setCell,zy55,h]
  rw [World.setCells,zbr b r (o+1) _ _ h1 (by simp at hl ⊢;omega)];congr 2;apply Array.ext_getElem?;intro k;rw [zbq,zbq];simp only [zy35,Array.size_setIfInBounds] at *
  by_cases hk:o+1<=k/\k<o+1+r.length/\k<arr.size
  . rw [zy11 hk,zy11 (by omega),show k-o=(k-(o+1))+1 by omega,zy52]
  . rw [zy7 hk,Array.getElem?_setIfInBounds]
    by_cases h2:o=k
    . subst h2;rw [zy11 rfl,zy11 (by omega),zy11 (by omega)];simp
    . rw [zy7 h2,zy7 (by omega)]
section
variable {Γ:Ctx} {P:Program} {m:zbj} {H:Nat->zaa} {w:World} {ρ:Operand->Value} {ev:Operand->HV} {dst:Option Tmp} {ty:TypeId} {pos:String} {after:Array Edge} {guard:Option (Nat×Bool)}
theorem zlw {t:TypeId} {td:TyD} {u:TypeDesc} {i:TypeInfo} {z:Value} (ht:zgh P t td u i z) {b o:Nat} {v:Value} {arr:Array Value} {t':TypeId} (harr:w.heap[b]?=some (.cells arr t' (0,0)))
 (hs:v.cells.size=td.size) (hle:o+td.size<=arr.size) (h1:∀ u∈v.cells.toList,u.oneCell'=true) :
 (Instr.storeAt t (.pointer (some ⟨b,o,none⟩)) v).run P w=.ok () (w.setCells b o v.cells.toList):=by
 have:=run_storeCells_cells (P:=P) b o v.cells.toList 0 w (fun j hj=>by
  rw [cell_of_row w b _ arr t' (0,0) harr,zy30 (by simp at hj;omega)];rfl) (fun j hj=>by simp [World.frozen?,harr]) h1
 simp only [zy38] at this;have hs':¬ v.cells.size≠i.size:=by rw [hs,ht.size];simp
 simp [Instr.storeAt,Instr.sureAddr,storeVar,sizeOf,typeInfo,ht.info,hs',this]
theorem zsw {K:Res->Prop} {C:zai} {d:Nat} {t:TypeId} {x y:Operand} (hok:zag Γ m H w) (hx:zad m w (RR Γ m H w) (ev x) (ρ x)) (hy:zad m w (RR Γ m H w) (ev y) (ρ y)) (h:zat P C (.store t x y) d ev H K) :
 ∃ r,K r/\OS Γ P m H w (execOp ρ ⟨dst,.store t x y,ty,pos,after,guard⟩) r:=by
 simp only [zat] at h;obtain ⟨td,u,i,z,ht,h⟩:=zbf h;split at h
 . rename_i id off hxx
   rw [hxx] at hx;simp only [zad] at hx;obtain ⟨l,hl,hn,hv⟩:=hx;split at h
   . rename_i t' cs hH
     rw [force_eq] at h;obtain ⟨hb,h⟩:=zab h;rw [zca] at h;simp only [zy1] at hb;obtain ⟨⟨h1,h2⟩,h3⟩:=hb;have h2:=zy0 h2;have h3:=zy2 h3;obtain ⟨l',hl',hbr,_⟩:=hok.live id _ hH;rw [hl] at hl';cases hl';obtain ⟨⟨_,hll,hlc⟩,arr,harr,hrl⟩:=hbr;have hyc:=hy.cells h1;have hlen:arr.size=cs.length:=by simpa using hrl.length
     have hyl:(ρ y).cells.size=td.size:=by have:=hyc.length;simp at this;omega
     have hone:=hyc.one h1;refine ⟨_,h,undef,_,m,.inr ⟨?_,rfl⟩,WS.set hok hH hl hn (w':=w.setCells l.blk off (ρ y).cells.toList) ?_ ?_ ?_ ?_ ?_ ?_,by simp only [zad]⟩
     . simp only [execOp,hv]
       rw [Sem.run_bind,zlw ht harr hyl (by omega) hone]
       rfl
     . exact (zal _ _ _ _).1
     . exact (zal _ _ _ _).2.1
     . exact (zal _ _ _ _).2.2.1
     . exact (zal _ _ _ _).2.2.2
     . exact fun k hk=>zbs _ _ _ _ _ hk
     . intro R' hk
       refine ⟨⟨hn,by rw [hll,zbl],by rw [hlc,zbl]⟩,putAt arr off (ρ y).cells.toList,zbr _ _ _ _ _ harr zz11,zae.of_get (by simp [zbx,zbl,hlen]) fun k q v hq hv=>?_⟩;rw [zcu] at hq;have hv:(putAt arr off (ρ y).cells.toList)[k]?=some v:=by simpa using hv
       rw [zbq] at hv;by_cases hc:off<=k/\k<off+(zbi (ev y)).length/\k<cs.length
       . rw [zy11 hc] at hq
         rw [zy11 (by simp;omega)] at hv;obtain ⟨v',hv',hrep⟩:=hyc.get _ _ hq;rw [hv'] at hv;cases hv;exact zad.mono (.refl m) hk _ _ hrep
       . rw [zy7 hc] at hq
         rw [zy7 (by simp;omega)] at hv;obtain ⟨v',hv',hrep⟩:=hrl.get _ _ hq;have:arr[k]?=some v':=by simpa using hv'
         rw [this] at hv;cases hv;exact zad.mono (.refl m) hk _ _ hrep
   . exact h.elim
 . rename_i id n' i' off hxx
   rw [hxx] at hx;simp only [zad] at hx;obtain ⟨l,hl,hn,hv⟩:=hx;split at h
   . rename_i t' n rows hH
     have hx2:=zab h;clear h;obtain ⟨h1y,h⟩:=hx2;obtain ⟨vs,us,hK,hfz,hvs⟩:=zmr hok (hy.cells h1y) h;clear h;obtain ⟨r,hr0,hr,h⟩:=hK;have hx2:=zab h;clear h;obtain ⟨hb,h⟩:=hx2;rw [zbw] at h;simp only [zy1] at hb;obtain ⟨⟨⟨hnn,h2⟩,h3⟩,h4⟩:=hb;have hnn:=zy0 hnn;subst hnn;have h2:=zy0 h2;have h3:=zy2 h3;have h4:us=[]:=by simpa using h4
     subst h4;simp only [zbb] at hvs;have hr:rows[i']?=some r:=by simpa using hr
     obtain ⟨l',hl',hbr,_⟩:=hok.live id _ hH;rw [hl] at hl';cases hl';obtain ⟨hbl,hlens,hb3⟩:=hbr;rcases hb3 with ⟨hn',_⟩ | ⟨_,hc1,hc2,arr,harr,hsz,hcell⟩
     . rw [hn] at hn';cases hn'
     have hrl:r.length=n:=hlens r (zy22 hr);have hi':i'<rows.length:=(zy8.1 hr).1;have hvl:=hvs.length;have hin:i'*n+n<=rows.length*n:=by
      have:=zy28 n (show i'+1<=rows.length by omega);rw [zy12] at this;omega
     have hcn:rows.length*n<=arr.size:=by rw [hsz];exact zy28 n hc1
     have hyl:(ρ y).cells.size=td.size:=by simp at hvl;omega
     refine ⟨_,h,undef,_,m,.inr ⟨?_,rfl⟩,WS.set hok hH hl hn (w':=w.setCells l.blk (i'*n+off) (ρ y).cells.toList) ?_ ?_ ?_ ?_ ?_ ?_,by simp only [zad]⟩
     . simp only [execOp,hv]
       rw [Sem.run_bind,zlw ht harr hyl (by omega) hvs.one]
       rfl
     . exact (zal _ _ _ _).1
     . exact (zal _ _ _ _).2.1
     . exact (zal _ _ _ _).2.2.1
     . exact (zal _ _ _ _).2.2.2
     . exact fun k hk=>zbs _ _ _ _ _ hk
     . intro R' hk
       have hrl':(zhb r off vs).length=n:=by rw [zbl,hrl]
       have hlens':∀ q∈rows.set i' (zhb r off vs),q.length=n:=by
        intro q hq;rcases List.mem_or_eq_of_mem_set hq with hq | hq
        . exact hlens q hq
        . rw [hq,hrl']
       refine ⟨by simp [hbl],hlens',.inr ⟨hn,by simpa using hc1,hc2,putAt arr (i'*n+off) (ρ y).cells.toList,zbr _ _ _ _ _ harr zz11,by rw [zbx,hsz],fun k q hq=>?_⟩⟩;obtain ⟨i2,j,r2,rfl,hj,hr2,hx2⟩:=zbm hlens' hq;rw [zbq];by_cases hii:i2=i'
       . subst hii
         rw [zy65,zy11 rfl,zy11 hi'] at hr2;cases hr2;rw [zcu] at hx2;by_cases hc:off<=j/\j<off+vs.length/\j<r.length
         . rw [zy11 hc] at hx2
           obtain ⟨v',hv',hp⟩:=hvs.get _ _ hx2;rw [zy11 (by simp;omega)];exact ⟨v',by rw [<- hv'];congr 1;omega,hp.mono hk⟩
         . rw [zy7 hc] at hx2
           obtain ⟨cv,hcv,hp⟩:=hcell _ _ (zaw hlens hr hx2);rw [zy7 (by simp;omega)];exact ⟨cv,hcv,hp.mono hk⟩
       . rw [zy65,zy7 (fun e=>hii e.symm)] at hr2
         obtain ⟨cv,hcv,hp⟩:=hcell _ _ (zaw hlens hr2 hx2);have hne:¬ (i'*n+off<=i2*n+j/\i2*n+j<i'*n+off+(ρ y).cells.toList.length/\i2*n+j<arr.size):=by
          rintro ⟨a1,a2,_⟩;simp at a2;rcases Nat.lt_or_gt_of_ne hii with hlt | hlt
          . have:=zy28 n (show i2+1<=i' by omega)
            rw [zy12] at this;omega
          . have:=zy28 n (show i'+1<=i2 by omega)
            rw [zy12] at this;omega
         rw [zy7 hne];exact ⟨cv,hcv,hp.mono hk⟩
   . exact h.elim
 . exact h.elim
end
end Go.HL
namespace Go.HL
open Go.RowKit (Below)
section
variable {Γ:Ctx} {P:Program} {m:zbj} {H:Nat->zaa} {w:World} {ρ:Operand->Value} {ev:Operand->HV} {dst:Option Tmp} {ty:TypeId} {pos:String} {after:Array Edge} {guard:Option (Nat×Bool)}
theorem zhz {R:Nat->Prop} {fs:Array Field} {place:Nat->Option (Nat×Nat)}:∀ (ps:List (Nat×Operand)) (cs _:List HV) (arr:Array Value) (K:List HV->Prop),
 zgp P (fs.toList.map fun f=>(f.offset,f.type)) (ps.map fun x=>(x.1,ev x.2)) cs K->zae m w R cs arr.toList->(∀ x∈ps,zad m w R (ev x.2) (ρ x.2)) ->
 (∀ i f,fs[i]?=some f->∃ inf,P.info? f.type=some inf->place i=some (f.offset,inf.size))->(∀ i f inf,fs[i]?=some f->P.info? f.type=some inf->place i=some (f.offset,inf.size)) ->
 ∃ l out,K l/\Instr.fill place arr (ps.map fun x=>(x.1,ρ x.2))=some out/\zae m w R l out.toList
 | [],cs,l,arr,K,h,hr,hx,hp,hp2=>⟨cs,arr,h,by simp [Instr.fill],hr⟩
 | (i,x)::ps,cs,l,arr,K,h,hr,hx,hp,hp2=>by
  simp only [zy13,zgp] at h;split at h
  . rename_i off tf hn
    rw [zce,zy10] at hn;obtain ⟨fl,hfl,hfe⟩:=zy3.1 hn;simp only [Prod.mk.injEq] at hfe;obtain ⟨rfl,rfl⟩:=hfe;have hfl':fs[i]?=some fl:=by simpa using hfl
    have hx2:=zab h;clear h;obtain ⟨hb,h⟩:=hx2;simp only [zy1,zy58] at hb;obtain ⟨⟨h1,h2⟩,h3⟩:=hb;have h3:=zy2 h3;cases hi:P.info? fl.type with
    | none=>simp [hi] at h2
    | some inf =>
     have h2':inf.size=(zbi (ev x)).length:=by simpa [hi] using h2
     have h2:=h2'.symm;have hxc:=(hx (i,x) zz1).cells h1;have hlen:arr.size=cs.length:=by simpa using hr.length
     have hxl:(ρ x).cells.size=inf.size:=by have:=hxc.length;simp at this;omega
     simp only [zy13];rw [znr (hp2 i fl inf hfl' hi) hxl (by omega)];refine zhz ps _ l _ K h (zae.of_get (by simp [zbx,zbl,hlen]) fun k q v hq hv=>?_) (fun y hy=>hx y zz16) hp hp2;rw [zcu] at hq;have hv:(putAt arr fl.offset (ρ x).cells.toList)[k]?=some v:=by simpa using hv
     rw [zbq] at hv;by_cases hc:fl.offset<=k/\k<fl.offset+(zbi (ev x)).length/\k<cs.length
     . rw [zy11 hc] at hq
       rw [zy11 (by simp;omega)] at hv;obtain ⟨v',hv',hrep⟩:=hxc.get _ _ hq;rw [hv'] at hv;cases hv;exact hrep
     . rw [zy7 hc] at hq
       rw [zy7 (by simp;omega)] at hv;obtain ⟨v',hv',hrep⟩:=hr.get _ _ hq;have:arr[k]?=some v':=by simpa using hv'
       rw [this] at hv;cases hv;exact hrep
  . exact h.elim
theorem zna (fs:List Field) (h:∀ f∈fs,(P.info? f.type).isSome=true) :
 (fs.mapM (m:=Sem) fun f=>do pure (f.offset,<- sizeOf f.type)).run P w=.ok (fs.map fun f=>(f.offset,((P.info? f.type).map (·.size)).getD 0)) w:=by
 induction fs with
 | nil=>simp
 | cons f fs ih =>
  have hf:=h f zz1;cases hi:P.info? f.type with
  | none=>simp [hi] at hf
  | some inf =>
   have ih':=ih (fun g hg=>h g (by simp [hg]));have hs:(sizeOf f.type).run P w=.ok inf.size w:=by simp [sizeOf,typeInfo,hi]
   rw [List.mapM_cons];simp only [Sem.run_bind,hs,Result.andThen_ok,Sem.run_pure,zy13,hi,zy18,Option.getD_some];rw [ih']
   rfl
theorem zsp {K:Res->Prop} {C:zai} {d:Nat} {t:TypeId} {ps:Array (Nat×Operand)} (hok:zag Γ m H w) (hx:∀ x∈ps.toList,zad m w (RR Γ m H w) (ev x.2) (ρ x.2)) (h:zat P C (.build t ps) d ev H K) :
 ∃ r,K r/\OS Γ P m H w (execOp ρ ⟨dst,.build t ps,ty,pos,after,guard⟩) r:=by
 simp only [zat] at h;obtain ⟨td,u,i,z,ht,h⟩:=zbf h;split at h
 . rename_i fs hk
   obtain ⟨a,hu,rfl⟩:=ht.struct hk;obtain ⟨hall,h⟩:=zab h;simp only [zy1] at hall;obtain ⟨hall,hinf⟩:=hall;have hinf':∀ f∈a.toList,(P.info? f.type).isSome=true:=by
    intro f hf;exact zy19.1 hinf (f.offset,f.type) (zy4.2 ⟨f,hf,rfl⟩)
   have hz:zae m w (RR Γ m H w) (td.zero.map fun v=>.p (.v v)) z.cells.toList:=by
    exact yy21
   obtain ⟨l,out,hK,hfill,hrep⟩:=zhz (ρ:=ρ) (place:=fun j=>((a.toList.map fun f=>(f.offset,((P.info? f.type).map (·.size)).getD 0)).toArray)[j]?) ps.toList _ [] z.cells _ h hz hx
    (fun i f hf=>by
     cases hi:P.info? f.type with
     | none=>exact ⟨default,fun h=>by cases h⟩
     | some inf=>exact ⟨inf,fun _=>by simp [hf,hi]⟩) (fun i f inf hf hi=>by simp [hf,hi])
   rw [zca] at hK;obtain ⟨_,hK⟩:=zab hK;refine ⟨_,hK,.ret hok (v:=.agg out) ?_ zz13 []⟩;simp only [execOp];refine zak _ ?_;have hm:(a.mapM (m:=Sem) fun f=>do pure (f.offset,<- sizeOf f.type)).run P w=.ok (a.toList.map fun f=>(f.offset,((P.info? f.type).map (·.size)).getD 0)).toArray w:=by
    have:=zna (P:=P) (w:=w) a.toList hinf';rw [<- zy16 (xs:=a),List.mapM_toArray,Sem.run_map,this];simp
   have hfl:Instr.fill (fun x=>((a.toList.map fun f=>(f.offset,((P.info? f.type).map (·.size)).getD 0)).toArray)[x]?) z.cells (ps.map fun x=>(x.1,ρ x.2)).toList=some out:=by simpa using hfill
   simp only [Instr.build,zeroValue,typeInfo,Sem.run_bind,run_program,Result.andThen_ok,ht.info,Sem.run_pure,ht.zero,run_underlying hu,hm];rw [hfl]
   rfl
 . rename_i n e hk
   have hu:=ht.und;have hku:=ht.kind.symm.trans hk;have hq:=zbf h;clear h;obtain ⟨de,ue,ie,ze,hte,h⟩:=hq;obtain ⟨hall,h⟩:=zab h;have hu2:∃ n',P.underlying t=some (.array n' e):=by
    cases u<;>simp [zcn] at hku
    exact ⟨_,by rw [hu,hku.2]⟩
   obtain ⟨n',hu2⟩:=hu2;have hz:zae m w (RR Γ m H w) (td.zero.map fun v=>.p (.v v)) z.cells.toList:=by
    exact yy21
   let fs:Array Field:=((List.range n).map fun i=>({(default:Field) with type:=e,offset:=Nat.mul i de.size}:Field)).toArray
   have hfs:(fs.toList.map fun f=>(f.offset,f.type))=((List.range n).map fun i=>(Nat.mul i de.size,e)):=by simp [fs]
   rw [<- hfs] at h;have hpl:∀ (i:Nat) (f:Field) (inf:TypeInfo),fs[i]?=some f->P.info? f.type=some inf->some (Nat.mul i ie.size,ie.size)=some (f.offset,inf.size):=by
    intro i f inf hf hinf;have:f={(default:Field) with type:=e,offset:=Nat.mul i de.size}:=by
     simp only [fs,List.getElem?_toArray,zy10] at hf;obtain ⟨j,hj,rfl⟩:=zy3.1 hf;rw [zy50] at hj
     . cases hj;rfl
     . rcases zy39 i n with h1 | h1
       . exact h1
       . rw [zy24 (by simpa using h1)] at hj;cases hj
    subst this;rw [hte.info] at hinf;cases hinf;rw [<- hte.size]
   obtain ⟨l,out,hK,hfill,hrep⟩:=zhz (ρ:=ρ) (fs:=fs) (place:=fun j=>some (Nat.mul j ie.size,ie.size)) ps.toList _ [] z.cells _ h hz hx
    (fun i f hf=>by
     cases hi:P.info? f.type with
     | none=>exact ⟨default,fun h=>by cases h⟩
     | some inf=>exact ⟨inf,fun _=>hpl i f inf hf hi⟩) (fun i f inf hf hi=>hpl i f inf hf hi)
   rw [zca] at hK;obtain ⟨_,hK⟩:=zab hK;refine ⟨_,hK,.ret hok (v:=.agg out) ?_ zz13 []⟩;simp only [execOp];refine zak _ ?_;have hfl:Instr.fill (fun x=>some (x*ie.size,ie.size)) z.cells (ps.map fun x=>(x.1,ρ x.2)).toList=some out:=by simpa using hfill
   simp only [Instr.build,zeroValue,typeInfo,sizeOf,Sem.run_bind,run_program,Result.andThen_ok,ht.info,hte.info,Sem.run_pure,ht.zero,run_underlying hu2];rw [hfl]
   rfl
 . exact h.elim
end
end Go.HL
namespace Go.HL
open Go.RowKit (Below)
section
variable {Γ:Ctx} {P:Program} {m:zbj} {H:Nat->zaa} {w:World} {ρ:Operand->Value} {ev:Operand->HV} {dst:Option Tmp} {ty:TypeId} {pos:String} {after:Array Edge} {guard:Option (Nat×Bool)}
theorem WS.allocAny (hok:zag Γ m H w) (o:Obj):WS Γ H m w H m (w.alloc o):=by
 have hold:∀ k,k<w.heap.size->(w.alloc o).heap[k]?=w.heap[k]?:=fun k hk=>Below.heap_alloc w _ k hk
 have hkeep:∀ k,RR Γ m H w k->(w.alloc o).heap[k]?=w.heap[k]?/\RR Γ m H (w.alloc o) k:=fun k hk=>⟨hold k hk.2.1,hk.1,by have:=hk.2.1;simp;omega,hk.2.2⟩
 refine ⟨.refl m,⟨zy63 hok.size zz1,hok.os,hok.tape,hok.output,fun k hk hn=>(hold k (zy32 hk hok.size)).trans (hok.frame k hk hn),hok.free,?_,?_,hok.inj,hok.dom⟩,hkeep⟩
 . intro i b hi
   obtain ⟨l,h1,h2,h3⟩:=hok.live i b hi;exact ⟨l,h1,h2.mono (.refl m) hkeep fun hn=>hold _ (h3 hn).2,fun hn=>⟨(h3 hn).1,by have:=(h3 hn).2;simp;omega⟩⟩
 . intro i b hi
   obtain ⟨l,h1,h2,h3⟩:=hok.ro i b hi;exact ⟨l,h1,h2.mono (.refl m) hkeep fun hn=>(hkeep _ (h3 hn)).1,fun hn=>(hkeep _ (h3 hn)).2⟩
theorem zkb (hok:zag Γ m H w) (o:Obj):RR Γ m H (w.alloc o) w.heap.size:=by
 refine ⟨.inr hok.size,by simp,?_⟩;rintro ⟨i,l,b,h1,h2,h3,h4⟩;obtain ⟨l',h5,_,h6⟩:=hok.live i b h1;rw [h2] at h5;cases h5;have:=(h6 h3).2;omega
theorem zkp (sz:Nat):∀ (ps:List (Nat×Value)) (k:Nat) (arr:Array Value),(∀ i p,ps[i]?=some p->p.1=k+i/\p.2.cells.size=sz)->(k+ps.length)*sz<=arr.size ->
 ∃ out,Instr.fill (fun i=>some (i*sz,sz)) arr ps=some out/\out.size=arr.size/\(∀ q,q<k*sz->out[q]?=arr[q]?)/\∀ i p,ps[i]?=some p->∀ j,j<sz->out[(k+i)*sz+j]?=p.2.cells[j]?
 | [],k,arr,_,_=>⟨arr,rfl,rfl,fun _ _=>rfl,fun i p h=>by simp at h⟩
 | (i0,v)::ps,k,arr,h,hle=>by
  have h0:=h 0 (i0,v) zz1;simp only [zy38] at h0;obtain ⟨rfl,hv⟩:=h0;have hk1:i0*sz+sz<=arr.size:=by
   have:=zy28 sz (show i0+1<=i0+((i0,v)::ps).length by simp);rw [zy12] at this;omega
  rw [znr rfl hv hk1];obtain ⟨out,h1,h2,h3,h4⟩:=zkp sz ps (i0+1) (putAt arr (i0*sz) v.cells.toList) (fun i p hp=>by have:=h (i+1) p (by simpa using hp);omega) (by rw [zbx];simp at hle;rw [show i0+1+ps.length=i0+(ps.length+1) by omega];exact hle);refine ⟨out,h1,by rw [h2,zbx],fun q hq=>?_,fun i p hp j hj=>?_⟩
  . rw [h3 q (by rw [zy12];omega),zbq,zy7 zz0]
  . cases i with
    | zero =>
     simp at hp;subst hp;rw [zy38,h3 _ (by rw [zy12];omega),zbq,zy11 zz11];simp
    | succ i =>
     have:=h4 i p (by simpa using hp) j hj
     rwa [show i0+1+i=i0+(i+1) by omega] at this
theorem zob:∀ (ps:List (Nat×Operand)) (k:Nat),zsj k ps=true->∀ i p,ps[i]?=some p->p.1=k+i
 | [],k,_,i,p,h=>by simp at h
 | (i0,x)::ps,k,hh,i,p,h=>by
  simp only [zsj,zy1] at hh;cases i with
  | zero=>simp at h;subst h;exact zy0 hh.1
  | succ i=>have:=zob ps (k+1) hh.2 i p zz21;omega
theorem zoi (hok:zag Γ m H w) {os:List (Option Nat)} {n:Nat}:∀ {xs:List HV} {vs:List Value} {K:List (List PV)->List (Nat×zaa)->Prop},zae m w (RR Γ m H w) xs vs->zin H os n xs K ->
 ∃ rows us,K rows us/\Frz H us/\rows.length=xs.length/\(∀ r∈rows,r.length=n)/\∀ (i:Nat) r,rows[i]?=some r->∃ v,vs[i]?=some v/\v.cells.size=n/\zbg w (RR Γ m (zbb H us) w) r v.cells.toList
 | [],vs,K,hx,h=>by simp only [zae] at hx;subst hx;exact ⟨[],[],h,zz20,rfl,by simp,fun i r hr=>by simp at hr⟩
 | x::xs,vs,K,hx,h=>by
  simp only [zae] at hx;obtain ⟨v,r,rfl,h1,h2⟩:=hx;simp only [zin] at h;have hx2:=zab h;clear h;obtain ⟨h1x,h⟩:=hx2;obtain ⟨ys,u,hK,hf,hp⟩:=zmr hok (h1.cells h1x) h;clear h;obtain ⟨hyn,hK⟩:=zab hK;have hyn:=zy0 hyn;obtain ⟨rows,us,hK2,hf2,hlen,hlens,zdb⟩:=zoi hok h2 hK;have hall:Frz H (u++us):=hf.append hf2;have hkeep:∀ (a b:List (Nat×zaa)),Frz H a->Frz H b->(∀ e∈a,e∈b)->∀ k,RR Γ m (zbb H a) w k->w.heap[k]?=w.heap[k]?/\RR Γ m (zbb H b) w k:=by
   intro a b ha hb hab k hk;refine ⟨rfl,hk.1,hk.2.1,?_⟩;rintro ⟨i,l,blk,hi1,hi2,hi3,hi4⟩;refine hk.2.2 ⟨i,l,blk,?_,hi2,hi3,hi4⟩;obtain ⟨hHi,hnb⟩:=zrw hb hi1;exact zks ha (fun e he hei=>hnb e (hab e he) hei) ▸ hHi
  have hvs:v.cells.size=n:=by have:=hp.length;simp at this;omega
  refine ⟨_,_,hK2,hall,by simp [hlen],by intro q hq;rcases zy9.1 hq with rfl | hq;exact hyn;exact hlens q hq,fun i q hq=>?_⟩;cases i with
  | zero=>simp at hq;subst hq;exact ⟨v,by simp,hvs,hp.mono (hkeep u (u++us) hf hall fun e he=>zy6.2 (.inl he))⟩
  | succ i =>
   obtain ⟨v',hv',hs,hp'⟩:=zdb i q (by simpa using hq);exact ⟨v',by simpa using hv',hs,hp'.mono (hkeep us (u++us) hf2 hall fun e he=>zy6.2 (.inr he))⟩
theorem OS.newRow (hok:zag Γ m H w) {us:List (Nat×zaa)} (hfz:Frz H us) {id:Nat} (hf:H id=.free) {arr:Array Value} {t:TypeId} {n cap:Nat} {rows:List (List PV)} (hlens:∀ r∈rows,r.length=n)
 (hle:rows.length<=cap) (hm:cap<=maxLen) (hsz:arr.size=cap*n) (hr:∀ (k:Nat) x,rows.flatten[k]?=some x->∃ cv,arr[k]?=some cv/\zcj w (RR Γ m (zbb H us) w) x cv) {x:Sem Next}
 (tch:List Nat) (hx:x.run P w=.ok (.value (.slice (some ⟨w.heap.size,0,none⟩) rows.length cap)) (w.alloc (.cells arr t))):OS Γ P m H w x ⟨.own id,us++[(id,.live (.row t n rows))],tch⟩:=by
 have hws0:=WS.frz hok hfz;have hf':zbb H us id=.free:=by
  rw [<- hf];refine zks hfz fun e he hei=>?_
  obtain ⟨b,hb,_⟩:=hfz e he;rw [hei,hf] at hb;rcases hb with hb | hb<;>cases hb
 obtain ⟨m',hws,hm'⟩:=WS.new hws0.ok hf' (arr:=arr) (t:=t) (b:=.row t n rows) (cap:=cap) (len:=rows.length) (fun m' R' hext hk =>
  ⟨rfl,hlens,.inr ⟨rfl,hle,hm,arr,heap_alloc_new w _,hsz,fun k y hy=>by
   obtain ⟨cv,h1,h2⟩:=hr k y hy;exact ⟨cv,h1,h2.mono hk⟩⟩⟩)
 refine ⟨_,_,m',.inl hx,?_,?_⟩
 . rw [zeq];exact hws0.trans hws
 . simp only [zad]
   exact ⟨_,hm',by simp [hdr]⟩
theorem zkc {K:Res->Prop} {C:zai} {d n:Nat} {t:TypeId} {ps:Array (Nat×Operand)} (hok:zag Γ m H w) (hx:∀ x∈ps.toList,zad m w (RR Γ m H w) (ev x.2) (ρ x.2)) (h:zat P C (.buildSlice t n ps) d ev H K) :
 ∃ r,K r/\OS Γ P m H w (execOp ρ ⟨dst,.buildSlice t n ps,ty,pos,after,guard⟩) r:=by
 simp only [zat] at h;obtain ⟨e,de,u,i,z,hu,ht,h⟩:=zbe h;have hx2:=zab h;clear h;obtain ⟨hb,h⟩:=hx2;simp only [zy1] at hb;obtain ⟨⟨⟨hn,hord⟩,h24⟩,hpos⟩:=hb;have hn:=zy0 hn;have h24:=zy2 h24;have hpos:0<de.size:=zy2 hpos;have hvals:zae m w (RR Γ m H w) (ps.toList.map fun x=>ev x.2) (ps.toList.map fun x=>ρ x.2):=by
  refine zae.of_get zz1 fun k x v hxk hvk=>?_
  rw [zy10] at hxk hvk;obtain ⟨p,hp,rfl⟩:=zy3.1 hxk;rw [hp] at hvk;cases hvk;exact hx p (zy22 hp)
 obtain ⟨rows,us,hK,hfz,hlen,hlens,zdb⟩:=zoi hok hvals h;clear h;split at hK
 . rename_i hfree
   have hlen':rows.length=n:=by rw [hlen];simpa using hn
   let zr:Array Value:=if n*de.size=0 then #[] else z.cells
   obtain ⟨out,h1,h2,h3,h4⟩:=zkp de.size (ps.toList.map fun x=>(x.1,ρ x.2)) 0 ((Array.range (n*de.size)).map (zr[· % zr.size]!)) (fun i p hp=>by
    rw [zy10] at hp;obtain ⟨q,hq,rfl⟩:=zy3.1 hp;refine ⟨zob _ _ hord i q hq,?_⟩;have hi:i<rows.length:=by have:=(zy8.1 hq).1;simp at hlen;simp at this;omega
    obtain ⟨v,hv,hs,_⟩:=zdb i _ (zy15 hi);rw [zy10,hq] at hv;cases hv;exact hs) (by simp [<- hn])
   refine ⟨_,hK,OS.newRow hok hfz hfree (arr:=out) hlens (cap:=n) zz0 ?_ (by rw [h2];simp) ?_ _ ?_⟩
   . simp only [maxLen]
     have:n<=n*de.size:=Nat.le_mul_of_pos_right n hpos;omega
   . intro k y hy
     obtain ⟨i,j,r,rfl,hj,hr,hxx⟩:=zbm hlens hy;obtain ⟨v,hv,hs,hp⟩:=zdb i r hr;rw [zy10] at hv;obtain ⟨q,hq,rfl⟩:=zy3.1 hv;obtain ⟨cv,hcv,hp'⟩:=hp.get j y hxx;have:=h4 i (q.1,ρ q.2) (by rw [zy10,hq];rfl) j hj;rw [zy25] at this;exact ⟨cv,by rw [this];simpa using hcv,hp'⟩
   . simp only [execOp]
     refine zak _ ?_;have hsz:∀ W:World,(sizeOf e).run P W=.ok de.size W:=fun W=>by simp [sizeOf,typeInfo,ht.info,ht.size]
     have hng:¬ (n*de.size>2 ^ 24):=by omega
     have hfl:Instr.fill (fun i=>some (i*de.size,de.size)) ((Array.range (n*de.size)).map (zr[· % zr.size]!)) (ps.map fun x=>(x.1,ρ x.2)).toList=some out:=by simpa using h1
     simp only [Instr.buildSlice,Sem.run_bind,run_underlying hu,Result.andThen_ok,hsz,hng,if_false];by_cases h0:n*de.size=0
     . have hz0:zr=#[]:=by simp [zr,h0]
       rw [hz0] at hfl;rw [zy11 h0];simp only [Sem.run_bind,Sem.run_pure,Result.andThen_ok];rw [hfl];simp [Go.newRow,hlen']
     . have hz0:zr=z.cells:=by simp [zr,h0]
       rw [hz0] at hfl;rw [zy7 h0];simp only [Sem.run_bind,zeroValue,typeInfo,run_program,Result.andThen_ok,ht.info,ht.zero,Sem.run_pure];rw [hfl];simp [Go.newRow,hlen']
 . exact hK.elim
end
end Go.HL
namespace Go.HL
open Go.RowKit (Below)
section
variable {Γ:Ctx} {P:Program} {m:zbj} {H:Nat->zaa} {w:World} {ρ:Operand->Value} {ev:Operand->HV} {dst:Option Tmp} {ty:TypeId} {pos:String} {after:Array Edge} {guard:Option (Nat×Bool)}
theorem zje {t e:TypeId} {de:TyD} {u:TypeDesc} {i:TypeInfo} {z:Value} (hu:P.underlying t=some (.slice e)) (ht:zgh P e de u i z) (a:Option Addr) (len cap:Nat) (lo hi:Option Value) (l h:Int)
 (hlo:(lo=none/\l=0)\/∃ k,lo=some (.int k l)) (hhi:(hi=none/\h=len)\/∃ k,hi=some (.int k h)) (h0:0<=l) (h1:l<=h) (h2:h<=cap) (_:len<=cap) :
 (Instr.sliceAt t (.slice a len cap) lo hi none).run P w=.ok (sliced a l.toNat h.toNat cap de.size) w:=by
 have he:P.elem t=e:=by simp [Program.elem,hu]
 have hu':P.underlying t=some (.slice (P.elem t)):=by rw [he];exact hu
 have hsz:(sizeOf (P.elem t)).run P w=.ok de.size w:=by rw [he];simp [sizeOf,typeInfo,ht.info,ht.size]
 rw [run_sliceAt_slice w t _ lo hi none hu'];rcases hlo with ⟨rfl,rfl⟩ | ⟨k,rfl⟩<;>rcases hhi with ⟨rfl,rfl⟩ | ⟨k',rfl⟩
 . rw [run_slice_all w t a len cap hu',hsz];rfl
 . rw [run_slice_h w t a len cap hu' k' h (by omega) (by omega),hsz];rfl
 . rw [run_slice_l w t a len cap hu' k l h0 (by omega),hsz];rfl
 . rw [run_slice_lh w t a len cap hu' k k' l h h0 h1 (by omega),hsz];rfl
theorem zqx {K:Res->Prop} {t e:TypeId} {de:TyD} {u:TypeDesc} {i:TypeInfo} {z:Value} (hu:P.underlying t=some (.slice e)) (ht:zgh P e de u i z) {x:Operand} {lo hi:Option Operand} (hok:zag Γ m H w) (hx:zad m w (RR Γ m H w) (ev x) (ρ x))
 (hlo:∀ y,lo=some y->zad m w (RR Γ m H w) (ev y) (ρ y)) (hhi:∀ y,hi=some y->zad m w (RR Γ m H w) (ev y) (ρ y)) (h:zex (ev x) H de.size (lo.map ev) (hi.map ev) K) :
 ∃ r,K r/\OS Γ P m H w (execOp ρ ⟨dst,.slice t x lo hi none,ty,pos,after,guard⟩) r:=by
 unfold zex at h;obtain ⟨n,rows,ids,hK,hs⟩:=zew hok hx h;clear h;obtain ⟨a,c,hv,hle,hm,hcell⟩:=hs.out
 -- the bounds
 have main:∀ (l hh:Int),((lo.map ρ=none/\l=0)\/∃ k,lo.map ρ=some (.int k l))->((hi.map ρ=none/\hh=rows.length)\/∃ k,hi.map ρ=some (.int k hh)) ->
  zho (ev x) H de.size K rows.length l hh->∃ r,K r/\OS Γ P m H w (execOp ρ ⟨dst,.slice t x lo hi none,ty,pos,after,guard⟩) r:=by
  intro l hh e1 e2 hob;obtain ⟨⟨h0,h1,h2⟩,hob⟩:=hob;have zbh:(execOp ρ ⟨dst,.slice t x lo hi none,ty,pos,after,guard⟩).run P w=.ok (.value (sliced a l.toNat hh.toNat c de.size)) w:=by
   simp only [execOp,hv];exact zak _ (zje hu ht a rows.length c _ _ l hh e1 e2 h0 h1 zz0 hle)
  have hlh:hh.toNat-l.toNat=(hh-l).toNat:=by omega
  split at hob
  . rename_i n' rows' hxx
    have hb2:=zab hob;clear hob;obtain ⟨hnn,rs,hrs,zkj,hob⟩:=hb2;have hnn:=zy0 hnn;rw [hxx] at hx;simp only [zad] at hx;have hs':=zme.of_pv hx
    -- the two readings are of one length
    have hlen:rows'.length=rows.length:=by
     obtain ⟨a',c',hv',_⟩:=hs'.out;rw [hv] at hv';exact (Value.slice.inj hv').2.1.symm
    refine ⟨_,hob,.ret hok zbh ?_ []⟩;simp only [zad];have hrl:rs.length=(hh-l).toNat:=by subst hrs;simp;omega
    by_cases hne:rs=[]
    . subst hne
      have:(hh-l).toNat=0:=by simpa using hrl.symm
      unfold sliced;rw [hlh,this];exact .sl0 _ _ _ zz0
    . have hpos:0<(hh-l).toNat:=by
       rcases Nat.eq_zero_or_pos (hh-l).toNat with h | h
       . exact absurd (zy5 zz0) hne
       . exact h
      have hne':rows'≠[]:=by rintro rfl;simp at hlen;omega
      generalize ρ x=v at hx hv;cases hx with
      | sl0=>exact absurd rfl hne'
      | sl n rows' b o c' cv hc' hm' hn' hR hcl hrep =>
       obtain ⟨rfl,_,rfl⟩:=Value.slice.inj hv;unfold sliced;rw [zy7 (by omega),hlh];simp only [zy18,Addr.add_mid];rw [<- hrl,<- hnn];have hrsn:∀ r∈rs,r.length=n':=fun r hr=>hn' r (by subst hrs;exact zy46 (zy27 hr))
       have hget:∀ (k:Nat) y,rs.flatten[k]?=some y->rows'.flatten[l.toNat*n'+k]?=some y:=by
        intro k y hy;obtain ⟨i2,j,r,rfl,hj,hr,hyy⟩:=zbm hrsn hy;have hr':rows'[l.toNat+i2]?=some r:=by
         subst hrs;rw [zy14] at hr;split at hr
         . rw [zy17] at hr;exact hr
         . cases hr
        have:=zaw hn' hr' hyy;rw [<- this];congr 1;rw [zy12];omega
       refine .sl n' rs b (o+l.toNat*n') (c' - l.toNat) (fun k=>cv (l.toNat*n'+k)) zz0 zz0 hrsn hR (fun k y hy=>?_) (fun k y hy=>hrep _ y (hget k y hy));rw [zy60];exact hcl _ y (hget k y hy)
  . rename_i id hxx
    rw [hxx] at hx;simp only [zad] at hx;obtain ⟨loc,hl,hvl⟩:=hx;have key:∀ t' n' rows',(H id=.live (.row t' n' rows')\/H id=.ro (.row t' n' rows'))->n'=de.size->K ⟨.osl id n' l.toNat (hh-l).toNat,[],[id]⟩->∃ r,K r/\OS Γ P m H w (execOp ρ ⟨dst,.slice t x lo hi none,ty,pos,after,guard⟩) r:=by
     intro t' n' rows' hb hnn hk;obtain ⟨loc',hl',hbr⟩:=hok.blk hb;rw [hl] at hl';cases hl';refine ⟨_,hk,.ret hok zbh ?_ [id]⟩;simp only [zad];have hb2:=hbr.2.2;rw [hv] at hvl;rcases hb2 with ⟨hn,he⟩ | ⟨hn,_,hcm,_⟩
     . simp [hdr,hn] at hvl
       obtain ⟨rfl,hr0,rfl⟩:=hvl;have:rows=[]:=zy5 zz0;subst this;simp at h2;have h00:l.toNat=0/\(hh-l).toNat=0:=by omega
       refine ⟨loc,_,hl,by simp [Loc.room,hn];omega,by simp [Loc.room,hn],by unfold sliced;rw [hlh,h00.1,h00.2];simp [Loc.room,hn];rfl,fun hne=>?_⟩;simp [Loc.at,hn]
     . simp only [hdr,hn,zy26,if_false] at hvl
       obtain ⟨rfl,hll,rfl⟩:=Value.slice.inj hvl;refine ⟨loc,_,hl,by simp [Loc.room,hn];omega,by simp [Loc.room,hn];exact hcm,by unfold sliced;rw [hlh];simp [Loc.room,hn];rfl,fun hne=>?_⟩;simp [Loc.room,hn] at hne;by_cases hcl:loc.cap=l.toNat
       . have h0':l.toNat=0:=by omega
         rw [zy11 hcl,h0'];simp [Loc.at,hn]
       . rw [zy7 hcl];simp [Addr.add_mid,hnn,Loc.at,hn]
    split at hob
    . rename_i t' n' rows' hH
      obtain ⟨hnn,hob⟩:=zab hob;exact key _ _ _ (.inl hH) (zy0 hnn) hob
    . rename_i t' n' rows' hH
      obtain ⟨hnn,hob⟩:=zab hob;exact key _ _ _ (.inr hH) (zy0 hnn) hob
    . exact hob.elim
  . exact hob.elim
 have bnd:∀ (o:Option Operand) (k:IntKind) (n:Int),(∀ y,o=some y->zad m w (RR Γ m H w) (ev y) (ρ y))->o.map ev=some (.p (.v (.int k n)))->o.map ρ=some (.int k n):=by
  intro o k n ho h;obtain ⟨y,rfl,hy⟩:=zy3.1 h;have:=ho y rfl;rw [hy] at this;rw [zy18,zax this]
 have nobnd:∀ (o:Option Operand),o.map ev=none->o.map ρ=none:=by
  intro o h;cases o<;>simp_all
 split at hK
 . rename_i e1
   split at hK
   . rename_i e2
     exact main 0 rows.length (.inl ⟨nobnd _ e1,rfl⟩) (.inl ⟨nobnd _ e2,rfl⟩) hK
   . rename_i k hh e2
     exact main 0 hh (.inl ⟨nobnd _ e1,rfl⟩) (.inr ⟨k,bnd _ _ _ hhi e2⟩) hK
   . exact hK.elim
 . rename_i k l e1
   split at hK
   . rename_i e2
     exact main l rows.length (.inr ⟨k,bnd _ _ _ hlo e1⟩) (.inl ⟨nobnd _ e2,rfl⟩) hK
   . rename_i k' hh e2
     exact main l hh (.inr ⟨k,bnd _ _ _ hlo e1⟩) (.inr ⟨k',bnd _ _ _ hhi e2⟩) hK
   . exact hK.elim
 . exact hK.elim
theorem znm {R:Nat->Prop} {o:Option Operand} {k:IntKind} {n:Int} (ho:∀ y,o=some y->zad m w R (ev y) (ρ y)) (h:o.map ev=some (.p (.v (.int k n)))):o.map ρ=some (.int k n):=by
 obtain ⟨y,rfl,hy⟩:=zy3.1 h;have:=ho y rfl;rw [hy] at this;rw [zy18,zax this]
theorem znn {o:Option Operand} (h:o.map ev=none):o.map ρ=none:=by cases o<;>simp_all
theorem zqz {K:Res->Prop} {t e:TypeId} {de:TyD} {u:TypeDesc} {i:TypeInfo} {z:Value} (hu:P.underlying t=some (.slice e)) (ht:zgh P e de u i z) {x:Operand} {lo hi:Option Operand} {id n off len:Nat} (hok:zag Γ m H w) (hx:zad m w (RR Γ m H w) (.osl id n off len) (ρ x))
 (hlo:∀ y,lo=some y->zad m w (RR Γ m H w) (ev y) (ρ y)) (hhi:∀ y,hi=some y->zad m w (RR Γ m H w) (ev y) (ρ y)) (h:zsg H id n off len de.size (lo.map ev) (hi.map ev) K) :
 ∃ r,K r/\OS Γ P m H w (execOp ρ ⟨dst,.slice t x lo hi none,ty,pos,after,guard⟩) r:=by
 unfold zsg at h;obtain ⟨b,hb,h⟩:=zan h;obtain ⟨loc,hl,hbr⟩:=hok.blk hb;obtain ⟨t1,n1,rows,mk,lim,h,hw,_⟩:=zji hbr h;have hrl:=hw.room;simp only [zad] at hx;obtain ⟨loc',a,hl',h1,h2,hv,h5⟩:=hx;rw [hl] at hl';cases hl';have hb2:=zab h;clear h;obtain ⟨hnn,h⟩:=hb2;have hnn:=zy0 hnn;have main:∀ (l hh:Int),((lo.map ρ=none/\l=0)\/∃ k,lo.map ρ=some (.int k l))->((hi.map ρ=none/\hh=len)\/∃ k,hi.map ρ=some (.int k hh))->0<=l->l<=hh->(off:Int)+hh<=lim ->
  ∀ o' n',o'=off+l.toNat->n'=(hh-l).toNat->K ⟨.osl id n o' n',[],[id]⟩->∃ r,K r/\OS Γ P m H w (execOp ρ ⟨dst,.slice t x lo hi none,ty,pos,after,guard⟩) r:=by
  intro l hh e1 e2 g0 g1 g2 o' n' ho hn' hk;subst ho hn';have zbh:(execOp ρ ⟨dst,.slice t x lo hi none,ty,pos,after,guard⟩).run P w=.ok (.value (sliced a l.toNat hh.toNat (loc.room-off) de.size)) w:=by
   simp only [execOp,hv];exact zak _ (zje hu ht a len (loc.room-off) _ _ l hh e1 e2 g0 g1 zz0 zz0)
  refine ⟨_,hk,.ret hok zbh ?_ [id]⟩;simp only [zad];have hlh:hh.toNat-l.toNat=(hh-l).toNat:=by omega
  refine ⟨loc,_,hl,by omega,h2,by unfold sliced;rw [hlh,Nat.sub_sub],fun hlt=>?_⟩;by_cases hcl:loc.room-off=l.toNat
  . rw [zy11 hcl,h5 (by omega)]
    have:l.toNat=0:=by omega
    rw [this,zy38]
  . rw [h5 (by omega),zy7 hcl]
    cases hn:loc.nil<;>simp [Loc.at,hn,Addr.add_mid,<- hnn,zy12]
 split at h
 . rename_i e1
   split at h
   . rename_i e2
     obtain ⟨g,h⟩:=h;exact main 0 len (.inl ⟨znn e1,rfl⟩) (.inl ⟨znn e2,rfl⟩) zz0 zz0 g _ _ zz1 zz0 h
   . rename_i k hh e2
     obtain ⟨⟨g0,g⟩,h⟩:=h;exact main 0 hh (.inl ⟨znn e1,rfl⟩) (.inr ⟨k,znm hhi e2⟩) zz0 g0 g _ _ zz1 zz0 h
   . exact h.elim
 . rename_i k l e1
   split at h
   . rename_i e2
     obtain ⟨⟨g0,g1,g⟩,h⟩:=h;exact main l len (.inr ⟨k,znm hlo e1⟩) (.inl ⟨znn e2,rfl⟩) g0 g1 g _ _ rfl zz0 h
   . rename_i k' hh e2
     obtain ⟨⟨g0,g1,g⟩,h⟩:=h;exact main l hh (.inr ⟨k,znm hlo e1⟩) (.inr ⟨k',znm hhi e2⟩) g0 g1 g _ _ rfl rfl h
   . exact h.elim
 . exact h.elim
theorem zvn {R:Nat->Prop} {v:Value} {n:Nat} {rows:List (List PV)} {l h mx:Int} (hx:zcj w R (.sl n rows) v) (g0:0<=l) (g1:l<=h) (g2:h<=mx) (g3:mx<=rows.length) :
 ∃ a c,v=.slice a rows.length c/\rows.length<=c/\zcj w R (.sl n ((rows.drop l.toNat).take (h-l).toNat)) (sliced a l.toNat h.toNat mx.toNat n):=by
 have hlh:h.toNat-l.toNat=(h-l).toNat:=by omega
 have hrl:((rows.drop l.toNat).take (h-l).toNat).length=(h-l).toNat:=by simp;omega
 cases hx with
 | sl0 n a c hm =>
  refine ⟨a,c,rfl,by simp,?_⟩;simp at g3;have:(h-l).toNat=0:=by omega
  unfold sliced;rw [hlh,this];simp only [List.drop_nil,List.take_nil];exact .sl0 _ _ _ zz0
 | sl n rows b o c cv hc hm hn hR hcl hrep =>
  refine ⟨_,c,rfl,hc,?_⟩;unfold sliced;rw [hlh];by_cases h0:(h-l).toNat=0
  . rw [h0,List.take_zero]
    exact .sl0 _ _ _ zz0
  . rw [zy7 (by omega)]
    simp only [zy18,Addr.add_mid]
    conv=>rhs;rw [<- hrl]
    have hrsn:∀ r∈(rows.drop l.toNat).take (h-l).toNat,r.length=n:=fun r hr=>hn r (zy46 (zy27 hr))
    have hget:∀ (k:Nat) y,((rows.drop l.toNat).take (h-l).toNat).flatten[k]?=some y->rows.flatten[l.toNat*n+k]?=some y:=by
     intro k y hy;obtain ⟨i2,j,r,rfl,hj,hr,hyy⟩:=zbm hrsn hy;have hr':rows[l.toNat+i2]?=some r:=by
      rw [zy14] at hr;split at hr
      . rw [zy17] at hr;exact hr
      . cases hr
     have:=zaw hn hr' hyy;rw [<- this];congr 1;rw [zy12];omega
    refine .sl n _ b (o+l.toNat*n) (mx.toNat-l.toNat) (fun k=>cv (l.toNat*n+k)) zz0 zz0 hrsn hR (fun k y hy=>?_) (fun k y hy=>hrep _ y (hget k y hy));rw [zy60];exact hcl _ y (hget k y hy)
theorem zqy {K:Res->Prop} {t e:TypeId} {de:TyD} {u:TypeDesc} {i:TypeInfo} {z:Value} (hu:P.underlying t=some (.slice e)) (ht:zgh P e de u i z) {x y1 y2 y3:Operand} {k1 k2 k3:IntKind} {l hh mx:Int} (hok:zag Γ m H w) (hx:zad m w (RR Γ m H w) (ev x) (ρ x))
 (e1:ρ y1=.int k1 l) (e2:ρ y2=.int k2 hh) (e3:ρ y3=.int k3 mx) (h:zdj (ev x) H de.size l hh mx K) :
 ∃ r,K r/\OS Γ P m H w (execOp ρ ⟨dst,.slice t x (some y1) (some y2) (some y3),ty,pos,after,guard⟩) r:=by
 have he:P.elem t=e:=by simp [Program.elem,hu]
 have hu':P.underlying t=some (.slice (P.elem t)):=by rw [he];exact hu
 have hsz:(sizeOf (P.elem t)).run P w=.ok de.size w:=by rw [he];simp [sizeOf,typeInfo,ht.info,ht.size]
 have zbh:∀ a len cap,ρ x=.slice a len cap->0<=l->l<=hh->hh<=mx->mx<=cap->(execOp ρ ⟨dst,.slice t x (some y1) (some y2) (some y3),ty,pos,after,guard⟩).run P w=.ok (.value (sliced a l.toNat hh.toNat mx.toNat de.size)) w:=by
  intro a len cap hv g0 g1 g2 g3;simp only [execOp,hv,zy18,e1,e2,e3];refine zak _ ?_;rw [run_sliceAt_slice w t _ _ _ _ hu',run_slice_lhm w t a len cap hu' _ _ _ l hh mx g0 g1 g2 g3,hsz];rfl
 unfold zdj at h;split at h
 . rename_i n rows hxx
   rw [hxx] at hx;simp only [zad] at hx;obtain ⟨⟨g0,g1,g2,g3⟩,h⟩:=h;have hb2:=zab h;clear h;obtain ⟨hnn,rs,rfl,zkj,h⟩:=hb2;have hnn:=zy0 hnn;obtain ⟨a,c,hv,hle,hp⟩:=zvn hx g0 g1 g2 g3;refine ⟨_,h,.ret hok (zbh a _ c hv g0 g1 g2 zz0) ?_ []⟩;simp only [zad];rw [<- hnn];exact hp
 . rename_i id hxx
   rw [hxx] at hx;simp only [zad] at hx;obtain ⟨loc,hl,hvl⟩:=hx;obtain ⟨b,hb,h⟩:=zan h;obtain ⟨loc',hl',hbr⟩:=hok.blk hb;rw [hl] at hl';cases hl';split at h
   . rename_i t' n' rows
     obtain ⟨⟨g0,g1,g2,g3⟩,h⟩:=h;obtain ⟨a,c,hv,hle,_⟩:=(zgy hbr).out;rw [<- hvl] at hv;exact ⟨_,h,.ret hok (zbh a _ c hv g0 g1 g2 zz0) (by simp only [zad]) [id]⟩
   . exact h.elim
 . rename_i id n off len hxx
   rw [hxx] at hx;obtain ⟨loc',a,c,hl',h1,h2,h3,hv,_⟩:=zfx hx;obtain ⟨b,hb,h⟩:=zan h;obtain ⟨loc,hl,hbr⟩:=hok.blk hb;obtain ⟨t1,n1,rows,mk,lim,h,hw,_⟩:=zji hbr h;obtain ⟨⟨g0,g1,g2,g3,g4⟩,h⟩:=h;exact ⟨_,h,.ret hok (zbh a _ c hv g0 g1 g2 zz0) (by simp only [zad]) [id]⟩
 . exact h.elim
theorem zsk {x:HV} {id:Nat} (h:zmw x=some id):x=.own id:=by
 unfold zmw at h;split at h
 . cases h;rfl
 . cases h
theorem zqw {K:Res->Prop} {op:BinOp} {t yt:TypeId} {x y:Operand} {id:Nat} (hok:zag Γ m H w) (hx:zad m w (RR Γ m H w) (.own id) (ρ x)) (hy:zad m w (RR Γ m H w) (ev y) (ρ y)) (h:zju P t op id (ev y) H K) :
 ∃ r,K r/\OS Γ P m H w (execOp ρ ⟨dst,.binOp op t x y yt,ty,pos,after,guard⟩) r:=by
 unfold zju at h;split at h
 . rename_i hyy
   rw [hyy] at hy;have hyv:=zfu hy;split at h
   . have hq:=zbe h;clear h;obtain ⟨e,de,u,i,z,hu,ht,h⟩:=hq
     obtain ⟨b,hb,h⟩:=zan h;obtain ⟨l,hl,hbr⟩:=hok.blk hb;split at h
     . rename_i t1 n rows
       simp only [zad] at hx;obtain ⟨l',hl',hv⟩:=hx;rw [hl] at hl';cases hl';obtain ⟨a,len,c,hxv,zms⟩:∃ a len c,ρ x=.slice a len c/\(a=none->rows=[]):=by
        obtain ⟨-,-,h3⟩:=hbr;rw [hv];unfold hdr;cases hn:l.nil with
        | true =>
         refine ⟨none,0,0,rfl,fun _=>?_⟩;rcases h3 with h3 | h3
         . exact h3.2
         . rw [hn] at h3;cases h3.1
        | false=>exact ⟨_,_,_,rfl,fun h=>by cases h⟩
       have hg:eqGuard .eql t x y (ρ x) (ρ y)=pure ():=by rw [hxv];exact eqGuard_at_slice (op:=.eql) (t:=t) (x:=x) (y:=y) (v:=ρ y) a len c
       refine ⟨_,h a.isNone (fun ha=>zms (by simpa using ha)),.ret hok (v:=.bool a.isNone) ?_ (zbd (.bool a.isNone) rfl) [id]⟩;simp only [execOp];refine zak _ ?_;rw [hg];show (binOp .eql t (ρ x) (ρ y)).run P w=_;rw [hxv,hyv,Lib.run_eql_slice_nil w t e a len c 0 0 hu]
     . exact h.elim
   . exact h.elim
 . exact h.elim
theorem zsl {x:HV} {s:ByteArray} (h:isStr x=some s):x=.p (.v (.string s)):=by
 unfold isStr at h;split at h
 . cases h;rfl
 . cases h
theorem zrh {t:TypeId} (hu:P.underlying t=some .string) (s:ByteArray) (k k':IntKind) (l h:Int) (h0:0<=l) (h1:l<=h) (h2:h<=s.size) :
 (Instr.sliceAt t (.string s) (some (.int k l)) (some (.int k' h)) none).run P w=.ok (.string (s.extract l.toNat h.toNat)) w:=by
 have e1:l<=(h.toNat:Int):=by omega
 have e2:0<=h:=by omega
 simp [Instr.sliceAt,Instr.slice,Instr.sliceBounds,run_underlying hu,run_sliceBound,h0,h2,e2];rw [run_sliceBound (h0:=h0) (h1:=e1)];rfl
theorem znf {K:Res->Prop} {t:TypeId} {x:Operand} {s:ByteArray} {lo hi:Option Operand} (hok:zag Γ m H w) (hx:zad m w (RR Γ m H w) (.p (.v (.string s))) (ρ x))
 (hlo:∀ y,lo=some y->zad m w (RR Γ m H w) (ev y) (ρ y)) (hhi:∀ y,hi=some y->zad m w (RR Γ m H w) (ev y) (ρ y)) (h:ziu P t s (lo.map ev) (hi.map ev) K) :
 ∃ r,K r/\OS Γ P m H w (execOp ρ ⟨dst,.slice t x lo hi none,ty,pos,after,guard⟩) r:=by
 unfold ziu at h;have hq:=zbf h;clear h;obtain ⟨td,u,i,z,ht,h⟩:=hq;split at h
 . rename_i hk
   split at h
   . rename_i k1 l hl
     split at h
     . rename_i k2 hh hhh
       obtain ⟨y1,rfl,e1⟩:=zy3.1 hl;obtain ⟨y2,rfl,e2⟩:=zy3.1 hhh;have f1:=hlo y1 rfl;have f2:=hhi y2 rfl;rw [e1] at f1;rw [e2] at f2;obtain ⟨⟨g0,g1,g2⟩,h⟩:=h;have hxv:=zig hx;refine ⟨_,h,.ret hok (v:=.string (s.extract l.toNat hh.toNat)) ?_ (by simp only [zad];exact .v _ rfl) []⟩;simp only [execOp,hxv,zy18,zax f1,zax f2];exact zak _ (zrh (ht.str hk) s k1 k2 l hh g0 g1 g2)
     . exact h.elim
   . exact h.elim
 . exact h.elim
theorem zsv {K:Res->Prop} {C:zai} {d:Nat} {t:TypeId} {x:Operand} {lo hi mx:Option Operand} (hok:zag Γ m H w) (hev:∀ y,zad m w (RR Γ m H w) (ev y) (ρ y))
 (h:zat P C (.slice t x lo hi mx) d ev H K) :
 ∃ r,K r/\OS Γ P m H w (execOp ρ ⟨dst,.slice t x lo hi mx,ty,pos,after,guard⟩) r:=by
 simp only [zat] at h;split at h
 . split at h
   . rename_i s hs
     exact znf hok (by rw [<- zsl hs];exact hev x) (fun y _=>hev y) (fun y _=>hev y) h
   obtain ⟨e,de,u,i,z,hu,ht,h⟩:=zbe h;split at h
   . rename_i id n off len hxx
     exact zqz hu ht hok (by rw [<- hxx];exact hev x) (fun y _=>hev y) (fun y _=>hev y) h
   . exact zqx hu ht hok (hev x) (fun y _=>hev y) (fun y _=>hev y) h
 . rename_i y3
   have hq:=zbe h;clear h;obtain ⟨e,de,u,i,z,hu,ht,h⟩:=hq;split at h
   . rename_i k1 l hlo
     split at h
     . rename_i k2 hh hhi
       split at h
       . rename_i k3 mx hmx
         obtain ⟨y1,rfl,h1⟩:=zy3.1 hlo;obtain ⟨y2,rfl,h2⟩:=zy3.1 hhi;have e1:=hev y1;have e2:=hev y2;have e3:=hev y3;rw [h1] at e1;rw [h2] at e2;rw [hmx] at e3;exact zqy hu ht hok (hev x) (zax e1) (zax e2) (zax e3) h
       . exact h.elim
     . exact h.elim
   . exact h.elim
theorem zlo {K:Res->Prop} {C:zai} {d:Nat} {t:TypeId} {x y:Operand} (hok:zag Γ m H w) (hx:zad m w (RR Γ m H w) (ev x) (ρ x)) (hy:zad m w (RR Γ m H w) (ev y) (ρ y)) (h:zat P C (.makeSlice t x y) d ev H K) :
 ∃ r,K r/\OS Γ P m H w (execOp ρ ⟨dst,.makeSlice t x y,ty,pos,after,guard⟩) r:=by
 simp only [zat] at h;obtain ⟨e,de,u,i,z,hu,ht,h⟩:=zbe h;have hx2:=zab h;clear h;obtain ⟨hz,h⟩:=hx2;simp only [zy1] at hz;obtain ⟨⟨⟨hz1,hzb⟩,hz2⟩,hz3⟩:=hz;have hzb:0<de.bytes:=zy2 hzb;have hz2:=zy0 hz2;have hz3:0<de.size:=zy2 hz3;split at h
 . rename_i kl l hxx
   split at h
   . rename_i kc c hyy
     obtain ⟨⟨h0,hlc,hby⟩,h⟩:=h;subst hlc;split at h
     . rename_i hfree
       rw [hxx] at hx;rw [hyy] at hy;have hxv:=zax hx;have hyv:=zax hy;have hby':(i.bytes:Int)*l<=281474976710656:=by rw [<- ht.bytes,Int.mul_comm];omega
       have hl47:l<=140737488355328:=by
        have:l*1<=l*(de.bytes:Int):=Int.mul_le_mul_of_nonneg_left zz0 h0;omega
       have zbh:=run_make (P:=P) w t e i z hu ht.info ht.zero kl kc l l h0 (Int.le_refl _) hby' zz0;split at h
       . split at h
         . rename_i z1 hzz
           obtain ⟨j,rfl,_,h⟩:=h;have hzc:z.cells.toList=[z1]:=by rw [<- ht.zeros];exact hzz
           have hone:z1.oneCell'=true:=by have:=zy19.1 hz1;rw [hzz] at this;exact this z1 zz1
           have hsz1:i.size=1:=by rw [<- ht.size,<- hz2,hzz];rfl
           have hmade:(madeCells z.cells (j*i.size)).toList=List.replicate j z1:=by
            have hz':z.cells=#[z1]:=by apply Array.ext';simpa using hzc
            rw [hsz1,hz'];apply zy40;intro k;simp only [madeCells,zy42,Array.getElem?_map,Array.getElem?_range,zy64,Nat.mul_one];by_cases hk:k<j
            . rw [zy11 hk,zy11 hk];simp [Nat.mod_one]
            . rw [zy7 hk,zy7 hk];rfl
           have hmsz:(madeCells z.cells (j*i.size)).size=j:=by rw [size_madeCells,hsz1,Nat.mul_one]
           have hreps:∀ {m':zbj} {w':World} {R':Nat->Prop},zae m' w' R' (List.replicate j (.p (.v z1))) (madeCells z.cells (j*i.size)).toList:=by
            intro m' w' R';rw [hmade];refine zae.of_get zz1 fun k q v hq hv=>?_
            rw [zy64] at hq hv;by_cases hk:k<j
            . rw [zy11 hk] at hq hv;cases hq;cases hv;exact zbd _ hone
            . rw [zy7 hk] at hq;cases hq
           obtain ⟨m',hws,hm'⟩:=WS.new hok hfree (arr:=madeCells z.cells (j*i.size)) (t:=e) (b:=.cells e (List.replicate j (.p (.v z1)))) (cap:=j) (len:=j) (fun m' R' hext hk=>⟨⟨rfl,by simp,by simp⟩,_,heap_alloc_new w _,hreps⟩);refine ⟨_,h,.slice (some ⟨w.heap.size,0,none⟩) j j,_,m',.inl ?_,hws,?_⟩
           . simp only [execOp,hxv,hyv];refine zak _ ?_;rw [zbh];simp
           . simp only [zad]
             exact ⟨_,hm',by simp [hdr]⟩
         . exact h.elim
       refine ⟨_,h,?_⟩;have hos:=OS.newRow (P:=P) hok (us:=[]) zz20 hfree (arr:=madeCells z.cells (l.toNat*i.size)) (t:=e) (n:=de.size) (cap:=l.toNat) (rows:=List.replicate l.toNat (de.zero.map .v))
        (fun r hr=>by rw [(List.mem_replicate.1 hr).2];simpa using hz2) zz1 zz14 (by rw [size_madeCells,ht.size]) (fun k y hk=>?_)
        (x:=execOp ρ ⟨dst,.makeSlice t x y,ty,pos,after,guard⟩) [d] (by simp only [execOp,hxv,hyv];refine zak _ ?_;rw [zbh];simp)
       . exact hos
       . obtain ⟨i2,j,r,rfl,hj,hr,hyy⟩:=zbm (n:=de.size) (fun r hr=>by rw [(List.mem_replicate.1 hr).2];simpa using hz2) hk
         have hi2:i2<l.toNat:=by have:=(zy8.1 hr).1;simpa using this
         have hr':r=de.zero.map .v:=(List.mem_replicate.1 (zy22 hr)).2;subst hr';rw [zy10] at hyy;obtain ⟨v,hv,rfl⟩:=zy3.1 hyy;rw [ht.zeros] at hv;have hv':z.cells[j]?=some v:=by simpa using hv
         have hzs:z.cells.size=de.size:=by rw [<- hz2,ht.zeros];simp
         have hlt:i2*de.size+j<l.toNat*i.size:=by
          have:=zy28 de.size (show i2+1<=l.toNat by omega);rw [zy12] at this;rw [<- ht.size];omega
         refine ⟨v,?_,.v v (by have:=zy19.1 hz1;rw [ht.zeros] at this;exact this v (zy22 hv))⟩;simp only [madeCells,Array.getElem?_map];rw [Array.getElem?_range,zy11 hlt];simp only [zy18];have hmod:(i2*de.size+j) % z.cells.size=j:=by rw [hzs,Nat.mul_comm,Nat.mul_add_mod];exact Nat.mod_eq_of_lt hj
         rw [hmod,getElem!_def,hv']
     . exact h.elim
   . exact h.elim
 . exact h.elim
end
end Go.HL
namespace Go.HL
open Go.RowKit (Below)
section
variable {Γ:Ctx} {P:Program} {m:zbj} {H:Nat->zaa} {w:World} {ρ:Operand->Value} {ev:Operand->HV} {dst:Option Tmp} {ty:TypeId} {pos:String} {after:Array Edge} {guard:Option (Nat×Bool)}
theorem zmj {R:Nat->Prop} {bs:List UInt8} {b o:Nat} (h:zdl w R b o ((bs.map zpq).flatten)):∀ j (hj:j<bs.length),w.cell? ⟨b,o+j,none⟩=some (.int .u8 (bs[j].toNat:Int)):=by
 intro j hj;have h1:(bs.map zpq).flatten[j]?=some (.v (.int .u8 bs[j].toNat)):=by
  have:=zaw (n:=1) (rows:=bs.map zpq) (i:=j) (j:=0) (r:=zpq bs[j]) (x:=.v (.int .u8 bs[j].toNat)) (fun r hr=>by
   obtain ⟨b,_,rfl⟩:=zy4.1 hr;rfl) (by simp [hj]) (by simp [zpq])
  simpa using this
 obtain ⟨cv,hc,hp⟩:=h j _ h1;cases hp;exact hc
theorem zmn (w:World) (b n:Nat) (arr:Array Value) (t:TypeId) (h:w.heap[b]?=some (.cells arr t (0,0))) :
 (w.freeze ⟨b,n,none⟩ 1).heap.size=w.heap.size/\(w.freeze ⟨b,n,none⟩ 1).os=w.os/\(w.freeze ⟨b,n,none⟩ 1).tape=w.tape/\(w.freeze ⟨b,n,none⟩ 1).output=w.output /\
 (∀ k,k≠b->(w.freeze ⟨b,n,none⟩ 1).heap[k]?=w.heap[k]?)/\(w.freeze ⟨b,n,none⟩ 1).heap[b]?=some (.cells arr t (n,n+1)):=by
 unfold World.freeze;rw [zy7 (by decide)];refine ⟨by simp,rfl,rfl,rfl,fun k hk=>?_,?_⟩
 . show (w.heap.modify b _)[k]?=w.heap[k]?
   rw [zy55,zy7 (fun e=>hk e.symm)]
 . show (w.heap.modify b _)[b]?=_
   rw [zy55,zy11 rfl,h]
   rfl
theorem zgs (w:World) (src e:TypeId) (a:Addr) (n c m:Nat) (t:TypeId) (hs:P.underlying src=some (.slice e)) (he:P.underlying e=some (.int .u8)) (hsh:w.shape? a.block=some (t,m)) :
 (convert src src (.slice (some a) n c)).run P w=.ok (.slice (some a) n c) (w.freeze ⟨a.block,m,none⟩ 1):=by
 simp [convert,run_underlying hs,run_underlying he,markStringish,hsh]
theorem zph {K:Res->Prop} {C:zai} {d:Nat} {src dt:TypeId} {x:Operand} (hok:zag Γ m H w) (hx:zad m w (RR Γ m H w) (ev x) (ρ x)) (h:zat P C (.convert src dt x) d ev H K) :
 ∃ r,K r/\OS Γ P m H w (execOp ρ ⟨dst,.convert src dt x,ty,pos,after,guard⟩) r:=by
 simp only [zat] at h;obtain ⟨ts,us,is,zs,hts,h⟩:=zbf h;obtain ⟨td,u,i,z,htd,h⟩:=zbf h;split at h
 . rename_i k n hxx
   rw [hxx] at hx;have hxv:=zax hx;split at h
   . rename_i k' hk
     obtain ⟨y,rfl,h⟩:=h;have hd:P.underlying dt=some (.int k'):=htd.int hk;have hik:P.intKind dt=k':=by simp [Program.intKind,hd]
     refine ⟨_,h,.ret hok ?_ (zbd (.int k' (k'.wrap n)) rfl) []⟩;simp only [execOp,hxv];refine zak _ ?_;have:=run_convert_int (P:=P) w src dt k n (by rw [hts.und];rfl) (by rw [hik];exact hd);rw [this,hik]
   . exact h.elim
 . rename_i s hxx
   rw [hxx] at hx;have hxv:=zig hx;split at h
   . rename_i e hk
     obtain ⟨de,ue,ie,ze,hte,h⟩:=zbf h;split at h
     . rename_i hk2
       split at h
       . rename_i hks
         obtain ⟨hmax,h⟩:=h;have hs:=hts.str hks;have hd:=htd.slice hk;have he:=hte.int hk2;have zbh:=run_bytes_of_string (P:=P) w src dt e s hs hd he;have hcap:=grownCap_ge w s.size 0 e
         let blk:=bytesRow s (grownCap w s.size 0 e)
         let o:Obj:=.cells blk e (blk.size,blk.size+1)
         have hws:WS Γ H m w H m (w.drew.alloc o):=(WS.drew hok).trans (WS.allocAny hok.drew o);refine ⟨_,h,.slice (some ⟨w.heap.size,0,none⟩) s.size (grownCap w s.size 0 e),w.drew.alloc o,m,.inl ?_,hws,?_⟩
         . simp only [execOp,hxv]
           exact zak _ zbh
         . simp only [zad,zbb,ret]
           . have hcm:=grownCap_le_maxLen w s.size 0 e hmax
             have hsl:(s.data.toList.map zpq).length=s.size:=by simp
             generalize hcp:grownCap w s.size 0 e=cp at *
             rw [<- hsl];have hl1:∀ r∈s.data.toList.map zpq,r.length=1:=fun r hr=>by obtain ⟨b,_,rfl⟩:=zy4.1 hr;rfl
             have hfl:∀ (k:Nat) x,(s.data.toList.map zpq).flatten[k]?=some x->∃ b:UInt8,s.data[k]?=some b/\x=.v (.int .u8 b.toNat):=by
              intro k x hk;obtain ⟨i2,j,r,rfl,hj,hr,hxx⟩:=zbm hl1 hk;obtain rfl:j=0:=by omega
              rw [zy10] at hr;obtain ⟨b,hb,rfl⟩:=zy3.1 hr;simp [zpq] at hxx;exact ⟨b,by simpa using hb,hxx.symm⟩
             refine .sl 1 _ w.heap.size 0 _ (fun k=>.int .u8 ((s.data[k]?).getD 0).toNat) (by rw [hsl];exact hcap) hcm hl1 (zkb hok.drew o) (fun k x hk=>?_) (fun k x hk=>?_)
             . obtain ⟨b,hb,rfl⟩:=hfl k x hk
               rw [zy25,cell_of_row (w.drew.alloc o) w.heap.size k blk e (blk.size,blk.size+1) (heap_alloc_new w.drew o),hb];have hlt:k<s.data.size:=(zy21.1 hb).1;simp only [blk,bytesRow];rw [zy59 (by simpa using hlt),Array.getElem?_map,hb]
               rfl
             . obtain ⟨b,hb,rfl⟩:=hfl k x hk
               rw [hb];exact .v _ rfl
       . exact h.elim
     . exact h.elim
   . exact h.elim
 . split at h
   . rename_i hk
     split at h
     . rename_i e hks
       obtain ⟨de,ue,ie,ze,hte,h⟩:=zbf h;split at h
       . rename_i hk2
         obtain ⟨n,rows,ids,hK,hs⟩:=zew hok hx h;have hK2:=zab hK;clear hK;obtain ⟨hn,bs,zdb,hK⟩:=hK2;obtain ⟨a,c,hv,hle,hm,hcell⟩:=hs.out;subst zdb;have hss:=hts.slice hks;have he:=hte.int hk2;have hdd:=htd.str hk;refine ⟨_,hK,.ret hok (v:=.string ⟨bs.toArray⟩) ?_ (zbd _ rfl) _⟩;simp only [execOp,hv];refine zak _ ?_;have hlen:(bs.map zpq).length=bs.length:=by simp
         rw [hlen];by_cases hbs:bs=[]
         . subst hbs
           cases a with
           | none=>rw [run_convert_bytes_string w src dt e none _ c hss he hdd];rfl
           | some ad=>exact run_convert_bytes_back w src dt e ad c [] hss he hdd (fun j hj=>by simp at hj)
         . obtain ⟨b,o,rfl,hpc⟩:=hcell (by simpa using hbs)
           exact run_convert_bytes_back w src dt e _ c bs hss he hdd (fun j hj=>by rw [Addr.add_mid];exact zmj hpc j hj)
       . exact h.elim
     . exact h.elim
   . rename_i e hk
     have h2:=zab h;clear h;obtain ⟨hsd,h⟩:=h2;have hsd:=zy0 hsd;obtain ⟨de,ue,ie,ze,hte,h⟩:=zbf h;split at h
     . rename_i hk2
       split at h
       . rename_i id hxx
         split at h
         . rename_i t' n rows hH
           obtain ⟨hne,h⟩:=h;rw [hxx] at hx;simp only [zad] at hx;obtain ⟨l,hl,hv⟩:=hx;obtain ⟨l',hl',hbr,_⟩:=hok.live id _ hH;rw [hl] at hl';cases hl';obtain ⟨hbl,hlens,hb3⟩:=hbr;rcases hb3 with ⟨_,hr0⟩ | ⟨hn,hc1,hc2,arr,harr,hsz,hcell⟩
           . exact absurd hr0 hne
           have hd:=htd.slice hk;have he:=hte.int hk2;have hvv:ρ x=.slice (some ⟨l.blk,0,none⟩) l.len l.cap:=by rw [hv,hdr,hn];rfl
           have hsh:w.shape? l.blk=some (t',arr.size):=by simp [World.shape?,harr]
           obtain ⟨f1,f2,f3,f4,f5,f6⟩:=zmn w l.blk arr.size arr t' harr;obtain ⟨hws,hrr⟩:=WS.kill hok hH hl hn f1 f2 f3 f4 f5;refine ⟨_,h,.slice (some ⟨l.blk,0,none⟩) l.len l.cap,w.freeze ⟨l.blk,arr.size,none⟩ 1,m,.inl ?_,hws,?_⟩
           . simp only [execOp,hvv]
             rw [hsd];exact zak _ (zgs w _ e ⟨l.blk,0,none⟩ l.len l.cap arr.size t' hd he hsh)
           . simp only [zad,zbb]
             rw [hbl];refine .sl n rows l.blk 0 l.cap (fun k=>(arr[k]?).getD undef) hc1 hc2 hlens hrr (fun k y hy=>?_) (fun k y hy=>?_)
             . obtain ⟨cv,h1,h2⟩:=hcell k y hy
               rw [zy25,cell_of_row _ l.blk k arr t' (arr.size,arr.size+1) f6,h1]
               rfl
             . obtain ⟨cv,h1,h2⟩:=hcell k y hy
               rw [h1];exact h2.mono hws.keep
         . exact h.elim
       . exact h.elim
     . exact h.elim
   . exact h.elim
theorem zco (b:Builtin) (args:Array Operand) (ats:Array TypeId) (hb:∀ consts vs,(builtin b ats ty consts vs)=(do pure (Next.value (<- (match b with | .len=>Builtin.len_ ats ty vs | .min=>Builtin.min_ ats ty vs | .max=>Builtin.max_ ats ty vs | .append=>Builtin.append_ ats ty vs | _=>pure undef))):Sem Next)) {v:Value} {w':World}
 (h:(match b with | .len=>Builtin.len_ ats ty (args.map ρ) | .min=>Builtin.min_ ats ty (args.map ρ) | .max=>Builtin.max_ ats ty (args.map ρ) | .append=>Builtin.append_ ats ty (args.map ρ) | _=>pure undef).run P w=.ok v w') :
 (execOp ρ ⟨dst,.call ⟨.builtin b,args,ats⟩,ty,pos,after,guard⟩).run P w=.ok (.value v) w':=by
 simp only [execOp,resolve,Sem.run_bind,Sem.run_pure,Result.andThen_ok,invoke,hb,h]
theorem zvv {K:Res->Prop} {C:zai} {d:Nat} {args:Array Operand} {ats:Array TypeId} (hok:zag Γ m H w) (hx:∀ x∈args.toList,zad m w (RR Γ m H w) (ev x) (ρ x)) (h:zat P C (.call ⟨.builtin .len,args,ats⟩) d ev H K) :
 ∃ r,K r/\OS Γ P m H w (execOp ρ ⟨dst,.call ⟨.builtin .len,args,ats⟩,ty,pos,after,guard⟩) r:=by
 simp only [zat] at h;split at h
 . rename_i x hargs
   have hargs':args=#[x]:=by rw [<- zy16 (xs:=args),hargs]
   subst hargs';have hx:=hx x zz1;split at h
   . rename_i t hats
     have hats':ats=#[t]:=by rw [<- zy16 (xs:=ats),hats]
     subst hats';obtain ⟨td,u,i,z,ht,h⟩:=zbf h;have key:∀ {n:Int} {tch:List Nat},K ⟨hint .i64 n,[],tch⟩->(Builtin.len_ #[t] ty #[ρ x]).run P w=.ok (goInt n) w->∃ r,K r/\OS Γ P m H w (execOp ρ ⟨dst,.call ⟨.builtin .len,#[x],#[t]⟩,ty,pos,after,guard⟩) r:=by
      intro n tch hk hr;exact ⟨_,hk,.ret hok (zco .len #[x] #[t] (fun _ _=>rfl) (by simpa [goInt] using hr)) (zbd _ rfl) _⟩
     split at h
     . rename_i hkk
       split at h
       . rename_i s hxx
         rw [hxx] at hx;have hxv:=zig hx;refine key h ?_;rw [hxv];simp [Builtin.len_,run_underlying (ht.str hkk)]
       . exact h.elim
     . rename_i e hkk
       have hsl:∀ a n c,(Builtin.len_ #[t] ty #[.slice a n c]).run P w=.ok (goInt n) w:=fun a n c=>by simp [Builtin.len_,run_underlying (ht.slice hkk)]
       split at h
       . rename_i id n off len hxx
         rw [hxx] at hx;obtain ⟨l,a,c,_,_,_,_,hv,_⟩:=zfx hx;exact key h (by rw [hv];exact hsl _ _ _)
       . rename_i id hxx
         rw [hxx] at hx;simp only [zad] at hx;obtain ⟨l,hl,hv⟩:=hx;obtain ⟨b,hb,h⟩:=zan h;obtain ⟨l',hl',hbr⟩:=hok.blk hb;rw [hl] at hl';cases hl';split at h
         . obtain ⟨⟨hn,h2,h3⟩,_⟩:=hbr
           exact key h (by rw [hv,show hdr l=.slice (some ⟨l.blk,0,none⟩) l.len l.cap by simp [hdr,hn],h2];exact hsl _ _ _)
         . obtain ⟨a,c,hv',_⟩:=(zgy hbr).out
           exact key h (by rw [hv,hv'];exact hsl _ _ _)
         . exact h.elim
       . obtain ⟨n,rows,ids,hK,hs⟩:=zew hok hx h
         obtain ⟨a,c,hv,_⟩:=hs.out;exact key hK (by rw [hv];exact hsl _ _ _)
     . exact h.elim
   . exact h.elim
 . exact h.elim
theorem zvx {K:Res->Prop} {C:zai} {d:Nat} {args:Array Operand} {ats:Array TypeId} (hok:zag Γ m H w) (hx:∀ x∈args.toList,zad m w (RR Γ m H w) (ev x) (ρ x)) (h:zat P C (.call ⟨.builtin .min,args,ats⟩) d ev H K) :
 ∃ r,K r/\OS Γ P m H w (execOp ρ ⟨dst,.call ⟨.builtin .min,args,ats⟩,ty,pos,after,guard⟩) r:=by
 simp only [zat] at h;split at h
 . rename_i x y hargs
   have hargs':args=#[x,y]:=by rw [<- zy16 (xs:=args),hargs]
   subst hargs';have hxr:=hx x zz1;have hyr:=hx y zz1;split at h
   . rename_i k a hxx
     split at h
     . rename_i k' b hyy
       rw [hxx] at hxr;rw [hyy] at hyr;have hxv:=zax hxr;have hyv:=zax hyr;refine ⟨_,h,.ret hok (zco .min #[x,y] ats (fun _ _=>rfl) (v:=.int k (if b<a then b else a)) ?_) (zbd _ rfl) _⟩;simp [Builtin.min_,hxv,hyv,Builtin.min2]
     . exact h.elim
   . exact h.elim
 . exact h.elim
theorem zvw {K:Res->Prop} {C:zai} {d:Nat} {args:Array Operand} {ats:Array TypeId} (hok:zag Γ m H w) (hx:∀ x∈args.toList,zad m w (RR Γ m H w) (ev x) (ρ x)) (h:zat P C (.call ⟨.builtin .max,args,ats⟩) d ev H K) :
 ∃ r,K r/\OS Γ P m H w (execOp ρ ⟨dst,.call ⟨.builtin .max,args,ats⟩,ty,pos,after,guard⟩) r:=by
 simp only [zat] at h;split at h
 . rename_i x y hargs
   have hargs':args=#[x,y]:=by rw [<- zy16 (xs:=args),hargs]
   subst hargs';have hxr:=hx x zz1;have hyr:=hx y zz1;split at h
   . rename_i k a hxx
     split at h
     . rename_i k' b hyy
       rw [hxx] at hxr;rw [hyy] at hyr;have hxv:=zax hxr;have hyv:=zax hyr;refine ⟨_,h,.ret hok (zco .max #[x,y] ats (fun _ _=>rfl) (v:=.int k (if b>a then b else a)) ?_) (zbd _ rfl) _⟩;simp [Builtin.max_,hxv,hyv,Builtin.max2]
     . exact h.elim
   . exact h.elim
 . exact h.elim
end
end Go.HL
