/- Walks, contracts and laws of the law's functions: part 4. No condition. -/
import Derived.Test.YticmofoeecjnhaaGreatMc
set_option linter.unusedSimpArgs false
namespace Go.HL
open Go.Proofs
namespace Snd
open Ser Cl
set_option maxHeartbeats 4000000
set_option maxRecDepth 100000
set_option linter.unusedSimpArgs false
theorem zix {g:FuncId} {c1:List PV} {p:Queued -> Bool} (hg:∀ m:Queued,FunOK Tryz.prog g [m.hv,.rp c1] zac (hbool (p m)) zac) (q:List Queued) (hb:q.length < 2 ^ 62) :
 FunOK Tryz.prog 158 [.p (.sl 10 (q.map Queued.row)),.clo g [.rp c1]] zac (i64 (zbm p 0 q)) zac:=by
 refine zah mixed Tryz.func158 (by decide) ?_
 conv=>whnf
 refine ⟨{ k:Nat // k <= q.length /\ zbm p k (q.drop k)=zbm p 0 q },fun | ⟨k,_⟩=>hs 19 [(0,.p (.sl 10 (q.map Queued.row))),(1,.clo g [.rp c1]),(7,i64 (q.map Queued.row).length),(8,i64 k)] [],fun k=>q.length - k.1,⟨0,by simp⟩,?_,?_⟩
 . exact (hle_Q [])
 . rintro ⟨k,hk,hi⟩
   conv=>whnf
   refine zaf (fun h=>?_) (fun h=>?_)
   . have hlt:k < q.length:=by simpa using h
     conv=>whnf
     refine zbq (r:=(q[k]).row) (by simp) (by simp [hlt]) ?_
     conv=>whnf
     refine zeo ?_;conv=>whnf
     refine ⟨_,hg q[k],rfl,?_⟩;conv=>whnf
     rw [List.drop_eq_getElem_cons hlt] at hi
     simp only [zbm] at hi
     refine zaf (fun h=>?_) (fun h=>?_)
     . conv=>whnf
       rw [if_pos h] at hi
       rw [<- hi]
     . conv=>whnf
       rw [if_neg (by rw [h];decide)] at hi
       refine zan (W_fit (by omega) (by omega)) ?_
       conv=>whnf
       exact ⟨⟨k+1,hlt,hi⟩,(hle_Q []),by dsimp only;omega⟩
   . conv=>whnf
     have hge:q.length <= k:=by simpa using h
     rw [List.drop_eq_nil_of_le hge] at hi
     rw [<- hi];rfl
theorem zvu {g:FuncId} {c1:List PV} {p:Queued -> Bool} (hg:∀ m:Queued,FunOK Tryz.prog g [m.hv,.rp c1] zac (hbool (p m)) zac) (A0 B0:List Queued) (x:Queued) (hA:∀ y ∈ A0,p y=false) (hx:p x=true) (hb:(A0++x :: B0).length < 2 ^ 38) :
 FunOK Tryz.prog 160 [.own 1000,.clo g [.rp c1]] (lk .free [(1000,.live (.row 117 10 ((A0++x :: B0).map Queued.row)))])
  (.osl 1000 10 0 ((A0++x :: B0).filter fun y=>!p y).length) (lk .free [(1000,.live (.row 117 10 ((((A0++x :: B0).filter fun y=>!p y).map Queued.row)++List.replicate ((A0++x :: B0).length - ((A0++x :: B0).filter fun y=>!p y).length) ([pi 0,pi 0,pi 0,pi 0,pi 0,pi 0,pb false,pi 0,pi 0,.v (.slice none 0 0)]))))]):=by
 refine zal mixed Tryz.func160 (by decide) [1000] zbn ?_
 have hfA:A0.filter (fun y=>!p y)=A0:=List.filter_eq_self.2 fun y hy=>by rw [hA y hy];rfl
 have hlen:(A0++x :: B0).length=A0.length+1+B0.length:=by simp;omega
 conv=>whnf
 (refine cL ?_;refine dL (zix hg (A0++x :: B0) (by omega)) ?_)
 rw [yhb A0 B0 x hA hx]
 conv=>whnf
 try (refine hcut.go ?_;conv=>whnf)
 refine sF ?_
 refine ⟨{ y:(List Queued × List Queued) × List Queued × List Queued // A0++x :: B0=y.1.1++y.1.2 /\ y.2.1=y.1.1.filter (fun z=>!p z) /\ 0 < y.2.2.length /\ y.2.1.length+y.2.2.length=y.1.1.length },fun | ⟨((A,B),K,G),_⟩=>hsP [1000] 42 [(0,.own 1000),(1,.clo g [.rp c1]),(5,i64 K.length),(6,i64 A.length)] [(1000,.live (.row 117 10 ((K++G++B).map Queued.row)))],fun y=>y.1.1.2.length,⟨((A0++[x],B0),A0,[x]),by simp,by simp [hfA,hx],by simp,by simp⟩,?_,?_⟩
 . exact (hle_Y [(1000,some 1000)] (by repeat' (first | exact z0 | refine z1 ?_ | refine ⟨?_,?_⟩ | ((exact zbg om)) | ((exact zao (by simp))) | exact z2)))
 rintro ⟨⟨⟨A,B⟩,K,G⟩,h,hK,hG,hl⟩
 dsimp only at h hK hG hl
 have hAB:(A0++x :: B0).length=A.length+B.length:=by rw [h];simp
 conv=>whnf
 cases B with
 | nil =>
  rw [List.length_nil] at hAB
  rw [List.append_nil] at h
  have hF:(A0++x :: B0).filter (fun z=>!p z)=K:=by rw [h,hK]
  refine zab (by simp;omega) ?_;conv=>whnf
  try (refine hcut.go ?_;conv=>whnf)
  refine sOm ?_
  refine sOm ?_
  refine zaa (by simp [splice];omega) ?_;conv=>whnf
  refine zau [(1000,some 1000)] rfl rfl ⟨rfl,trivial⟩ rfl ?_ ⟨⟨rfl,.inl ⟨1000,rfl,?_⟩⟩,trivial⟩
  . show HV.osl 1000 10 0 _=HV.osl 1000 10 0 _
    rw [hF];rfl
  . refine zao ?_
    rw [hF,splice,List.append_nil,List.map_append,List.drop_eq_nil_of_le (by simp;omega),List.append_nil]
    congr 1
    . exact List.take_left' (by simp)
    . congr 1;simp;omega
 | cons v B =>
  rw [List.length_cons] at hAB
  have e1:K++G++v :: B=(K++G)++v :: B:=rfl
  refine zad (by simp;omega) ?_;conv=>whnf
  try (refine hcut.go ?_;conv=>whnf)
  refine sO ?_
  refine zaj e1 (by simp;omega) ?_;conv=>whnf
  (refine cZ ?_;refine dL (hg v) ?_)
  cases hv:p v with
  | true =>
   conv=>whnf
   try (refine hcut.go ?_;conv=>whnf)
   refine sF ?_
   refine ⟨⟨((A++[v],B),K,G++[v]),by rw [h];simp,by rw [List.filter_append,<- hK];simp [hv],by simp,by simp;omega⟩,(hle_Y [(1000,some 1000)] (by repeat' (first | exact z0 | refine z1 ?_ | refine ⟨?_,?_⟩ | ((exact zbg om)) | ((exact zao (by simp))) | exact z2))),by simp⟩
  | false =>
   obtain ⟨g0,G,rfl⟩:∃ g0 G',G=g0 :: G':=by cases G with
    | nil=>simp at hG
    | cons a b=>exact ⟨a,b,rfl⟩
   have e2:K++(g0 :: G)++v :: B=K++g0 :: (G++v :: B):=by simp
   rw [List.length_cons] at hl
   conv=>whnf
   try (refine hcut.go ?_;conv=>whnf)
   refine sO ?_
   refine zaj e2 (by simp) ?_;conv=>whnf
   refine sF ?_
   refine sF ?_
   refine ⟨⟨((A++[v],B),K++[v],G++[v]),by rw [h];simp,by rw [List.filter_append,<- hK];simp [hv],by simp,by simp;omega⟩,(hle_Y [(1000,some 1000)] (by repeat' (first | exact z0 | refine z1 ?_ | refine ⟨?_,?_⟩ | ((exact zbg om)) | ((exact (zdd (f:=Queued.row) (a:=K) (b:=G++v :: B) (x:=g0) (y:=v) (by simp) rfl).symm.trans (zao (by simp)))) | ((refine (ylo e2 ?_ rfl).trans (zao (by simp));simp)) | exact z2))),by simp⟩
theorem zqn {g:FuncId} {c1:List PV} {p:Queued -> Bool} (hg:∀ m:Queued,FunOK Tryz.prog g [m.hv,.rp c1] zac (hbool (p m)) zac) (l:List Queued) (hb:l.length < 2 ^ 38) :
 FunOK Tryz.prog 160 [.own 1000,.clo g [.rp c1]] (lk .free [(1000,.live (.row 117 10 (l.map Queued.row)))])
  (.own 0) (lk .free [(1000,.dead),(0,.live (.row 117 10 ((l.filter fun y=>!p y).map Queued.row)))]):=by
 rcases yhc p l with ⟨h1,h2⟩ | ⟨A,x,B,rfl,hA,hx⟩
 . refine zal mixed Tryz.func160 (by decide) [1000] zbn ?_
   rw [List.filter_eq_self.2 fun y hy=>by rw [h2 y hy];rfl]
   conv=>whnf
   (refine cL ?_;refine dL (zix hg l (by omega)) ?_)
   rw [h1]
   conv=>whnf
   try (refine hcut.go ?_;conv=>whnf)
   refine zau [(0,some 1000),(1000,some 1000)] rfl rfl ⟨rfl,trivial⟩ rfl rfl ⟨rfl,⟨rfl,.inl ⟨1000,rfl,rfl⟩⟩,trivial⟩
 . have h:=zvn (d:=0) (L:=[]) (rows:=(((A++x :: B).filter fun y=>!p y).map Queued.row)++List.replicate ((A++x :: B).length - ((A++x :: B).filter fun y=>!p y).length) ([pi 0,pi 0,pi 0,pi 0,pi 0,pi 0,pb false,pi 0,pi 0,.v (.slice none 0 0)])) (zvu hg A B x hA hx hb) (.inl rfl) (by simp) rfl (by decide)
   rwa [List.take_left' (by simp)] at h
theorem zqo (id:Int) (m:Queued):FunOK Tryz.prog 161 [m.hv,.rp [pi id]] zac (hbool (m.id == id)) zac:=by
 refine zah mixed Tryz.func161 (by decide) ?_
 conv=>whnf
theorem zyx (f:Nat -> Path -> Path) (A:List Path) (p:Path) (B:List Path):(A++[p]).mapIdx f++B=A.mapIdx f++f A.length p :: B:=by
 rw [List.mapIdx_concat];simp
theorem zsy (s:Sender)  (h3:Sco.Sized s.out) (h4:s.paths.length < 2 ^ 22):FunOK Tryz.prog 78 [.ptr 1000 0] (lk .free (pH0 s )) (.tup []) (lk .free (pD0 (flights s) )):=by
 refine zal mixed Tryz.func78 (by decide) [1000,1001,1002,1003,1004,1005,1006] zbn ?_
 conv=>whnf
 refine ⟨{ x:List Path × List Path // s.paths=x.1++x.2 },fun | ⟨(A,B),_⟩=>hsP [1000,1001,1002,1003,1004,1005,1006] 25 [(0,.ptr 1000 0),(7,i64 s.paths.length),(8,i64 A.length)] (pH0 { s with paths:=A.mapIdx (flP s.out)++B } ),fun x=>x.1.2.length,⟨([],s.paths),rfl⟩,?_,?_⟩
 . exact (hle_Y (pK7 []) (by repeat' (first | exact z0 | refine z1 ?_ | refine ⟨?_,?_⟩ | ((exact zbg om)) | exact z2)))
 rintro ⟨⟨A,B⟩,h⟩
 dsimp only at h
 conv=>whnf
 cases B with
 | cons p B =>
  have hz:=zar h
  refine sT ?_
  (refine cL ?_;refine dL (Sco.zje s.out A.length h3) ?_)
  refine sOm ?_
  refine zaj (a:=A.mapIdx (flP s.out)) (b:=B) (s:=p) rfl (by simp) ?_;conv=>whnf
  refine sD ?_
  refine sF ?_
  exact ⟨⟨(A++[p],B),zae h⟩,(hle_Y (pK7 []) (by repeat' (first | exact z0 | refine z1 ?_ | refine ⟨?_,?_⟩ | ((rw [zyx];exact (zdd (by simp) rfl).symm)) | exact z2))),by simp⟩
 | nil =>
  have hz:=zaz h
  rw [List.append_nil] at h
  refine sN ?_
  (exact zbz (pK7 [(0,some 1001),(1,some 1002),(2,some 1003),(3,some 1004),(4,some 1005),(5,some 1006)]) (by repeat' (first | exact z0 | refine z1 ?_ | refine ⟨?_,?_⟩ | ((exact zao (by rw [flights,h,List.append_nil]))) | exact z2)))
theorem zka (s:Sender)  (h3:Sco.Sized s.out) (h4:s.paths.length < 2 ^ 22):FunOK Tryz.prog 78 [.ptr 1000 0] (lk .free (pH3 s )) (.tup []) (lk .free (pD3 (flights s) )):=by
 refine zal mixed Tryz.func78 (by decide) [1000,1001,1002,1003,1004,1005,1006,1007] zbn ?_
 conv=>whnf
 refine ⟨{ x:List Path × List Path // s.paths=x.1++x.2 },fun | ⟨(A,B),_⟩=>hsP [1000,1001,1002,1003,1004,1005,1006,1007] 25 [(0,.ptr 1000 0),(7,i64 s.paths.length),(8,i64 A.length)] (pH3 { s with paths:=A.mapIdx (flP s.out)++B } ),fun x=>x.1.2.length,⟨([],s.paths),rfl⟩,?_,?_⟩
 . exact (hle_Y (pK8 []) (by repeat' (first | exact z0 | refine z1 ?_ | refine ⟨?_,?_⟩ | ((exact zbg om)) | exact z2)))
 rintro ⟨⟨A,B⟩,h⟩
 dsimp only at h
 conv=>whnf
 cases B with
 | cons p B =>
  have hz:=zar h
  refine sT ?_
  (refine cL ?_;refine dL (Sco.zje s.out A.length h3) ?_)
  refine sOm ?_
  refine zaj (a:=A.mapIdx (flP s.out)) (b:=B) (s:=p) rfl (by simp) ?_;conv=>whnf
  refine sD ?_
  refine sF ?_
  exact ⟨⟨(A++[p],B),zae h⟩,(hle_Y (pK8 []) (by repeat' (first | exact z0 | refine z1 ?_ | refine ⟨?_,?_⟩ | ((rw [zyx];exact (zdd (by simp) rfl).symm)) | exact z2))),by simp⟩
 | nil =>
  have hz:=zaz h
  rw [List.append_nil] at h
  refine sN ?_
  (exact zbz (pK8 [(0,some 1001),(1,some 1002),(2,some 1003),(3,some 1004),(4,some 1005),(5,some 1006)]) (by repeat' (first | exact z0 | refine z1 ?_ | refine ⟨?_,?_⟩ | ((exact zao (by rw [flights,h,List.append_nil]))) | exact z2)))
theorem zkb (s:Sender)  (h3:Sco.Sized s.out) (h4:s.paths.length < 2 ^ 22):FunOK Tryz.prog 78 [.ptr 1000 0] (lk .free (pH4 s )) (.tup []) (lk .free (pD4 (flights s) )):=by
 refine zal mixed Tryz.func78 (by decide) [1000,1001,1002,1003,1004,1005,1006,1007] zbn ?_
 conv=>whnf
 refine ⟨{ x:List Path × List Path // s.paths=x.1++x.2 },fun | ⟨(A,B),_⟩=>hsP [1000,1001,1002,1003,1004,1005,1006,1007] 25 [(0,.ptr 1000 0),(7,i64 s.paths.length),(8,i64 A.length)] (pH4 { s with paths:=A.mapIdx (flP s.out)++B } ),fun x=>x.1.2.length,⟨([],s.paths),rfl⟩,?_,?_⟩
 . exact (hle_Y (pK8 []) (by repeat' (first | exact z0 | refine z1 ?_ | refine ⟨?_,?_⟩ | ((exact zbg om)) | exact z2)))
 rintro ⟨⟨A,B⟩,h⟩
 dsimp only at h
 conv=>whnf
 cases B with
 | cons p B =>
  have hz:=zar h
  refine sT ?_
  (refine cL ?_;refine dL (Sco.zje s.out A.length h3) ?_)
  refine sOm ?_
  refine zaj (a:=A.mapIdx (flP s.out)) (b:=B) (s:=p) rfl (by simp) ?_;conv=>whnf
  refine sD ?_
  refine sF ?_
  exact ⟨⟨(A++[p],B),zae h⟩,(hle_Y (pK8 []) (by repeat' (first | exact z0 | refine z1 ?_ | refine ⟨?_,?_⟩ | ((rw [zyx];exact (zdd (by simp) rfl).symm)) | exact z2))),by simp⟩
 | nil =>
  have hz:=zaz h
  rw [List.append_nil] at h
  refine sN ?_
  (exact zbz (pK8 [(0,some 1001),(1,some 1002),(2,some 1003),(3,some 1004),(4,some 1005),(5,some 1006)]) (by repeat' (first | exact z0 | refine z1 ?_ | refine ⟨?_,?_⟩ | ((exact zao (by rw [flights,h,List.append_nil]))) | exact z2)))
end Snd
end Go.HL
namespace Go.HL
open Go.Proofs
namespace Snd
open Ser
set_option maxHeartbeats 4000000
set_option maxRecDepth 100000
set_option linter.unusedSimpArgs false
theorem ylt (id:Int) (s:Sender) (m:Queued):(end1 id s m).out.length <= s.out.length+1 /\ Sco.total (end1 id s m).out=Sco.total s.out:=by
 unfold end1
 split
 . simp [Sco.total,endOf]
 . exact ⟨by omega,rfl⟩
theorem zsz (id:Int):∀ (q:List Queued) (s:Sender),(q.foldl (end1 id) s).out.length <= s.out.length+q.length /\ Sco.total (q.foldl (end1 id) s).out=Sco.total s.out
 | [],s=>⟨by simp,rfl⟩
 | m :: q,s=>by
  obtain ⟨h1,h2⟩:=ylt id s m
  obtain ⟨h3,h4⟩:=zsz id q (end1 id s m)
  simp only [List.foldl_cons,List.length_cons]
  exact ⟨by omega,by omega⟩
theorem zqp (id:Int) (s:Sender) (m:Queued):end1 id s m={ s with out:=(end1 id s m).out,next:=(end1 id s m).next }:=by
 unfold end1;split <;> rfl
theorem zim (id:Int):∀ (q:List Queued) (s:Sender),q.foldl (end1 id) s={ s with out:=(q.foldl (end1 id) s).out,next:=(q.foldl (end1 id) s).next }
 | [],s=>rfl
 | m :: q,s=>by
  have h1:=zqp id s m
  have h2:=zim id q (end1 id s m)
  simp only [List.foldl_cons]
  rw [h2]
  generalize q.foldl (end1 id) (end1 id s m)=z
  rw [h1]
theorem zgr (id:Int) (l:List Sent):Sco.total (l.map (Sco.give id))=Sco.total l:=by
 have:∀ s:Sent,(Sco.give id s).chunk=s.chunk:=fun s=>by unfold Sco.give;split <;> rfl
 simp only [Sco.total,List.map_map]
 congr 1
 exact List.map_congr_left fun s _=>by simp [this]
def giveF (s:Sender) (id:Nat) (o:List Sent) (n:Int):Sender:={ s with fates:=s.fates.set id 3,out:=o,next:=n }
theorem yhn (s:Sender) (id:Nat) (q:List Queued):∃ o n,q.foldl (end1 id) { s with fates:=s.fates.set id 3 }=giveF s id o n /\ o.length <= s.out.length+q.length /\ Sco.total o=Sco.total s.out:=by
 have h1:=zim id q { s with fates:=s.fates.set id 3 }
 obtain ⟨h2,h3⟩:=zsz id q { s with fates:=s.fates.set id 3 }
 exact ⟨_,_,h1,h2,h3⟩
theorem zon (s:Sender)  (id:Nat) (hs:Fit s) (hid:id < s.fates.length) (h9:s.out.length < 2 ^ 30):FunOK Tryz.prog 131 [.ptr 1000 0,i64 id] (lk .free (pH3 s )) (.tup []) (lk .free (pD3 (giveS s id) )):=by
 obtain ⟨h1,h2,h3,h4,h5,h6,h7⟩:=hs
 have hg:giveS s id=flights { (s.queue.foldl (end1 id) { s with fates:=s.fates.set id 3 }) with queue:=s.queue.filter fun m=>decide (m.id ≠ id),sched:=if s.sched.hand=id then { s.sched with hand:=-1 } else s.sched,out:=(s.queue.foldl (end1 id) { s with fates:=s.fates.set id 3 }).out.map (Sco.give id),forward:=true }:=rfl
 refine zal mixed Tryz.func131 (by decide) [1000,1001,1002,1003,1004,1005,1006,1007] zbn ?_
 conv=>whnf
 refine sO ?_
 refine zbj id rfl hid ?_;conv=>whnf
 refine sD ?_
 refine ⟨{ x:(List Queued × List Queued) × List Sent × Int // s.queue=x.1.1++x.1.2 /\ x.1.1.foldl (end1 id) { s with fates:=s.fates.set id 3 }=giveF s id x.2.1 x.2.2 /\ x.2.1.length <= s.out.length+x.1.1.length /\ Sco.total x.2.1=Sco.total s.out },
  fun | ⟨((A,B),o,n),_⟩=>hsP [1000,1001,1002,1003,1004,1005,1006,1007] 121 [(0,.ptr 1000 0),(3,.ptr 3 0),(17,.own 1001),(18,i64 s.queue.length),(19,i64 A.length)] (snG3 (giveF s id o n)  1001 1002 900 1004 1005 1006 1007 [(1003,.dead),(3,.live (.cells 3 [i64 id]))]),fun x=>x.1.1.2.length,⟨(([],s.queue),s.out,s.next),rfl,rfl,by simp,rfl⟩,?_,?_⟩
 . exact (hle_Y (pK8 ((900,some 1003) :: [(3,some 3)])) (by repeat' (first | exact z0 | refine z1 ?_ | refine ⟨?_,?_⟩ | ((exact zbg om)) | ((exact zao (by simp [giveF,List.map_set]))) | exact z2)))
 rintro ⟨⟨⟨A,B⟩,o,n⟩,k1,k2,k3,k4⟩
 dsimp only at k1 k2 k3 k4
 conv=>whnf
 cases B with
 | cons m B =>
  have hz:=zar k1
  have hnext:(A++[m]).foldl (end1 id) { s with fates:=s.fates.set id 3 }=end1 id (giveF s id o n) m:=by rw [List.foldl_append,k2];rfl
  refine sT ?_
  refine zaa (by simp [giveF];omega) ?_;conv=>whnf
  refine zaj k1 rfl ?_;conv=>whnf
  by_cases c1:m.id=id
  case neg =>
   refine zab (by simpa using c1) ?_;conv=>whnf
   repeat (refine hcut.go ?_;conv=>whnf)
   refine sF ?_
   rw [end1,if_neg (by intro h;exact c1 h.1)] at hnext
   exact ⟨⟨((A++[m],B),o,n),zae k1,hnext,by simp;omega,k4⟩,(hle_P (pK8 ((900,some 900) :: [(3,some 3)]))),by simp⟩
  refine zad (by simpa using c1) ?_;conv=>whnf
  by_cases c2:m.parts > 0
  case neg =>
   refine zab (by simpa using c2) ?_;conv=>whnf
   repeat (refine hcut.go ?_;conv=>whnf)
   refine sF ?_
   rw [end1,if_neg (by intro h;exact c2 h.2)] at hnext
   exact ⟨⟨((A++[m],B),o,n),zae k1,hnext,by simp;omega,k4⟩,(hle_P (pK8 ((900,some 900) :: [(3,some 3)]))),by simp⟩
  refine zad (by simpa using c2) ?_;conv=>whnf
  repeat (refine hcut.go ?_;conv=>whnf)
  rw [end1,if_pos ⟨c1,c2⟩] at hnext
  (refine cL ?_;refine dL (zci n) ?_)
  (refine cL ?_;refine dL (zci m.mid) ?_)
  refine zaa (c:=((o.map Sent.row).length+1) * 200 <= 140737488355328) (by rw [List.length_map];omega) ?_;conv=>whnf
  refine sD ?_
  refine sR ?_
  refine sF ?_
  refine ⟨⟨((A++[m],B),o++[endOf n m],W (n+1)),zae k1,hnext,by simp;omega,by rw [Sco.zfa,k4];simp [Sco.total,endOf]⟩,(hle_Y (pK8 ((900,some 64) :: [(3,some 3)])) (by repeat' (first | exact z0 | refine z1 ?_ | refine ⟨?_,?_⟩ | ((exact zat (f:=Sent.row) rfl (by rw [endOf,c1];rfl))) | exact z2))),by simp⟩
 | nil =>
  have hz:=zaz k1
  rw [List.append_nil] at k1
  rw [<- k1] at k2
  rw [hg,k2]
  refine sN ?_
  (refine zag [false,true] [(1000,1001)] [(0,85)] ?_;(conv=>whnf);refine dG (zqn (fun m=>zqo id m) s.queue (by omega)) ?_)
  have hsz:Sco.Sized o:=⟨by omega,by rw [k4];exact h3.bytes⟩
  by_cases c1:s.sched.hand=id
  . rw [if_pos c1]
    refine sD ?_
    refine zad ?_ ?_
    . simp [giveF,c1]
    conv=>whnf
    repeat (refine hcut.go ?_;conv=>whnf)
    (refine zap [(0,109)] ?_;(conv=>whnf);refine dO (Sco.zjx o id hsz) ?_)
    refine sD ?_
    (refine zag [] [(1000,1000),(1001,85),(1002,1002),(1003,109),(1004,1004),(1005,1005),(1006,1006),(1007,1007)] [(0,910),(1,911),(2,912),(3,913),(4,914),(5,915)] ?_;(conv=>whnf);refine dG (zka { (giveF s id o n) with queue:=s.queue.filter fun m=>!(m.id == (id:Int)),sched:={ s.sched with hand:=-1 },out:=o.map (Sco.give id) }  ⟨by simp;exact hsz.len,by rw [zgr];exact hsz.bytes⟩ h4) ?_)
    (exact zbz (pK8 [(0,some 910),(1,some 911),(2,some 912),(3,some 913),(4,some 914),(5,some 915)]) (by repeat' (first | exact z0 | refine z1 ?_ | refine ⟨?_,?_⟩ | ((exact zao (by congr 1;exact List.filter_congr fun m _=>by rw [Bool.eq_iff_iff];simp))) | exact z2)))
  . rw [if_neg c1]
    refine sD ?_
    refine zab ?_ ?_
    . simp [giveF,c1]
    conv=>whnf
    repeat (refine hcut.go ?_;conv=>whnf)
    (refine zap [(0,109)] ?_;(conv=>whnf);refine dO (Sco.zjx o id hsz) ?_)
    refine sD ?_
    (refine zag [] [(1000,1000),(1001,85),(1002,1002),(1003,109),(1004,1004),(1005,1005),(1006,1006),(1007,1007)] [(0,910),(1,911),(2,912),(3,913),(4,914),(5,915)] ?_;(conv=>whnf);refine dG (zka { (giveF s id o n) with queue:=s.queue.filter fun m=>!(m.id == (id:Int)),sched:=s.sched,out:=o.map (Sco.give id) }  ⟨by simp;exact hsz.len,by rw [zgr];exact hsz.bytes⟩ h4) ?_)
    (exact zbz (pK8 [(0,some 910),(1,some 911),(2,some 912),(3,some 913),(4,some 914),(5,some 915)]) (by repeat' (first | exact z0 | refine z1 ?_ | refine ⟨?_,?_⟩ | ((exact zao (by congr 1;exact List.filter_congr fun m _=>by rw [Bool.eq_iff_iff];simp))) | exact z2)))
theorem zoo (s:Sender)  (id:Nat) (hs:Fit s) (hid:id < s.fates.length) (h9:s.out.length < 2 ^ 30):FunOK Tryz.prog 131 [.ptr 1000 0,i64 id] (lk .free (pH4 s )) (.tup []) (lk .free (pD4 (giveS s id) )):=by
 obtain ⟨h1,h2,h3,h4,h5,h6,h7⟩:=hs
 have hg:giveS s id=flights { (s.queue.foldl (end1 id) { s with fates:=s.fates.set id 3 }) with queue:=s.queue.filter fun m=>decide (m.id ≠ id),sched:=if s.sched.hand=id then { s.sched with hand:=-1 } else s.sched,out:=(s.queue.foldl (end1 id) { s with fates:=s.fates.set id 3 }).out.map (Sco.give id),forward:=true }:=rfl
 refine zal mixed Tryz.func131 (by decide) [1000,1001,1002,1003,1004,1005,1006,1007] zbn ?_
 conv=>whnf
 refine sO ?_
 refine zbj id rfl hid ?_;conv=>whnf
 refine sD ?_
 refine ⟨{ x:(List Queued × List Queued) × List Sent × Int // s.queue=x.1.1++x.1.2 /\ x.1.1.foldl (end1 id) { s with fates:=s.fates.set id 3 }=giveF s id x.2.1 x.2.2 /\ x.2.1.length <= s.out.length+x.1.1.length /\ Sco.total x.2.1=Sco.total s.out },
  fun | ⟨((A,B),o,n),_⟩=>hsP [1000,1001,1002,1003,1004,1005,1006,1007] 121 [(0,.ptr 1000 0),(3,.ptr 3 0),(17,.own 1001),(18,i64 s.queue.length),(19,i64 A.length)] (snG4 (giveF s id o n)  1001 1002 900 1004 1005 1006 1007 [(1003,.dead),(3,.live (.cells 3 [i64 id]))]),fun x=>x.1.1.2.length,⟨(([],s.queue),s.out,s.next),rfl,rfl,by simp,rfl⟩,?_,?_⟩
 . exact (hle_Y (pK8 ((900,some 1003) :: [(3,some 3)])) (by repeat' (first | exact z0 | refine z1 ?_ | refine ⟨?_,?_⟩ | ((exact zbg om)) | ((exact zao (by simp [giveF,List.map_set]))) | exact z2)))
 rintro ⟨⟨⟨A,B⟩,o,n⟩,k1,k2,k3,k4⟩
 dsimp only at k1 k2 k3 k4
 conv=>whnf
 cases B with
 | cons m B =>
  have hz:=zar k1
  have hnext:(A++[m]).foldl (end1 id) { s with fates:=s.fates.set id 3 }=end1 id (giveF s id o n) m:=by rw [List.foldl_append,k2];rfl
  refine sT ?_
  refine zaa (by simp [giveF];omega) ?_;conv=>whnf
  refine zaj k1 rfl ?_;conv=>whnf
  by_cases c1:m.id=id
  case neg =>
   refine zab (by simpa using c1) ?_;conv=>whnf
   repeat (refine hcut.go ?_;conv=>whnf)
   refine sF ?_
   rw [end1,if_neg (by intro h;exact c1 h.1)] at hnext
   exact ⟨⟨((A++[m],B),o,n),zae k1,hnext,by simp;omega,k4⟩,(hle_P (pK8 ((900,some 900) :: [(3,some 3)]))),by simp⟩
  refine zad (by simpa using c1) ?_;conv=>whnf
  by_cases c2:m.parts > 0
  case neg =>
   refine zab (by simpa using c2) ?_;conv=>whnf
   repeat (refine hcut.go ?_;conv=>whnf)
   refine sF ?_
   rw [end1,if_neg (by intro h;exact c2 h.2)] at hnext
   exact ⟨⟨((A++[m],B),o,n),zae k1,hnext,by simp;omega,k4⟩,(hle_P (pK8 ((900,some 900) :: [(3,some 3)]))),by simp⟩
  refine zad (by simpa using c2) ?_;conv=>whnf
  repeat (refine hcut.go ?_;conv=>whnf)
  rw [end1,if_pos ⟨c1,c2⟩] at hnext
  (refine cL ?_;refine dL (zci n) ?_)
  (refine cL ?_;refine dL (zci m.mid) ?_)
  refine zaa (c:=((o.map Sent.row).length+1) * 200 <= 140737488355328) (by rw [List.length_map];omega) ?_;conv=>whnf
  refine sD ?_
  refine sR ?_
  refine sF ?_
  refine ⟨⟨((A++[m],B),o++[endOf n m],W (n+1)),zae k1,hnext,by simp;omega,by rw [Sco.zfa,k4];simp [Sco.total,endOf]⟩,(hle_Y (pK8 ((900,some 64) :: [(3,some 3)])) (by repeat' (first | exact z0 | refine z1 ?_ | refine ⟨?_,?_⟩ | ((exact zat (f:=Sent.row) rfl (by rw [endOf,c1];rfl))) | exact z2))),by simp⟩
 | nil =>
  have hz:=zaz k1
  rw [List.append_nil] at k1
  rw [<- k1] at k2
  rw [hg,k2]
  refine sN ?_
  (refine zag [false,true] [(1000,1001)] [(0,85)] ?_;(conv=>whnf);refine dG (zqn (fun m=>zqo id m) s.queue (by omega)) ?_)
  have hsz:Sco.Sized o:=⟨by omega,by rw [k4];exact h3.bytes⟩
  by_cases c1:s.sched.hand=id
  . rw [if_pos c1]
    refine sD ?_
    refine zad ?_ ?_
    . simp [giveF,c1]
    conv=>whnf
    repeat (refine hcut.go ?_;conv=>whnf)
    (refine zap [(0,109)] ?_;(conv=>whnf);refine dO (Sco.zjx o id hsz) ?_)
    refine sD ?_
    (refine zag [] [(1000,1000),(1001,85),(1002,1002),(1003,109),(1004,1004),(1005,1005),(1006,1006),(1007,1007)] [(0,910),(1,911),(2,912),(3,913),(4,914),(5,915)] ?_;(conv=>whnf);refine dG (zkb { (giveF s id o n) with queue:=s.queue.filter fun m=>!(m.id == (id:Int)),sched:={ s.sched with hand:=-1 },out:=o.map (Sco.give id) }  ⟨by simp;exact hsz.len,by rw [zgr];exact hsz.bytes⟩ h4) ?_)
    (exact zbz (pK8 [(0,some 910),(1,some 911),(2,some 912),(3,some 913),(4,some 914),(5,some 915)]) (by repeat' (first | exact z0 | refine z1 ?_ | refine ⟨?_,?_⟩ | ((exact zao (by congr 1;exact List.filter_congr fun m _=>by rw [Bool.eq_iff_iff];simp))) | exact z2)))
  . rw [if_neg c1]
    refine sD ?_
    refine zab ?_ ?_
    . simp [giveF,c1]
    conv=>whnf
    repeat (refine hcut.go ?_;conv=>whnf)
    (refine zap [(0,109)] ?_;(conv=>whnf);refine dO (Sco.zjx o id hsz) ?_)
    refine sD ?_
    (refine zag [] [(1000,1000),(1001,85),(1002,1002),(1003,109),(1004,1004),(1005,1005),(1006,1006),(1007,1007)] [(0,910),(1,911),(2,912),(3,913),(4,914),(5,915)] ?_;(conv=>whnf);refine dG (zkb { (giveF s id o n) with queue:=s.queue.filter fun m=>!(m.id == (id:Int)),sched:=s.sched,out:=o.map (Sco.give id) }  ⟨by simp;exact hsz.len,by rw [zgr];exact hsz.bytes⟩ h4) ?_)
    (exact zbz (pK8 [(0,some 910),(1,some 911),(2,some 912),(3,some 913),(4,some 914),(5,some 915)]) (by repeat' (first | exact z0 | refine z1 ?_ | refine ⟨?_,?_⟩ | ((exact zao (by congr 1;exact List.filter_congr fun m _=>by rw [Bool.eq_iff_iff];simp))) | exact z2)))
end Snd
end Go.HL
namespace Go.HL
open Go.Proofs
namespace Snd
open Ser
set_option maxHeartbeats 4000000
set_option maxRecDepth 100000
set_option linter.unusedSimpArgs false
theorem zai {α:Type} {f:α -> List PV} {l:List α} {i:Nat} {x:α} {z:Int} {K:List PV -> Prop} (hx:l[i]?=some x) (hz:z=i) (hk:K (f x)):hrow (l.map f) z K :=
 ⟨_,by omega,by rw [hz,Int.toNat_natCast,List.getElem?_map,hx];rfl,hk⟩
theorem zdk {α:Type} {t n:Nat} {f:α -> List PV} {l:List α} {k:Nat} {y:α} {r:List PV} (hr:f y=r):HSlot.live (.row t n ((l.map f).set k r))=HSlot.live (.row t n ((l.set k y).map f)):=by
 rw [<- hr,List.map_set]
theorem zta {α:Type} {t n:Nat} {f:α -> List PV} {l:List α} {k:Nat} {y:α} {r r1 r2 r3:List PV} (hr:f y=r):HSlot.live (.row t n (((((l.map f).set k r1).set k r2).set k r3).set k r))=HSlot.live (.row t n ((l.set k y).map f)):=by
 rw [List.set_set,List.set_set,List.set_set];exact zdk hr
theorem ztb {t:TypeId} {l:List Path} {k:Nat} {w:Path} {d:List UInt8}:HSlot.live (.row t 7 ((l.map Path.row).set k [pi w.window,pi w.slow,pi w.gathered,pi (W (w.flight+((d.map bRow).length:Int))),pi w.errors,pi w.alarm,pi w.wait]))=HSlot.live (.row t 7 ((l.set k { w with flight:=W (w.flight+d.length) }).map Path.row)):=by
 rw [List.length_map];exact zdk rfl
def flyS (s:Sender) (i path:Nat) (x:Sent) (a:Path):Sender:={ s with out:=s.out.set i (flyX x path),paths:=s.paths.set path { a with flight:=W (a.flight+x.chunk.data.length) } }
theorem zqq {s:Sender} {o:List (List Chunk)} {i path:Nat} {x:Sent} {a:Path} {l:List Chunk} (hx:s.out[i]?=some x) (ha:s.paths[path]?=some a) (hl:o[path]?=some l) :
 fly ⟨s,o⟩ i path=⟨flyS s i path x a,o.set path (l++[x.chunk])⟩:=by
 simp only [fly,hx,setAt,ha,hl,flyS]
theorem zjg (s:Sender) (a:List Chunk) (i:Nat) (x:Sent) (w:Path) (hx:s.out[i]?=some x) (ha:s.paths[0]?=some w) (hb:a.length < 2 ^ 30) :
 FunOK Tryz.prog 134 [.ptr 1000 0,.eptr 1003 20 i 0,i64 0] (lk .free (pH1 s a)) (.tup []) (lk .free (snG1 (flyS s i 0 x w) (a++[x.chunk]) 1001 1002 1003 1004 1005 1006 1007 0 [(1008,.dead)])):=by
 refine zal mixed Tryz.func134 (by decide) [1000,1001,1002,1003,1004,1005,1006,1007,1008] zbn ?_
 have hi:i < s.out.length:=(List.getElem?_eq_some_iff.1 hx).1
 have hp:0 < s.paths.length:=(List.getElem?_eq_some_iff.1 ha).1
 conv=>whnf
 refine zai hx rfl ?_;conv=>whnf
 refine zbe rfl (by simp;omega) ?_;conv=>whnf
 refine zbe rfl (by simp;omega) ?_;conv=>whnf
 refine zbe rfl (by simp;omega) ?_;conv=>whnf
 refine sR ?_
 refine zbe rfl (by simp;omega) ?_;conv=>whnf
 refine sOm ?_
 refine zai ha rfl ?_;conv=>whnf
 refine zbe rfl (by simp;omega) ?_;conv=>whnf
 refine sR ?_
 refine sOm ?_
 refine zai ha rfl ?_;conv=>whnf
 refine sD ?_
 refine ⟨0,rfl,by decide,?_⟩;conv=>whnf
 refine zbe rfl (by simp;omega) ?_;conv=>whnf
 refine zaa (c:=((a.map Chunk.row).length+1) * 128 <= 140737488355328) (by simp;omega) ?_;conv=>whnf
 refine ⟨0,rfl,by decide,?_⟩;conv=>whnf
 refine sD ?_
 (exact zbz (pK9 [(0,some 58)]) (by repeat' (first | exact z0 | refine z1 ?_ | refine ⟨?_,?_⟩ | ((exact zta rfl)) | ((exact ztb)) | ((exact zat (f:=Chunk.row) rfl rfl)) | exact z2)))
theorem zjh (s:Sender) (a b:List Chunk) (i:Nat) (x:Sent) (w:Path) (hx:s.out[i]?=some x) (ha:s.paths[0]?=some w) (hb:a.length < 2 ^ 30) :
 FunOK Tryz.prog 134 [.ptr 1000 0,.eptr 1003 20 i 0,i64 0] (lk .free (pH2 s a b)) (.tup []) (lk .free (snG2 (flyS s i 0 x w) (a++[x.chunk]) b 1001 1002 1003 1004 1005 1006 1007 0 1009 [(1008,.dead)])):=by
 refine zal mixed Tryz.func134 (by decide) [1000,1001,1002,1003,1004,1005,1006,1007,1008,1009] zbn ?_
 have hi:i < s.out.length:=(List.getElem?_eq_some_iff.1 hx).1
 have hp:0 < s.paths.length:=(List.getElem?_eq_some_iff.1 ha).1
 conv=>whnf
 refine zai hx rfl ?_;conv=>whnf
 refine zbe rfl (by simp;omega) ?_;conv=>whnf
 refine zbe rfl (by simp;omega) ?_;conv=>whnf
 refine zbe rfl (by simp;omega) ?_;conv=>whnf
 refine sR ?_
 refine zbe rfl (by simp;omega) ?_;conv=>whnf
 refine sOm ?_
 refine zai ha rfl ?_;conv=>whnf
 refine zbe rfl (by simp;omega) ?_;conv=>whnf
 refine sR ?_
 refine sOm ?_
 refine zai ha rfl ?_;conv=>whnf
 refine sD ?_
 refine ⟨0,rfl,by decide,?_⟩;conv=>whnf
 refine zbe rfl (by simp;omega) ?_;conv=>whnf
 refine zaa (c:=((a.map Chunk.row).length+1) * 128 <= 140737488355328) (by simp;omega) ?_;conv=>whnf
 refine ⟨0,rfl,by decide,?_⟩;conv=>whnf
 refine sD ?_
 (exact zbz (pK10 [(0,some 58)]) (by repeat' (first | exact z0 | refine z1 ?_ | refine ⟨?_,?_⟩ | ((exact zta rfl)) | ((exact ztb)) | ((exact zat (f:=Chunk.row) rfl rfl)) | exact z2)))
theorem zji (s:Sender) (a b:List Chunk) (i:Nat) (x:Sent) (w:Path) (hx:s.out[i]?=some x) (ha:s.paths[1]?=some w) (hb:b.length < 2 ^ 30) :
 FunOK Tryz.prog 134 [.ptr 1000 0,.eptr 1003 20 i 0,i64 1] (lk .free (pH2 s a b)) (.tup []) (lk .free (snG2 (flyS s i 1 x w) a (b++[x.chunk]) 1001 1002 1003 1004 1005 1006 1007 1008 0 [(1009,.dead)])):=by
 refine zal mixed Tryz.func134 (by decide) [1000,1001,1002,1003,1004,1005,1006,1007,1008,1009] zbn ?_
 have hi:i < s.out.length:=(List.getElem?_eq_some_iff.1 hx).1
 have hp:1 < s.paths.length:=(List.getElem?_eq_some_iff.1 ha).1
 conv=>whnf
 refine zai hx rfl ?_;conv=>whnf
 refine zbe rfl (by simp;omega) ?_;conv=>whnf
 refine zbe rfl (by simp;omega) ?_;conv=>whnf
 refine zbe rfl (by simp;omega) ?_;conv=>whnf
 refine sR ?_
 refine zbe rfl (by simp;omega) ?_;conv=>whnf
 refine sOm ?_
 refine zai ha rfl ?_;conv=>whnf
 refine zbe rfl (by simp;omega) ?_;conv=>whnf
 refine sR ?_
 refine sOm ?_
 refine zai ha rfl ?_;conv=>whnf
 refine sD ?_
 refine ⟨1,rfl,by decide,?_⟩;conv=>whnf
 refine zbe rfl (by simp;omega) ?_;conv=>whnf
 refine zaa (c:=((b.map Chunk.row).length+1) * 128 <= 140737488355328) (by simp;omega) ?_;conv=>whnf
 refine ⟨1,rfl,by decide,?_⟩;conv=>whnf
 refine sD ?_
 (exact zbz (pK10 [(0,some 58)]) (by repeat' (first | exact z0 | refine z1 ?_ | refine ⟨?_,?_⟩ | ((exact zta rfl)) | ((exact ztb)) | ((exact zat (f:=Chunk.row) rfl rfl)) | exact z2)))
end Snd
end Go.HL
namespace Go.HL
open Go.Proofs
namespace Snd
open Ser
set_option maxHeartbeats 4000000
set_option maxRecDepth 100000
set_option linter.unusedSimpArgs false
def midS (s:Sender) (k:Nat) (m:Queued):Sender:={ s with queue:=s.queue.set k { m with mid:=midOf s m },mids:=zcj s m }
structure MFit (s:Sender) (m:Queued):Prop where
 lo:0 <= m.message.stream
 hi:m.message.stream < 2 ^ 40
 lo2:0 <= s.config.streams
 hi2:s.config.streams < 2 ^ 40
 at_:m.mid < 0 -> midAt s m < s.mids.length
theorem zhc {α:Type} {l:List α} {k:Nat} {x:α} (h:l[k]?=some x):l.set k x=l:=by
 obtain ⟨hk,rfl⟩:=List.getElem?_eq_some_iff.1 h
 exact List.set_getElem_self hk
theorem zvv {s:Sender} {k:Nat} {m:Queued} (hk:s.queue[k]?=some m) (h:midOf s m=m.mid):(midS s k m).queue=s.queue:=by
 show s.queue.set k { m with mid:=midOf s m }=_
 rw [h];exact zhc hk
theorem ztc {s:Sender} {k:Nat} {m:Queued} {v:Int} {t:TypeId} (h:midOf s m=v):HSlot.live (.row t 10 ((s.queue.map Queued.row).set k ({ m with mid:=v }:Queued).row))=HSlot.live (.row t 10 ((midS s k m).queue.map Queued.row)):=by
 rw [<- h];exact zdk rfl
theorem zvw (s:Sender) (a:List Chunk) (k:Nat) (m:Queued) (hk:s.queue[k]?=some m) (hf:MFit s m) :
 FunOK Tryz.prog 137 [.ptr 1000 0,.eptr 1001 10 k 0] (lk .free (pH1 s a)) (i64 (midOf s m)) (lk .free (pH1 (midS s k m) a)):=by
 obtain ⟨f1,f2,f3,f4,f5⟩:=hf
 have hk':k < s.queue.length:=(List.getElem?_eq_some_iff.1 hk).1
 refine zal mixed Tryz.func137 (by decide) [1000,1001,1002,1003,1004,1005,1006,1007,1008] zbn ?_
 conv=>whnf
 refine hcut.go ?_;conv=>whnf
 refine zai hk rfl ?_;conv=>whnf
 by_cases c1:m.mid < 0
 . have f5:=f5 c1
   obtain ⟨v,hv⟩:∃ v,s.mids[midAt s m]?=some v:=⟨_,List.getElem?_eq_getElem f5⟩
   have hmo:midOf s m=v:=by rw [midOf,if_pos c1,hv];rfl
   have hms:zcj s m=s.mids.set (midAt s m) (W (v+1)):=by rw [zcj,if_pos c1,setAt,hv]
   refine sT ?_
   refine zai hk rfl ?_;conv=>whnf
   repeat (refine hcut.go ?_;conv=>whnf)
   refine zai hk rfl ?_;conv=>whnf
   repeat (refine hcut.go ?_;conv=>whnf)
   cases c2:m.message.ordered with
   | true =>
    have hat:midAt s m=m.message.stream.toNat:=by rw [midAt,c2];simp
    conv=>whnf
    repeat (refine hcut.go ?_;conv=>whnf)
    refine sOm ?_
    refine zai hv (by omega) ?_;conv=>whnf
    refine zai hk rfl ?_;conv=>whnf
    refine sOm ?_
    refine zai hv (by omega) ?_;conv=>whnf
    refine sR ?_
    refine sOm ?_
    refine zai hv (by omega) ?_;conv=>whnf
    repeat (refine hcut.go ?_;conv=>whnf)
    refine zbe rfl (by simp;omega) ?_;conv=>whnf
    have hms2:(midS s k m).mids=_:=hms
    rw [hat] at hms2
    (exact zbz (pK9 []) (by repeat' (first | exact z0 | refine z1 ?_ | refine ⟨?_,?_⟩ | ((rw [hmo];rfl)) | ((exact ztc hmo)) | ((exact (zdk rfl).trans (zao (by rw [hms2])))) | exact z2)))
   | false =>
    have hat:midAt s m=(m.message.stream+s.config.streams).toNat:=by rw [midAt,c2];simp
    conv=>whnf
    repeat (refine hcut.go ?_;conv=>whnf)
    refine sF ?_
    refine sOm ?_
    refine zai hv (by omega) ?_;conv=>whnf
    refine zai hk rfl ?_;conv=>whnf
    refine sOm ?_
    refine zai hv (by omega) ?_;conv=>whnf
    refine sR ?_
    refine sOm ?_
    refine zai hv (by omega) ?_;conv=>whnf
    repeat (refine hcut.go ?_;conv=>whnf)
    refine zbe rfl (by simp;omega) ?_;conv=>whnf
    have hms2:(midS s k m).mids=_:=hms
    rw [hat] at hms2
    (exact zbz (pK9 []) (by repeat' (first | exact z0 | refine z1 ?_ | refine ⟨?_,?_⟩ | ((rw [hmo];rfl)) | ((exact ztc hmo)) | ((exact (zdk rfl).trans (zao (by rw [hms2])))) | exact z2)))
 . refine sN ?_
   repeat (refine hcut.go ?_;conv=>whnf)
   refine zai hk rfl ?_;conv=>whnf
   have hmo:midOf s m=m.mid:=by rw [midOf,if_neg c1]
   have hms:zcj s m=s.mids:=by rw [zcj,if_neg c1]
   (exact zbz (pK9 []) (by repeat' (first | exact z0 | refine z1 ?_ | refine ⟨?_,?_⟩ | ((rw [hmo];rfl)) | ((exact zao (by rw [zvv hk hmo]))) | ((exact zao (by rw [show (midS s k m).mids=s.mids from hms]))) | exact z2)))
theorem zkc (s:Sender) (a b:List Chunk) (k:Nat) (m:Queued) (hk:s.queue[k]?=some m) (hf:MFit s m) :
 FunOK Tryz.prog 137 [.ptr 1000 0,.eptr 1001 10 k 0] (lk .free (pH2 s a b)) (i64 (midOf s m)) (lk .free (pH2 (midS s k m) a b)):=by
 obtain ⟨f1,f2,f3,f4,f5⟩:=hf
 have hk':k < s.queue.length:=(List.getElem?_eq_some_iff.1 hk).1
 refine zal mixed Tryz.func137 (by decide) [1000,1001,1002,1003,1004,1005,1006,1007,1008,1009] zbn ?_
 conv=>whnf
 refine hcut.go ?_;conv=>whnf
 refine zai hk rfl ?_;conv=>whnf
 by_cases c1:m.mid < 0
 . have f5:=f5 c1
   obtain ⟨v,hv⟩:∃ v,s.mids[midAt s m]?=some v:=⟨_,List.getElem?_eq_getElem f5⟩
   have hmo:midOf s m=v:=by rw [midOf,if_pos c1,hv];rfl
   have hms:zcj s m=s.mids.set (midAt s m) (W (v+1)):=by rw [zcj,if_pos c1,setAt,hv]
   refine sT ?_
   refine zai hk rfl ?_;conv=>whnf
   repeat (refine hcut.go ?_;conv=>whnf)
   refine zai hk rfl ?_;conv=>whnf
   repeat (refine hcut.go ?_;conv=>whnf)
   cases c2:m.message.ordered with
   | true =>
    have hat:midAt s m=m.message.stream.toNat:=by rw [midAt,c2];simp
    conv=>whnf
    repeat (refine hcut.go ?_;conv=>whnf)
    refine sOm ?_
    refine zai hv (by omega) ?_;conv=>whnf
    refine zai hk rfl ?_;conv=>whnf
    refine sOm ?_
    refine zai hv (by omega) ?_;conv=>whnf
    refine sR ?_
    refine sOm ?_
    refine zai hv (by omega) ?_;conv=>whnf
    repeat (refine hcut.go ?_;conv=>whnf)
    refine zbe rfl (by simp;omega) ?_;conv=>whnf
    have hms2:(midS s k m).mids=_:=hms
    rw [hat] at hms2
    (exact zbz (pK10 []) (by repeat' (first | exact z0 | refine z1 ?_ | refine ⟨?_,?_⟩ | ((rw [hmo];rfl)) | ((exact ztc hmo)) | ((exact (zdk rfl).trans (zao (by rw [hms2])))) | exact z2)))
   | false =>
    have hat:midAt s m=(m.message.stream+s.config.streams).toNat:=by rw [midAt,c2];simp
    conv=>whnf
    repeat (refine hcut.go ?_;conv=>whnf)
    refine sF ?_
    refine sOm ?_
    refine zai hv (by omega) ?_;conv=>whnf
    refine zai hk rfl ?_;conv=>whnf
    refine sOm ?_
    refine zai hv (by omega) ?_;conv=>whnf
    refine sR ?_
    refine sOm ?_
    refine zai hv (by omega) ?_;conv=>whnf
    repeat (refine hcut.go ?_;conv=>whnf)
    refine zbe rfl (by simp;omega) ?_;conv=>whnf
    have hms2:(midS s k m).mids=_:=hms
    rw [hat] at hms2
    (exact zbz (pK10 []) (by repeat' (first | exact z0 | refine z1 ?_ | refine ⟨?_,?_⟩ | ((rw [hmo];rfl)) | ((exact ztc hmo)) | ((exact (zdk rfl).trans (zao (by rw [hms2])))) | exact z2)))
 . refine sN ?_
   repeat (refine hcut.go ?_;conv=>whnf)
   refine zai hk rfl ?_;conv=>whnf
   have hmo:midOf s m=m.mid:=by rw [midOf,if_neg c1]
   have hms:zcj s m=s.mids:=by rw [zcj,if_neg c1]
   (exact zbz (pK10 []) (by repeat' (first | exact z0 | refine z1 ?_ | refine ⟨?_,?_⟩ | ((rw [hmo];rfl)) | ((exact zao (by rw [zvv hk hmo]))) | ((exact zao (by rw [show (midS s k m).mids=s.mids from hms]))) | exact z2)))
end Snd
end Go.HL
namespace Go.HL
open Go.Proofs
namespace Snd
open Ser
set_option maxHeartbeats 8000000
set_option maxRecDepth 100000
set_option linter.unusedSimpArgs false
theorem ylu (id:Int) (s:Sender) (m:Queued):(end1 id s m).out.length=s.out.length+(if m.id=id /\ m.parts > 0 then 1 else 0):=by
 unfold end1;split <;> simp
theorem ybt (id:Int):∀ (q:List Queued) (s:Sender),(q.foldl (end1 id) s).out.length+(q.filter fun m=>decide (m.id ≠ id)).length <= s.out.length+q.length
 | [],s=>by simp
 | m :: q,s=>by
  have h1:=ylu id s m
  have h2:=ybt id q (end1 id s m)
  rw [List.foldl_cons,List.filter_cons,List.length_cons]
  by_cases c:m.id=id
  . simp [c] at h1 h2 ⊢;split at h1 <;> omega
  . simp [c] at h1 h2 ⊢;omega
theorem ybu (id:Int):∀ (q:List Queued) (s:Sender),∀ x ∈ (q.foldl (end1 id) s).out,x ∈ s.out \/ x.id=id
 | [],s,x,h=>.inl h
 | m :: q,s,x,h=>by
  rcases ybu id q (end1 id s m) x h with h | h
  . unfold end1 at h
    split at h
    . rename_i c
      rcases List.mem_append.1 h with h | h
      . exact .inl h
      . rw [List.mem_singleton] at h;subst h;exact .inr c.1
    . exact .inl h
  . exact .inr h
structure GFit (s:Sender):Prop where
 fit:Fit s
 sum:s.out.length+s.queue.length < 2 ^ 30
 qid:∀ m ∈ s.queue,0 <= m.id /\ m.id < s.fates.length
 xid:∀ x ∈ s.out,0 <= x.id /\ x.id < s.fates.length
structure Rest (s t:Sender):Prop where
 config:t.config=s.config
 clock:t.clock=s.clock
 had:t.sched.had=s.sched.had
 paths:t.paths.length=s.paths.length
 cum:t.cum=s.cum
 room:t.room=s.room
 mids:t.mids=s.mids
 fates:t.fates.length=s.fates.length
 sum:t.out.length+t.queue.length <= s.out.length+s.queue.length
theorem Rest.refl (s:Sender):Rest s s:=⟨rfl,rfl,rfl,rfl,rfl,rfl,rfl,rfl,Nat.le_refl _⟩
theorem Rest.trans {a b c:Sender} (h:Rest a b) (k:Rest b c):Rest a c:=⟨k.config.trans h.config,k.clock.trans h.clock,k.had.trans h.had,k.paths.trans h.paths,k.cum.trans h.cum,k.room.trans h.room,k.mids.trans h.mids,k.fates.trans h.fates,Nat.le_trans k.sum h.sum⟩
theorem zgs (s:Sender) (id:Nat):Rest s (giveS s id) /\ Sco.total (giveS s id).out=Sco.total s.out /\ (∀ m ∈ (giveS s id).queue,m ∈ s.queue) /\ (∀ x ∈ (giveS s id).out,x.id=id \/ ∃ y ∈ s.out,y.id=x.id):=by
 obtain ⟨o,n,h1,h2,h3⟩:=yhn s id s.queue
 have hs:=ybt id s.queue { s with fates:=s.fates.set id 3 }
 have hm:=ybu id s.queue { s with fates:=s.fates.set id 3 }
 rw [h1] at hs hm
 have hg:giveS s id=flights { (giveF s id o n) with queue:=s.queue.filter fun m=>decide (m.id ≠ id),sched:=if s.sched.hand=id then { s.sched with hand:=-1 } else s.sched,out:=o.map (Sco.give id),forward:=true }:=by
  show flights { (s.queue.foldl (end1 id) { s with fates:=s.fates.set id 3 }) with queue:=s.queue.filter fun m=>decide (m.id ≠ id),sched:=if s.sched.hand=id then { s.sched with hand:=-1 } else s.sched,out:=(s.queue.foldl (end1 id) { s with fates:=s.fates.set id 3 }).out.map (Sco.give id),forward:=true }=_
  rw [h1];rfl
 have hid:∀ y:Sent,(Sco.give id y).id=y.id:=fun y=>by unfold Sco.give;split <;> rfl
 rw [hg]
 refine ⟨⟨rfl,rfl,?_,?_,rfl,rfl,rfl,?_,?_⟩,?_,?_,?_⟩
 . show (if s.sched.hand=id then { s.sched with hand:=-1 } else s.sched:Sched).had=_;split <;> rfl
 . show (s.paths.mapIdx _).length=_;simp
 . show (s.fates.set id 3).length=_;simp
 . show (o.map (Sco.give id)).length+_ <= _
   rw [List.length_map];exact hs
 . show Sco.total (o.map (Sco.give id))=_
   rw [zgr,h3]
 . intro m h;exact (List.mem_filter.1 h).1
 . intro x h
   obtain ⟨y,hy,rfl⟩:=List.mem_map.1 h
   rcases hm y hy with h | h
   . exact .inr ⟨y,h,(hid y).symm⟩
   . exact .inl ((hid y).trans h)
theorem ztd {s:Sender} (h:GFit s) {id:Nat} (hid:id < s.fates.length):GFit (giveS s id):=by
 obtain ⟨r,h1,h2,h3⟩:=zgs s id
 obtain ⟨⟨f1,f2,f3,f4,f5,f6,f7⟩,g2,g3,g4⟩:=h
 have hs:=r.sum
 have hq:(giveS s id).queue.length <= s.queue.length:=by
  have:(giveS s id).queue=s.queue.filter fun m:Queued=>decide (m.id ≠ (id:Int)):=rfl
  rw [this];exact List.length_filter_le _ _
 refine ⟨⟨by omega,by rw [r.had];exact f2,⟨by omega,by rw [h1];exact f3.bytes⟩,by rw [r.paths];exact f4,by rw [r.mids];exact f5,by rw [r.fates];exact f6,fun m hm=>f7 m (h2 m hm)⟩,by omega,fun m hm=>by rw [r.fates];exact g3 m (h2 m hm),fun x hx=>?_⟩
 rw [r.fates]
 rcases h3 x hx with e | ⟨y,hy,e⟩
 . rw [e];omega
 . rw [<- e];exact g4 y hy
theorem zte {s:Sender} (h:GFit s) {m:Queued} (hm:0 <= m.id /\ m.id < s.fates.length):GFit (expQ s m) /\ Rest s (expQ s m):=by
 unfold expQ
 split
 . obtain ⟨k,hk⟩:∃ k:Nat,m.id=k:=⟨m.id.toNat,by omega⟩
   rw [hk]
   exact ⟨ztd h (by omega),(zgs s k).1⟩
 . exact ⟨h,Rest.refl s⟩
theorem ztf {s:Sender} (h:GFit s) {x:Sent} (hm:0 <= x.id /\ x.id < s.fates.length):GFit (expX s x) /\ Rest s (expX s x):=by
 unfold expX
 split
 . obtain ⟨k,hk⟩:∃ k:Nat,x.id=k:=⟨x.id.toNat,by omega⟩
   rw [hk]
   exact ⟨ztd h (by omega),(zgs s k).1⟩
 . exact ⟨h,Rest.refl s⟩
theorem zvx (s:Sender)  (hs:GFit s):FunOK Tryz.prog 93 [.ptr 1000 0] (lk .free (pH3 s )) (.tup []) (lk .free (pD3 (expire s) )):=by
 have hs':=hs
 obtain ⟨⟨h1,h2,h3,h4,h5,h6,h7⟩,g2,g3,g4⟩:=hs
 generalize hE:expire s=E
 refine zal mixed Tryz.func93 (by decide) [1000,1001,1002,1003,1004,1005,1006,1007] zbn ?_
 conv=>whnf
 (refine zag [] [(1000,1001)] [(0,11)] ?_;(conv=>whnf);refine dG (ynf s.queue (by omega)) ?_)
 refine ⟨{ x:(List Queued × List Queued) × Sender // s.queue=x.1.1++x.1.2 /\ x.1.1.foldl expQ s=x.2 /\ GFit x.2 /\ Rest s x.2 },
  fun | ⟨((A,B),t),_⟩=>hsP [1000,1001,1002,1003,1004,1005,1006,1007] 85 [(0,.ptr 1000 0),(11,.own 11),(12,i64 s.queue.length),(13,i64 A.length)] (snG3 t  900 901 902 903 904 905 1007 [(1001,.dead),(1002,.dead),(1003,.dead),(1004,.dead),(1005,.dead),(1006,.dead),(11,rowQ s.queue)]),fun x=>x.1.1.2.length,⟨(([],s.queue),s),rfl,rfl,hs',Rest.refl s⟩,?_,?_⟩
 . exact (hle_P (pK8 ((900,some 1001) :: (901,some 1002) :: (902,some 1003) :: (903,some 1004) :: (904,some 1005) :: (905,some 1006) :: [(11,some 11)])))
 rintro ⟨⟨⟨A,B⟩,t⟩,k1,k2,k3,k4⟩
 dsimp only at k1 k2 k3 k4
 refine zbk fun Q hQ=>?_
 conv=>whnf
 cases B with
 | cons m B =>
  have hz:=zar k1
  have hnext:(A++[m]).foldl expQ s=expQ t m:=by rw [List.foldl_append,k2];rfl
  have hm:=g3 m (zfb k1)
  have ht:=k4.fates
  obtain ⟨id,hid⟩:∃ k:Nat,m.id=k:=⟨m.id.toNat,by omega⟩
  obtain ⟨kn,kr⟩:=zte k3 (m:=m) (by omega)
  refine sT ?_
  refine sO ?_
  refine zaj k1 rfl ?_;conv=>whnf
  (refine zag [] [(1000,1000),(1001,900),(1002,901),(1003,902),(1004,903),(1005,904),(1006,905),(1007,1007)] [] ?_;(conv=>whnf);refine dG (zvr t  m.came m.message.life) ?_)
  cases ho:old t.clock m.came m.message.life with
  | true =>
   rw [expQ,if_pos ho] at hnext kn kr
   have pg:=zon t  id k3.fit (by omega) (by have:=k3.sum;omega)
   rw [<- hid] at pg
   conv=>whnf
   repeat (refine hcut.go ?_;conv=>whnf)
   (refine zag [] [(1000,1000),(1001,900),(1002,901),(1003,902),(1004,903),(1005,904),(1006,905),(1007,1007)] [(0,910),(1,911),(2,912),(3,913),(4,914),(5,915)] ?_;(conv=>whnf);refine dG pg ?_)
   refine sF ?_
   refine hQ _ _ ?_;conv=>whnf
   exact ⟨⟨((A++[m],B),giveS t m.id),zae k1,hnext,kn,k4.trans kr⟩,(hle_P (pK8 ((900,some 910) :: (901,some 911) :: (902,some 912) :: (903,some 913) :: (904,some 914) :: (905,some 915) :: [(11,some 11)]))),by simp⟩
  | false =>
   rw [expQ,if_neg (by rw [ho];decide)] at hnext
   conv=>whnf
   repeat (refine hcut.go ?_;conv=>whnf)
   refine sF ?_
   refine hQ _ _ ?_;conv=>whnf
   exact ⟨⟨((A++[m],B),t),zae k1,hnext,k3,k4⟩,(hle_P (pK8 (pJ6 [(11,some 11)]))),by simp⟩
 | nil =>
  have hz:=zaz k1
  rw [List.append_nil] at k1
  rw [<- k1] at k2
  have hE2:t.out.foldl expX t=E:=by rw [<- hE,expire,k2]
  have ko:=k3.sum
  refine sN ?_
  refine hQ _ _ ?_;conv=>whnf
  (refine zag [] [(1000,902)] [(0,34)] ?_;(conv=>whnf);refine dG (yng t.out (by omega)) ?_)
  refine ⟨{ x:(List Sent × List Sent) × Sender // t.out=x.1.1++x.1.2 /\ x.1.1.foldl expX t=x.2 /\ GFit x.2 /\ Rest t x.2 },
   fun | ⟨((A,B),u),_⟩=>hsP [1000,1001,1002,1003,1004,1005,1006,1007] 85 [(0,.ptr 1000 0),(34,.own 34),(35,i64 t.out.length),(36,i64 A.length)] (snG3 u  900 901 902 903 904 905 1007 [(1001,.dead),(1002,.dead),(1003,.dead),(1004,.dead),(1005,.dead),(1006,.dead),(34,rowX t.out)]),fun x=>x.1.1.2.length,⟨(([],t.out),t),rfl,rfl,k3,Rest.refl t⟩,?_,?_⟩
  . exact (hle_P (pK8 (pJ6 [(34,some 34)])))
  have g4:=k3.xid
  clear hs' g3 g2 k4 k2 k1 hE hQ Q
  rintro ⟨⟨⟨A,B⟩,u⟩,k1,k2,k3,k4⟩
  dsimp only at k1 k2 k3 k4
  refine zbk fun Q hQ=>?_
  conv=>whnf
  cases B with
  | cons x B =>
   have hz:=zar k1
   have hnext:(A++[x]).foldl expX t=expX u x:=by rw [List.foldl_append,k2];rfl
   have hm:=g4 x (zfb k1)
   have ht:=k4.fates
   obtain ⟨id,hid⟩:∃ k:Nat,x.id=k:=⟨x.id.toNat,by omega⟩
   obtain ⟨kn,kr⟩:=ztf k3 (x:=x) (by omega)
   have hidl:id < u.fates.length:=by omega
   have pg:=zon u  id k3.fit hidl (by have:=k3.sum;omega)
   rw [<- hid] at pg
   obtain ⟨f,hf⟩:∃ f,u.fates[id]?=some f:=⟨_,List.getElem?_eq_getElem hidl⟩
   have hdue:dueX u x=(decide (f=1) && (decide (x.state ≠ 2) && (old u.clock x.came x.life || (decide (x.state=3) && (decide (x.tries > 0) && decide (x.times > x.tries)))))):=by
    unfold dueX
    rw [hid,Int.toNat_natCast,hf];rfl
   refine sT ?_
   refine sO ?_
   refine zaj k1 rfl ?_;conv=>whnf
   refine sOm ?_
   refine zai hf (by omega) ?_;conv=>whnf
   by_cases d1:f=1
   case neg =>
    refine zab ?_ ?_
    . simpa using d1
    conv=>whnf
    refine sD ?_
    repeat (refine hcut.go ?_;conv=>whnf)
    refine sF ?_
    refine hQ _ _ ?_;conv=>whnf
    rw [expX,if_neg (by rw [hdue];simp [d1])] at hnext
    exact ⟨⟨((A++[x],B),u),zae k1,hnext,k3,k4⟩,(hle_P (pK8 (pJ6 [(34,some 34)]))),by simp⟩
   refine zad ?_ ?_
   . simpa using d1
   conv=>whnf
   by_cases d2:x.state=2
   case pos =>
    refine zab ?_ ?_
    . simpa using d2
    conv=>whnf
    refine sD ?_
    repeat (refine hcut.go ?_;conv=>whnf)
    refine sF ?_
    refine hQ _ _ ?_;conv=>whnf
    rw [expX,if_neg (by rw [hdue];simp [d1,d2])] at hnext
    exact ⟨⟨((A++[x],B),u),zae k1,hnext,k3,k4⟩,(hle_P (pK8 (pJ6 [(34,some 34)]))),by simp⟩
   refine zad ?_ ?_
   . simpa using d2
   conv=>whnf
   (refine zag [] [(1000,1000),(1001,900),(1002,901),(1003,902),(1004,903),(1005,904),(1006,905),(1007,1007)] [] ?_;(conv=>whnf);refine dG (zvr u  x.came x.life) ?_)
   cases d3:old u.clock x.came x.life with
   | true =>
    conv=>whnf
    refine sD ?_
    repeat (refine hcut.go ?_;conv=>whnf)
    (refine zag [] [(1000,1000),(1001,900),(1002,901),(1003,902),(1004,903),(1005,904),(1006,905),(1007,1007)] [(0,910),(1,911),(2,912),(3,913),(4,914),(5,915)] ?_;(conv=>whnf);refine dG pg ?_)
    refine sF ?_
    refine hQ _ _ ?_;conv=>whnf
    rw [expX,if_pos (by rw [hdue];simp [d1,d2,d3])] at hnext kn kr
    exact ⟨⟨((A++[x],B),giveS u x.id),zae k1,hnext,kn,k4.trans kr⟩,(hle_P (pK8 ((900,some 910) :: (901,some 911) :: (902,some 912) :: (903,some 913) :: (904,some 914) :: (905,some 915) :: [(34,some 34)]))),by simp⟩
   | false =>
   conv=>whnf
   by_cases d4:x.state=3
   case neg =>
    refine zab ?_ ?_
    . simpa using d4
    conv=>whnf
    refine sD ?_
    repeat (refine hcut.go ?_;conv=>whnf)
    refine sF ?_
    refine hQ _ _ ?_;conv=>whnf
    rw [expX,if_neg (by rw [hdue];simp [d1,d2,d3,d4])] at hnext
    exact ⟨⟨((A++[x],B),u),zae k1,hnext,k3,k4⟩,(hle_P (pK8 (pJ6 [(34,some 34)]))),by simp⟩
   refine zad ?_ ?_
   . simpa using d4
   conv=>whnf
   by_cases d5:x.tries > 0
   case neg =>
    refine zab ?_ ?_
    . simpa using d5
    conv=>whnf
    refine sD ?_
    repeat (refine hcut.go ?_;conv=>whnf)
    refine sF ?_
    refine hQ _ _ ?_;conv=>whnf
    rw [expX,if_neg (by rw [hdue];simp [d1,d2,d3,d4,d5])] at hnext
    exact ⟨⟨((A++[x],B),u),zae k1,hnext,k3,k4⟩,(hle_P (pK8 (pJ6 [(34,some 34)]))),by simp⟩
   refine zad ?_ ?_
   . simpa using d5
   conv=>whnf
   refine sD ?_
   by_cases d6:x.times > x.tries
   case neg =>
    refine zab ?_ ?_
    . simpa using d6
    conv=>whnf
    repeat (refine hcut.go ?_;conv=>whnf)
    refine sF ?_
    refine hQ _ _ ?_;conv=>whnf
    rw [expX,if_neg (by rw [hdue];simp [d1,d2,d3,d4,d5,d6])] at hnext
    exact ⟨⟨((A++[x],B),u),zae k1,hnext,k3,k4⟩,(hle_P (pK8 (pJ6 [(34,some 34)]))),by simp⟩
   refine zad ?_ ?_
   . simpa using d6
   conv=>whnf
   repeat (refine hcut.go ?_;conv=>whnf)
   (refine zag [] [(1000,1000),(1001,900),(1002,901),(1003,902),(1004,903),(1005,904),(1006,905),(1007,1007)] [(0,910),(1,911),(2,912),(3,913),(4,914),(5,915)] ?_;(conv=>whnf);refine dG pg ?_)
   refine sF ?_
   refine hQ _ _ ?_;conv=>whnf
   rw [expX,if_pos (by rw [hdue];simp [d1,d2,d3,d4,d5,d6])] at hnext kn kr
   exact ⟨⟨((A++[x],B),giveS u x.id),zae k1,hnext,kn,k4.trans kr⟩,(hle_P (pK8 ((900,some 910) :: (901,some 911) :: (902,some 912) :: (903,some 913) :: (904,some 914) :: (905,some 915) :: [(34,some 34)]))),by simp⟩
  | nil =>
   have hz:=zaz k1
   rw [List.append_nil] at k1
   rw [<- k1] at k2
   refine sN ?_
   refine hQ _ _ ?_;conv=>whnf
   have hu:u=E:=by rw [<- k2,hE2]
   rw [<- hu]
   (exact zbw (pK8 [(0,some 900),(1,some 901),(2,some 902),(3,some 903),(4,some 904),(5,some 905)]))
theorem zvy (s:Sender)  (hs:GFit s):FunOK Tryz.prog 93 [.ptr 1000 0] (lk .free (pH4 s )) (.tup []) (lk .free (pD4 (expire s) )):=by
 have hs':=hs
 obtain ⟨⟨h1,h2,h3,h4,h5,h6,h7⟩,g2,g3,g4⟩:=hs
 generalize hE:expire s=E
 refine zal mixed Tryz.func93 (by decide) [1000,1001,1002,1003,1004,1005,1006,1007] zbn ?_
 conv=>whnf
 (refine zag [] [(1000,1001)] [(0,11)] ?_;(conv=>whnf);refine dG (ynf s.queue (by omega)) ?_)
 refine ⟨{ x:(List Queued × List Queued) × Sender // s.queue=x.1.1++x.1.2 /\ x.1.1.foldl expQ s=x.2 /\ GFit x.2 /\ Rest s x.2 },
  fun | ⟨((A,B),t),_⟩=>hsP [1000,1001,1002,1003,1004,1005,1006,1007] 85 [(0,.ptr 1000 0),(11,.own 11),(12,i64 s.queue.length),(13,i64 A.length)] (snG4 t  900 901 902 903 904 905 1007 [(1001,.dead),(1002,.dead),(1003,.dead),(1004,.dead),(1005,.dead),(1006,.dead),(11,rowQ s.queue)]),fun x=>x.1.1.2.length,⟨(([],s.queue),s),rfl,rfl,hs',Rest.refl s⟩,?_,?_⟩
 . exact (hle_P (pK8 ((900,some 1001) :: (901,some 1002) :: (902,some 1003) :: (903,some 1004) :: (904,some 1005) :: (905,some 1006) :: [(11,some 11)])))
 rintro ⟨⟨⟨A,B⟩,t⟩,k1,k2,k3,k4⟩
 dsimp only at k1 k2 k3 k4
 refine zbk fun Q hQ=>?_
 conv=>whnf
 cases B with
 | cons m B =>
  have hz:=zar k1
  have hnext:(A++[m]).foldl expQ s=expQ t m:=by rw [List.foldl_append,k2];rfl
  have hm:=g3 m (zfb k1)
  have ht:=k4.fates
  obtain ⟨id,hid⟩:∃ k:Nat,m.id=k:=⟨m.id.toNat,by omega⟩
  obtain ⟨kn,kr⟩:=zte k3 (m:=m) (by omega)
  refine sT ?_
  refine sO ?_
  refine zaj k1 rfl ?_;conv=>whnf
  (refine zag [] [(1000,1000),(1001,900),(1002,901),(1003,902),(1004,903),(1005,904),(1006,905),(1007,1007)] [] ?_;(conv=>whnf);refine dG (zvs t  m.came m.message.life) ?_)
  cases ho:old t.clock m.came m.message.life with
  | true =>
   rw [expQ,if_pos ho] at hnext kn kr
   have pg:=zoo t  id k3.fit (by omega) (by have:=k3.sum;omega)
   rw [<- hid] at pg
   conv=>whnf
   repeat (refine hcut.go ?_;conv=>whnf)
   (refine zag [] [(1000,1000),(1001,900),(1002,901),(1003,902),(1004,903),(1005,904),(1006,905),(1007,1007)] [(0,910),(1,911),(2,912),(3,913),(4,914),(5,915)] ?_;(conv=>whnf);refine dG pg ?_)
   refine sF ?_
   refine hQ _ _ ?_;conv=>whnf
   exact ⟨⟨((A++[m],B),giveS t m.id),zae k1,hnext,kn,k4.trans kr⟩,(hle_P (pK8 ((900,some 910) :: (901,some 911) :: (902,some 912) :: (903,some 913) :: (904,some 914) :: (905,some 915) :: [(11,some 11)]))),by simp⟩
  | false =>
   rw [expQ,if_neg (by rw [ho];decide)] at hnext
   conv=>whnf
   repeat (refine hcut.go ?_;conv=>whnf)
   refine sF ?_
   refine hQ _ _ ?_;conv=>whnf
   exact ⟨⟨((A++[m],B),t),zae k1,hnext,k3,k4⟩,(hle_P (pK8 (pJ6 [(11,some 11)]))),by simp⟩
 | nil =>
  have hz:=zaz k1
  rw [List.append_nil] at k1
  rw [<- k1] at k2
  have hE2:t.out.foldl expX t=E:=by rw [<- hE,expire,k2]
  have ko:=k3.sum
  refine sN ?_
  refine hQ _ _ ?_;conv=>whnf
  (refine zag [] [(1000,902)] [(0,34)] ?_;(conv=>whnf);refine dG (yng t.out (by omega)) ?_)
  refine ⟨{ x:(List Sent × List Sent) × Sender // t.out=x.1.1++x.1.2 /\ x.1.1.foldl expX t=x.2 /\ GFit x.2 /\ Rest t x.2 },
   fun | ⟨((A,B),u),_⟩=>hsP [1000,1001,1002,1003,1004,1005,1006,1007] 85 [(0,.ptr 1000 0),(34,.own 34),(35,i64 t.out.length),(36,i64 A.length)] (snG4 u  900 901 902 903 904 905 1007 [(1001,.dead),(1002,.dead),(1003,.dead),(1004,.dead),(1005,.dead),(1006,.dead),(34,rowX t.out)]),fun x=>x.1.1.2.length,⟨(([],t.out),t),rfl,rfl,k3,Rest.refl t⟩,?_,?_⟩
  . exact (hle_P (pK8 (pJ6 [(34,some 34)])))
  have g4:=k3.xid
  clear hs' g3 g2 k4 k2 k1 hE hQ Q
  rintro ⟨⟨⟨A,B⟩,u⟩,k1,k2,k3,k4⟩
  dsimp only at k1 k2 k3 k4
  refine zbk fun Q hQ=>?_
  conv=>whnf
  cases B with
  | cons x B =>
   have hz:=zar k1
   have hnext:(A++[x]).foldl expX t=expX u x:=by rw [List.foldl_append,k2];rfl
   have hm:=g4 x (zfb k1)
   have ht:=k4.fates
   obtain ⟨id,hid⟩:∃ k:Nat,x.id=k:=⟨x.id.toNat,by omega⟩
   obtain ⟨kn,kr⟩:=ztf k3 (x:=x) (by omega)
   have hidl:id < u.fates.length:=by omega
   have pg:=zoo u  id k3.fit hidl (by have:=k3.sum;omega)
   rw [<- hid] at pg
   obtain ⟨f,hf⟩:∃ f,u.fates[id]?=some f:=⟨_,List.getElem?_eq_getElem hidl⟩
   have hdue:dueX u x=(decide (f=1) && (decide (x.state ≠ 2) && (old u.clock x.came x.life || (decide (x.state=3) && (decide (x.tries > 0) && decide (x.times > x.tries)))))):=by
    unfold dueX
    rw [hid,Int.toNat_natCast,hf];rfl
   refine sT ?_
   refine sO ?_
   refine zaj k1 rfl ?_;conv=>whnf
   refine sOm ?_
   refine zai hf (by omega) ?_;conv=>whnf
   by_cases d1:f=1
   case neg =>
    refine zab ?_ ?_
    . simpa using d1
    conv=>whnf
    refine sD ?_
    repeat (refine hcut.go ?_;conv=>whnf)
    refine sF ?_
    refine hQ _ _ ?_;conv=>whnf
    rw [expX,if_neg (by rw [hdue];simp [d1])] at hnext
    exact ⟨⟨((A++[x],B),u),zae k1,hnext,k3,k4⟩,(hle_P (pK8 (pJ6 [(34,some 34)]))),by simp⟩
   refine zad ?_ ?_
   . simpa using d1
   conv=>whnf
   by_cases d2:x.state=2
   case pos =>
    refine zab ?_ ?_
    . simpa using d2
    conv=>whnf
    refine sD ?_
    repeat (refine hcut.go ?_;conv=>whnf)
    refine sF ?_
    refine hQ _ _ ?_;conv=>whnf
    rw [expX,if_neg (by rw [hdue];simp [d1,d2])] at hnext
    exact ⟨⟨((A++[x],B),u),zae k1,hnext,k3,k4⟩,(hle_P (pK8 (pJ6 [(34,some 34)]))),by simp⟩
   refine zad ?_ ?_
   . simpa using d2
   conv=>whnf
   (refine zag [] [(1000,1000),(1001,900),(1002,901),(1003,902),(1004,903),(1005,904),(1006,905),(1007,1007)] [] ?_;(conv=>whnf);refine dG (zvs u  x.came x.life) ?_)
   cases d3:old u.clock x.came x.life with
   | true =>
    conv=>whnf
    refine sD ?_
    repeat (refine hcut.go ?_;conv=>whnf)
    (refine zag [] [(1000,1000),(1001,900),(1002,901),(1003,902),(1004,903),(1005,904),(1006,905),(1007,1007)] [(0,910),(1,911),(2,912),(3,913),(4,914),(5,915)] ?_;(conv=>whnf);refine dG pg ?_)
    refine sF ?_
    refine hQ _ _ ?_;conv=>whnf
    rw [expX,if_pos (by rw [hdue];simp [d1,d2,d3])] at hnext kn kr
    exact ⟨⟨((A++[x],B),giveS u x.id),zae k1,hnext,kn,k4.trans kr⟩,(hle_P (pK8 ((900,some 910) :: (901,some 911) :: (902,some 912) :: (903,some 913) :: (904,some 914) :: (905,some 915) :: [(34,some 34)]))),by simp⟩
   | false =>
   conv=>whnf
   by_cases d4:x.state=3
   case neg =>
    refine zab ?_ ?_
    . simpa using d4
    conv=>whnf
    refine sD ?_
    repeat (refine hcut.go ?_;conv=>whnf)
    refine sF ?_
    refine hQ _ _ ?_;conv=>whnf
    rw [expX,if_neg (by rw [hdue];simp [d1,d2,d3,d4])] at hnext
    exact ⟨⟨((A++[x],B),u),zae k1,hnext,k3,k4⟩,(hle_P (pK8 (pJ6 [(34,some 34)]))),by simp⟩
   refine zad ?_ ?_
   . simpa using d4
   conv=>whnf
   by_cases d5:x.tries > 0
   case neg =>
    refine zab ?_ ?_
    . simpa using d5
    conv=>whnf
    refine sD ?_
    repeat (refine hcut.go ?_;conv=>whnf)
    refine sF ?_
    refine hQ _ _ ?_;conv=>whnf
    rw [expX,if_neg (by rw [hdue];simp [d1,d2,d3,d4,d5])] at hnext
    exact ⟨⟨((A++[x],B),u),zae k1,hnext,k3,k4⟩,(hle_P (pK8 (pJ6 [(34,some 34)]))),by simp⟩
   refine zad ?_ ?_
   . simpa using d5
   conv=>whnf
   refine sD ?_
   by_cases d6:x.times > x.tries
   case neg =>
    refine zab ?_ ?_
    . simpa using d6
    conv=>whnf
    repeat (refine hcut.go ?_;conv=>whnf)
    refine sF ?_
    refine hQ _ _ ?_;conv=>whnf
    rw [expX,if_neg (by rw [hdue];simp [d1,d2,d3,d4,d5,d6])] at hnext
    exact ⟨⟨((A++[x],B),u),zae k1,hnext,k3,k4⟩,(hle_P (pK8 (pJ6 [(34,some 34)]))),by simp⟩
   refine zad ?_ ?_
   . simpa using d6
   conv=>whnf
   repeat (refine hcut.go ?_;conv=>whnf)
   (refine zag [] [(1000,1000),(1001,900),(1002,901),(1003,902),(1004,903),(1005,904),(1006,905),(1007,1007)] [(0,910),(1,911),(2,912),(3,913),(4,914),(5,915)] ?_;(conv=>whnf);refine dG pg ?_)
   refine sF ?_
   refine hQ _ _ ?_;conv=>whnf
   rw [expX,if_pos (by rw [hdue];simp [d1,d2,d3,d4,d5,d6])] at hnext kn kr
   exact ⟨⟨((A++[x],B),giveS u x.id),zae k1,hnext,kn,k4.trans kr⟩,(hle_P (pK8 ((900,some 910) :: (901,some 911) :: (902,some 912) :: (903,some 913) :: (904,some 914) :: (905,some 915) :: [(34,some 34)]))),by simp⟩
  | nil =>
   have hz:=zaz k1
   rw [List.append_nil] at k1
   rw [<- k1] at k2
   refine sN ?_
   refine hQ _ _ ?_;conv=>whnf
   have hu:u=E:=by rw [<- k2,hE2]
   rw [<- hu]
   (exact zbw (pK8 [(0,some 900),(1,some 901),(2,some 902),(3,some 903),(4,some 904),(5,some 905)]))
end Snd
end Go.HL
namespace Go.HL
open Go.Proofs
namespace Snd
open Ser
set_option maxHeartbeats 8000000
set_option maxRecDepth 100000
set_option linter.unusedSimpArgs false
def nth0 (l:List (List Chunk)):List Chunk:=l[0]?.getD []
def nth1 (l:List (List Chunk)):List Chunk:=l[1]?.getD []
theorem zvz:∀ (l:List Path) (k:Nat),(k=0 -> 0 < l.length) -> ∃ c:Nat,Paths.zco k l=c /\ (c=0 \/ c < k+l.length)
 | [],k,h=>⟨0,rfl,.inl rfl⟩
 | p :: r,k,_=>by
  rw [Paths.zco]
  split
  . exact ⟨k,rfl,.inr (by simp)⟩
  . obtain ⟨c,h1,h2⟩:=zvz r (k+1) (by omega)
    exact ⟨c,h1,by rcases h2 with h2 | h2;exact .inl h2;exact .inr (by simp;omega)⟩
theorem zcc {s:Sender} (h:0 < s.paths.length):Paths.zco 0 s.paths=(choose s:Nat) /\ choose s < s.paths.length:=by
 obtain ⟨c,h1,h2⟩:=zvz s.paths 0 fun _=>h
 unfold choose
 rw [h1]
 exact ⟨by simp,by rcases h2 with h2 | h2 <;> simp <;> omega⟩
def fwdC (s:Sender):Chunk:=⟨3,tag (Sco.point s.out s.cum).1,0,0,0,false,false,[],[],0,(Sco.point s.out s.cum).2⟩
def fwdS (s:Sender) (k:Nat) (w:Path):Sender:={ s with forward:=false,paths:=s.paths.set k (alarm s w) }
theorem zmd {s:Sender} {o:List (List Chunk)} (h:s.forward=false \/ (Sco.point s.out s.cum).1=s.cum):forward ⟨s,o⟩=⟨s,o⟩:=by rw [forward,if_pos h]
theorem zop {s:Sender} {o:List (List Chunk)} {w:Path} {l:List Chunk} (h:¬ (s.forward=false \/ (Sco.point s.out s.cum).1=s.cum)) (ha:s.paths[choose s]?=some w) (hl:o[choose s]?=some l) :
 forward ⟨s,o⟩=⟨fwdS s (choose s) w,o.set (choose s) (l++[fwdC s])⟩:=by
 rw [forward,if_neg h]
 simp only [setAt,ha,hl,fwdS,fwdC]
theorem zkd {s:Sender} {w:Path} (h:¬ w.alarm=0):alarm s w=w:=by rw [alarm,if_neg h]
theorem zhu {s:Sender} {w:Path} (h:w.alarm=0):alarm s w={ w with alarm:=W (s.clock+w.wait) }:=by rw [alarm,if_pos h]
theorem ztg (s:Sender) (h3:s.out.length < 2 ^ 38) (h4:s.paths.length=1) :
 FunOK Tryz.prog 94 [.ptr 1000 0] (lk .free (pH3 s)) (.tup [])
  (lk .free (snG1 (forward ⟨s,[[]]⟩).s (nth0 (forward ⟨s,[[]]⟩).out) 1001 1002 1003 1004 1005 1006 1007 0 [])):=by
 obtain ⟨hch,hch2⟩:=zcc (s:=s) (by omega)
 have hc0:choose s=0:=by omega
 have pc:=Paths.zda s.paths (by omega)
 rw [hch,hc0] at pc
 obtain ⟨w,ha⟩:∃ w,s.paths[0]?=some w:=⟨_,List.getElem?_eq_getElem (by omega)⟩
 refine zal mixed Tryz.func94 (by decide) [1000,1001,1002,1003,1004,1005,1006,1007] zbn ?_
 conv=>whnf
 (refine zag [] [(1000,1003)] [(0,17)] ?_;(conv=>whnf);refine dG (Sco.zdj s.out s.cum h3) ?_)
 refine sD ?_
 by_cases c1:s.forward=false
 . rw [zmd (.inl c1)]
   refine zad ?_ ?_
   . simp [c1]
   conv=>whnf
   repeat (refine hcut.go ?_;conv=>whnf)
   (exact zbw (pK8 [(0,none)]))
 by_cases c2:(Sco.point s.out s.cum).1=s.cum
 . rw [zmd (.inr c2)]
   refine zab ?_ ?_
   . simp [c1]
   conv=>whnf
   refine zad ?_ ?_
   . simp [c2]
   conv=>whnf
   repeat (refine hcut.go ?_;conv=>whnf)
   (exact zbw (pK8 [(0,none)]))
 have hfy:=zop (o:=[[]]) (l:=[]) (w:=w) (by rintro (h | h);exact c1 h;exact c2 h) (by rw [hc0];exact ha) (by rw [hc0];rfl)
 rw [hfy,hc0]
 refine zab ?_ ?_
 . simp [c1]
 conv=>whnf
 refine zab ?_ ?_
 . simp [c2]
 conv=>whnf
 repeat (refine hcut.go ?_;conv=>whnf)
 (refine cL ?_;refine dL pc ?_)
 refine ⟨0,rfl,by decide,?_⟩;conv=>whnf
 (refine cL ?_;refine dL (zci _) ?_)
 refine zaa (c:=(1:Nat) * 128 <= 140737488355328) (by decide) ?_;conv=>whnf
 refine ⟨0,rfl,by decide,?_⟩;conv=>whnf
 refine sD ?_
 refine sOm ?_
 refine zai ha rfl ?_;conv=>whnf
 by_cases c3:w.alarm=0
 case pos =>
  refine zad ?_ ?_
  . simpa using c3
  conv=>whnf
  repeat (refine hcut.go ?_;conv=>whnf)
  refine zai ha rfl ?_;conv=>whnf
  refine sR ?_
  refine zai ha rfl ?_;conv=>whnf
  refine sD ?_
  (exact zbz (pK8 [(0,some 62)]) (by repeat' (first | exact z0 | refine z1 ?_ | refine ⟨?_,?_⟩ | ((exact (zdk (f:=Path.row) (y:={ w with alarm:=W (s.clock+w.wait) }) rfl).trans (zao (by rw [show (fwdS s 0 w).paths=s.paths.set 0 (alarm s w) from rfl,zhu c3];rfl)))) | exact z2)))
 case neg =>
  refine zab ?_ ?_
  . simpa using c3
  conv=>whnf
  repeat (refine hcut.go ?_;conv=>whnf)
  rw [show (fwdS s 0 w)={ s with forward:=false } by { unfold fwdS;rw [zkd c3,zhc ha] }]
  (exact zbw (pK8 [(0,some 62)]))
theorem zth (s:Sender) (h3:s.out.length < 2 ^ 38) (h4:s.paths.length=2) :
 FunOK Tryz.prog 94 [.ptr 1000 0] (lk .free (pH4 s)) (.tup [])
  (lk .free (snG2 (forward ⟨s,[[],[]]⟩).s (nth0 (forward ⟨s,[[],[]]⟩).out) (nth1 (forward ⟨s,[[],[]]⟩).out) 1001 1002 1003 1004 1005 1006 1007 0 1 [])):=by
 obtain ⟨hch,hch2⟩:=zcc (s:=s) (by omega)
 have hc01:choose s=0 \/ choose s=1:=by omega
 rcases hc01 with hc0 | hc0
 case inl =>
  have pc:=Paths.zda s.paths (by omega)
  rw [hch,hc0] at pc
  obtain ⟨w,ha⟩:∃ w,s.paths[0]?=some w:=⟨_,List.getElem?_eq_getElem (by omega)⟩
  refine zal mixed Tryz.func94 (by decide) [1000,1001,1002,1003,1004,1005,1006,1007] zbn ?_
  conv=>whnf
  (refine zag [] [(1000,1003)] [(0,17)] ?_;(conv=>whnf);refine dG (Sco.zdj s.out s.cum h3) ?_)
  refine sD ?_
  by_cases c1:s.forward=false
  . rw [zmd (.inl c1)]
    refine zad ?_ ?_
    . simp [c1]
    conv=>whnf
    repeat (refine hcut.go ?_;conv=>whnf)
    (exact zbw (pK8 [(0,none),(1,none)]))
  by_cases c2:(Sco.point s.out s.cum).1=s.cum
  . rw [zmd (.inr c2)]
    refine zab ?_ ?_
    . simp [c1]
    conv=>whnf
    refine zad ?_ ?_
    . simp [c2]
    conv=>whnf
    repeat (refine hcut.go ?_;conv=>whnf)
    (exact zbw (pK8 [(0,none),(1,none)]))
  have hfy:=zop (o:=[[],[]]) (l:=[]) (w:=w) (by rintro (h | h);exact c1 h;exact c2 h) (by rw [hc0];exact ha) (by rw [hc0];rfl)
  rw [hfy,hc0]
  refine zab ?_ ?_
  . simp [c1]
  conv=>whnf
  refine zab ?_ ?_
  . simp [c2]
  conv=>whnf
  repeat (refine hcut.go ?_;conv=>whnf)
  (refine cL ?_;refine dL pc ?_)
  refine ⟨0,rfl,by decide,?_⟩;conv=>whnf
  (refine cL ?_;refine dL (zci _) ?_)
  refine zaa (c:=(1:Nat) * 128 <= 140737488355328) (by decide) ?_;conv=>whnf
  refine ⟨0,rfl,by decide,?_⟩;conv=>whnf
  refine sD ?_
  refine sOm ?_
  refine zai ha rfl ?_;conv=>whnf
  by_cases c3:w.alarm=0
  case pos =>
   refine zad ?_ ?_
   . simpa using c3
   conv=>whnf
   repeat (refine hcut.go ?_;conv=>whnf)
   refine zai ha rfl ?_;conv=>whnf
   refine sR ?_
   refine zai ha rfl ?_;conv=>whnf
   refine sD ?_
   (exact zbz (pK8 [(0,some 62),(1,none)]) (by repeat' (first | exact z0 | refine z1 ?_ | refine ⟨?_,?_⟩ | ((exact (zdk (f:=Path.row) (y:={ w with alarm:=W (s.clock+w.wait) }) rfl).trans (zao (by rw [show (fwdS s 0 w).paths=s.paths.set 0 (alarm s w) from rfl,zhu c3];rfl)))) | exact z2)))
  case neg =>
   refine zab ?_ ?_
   . simpa using c3
   conv=>whnf
   repeat (refine hcut.go ?_;conv=>whnf)
   rw [show (fwdS s 0 w)={ s with forward:=false } by { unfold fwdS;rw [zkd c3,zhc ha] }]
   (exact zbw (pK8 [(0,some 62),(1,none)]))
 case inr =>
  have pc:=Paths.zda s.paths (by omega)
  rw [hch,hc0] at pc
  obtain ⟨w,ha⟩:∃ w,s.paths[1]?=some w:=⟨_,List.getElem?_eq_getElem (by omega)⟩
  refine zal mixed Tryz.func94 (by decide) [1000,1001,1002,1003,1004,1005,1006,1007] zbn ?_
  conv=>whnf
  (refine zag [] [(1000,1003)] [(0,17)] ?_;(conv=>whnf);refine dG (Sco.zdj s.out s.cum h3) ?_)
  refine sD ?_
  by_cases c1:s.forward=false
  . rw [zmd (.inl c1)]
    refine zad ?_ ?_
    . simp [c1]
    conv=>whnf
    repeat (refine hcut.go ?_;conv=>whnf)
    (exact zbw (pK8 [(0,none),(1,none)]))
  by_cases c2:(Sco.point s.out s.cum).1=s.cum
  . rw [zmd (.inr c2)]
    refine zab ?_ ?_
    . simp [c1]
    conv=>whnf
    refine zad ?_ ?_
    . simp [c2]
    conv=>whnf
    repeat (refine hcut.go ?_;conv=>whnf)
    (exact zbw (pK8 [(0,none),(1,none)]))
  have hfy:=zop (o:=[[],[]]) (l:=[]) (w:=w) (by rintro (h | h);exact c1 h;exact c2 h) (by rw [hc0];exact ha) (by rw [hc0];rfl)
  rw [hfy,hc0]
  refine zab ?_ ?_
  . simp [c1]
  conv=>whnf
  refine zab ?_ ?_
  . simp [c2]
  conv=>whnf
  repeat (refine hcut.go ?_;conv=>whnf)
  (refine cL ?_;refine dL pc ?_)
  refine ⟨1,rfl,by decide,?_⟩;conv=>whnf
  (refine cL ?_;refine dL (zci _) ?_)
  refine zaa (c:=(1:Nat) * 128 <= 140737488355328) (by decide) ?_;conv=>whnf
  refine ⟨1,rfl,by decide,?_⟩;conv=>whnf
  refine sD ?_
  refine sOm ?_
  refine zai ha rfl ?_;conv=>whnf
  by_cases c3:w.alarm=0
  case pos =>
   refine zad ?_ ?_
   . simpa using c3
   conv=>whnf
   repeat (refine hcut.go ?_;conv=>whnf)
   refine zai ha rfl ?_;conv=>whnf
   refine sR ?_
   refine zai ha rfl ?_;conv=>whnf
   refine sD ?_
   (exact zbz (pK8 [(1,some 62),(0,none)]) (by repeat' (first | exact z0 | refine z1 ?_ | refine ⟨?_,?_⟩ | ((exact (zdk (f:=Path.row) (y:={ w with alarm:=W (s.clock+w.wait) }) rfl).trans (zao (by rw [show (fwdS s 1 w).paths=s.paths.set 1 (alarm s w) from rfl,zhu c3];rfl)))) | exact z2)))
  case neg =>
   refine zab ?_ ?_
   . simpa using c3
   conv=>whnf
   repeat (refine hcut.go ?_;conv=>whnf)
   rw [show (fwdS s 1 w)={ s with forward:=false } by { unfold fwdS;rw [zkd c3,zhc ha] }]
   (exact zbw (pK8 [(1,some 62),(0,none)]))
end Snd
end Go.HL
namespace Go.HL
open Go.Proofs
namespace Snd
open Ser
set_option maxHeartbeats 8000000
set_option maxRecDepth 100000
set_option linter.unusedSimpArgs false
theorem zfl {α:Type} (f:α -> Nat -> α) (p:α) (i:Nat):(List.range (i+1)).foldl f p=f ((List.range i).foldl f p) i:=by
 rw [List.range_succ,List.foldl_append];rfl
theorem zke {s:Sender} {o:List (List Chunk)} {i c:Nat} {x:Sent} {w:Path} (hx:s.out[i]?=some x) (hw:s.paths[c]?=some w) (h:¬ (x.state=3 /\ w.flight < w.window)):zbx c ⟨s,o⟩ i=⟨s,o⟩:=by
 simp only [zbx,hx,opened,hw]
 rw [if_neg (by simpa using h)]
theorem zhv {s:Sender} {o:List (List Chunk)} {i c:Nat} {x:Sent} {w:Path} {l:List Chunk} (hx:s.out[i]?=some x) (hw:s.paths[c]?=some w) (hl:o[c]?=some l) (h:x.state=3 /\ w.flight < w.window) :
 zbx c ⟨s,o⟩ i=⟨flyS s i c x w,o.set c (l++[x.chunk])⟩:=by
 simp only [zbx,hx,opened,hw]
 rw [if_pos (by simpa using h),zqq hx hw hl]
theorem zyy (s:Sender) (a:List Chunk) (h3:s.out.length < 2 ^ 28) (h4:s.paths.length=1) (ha:a.length < 2 ^ 28) :
 FunOK Tryz.prog 95 [.ptr 1000 0] (lk .free (pH1 s a)) (.tup [])
  (lk .free (snG1 (again ⟨s,[a]⟩).s (nth0 (again ⟨s,[a]⟩).out) 1001 1002 1003 1004 1005 1006 1007 0 [(1008,.dead)])):=by
 obtain ⟨hch,hch2⟩:=zcc (s:=s) (by omega)
 have hc0:choose s=0:=by omega
 have pc:=Paths.zda s.paths (by omega)
 rw [hch,hc0] at pc
 have hag:again ⟨s,[a]⟩=(List.range s.out.length).foldl (zbx 0) ⟨s,[a]⟩:=by rw [again,hc0]
 generalize again ⟨s,[a]⟩=G at hag ⊢
 refine zal mixed Tryz.func95 (by decide) [1000,1001,1002,1003,1004,1005,1006,1007,1008] zbn ?_
 conv=>whnf
 (refine cL ?_;refine dL pc ?_)
 refine ⟨{ x:Nat × Sender × List Chunk // x.1 <= s.out.length /\ (List.range x.1).foldl (zbx 0) ⟨s,[a]⟩=⟨x.2.1,[x.2.2]⟩ /\ x.2.1.out.length=s.out.length /\ x.2.1.paths.length=s.paths.length /\ x.2.2.length <= a.length+x.1 },
  fun | ⟨(i,t,a'),_⟩=>hsP [1000,1001,1002,1003,1004,1005,1006,1007,1008] 51 [(0,.ptr 1000 0),(2,i64 0),(15,i64 s.out.length),(16,i64 i)] (snG1 t a' 1001 1002 1003 1004 1005 1006 1007 900 [(1008,.dead)]),fun x=>s.out.length - x.1.1,⟨(0,s,a),by omega,rfl,rfl,rfl,by dsimp only;omega⟩,?_,?_⟩
 . exact (hle_Y (pK9 [(900,some 1008)]) (by repeat' (first | exact z0 | refine z1 ?_ | refine ⟨?_,?_⟩ | ((exact zbg om)) | exact z2)))
 rintro ⟨⟨i,t,a'⟩,k1,k2,k3,k4,k5⟩
 dsimp only at k1 k2 k3 k4 k5
 conv=>whnf
 by_cases hi:i < s.out.length
 case pos =>
  obtain ⟨x,hx⟩:∃ x,t.out[i]?=some x:=⟨_,List.getElem?_eq_getElem (by omega)⟩
  obtain ⟨w,hw⟩:∃ w,t.paths[0]?=some w:=⟨_,List.getElem?_eq_getElem (by omega)⟩
  have hst:=zfl (zbx 0) ⟨s,[a]⟩ i
  rw [k2] at hst
  have hno:=zke (o:=[a']) (c:=0) hx hw
  have hyes:=zhv (o:=[a']) (c:=0) (l:=a') hx hw rfl
  refine sT ?_
  refine sO ?_
  refine zai hx rfl ?_;conv=>whnf
  by_cases d1:x.state=3
  case neg =>
   refine zab ?_ ?_
   . simpa using d1
   conv=>whnf
   repeat (refine hcut.go ?_;conv=>whnf)
   refine sF ?_
   exact ⟨⟨(i+1,t,a'),by dsimp only;omega,by rw [hst,hno fun h=>d1 h.1],k3,k4,by dsimp only;omega⟩,(hle_Y (pK9 [(900,some 900)]) (by repeat' (first | exact z0 | refine z1 ?_ | refine ⟨?_,?_⟩ | ((exact zbg om)) | exact z2))),by dsimp only;omega⟩
  refine zad ?_ ?_
  . simpa using d1
  conv=>whnf
  refine sOm ?_
  refine zai hw rfl ?_;conv=>whnf
  (refine cL ?_;refine dL (Paths.zgo w) ?_)
  by_cases d2:w.flight < w.window
  case neg =>
   refine zab ?_ ?_
   . simpa using d2
   conv=>whnf
   repeat (refine hcut.go ?_;conv=>whnf)
   refine sF ?_
   exact ⟨⟨(i+1,t,a'),by dsimp only;omega,by rw [hst,hno fun h=>d2 h.2],k3,k4,by dsimp only;omega⟩,(hle_Y (pK9 [(900,some 900)]) (by repeat' (first | exact z0 | refine z1 ?_ | refine ⟨?_,?_⟩ | ((exact zbg om)) | exact z2))),by dsimp only;omega⟩
  refine zad ?_ ?_
  . simpa using d2
  conv=>whnf
  repeat (refine hcut.go ?_;conv=>whnf)
  refine sOm ?_
  (refine zag [] [(1000,1000),(1001,1001),(1002,1002),(1003,1003),(1004,1004),(1005,1005),(1006,1006),(1007,1007),(1008,900)] [(0,920)] ?_;(conv=>whnf);refine dG (zjg t a' i x w hx hw (by omega)) ?_)
  refine sF ?_
  exact ⟨⟨(i+1,flyS t i 0 x w,a'++[x.chunk]),by dsimp only;omega,by rw [hst,hyes ⟨d1,d2⟩];rfl,by show (t.out.set i _).length=_;rw [List.length_set];exact k3,by show (t.paths.set 0 _).length=_;rw [List.length_set];exact k4,by simp;omega⟩,(hle_Y (pK9 [(900,some 920)]) (by repeat' (first | exact z0 | refine z1 ?_ | refine ⟨?_,?_⟩ | ((exact zbg om)) | exact z2))),by dsimp only;omega⟩
 case neg =>
  have hin:i=s.out.length:=by omega
  subst hin
  refine sN ?_
  rw [k2] at hag
  subst hag
  (exact zbw (pK9 [(0,some 900)]))
theorem zyz (s:Sender) (a b:List Chunk) (h3:s.out.length < 2 ^ 28) (h4:s.paths.length=2) (ha:a.length+b.length < 2 ^ 28) :
 FunOK Tryz.prog 95 [.ptr 1000 0] (lk .free (pH2 s a b)) (.tup [])
  (lk .free (snG2 (again ⟨s,[a,b]⟩).s (nth0 (again ⟨s,[a,b]⟩).out) (nth1 (again ⟨s,[a,b]⟩).out) 1001 1002 1003 1004 1005 1006 1007 0 1 [(1008,.dead),(1009,.dead)])):=by
 obtain ⟨hch,hch2⟩:=zcc (s:=s) (by omega)
 have hc01:choose s=0 \/ choose s=1:=by omega
 rcases hc01 with hc0 | hc0
 case inl =>
  have pc:=Paths.zda s.paths (by omega)
  rw [hch,hc0] at pc
  have hag:again ⟨s,[a,b]⟩=(List.range s.out.length).foldl (zbx 0) ⟨s,[a,b]⟩:=by rw [again,hc0]
  generalize again ⟨s,[a,b]⟩=G at hag ⊢
  refine zal mixed Tryz.func95 (by decide) [1000,1001,1002,1003,1004,1005,1006,1007,1008,1009] zbn ?_
  conv=>whnf
  (refine cL ?_;refine dL pc ?_)
  refine ⟨{ x:Nat × Sender × List Chunk × List Chunk // x.1 <= s.out.length /\ (List.range x.1).foldl (zbx 0) ⟨s,[a,b]⟩=⟨x.2.1,[x.2.2.1,x.2.2.2]⟩ /\ x.2.1.out.length=s.out.length /\ x.2.1.paths.length=s.paths.length /\ x.2.2.1.length+x.2.2.2.length <= a.length+b.length+x.1 },
   fun | ⟨(i,t,a',b'),_⟩=>hsP [1000,1001,1002,1003,1004,1005,1006,1007,1008,1009] 51 [(0,.ptr 1000 0),(2,i64 0),(15,i64 s.out.length),(16,i64 i)] (snG2 t a' b' 1001 1002 1003 1004 1005 1006 1007 900 901 [(1008,.dead),(1009,.dead)]),fun x=>s.out.length - x.1.1,⟨(0,s,a,b),by omega,rfl,rfl,rfl,by dsimp only;omega⟩,?_,?_⟩
  . exact (hle_Y (pK10 [(900,some 1008),(901,some 1009)]) (by repeat' (first | exact z0 | refine z1 ?_ | refine ⟨?_,?_⟩ | ((exact zbg om)) | exact z2)))
  rintro ⟨⟨i,t,a',b'⟩,k1,k2,k3,k4,k5⟩
  dsimp only at k1 k2 k3 k4 k5
  conv=>whnf
  by_cases hi:i < s.out.length
  case pos =>
   obtain ⟨x,hx⟩:∃ x,t.out[i]?=some x:=⟨_,List.getElem?_eq_getElem (by omega)⟩
   obtain ⟨w,hw⟩:∃ w,t.paths[0]?=some w:=⟨_,List.getElem?_eq_getElem (by omega)⟩
   have hst:=zfl (zbx 0) ⟨s,[a,b]⟩ i
   rw [k2] at hst
   have hno:=zke (o:=[a',b']) (c:=0) hx hw
   have hyes:=zhv (o:=[a',b']) (c:=0) (l:=a') hx hw rfl
   refine sT ?_
   refine sO ?_
   refine zai hx rfl ?_;conv=>whnf
   by_cases d1:x.state=3
   case neg =>
    refine zab ?_ ?_
    . simpa using d1
    conv=>whnf
    repeat (refine hcut.go ?_;conv=>whnf)
    refine sF ?_
    exact ⟨⟨(i+1,t,a',b'),by dsimp only;omega,by rw [hst,hno fun h=>d1 h.1],k3,k4,by dsimp only;omega⟩,(hle_Y (pK10 [(900,some 900),(901,some 901)]) (by repeat' (first | exact z0 | refine z1 ?_ | refine ⟨?_,?_⟩ | ((exact zbg om)) | exact z2))),by dsimp only;omega⟩
   refine zad ?_ ?_
   . simpa using d1
   conv=>whnf
   refine sOm ?_
   refine zai hw rfl ?_;conv=>whnf
   (refine cL ?_;refine dL (Paths.zgo w) ?_)
   by_cases d2:w.flight < w.window
   case neg =>
    refine zab ?_ ?_
    . simpa using d2
    conv=>whnf
    repeat (refine hcut.go ?_;conv=>whnf)
    refine sF ?_
    exact ⟨⟨(i+1,t,a',b'),by dsimp only;omega,by rw [hst,hno fun h=>d2 h.2],k3,k4,by dsimp only;omega⟩,(hle_Y (pK10 [(900,some 900),(901,some 901)]) (by repeat' (first | exact z0 | refine z1 ?_ | refine ⟨?_,?_⟩ | ((exact zbg om)) | exact z2))),by dsimp only;omega⟩
   refine zad ?_ ?_
   . simpa using d2
   conv=>whnf
   repeat (refine hcut.go ?_;conv=>whnf)
   refine sOm ?_
   (refine zag [] [(1000,1000),(1001,1001),(1002,1002),(1003,1003),(1004,1004),(1005,1005),(1006,1006),(1007,1007),(1008,900),(1009,901)] [(0,920)] ?_;(conv=>whnf);refine dG (zjh t a' b' i x w hx hw (by omega)) ?_)
   refine sF ?_
   exact ⟨⟨(i+1,flyS t i 0 x w,a'++[x.chunk],b'),by dsimp only;omega,by rw [hst,hyes ⟨d1,d2⟩];rfl,by show (t.out.set i _).length=_;rw [List.length_set];exact k3,by show (t.paths.set 0 _).length=_;rw [List.length_set];exact k4,by simp;omega⟩,(hle_Y (pK10 ((900,some 920) :: [(901,some 901)])) (by repeat' (first | exact z0 | refine z1 ?_ | refine ⟨?_,?_⟩ | ((exact zbg om)) | exact z2))),by dsimp only;omega⟩
  case neg =>
   have hin:i=s.out.length:=by omega
   subst hin
   refine sN ?_
   rw [k2] at hag
   subst hag
   (exact zbw (pK10 [(0,some 900),(1,some 901)]))
 case inr =>
  have pc:=Paths.zda s.paths (by omega)
  rw [hch,hc0] at pc
  have hag:again ⟨s,[a,b]⟩=(List.range s.out.length).foldl (zbx 1) ⟨s,[a,b]⟩:=by rw [again,hc0]
  generalize again ⟨s,[a,b]⟩=G at hag ⊢
  refine zal mixed Tryz.func95 (by decide) [1000,1001,1002,1003,1004,1005,1006,1007,1008,1009] zbn ?_
  conv=>whnf
  (refine cL ?_;refine dL pc ?_)
  refine ⟨{ x:Nat × Sender × List Chunk × List Chunk // x.1 <= s.out.length /\ (List.range x.1).foldl (zbx 1) ⟨s,[a,b]⟩=⟨x.2.1,[x.2.2.1,x.2.2.2]⟩ /\ x.2.1.out.length=s.out.length /\ x.2.1.paths.length=s.paths.length /\ x.2.2.1.length+x.2.2.2.length <= a.length+b.length+x.1 },
   fun | ⟨(i,t,a',b'),_⟩=>hsP [1000,1001,1002,1003,1004,1005,1006,1007,1008,1009] 51 [(0,.ptr 1000 0),(2,i64 1),(15,i64 s.out.length),(16,i64 i)] (snG2 t a' b' 1001 1002 1003 1004 1005 1006 1007 900 901 [(1008,.dead),(1009,.dead)]),fun x=>s.out.length - x.1.1,⟨(0,s,a,b),by omega,rfl,rfl,rfl,by dsimp only;omega⟩,?_,?_⟩
  . exact (hle_Y (pK10 [(900,some 1008),(901,some 1009)]) (by repeat' (first | exact z0 | refine z1 ?_ | refine ⟨?_,?_⟩ | ((exact zbg om)) | exact z2)))
  rintro ⟨⟨i,t,a',b'⟩,k1,k2,k3,k4,k5⟩
  dsimp only at k1 k2 k3 k4 k5
  conv=>whnf
  by_cases hi:i < s.out.length
  case pos =>
   obtain ⟨x,hx⟩:∃ x,t.out[i]?=some x:=⟨_,List.getElem?_eq_getElem (by omega)⟩
   obtain ⟨w,hw⟩:∃ w,t.paths[1]?=some w:=⟨_,List.getElem?_eq_getElem (by omega)⟩
   have hst:=zfl (zbx 1) ⟨s,[a,b]⟩ i
   rw [k2] at hst
   have hno:=zke (o:=[a',b']) (c:=1) hx hw
   have hyes:=zhv (o:=[a',b']) (c:=1) (l:=b') hx hw rfl
   refine sT ?_
   refine sO ?_
   refine zai hx rfl ?_;conv=>whnf
   by_cases d1:x.state=3
   case neg =>
    refine zab ?_ ?_
    . simpa using d1
    conv=>whnf
    repeat (refine hcut.go ?_;conv=>whnf)
    refine sF ?_
    exact ⟨⟨(i+1,t,a',b'),by dsimp only;omega,by rw [hst,hno fun h=>d1 h.1],k3,k4,by dsimp only;omega⟩,(hle_Y (pK10 [(900,some 900),(901,some 901)]) (by repeat' (first | exact z0 | refine z1 ?_ | refine ⟨?_,?_⟩ | ((exact zbg om)) | exact z2))),by dsimp only;omega⟩
   refine zad ?_ ?_
   . simpa using d1
   conv=>whnf
   refine sOm ?_
   refine zai hw rfl ?_;conv=>whnf
   (refine cL ?_;refine dL (Paths.zgo w) ?_)
   by_cases d2:w.flight < w.window
   case neg =>
    refine zab ?_ ?_
    . simpa using d2
    conv=>whnf
    repeat (refine hcut.go ?_;conv=>whnf)
    refine sF ?_
    exact ⟨⟨(i+1,t,a',b'),by dsimp only;omega,by rw [hst,hno fun h=>d2 h.2],k3,k4,by dsimp only;omega⟩,(hle_Y (pK10 [(900,some 900),(901,some 901)]) (by repeat' (first | exact z0 | refine z1 ?_ | refine ⟨?_,?_⟩ | ((exact zbg om)) | exact z2))),by dsimp only;omega⟩
   refine zad ?_ ?_
   . simpa using d2
   conv=>whnf
   repeat (refine hcut.go ?_;conv=>whnf)
   refine sOm ?_
   (refine zag [] [(1000,1000),(1001,1001),(1002,1002),(1003,1003),(1004,1004),(1005,1005),(1006,1006),(1007,1007),(1008,900),(1009,901)] [(0,920)] ?_;(conv=>whnf);refine dG (zji t a' b' i x w hx hw (by omega)) ?_)
   refine sF ?_
   exact ⟨⟨(i+1,flyS t i 1 x w,a',b'++[x.chunk]),by dsimp only;omega,by rw [hst,hyes ⟨d1,d2⟩];rfl,by show (t.out.set i _).length=_;rw [List.length_set];exact k3,by show (t.paths.set 1 _).length=_;rw [List.length_set];exact k4,by simp;omega⟩,(hle_Y (pK10 ((900,some 900) :: [(901,some 920)])) (by repeat' (first | exact z0 | refine z1 ?_ | refine ⟨?_,?_⟩ | ((exact zbg om)) | exact z2))),by dsimp only;omega⟩
  case neg =>
   have hin:i=s.out.length:=by omega
   subst hin
   refine sN ?_
   rw [k2] at hag
   subst hag
   (exact zbw (pK10 [(0,some 900),(1,some 901)]))
end Snd
end Go.HL
namespace Go.HL
open Go.Proofs
set_option maxHeartbeats 2000000
set_option maxRecDepth 100000
set_option linter.unusedSimpArgs false
theorem ylv {rows ys:List (List PV)} {z:List PV} {i j a k m:Nat} (hij:i <= j) (hj:j <= rows.length) (ha:a=i) (hy:ys=(rows.drop j).take (rows.length - j)) (hk:k=i+ys.length) (hm:m=j - i) (_:i+ys.length+(j - i)=rows.length) :
 splice (splice rows a ys) k (List.replicate m z)=rows.take i++rows.drop j++List.replicate (j - i) z:=by
 subst ha hm
 have hy2:ys=rows.drop j:=by rw [hy,List.take_of_length_le (by simp)]
 have h1:ys.length=rows.length - j:=by rw [hy2];simp
 have h2:(rows.take a).length=a:=by simp;omega
 have h3:splice rows a ys=(rows.take a++ys)++rows.drop k:=by rw [splice,hk]
 have h4:(rows.take a++ys).length=k:=by simp;omega
 rw [splice,h3,List.take_left' h4,List.drop_eq_nil_of_le (by simp only [List.length_append,List.length_drop,List.length_replicate,h2];omega),List.append_nil,hy2]
end Go.HL
namespace Go.HL
open Go.Proofs
namespace Snd
open Ser
set_option maxHeartbeats 8000000
set_option maxRecDepth 100000
set_option linter.unusedSimpArgs false
theorem ypq (l:List Queued) (i j:Nat) (hij:i <= j) (hj:j <= l.length) (hb:l.length < 2 ^ 40) :
 FunOK Tryz.prog 139 [.osl 1000 10 0 (l.map Queued.row).length,i64 i,i64 j] (lk .free [(1000,.live (.row 117 10 (l.map Queued.row)))])
  (.osl 1000 10 0 (l.length - (j - i))) (lk .free [(1000,.live (.row 117 10 ((l.take i++l.drop j).map Queued.row++List.replicate (j - i) [pi 0,pi 0,pi 0,pi 0,pi 0,pi 0,pb false,pi 0,pi 0,.v (.slice none 0 0)])))]):=by
 refine zal mixed Tryz.func139 (by decide) [1000] zbn ?_
 have hlr:(l.map Queued.row).length=l.length:=by simp
 conv=>whnf
 refine sO ?_
 by_cases h:i=j
 . subst h
   refine sT ?_
   refine zau [(1000,some 1000)] rfl rfl ⟨rfl,trivial⟩ rfl ?_ ⟨⟨rfl,.inl ⟨1000,rfl,?_⟩⟩,trivial⟩
   . show HV.osl 1000 10 0 (l.length - (i - i))=HV.osl 1000 10 0 (l.map Queued.row).length
     rw [hlr,Nat.sub_self];rfl
   . show HSlot.live (.row _ 10 (l.map Queued.row))=HSlot.live (.row _ 10 _)
     rw [List.take_append_drop,Nat.sub_self,List.replicate_zero,List.append_nil]
 . refine sN ?_
   refine sO ?_
   refine sO ?_
   refine ⟨_,rfl,?_,?_⟩
   . rw [hlr];omega
   conv=>whnf
   refine zaa (by simp;omega) ?_
   conv=>whnf
   refine zas ?_ ?_
   . kernel_rfl
   conv=>whnf
   refine zaa (by simp [splice];omega) ?_
   conv=>whnf
   refine zaa (by simp [splice];omega) ?_
   conv=>whnf
   refine zau [(1000,some 1000)] rfl rfl ⟨rfl,trivial⟩ rfl ?_ ⟨⟨rfl,.inl ⟨1000,rfl,?_⟩⟩,trivial⟩
   . show HV.osl 1000 10 0 _=HV.osl 1000 10 0 _
     congr 1
     simp;omega
   . refine (congrArg (fun r=>HSlot.live (.row _ 10 r)) (ylv (rows:=l.map Queued.row) (i:=i) (j:=j) (z:=[pi 0,pi 0,pi 0,pi 0,pi 0,pi 0,pb false,pi 0,pi 0,.v (.slice none 0 0)]) hij (by rw [hlr];exact hj) ?_ ?_ ?_ ?_ ?_)).trans ?_
     . simp <;> omega
     . simp <;> omega
     . simp <;> omega
     . simp;omega
     . simp;omega
     . rw [List.map_append,List.map_take,List.map_drop];rfl
theorem delq (l:List Queued) (i j:Nat) (hij:i <= j) (hj:j <= l.length) (hb:l.length < 2 ^ 40) :
 FunOK Tryz.prog 139 [.own 1000,i64 i,i64 j] (lk .free [(1000,.live (.row 117 10 (l.map Queued.row)))])
  (.own 0) (lk .free [(1000,.dead),(0,.live (.row 117 10 ((l.take i++l.drop j).map Queued.row)))]):=by
 have h:=zvn (d:=0) (L:=[]) (rows:=(l.take i++l.drop j).map Queued.row++List.replicate (j - i) [pi 0,pi 0,pi 0,pi 0,pi 0,pi 0,pb false,pi 0,pi 0,.v (.slice none 0 0)]) (ygv (ypq l i j hij hj hb)) (.inl rfl) (by simp;omega) rfl (by decide)
 rwa [List.take_left' (by simp;omega)] at h
theorem zgt (s:Sched) (m:Queued) (bytes:Int) (over:Bool) (hb:s.had.length < 2 ^ 40) (c2:0 <= m.message.stream) (c3:m.message.stream < s.had.length) :
 FunOK Tryz.prog 138 [s.hv,m.hv,i64 bytes,hbool over] zac (.agg [i64 (Sch.had s m bytes over).last,i64 (Sch.had s m bytes over).hand,.own 0]) (lk .free [(0,rowT (Sch.had s m bytes over).had)]):=by
 have hy:(s.had.map fun n=>[pi n]).set m.message.stream.toNat [pi (W (s.had[m.message.stream.toNat]+bytes))]=(Sch.had s m bytes over).had.map fun n=>[pi n]:=by
  simp only [Sch.had,if_pos (And.intro c2 c3)]
  rw [List.map_set,List.getElem?_eq_getElem (by omega)]
  rfl
 refine zal mixed Tryz.func138 (by decide) [] (fun _=>.inl rfl) ?_
 conv=>whnf
 (refine zap [(0,11)] ?_;(conv=>whnf);refine dO (Sch.zdb s hb) ?_)
 refine sD ?_
 refine zaf (fun c1=>?_) (fun c1=>?_)
 all_goals
  subst c1
  conv=>whnf
  repeat (refine hcut.go ?_;conv=>whnf)
  refine zad ?_ ?_
  . simpa using c2
  conv=>whnf
  refine zad ?_ ?_
  . simpa using c3
  conv=>whnf
  repeat (refine hcut.go ?_;conv=>whnf)
  refine sOm ?_
  refine zbq (r:=[pi s.had[m.message.stream.toNat]]) (by omega) (by rw [Int.toNat_natCast,List.getElem?_map,List.getElem?_eq_getElem (h:=show m.message.stream.toNat < s.had.length by omega)];rfl) ?_
  conv=>whnf
  refine zbc ?_;conv=>whnf
  refine sOm ?_
  refine zbq (r:=[pi s.had[m.message.stream.toNat]]) (by omega) (by rw [Int.toNat_natCast,List.getElem?_map,List.getElem?_eq_getElem (h:=show m.message.stream.toNat < s.had.length by omega)];rfl) ?_
  conv=>whnf
  refine zau [(0,some 11)] rfl rfl trivial rfl rfl ⟨⟨rfl,.inl ⟨11,rfl,?_⟩⟩,trivial⟩
  exact zao hy
theorem yho {α:Type} {p:α -> Bool}:∀ {l:List α} {k:Nat},0 <= zbm p k l -> ∃ i,i < l.length /\ zbm p k l=((k+i:Nat):Int)
 | [],k,h=>by simp [zbm] at h
 | y :: r,k,h=>by
  simp only [zbm] at h ⊢
  split at h
  . rename_i hp;exact ⟨0,by simp,by rw [if_pos hp];simp⟩
  . rename_i hp
    obtain ⟨i,h1,h2⟩:=yho h
    exact ⟨i+1,by simp;omega,by rw [if_neg hp,h2];congr 1;omega⟩
theorem zti {t:Int} {s:Sched} {q:List Queued} (h:0 <= Sch.next t s q):∃ k:Nat,k < q.length /\ Sch.next t s q=k:=by
 have hf:∀ st,0 <= Sch.first q st -> ∃ k:Nat,k < q.length /\ Sch.first q st=k:=fun st h=>by
  obtain ⟨i,h1,h2⟩:=yho h;exact ⟨i,h1,by rw [Sch.first,h2];simp⟩
 have ha:∀ (j k:Nat) (last n:Int),0 <= Sch.after q last n k j -> ∃ i:Nat,i < q.length /\ Sch.after q last n k j=i:=by
  intro j
  induction j with
  | zero=>intro k last n h;simp [Sch.after] at h
  | succ j ih =>
   intro k last n h
   rw [Sch.after] at h ⊢
   split at h
   . rename_i c;rw [if_pos c];exact hf _ h
   . rename_i c;rw [if_neg c];exact ih _ _ _ h
 have hr:∀ (j k:Nat),0 <= Sch.zef q k j -> ∃ i:Nat,i < q.length /\ Sch.zef q k j=i:=by
  intro j
  induction j with
  | zero=>intro k h;simp [Sch.zef] at h
  | succ j ih =>
   intro k h
   rw [Sch.zef] at h ⊢
   split at h
   . rename_i c;rw [if_pos c];exact hf _ h
   . rename_i c;rw [if_neg c];exact ih _ h
 unfold Sch.next at h ⊢
 split at h
 . omega
 rename_i c0
 rw [if_neg c0]
 split at h
 . omega
 rename_i c1
 rw [if_neg c1]
 split at h
 . rename_i c;rw [if_pos c]
   split at h
   . rename_i c;rw [if_pos c];obtain ⟨i,h1,h2⟩:=yho h;exact ⟨i,h1,by rw [Sch.zjw,h2];simp⟩
   . rename_i c;rw [if_neg c];exact ha _ _ _ _ h
 rename_i c;rw [if_neg c]
 split at h
 . rename_i c;rw [if_pos c];exact ha _ _ _ _ h
 rename_i c;rw [if_neg c]
 split at h
 . rename_i c;rw [if_pos c];exact hr _ _ h
 rename_i c;rw [if_neg c]
 split at h
 . rename_i c;rw [if_pos c];unfold Sch.least at h ⊢
   split at h
   . omega
   . rename_i c;rw [if_neg c];exact hf _ h
 . rename_i c;rw [if_neg c];exact ⟨0,by omega,rfl⟩
structure zoq (s:Sender) (m:Queued):Prop where
 mid:MFit s m
 had:m.message.stream < s.sched.had.length
 sent:0 <= m.sent
 left:m.sent < m.message.data.length
 data:m.message.data.length < 2 ^ 30
structure NFit (s:Sender):Prop where
 g:GFit s
 some:0 < s.paths.length
 part:1 <= s.config.part
 part2:s.config.part < 2 ^ 30
 msg:∀ m ∈ s.queue,zoq s m
def nx (s:Sender) (o:List (List Chunk)):Pump × Bool:=match next ⟨s,o⟩ with
 | none=>(⟨s,o⟩,false)
 | some q=>(q,true)
theorem ybv {s:Sender} {o:List (List Chunk)} (h:zcu s < 0):nx s o=(⟨s,o⟩,false):=by
 rw [nx,next,if_pos (.inl h)]
theorem ybw {s:Sender} {o:List (List Chunk)} {w:Path} (hw:s.paths[choose s]?=some w) (h:¬ w.flight < w.window):nx s o=(⟨s,o⟩,false):=by
 rw [nx,next,if_pos (.inr (.inl (by simp only [opened,hw];simpa using h)))]
theorem ybx {s:Sender} {o:List (List Chunk)} (h:(s.out.length:Int) >= 60):nx s o=(⟨s,o⟩,false):=by
 rw [nx,next,if_pos (.inr (.inr h))]
theorem yby {s:Sender} {o:List (List Chunk)} {w:Path} {k:Nat} {m:Queued} (h1:zcu s=k) (hm:s.queue[k]?=some m) (hw:s.paths[choose s]?=some w) (h2:w.flight < w.window) (h3:¬ (s.out.length:Int) >= 60) (h4:flight s > 0 /\ W (flight s+many s m) > s.room) :
 nx s o=(⟨s,o⟩,false):=by
 rw [nx,next,if_neg (by rw [h1];rintro (h | h | h);omega;(simp only [opened,hw] at h;simp at h;omega);exact h3 h)]
 simp only [h1,Int.toNat_natCast,hm]
 rw [if_pos h4]
theorem zor {s:Sender} {o:List (List Chunk)} {w:Path} {k:Nat} {m:Queued} (h1:zcu s=k) (hm:s.queue[k]?=some m) (hw:s.paths[choose s]?=some w) (h2:w.flight < w.window) (h3:¬ (s.out.length:Int) >= 60) (h4:¬ (flight s > 0 /\ W (flight s+many s m) > s.room)) :
 nx s o=(next1 ⟨s,o⟩ k m (many s m),true):=by
 rw [nx,next,if_neg (by rw [h1];rintro (h | h | h);omega;(simp only [opened,hw] at h;simp at h;omega);exact h3 h)]
 simp only [h1,Int.toNat_natCast,hm]
 rw [if_neg h4]
theorem zli {s:Sender} {m:Queued} (hp:1 <= s.config.part) (hp2:s.config.part < 2 ^ 30) (_:0 <= m.sent) (h2:m.sent < m.message.data.length) (_:m.message.data.length < 2 ^ 30):1 <= many s m /\ many s m < 2 ^ 30 /\ m.sent+many s m <= m.message.data.length:=by
 unfold many;split <;> omega
abbrev ovr (s:Sender) (m:Queued):Bool:=m.sent+many s m == ((m.message.data.map bRow).length:Int)
theorem ynh (s:Sender) (m:Queued):decide (m.sent+many s m=m.message.data.length)=ovr s m:=by
 unfold ovr
 rw [List.length_map,Bool.eq_iff_iff];simp
def m2 (s:Sender) (m:Queued):Queued:={ m with mid:=midOf s m,sent:=m.sent+many s m,parts:=W (m.parts+1) }
def x0 (s:Sender) (m:Queued):Sent:=⟨s.next,m.id,0,0,0,0,m.came,m.message.life,m.message.tries,⟨1,tag s.next,m.message.stream,tag (midOf s m),m.parts,ovr s m,m.message.ordered,(m.message.data.drop m.sent.toNat).take (many s m).toNat,[],0,[]⟩⟩
def s2 (s:Sender) (k:Nat) (m:Queued):Sender:={ s with mids:=zcj s m,sched:=Sch.had s.sched { m with mid:=midOf s m } (many s m) (ovr s m),out:=s.out++[x0 s m],next:=W (s.next+1),queue:=s.queue.set k (m2 s m) }
theorem zds {s:Sender} {o:List (List Chunk)} {k c:Nat} {m:Queued} {w:Path} {l:List Chunk} (hc:choose s=c) (hw:s.paths[c]?=some w) (hl:o[c]?=some l) :
 next1 ⟨s,o⟩ k m (many s m)=⟨{ flyS (s2 s k m) s.out.length c (x0 s m) w with queue:=if ovr s m then s.queue.eraseIdx k else s.queue.set k (m2 s m) },o.set c (l++[(x0 s m).chunk])⟩:=by
 have e:=ynh s m
 unfold next1 cut
 simp only [e]
 rw [hc]
 exact zqq (s:={ s2 s k m with queue:=if ovr s m then s.queue.eraseIdx k else s.queue.set k (m2 s m) }) (i:=s.out.length) (x:=x0 s m) (a:=w) (l:=l) (by simp [s2]) hw hl
theorem q2row {s:Sender} {k:Nat} {m:Queued} {t:TypeId} {r1:List PV}:HSlot.live (.row t 10 ((((midS s k m).queue.map Queued.row).set k r1).set k (m2 s m).row))=HSlot.live (.row t 10 ((s2 s k m).queue.map Queued.row)):=by
 rw [List.set_set]
 exact (zdk (f:=Queued.row) (y:=m2 s m) rfl).trans (zao (by show ((s.queue.set k _).set k _).map _=_;rw [List.set_set];rfl))
theorem zgu {α:Type} {l:List α} {k:Nat} {y:α} (_:k < l.length):(l.set k y).take k++(l.set k y).drop (k+1)=l.eraseIdx k:=by
 rw [List.eraseIdx_eq_take_drop_succ,List.take_set_of_le (Nat.le_refl _),List.drop_set_of_lt (Nat.lt_succ_self _)]
theorem zle (s:Sender) (a:List Chunk) (hs:NFit s) (h1p:s.paths.length=1) (hb:a.length < 2 ^ 29):FunOK Tryz.prog 96 [.ptr 1000 0] (lk .free (pH1 s a)) (hbool (nx s [a]).2) (lk .free (pD1 (nx s [a]).1.s (nth0 (nx s [a]).1.out))):=by
 obtain ⟨g,hp,hp1,hp2,hmsg⟩:=hs
 obtain ⟨⟨f1,f2,f3,f4,f5,f6,f7⟩,g2,g3,g4⟩:=g
 obtain ⟨hch,hch2⟩:=zcc hp
 have hc0:choose s=0:=by omega
 have pc:=Paths.zda s.paths (by omega)
 rw [hch,hc0] at pc
 have pn:=Sch.zog s.config.turns s.sched s.queue (by omega) (by omega)
 obtain ⟨w,hw⟩:∃ w,s.paths[0]?=some w:=⟨_,List.getElem?_eq_getElem (by omega)⟩
 have hwc:s.paths[choose s]?=some w:=by rw [hc0];exact hw
 generalize hG:nx s [a]=G
 refine zal mixed Tryz.func96 (by decide) [1000,1001,1002,1003,1004,1005,1006,1007,1008] zbn ?_
 conv=>whnf
 (refine cL ?_;refine dL pc ?_)
 by_cases c1:zcu s < 0
 case pos =>
  (refine cL ?_;refine dL pn ?_)
  refine sD ?_
  refine zad ?_ ?_
  . exact decide_eq_true c1
  conv=>whnf
  rw [ybv c1] at hG
  subst hG
  repeat (refine hcut.go ?_;conv=>whnf)
  (exact zbw (pK9 [(0,some 1001),(1,some 1002),(2,some 1003),(3,some 1004),(4,some 1005),(5,some 1006),(6,some 1008)]))
 obtain ⟨k,hkl,hke⟩:=zti (t:=s.config.turns) (s:=s.sched) (q:=s.queue) (by unfold zcu at c1;omega)
 have hke':zcu s=k:=hke
 rw [hke] at pn
 obtain ⟨m,hm⟩:∃ m,s.queue[k]?=some m:=⟨_,List.getElem?_eq_getElem hkl⟩
 have hmf:=hmsg m (List.mem_of_getElem? hm)
 obtain ⟨mf,mh,ms,ml,md⟩:=hmf
 obtain ⟨n1,n2,n3⟩:=zli (s:=s) (m:=m) hp1 hp2 ms ml md
 (refine cL ?_;refine dL pn ?_)
 refine sD ?_
 try (refine zab ?_ ?_;· simp;conv=>whnf)
 refine sOm ?_
 refine zai hw rfl ?_;conv=>whnf
 (refine cL ?_;refine dL (Paths.zgo w) ?_)
 by_cases c2:w.flight < w.window
 case neg =>
  refine zad ?_ ?_
  . simpa using c2
  conv=>whnf
  rw [ybw hwc c2] at hG
  subst hG
  repeat (refine hcut.go ?_;conv=>whnf)
  (exact zbw (pK9 [(0,some 1001),(1,some 1002),(2,some 1003),(3,some 1004),(4,some 1005),(5,some 1006),(6,some 1008)]))
 refine zab ?_ ?_
 . simpa using c2
 conv=>whnf
 by_cases c3:(s.out.length:Int) >= 60
 case pos =>
  refine zad ?_ ?_
  . rw [List.length_map];exact decide_eq_true c3
  conv=>whnf
  rw [ybx c3] at hG
  subst hG
  repeat (refine hcut.go ?_;conv=>whnf)
  (exact zbw (pK9 [(0,some 1001),(1,some 1002),(2,some 1003),(3,some 1004),(4,some 1005),(5,some 1006),(6,some 1008)]))
 refine zab ?_ ?_
 . rw [List.length_map];exact decide_eq_false c3
 conv=>whnf
 repeat (refine hcut.go ?_;conv=>whnf)
 refine sOm ?_
 refine zai hm rfl ?_;conv=>whnf
 refine zai hm rfl ?_;conv=>whnf
 refine zcx (z':=(m.message.data.length:Int) - m.sent) ?_ ?_
 . show W _=_
   rw [List.length_map];exact W_fit (by omega) (by omega)
 conv=>whnf
 refine sD ?_
 (refine zag [] [(1000,1000),(1001,1001),(1002,1002),(1003,1003),(1004,1004),(1005,1005),(1006,1006),(1007,1007),(1008,1008)] [] ?_;(conv=>whnf);refine dG (zvt s a f4) ?_)
 have hWs:W (m.sent+many s m)=m.sent+many s m:=W_fit (by omega) (by omega)
 by_cases c4:flight s > 0
 case pos =>
  refine zad ?_ ?_
  . exact decide_eq_true c4
  conv=>whnf
  refine sR ?_
  by_cases c5:W (flight s+many s m) > s.room
  case pos =>
   refine zad ?_ ?_
   . exact decide_eq_true c5
   conv=>whnf
   rw [yby hke' hm hwc c2 c3 ⟨c4,c5⟩] at hG
   subst hG
   repeat (refine hcut.go ?_;conv=>whnf)
   (exact zbw (pK9 [(0,some 1001),(1,some 1002),(2,some 1003),(3,some 1004),(4,some 1005),(5,some 1006),(6,some 1008)]))
  refine zab ?_ ?_
  . exact decide_eq_false c5
  conv=>whnf
  repeat (refine hcut.go ?_;conv=>whnf)
  rw [zor hke' hm hwc c2 c3 fun h=>c5 h.2] at hG
  refine zai hm rfl ?_;conv=>whnf
  refine zan (z:=m.sent+many s m) hWs ?_;conv=>whnf
  refine zai hm rfl ?_;conv=>whnf
  refine sD ?_
  have hm':(midS s k m).queue[k]?=some { m with mid:=midOf s m }:=by show (s.queue.set k _)[k]?=_;rw [List.getElem?_set_self hkl]
  have hmr:(s.queue.map Queued.row)[k]?=some m.row:=by rw [List.getElem?_map,hm];rfl
  (refine cL ?_;refine dL (zci s.next) ?_)
  refine zai hm rfl ?_;conv=>whnf
  (refine zag [] [(1000,1000),(1001,1001),(1002,1002),(1003,1003),(1004,1004),(1005,1005),(1006,1006),(1007,1007),(1008,1008)] [] ?_;(conv=>whnf);refine dG (zvw s a k m hm mf) ?_)
  (refine cL ?_;refine dL (zci (midOf s m)) ?_)
  refine zai hm' rfl ?_;conv=>whnf
  refine zai hm' rfl ?_;conv=>whnf
  refine zai hm' rfl ?_;conv=>whnf
  refine zai hm' rfl ?_;conv=>whnf
  refine zai hm' rfl ?_;conv=>whnf
  refine zan (z:=m.sent+many s m) hWs ?_;conv=>whnf
  refine zaa (c:=0 <= m.sent /\ m.sent <= m.sent+many s m /\ m.sent+many s m <= ((m.message.data.map bRow).length:Int)) ⟨ms,by omega,by rw [List.length_map];omega⟩ ?_;conv=>whnf
  refine zgi (o':=m.sent.toNat) (n':=(many s m).toNat) rfl (show (m.sent+many s m - m.sent).toNat=(many s m).toNat by rw [show m.sent+many s m - m.sent=many s m by omega]) ?_
  refine zee (f:=bRow) (l:=m.message.data) (o:=m.sent.toNat) (n:=(many s m).toNat) (by omega) ?_
  conv=>whnf
  (refine zap [(0,150)]  ?_;(conv=>whnf);refine dO (Cl.zcz ((m.message.data.drop m.sent.toNat).take (many s m).toNat) (by simp;omega)) ?_)
  refine zga [4,10,18,24,29,33,37] ?_ ?_ ?_
  . kernel_rfl
  . refine ⟨?_,?_,?_,?_,?_,?_,?_,trivial⟩
    all_goals
     refine And.intro trivial ?_
     refine And.intro trivial ?_
     refine And.intro ?_ trivial
     conv=>whnf
     refine And.intro ?_ ?_
     . conv=>whnf
       all_goals first | rfl | exact zai hm rfl rfl
     refine And.intro ?_ trivial
     conv=>whnf
     all_goals first | rfl | exact zai hm' rfl rfl
  conv=>whnf
  refine zai hm' rfl ?_;conv=>whnf
  (refine zap [(0,163)]  ?_;(conv=>whnf);refine dO (zgt s.sched { m with mid:=midOf s m } (many s m) (ovr s m) (by omega) mf.lo mh) ?_)
  refine sD ?_
  refine zai hm' rfl ?_;conv=>whnf
  refine zai hm' rfl ?_;conv=>whnf
  refine zai hm' rfl ?_;conv=>whnf
  refine zai hm' rfl ?_;conv=>whnf
  refine zaa (c:=((s.out.map Sent.row).length+1) * 200 <= 140737488355328) (by rw [List.length_map];omega) ?_;conv=>whnf
  refine sD ?_
  refine sR ?_
  refine zai hm' rfl ?_;conv=>whnf
  refine zan (z:=m.sent+many s m) hWs ?_;conv=>whnf
  refine zai hm' rfl ?_;conv=>whnf
  refine zbe rfl (by simp [midS];omega) ?_;conv=>whnf
  refine sR ?_
  refine zbe rfl (by simp [midS];omega) ?_;conv=>whnf
  refine zcx (z':=(s.out.length:Int)) ?_ ?_
  . show W ((((midS s k m).out.map Sent.row++[_]).length:Int) - 1)=_
    rw [List.length_append,List.length_map,show (midS s k m).out=s.out from rfl,W_fit (by simp only [List.length_cons,List.length_nil];omega) (by simp only [List.length_cons,List.length_nil];omega)]
    simp only [List.length_cons,List.length_nil];omega
  conv=>whnf
  refine zaa (by rw [List.length_append,List.length_map,show (midS s k m).out=s.out from rfl];simp only [List.length_cons,List.length_nil];omega) ?_;conv=>whnf
  (refine zag [] [(1000,1000),(1001,1001),(1002,163),(1003,199),(1004,1004),(1005,1005),(1006,1006),(1007,1007),(1008,1008)] [(0,920)] ?_;(conv=>whnf);refine dG (zjg (s2 s k m) a s.out.length (x0 s m) w (by simp [s2]) hw (by omega)) ?_ ⟨rfl,rfl,rfl,⟨⟨rfl,_,rfl,.inl ⟨rfl,rfl⟩⟩,⟨⟨rfl,_,rfl,.inl ⟨rfl,q2row⟩⟩,⟨⟨rfl,_,rfl,.inl ⟨rfl,rfl⟩⟩,⟨⟨rfl,_,rfl,.inl ⟨rfl,(zat (f:=Sent.row) (x:=x0 s m) rfl rfl)⟩⟩,⟨⟨rfl,_,rfl,.inl ⟨rfl,rfl⟩⟩,⟨⟨rfl,_,rfl,.inl ⟨rfl,rfl⟩⟩,⟨⟨rfl,_,rfl,.inl ⟨rfl,rfl⟩⟩,⟨⟨rfl,_,rfl,.inl ⟨rfl,rfl⟩⟩,⟨⟨rfl,_,rfl,.inl ⟨rfl,rfl⟩⟩,trivial⟩⟩⟩⟩⟩⟩⟩⟩⟩,⟨⟨rfl,rfl⟩,trivial⟩,rfl,rfl,rfl⟩)
  refine sD ?_
  cases hov:ovr s m with
  | true =>
   refine zad ?_ ?_
   . exact hov
   conv=>whnf
   repeat (refine hcut.go ?_;conv=>whnf)
   refine zcx (z':=((k+1:Nat):Int)) ?_ ?_
   . show W ((k:Int)+1)=_
     rw [W_fit (by omega) (by omega)];push_cast;rfl
   conv=>whnf
   (refine zag [] [(1000,1001)] [(0,930)] ?_;(conv=>whnf);refine dG (delq (s.queue.set k (m2 s m)) k (k+1) (by omega) (by simp;omega) (by simp;omega)) ?_)
   rw [zds hc0 hw rfl,if_pos hov] at hG
   subst hG
   (exact zbz (pK9 [(0,some 930),(1,some 163),(2,some 199),(3,some 1004),(4,some 1005),(5,some 1006),(6,some 920)]) (by repeat' (first | exact z0 | refine z1 ?_ | refine ⟨?_,?_⟩ | ((exact zao (by rw [zgu hkl]))) | exact z2)))
  | false =>
   refine zab ?_ ?_
   . exact hov
   conv=>whnf
   repeat (refine hcut.go ?_;conv=>whnf)
   rw [zds hc0 hw rfl,if_neg (by rw [hov];decide)] at hG
   subst hG
   (exact zbw (pK9 [(0,some 1001),(1,some 163),(2,some 199),(3,some 1004),(4,some 1005),(5,some 1006),(6,some 920)]))
 refine zab ?_ ?_
 . exact decide_eq_false c4
 conv=>whnf
 repeat (refine hcut.go ?_;conv=>whnf)
 rw [zor hke' hm hwc c2 c3 fun h=>c4 h.1] at hG
 refine zai hm rfl ?_;conv=>whnf
 refine zan (z:=m.sent+many s m) hWs ?_;conv=>whnf
 refine zai hm rfl ?_;conv=>whnf
 refine sD ?_
 have hm':(midS s k m).queue[k]?=some { m with mid:=midOf s m }:=by show (s.queue.set k _)[k]?=_;rw [List.getElem?_set_self hkl]
 have hmr:(s.queue.map Queued.row)[k]?=some m.row:=by rw [List.getElem?_map,hm];rfl
 (refine cL ?_;refine dL (zci s.next) ?_)
 refine zai hm rfl ?_;conv=>whnf
 (refine zag [] [(1000,1000),(1001,1001),(1002,1002),(1003,1003),(1004,1004),(1005,1005),(1006,1006),(1007,1007),(1008,1008)] [] ?_;(conv=>whnf);refine dG (zvw s a k m hm mf) ?_)
 (refine cL ?_;refine dL (zci (midOf s m)) ?_)
 refine zai hm' rfl ?_;conv=>whnf
 refine zai hm' rfl ?_;conv=>whnf
 refine zai hm' rfl ?_;conv=>whnf
 refine zai hm' rfl ?_;conv=>whnf
 refine zai hm' rfl ?_;conv=>whnf
 refine zan (z:=m.sent+many s m) hWs ?_;conv=>whnf
 refine zaa (c:=0 <= m.sent /\ m.sent <= m.sent+many s m /\ m.sent+many s m <= ((m.message.data.map bRow).length:Int)) ⟨ms,by omega,by rw [List.length_map];omega⟩ ?_;conv=>whnf
 refine zgi (o':=m.sent.toNat) (n':=(many s m).toNat) rfl (show (m.sent+many s m - m.sent).toNat=(many s m).toNat by rw [show m.sent+many s m - m.sent=many s m by omega]) ?_
 refine zee (f:=bRow) (l:=m.message.data) (o:=m.sent.toNat) (n:=(many s m).toNat) (by omega) ?_
 conv=>whnf
 (refine zap [(0,150)]  ?_;(conv=>whnf);refine dO (Cl.zcz ((m.message.data.drop m.sent.toNat).take (many s m).toNat) (by simp;omega)) ?_)
 refine zga [4,10,18,24,29,33,37] ?_ ?_ ?_
 . kernel_rfl
 . refine ⟨?_,?_,?_,?_,?_,?_,?_,trivial⟩
   all_goals
    refine And.intro trivial ?_
    refine And.intro trivial ?_
    refine And.intro ?_ trivial
    conv=>whnf
    refine And.intro ?_ ?_
    . conv=>whnf
      all_goals first | rfl | exact zai hm rfl rfl
    refine And.intro ?_ trivial
    conv=>whnf
    all_goals first | rfl | exact zai hm' rfl rfl
 conv=>whnf
 refine zai hm' rfl ?_;conv=>whnf
 (refine zap [(0,163)]  ?_;(conv=>whnf);refine dO (zgt s.sched { m with mid:=midOf s m } (many s m) (ovr s m) (by omega) mf.lo mh) ?_)
 refine sD ?_
 refine zai hm' rfl ?_;conv=>whnf
 refine zai hm' rfl ?_;conv=>whnf
 refine zai hm' rfl ?_;conv=>whnf
 refine zai hm' rfl ?_;conv=>whnf
 refine zaa (c:=((s.out.map Sent.row).length+1) * 200 <= 140737488355328) (by rw [List.length_map];omega) ?_;conv=>whnf
 refine sD ?_
 refine sR ?_
 refine zai hm' rfl ?_;conv=>whnf
 refine zan (z:=m.sent+many s m) hWs ?_;conv=>whnf
 refine zai hm' rfl ?_;conv=>whnf
 refine zbe rfl (by simp [midS];omega) ?_;conv=>whnf
 refine sR ?_
 refine zbe rfl (by simp [midS];omega) ?_;conv=>whnf
 refine zcx (z':=(s.out.length:Int)) ?_ ?_
 . show W ((((midS s k m).out.map Sent.row++[_]).length:Int) - 1)=_
   rw [List.length_append,List.length_map,show (midS s k m).out=s.out from rfl,W_fit (by simp only [List.length_cons,List.length_nil];omega) (by simp only [List.length_cons,List.length_nil];omega)]
   simp only [List.length_cons,List.length_nil];omega
 conv=>whnf
 refine zaa (by rw [List.length_append,List.length_map,show (midS s k m).out=s.out from rfl];simp only [List.length_cons,List.length_nil];omega) ?_;conv=>whnf
 (refine zag [] [(1000,1000),(1001,1001),(1002,163),(1003,199),(1004,1004),(1005,1005),(1006,1006),(1007,1007),(1008,1008)] [(0,920)] ?_;(conv=>whnf);refine dG (zjg (s2 s k m) a s.out.length (x0 s m) w (by simp [s2]) hw (by omega)) ?_ ⟨rfl,rfl,rfl,⟨⟨rfl,_,rfl,.inl ⟨rfl,rfl⟩⟩,⟨⟨rfl,_,rfl,.inl ⟨rfl,q2row⟩⟩,⟨⟨rfl,_,rfl,.inl ⟨rfl,rfl⟩⟩,⟨⟨rfl,_,rfl,.inl ⟨rfl,(zat (f:=Sent.row) (x:=x0 s m) rfl rfl)⟩⟩,⟨⟨rfl,_,rfl,.inl ⟨rfl,rfl⟩⟩,⟨⟨rfl,_,rfl,.inl ⟨rfl,rfl⟩⟩,⟨⟨rfl,_,rfl,.inl ⟨rfl,rfl⟩⟩,⟨⟨rfl,_,rfl,.inl ⟨rfl,rfl⟩⟩,⟨⟨rfl,_,rfl,.inl ⟨rfl,rfl⟩⟩,trivial⟩⟩⟩⟩⟩⟩⟩⟩⟩,⟨⟨rfl,rfl⟩,trivial⟩,rfl,rfl,rfl⟩)
 refine sD ?_
 cases hov:ovr s m with
 | true =>
  refine zad ?_ ?_
  . exact hov
  conv=>whnf
  repeat (refine hcut.go ?_;conv=>whnf)
  refine zcx (z':=((k+1:Nat):Int)) ?_ ?_
  . show W ((k:Int)+1)=_
    rw [W_fit (by omega) (by omega)];push_cast;rfl
  conv=>whnf
  (refine zag [] [(1000,1001)] [(0,930)] ?_;(conv=>whnf);refine dG (delq (s.queue.set k (m2 s m)) k (k+1) (by omega) (by simp;omega) (by simp;omega)) ?_)
  rw [zds hc0 hw rfl,if_pos hov] at hG
  subst hG
  (exact zbz (pK9 [(0,some 930),(1,some 163),(2,some 199),(3,some 1004),(4,some 1005),(5,some 1006),(6,some 920)]) (by repeat' (first | exact z0 | refine z1 ?_ | refine ⟨?_,?_⟩ | ((exact zao (by rw [zgu hkl]))) | exact z2)))
 | false =>
  refine zab ?_ ?_
  . exact hov
  conv=>whnf
  repeat (refine hcut.go ?_;conv=>whnf)
  rw [zds hc0 hw rfl,if_neg (by rw [hov];decide)] at hG
  subst hG
  (exact zbw (pK9 [(0,some 1001),(1,some 163),(2,some 199),(3,some 1004),(4,some 1005),(5,some 1006),(6,some 920)]))
end Snd
end Go.HL
namespace Go.HL
open Go.Proofs
namespace Snd
open Ser
set_option maxHeartbeats 8000000
set_option maxRecDepth 100000
set_option linter.unusedSimpArgs false
theorem zwa (s:Sender) (a b:List Chunk) (hs:NFit s) (h1p:s.paths.length=2) (hc0:choose s=0) (hb:a.length+b.length < 2 ^ 29):FunOK Tryz.prog 96 [.ptr 1000 0] (lk .free (pH2 s a b)) (hbool (nx s [a,b]).2) (lk .free (pD2 (nx s [a,b]).1.s (nth0 (nx s [a,b]).1.out) (nth1 (nx s [a,b]).1.out))):=by
 obtain ⟨g,hp,hp1,hp2,hmsg⟩:=hs
 obtain ⟨⟨f1,f2,f3,f4,f5,f6,f7⟩,g2,g3,g4⟩:=g
 obtain ⟨hch,hch2⟩:=zcc hp
 have pc:=Paths.zda s.paths (by omega)
 rw [hch,hc0] at pc
 have pn:=Sch.zog s.config.turns s.sched s.queue (by omega) (by omega)
 obtain ⟨w,hw⟩:∃ w,s.paths[0]?=some w:=⟨_,List.getElem?_eq_getElem (by omega)⟩
 have hwc:s.paths[choose s]?=some w:=by rw [hc0];exact hw
 generalize hG:nx s [a,b]=G
 refine zal mixed Tryz.func96 (by decide) [1000,1001,1002,1003,1004,1005,1006,1007,1008,1009] zbn ?_
 conv=>whnf
 (refine cL ?_;refine dL pc ?_)
 by_cases c1:zcu s < 0
 case pos =>
  (refine cL ?_;refine dL pn ?_)
  refine sD ?_
  refine zad ?_ ?_
  . exact decide_eq_true c1
  conv=>whnf
  rw [ybv c1] at hG
  subst hG
  repeat (refine hcut.go ?_;conv=>whnf)
  (exact zbw (pK10 [(0,some 1001),(1,some 1002),(2,some 1003),(3,some 1004),(4,some 1005),(5,some 1006),(6,some 1008),(7,some 1009)]))
 obtain ⟨k,hkl,hke⟩:=zti (t:=s.config.turns) (s:=s.sched) (q:=s.queue) (by unfold zcu at c1;omega)
 have hke':zcu s=k:=hke
 rw [hke] at pn
 obtain ⟨m,hm⟩:∃ m,s.queue[k]?=some m:=⟨_,List.getElem?_eq_getElem hkl⟩
 have hmf:=hmsg m (List.mem_of_getElem? hm)
 obtain ⟨mf,mh,ms,ml,md⟩:=hmf
 obtain ⟨n1,n2,n3⟩:=zli (s:=s) (m:=m) hp1 hp2 ms ml md
 (refine cL ?_;refine dL pn ?_)
 refine sD ?_
 try (refine zab ?_ ?_;· simp;conv=>whnf)
 refine sOm ?_
 refine zai hw rfl ?_;conv=>whnf
 (refine cL ?_;refine dL (Paths.zgo w) ?_)
 by_cases c2:w.flight < w.window
 case neg =>
  refine zad ?_ ?_
  . simpa using c2
  conv=>whnf
  rw [ybw hwc c2] at hG
  subst hG
  repeat (refine hcut.go ?_;conv=>whnf)
  (exact zbw (pK10 [(0,some 1001),(1,some 1002),(2,some 1003),(3,some 1004),(4,some 1005),(5,some 1006),(6,some 1008),(7,some 1009)]))
 refine zab ?_ ?_
 . simpa using c2
 conv=>whnf
 by_cases c3:(s.out.length:Int) >= 60
 case pos =>
  refine zad ?_ ?_
  . rw [List.length_map];exact decide_eq_true c3
  conv=>whnf
  rw [ybx c3] at hG
  subst hG
  repeat (refine hcut.go ?_;conv=>whnf)
  (exact zbw (pK10 [(0,some 1001),(1,some 1002),(2,some 1003),(3,some 1004),(4,some 1005),(5,some 1006),(6,some 1008),(7,some 1009)]))
 refine zab ?_ ?_
 . rw [List.length_map];exact decide_eq_false c3
 conv=>whnf
 repeat (refine hcut.go ?_;conv=>whnf)
 refine sOm ?_
 refine zai hm rfl ?_;conv=>whnf
 refine zai hm rfl ?_;conv=>whnf
 refine zcx (z':=(m.message.data.length:Int) - m.sent) ?_ ?_
 . show W _=_
   rw [List.length_map];exact W_fit (by omega) (by omega)
 conv=>whnf
 refine sD ?_
 (refine zag [] [(1000,1000),(1001,1001),(1002,1002),(1003,1003),(1004,1004),(1005,1005),(1006,1006),(1007,1007),(1008,1008),(1009,1009)] [] ?_;(conv=>whnf);refine dG (zmc s a b f4) ?_)
 have hWs:W (m.sent+many s m)=m.sent+many s m:=W_fit (by omega) (by omega)
 by_cases c4:flight s > 0
 case pos =>
  refine zad ?_ ?_
  . exact decide_eq_true c4
  conv=>whnf
  refine sR ?_
  by_cases c5:W (flight s+many s m) > s.room
  case pos =>
   refine zad ?_ ?_
   . exact decide_eq_true c5
   conv=>whnf
   rw [yby hke' hm hwc c2 c3 ⟨c4,c5⟩] at hG
   subst hG
   repeat (refine hcut.go ?_;conv=>whnf)
   (exact zbw (pK10 [(0,some 1001),(1,some 1002),(2,some 1003),(3,some 1004),(4,some 1005),(5,some 1006),(6,some 1008),(7,some 1009)]))
  refine zab ?_ ?_
  . exact decide_eq_false c5
  conv=>whnf
  repeat (refine hcut.go ?_;conv=>whnf)
  rw [zor hke' hm hwc c2 c3 fun h=>c5 h.2] at hG
  refine zai hm rfl ?_;conv=>whnf
  refine zan (z:=m.sent+many s m) hWs ?_;conv=>whnf
  refine zai hm rfl ?_;conv=>whnf
  refine sD ?_
  have hm':(midS s k m).queue[k]?=some { m with mid:=midOf s m }:=by show (s.queue.set k _)[k]?=_;rw [List.getElem?_set_self hkl]
  have hmr:(s.queue.map Queued.row)[k]?=some m.row:=by rw [List.getElem?_map,hm];rfl
  (refine cL ?_;refine dL (zci s.next) ?_)
  refine zai hm rfl ?_;conv=>whnf
  (refine zag [] [(1000,1000),(1001,1001),(1002,1002),(1003,1003),(1004,1004),(1005,1005),(1006,1006),(1007,1007),(1008,1008),(1009,1009)] [] ?_;(conv=>whnf);refine dG (zkc s a b k m hm mf) ?_)
  (refine cL ?_;refine dL (zci (midOf s m)) ?_)
  refine zai hm' rfl ?_;conv=>whnf
  refine zai hm' rfl ?_;conv=>whnf
  refine zai hm' rfl ?_;conv=>whnf
  refine zai hm' rfl ?_;conv=>whnf
  refine zai hm' rfl ?_;conv=>whnf
  refine zan (z:=m.sent+many s m) hWs ?_;conv=>whnf
  refine zaa (c:=0 <= m.sent /\ m.sent <= m.sent+many s m /\ m.sent+many s m <= ((m.message.data.map bRow).length:Int)) ⟨ms,by omega,by rw [List.length_map];omega⟩ ?_;conv=>whnf
  refine zgi (o':=m.sent.toNat) (n':=(many s m).toNat) rfl (show (m.sent+many s m - m.sent).toNat=(many s m).toNat by rw [show m.sent+many s m - m.sent=many s m by omega]) ?_
  refine zee (f:=bRow) (l:=m.message.data) (o:=m.sent.toNat) (n:=(many s m).toNat) (by omega) ?_
  conv=>whnf
  (refine zap [(0,150)]  ?_;(conv=>whnf);refine dO (Cl.zcz ((m.message.data.drop m.sent.toNat).take (many s m).toNat) (by simp;omega)) ?_)
  refine zga [4,10,18,24,29,33,37] ?_ ?_ ?_
  . kernel_rfl
  . refine ⟨?_,?_,?_,?_,?_,?_,?_,trivial⟩
    all_goals
     refine And.intro trivial ?_
     refine And.intro trivial ?_
     refine And.intro ?_ trivial
     conv=>whnf
     refine And.intro ?_ ?_
     . conv=>whnf
       all_goals first | rfl | exact zai hm rfl rfl
     refine And.intro ?_ trivial
     conv=>whnf
     all_goals first | rfl | exact zai hm' rfl rfl
  conv=>whnf
  refine zai hm' rfl ?_;conv=>whnf
  (refine zap [(0,163)]  ?_;(conv=>whnf);refine dO (zgt s.sched { m with mid:=midOf s m } (many s m) (ovr s m) (by omega) mf.lo mh) ?_)
  refine sD ?_
  refine zai hm' rfl ?_;conv=>whnf
  refine zai hm' rfl ?_;conv=>whnf
  refine zai hm' rfl ?_;conv=>whnf
  refine zai hm' rfl ?_;conv=>whnf
  refine zaa (c:=((s.out.map Sent.row).length+1) * 200 <= 140737488355328) (by rw [List.length_map];omega) ?_;conv=>whnf
  refine sD ?_
  refine sR ?_
  refine zai hm' rfl ?_;conv=>whnf
  refine zan (z:=m.sent+many s m) hWs ?_;conv=>whnf
  refine zai hm' rfl ?_;conv=>whnf
  refine zbe rfl (by simp [midS];omega) ?_;conv=>whnf
  refine sR ?_
  refine zbe rfl (by simp [midS];omega) ?_;conv=>whnf
  refine zcx (z':=(s.out.length:Int)) ?_ ?_
  . show W ((((midS s k m).out.map Sent.row++[_]).length:Int) - 1)=_
    rw [List.length_append,List.length_map,show (midS s k m).out=s.out from rfl,W_fit (by simp only [List.length_cons,List.length_nil];omega) (by simp only [List.length_cons,List.length_nil];omega)]
    simp only [List.length_cons,List.length_nil];omega
  conv=>whnf
  refine zaa (by rw [List.length_append,List.length_map,show (midS s k m).out=s.out from rfl];simp only [List.length_cons,List.length_nil];omega) ?_;conv=>whnf
  (refine zag [] [(1000,1000),(1001,1001),(1002,163),(1003,199),(1004,1004),(1005,1005),(1006,1006),(1007,1007),(1008,1008),(1009,1009)] [(0,920)] ?_;(conv=>whnf);refine dG (zjh (s2 s k m) a b s.out.length (x0 s m) w (by simp [s2]) hw (by omega)) ?_ ⟨rfl,rfl,rfl,⟨⟨rfl,_,rfl,.inl ⟨rfl,rfl⟩⟩,⟨⟨rfl,_,rfl,.inl ⟨rfl,q2row⟩⟩,⟨⟨rfl,_,rfl,.inl ⟨rfl,rfl⟩⟩,⟨⟨rfl,_,rfl,.inl ⟨rfl,(zat (f:=Sent.row) (x:=x0 s m) rfl rfl)⟩⟩,⟨⟨rfl,_,rfl,.inl ⟨rfl,rfl⟩⟩,⟨⟨rfl,_,rfl,.inl ⟨rfl,rfl⟩⟩,⟨⟨rfl,_,rfl,.inl ⟨rfl,rfl⟩⟩,⟨⟨rfl,_,rfl,.inl ⟨rfl,rfl⟩⟩,⟨⟨rfl,_,rfl,.inl ⟨rfl,rfl⟩⟩,⟨⟨rfl,_,rfl,.inl ⟨rfl,rfl⟩⟩,trivial⟩⟩⟩⟩⟩⟩⟩⟩⟩⟩,⟨⟨rfl,rfl⟩,trivial⟩,rfl,rfl,rfl⟩)
  refine sD ?_
  cases hov:ovr s m with
  | true =>
   refine zad ?_ ?_
   . exact hov
   conv=>whnf
   repeat (refine hcut.go ?_;conv=>whnf)
   refine zcx (z':=((k+1:Nat):Int)) ?_ ?_
   . show W ((k:Int)+1)=_
     rw [W_fit (by omega) (by omega)];push_cast;rfl
   conv=>whnf
   (refine zag [] [(1000,1001)] [(0,930)] ?_;(conv=>whnf);refine dG (delq (s.queue.set k (m2 s m)) k (k+1) (by omega) (by simp;omega) (by simp;omega)) ?_)
   rw [zds hc0 hw rfl,if_pos hov] at hG
   subst hG
   (exact zbz (pK10 [(0,some 930),(1,some 163),(2,some 199),(3,some 1004),(4,some 1005),(5,some 1006),(6,some 920),(7,some 1009)]) (by repeat' (first | exact z0 | refine z1 ?_ | refine ⟨?_,?_⟩ | ((exact zao (by rw [zgu hkl]))) | exact z2)))
  | false =>
   refine zab ?_ ?_
   . exact hov
   conv=>whnf
   repeat (refine hcut.go ?_;conv=>whnf)
   rw [zds hc0 hw rfl,if_neg (by rw [hov];decide)] at hG
   subst hG
   (exact zbw (pK10 [(0,some 1001),(1,some 163),(2,some 199),(3,some 1004),(4,some 1005),(5,some 1006),(6,some 920),(7,some 1009)]))
 refine zab ?_ ?_
 . exact decide_eq_false c4
 conv=>whnf
 repeat (refine hcut.go ?_;conv=>whnf)
 rw [zor hke' hm hwc c2 c3 fun h=>c4 h.1] at hG
 refine zai hm rfl ?_;conv=>whnf
 refine zan (z:=m.sent+many s m) hWs ?_;conv=>whnf
 refine zai hm rfl ?_;conv=>whnf
 refine sD ?_
 have hm':(midS s k m).queue[k]?=some { m with mid:=midOf s m }:=by show (s.queue.set k _)[k]?=_;rw [List.getElem?_set_self hkl]
 have hmr:(s.queue.map Queued.row)[k]?=some m.row:=by rw [List.getElem?_map,hm];rfl
 (refine cL ?_;refine dL (zci s.next) ?_)
 refine zai hm rfl ?_;conv=>whnf
 (refine zag [] [(1000,1000),(1001,1001),(1002,1002),(1003,1003),(1004,1004),(1005,1005),(1006,1006),(1007,1007),(1008,1008),(1009,1009)] [] ?_;(conv=>whnf);refine dG (zkc s a b k m hm mf) ?_)
 (refine cL ?_;refine dL (zci (midOf s m)) ?_)
 refine zai hm' rfl ?_;conv=>whnf
 refine zai hm' rfl ?_;conv=>whnf
 refine zai hm' rfl ?_;conv=>whnf
 refine zai hm' rfl ?_;conv=>whnf
 refine zai hm' rfl ?_;conv=>whnf
 refine zan (z:=m.sent+many s m) hWs ?_;conv=>whnf
 refine zaa (c:=0 <= m.sent /\ m.sent <= m.sent+many s m /\ m.sent+many s m <= ((m.message.data.map bRow).length:Int)) ⟨ms,by omega,by rw [List.length_map];omega⟩ ?_;conv=>whnf
 refine zgi (o':=m.sent.toNat) (n':=(many s m).toNat) rfl (show (m.sent+many s m - m.sent).toNat=(many s m).toNat by rw [show m.sent+many s m - m.sent=many s m by omega]) ?_
 refine zee (f:=bRow) (l:=m.message.data) (o:=m.sent.toNat) (n:=(many s m).toNat) (by omega) ?_
 conv=>whnf
 (refine zap [(0,150)]  ?_;(conv=>whnf);refine dO (Cl.zcz ((m.message.data.drop m.sent.toNat).take (many s m).toNat) (by simp;omega)) ?_)
 refine zga [4,10,18,24,29,33,37] ?_ ?_ ?_
 . kernel_rfl
 . refine ⟨?_,?_,?_,?_,?_,?_,?_,trivial⟩
   all_goals
    refine And.intro trivial ?_
    refine And.intro trivial ?_
    refine And.intro ?_ trivial
    conv=>whnf
    refine And.intro ?_ ?_
    . conv=>whnf
      all_goals first | rfl | exact zai hm rfl rfl
    refine And.intro ?_ trivial
    conv=>whnf
    all_goals first | rfl | exact zai hm' rfl rfl
 conv=>whnf
 refine zai hm' rfl ?_;conv=>whnf
 (refine zap [(0,163)]  ?_;(conv=>whnf);refine dO (zgt s.sched { m with mid:=midOf s m } (many s m) (ovr s m) (by omega) mf.lo mh) ?_)
 refine sD ?_
 refine zai hm' rfl ?_;conv=>whnf
 refine zai hm' rfl ?_;conv=>whnf
 refine zai hm' rfl ?_;conv=>whnf
 refine zai hm' rfl ?_;conv=>whnf
 refine zaa (c:=((s.out.map Sent.row).length+1) * 200 <= 140737488355328) (by rw [List.length_map];omega) ?_;conv=>whnf
 refine sD ?_
 refine sR ?_
 refine zai hm' rfl ?_;conv=>whnf
 refine zan (z:=m.sent+many s m) hWs ?_;conv=>whnf
 refine zai hm' rfl ?_;conv=>whnf
 refine zbe rfl (by simp [midS];omega) ?_;conv=>whnf
 refine sR ?_
 refine zbe rfl (by simp [midS];omega) ?_;conv=>whnf
 refine zcx (z':=(s.out.length:Int)) ?_ ?_
 . show W ((((midS s k m).out.map Sent.row++[_]).length:Int) - 1)=_
   rw [List.length_append,List.length_map,show (midS s k m).out=s.out from rfl,W_fit (by simp only [List.length_cons,List.length_nil];omega) (by simp only [List.length_cons,List.length_nil];omega)]
   simp only [List.length_cons,List.length_nil];omega
 conv=>whnf
 refine zaa (by rw [List.length_append,List.length_map,show (midS s k m).out=s.out from rfl];simp only [List.length_cons,List.length_nil];omega) ?_;conv=>whnf
 (refine zag [] [(1000,1000),(1001,1001),(1002,163),(1003,199),(1004,1004),(1005,1005),(1006,1006),(1007,1007),(1008,1008),(1009,1009)] [(0,920)] ?_;(conv=>whnf);refine dG (zjh (s2 s k m) a b s.out.length (x0 s m) w (by simp [s2]) hw (by omega)) ?_ ⟨rfl,rfl,rfl,⟨⟨rfl,_,rfl,.inl ⟨rfl,rfl⟩⟩,⟨⟨rfl,_,rfl,.inl ⟨rfl,q2row⟩⟩,⟨⟨rfl,_,rfl,.inl ⟨rfl,rfl⟩⟩,⟨⟨rfl,_,rfl,.inl ⟨rfl,(zat (f:=Sent.row) (x:=x0 s m) rfl rfl)⟩⟩,⟨⟨rfl,_,rfl,.inl ⟨rfl,rfl⟩⟩,⟨⟨rfl,_,rfl,.inl ⟨rfl,rfl⟩⟩,⟨⟨rfl,_,rfl,.inl ⟨rfl,rfl⟩⟩,⟨⟨rfl,_,rfl,.inl ⟨rfl,rfl⟩⟩,⟨⟨rfl,_,rfl,.inl ⟨rfl,rfl⟩⟩,⟨⟨rfl,_,rfl,.inl ⟨rfl,rfl⟩⟩,trivial⟩⟩⟩⟩⟩⟩⟩⟩⟩⟩,⟨⟨rfl,rfl⟩,trivial⟩,rfl,rfl,rfl⟩)
 refine sD ?_
 cases hov:ovr s m with
 | true =>
  refine zad ?_ ?_
  . exact hov
  conv=>whnf
  repeat (refine hcut.go ?_;conv=>whnf)
  refine zcx (z':=((k+1:Nat):Int)) ?_ ?_
  . show W ((k:Int)+1)=_
    rw [W_fit (by omega) (by omega)];push_cast;rfl
  conv=>whnf
  (refine zag [] [(1000,1001)] [(0,930)] ?_;(conv=>whnf);refine dG (delq (s.queue.set k (m2 s m)) k (k+1) (by omega) (by simp;omega) (by simp;omega)) ?_)
  rw [zds hc0 hw rfl,if_pos hov] at hG
  subst hG
  (exact zbz (pK10 [(0,some 930),(1,some 163),(2,some 199),(3,some 1004),(4,some 1005),(5,some 1006),(6,some 920),(7,some 1009)]) (by repeat' (first | exact z0 | refine z1 ?_ | refine ⟨?_,?_⟩ | ((exact zao (by rw [zgu hkl]))) | exact z2)))
 | false =>
  refine zab ?_ ?_
  . exact hov
  conv=>whnf
  repeat (refine hcut.go ?_;conv=>whnf)
  rw [zds hc0 hw rfl,if_neg (by rw [hov];decide)] at hG
  subst hG
  (exact zbw (pK10 [(0,some 1001),(1,some 163),(2,some 199),(3,some 1004),(4,some 1005),(5,some 1006),(6,some 920),(7,some 1009)]))
end Snd
end Go.HL
namespace Go.HL
open Go.Proofs
namespace Snd
open Ser
set_option maxHeartbeats 8000000
set_option maxRecDepth 100000
set_option linter.unusedSimpArgs false
theorem zwb (s:Sender) (a b:List Chunk) (hs:NFit s) (h1p:s.paths.length=2) (hc0:choose s=1) (hb:a.length+b.length < 2 ^ 29):FunOK Tryz.prog 96 [.ptr 1000 0] (lk .free (pH2 s a b)) (hbool (nx s [a,b]).2) (lk .free (pD2 (nx s [a,b]).1.s (nth0 (nx s [a,b]).1.out) (nth1 (nx s [a,b]).1.out))):=by
 obtain ⟨g,hp,hp1,hp2,hmsg⟩:=hs
 obtain ⟨⟨f1,f2,f3,f4,f5,f6,f7⟩,g2,g3,g4⟩:=g
 obtain ⟨hch,hch2⟩:=zcc hp
 have pc:=Paths.zda s.paths (by omega)
 rw [hch,hc0] at pc
 have pn:=Sch.zog s.config.turns s.sched s.queue (by omega) (by omega)
 obtain ⟨w,hw⟩:∃ w,s.paths[1]?=some w:=⟨_,List.getElem?_eq_getElem (by omega)⟩
 have hwc:s.paths[choose s]?=some w:=by rw [hc0];exact hw
 generalize hG:nx s [a,b]=G
 refine zal mixed Tryz.func96 (by decide) [1000,1001,1002,1003,1004,1005,1006,1007,1008,1009] zbn ?_
 conv=>whnf
 (refine cL ?_;refine dL pc ?_)
 by_cases c1:zcu s < 0
 case pos =>
  (refine cL ?_;refine dL pn ?_)
  refine sD ?_
  refine zad ?_ ?_
  . exact decide_eq_true c1
  conv=>whnf
  rw [ybv c1] at hG
  subst hG
  repeat (refine hcut.go ?_;conv=>whnf)
  (exact zbw (pK10 [(0,some 1001),(1,some 1002),(2,some 1003),(3,some 1004),(4,some 1005),(5,some 1006),(6,some 1008),(7,some 1009)]))
 obtain ⟨k,hkl,hke⟩:=zti (t:=s.config.turns) (s:=s.sched) (q:=s.queue) (by unfold zcu at c1;omega)
 have hke':zcu s=k:=hke
 rw [hke] at pn
 obtain ⟨m,hm⟩:∃ m,s.queue[k]?=some m:=⟨_,List.getElem?_eq_getElem hkl⟩
 have hmf:=hmsg m (List.mem_of_getElem? hm)
 obtain ⟨mf,mh,ms,ml,md⟩:=hmf
 obtain ⟨n1,n2,n3⟩:=zli (s:=s) (m:=m) hp1 hp2 ms ml md
 (refine cL ?_;refine dL pn ?_)
 refine sD ?_
 try (refine zab ?_ ?_;· simp;conv=>whnf)
 refine sOm ?_
 refine zai hw rfl ?_;conv=>whnf
 (refine cL ?_;refine dL (Paths.zgo w) ?_)
 by_cases c2:w.flight < w.window
 case neg =>
  refine zad ?_ ?_
  . simpa using c2
  conv=>whnf
  rw [ybw hwc c2] at hG
  subst hG
  repeat (refine hcut.go ?_;conv=>whnf)
  (exact zbw (pK10 [(0,some 1001),(1,some 1002),(2,some 1003),(3,some 1004),(4,some 1005),(5,some 1006),(6,some 1008),(7,some 1009)]))
 refine zab ?_ ?_
 . simpa using c2
 conv=>whnf
 by_cases c3:(s.out.length:Int) >= 60
 case pos =>
  refine zad ?_ ?_
  . rw [List.length_map];exact decide_eq_true c3
  conv=>whnf
  rw [ybx c3] at hG
  subst hG
  repeat (refine hcut.go ?_;conv=>whnf)
  (exact zbw (pK10 [(0,some 1001),(1,some 1002),(2,some 1003),(3,some 1004),(4,some 1005),(5,some 1006),(6,some 1008),(7,some 1009)]))
 refine zab ?_ ?_
 . rw [List.length_map];exact decide_eq_false c3
 conv=>whnf
 repeat (refine hcut.go ?_;conv=>whnf)
 refine sOm ?_
 refine zai hm rfl ?_;conv=>whnf
 refine zai hm rfl ?_;conv=>whnf
 refine zcx (z':=(m.message.data.length:Int) - m.sent) ?_ ?_
 . show W _=_
   rw [List.length_map];exact W_fit (by omega) (by omega)
 conv=>whnf
 refine sD ?_
 (refine zag [] [(1000,1000),(1001,1001),(1002,1002),(1003,1003),(1004,1004),(1005,1005),(1006,1006),(1007,1007),(1008,1008),(1009,1009)] [] ?_;(conv=>whnf);refine dG (zmc s a b f4) ?_)
 have hWs:W (m.sent+many s m)=m.sent+many s m:=W_fit (by omega) (by omega)
 by_cases c4:flight s > 0
 case pos =>
  refine zad ?_ ?_
  . exact decide_eq_true c4
  conv=>whnf
  refine sR ?_
  by_cases c5:W (flight s+many s m) > s.room
  case pos =>
   refine zad ?_ ?_
   . exact decide_eq_true c5
   conv=>whnf
   rw [yby hke' hm hwc c2 c3 ⟨c4,c5⟩] at hG
   subst hG
   repeat (refine hcut.go ?_;conv=>whnf)
   (exact zbw (pK10 [(0,some 1001),(1,some 1002),(2,some 1003),(3,some 1004),(4,some 1005),(5,some 1006),(6,some 1008),(7,some 1009)]))
  refine zab ?_ ?_
  . exact decide_eq_false c5
  conv=>whnf
  repeat (refine hcut.go ?_;conv=>whnf)
  rw [zor hke' hm hwc c2 c3 fun h=>c5 h.2] at hG
  refine zai hm rfl ?_;conv=>whnf
  refine zan (z:=m.sent+many s m) hWs ?_;conv=>whnf
  refine zai hm rfl ?_;conv=>whnf
  refine sD ?_
  have hm':(midS s k m).queue[k]?=some { m with mid:=midOf s m }:=by show (s.queue.set k _)[k]?=_;rw [List.getElem?_set_self hkl]
  have hmr:(s.queue.map Queued.row)[k]?=some m.row:=by rw [List.getElem?_map,hm];rfl
  (refine cL ?_;refine dL (zci s.next) ?_)
  refine zai hm rfl ?_;conv=>whnf
  (refine zag [] [(1000,1000),(1001,1001),(1002,1002),(1003,1003),(1004,1004),(1005,1005),(1006,1006),(1007,1007),(1008,1008),(1009,1009)] [] ?_;(conv=>whnf);refine dG (zkc s a b k m hm mf) ?_)
  (refine cL ?_;refine dL (zci (midOf s m)) ?_)
  refine zai hm' rfl ?_;conv=>whnf
  refine zai hm' rfl ?_;conv=>whnf
  refine zai hm' rfl ?_;conv=>whnf
  refine zai hm' rfl ?_;conv=>whnf
  refine zai hm' rfl ?_;conv=>whnf
  refine zan (z:=m.sent+many s m) hWs ?_;conv=>whnf
  refine zaa (c:=0 <= m.sent /\ m.sent <= m.sent+many s m /\ m.sent+many s m <= ((m.message.data.map bRow).length:Int)) ⟨ms,by omega,by rw [List.length_map];omega⟩ ?_;conv=>whnf
  refine zgi (o':=m.sent.toNat) (n':=(many s m).toNat) rfl (show (m.sent+many s m - m.sent).toNat=(many s m).toNat by rw [show m.sent+many s m - m.sent=many s m by omega]) ?_
  refine zee (f:=bRow) (l:=m.message.data) (o:=m.sent.toNat) (n:=(many s m).toNat) (by omega) ?_
  conv=>whnf
  (refine zap [(0,150)]  ?_;(conv=>whnf);refine dO (Cl.zcz ((m.message.data.drop m.sent.toNat).take (many s m).toNat) (by simp;omega)) ?_)
  refine zga [4,10,18,24,29,33,37] ?_ ?_ ?_
  . kernel_rfl
  . refine ⟨?_,?_,?_,?_,?_,?_,?_,trivial⟩
    all_goals
     refine And.intro trivial ?_
     refine And.intro trivial ?_
     refine And.intro ?_ trivial
     conv=>whnf
     refine And.intro ?_ ?_
     . conv=>whnf
       all_goals first | rfl | exact zai hm rfl rfl
     refine And.intro ?_ trivial
     conv=>whnf
     all_goals first | rfl | exact zai hm' rfl rfl
  conv=>whnf
  refine zai hm' rfl ?_;conv=>whnf
  (refine zap [(0,163)]  ?_;(conv=>whnf);refine dO (zgt s.sched { m with mid:=midOf s m } (many s m) (ovr s m) (by omega) mf.lo mh) ?_)
  refine sD ?_
  refine zai hm' rfl ?_;conv=>whnf
  refine zai hm' rfl ?_;conv=>whnf
  refine zai hm' rfl ?_;conv=>whnf
  refine zai hm' rfl ?_;conv=>whnf
  refine zaa (c:=((s.out.map Sent.row).length+1) * 200 <= 140737488355328) (by rw [List.length_map];omega) ?_;conv=>whnf
  refine sD ?_
  refine sR ?_
  refine zai hm' rfl ?_;conv=>whnf
  refine zan (z:=m.sent+many s m) hWs ?_;conv=>whnf
  refine zai hm' rfl ?_;conv=>whnf
  refine zbe rfl (by simp [midS];omega) ?_;conv=>whnf
  refine sR ?_
  refine zbe rfl (by simp [midS];omega) ?_;conv=>whnf
  refine zcx (z':=(s.out.length:Int)) ?_ ?_
  . show W ((((midS s k m).out.map Sent.row++[_]).length:Int) - 1)=_
    rw [List.length_append,List.length_map,show (midS s k m).out=s.out from rfl,W_fit (by simp only [List.length_cons,List.length_nil];omega) (by simp only [List.length_cons,List.length_nil];omega)]
    simp only [List.length_cons,List.length_nil];omega
  conv=>whnf
  refine zaa (by rw [List.length_append,List.length_map,show (midS s k m).out=s.out from rfl];simp only [List.length_cons,List.length_nil];omega) ?_;conv=>whnf
  (refine zag [] [(1000,1000),(1001,1001),(1002,163),(1003,199),(1004,1004),(1005,1005),(1006,1006),(1007,1007),(1008,1008),(1009,1009)] [(0,920)] ?_;(conv=>whnf);refine dG (zji (s2 s k m) a b s.out.length (x0 s m) w (by simp [s2]) hw (by omega)) ?_ ⟨rfl,rfl,rfl,⟨⟨rfl,_,rfl,.inl ⟨rfl,rfl⟩⟩,⟨⟨rfl,_,rfl,.inl ⟨rfl,q2row⟩⟩,⟨⟨rfl,_,rfl,.inl ⟨rfl,rfl⟩⟩,⟨⟨rfl,_,rfl,.inl ⟨rfl,(zat (f:=Sent.row) (x:=x0 s m) rfl rfl)⟩⟩,⟨⟨rfl,_,rfl,.inl ⟨rfl,rfl⟩⟩,⟨⟨rfl,_,rfl,.inl ⟨rfl,rfl⟩⟩,⟨⟨rfl,_,rfl,.inl ⟨rfl,rfl⟩⟩,⟨⟨rfl,_,rfl,.inl ⟨rfl,rfl⟩⟩,⟨⟨rfl,_,rfl,.inl ⟨rfl,rfl⟩⟩,⟨⟨rfl,_,rfl,.inl ⟨rfl,rfl⟩⟩,trivial⟩⟩⟩⟩⟩⟩⟩⟩⟩⟩,⟨⟨rfl,rfl⟩,trivial⟩,rfl,rfl,rfl⟩)
  refine sD ?_
  cases hov:ovr s m with
  | true =>
   refine zad ?_ ?_
   . exact hov
   conv=>whnf
   repeat (refine hcut.go ?_;conv=>whnf)
   refine zcx (z':=((k+1:Nat):Int)) ?_ ?_
   . show W ((k:Int)+1)=_
     rw [W_fit (by omega) (by omega)];push_cast;rfl
   conv=>whnf
   (refine zag [] [(1000,1001)] [(0,930)] ?_;(conv=>whnf);refine dG (delq (s.queue.set k (m2 s m)) k (k+1) (by omega) (by simp;omega) (by simp;omega)) ?_)
   rw [zds hc0 hw rfl,if_pos hov] at hG
   subst hG
   (exact zbz (pK10 [(0,some 930),(1,some 163),(2,some 199),(3,some 1004),(4,some 1005),(5,some 1006),(6,some 1008),(7,some 920)]) (by repeat' (first | exact z0 | refine z1 ?_ | refine ⟨?_,?_⟩ | ((exact zao (by rw [zgu hkl]))) | exact z2)))
  | false =>
   refine zab ?_ ?_
   . exact hov
   conv=>whnf
   repeat (refine hcut.go ?_;conv=>whnf)
   rw [zds hc0 hw rfl,if_neg (by rw [hov];decide)] at hG
   subst hG
   (exact zbw (pK10 [(0,some 1001),(1,some 163),(2,some 199),(3,some 1004),(4,some 1005),(5,some 1006),(6,some 1008),(7,some 920)]))
 refine zab ?_ ?_
 . exact decide_eq_false c4
 conv=>whnf
 repeat (refine hcut.go ?_;conv=>whnf)
 rw [zor hke' hm hwc c2 c3 fun h=>c4 h.1] at hG
 refine zai hm rfl ?_;conv=>whnf
 refine zan (z:=m.sent+many s m) hWs ?_;conv=>whnf
 refine zai hm rfl ?_;conv=>whnf
 refine sD ?_
 have hm':(midS s k m).queue[k]?=some { m with mid:=midOf s m }:=by show (s.queue.set k _)[k]?=_;rw [List.getElem?_set_self hkl]
 have hmr:(s.queue.map Queued.row)[k]?=some m.row:=by rw [List.getElem?_map,hm];rfl
 (refine cL ?_;refine dL (zci s.next) ?_)
 refine zai hm rfl ?_;conv=>whnf
 (refine zag [] [(1000,1000),(1001,1001),(1002,1002),(1003,1003),(1004,1004),(1005,1005),(1006,1006),(1007,1007),(1008,1008),(1009,1009)] [] ?_;(conv=>whnf);refine dG (zkc s a b k m hm mf) ?_)
 (refine cL ?_;refine dL (zci (midOf s m)) ?_)
 refine zai hm' rfl ?_;conv=>whnf
 refine zai hm' rfl ?_;conv=>whnf
 refine zai hm' rfl ?_;conv=>whnf
 refine zai hm' rfl ?_;conv=>whnf
 refine zai hm' rfl ?_;conv=>whnf
 refine zan (z:=m.sent+many s m) hWs ?_;conv=>whnf
 refine zaa (c:=0 <= m.sent /\ m.sent <= m.sent+many s m /\ m.sent+many s m <= ((m.message.data.map bRow).length:Int)) ⟨ms,by omega,by rw [List.length_map];omega⟩ ?_;conv=>whnf
 refine zgi (o':=m.sent.toNat) (n':=(many s m).toNat) rfl (show (m.sent+many s m - m.sent).toNat=(many s m).toNat by rw [show m.sent+many s m - m.sent=many s m by omega]) ?_
 refine zee (f:=bRow) (l:=m.message.data) (o:=m.sent.toNat) (n:=(many s m).toNat) (by omega) ?_
 conv=>whnf
 (refine zap [(0,150)]  ?_;(conv=>whnf);refine dO (Cl.zcz ((m.message.data.drop m.sent.toNat).take (many s m).toNat) (by simp;omega)) ?_)
 refine zga [4,10,18,24,29,33,37] ?_ ?_ ?_
 . kernel_rfl
 . refine ⟨?_,?_,?_,?_,?_,?_,?_,trivial⟩
   all_goals
    refine And.intro trivial ?_
    refine And.intro trivial ?_
    refine And.intro ?_ trivial
    conv=>whnf
    refine And.intro ?_ ?_
    . conv=>whnf
      all_goals first | rfl | exact zai hm rfl rfl
    refine And.intro ?_ trivial
    conv=>whnf
    all_goals first | rfl | exact zai hm' rfl rfl
 conv=>whnf
 refine zai hm' rfl ?_;conv=>whnf
 (refine zap [(0,163)]  ?_;(conv=>whnf);refine dO (zgt s.sched { m with mid:=midOf s m } (many s m) (ovr s m) (by omega) mf.lo mh) ?_)
 refine sD ?_
 refine zai hm' rfl ?_;conv=>whnf
 refine zai hm' rfl ?_;conv=>whnf
 refine zai hm' rfl ?_;conv=>whnf
 refine zai hm' rfl ?_;conv=>whnf
 refine zaa (c:=((s.out.map Sent.row).length+1) * 200 <= 140737488355328) (by rw [List.length_map];omega) ?_;conv=>whnf
 refine sD ?_
 refine sR ?_
 refine zai hm' rfl ?_;conv=>whnf
 refine zan (z:=m.sent+many s m) hWs ?_;conv=>whnf
 refine zai hm' rfl ?_;conv=>whnf
 refine zbe rfl (by simp [midS];omega) ?_;conv=>whnf
 refine sR ?_
 refine zbe rfl (by simp [midS];omega) ?_;conv=>whnf
 refine zcx (z':=(s.out.length:Int)) ?_ ?_
 . show W ((((midS s k m).out.map Sent.row++[_]).length:Int) - 1)=_
   rw [List.length_append,List.length_map,show (midS s k m).out=s.out from rfl,W_fit (by simp only [List.length_cons,List.length_nil];omega) (by simp only [List.length_cons,List.length_nil];omega)]
   simp only [List.length_cons,List.length_nil];omega
 conv=>whnf
 refine zaa (by rw [List.length_append,List.length_map,show (midS s k m).out=s.out from rfl];simp only [List.length_cons,List.length_nil];omega) ?_;conv=>whnf
 (refine zag [] [(1000,1000),(1001,1001),(1002,163),(1003,199),(1004,1004),(1005,1005),(1006,1006),(1007,1007),(1008,1008),(1009,1009)] [(0,920)] ?_;(conv=>whnf);refine dG (zji (s2 s k m) a b s.out.length (x0 s m) w (by simp [s2]) hw (by omega)) ?_ ⟨rfl,rfl,rfl,⟨⟨rfl,_,rfl,.inl ⟨rfl,rfl⟩⟩,⟨⟨rfl,_,rfl,.inl ⟨rfl,q2row⟩⟩,⟨⟨rfl,_,rfl,.inl ⟨rfl,rfl⟩⟩,⟨⟨rfl,_,rfl,.inl ⟨rfl,(zat (f:=Sent.row) (x:=x0 s m) rfl rfl)⟩⟩,⟨⟨rfl,_,rfl,.inl ⟨rfl,rfl⟩⟩,⟨⟨rfl,_,rfl,.inl ⟨rfl,rfl⟩⟩,⟨⟨rfl,_,rfl,.inl ⟨rfl,rfl⟩⟩,⟨⟨rfl,_,rfl,.inl ⟨rfl,rfl⟩⟩,⟨⟨rfl,_,rfl,.inl ⟨rfl,rfl⟩⟩,⟨⟨rfl,_,rfl,.inl ⟨rfl,rfl⟩⟩,trivial⟩⟩⟩⟩⟩⟩⟩⟩⟩⟩,⟨⟨rfl,rfl⟩,trivial⟩,rfl,rfl,rfl⟩)
 refine sD ?_
 cases hov:ovr s m with
 | true =>
  refine zad ?_ ?_
  . exact hov
  conv=>whnf
  repeat (refine hcut.go ?_;conv=>whnf)
  refine zcx (z':=((k+1:Nat):Int)) ?_ ?_
  . show W ((k:Int)+1)=_
    rw [W_fit (by omega) (by omega)];push_cast;rfl
  conv=>whnf
  (refine zag [] [(1000,1001)] [(0,930)] ?_;(conv=>whnf);refine dG (delq (s.queue.set k (m2 s m)) k (k+1) (by omega) (by simp;omega) (by simp;omega)) ?_)
  rw [zds hc0 hw rfl,if_pos hov] at hG
  subst hG
  (exact zbz (pK10 [(0,some 930),(1,some 163),(2,some 199),(3,some 1004),(4,some 1005),(5,some 1006),(6,some 1008),(7,some 920)]) (by repeat' (first | exact z0 | refine z1 ?_ | refine ⟨?_,?_⟩ | ((exact zao (by rw [zgu hkl]))) | exact z2)))
 | false =>
  refine zab ?_ ?_
  . exact hov
  conv=>whnf
  repeat (refine hcut.go ?_;conv=>whnf)
  rw [zds hc0 hw rfl,if_neg (by rw [hov];decide)] at hG
  subst hG
  (exact zbw (pK10 [(0,some 1001),(1,some 163),(2,some 199),(3,some 1004),(4,some 1005),(5,some 1006),(6,some 1008),(7,some 920)]))
theorem yeo (s:Sender) (a b:List Chunk) (hs:NFit s) (h1p:s.paths.length=2) (hb:a.length+b.length < 2 ^ 29):FunOK Tryz.prog 96 [.ptr 1000 0] (lk .free (pH2 s a b)) (hbool (nx s [a,b]).2) (lk .free (pD2 (nx s [a,b]).1.s (nth0 (nx s [a,b]).1.out) (nth1 (nx s [a,b]).1.out))):=by
 have hc01:choose s=0 \/ choose s=1:=by have:=(zcc hs.some).2;omega
 exact hc01.elim (fun h=>zwa s a b hs h1p h hb) fun h=>zwb s a b hs h1p h hb
end Snd
end Go.HL
namespace Go.HL
open Go.Proofs
namespace Snd
open Ser
set_option maxHeartbeats 8000000
set_option maxRecDepth 100000
set_option linter.unusedSimpArgs false
abbrev rowPk (l:List Packet):HSlot:=.live (.row 110 3 (l.map Packet.row))
abbrev roK (l:List Chunk):HSlot:=.ro (.row 61 11 (l.map Chunk.row))
def wndK (id:Nat):List Chunk -> List Chunk -> HV
 | [],_=>.own id
 | _ :: a,b=>.osl id 11 (a.length+1) b.length
theorem zkf {α:Type} {f:α -> List PV} {l a b c:List α} {o n:Nat} {K:List (List PV) -> Prop} (h:l=a++b++c) (ho:o=a.length) (hn:n=b.length) (hk:K (b.map f)):hsub (l.map f) o n K:=by
 subst h ho hn
 refine ⟨_,rfl,by simp,?_⟩
 rwa [<- List.map_drop,<- List.map_take,List.append_assoc,List.drop_left,List.take_left]
theorem zfc {i s o o' n n':Nat} (ho:o=o') (hn:n=n'):HV.osl i s o n=.osl i s o' n':=by rw [ho,hn]
theorem zos {most:Int} {l:List Chunk} (h:l ≠ []):∃ k:Nat,room1 most l=k /\ 1 <= k /\ k <= l.length:=by
 obtain ⟨r,h1,h2,-⟩:=Pck.zyw l most
 have h3:=List.length_pos_iff.2 h
 have h4:=h2.1
 unfold room1
 rw [h1]
 split
 . exact ⟨1,rfl,by omega,by omega⟩
 . exact ⟨r,rfl,by omega,by omega⟩
theorem zhw (most path:Int) (n:Nat):packN most path n []=[]:=by cases n <;> simp [packN]
def Okc (c:Chunk):Prop:=c.spans.length < 2 ^ 38 /\ c.skips.length < 2 ^ 38
abbrev pE1 (s:Sender) (ps:List Packet):List (Nat × HSlot):=(1000,.live (.cells 139 (pmpC s (.own 1001) (.own 1002) (.own 1003) (.own 1004) (.own 1005) (.own 1006) (.own 1007)))) :: sndB s 1001 1002 1003 1004 1005 1006 [(1007,.dead),(1008,.dead),(0,rowPk ps)]
abbrev pR1 (s:Sender) (a:List Chunk) (L:List (Nat × HSlot)):List (Nat × HSlot):=(1000,.live (.cells 139 (pmpC s (.own 1001) (.own 1002) (.own 1003) (.own 1004) (.own 1005) (.own 1006) (.own 1007)))) :: sndB s 1001 1002 1003 1004 1005 1006 ((1007,.live (.cells 145 [.own 1008])) :: (1008,roK a) :: L)
abbrev pE2 (s:Sender) (ps:List Packet):List (Nat × HSlot):=(1000,.live (.cells 139 (pmpC s (.own 1001) (.own 1002) (.own 1003) (.own 1004) (.own 1005) (.own 1006) (.own 1007)))) :: sndB s 1001 1002 1003 1004 1005 1006 [(1007,.dead),(1008,.dead),(1009,.dead),(0,rowPk ps)]
abbrev pR2 (s:Sender) (a b:List Chunk) (L:List (Nat × HSlot)):List (Nat × HSlot):=(1000,.live (.cells 139 (pmpC s (.own 1001) (.own 1002) (.own 1003) (.own 1004) (.own 1005) (.own 1006) (.own 1007)))) :: sndB s 1001 1002 1003 1004 1005 1006 ((1007,.live (.cells 145 [.own 1008,.own 1009])) :: (1008,roK a) :: (1009,roK b) :: L)
theorem ztj (s:Sender) (a:List Chunk) (hm:inI s.config.packet) (ha:a.length < 2 ^ 29) (hka:∀ c ∈ a,Okc c):FunOK Tryz.prog 97 [.ptr 1000 0] (lk .free (pH1 s a)) (.own 0) (lk .free (pE1 s (zay s.config.packet 0 [a]))):=by
 generalize hT:zay s.config.packet 0 [a]=T
 refine zal mixed Tryz.func97 (by decide) [1000,1001,1002,1003,1004,1005,1006,1007,1008] zbn ?_
 conv=>whnf
 refine ⟨{ x:Nat × List Packet // x.1 <= 1 /\ x.2.length <= x.1 * 2 ^ 29 /\ x.2++zay s.config.packet x.1 ([a].drop x.1)=T },
  fun | ⟨(i,acc),_⟩=>hsP [1000,1001,1002,1003,1004,1005,1006,1007,1008] 57 [(0,.ptr 1000 0),(3,.own 900),(12,.own 1007),(13,i64 1),(14,i64 i)] (pR1 s a [(900,rowPk acc)]),fun x=>1 - x.1.1,⟨(0,[]),by dsimp only;omega,by simp,hT⟩,?_,?_⟩
 . exact (hle_P (pK9 [(900,none)]))
 rintro ⟨⟨i,acc⟩,k1,k3,k2⟩
 dsimp only at k1 k2 k3
 refine zbk fun Q hQ=>?_
 have hi:i=0 \/ i=1:=by omega
 rcases hi with rfl | rfl
 case inl =>
  have hdr:zay s.config.packet 0 ([a].drop 0)=packN s.config.packet 0 a.length a++zay s.config.packet (0+1) ([a].drop (0+1)):=rfl
  rw [hdr] at k2
  conv=>whnf
  refine ⟨0,rfl,by decide,?_⟩;conv=>whnf
  refine ⟨{ x:(List Chunk × List Chunk) × Nat × List Packet // a=x.1.1++x.1.2 /\ x.1.2.length <= x.2.1 /\ x.2.2.length+x.1.2.length <= (0+1) * 2 ^ 29 /\ x.2.2++(packN s.config.packet 0 x.2.1 x.1.2++zay s.config.packet (0+1) ([a].drop (0+1)))=T },
   fun | ⟨((A,B),n,acc),_⟩=>hsP [1000,1001,1002,1003,1004,1005,1006,1007,1008] 57 [(0,.ptr 1000 0),(3,.own 900),(4,i64 0),(5,wndK 1008 A B),(12,.own 1007),(13,i64 1),(14,i64 0)] (pR1 s a [(900,rowPk acc)]),fun x=>x.1.1.2.length,⟨(([],a),a.length,acc),rfl,by simp,by dsimp only;omega,k2⟩,?_,?_⟩
  . exact (hle_P (pK9 [(900,some 900)]))
  rintro ⟨⟨⟨A,B⟩,n,acc⟩,i1,i2,i4,i3⟩
  dsimp only at i1 i2 i3 i4
  refine zbk fun Q2 hQ2=>?_
  have hz:a.length=A.length+B.length:=by rw [i1];simp
  have hko:∀ c ∈ a,Okc c:=hka
  by_cases hB:B=[]
  case pos =>
   subst hB
   rw [zhw,List.nil_append] at i3
   rw [List.length_nil] at hz
   cases A with
   | nil =>
    conv=>whnf
    have ha0:a=[]:=List.eq_nil_of_length_eq_zero (by simp at hz;simp [hz])
    refine zab ?_ ?_
    . simp [ha0]
    conv=>whnf
    repeat (refine hcut.go ?_;conv=>whnf)
    refine hQ2 _ _ ?_;conv=>whnf
    refine sF ?_
    refine hQ _ _ ?_;conv=>whnf
    exact ⟨⟨(0+1,acc),by dsimp only;omega,by dsimp only;rw [List.length_nil] at i4;omega,i3⟩,(hle_P (pK9 [(900,some 900)])),by dsimp only;omega⟩
   | cons t A =>
    conv=>whnf
    repeat (refine hcut.go ?_;conv=>whnf)
    refine hQ2 _ _ ?_;conv=>whnf
    refine sF ?_
    refine hQ _ _ ?_;conv=>whnf
    exact ⟨⟨(0+1,acc),by dsimp only;omega,by dsimp only;rw [List.length_nil] at i4;omega,i3⟩,(hle_P (pK9 [(900,some 900)])),by dsimp only;omega⟩
  case neg =>
  obtain ⟨r,r1,r2,r3⟩:=zos (most:=s.config.packet) hB
  have hBl:=List.length_pos_iff.2 hB
  obtain ⟨n,rfl⟩:∃ n',n=n'+1:=⟨n - 1,by omega⟩
  have hN:packN s.config.packet 0 (n+1) B=pack1 s.config.packet 0 B++packN s.config.packet 0 n (B.drop r):=by rw [packN,if_neg hB,r1,Int.toNat_natCast]
  have hP:pack1 s.config.packet 0 B=if (Pck.pbytes (B.take r) s.config.packet).2=0 then [⟨0,false,(Pck.pbytes (B.take r) s.config.packet).1⟩] else []:=by rw [pack1,r1,Int.toNat_natCast]
  have hsz:Pck.Sized B:=⟨by omega,fun c hc=>hko c (by rw [i1];exact List.mem_append_right _ hc)⟩
  have hszr:Pck.Sized (B.take r):=hsz.take r
  rw [hN,List.append_assoc] at i3
  cases A with
  | nil =>
   have i1':B=a:=i1.symm
   subst i1'
   conv=>whnf
   refine sT ?_
   repeat (refine hcut.go ?_;conv=>whnf)
   (refine cL ?_;refine dL (Pck.zil B s.config.packet hsz hm) ?_)
   refine zaa (c:=(0:Int) <= 0 /\ (0:Int) <= room1 s.config.packet B /\ room1 s.config.packet B <= ((B.map Chunk.row).length:Int)) ⟨by omega,by omega,by rw [List.length_map];omega⟩ ?_;conv=>whnf
   refine zcf ?_;conv=>whnf
   refine zkf (a:=[]) (b:=B.take r) (c:=B.drop r) (by simp) rfl (show (room1 s.config.packet B - 0).toNat=_ by rw [r1];simp;omega) ?_
   conv=>whnf
   refine ⟨_,Pck.zer (B.take r) s.config.packet hszr,rfl,?_⟩;conv=>whnf
   refine sD ?_
   by_cases ho:(Pck.pbytes (B.take r) s.config.packet).2=0
   case pos =>
    rw [if_pos ho] at hP
    refine zad ?_ ?_
    . simpa using ho
    conv=>whnf
    refine zaa (c:=((acc.map Packet.row).length+1) * 40 <= 140737488355328) (by rw [List.length_map];omega) ?_;conv=>whnf
    repeat (refine hcut.go ?_;conv=>whnf)
    refine zaa (c:=(0:Int) <= room1 s.config.packet B /\ room1 s.config.packet B <= ((B.map Chunk.row).length:Int) /\ ((B.map Chunk.row).length:Int) <= ((B.map Chunk.row).length:Int)) ⟨by omega,by rw [List.length_map];omega,by omega⟩ ?_;conv=>whnf
    obtain ⟨x,B1,hx⟩:∃ x B1,B.take r=x :: B1:=by
     cases hq:B.take r with
     | nil=>rw [List.take_eq_nil_iff] at hq;rcases hq with hq | hq;omega;exact absurd hq hB
     | cons x B1=>exact ⟨x,B1,rfl⟩
    have hxl:B1.length+1=r:=by have:=congrArg List.length hx;simp at this;omega
    refine hQ2 _ _ ?_;conv=>whnf
    exact ⟨⟨((x :: B1,B.drop r),n,acc++[⟨0,false,(Pck.pbytes (B.take r) s.config.packet).1⟩]),by rw [<- hx,List.take_append_drop],by simp;omega,by simp;omega,by rw [<- i3,hP];simp⟩,(hle_Y (pK9 [(900,some 51)]) (by repeat' (first | exact z0 | refine z1 ?_ | refine ⟨?_,?_⟩ | ((exact zfc (show B1.length+1=(room1 s.config.packet B).toNat by omega) (show (B.drop r).length=(((B.map Chunk.row).length:Int) - room1 s.config.packet B).toNat by simp;omega))) | ((exact zat (f:=Packet.row) rfl rfl)) | exact z2))),by simp;omega⟩
   case neg =>
    rw [if_neg ho] at hP
    refine zab ?_ ?_
    . simpa using ho
    conv=>whnf
    repeat (refine hcut.go ?_;conv=>whnf)
    refine zaa (c:=(0:Int) <= room1 s.config.packet B /\ room1 s.config.packet B <= ((B.map Chunk.row).length:Int) /\ ((B.map Chunk.row).length:Int) <= ((B.map Chunk.row).length:Int)) ⟨by omega,by rw [List.length_map];omega,by omega⟩ ?_;conv=>whnf
    obtain ⟨x,B1,hx⟩:∃ x B1,B.take r=x :: B1:=by
     cases hq:B.take r with
     | nil=>rw [List.take_eq_nil_iff] at hq;rcases hq with hq | hq;omega;exact absurd hq hB
     | cons x B1=>exact ⟨x,B1,rfl⟩
    have hxl:B1.length+1=r:=by have:=congrArg List.length hx;simp at this;omega
    refine hQ2 _ _ ?_;conv=>whnf
    exact ⟨⟨((x :: B1,B.drop r),n,acc),by rw [<- hx,List.take_append_drop],by simp;omega,by simp;omega,by rw [<- i3,hP];simp⟩,(hle_Y (pK9 [(900,some 900)]) (by repeat' (first | exact z0 | refine z1 ?_ | refine ⟨?_,?_⟩ | ((exact zfc (show B1.length+1=(room1 s.config.packet B).toNat by omega) (show (B.drop r).length=(((B.map Chunk.row).length:Int) - room1 s.config.packet B).toNat by simp;omega))) | ((exact zat (f:=Packet.row) rfl rfl)) | exact z2))),by simp;omega⟩
  | cons t A =>
   have hal:(A.length:Int)+1=((t :: A).length:Nat):=by simp
   conv=>whnf
   refine sT ?_
   repeat (refine hcut.go ?_;conv=>whnf)
   refine zav ?_;conv=>whnf
   refine zkf (a:=t :: A) (b:=B) (c:=[]) (by rw [i1];simp) rfl rfl ?_
   conv=>whnf
   refine ⟨_,Pck.zil B s.config.packet hsz hm,rfl,?_⟩;conv=>whnf
   repeat (refine hcut.go ?_;conv=>whnf)
   refine zaa (c:=(0:Int) <= room1 s.config.packet B /\ ((A.length+1:Nat):Int)+room1 s.config.packet B <= ((a.map Chunk.row).length:Int)) ⟨by omega,by rw [List.length_map,hz,List.length_cons];omega⟩ ?_;conv=>whnf
   refine zcf ?_;conv=>whnf
   refine zkf (a:=t :: A) (b:=B.take r) (c:=B.drop r) (by rw [i1];simp) rfl (show (room1 s.config.packet B).toNat=_ by rw [r1];simp;omega) ?_
   conv=>whnf
   refine ⟨_,Pck.zer (B.take r) s.config.packet hszr,rfl,?_⟩;conv=>whnf
   refine sD ?_
   by_cases ho:(Pck.pbytes (B.take r) s.config.packet).2=0
   case pos =>
    rw [if_pos ho] at hP
    refine zad ?_ ?_
    . simpa using ho
    conv=>whnf
    refine zaa (c:=((acc.map Packet.row).length+1) * 40 <= 140737488355328) (by rw [List.length_map];omega) ?_;conv=>whnf
    repeat (refine hcut.go ?_;conv=>whnf)
    refine zaa (c:=(0:Int) <= room1 s.config.packet B /\ room1 s.config.packet B <= (B.length:Int) /\ ((A.length+1:Nat):Int)+(B.length:Int) <= ((a.map Chunk.row).length:Int)) ⟨by omega,by omega,by rw [List.length_map,hz,List.length_cons];omega⟩ ?_;conv=>whnf
    refine hQ2 _ _ ?_;conv=>whnf
    exact ⟨⟨((t :: (A++B.take r),B.drop r),n,acc++[⟨0,false,(Pck.pbytes (B.take r) s.config.packet).1⟩]),by rw [i1];simp,by simp;omega,by simp;omega,by rw [<- i3,hP];simp⟩,(hle_Y (pK9 [(900,some 51)]) (by repeat' (first | exact z0 | refine z1 ?_ | refine ⟨?_,?_⟩ | ((exact zfc (show (A++B.take r).length+1=A.length+1+(room1 s.config.packet B).toNat by simp;omega) (show (B.drop r).length=B.length - (room1 s.config.packet B).toNat by simp;omega))) | ((exact zat (f:=Packet.row) rfl rfl)) | exact z2))),by simp;omega⟩
   case neg =>
    rw [if_neg ho] at hP
    refine zab ?_ ?_
    . simpa using ho
    conv=>whnf
    repeat (refine hcut.go ?_;conv=>whnf)
    refine zaa (c:=(0:Int) <= room1 s.config.packet B /\ room1 s.config.packet B <= (B.length:Int) /\ ((A.length+1:Nat):Int)+(B.length:Int) <= ((a.map Chunk.row).length:Int)) ⟨by omega,by omega,by rw [List.length_map,hz,List.length_cons];omega⟩ ?_;conv=>whnf
    refine hQ2 _ _ ?_;conv=>whnf
    exact ⟨⟨((t :: (A++B.take r),B.drop r),n,acc),by rw [i1];simp,by simp;omega,by simp;omega,by rw [<- i3,hP];simp⟩,(hle_Y (pK9 [(900,some 900)]) (by repeat' (first | exact z0 | refine z1 ?_ | refine ⟨?_,?_⟩ | ((exact zfc (show (A++B.take r).length+1=A.length+1+(room1 s.config.packet B).toNat by simp;omega) (show (B.drop r).length=B.length - (room1 s.config.packet B).toNat by simp;omega))) | ((exact zat (f:=Packet.row) rfl rfl)) | exact z2))),by simp;omega⟩
 case inr =>
  have k2:acc=T:=by rw [<- k2];simp [zay]
  subst k2
  conv=>whnf
  refine hQ _ _ ?_;conv=>whnf
  (exact zbw (pK9 [(0,some 900)]))
theorem ztk (s:Sender) (a b:List Chunk) (hm:inI s.config.packet) (ha:a.length < 2 ^ 29) (hb:b.length < 2 ^ 29) (hka:∀ c ∈ a,Okc c) (hkb:∀ c ∈ b,Okc c):FunOK Tryz.prog 97 [.ptr 1000 0] (lk .free (pH2 s a b)) (.own 0) (lk .free (pE2 s (zay s.config.packet 0 [a,b]))):=by
 generalize hT:zay s.config.packet 0 [a,b]=T
 refine zal mixed Tryz.func97 (by decide) [1000,1001,1002,1003,1004,1005,1006,1007,1008,1009] zbn ?_
 conv=>whnf
 refine ⟨{ x:Nat × List Packet // x.1 <= 2 /\ x.2.length <= x.1 * 2 ^ 29 /\ x.2++zay s.config.packet x.1 ([a,b].drop x.1)=T },
  fun | ⟨(i,acc),_⟩=>hsP [1000,1001,1002,1003,1004,1005,1006,1007,1008,1009] 57 [(0,.ptr 1000 0),(3,.own 900),(12,.own 1007),(13,i64 2),(14,i64 i)] (pR2 s a b [(900,rowPk acc)]),fun x=>2 - x.1.1,⟨(0,[]),by dsimp only;omega,by simp,hT⟩,?_,?_⟩
 . exact (hle_P (pK10 [(900,none)]))
 rintro ⟨⟨i,acc⟩,k1,k3,k2⟩
 dsimp only at k1 k2 k3
 refine zbk fun Q hQ=>?_
 have hi:i=0 \/ i=1 \/ i=2:=by omega
 rcases hi with rfl | rfl | rfl
 case inl =>
  have hdr:zay s.config.packet 0 ([a,b].drop 0)=packN s.config.packet 0 a.length a++zay s.config.packet (0+1) ([a,b].drop (0+1)):=rfl
  rw [hdr] at k2
  conv=>whnf
  refine ⟨0,rfl,by decide,?_⟩;conv=>whnf
  refine ⟨{ x:(List Chunk × List Chunk) × Nat × List Packet // a=x.1.1++x.1.2 /\ x.1.2.length <= x.2.1 /\ x.2.2.length+x.1.2.length <= (0+1) * 2 ^ 29 /\ x.2.2++(packN s.config.packet 0 x.2.1 x.1.2++zay s.config.packet (0+1) ([a,b].drop (0+1)))=T },
   fun | ⟨((A,B),n,acc),_⟩=>hsP [1000,1001,1002,1003,1004,1005,1006,1007,1008,1009] 57 [(0,.ptr 1000 0),(3,.own 900),(4,i64 0),(5,wndK 1008 A B),(12,.own 1007),(13,i64 2),(14,i64 0)] (pR2 s a b [(900,rowPk acc)]),fun x=>x.1.1.2.length,⟨(([],a),a.length,acc),rfl,by simp,by dsimp only;omega,k2⟩,?_,?_⟩
  . exact (hle_P (pK10 [(900,some 900)]))
  rintro ⟨⟨⟨A,B⟩,n,acc⟩,i1,i2,i4,i3⟩
  dsimp only at i1 i2 i3 i4
  refine zbk fun Q2 hQ2=>?_
  have hz:a.length=A.length+B.length:=by rw [i1];simp
  have hko:∀ c ∈ a,Okc c:=hka
  by_cases hB:B=[]
  case pos =>
   subst hB
   rw [zhw,List.nil_append] at i3
   rw [List.length_nil] at hz
   cases A with
   | nil =>
    conv=>whnf
    have ha0:a=[]:=List.eq_nil_of_length_eq_zero (by simp at hz;simp [hz])
    refine zab ?_ ?_
    . simp [ha0]
    conv=>whnf
    repeat (refine hcut.go ?_;conv=>whnf)
    refine hQ2 _ _ ?_;conv=>whnf
    refine sF ?_
    refine hQ _ _ ?_;conv=>whnf
    exact ⟨⟨(0+1,acc),by dsimp only;omega,by dsimp only;rw [List.length_nil] at i4;omega,i3⟩,(hle_P (pK10 [(900,some 900)])),by dsimp only;omega⟩
   | cons t A =>
    conv=>whnf
    repeat (refine hcut.go ?_;conv=>whnf)
    refine hQ2 _ _ ?_;conv=>whnf
    refine sF ?_
    refine hQ _ _ ?_;conv=>whnf
    exact ⟨⟨(0+1,acc),by dsimp only;omega,by dsimp only;rw [List.length_nil] at i4;omega,i3⟩,(hle_P (pK10 [(900,some 900)])),by dsimp only;omega⟩
  case neg =>
  obtain ⟨r,r1,r2,r3⟩:=zos (most:=s.config.packet) hB
  have hBl:=List.length_pos_iff.2 hB
  obtain ⟨n,rfl⟩:∃ n',n=n'+1:=⟨n - 1,by omega⟩
  have hN:packN s.config.packet 0 (n+1) B=pack1 s.config.packet 0 B++packN s.config.packet 0 n (B.drop r):=by rw [packN,if_neg hB,r1,Int.toNat_natCast]
  have hP:pack1 s.config.packet 0 B=if (Pck.pbytes (B.take r) s.config.packet).2=0 then [⟨0,false,(Pck.pbytes (B.take r) s.config.packet).1⟩] else []:=by rw [pack1,r1,Int.toNat_natCast]
  have hsz:Pck.Sized B:=⟨by omega,fun c hc=>hko c (by rw [i1];exact List.mem_append_right _ hc)⟩
  have hszr:Pck.Sized (B.take r):=hsz.take r
  rw [hN,List.append_assoc] at i3
  cases A with
  | nil =>
   have i1':B=a:=i1.symm
   subst i1'
   conv=>whnf
   refine sT ?_
   repeat (refine hcut.go ?_;conv=>whnf)
   (refine cL ?_;refine dL (Pck.zil B s.config.packet hsz hm) ?_)
   refine zaa (c:=(0:Int) <= 0 /\ (0:Int) <= room1 s.config.packet B /\ room1 s.config.packet B <= ((B.map Chunk.row).length:Int)) ⟨by omega,by omega,by rw [List.length_map];omega⟩ ?_;conv=>whnf
   refine zcf ?_;conv=>whnf
   refine zkf (a:=[]) (b:=B.take r) (c:=B.drop r) (by simp) rfl (show (room1 s.config.packet B - 0).toNat=_ by rw [r1];simp;omega) ?_
   conv=>whnf
   refine ⟨_,Pck.zer (B.take r) s.config.packet hszr,rfl,?_⟩;conv=>whnf
   refine sD ?_
   by_cases ho:(Pck.pbytes (B.take r) s.config.packet).2=0
   case pos =>
    rw [if_pos ho] at hP
    refine zad ?_ ?_
    . simpa using ho
    conv=>whnf
    refine zaa (c:=((acc.map Packet.row).length+1) * 40 <= 140737488355328) (by rw [List.length_map];omega) ?_;conv=>whnf
    repeat (refine hcut.go ?_;conv=>whnf)
    refine zaa (c:=(0:Int) <= room1 s.config.packet B /\ room1 s.config.packet B <= ((B.map Chunk.row).length:Int) /\ ((B.map Chunk.row).length:Int) <= ((B.map Chunk.row).length:Int)) ⟨by omega,by rw [List.length_map];omega,by omega⟩ ?_;conv=>whnf
    obtain ⟨x,B1,hx⟩:∃ x B1,B.take r=x :: B1:=by
     cases hq:B.take r with
     | nil=>rw [List.take_eq_nil_iff] at hq;rcases hq with hq | hq;omega;exact absurd hq hB
     | cons x B1=>exact ⟨x,B1,rfl⟩
    have hxl:B1.length+1=r:=by have:=congrArg List.length hx;simp at this;omega
    refine hQ2 _ _ ?_;conv=>whnf
    exact ⟨⟨((x :: B1,B.drop r),n,acc++[⟨0,false,(Pck.pbytes (B.take r) s.config.packet).1⟩]),by rw [<- hx,List.take_append_drop],by simp;omega,by simp;omega,by rw [<- i3,hP];simp⟩,(hle_Y (pK10 [(900,some 51)]) (by repeat' (first | exact z0 | refine z1 ?_ | refine ⟨?_,?_⟩ | ((exact zfc (show B1.length+1=(room1 s.config.packet B).toNat by omega) (show (B.drop r).length=(((B.map Chunk.row).length:Int) - room1 s.config.packet B).toNat by simp;omega))) | ((exact zat (f:=Packet.row) rfl rfl)) | exact z2))),by simp;omega⟩
   case neg =>
    rw [if_neg ho] at hP
    refine zab ?_ ?_
    . simpa using ho
    conv=>whnf
    repeat (refine hcut.go ?_;conv=>whnf)
    refine zaa (c:=(0:Int) <= room1 s.config.packet B /\ room1 s.config.packet B <= ((B.map Chunk.row).length:Int) /\ ((B.map Chunk.row).length:Int) <= ((B.map Chunk.row).length:Int)) ⟨by omega,by rw [List.length_map];omega,by omega⟩ ?_;conv=>whnf
    obtain ⟨x,B1,hx⟩:∃ x B1,B.take r=x :: B1:=by
     cases hq:B.take r with
     | nil=>rw [List.take_eq_nil_iff] at hq;rcases hq with hq | hq;omega;exact absurd hq hB
     | cons x B1=>exact ⟨x,B1,rfl⟩
    have hxl:B1.length+1=r:=by have:=congrArg List.length hx;simp at this;omega
    refine hQ2 _ _ ?_;conv=>whnf
    exact ⟨⟨((x :: B1,B.drop r),n,acc),by rw [<- hx,List.take_append_drop],by simp;omega,by simp;omega,by rw [<- i3,hP];simp⟩,(hle_Y (pK10 [(900,some 900)]) (by repeat' (first | exact z0 | refine z1 ?_ | refine ⟨?_,?_⟩ | ((exact zfc (show B1.length+1=(room1 s.config.packet B).toNat by omega) (show (B.drop r).length=(((B.map Chunk.row).length:Int) - room1 s.config.packet B).toNat by simp;omega))) | ((exact zat (f:=Packet.row) rfl rfl)) | exact z2))),by simp;omega⟩
  | cons t A =>
   have hal:(A.length:Int)+1=((t :: A).length:Nat):=by simp
   conv=>whnf
   refine sT ?_
   repeat (refine hcut.go ?_;conv=>whnf)
   refine zav ?_;conv=>whnf
   refine zkf (a:=t :: A) (b:=B) (c:=[]) (by rw [i1];simp) rfl rfl ?_
   conv=>whnf
   refine ⟨_,Pck.zil B s.config.packet hsz hm,rfl,?_⟩;conv=>whnf
   repeat (refine hcut.go ?_;conv=>whnf)
   refine zaa (c:=(0:Int) <= room1 s.config.packet B /\ ((A.length+1:Nat):Int)+room1 s.config.packet B <= ((a.map Chunk.row).length:Int)) ⟨by omega,by rw [List.length_map,hz,List.length_cons];omega⟩ ?_;conv=>whnf
   refine zcf ?_;conv=>whnf
   refine zkf (a:=t :: A) (b:=B.take r) (c:=B.drop r) (by rw [i1];simp) rfl (show (room1 s.config.packet B).toNat=_ by rw [r1];simp;omega) ?_
   conv=>whnf
   refine ⟨_,Pck.zer (B.take r) s.config.packet hszr,rfl,?_⟩;conv=>whnf
   refine sD ?_
   by_cases ho:(Pck.pbytes (B.take r) s.config.packet).2=0
   case pos =>
    rw [if_pos ho] at hP
    refine zad ?_ ?_
    . simpa using ho
    conv=>whnf
    refine zaa (c:=((acc.map Packet.row).length+1) * 40 <= 140737488355328) (by rw [List.length_map];omega) ?_;conv=>whnf
    repeat (refine hcut.go ?_;conv=>whnf)
    refine zaa (c:=(0:Int) <= room1 s.config.packet B /\ room1 s.config.packet B <= (B.length:Int) /\ ((A.length+1:Nat):Int)+(B.length:Int) <= ((a.map Chunk.row).length:Int)) ⟨by omega,by omega,by rw [List.length_map,hz,List.length_cons];omega⟩ ?_;conv=>whnf
    refine hQ2 _ _ ?_;conv=>whnf
    exact ⟨⟨((t :: (A++B.take r),B.drop r),n,acc++[⟨0,false,(Pck.pbytes (B.take r) s.config.packet).1⟩]),by rw [i1];simp,by simp;omega,by simp;omega,by rw [<- i3,hP];simp⟩,(hle_Y (pK10 [(900,some 51)]) (by repeat' (first | exact z0 | refine z1 ?_ | refine ⟨?_,?_⟩ | ((exact zfc (show (A++B.take r).length+1=A.length+1+(room1 s.config.packet B).toNat by simp;omega) (show (B.drop r).length=B.length - (room1 s.config.packet B).toNat by simp;omega))) | ((exact zat (f:=Packet.row) rfl rfl)) | exact z2))),by simp;omega⟩
   case neg =>
    rw [if_neg ho] at hP
    refine zab ?_ ?_
    . simpa using ho
    conv=>whnf
    repeat (refine hcut.go ?_;conv=>whnf)
    refine zaa (c:=(0:Int) <= room1 s.config.packet B /\ room1 s.config.packet B <= (B.length:Int) /\ ((A.length+1:Nat):Int)+(B.length:Int) <= ((a.map Chunk.row).length:Int)) ⟨by omega,by omega,by rw [List.length_map,hz,List.length_cons];omega⟩ ?_;conv=>whnf
    refine hQ2 _ _ ?_;conv=>whnf
    exact ⟨⟨((t :: (A++B.take r),B.drop r),n,acc),by rw [i1];simp,by simp;omega,by simp;omega,by rw [<- i3,hP];simp⟩,(hle_Y (pK10 [(900,some 900)]) (by repeat' (first | exact z0 | refine z1 ?_ | refine ⟨?_,?_⟩ | ((exact zfc (show (A++B.take r).length+1=A.length+1+(room1 s.config.packet B).toNat by simp;omega) (show (B.drop r).length=B.length - (room1 s.config.packet B).toNat by simp;omega))) | ((exact zat (f:=Packet.row) rfl rfl)) | exact z2))),by simp;omega⟩
 case inr.inl =>
  have hdr:zay s.config.packet 1 ([a,b].drop 1)=packN s.config.packet 1 b.length b++zay s.config.packet (1+1) ([a,b].drop (1+1)):=rfl
  rw [hdr] at k2
  conv=>whnf
  refine ⟨1,rfl,by decide,?_⟩;conv=>whnf
  refine ⟨{ x:(List Chunk × List Chunk) × Nat × List Packet // b=x.1.1++x.1.2 /\ x.1.2.length <= x.2.1 /\ x.2.2.length+x.1.2.length <= (1+1) * 2 ^ 29 /\ x.2.2++(packN s.config.packet 1 x.2.1 x.1.2++zay s.config.packet (1+1) ([a,b].drop (1+1)))=T },
   fun | ⟨((A,B),n,acc),_⟩=>hsP [1000,1001,1002,1003,1004,1005,1006,1007,1008,1009] 57 [(0,.ptr 1000 0),(3,.own 900),(4,i64 1),(5,wndK 1009 A B),(12,.own 1007),(13,i64 2),(14,i64 1)] (pR2 s a b [(900,rowPk acc)]),fun x=>x.1.1.2.length,⟨(([],b),b.length,acc),rfl,by simp,by dsimp only;omega,k2⟩,?_,?_⟩
  . exact (hle_P (pK10 [(900,some 900)]))
  rintro ⟨⟨⟨A,B⟩,n,acc⟩,i1,i2,i4,i3⟩
  dsimp only at i1 i2 i3 i4
  refine zbk fun Q2 hQ2=>?_
  have hz:b.length=A.length+B.length:=by rw [i1];simp
  have hko:∀ c ∈ b,Okc c:=hkb
  by_cases hB:B=[]
  case pos =>
   subst hB
   rw [zhw,List.nil_append] at i3
   rw [List.length_nil] at hz
   cases A with
   | nil =>
    conv=>whnf
    have ha0:b=[]:=List.eq_nil_of_length_eq_zero (by simp at hz;simp [hz])
    refine zab ?_ ?_
    . simp [ha0]
    conv=>whnf
    repeat (refine hcut.go ?_;conv=>whnf)
    refine hQ2 _ _ ?_;conv=>whnf
    refine sF ?_
    refine hQ _ _ ?_;conv=>whnf
    exact ⟨⟨(1+1,acc),by dsimp only;omega,by dsimp only;rw [List.length_nil] at i4;omega,i3⟩,(hle_P (pK10 [(900,some 900)])),by dsimp only;omega⟩
   | cons t A =>
    conv=>whnf
    repeat (refine hcut.go ?_;conv=>whnf)
    refine hQ2 _ _ ?_;conv=>whnf
    refine sF ?_
    refine hQ _ _ ?_;conv=>whnf
    exact ⟨⟨(1+1,acc),by dsimp only;omega,by dsimp only;rw [List.length_nil] at i4;omega,i3⟩,(hle_P (pK10 [(900,some 900)])),by dsimp only;omega⟩
  case neg =>
  obtain ⟨r,r1,r2,r3⟩:=zos (most:=s.config.packet) hB
  have hBl:=List.length_pos_iff.2 hB
  obtain ⟨n,rfl⟩:∃ n',n=n'+1:=⟨n - 1,by omega⟩
  have hN:packN s.config.packet 1 (n+1) B=pack1 s.config.packet 1 B++packN s.config.packet 1 n (B.drop r):=by rw [packN,if_neg hB,r1,Int.toNat_natCast]
  have hP:pack1 s.config.packet 1 B=if (Pck.pbytes (B.take r) s.config.packet).2=0 then [⟨1,false,(Pck.pbytes (B.take r) s.config.packet).1⟩] else []:=by rw [pack1,r1,Int.toNat_natCast]
  have hsz:Pck.Sized B:=⟨by omega,fun c hc=>hko c (by rw [i1];exact List.mem_append_right _ hc)⟩
  have hszr:Pck.Sized (B.take r):=hsz.take r
  rw [hN,List.append_assoc] at i3
  cases A with
  | nil =>
   have i1':B=b:=i1.symm
   subst i1'
   conv=>whnf
   refine sT ?_
   repeat (refine hcut.go ?_;conv=>whnf)
   (refine cL ?_;refine dL (Pck.zil B s.config.packet hsz hm) ?_)
   refine zaa (c:=(0:Int) <= 0 /\ (0:Int) <= room1 s.config.packet B /\ room1 s.config.packet B <= ((B.map Chunk.row).length:Int)) ⟨by omega,by omega,by rw [List.length_map];omega⟩ ?_;conv=>whnf
   refine zcf ?_;conv=>whnf
   refine zkf (a:=[]) (b:=B.take r) (c:=B.drop r) (by simp) rfl (show (room1 s.config.packet B - 0).toNat=_ by rw [r1];simp;omega) ?_
   conv=>whnf
   refine ⟨_,Pck.zer (B.take r) s.config.packet hszr,rfl,?_⟩;conv=>whnf
   refine sD ?_
   by_cases ho:(Pck.pbytes (B.take r) s.config.packet).2=0
   case pos =>
    rw [if_pos ho] at hP
    refine zad ?_ ?_
    . simpa using ho
    conv=>whnf
    refine zaa (c:=((acc.map Packet.row).length+1) * 40 <= 140737488355328) (by rw [List.length_map];omega) ?_;conv=>whnf
    repeat (refine hcut.go ?_;conv=>whnf)
    refine zaa (c:=(0:Int) <= room1 s.config.packet B /\ room1 s.config.packet B <= ((B.map Chunk.row).length:Int) /\ ((B.map Chunk.row).length:Int) <= ((B.map Chunk.row).length:Int)) ⟨by omega,by rw [List.length_map];omega,by omega⟩ ?_;conv=>whnf
    obtain ⟨x,B1,hx⟩:∃ x B1,B.take r=x :: B1:=by
     cases hq:B.take r with
     | nil=>rw [List.take_eq_nil_iff] at hq;rcases hq with hq | hq;omega;exact absurd hq hB
     | cons x B1=>exact ⟨x,B1,rfl⟩
    have hxl:B1.length+1=r:=by have:=congrArg List.length hx;simp at this;omega
    refine hQ2 _ _ ?_;conv=>whnf
    exact ⟨⟨((x :: B1,B.drop r),n,acc++[⟨1,false,(Pck.pbytes (B.take r) s.config.packet).1⟩]),by rw [<- hx,List.take_append_drop],by simp;omega,by simp;omega,by rw [<- i3,hP];simp⟩,(hle_Y (pK10 [(900,some 51)]) (by repeat' (first | exact z0 | refine z1 ?_ | refine ⟨?_,?_⟩ | ((exact zfc (show B1.length+1=(room1 s.config.packet B).toNat by omega) (show (B.drop r).length=(((B.map Chunk.row).length:Int) - room1 s.config.packet B).toNat by simp;omega))) | ((exact zat (f:=Packet.row) rfl rfl)) | exact z2))),by simp;omega⟩
   case neg =>
    rw [if_neg ho] at hP
    refine zab ?_ ?_
    . simpa using ho
    conv=>whnf
    repeat (refine hcut.go ?_;conv=>whnf)
    refine zaa (c:=(0:Int) <= room1 s.config.packet B /\ room1 s.config.packet B <= ((B.map Chunk.row).length:Int) /\ ((B.map Chunk.row).length:Int) <= ((B.map Chunk.row).length:Int)) ⟨by omega,by rw [List.length_map];omega,by omega⟩ ?_;conv=>whnf
    obtain ⟨x,B1,hx⟩:∃ x B1,B.take r=x :: B1:=by
     cases hq:B.take r with
     | nil=>rw [List.take_eq_nil_iff] at hq;rcases hq with hq | hq;omega;exact absurd hq hB
     | cons x B1=>exact ⟨x,B1,rfl⟩
    have hxl:B1.length+1=r:=by have:=congrArg List.length hx;simp at this;omega
    refine hQ2 _ _ ?_;conv=>whnf
    exact ⟨⟨((x :: B1,B.drop r),n,acc),by rw [<- hx,List.take_append_drop],by simp;omega,by simp;omega,by rw [<- i3,hP];simp⟩,(hle_Y (pK10 [(900,some 900)]) (by repeat' (first | exact z0 | refine z1 ?_ | refine ⟨?_,?_⟩ | ((exact zfc (show B1.length+1=(room1 s.config.packet B).toNat by omega) (show (B.drop r).length=(((B.map Chunk.row).length:Int) - room1 s.config.packet B).toNat by simp;omega))) | ((exact zat (f:=Packet.row) rfl rfl)) | exact z2))),by simp;omega⟩
  | cons t A =>
   have hal:(A.length:Int)+1=((t :: A).length:Nat):=by simp
   conv=>whnf
   refine sT ?_
   repeat (refine hcut.go ?_;conv=>whnf)
   refine zav ?_;conv=>whnf
   refine zkf (a:=t :: A) (b:=B) (c:=[]) (by rw [i1];simp) rfl rfl ?_
   conv=>whnf
   refine ⟨_,Pck.zil B s.config.packet hsz hm,rfl,?_⟩;conv=>whnf
   repeat (refine hcut.go ?_;conv=>whnf)
   refine zaa (c:=(0:Int) <= room1 s.config.packet B /\ ((A.length+1:Nat):Int)+room1 s.config.packet B <= ((b.map Chunk.row).length:Int)) ⟨by omega,by rw [List.length_map,hz,List.length_cons];omega⟩ ?_;conv=>whnf
   refine zcf ?_;conv=>whnf
   refine zkf (a:=t :: A) (b:=B.take r) (c:=B.drop r) (by rw [i1];simp) rfl (show (room1 s.config.packet B).toNat=_ by rw [r1];simp;omega) ?_
   conv=>whnf
   refine ⟨_,Pck.zer (B.take r) s.config.packet hszr,rfl,?_⟩;conv=>whnf
   refine sD ?_
   by_cases ho:(Pck.pbytes (B.take r) s.config.packet).2=0
   case pos =>
    rw [if_pos ho] at hP
    refine zad ?_ ?_
    . simpa using ho
    conv=>whnf
    refine zaa (c:=((acc.map Packet.row).length+1) * 40 <= 140737488355328) (by rw [List.length_map];omega) ?_;conv=>whnf
    repeat (refine hcut.go ?_;conv=>whnf)
    refine zaa (c:=(0:Int) <= room1 s.config.packet B /\ room1 s.config.packet B <= (B.length:Int) /\ ((A.length+1:Nat):Int)+(B.length:Int) <= ((b.map Chunk.row).length:Int)) ⟨by omega,by omega,by rw [List.length_map,hz,List.length_cons];omega⟩ ?_;conv=>whnf
    refine hQ2 _ _ ?_;conv=>whnf
    exact ⟨⟨((t :: (A++B.take r),B.drop r),n,acc++[⟨1,false,(Pck.pbytes (B.take r) s.config.packet).1⟩]),by rw [i1];simp,by simp;omega,by simp;omega,by rw [<- i3,hP];simp⟩,(hle_Y (pK10 [(900,some 51)]) (by repeat' (first | exact z0 | refine z1 ?_ | refine ⟨?_,?_⟩ | ((exact zfc (show (A++B.take r).length+1=A.length+1+(room1 s.config.packet B).toNat by simp;omega) (show (B.drop r).length=B.length - (room1 s.config.packet B).toNat by simp;omega))) | ((exact zat (f:=Packet.row) rfl rfl)) | exact z2))),by simp;omega⟩
   case neg =>
    rw [if_neg ho] at hP
    refine zab ?_ ?_
    . simpa using ho
    conv=>whnf
    repeat (refine hcut.go ?_;conv=>whnf)
    refine zaa (c:=(0:Int) <= room1 s.config.packet B /\ room1 s.config.packet B <= (B.length:Int) /\ ((A.length+1:Nat):Int)+(B.length:Int) <= ((b.map Chunk.row).length:Int)) ⟨by omega,by omega,by rw [List.length_map,hz,List.length_cons];omega⟩ ?_;conv=>whnf
    refine hQ2 _ _ ?_;conv=>whnf
    exact ⟨⟨((t :: (A++B.take r),B.drop r),n,acc),by rw [i1];simp,by simp;omega,by simp;omega,by rw [<- i3,hP];simp⟩,(hle_Y (pK10 [(900,some 900)]) (by repeat' (first | exact z0 | refine z1 ?_ | refine ⟨?_,?_⟩ | ((exact zfc (show (A++B.take r).length+1=A.length+1+(room1 s.config.packet B).toNat by simp;omega) (show (B.drop r).length=B.length - (room1 s.config.packet B).toNat by simp;omega))) | ((exact zat (f:=Packet.row) rfl rfl)) | exact z2))),by simp;omega⟩
 case inr.inr =>
  have k2:acc=T:=by rw [<- k2];simp [zay]
  subst k2
  conv=>whnf
  refine hQ _ _ ?_;conv=>whnf
  (exact zbw (pK10 [(0,some 900)]))
end Snd
end Go.HL
namespace Go.HL
open Go.Proofs
namespace Snd
open Ser
set_option maxHeartbeats 4000000
set_option maxRecDepth 100000
set_option linter.unusedSimpArgs false
structure PF (j:Nat) (s:Sender):Prop where
 g:GFit s
 some:0 < s.paths.length
 part:1 <= s.config.part
 part2:s.config.part < 2 ^ 30
 msg:∀ m ∈ s.queue,zoq s m
 chunk:∀ x ∈ s.out,Okc x.chunk
 bytes:Sco.total s.out+j * 2 ^ 30 < 2 ^ 38
 few:s.out.length+s.queue.length < 2 ^ 27
theorem PF.nfit {j:Nat} {s:Sender} (h:PF j s):NFit s:=⟨h.g,h.some,h.part,h.part2,h.msg⟩
theorem zoq.same {s t:Sender} {m:Queued} (h:zoq s m) (h1:t.config=s.config) (h2:t.mids.length=s.mids.length) (h3:t.sched.had.length=s.sched.had.length):zoq t m:=by
 obtain ⟨⟨a1,a2,a3,a4,a5⟩,b1,b2,b3,b4⟩:=h
 have e:midAt t m=midAt s m:=by unfold midAt;rw [h1]
 exact ⟨⟨a1,a2,by rw [h1];exact a3,by rw [h1];exact a4,fun hm=>by rw [e,h2];exact a5 hm⟩,by rw [h3];exact b1,b2,b3,b4⟩
theorem ybz (id:Int):∀ (q:List Queued) (s:Sender),(∀ x ∈ s.out,Okc x.chunk) -> ∀ x ∈ (q.foldl (end1 id) s).out,Okc x.chunk
 | [],s,h,x,hx=>h x hx
 | m :: q,s,h,x,hx=>by
  refine ybz id q (end1 id s m) (fun y hy=>?_) x hx
  unfold end1 at hy
  split at hy
  . rcases List.mem_append.1 hy with hy | hy
    . exact h y hy
    . rw [List.mem_singleton] at hy;subst hy;exact ⟨by simp [endOf],by simp [endOf]⟩
  . exact h y hy
theorem yhp {j:Nat} {s:Sender} (h:PF j s) {id:Nat} (hid:id < s.fates.length):PF j (giveS s id):=by
 obtain ⟨r,h1,h2,h3⟩:=zgs s id
 have hs:=r.sum
 refine ⟨ztd h.g hid,by rw [r.paths];exact h.some,by rw [r.config];exact h.part,by rw [r.config];exact h.part2,fun m hm=>(h.msg m (h2 m hm)).same r.config (by rw [r.mids]) (by rw [r.had]),fun x hx=>?_,by rw [h1];exact h.bytes,by have:=h.few;omega⟩
 have hx':x ∈ ((s.queue.foldl (end1 id) { s with fates:=s.fates.set id 3 }).out.map (Sco.give id)):=hx
 obtain ⟨y,hy,rfl⟩:=List.mem_map.1 hx'
 have:=ybz id s.queue { s with fates:=s.fates.set id 3 } h.chunk y hy
 have e:(Sco.give id y).chunk=y.chunk:=by unfold Sco.give;split <;> rfl
 rw [e];exact this
theorem yoq {j:Nat} {s:Sender} (h:PF j s) {m:Queued} (hm:0 <= m.id /\ m.id < s.fates.length):PF j (expQ s m):=by
 unfold expQ
 split
 . obtain ⟨k,hk⟩:∃ k:Nat,m.id=k:=⟨m.id.toNat,by omega⟩
   rw [hk];exact yhp h (by omega)
 . exact h
theorem yor {j:Nat} {s:Sender} (h:PF j s) {m:Sent} (hm:0 <= m.id /\ m.id < s.fates.length):PF j (expX s m):=by
 unfold expX
 split
 . obtain ⟨k,hk⟩:∃ k:Nat,m.id=k:=⟨m.id.toNat,by omega⟩
   rw [hk];exact yhp h (by omega)
 . exact h
theorem yca {j:Nat}:∀ (q:List Queued) (s:Sender),PF j s -> (∀ m ∈ q,0 <= m.id /\ m.id < s.fates.length) -> PF j (q.foldl expQ s) /\ Rest s (q.foldl expQ s)
 | [],s,h,_=>⟨h,Rest.refl s⟩
 | m :: q,s,h,hq=>by
  obtain ⟨-,r⟩:=zte h.g (hq m (by simp))
  obtain ⟨h1,r1⟩:=yca q (expQ s m) (yoq h (hq m (by simp))) fun x hx=>by rw [r.fates];exact hq x (by simp [hx])
  exact ⟨h1,r.trans r1⟩
theorem ycb {j:Nat}:∀ (q:List Sent) (s:Sender),PF j s -> (∀ m ∈ q,0 <= m.id /\ m.id < s.fates.length) -> PF j (q.foldl expX s) /\ Rest s (q.foldl expX s)
 | [],s,h,_=>⟨h,Rest.refl s⟩
 | m :: q,s,h,hq=>by
  obtain ⟨-,r⟩:=ztf h.g (hq m (by simp))
  obtain ⟨h1,r1⟩:=ycb q (expX s m) (yor h (hq m (by simp))) fun x hx=>by rw [r.fates];exact hq x (by simp [hx])
  exact ⟨h1,r.trans r1⟩
theorem zwc {j:Nat} {s:Sender} (h:PF j s):PF j (expire s) /\ Rest s (expire s):=by
 obtain ⟨h1,r1⟩:=yca s.queue s h h.g.qid
 obtain ⟨h2,r2⟩:=ycb (s.queue.foldl expQ s).out _ h1 h1.g.xid
 exact ⟨h2,r1.trans r2⟩
theorem zot:∀ (l:List Sent) (cum:Int) (sk:List Skip),sk.length <= 8 -> (Sco.zde cum sk l).2.length <= 8
 | [],cum,sk,h=>h
 | x :: l,cum,sk,h=>by
  simp only [Sco.zde]
  split
  . exact h
  split
  . split
    . exact h
    . exact zot l _ _ (by omega)
  . exact zot l _ _ h
theorem yhq (s:Sender):Okc (fwdC s):=⟨by simp [fwdC],by have:=zot s.out s.cum [] (by simp);show (Sco.point s.out s.cum).2.length < _;unfold Sco.point;omega⟩
theorem PF.paths {j:Nat} {s:Sender} (h:PF j s) (ps:List Path) (f:Bool) (hp:ps.length=s.paths.length):PF j { s with paths:=ps,forward:=f }:=by
 obtain ⟨⟨⟨f1,f2,f3,f4,f5,f6,f7⟩,g2,g3,g4⟩,a1,a2,a3,a4,a5,a6,a7⟩:=h
 exact ⟨⟨⟨f1,f2,f3,by show ps.length < _;omega,f5,f6,f7⟩,g2,g3,g4⟩,by show 0 < ps.length;omega,a2,a3,fun m hm=>(a4 m hm).same rfl rfl rfl,a5,a6,a7⟩
theorem ypr {j:Nat} {s:Sender} (h:PF j s) {k:Nat} {w:Path}:PF j (fwdS s k w):=h.paths _ _ (by simp)
theorem yps {j:Nat} {s:Sender} (h:PF j s) {i c:Nat} {x:Sent} {w:Path} (hx:s.out[i]?=some x):PF j (flyS s i c x w):=by
 obtain ⟨⟨⟨f1,f2,⟨b1,b2⟩,f4,f5,f6,f7⟩,g2,g3,g4⟩,a1,a2,a3,a4,a5,a6,a7⟩:=h
 have hi:=(List.getElem?_eq_some_iff.1 hx).1
 have hl:(flyS s i c x w).out.length=s.out.length:=by show (s.out.set i _).length=_;simp
 have hp:(flyS s i c x w).paths.length=s.paths.length:=by show (s.paths.set c _).length=_;simp
 have ht:Sco.total (flyS s i c x w).out=Sco.total s.out:=by
  show Sco.total (s.out.set i (flyX x c))=_
  have he:s.out[i]=x:=(List.getElem?_eq_some_iff.1 hx).2
  simp only [Sco.total,List.map_set]
  rw [show (flyX x c).chunk.data.length=(s.out.map fun s=>s.chunk.data.length)[i]'(by simpa using hi) by simp [flyX,he],List.set_getElem_self]
 have hmem:∀ y ∈ (flyS s i c x w).out,∃ z ∈ s.out,y.id=z.id /\ y.chunk=z.chunk:=fun y hy=>by
  rcases List.mem_or_eq_of_mem_set (show y ∈ s.out.set i (flyX x c) from hy) with hy | hy
  . exact ⟨y,hy,rfl,rfl⟩
  . exact ⟨x,List.mem_of_getElem? hx,by rw [hy];rfl,by rw [hy];rfl⟩
 refine ⟨⟨⟨f1,f2,⟨by rw [hl];exact b1,by rw [ht];exact b2⟩,by rw [hp];exact f4,f5,f6,f7⟩,by rw [hl];exact g2,g3,fun y hy=>?_⟩,by rw [hp];exact a1,a2,a3,fun m hm=>(a4 m hm).same rfl rfl rfl,fun y hy=>?_,by rw [ht];exact a6,by rw [hl];exact a7⟩
 . obtain ⟨z,hz,e,-⟩:=hmem y hy;rw [e];exact g4 z hz
 . obtain ⟨z,hz,-,e⟩:=hmem y hy;rw [e];exact a5 z hz
def nxS (s:Sender) (k c:Nat) (m:Queued) (w:Path):Sender:={ flyS (s2 s k m) s.out.length c (x0 s m) w with queue:=if ovr s m then s.queue.eraseIdx k else s.queue.set k (m2 s m) }
theorem yos {j:Nat} {s:Sender} (h:PF (j+1) s) {k c:Nat} {m:Queued} {w:Path} (hm:s.queue[k]?=some m) (ho:s.out.length < 60):PF j (nxS s k c m w):=by
 have hmf:=h.msg m (List.mem_of_getElem? hm)
 obtain ⟨⟨⟨f1,f2,⟨b1,b2⟩,f4,f5,f6,f7⟩,g2,g3,g4⟩,a1,a2,a3,a4,a5,a6,a7⟩:=h
 obtain ⟨n1,n2,n3⟩:=zli (s:=s) (m:=m) a2 a3 hmf.sent hmf.left hmf.data
 have hk:=(List.getElem?_eq_some_iff.1 hm).1
 have hmid:(zcj s m).length=s.mids.length:=by
  unfold zcj setAt
  split
  . split
    . rfl
    . simp
  . rfl
 have hhad:(Sch.had s.sched { m with mid:=midOf s m } (many s m) (ovr s m)).had.length=s.sched.had.length:=by
  unfold Sch.had
  dsimp only
  split <;> simp
 have hout:(nxS s k c m w).out=(s.out++[x0 s m]).set s.out.length (flyX (x0 s m) c):=rfl
 have hout2:(nxS s k c m w).out=s.out++[flyX (x0 s m) c]:=by rw [hout,List.set_append_right _ _ (Nat.le_refl _),Nat.sub_self];rfl
 have hq:∀ y ∈ (nxS s k c m w).queue,y ∈ s.queue \/ (y=m2 s m /\ ovr s m=false):=fun y hy=>by
  have hy:y ∈ (if ovr s m then s.queue.eraseIdx k else s.queue.set k (m2 s m)):=hy
  cases ho:ovr s m with
  | true=>rw [ho,if_pos rfl] at hy;exact .inl (List.mem_of_mem_eraseIdx hy)
  | false =>
   rw [ho,if_neg (by decide)] at hy
   rcases List.mem_or_eq_of_mem_set hy with hy | hy
   . exact .inl hy
   . exact .inr ⟨hy,rfl⟩
 have hql:(nxS s k c m w).queue.length <= s.queue.length:=by
  show (if ovr s m then s.queue.eraseIdx k else s.queue.set k (m2 s m)).length <= _
  split
  . rw [List.length_eraseIdx];split <;> omega
  . simp
 have hp:(nxS s k c m w).paths.length=s.paths.length:=by show (s.paths.set c _).length=_;simp
 have hd:(x0 s m).chunk.data.length < 2 ^ 30:=by show ((m.message.data.drop _).take _).length < _;simp;omega
 have htot:Sco.total (nxS s k c m w).out=Sco.total s.out+(x0 s m).chunk.data.length:=by rw [hout2,Sco.zfa];simp [Sco.total,flyX]
 have hlen:(nxS s k c m w).out.length=s.out.length+1:=by rw [hout2];simp
 have hm2:ovr s m=false -> zoq s (m2 s m):=fun ho=>by
  have:m.sent+many s m ≠ m.message.data.length:=by
   intro e
   have:=ynh s m
   rw [ho,decide_eq_false_iff_not] at this
   exact this e
  obtain ⟨⟨c1,c2,c3,c4,c5⟩,d1,d2,d3,d4⟩:=hmf
  refine ⟨⟨c1,c2,c3,c4,fun hneg=>?_⟩,d1,by show 0 <= m.sent+many s m;omega,by show m.sent+many s m < m.message.data.length;omega,d4⟩
  have hmn:m.mid < 0:=by
   rcases Int.lt_or_le m.mid 0 with h0 | h0
   . exact h0
   . have:midOf s m=m.mid:=by rw [midOf,if_neg (by omega)]
     have hneg:midOf s m < 0:=hneg
     omega
  exact c5 hmn
 refine ⟨⟨⟨by omega,by rw [show (nxS s k c m w).sched.had.length=s.sched.had.length from hhad];exact f2,⟨by omega,by omega⟩,by omega,by rw [show (nxS s k c m w).mids.length=s.mids.length from hmid];exact f5,f6,fun y hy=>?_⟩,by omega,fun y hy=>?_,fun y hy=>?_⟩,by omega,a2,a3,fun y hy=>?_,fun y hy=>?_,by omega,by omega⟩
 . rcases hq y hy with hy | ⟨rfl,-⟩
   . exact f7 y hy
   . exact f7 m (List.mem_of_getElem? hm)
 . show 0 <= y.id /\ y.id < s.fates.length
   rcases hq y hy with hy | ⟨rfl,-⟩
   . exact g3 y hy
   . exact g3 m (List.mem_of_getElem? hm)
 . show 0 <= y.id /\ y.id < s.fates.length
   rw [hout2] at hy
   rcases List.mem_append.1 hy with hy | hy
   . exact g4 y hy
   . rw [List.mem_singleton] at hy;subst hy;exact g3 m (List.mem_of_getElem? hm)
 . have h0:zoq s y:=by
    rcases hq y hy with hy | ⟨rfl,ho⟩
    . exact a4 y hy
    . exact hm2 ho
   exact h0.same rfl hmid hhad
 . rw [hout2] at hy
   rcases List.mem_append.1 hy with hy | hy
   . exact a5 y hy
   . rw [List.mem_singleton] at hy;subst hy;exact ⟨by simp [flyX,x0],by simp [flyX,x0]⟩
theorem ylw {s:Sender} {o:List (List Chunk)} {j:Nat} (h:PF (j+1) s) (hc:choose s < o.length):(nx s o=(⟨s,o⟩,false) /\ next ⟨s,o⟩=none) \/ ∃ (k:Nat) (m:Queued) (w:Path) (l:List Chunk),s.queue[k]?=some m /\ s.out.length < 60 /\ o[choose s]?=some l /\
 nx s o=(⟨nxS s k (choose s) m w,o.set (choose s) (l++[(x0 s m).chunk])⟩,true) /\ next ⟨s,o⟩=some ⟨nxS s k (choose s) m w,o.set (choose s) (l++[(x0 s m).chunk])⟩:=by
 obtain ⟨-,hc2⟩:=zcc h.some
 obtain ⟨w,hw⟩:∃ w,s.paths[choose s]?=some w:=⟨_,List.getElem?_eq_getElem hc2⟩
 obtain ⟨l,hl⟩:∃ l,o[choose s]?=some l:=⟨_,List.getElem?_eq_getElem hc⟩
 cases hn:next ⟨s,o⟩ with
 | none=>exact .inl ⟨by rw [nx,hn],rfl⟩
 | some q =>
  right
  have hn':=hn
  unfold next at hn'
  split at hn'
  . cases hn'
  rename_i c0
  have c0:=not_or.1 c0
  have c1:=not_or.1 c0.2
  cases hq:s.queue[(zcu s).toNat]? with
  | none=>simp only [hq] at hn';cases hn'
  | some m =>
   simp only [hq] at hn'
   split at hn'
   . cases hn'
   . have hn':=Option.some.inj hn'
     rw [zds rfl hw hl] at hn'
     refine ⟨(zcu s).toNat,m,w,l,hq,by have h2:=c1.2;dsimp only at h2;omega,hl,?_,?_⟩
     . rw [nx,hn];simp only;rw [<- hn'];rfl
     . rw [<- hn'];rfl
end Snd
end Go.HL
namespace Go.HL
open Go.Proofs
namespace Snd
open Ser
set_option maxHeartbeats 4000000
set_option maxRecDepth 100000
set_option linter.unusedSimpArgs false
structure PO (g:Config) (j n k:Nat) (p:Pump):Prop where
 pf:PF j p.s
 paths:p.s.paths.length=n
 outs:p.out.length=n
 config:p.s.config=g
 most:∀ l ∈ p.out,l.length <= k /\ ∀ c ∈ l,Okc c
theorem PO.mono {g:Config} {j n k k':Nat} {p:Pump} (h:PO g j n k p) (hk:k <= k'):PO g j n k' p:=⟨h.pf,h.paths,h.outs,h.config,fun l hl=>⟨Nat.le_trans (h.most l hl).1 hk,(h.most l hl).2⟩⟩
theorem zou {o:List (List Chunk)} {k c:Nat} {l:List Chunk} {x:Chunk} (h:∀ l ∈ o,l.length <= k /\ ∀ c ∈ l,Okc c) (hl:o[c]?=some l) (hx:Okc x):∀ m ∈ o.set c (l++[x]),m.length <= k+1 /\ ∀ c ∈ m,Okc c:=fun m hm=>by
 rcases List.mem_or_eq_of_mem_set hm with hm | rfl
 . obtain ⟨h1,h2⟩:=h m hm;exact ⟨by omega,h2⟩
 . obtain ⟨h1,h2⟩:=h l (List.mem_of_getElem? hl)
   refine ⟨by simp;omega,fun c hc=>?_⟩
   rcases List.mem_append.1 hc with hc | hc
   . exact h2 c hc
   . rw [List.mem_singleton] at hc;subst hc;exact hx
theorem yhr {g:Config} {j n k c:Nat} {p:Pump} (h:PO g j n k p) (hc:c < n) (i:Nat):PO g j n (k+1) (zbx c p i):=by
 obtain ⟨s,o⟩:=p
 obtain ⟨w,hw⟩:∃ w,s.paths[c]?=some w:=⟨_,List.getElem?_eq_getElem (by have:=h.paths;dsimp only at this;omega)⟩
 obtain ⟨l,hl⟩:∃ l,o[c]?=some l:=⟨_,List.getElem?_eq_getElem (by have:=h.outs;dsimp only at this;omega)⟩
 cases hx:s.out[i]? with
 | none=>simp only [zbx,hx];exact h.mono (by omega)
 | some x =>
  by_cases d:x.state=3 /\ w.flight < w.window
  . rw [zhv hx hw hl d]
    exact ⟨yps h.pf hx,by show (s.paths.set c _).length=_;rw [List.length_set];exact h.paths,by show (o.set c _).length=_;rw [List.length_set];exact h.outs,h.config,zou h.most hl (h.pf.chunk x (List.mem_of_getElem? hx))⟩
  . rw [zke hx hw d];exact h.mono (by omega)
theorem zwd {g:Config} {j n c:Nat} (hc:c < n):∀ (L:List Nat) {k:Nat} {p:Pump},PO g j n k p -> PO g j n (k+L.length) (L.foldl (zbx c) p)
 | [],_,_,h=>h
 | i :: L,k,p,h=>(zwd hc L (yhr h hc i)).mono (by simp;omega)
theorem ztl {g:Config} {j n k:Nat} {p:Pump} (h:PO g j n k p):PO g j n (k+p.s.out.length) (again p):=by
 obtain ⟨-,hc2⟩:=zcc h.pf.some
 have:=zwd (show choose p.s < n by rw [<- h.paths];exact hc2) (List.range p.s.out.length) h
 rw [List.length_range] at this
 exact this
theorem zin {g:Config} {j n k:Nat} {p:Pump} (h:PO g j n k p):PO g j n (k+1) (forward p):=by
 obtain ⟨s,o⟩:=p
 obtain ⟨-,hc2⟩:=zcc h.pf.some
 dsimp only at hc2
 obtain ⟨l,hl⟩:∃ l,o[choose s]?=some l:=⟨_,List.getElem?_eq_getElem (by have:=h.outs;have:=h.paths;dsimp only at *;omega)⟩
 obtain ⟨w,hw⟩:∃ w,s.paths[choose s]?=some w:=⟨_,List.getElem?_eq_getElem hc2⟩
 unfold forward
 split
 . exact h.mono (by omega)
 . simp only [setAt,hl,hw]
   exact ⟨ypr h.pf (k:=choose s) (w:=w),by show (s.paths.set _ _).length=_;rw [List.length_set];exact h.paths,by show (o.set _ _).length=_;rw [List.length_set];exact h.outs,h.config,zou h.most hl (yhq s)⟩
theorem zkg {j:Nat} {s:Sender} (h:PF j s):PO s.config j s.paths.length 0 ⟨expire s,List.replicate s.paths.length []⟩:=by
 obtain ⟨h1,r⟩:=zwc h
 exact ⟨h1,by rw [show (Pump.mk (expire s) _).s=expire s from rfl,r.paths],by simp,r.config,fun l hl=>by rw [List.eq_of_mem_replicate hl];simp⟩
theorem zza {g:Config} {j n k:Nat} {p:Pump} (h:PO g (j+1) n k p):(nx p.s p.out=(p,false) /\ next p=none) \/ ∃ q,nx p.s p.out=(q,true) /\ next p=some q /\ p.s.out.length < 60 /\ q.s.out.length=p.s.out.length+1 /\ PO g j n (k+1) q:=by
 obtain ⟨s,o⟩:=p
 obtain ⟨-,hc2⟩:=zcc h.pf.some
 have hp:=h.paths
 have ho:=h.outs
 dsimp only at hp ho hc2
 rcases ylw h.pf (show choose s < o.length by omega) with h1 | ⟨i,m,w,l,h1,h2,h3,h4,h5⟩
 . exact .inl h1
 . refine .inr ⟨_,h4,h5,h2,by simp [nxS,flyS,s2],yos h.pf h1 h2,by show (s.paths.set _ _).length=_;rw [List.length_set];exact hp,by show (o.set _ _).length=_;rw [List.length_set];exact ho,h.config,zou h.most h3 ⟨by simp [x0],by simp [x0]⟩⟩
theorem zlj {p:Pump} (h:next p=none) (j:Nat):nexts j p=p:=by cases j <;> simp [nexts,h]
theorem yhs {p:Pump} (h:p.out.length=2):p.out=[nth0 p.out,nth1 p.out]:=by
 obtain ⟨s,o⟩:=p
 match o,h with
 | [a,b],_=>rfl
end Snd
end Go.HL
namespace Go.HL
open Go.Proofs
namespace Snd
open Ser
set_option maxHeartbeats 8000000
set_option maxRecDepth 100000
set_option linter.unusedSimpArgs false
theorem yht {α:Type} {l:List α} (h:l.length=1):∃ a,l=[a]:=by
 match l,h with
 | [a],_=>exact ⟨a,rfl⟩
theorem yhu {α:Type} {l:List α} (h:l.length=2):∃ a b,l=[a,b]:=by
 match l,h with
 | [a,b],_=>exact ⟨a,b,rfl⟩
abbrev pmB1 (t:Sender) (a:List Chunk) (L:List (Nat × HSlot)):List (Nat × HSlot):=(2,.live (.cells 32 zeroS)) :: (16,.live (.cells 139 (pmpC t (.own 900) (.own 901) (.own 902) (.own 903) (.own 904) (.own 905) (.own 14)))) :: sndB t 900 901 902 903 904 905 ((14,.live (.cells 145 [.own 906])) :: (906,rowK a) :: L)
abbrev pmB2 (t:Sender) (a b:List Chunk) (L:List (Nat × HSlot)):List (Nat × HSlot):=(2,.live (.cells 32 zeroS)) :: (16,.live (.cells 139 (pmpC t (.own 900) (.own 901) (.own 902) (.own 903) (.own 904) (.own 905) (.own 14)))) :: sndB t 900 901 902 903 904 905 ((14,.live (.cells 145 [.own 906,.own 907])) :: (906,rowK a) :: (907,rowK b) :: L)
theorem zeg {α β:Type} (f:α -> β) (A:List α) (p:α) (B:List β):(A++[p]).map f++B=A.map f++f p :: B:=by simp
theorem zzb (s:Sender) (h:PF 62 s) (hm:inI s.config.packet) (h1p:s.paths.length=1) :
 FunOK Tryz.prog 39 [s.hv] zac (.tup [sndO (pump s).1 0 1 2 3 4 5,.own 6]) (lk .free (sndB (pump s).1 0 1 2 3 4 5 [(6,rowPk (pump s).2)])):=by
 have h0:=h.g.fit
 have e1:PO s.config 62 1 0 ⟨expire s,[[]]⟩:=by have:=zkg h;rw [h1p] at this;exact this
 have e2:=zin e1
 have e3:=ztl e2
 have hF:nexts 61 (again (forward ⟨expire s,[[]]⟩))=pumpP s:=by rw [pumpP,h1p];rfl
 have hfew:=e2.pf.few
 rw [show pump s=(woken (pumpP s).s,zay s.config.packet 0 (pumpP s).out) from rfl]
 generalize pumpP s=F at hF ⊢
 dsimp only
 refine zal mixed Tryz.func39 (by decide) [] (fun _=>.inl rfl) ?_
 conv=>whnf
 (refine zap [(0,20),(1,21),(2,22),(3,23),(4,24),(5,25)]  ?_;(conv=>whnf);refine dO (zdb s h0) ?_)
 refine zaa ⟨by omega,rfl,by rw [List.length_map,h1p];decide⟩ ?_;conv=>whnf
 refine ⟨1,by rw [List.length_map,h1p],by decide,?_⟩;conv=>whnf
 refine sD ?_
 (refine zag [] [(1000,16),(1001,20),(1002,21),(1003,22),(1004,23),(1005,24),(1006,25),(1007,14)] [(0,930),(1,931),(2,932),(3,933),(4,934),(5,935)] ?_;(conv=>whnf);refine dG (zvx s h.g) ?_)
 (refine zag [] [(1000,16),(1001,930),(1002,931),(1003,932),(1004,933),(1005,934),(1006,935),(1007,14)] [(0,940)] ?_;(conv=>whnf);refine dG (ztg (expire s) (by have:=e1.pf.few;dsimp only at this;omega) e1.paths) ?_)
 generalize forward ⟨expire s,[[]]⟩=P1 at e2 e3 hF hfew ⊢
 obtain ⟨t1,o1⟩:=P1
 obtain ⟨a1,rfl⟩:=yht e2.outs
 (refine zag [] [(1000,16),(1001,930),(1002,931),(1003,932),(1004,933),(1005,934),(1006,935),(1007,14),(1008,940)] [(0,950)] ?_;(conv=>whnf);refine dG (zyy t1 a1 (by dsimp only at hfew;omega) e2.paths (by have:=(e2.most a1 (by simp)).1;omega)) ?_)
 generalize again ⟨t1,[a1]⟩=P2 at e3 hF ⊢
 obtain ⟨t2,o2⟩:=P2
 obtain ⟨a2,rfl⟩:=yht e3.outs
 dsimp only at hfew
 refine ⟨{ x:Nat × Sender × List Chunk // nexts x.1 ⟨x.2.1,[x.2.2]⟩=F /\ PO s.config (x.1+1) 1 (2 ^ 27+99 - x.1) ⟨x.2.1,[x.2.2]⟩ /\ 61 <= x.1+x.2.1.out.length /\ x.1 <= 61 },
  fun | ⟨(j,t,a),_⟩=>hs 106 [(2,.ptr 2 0),(3,hnil),(4,.ptr 16 0)] (pmB1 t a []),fun x=>x.1.1,⟨(61,t2,a2),hF,e3.mono (by dsimp only;omega),by dsimp only;omega,by dsimp only;omega⟩,?_,?_⟩
 . exact (hle_Q [(2,some 2),(16,some 16),(14,some 14),(900,some 930),(901,some 931),(902,some 932),(903,some 933),(904,some 934),(905,some 935),(906,some 950)])
 rintro ⟨⟨j,t,a⟩,k1,k2,k3,k4⟩
 dsimp only at k1 k2 k3 k4
 have km:=k2.most a (by simp)
 conv=>whnf
 have hn:=zle t a k2.pf.nfit k2.paths (by omega)
 rcases zza k2 with ⟨n1,n2⟩ | ⟨q,n1,n2,n3,n4,n5⟩
 case inr =>
  obtain ⟨u,o⟩:=q
  have n6:=n5.outs
  obtain ⟨b,rfl⟩:=yht n6
  dsimp only at n1 n3 n4
  rw [n1] at hn
  (refine zag [] [(1000,16),(1001,900),(1002,901),(1003,902),(1004,903),(1005,904),(1006,905),(1007,14),(1008,906)] [(0,930),(1,931),(2,932),(3,933),(4,934),(5,935),(6,950)] ?_;(conv=>whnf);refine dG hn ?_)
  obtain ⟨j,rfl⟩:∃ j',j=j'+1:=⟨j - 1,by omega⟩
  rw [nexts,n2] at k1
  exact ⟨⟨(j,u,b),k1,n5.mono (by omega),by dsimp only;omega,by dsimp only;omega⟩,(hle_Q [(2,some 2),(16,some 16),(14,some 14),(900,some 930),(901,some 931),(902,some 932),(903,some 933),(904,some 934),(905,some 935),(906,some 950)]),by dsimp only;omega⟩
 case inl =>
  dsimp only at n1
  rw [n1] at hn
  rw [zlj n2] at k1
  subst k1
  (refine zag [] [(1000,16),(1001,900),(1002,901),(1003,902),(1004,903),(1005,904),(1006,905),(1007,14),(1008,906)] [(0,930),(1,931),(2,932),(3,933),(4,934),(5,935),(6,950)] ?_;(conv=>whnf);refine dG hn ?_)
  (refine zag [] [(1000,932)] [(0,960)] ?_;(conv=>whnf);refine dG (Sco.zdj t.out t.cum (by have:=k2.pf.few;dsimp only at this;omega)) ?_)
  refine sD ?_
  generalize hN:(Sco.point t.out t.cum).1=N
  have kfew:=k2.pf.few
  have kpl:=k2.paths
  dsimp only at kfew kpl
  refine ⟨{ x:List Path × List Path // t.paths=x.1++x.2 },fun | ⟨(A,B),_⟩=>hs 106 [(2,.ptr 2 0),(3,hnil),(4,.ptr 16 0),(5,i64 N),(44,i64 t.paths.length),(45,i64 A.length)] (pmB1 { t with paths:=A.map (wake t N)++B } a []),fun x=>x.1.2.length,⟨([],t.paths),rfl⟩,?_,?_⟩
  . exact (hle_Q [(2,some 2),(16,some 16),(14,some 14),(900,some 930),(901,some 931),(902,some 932),(903,some 933),(904,some 934),(905,some 935),(906,some 950)])
  rintro ⟨⟨A,B⟩,h⟩
  dsimp only at h
  conv=>whnf
  cases B with
  | cons p B =>
   have hz:=zar h
   refine sT ?_
   refine sOm ?_
   refine zaj (a:=A.map (wake t N)) (b:=B) (s:=p) rfl (by simp) ?_;conv=>whnf
   by_cases d1:p.flight > 0
   case pos =>
    rw [show decide (p.flight > 0)=true from decide_eq_true d1]
    refine zad rfl ?_;conv=>whnf
    repeat (refine hcut.go ?_;conv=>whnf)
    refine zaj (a:=A.map (wake t N)) (b:=B) (s:=p) rfl (by simp) ?_;conv=>whnf
    by_cases d2:p.alarm=0
    case pos =>
     rw [show (p.alarm == 0)=true from beq_iff_eq.2 d2]
     conv=>whnf
     refine zaj (a:=A.map (wake t N)) (b:=B) (s:=p) rfl (by simp) ?_;conv=>whnf
     refine sR ?_
     refine zaj (a:=A.map (wake t N)) (b:=B) (s:=p) rfl (by simp) ?_;conv=>whnf
     refine sD ?_
     refine sF ?_
     exact ⟨⟨(A++[p],B),zae h⟩,(hle_X ((2,some 2) :: ((16,some 16) :: ((14,some 14) :: (pJ7 [])))) (by repeat' (first | exact z0 | refine z1 ?_ | refine ⟨?_,?_⟩ | ((rw [zeg,show wake t N p={ p with alarm:=W (t.clock+p.wait) } from if_pos ⟨d1,d2⟩];refine Eq.symm (zdd (a:=A.map (wake t N)) (b:=B) ?_ ?_);all_goals first | rfl | (simp;done))) | exact z2))),by simp⟩
    case neg =>
     rw [show (p.alarm == 0)=false from beq_eq_false_iff_ne.2 d2]
     conv=>whnf
     refine zaj (a:=A.map (wake t N)) (b:=B) (s:=p) rfl (by simp) ?_;conv=>whnf
     by_cases d3:p.flight=0
     case pos =>
      rw [show (p.flight == 0)=true from beq_iff_eq.2 d3]
      refine zad rfl ?_;conv=>whnf
      repeat (refine hcut.go ?_;conv=>whnf)
      by_cases d4:N=t.cum
      case pos =>
       rw [show (N == t.cum)=true from beq_iff_eq.2 d4]
       conv=>whnf
       have d6:wake t N p={ p with alarm:=0 }:=by rw [wake,if_neg (fun h=>d2 h.2),if_pos ⟨d3,d4⟩]
       refine zaj (a:=A.map (wake t N)) (b:=B) (s:=p) rfl (by simp) ?_;conv=>whnf
       refine sF ?_
       exact ⟨⟨(A++[p],B),zae h⟩,(hle_X ((2,some 2) :: ((16,some 16) :: ((14,some 14) :: (pJ7 [])))) (by repeat' (first | exact z0 | refine z1 ?_ | refine ⟨?_,?_⟩ | ((rw [zeg,d6];refine Eq.symm (zdd (a:=A.map (wake t N)) (b:=B) ?_ ?_);all_goals first | rfl | (simp;done))) | exact z2))),by simp⟩
      case neg =>
       rw [show (N == t.cum)=false from beq_eq_false_iff_ne.2 d4]
       conv=>whnf
       have d6:wake t N p=p:=by rw [wake,if_neg (fun h=>d2 h.2),if_neg (fun h=>d4 h.2)]
       refine sF ?_
       exact ⟨⟨(A++[p],B),zae h⟩,(hle_X ((2,some 2) :: ((16,some 16) :: ((14,some 14) :: (pJ7 [])))) (by repeat' (first | exact z0 | refine z1 ?_ | refine ⟨?_,?_⟩ | ((exact zao (by rw [zeg,d6]))) | exact z2))),by simp⟩
     case neg =>
      rw [show (p.flight == 0)=false from beq_eq_false_iff_ne.2 d3]
      conv=>whnf
      have d6:wake t N p=p:=by rw [wake,if_neg (fun h=>d2 h.2),if_neg (fun h=>d3 h.1)]
      refine sF ?_
      exact ⟨⟨(A++[p],B),zae h⟩,(hle_X ((2,some 2) :: ((16,some 16) :: ((14,some 14) :: (pJ7 [])))) (by repeat' (first | exact z0 | refine z1 ?_ | refine ⟨?_,?_⟩ | ((exact zao (by rw [zeg,d6]))) | exact z2))),by simp⟩
   case neg =>
    rw [show decide (p.flight > 0)=false from decide_eq_false d1]
    conv=>whnf
    refine zaj (a:=A.map (wake t N)) (b:=B) (s:=p) rfl (by simp) ?_;conv=>whnf
    by_cases d3:p.flight=0
    case pos =>
     rw [show (p.flight == 0)=true from beq_iff_eq.2 d3]
     refine zad rfl ?_;conv=>whnf
     repeat (refine hcut.go ?_;conv=>whnf)
     by_cases d4:N=t.cum
     case pos =>
      rw [show (N == t.cum)=true from beq_iff_eq.2 d4]
      conv=>whnf
      have d6:wake t N p={ p with alarm:=0 }:=by rw [wake,if_neg (fun h=>d1 h.1),if_pos ⟨d3,d4⟩]
      refine zaj (a:=A.map (wake t N)) (b:=B) (s:=p) rfl (by simp) ?_;conv=>whnf
      refine sF ?_
      exact ⟨⟨(A++[p],B),zae h⟩,(hle_X ((2,some 2) :: ((16,some 16) :: ((14,some 14) :: (pJ7 [])))) (by repeat' (first | exact z0 | refine z1 ?_ | refine ⟨?_,?_⟩ | ((rw [zeg,d6];refine Eq.symm (zdd (a:=A.map (wake t N)) (b:=B) ?_ ?_);all_goals first | rfl | (simp;done))) | exact z2))),by simp⟩
     case neg =>
      rw [show (N == t.cum)=false from beq_eq_false_iff_ne.2 d4]
      conv=>whnf
      have d6:wake t N p=p:=by rw [wake,if_neg (fun h=>d1 h.1),if_neg (fun h=>d4 h.2)]
      refine sF ?_
      exact ⟨⟨(A++[p],B),zae h⟩,(hle_X ((2,some 2) :: ((16,some 16) :: ((14,some 14) :: (pJ7 [])))) (by repeat' (first | exact z0 | refine z1 ?_ | refine ⟨?_,?_⟩ | ((exact zao (by rw [zeg,d6]))) | exact z2))),by simp⟩
    case neg =>
     rw [show (p.flight == 0)=false from beq_eq_false_iff_ne.2 d3]
     conv=>whnf
     have d6:wake t N p=p:=by rw [wake,if_neg (fun h=>d1 h.1),if_neg (fun h=>d3 h.1)]
     refine sF ?_
     exact ⟨⟨(A++[p],B),zae h⟩,(hle_X ((2,some 2) :: ((16,some 16) :: ((14,some 14) :: (pJ7 [])))) (by repeat' (first | exact z0 | refine z1 ?_ | refine ⟨?_,?_⟩ | ((exact zao (by rw [zeg,d6]))) | exact z2))),by simp⟩
  | nil =>
   have hz:=zaz h
   rw [List.append_nil] at h
   refine sN ?_
   (refine zag [] [(1000,16),(1001,900),(1002,901),(1003,902),(1004,903),(1005,904),(1006,905),(1007,14),(1008,906)] [(0,970)] ?_;(conv=>whnf);refine dG (ztj { t with paths:=A.map (wake t N)++[] } a (by show inI t.config.packet;rw [show t.config=s.config from k2.config];exact hm) (by omega) km.2) ?_)
   refine zga [3] ?_ ?_ ?_
   . kernel_rfl
   . refine ⟨?_,trivial⟩
     refine And.intro trivial ?_
     refine And.intro trivial ?_
     refine And.intro ?_ trivial
     conv=>whnf
     refine And.intro ?_ ?_
     . conv=>whnf
     refine And.intro ?_ trivial
     conv=>whnf
     all_goals first | rfl | trace_state
   conv=>whnf
   refine zau [(0,some 900),(1,some 901),(2,some 902),(3,some 903),(4,some 904),(5,some 905),(6,some 970)] rfl rfl trivial rfl rfl ⟨⟨rfl,.inl ⟨900,rfl,rfl⟩⟩,⟨rfl,.inl ⟨901,rfl,rfl⟩⟩,⟨rfl,.inl ⟨902,rfl,rfl⟩⟩,⟨rfl,.inl ⟨903,rfl,?_⟩⟩,⟨rfl,.inl ⟨904,rfl,rfl⟩⟩,⟨rfl,.inl ⟨905,rfl,rfl⟩⟩,⟨rfl,.inl ⟨970,rfl,?_⟩⟩,trivial⟩
   . exact zao (by rw [List.append_nil,woken,hN,h])
   . exact zao (by rw [show t.config=s.config from k2.config])
theorem zzc (s:Sender) (h:PF 62 s) (hm:inI s.config.packet) (h1p:s.paths.length=2) :
 FunOK Tryz.prog 39 [s.hv] zac (.tup [sndO (pump s).1 0 1 2 3 4 5,.own 6]) (lk .free (sndB (pump s).1 0 1 2 3 4 5 [(6,rowPk (pump s).2)])):=by
 have h0:=h.g.fit
 have e1:PO s.config 62 2 0 ⟨expire s,[[],[]]⟩:=by have:=zkg h;rw [h1p] at this;exact this
 have e2:=zin e1
 have e3:=ztl e2
 have hF:nexts 61 (again (forward ⟨expire s,[[],[]]⟩))=pumpP s:=by rw [pumpP,h1p];rfl
 have hfew:=e2.pf.few
 rw [show pump s=(woken (pumpP s).s,zay s.config.packet 0 (pumpP s).out) from rfl]
 generalize pumpP s=F at hF ⊢
 dsimp only
 refine zal mixed Tryz.func39 (by decide) [] (fun _=>.inl rfl) ?_
 conv=>whnf
 (refine zap [(0,20),(1,21),(2,22),(3,23),(4,24),(5,25)]  ?_;(conv=>whnf);refine dO (zdb s h0) ?_)
 refine zaa ⟨by omega,rfl,by rw [List.length_map,h1p];decide⟩ ?_;conv=>whnf
 refine ⟨2,by rw [List.length_map,h1p],by decide,?_⟩;conv=>whnf
 refine sD ?_
 (refine zag [] [(1000,16),(1001,20),(1002,21),(1003,22),(1004,23),(1005,24),(1006,25),(1007,14)] [(0,930),(1,931),(2,932),(3,933),(4,934),(5,935)] ?_;(conv=>whnf);refine dG (zvy s h.g) ?_)
 (refine zag [] [(1000,16),(1001,930),(1002,931),(1003,932),(1004,933),(1005,934),(1006,935),(1007,14)] [(0,940),(1,941)] ?_;(conv=>whnf);refine dG (zth (expire s) (by have:=e1.pf.few;dsimp only at this;omega) e1.paths) ?_)
 generalize forward ⟨expire s,[[],[]]⟩=P1 at e2 e3 hF hfew ⊢
 obtain ⟨t1,o1⟩:=P1
 obtain ⟨a1,b1,rfl⟩:=yhu e2.outs
 (refine zag [] [(1000,16),(1001,930),(1002,931),(1003,932),(1004,933),(1005,934),(1006,935),(1007,14),(1008,940),(1009,941)] [(0,950),(1,951)] ?_;(conv=>whnf);refine dG (zyz t1 a1 b1 (by dsimp only at hfew;omega) e2.paths (by have:=(e2.most a1 (by simp)).1;have:=(e2.most b1 (by simp)).1;omega)) ?_)
 generalize again ⟨t1,[a1,b1]⟩=P2 at e3 hF ⊢
 obtain ⟨t2,o2⟩:=P2
 obtain ⟨a2,b2,rfl⟩:=yhu e3.outs
 dsimp only at hfew
 refine ⟨{ x:Nat × Sender × List Chunk × List Chunk // nexts x.1 ⟨x.2.1,[x.2.2.1,x.2.2.2]⟩=F /\ PO s.config (x.1+1) 2 (2 ^ 27+99 - x.1) ⟨x.2.1,[x.2.2.1,x.2.2.2]⟩ /\ 61 <= x.1+x.2.1.out.length /\ x.1 <= 61 },
  fun | ⟨(j,t,a,b),_⟩=>hs 106 [(2,.ptr 2 0),(3,hnil),(4,.ptr 16 0)] (pmB2 t a b []),fun x=>x.1.1,⟨(61,t2,a2,b2),hF,e3.mono (by dsimp only;omega),by dsimp only;omega,by dsimp only;omega⟩,?_,?_⟩
 . exact (hle_Q [(2,some 2),(16,some 16),(14,some 14),(900,some 930),(901,some 931),(902,some 932),(903,some 933),(904,some 934),(905,some 935),(906,some 950),(907,some 951)])
 rintro ⟨⟨j,t,a,b⟩,k1,k2,k3,k4⟩
 dsimp only at k1 k2 k3 k4
 have km:=k2.most a (by simp)
 have kn:=k2.most b (by simp)
 conv=>whnf
 have hn:=yeo t a b k2.pf.nfit k2.paths (by omega)
 rcases zza k2 with ⟨n1,n2⟩ | ⟨q,n1,n2,n3,n4,n5⟩
 case inr =>
  obtain ⟨u,o⟩:=q
  have n6:=n5.outs
  obtain ⟨a',b',rfl⟩:=yhu n6
  dsimp only at n1 n3 n4
  rw [n1] at hn
  (refine zag [] [(1000,16),(1001,900),(1002,901),(1003,902),(1004,903),(1005,904),(1006,905),(1007,14),(1008,906),(1009,907)] [(0,930),(1,931),(2,932),(3,933),(4,934),(5,935),(6,950),(7,951)] ?_;(conv=>whnf);refine dG hn ?_)
  obtain ⟨j,rfl⟩:∃ j',j=j'+1:=⟨j - 1,by omega⟩
  rw [nexts,n2] at k1
  exact ⟨⟨(j,u,a',b'),k1,n5.mono (by omega),by dsimp only;omega,by dsimp only;omega⟩,(hle_Q [(2,some 2),(16,some 16),(14,some 14),(900,some 930),(901,some 931),(902,some 932),(903,some 933),(904,some 934),(905,some 935),(906,some 950),(907,some 951)]),by dsimp only;omega⟩
 case inl =>
  dsimp only at n1
  rw [n1] at hn
  rw [zlj n2] at k1
  subst k1
  (refine zag [] [(1000,16),(1001,900),(1002,901),(1003,902),(1004,903),(1005,904),(1006,905),(1007,14),(1008,906),(1009,907)] [(0,930),(1,931),(2,932),(3,933),(4,934),(5,935),(6,950),(7,951)] ?_;(conv=>whnf);refine dG hn ?_)
  (refine zag [] [(1000,932)] [(0,960)] ?_;(conv=>whnf);refine dG (Sco.zdj t.out t.cum (by have:=k2.pf.few;dsimp only at this;omega)) ?_)
  refine sD ?_
  generalize hN:(Sco.point t.out t.cum).1=N
  have kfew:=k2.pf.few
  have kpl:=k2.paths
  dsimp only at kfew kpl
  refine ⟨{ x:List Path × List Path // t.paths=x.1++x.2 },fun | ⟨(A,B),_⟩=>hs 106 [(2,.ptr 2 0),(3,hnil),(4,.ptr 16 0),(5,i64 N),(44,i64 t.paths.length),(45,i64 A.length)] (pmB2 { t with paths:=A.map (wake t N)++B } a b []),fun x=>x.1.2.length,⟨([],t.paths),rfl⟩,?_,?_⟩
  . exact (hle_Q [(2,some 2),(16,some 16),(14,some 14),(900,some 930),(901,some 931),(902,some 932),(903,some 933),(904,some 934),(905,some 935),(906,some 950),(907,some 951)])
  rintro ⟨⟨A,B⟩,h⟩
  dsimp only at h
  conv=>whnf
  cases B with
  | cons p B =>
   have hz:=zar h
   refine sT ?_
   refine sOm ?_
   refine zaj (a:=A.map (wake t N)) (b:=B) (s:=p) rfl (by simp) ?_;conv=>whnf
   by_cases d1:p.flight > 0
   case pos =>
    rw [show decide (p.flight > 0)=true from decide_eq_true d1]
    refine zad rfl ?_;conv=>whnf
    repeat (refine hcut.go ?_;conv=>whnf)
    refine zaj (a:=A.map (wake t N)) (b:=B) (s:=p) rfl (by simp) ?_;conv=>whnf
    by_cases d2:p.alarm=0
    case pos =>
     rw [show (p.alarm == 0)=true from beq_iff_eq.2 d2]
     conv=>whnf
     refine zaj (a:=A.map (wake t N)) (b:=B) (s:=p) rfl (by simp) ?_;conv=>whnf
     refine sR ?_
     refine zaj (a:=A.map (wake t N)) (b:=B) (s:=p) rfl (by simp) ?_;conv=>whnf
     refine sD ?_
     refine sF ?_
     exact ⟨⟨(A++[p],B),zae h⟩,(hle_X ((2,some 2) :: ((16,some 16) :: ((14,some 14) :: (pJ8 [])))) (by repeat' (first | exact z0 | refine z1 ?_ | refine ⟨?_,?_⟩ | ((rw [zeg,show wake t N p={ p with alarm:=W (t.clock+p.wait) } from if_pos ⟨d1,d2⟩];refine Eq.symm (zdd (a:=A.map (wake t N)) (b:=B) ?_ ?_);all_goals first | rfl | (simp;done))) | exact z2))),by simp⟩
    case neg =>
     rw [show (p.alarm == 0)=false from beq_eq_false_iff_ne.2 d2]
     conv=>whnf
     refine zaj (a:=A.map (wake t N)) (b:=B) (s:=p) rfl (by simp) ?_;conv=>whnf
     by_cases d3:p.flight=0
     case pos =>
      rw [show (p.flight == 0)=true from beq_iff_eq.2 d3]
      refine zad rfl ?_;conv=>whnf
      repeat (refine hcut.go ?_;conv=>whnf)
      by_cases d4:N=t.cum
      case pos =>
       rw [show (N == t.cum)=true from beq_iff_eq.2 d4]
       conv=>whnf
       have d6:wake t N p={ p with alarm:=0 }:=by rw [wake,if_neg (fun h=>d2 h.2),if_pos ⟨d3,d4⟩]
       refine zaj (a:=A.map (wake t N)) (b:=B) (s:=p) rfl (by simp) ?_;conv=>whnf
       refine sF ?_
       exact ⟨⟨(A++[p],B),zae h⟩,(hle_X ((2,some 2) :: ((16,some 16) :: ((14,some 14) :: (pJ8 [])))) (by repeat' (first | exact z0 | refine z1 ?_ | refine ⟨?_,?_⟩ | ((rw [zeg,d6];refine Eq.symm (zdd (a:=A.map (wake t N)) (b:=B) ?_ ?_);all_goals first | rfl | (simp;done))) | exact z2))),by simp⟩
      case neg =>
       rw [show (N == t.cum)=false from beq_eq_false_iff_ne.2 d4]
       conv=>whnf
       have d6:wake t N p=p:=by rw [wake,if_neg (fun h=>d2 h.2),if_neg (fun h=>d4 h.2)]
       refine sF ?_
       exact ⟨⟨(A++[p],B),zae h⟩,(hle_X ((2,some 2) :: ((16,some 16) :: ((14,some 14) :: (pJ8 [])))) (by repeat' (first | exact z0 | refine z1 ?_ | refine ⟨?_,?_⟩ | ((exact zao (by rw [zeg,d6]))) | exact z2))),by simp⟩
     case neg =>
      rw [show (p.flight == 0)=false from beq_eq_false_iff_ne.2 d3]
      conv=>whnf
      have d6:wake t N p=p:=by rw [wake,if_neg (fun h=>d2 h.2),if_neg (fun h=>d3 h.1)]
      refine sF ?_
      exact ⟨⟨(A++[p],B),zae h⟩,(hle_X ((2,some 2) :: ((16,some 16) :: ((14,some 14) :: (pJ8 [])))) (by repeat' (first | exact z0 | refine z1 ?_ | refine ⟨?_,?_⟩ | ((exact zao (by rw [zeg,d6]))) | exact z2))),by simp⟩
   case neg =>
    rw [show decide (p.flight > 0)=false from decide_eq_false d1]
    conv=>whnf
    refine zaj (a:=A.map (wake t N)) (b:=B) (s:=p) rfl (by simp) ?_;conv=>whnf
    by_cases d3:p.flight=0
    case pos =>
     rw [show (p.flight == 0)=true from beq_iff_eq.2 d3]
     refine zad rfl ?_;conv=>whnf
     repeat (refine hcut.go ?_;conv=>whnf)
     by_cases d4:N=t.cum
     case pos =>
      rw [show (N == t.cum)=true from beq_iff_eq.2 d4]
      conv=>whnf
      have d6:wake t N p={ p with alarm:=0 }:=by rw [wake,if_neg (fun h=>d1 h.1),if_pos ⟨d3,d4⟩]
      refine zaj (a:=A.map (wake t N)) (b:=B) (s:=p) rfl (by simp) ?_;conv=>whnf
      refine sF ?_
      exact ⟨⟨(A++[p],B),zae h⟩,(hle_X ((2,some 2) :: ((16,some 16) :: ((14,some 14) :: (pJ8 [])))) (by repeat' (first | exact z0 | refine z1 ?_ | refine ⟨?_,?_⟩ | ((rw [zeg,d6];refine Eq.symm (zdd (a:=A.map (wake t N)) (b:=B) ?_ ?_);all_goals first | rfl | (simp;done))) | exact z2))),by simp⟩
     case neg =>
      rw [show (N == t.cum)=false from beq_eq_false_iff_ne.2 d4]
      conv=>whnf
      have d6:wake t N p=p:=by rw [wake,if_neg (fun h=>d1 h.1),if_neg (fun h=>d4 h.2)]
      refine sF ?_
      exact ⟨⟨(A++[p],B),zae h⟩,(hle_X ((2,some 2) :: ((16,some 16) :: ((14,some 14) :: (pJ8 [])))) (by repeat' (first | exact z0 | refine z1 ?_ | refine ⟨?_,?_⟩ | ((exact zao (by rw [zeg,d6]))) | exact z2))),by simp⟩
    case neg =>
     rw [show (p.flight == 0)=false from beq_eq_false_iff_ne.2 d3]
     conv=>whnf
     have d6:wake t N p=p:=by rw [wake,if_neg (fun h=>d1 h.1),if_neg (fun h=>d3 h.1)]
     refine sF ?_
     exact ⟨⟨(A++[p],B),zae h⟩,(hle_X ((2,some 2) :: ((16,some 16) :: ((14,some 14) :: (pJ8 [])))) (by repeat' (first | exact z0 | refine z1 ?_ | refine ⟨?_,?_⟩ | ((exact zao (by rw [zeg,d6]))) | exact z2))),by simp⟩
  | nil =>
   have hz:=zaz h
   rw [List.append_nil] at h
   refine sN ?_
   (refine zag [] [(1000,16),(1001,900),(1002,901),(1003,902),(1004,903),(1005,904),(1006,905),(1007,14),(1008,906),(1009,907)] [(0,970)] ?_;(conv=>whnf);refine dG (ztk { t with paths:=A.map (wake t N)++[] } a b (by show inI t.config.packet;rw [show t.config=s.config from k2.config];exact hm) (by omega) (by omega) km.2 kn.2) ?_)
   refine zga [3] ?_ ?_ ?_
   . kernel_rfl
   . refine ⟨?_,trivial⟩
     refine And.intro trivial ?_
     refine And.intro trivial ?_
     refine And.intro ?_ trivial
     conv=>whnf
     refine And.intro ?_ ?_
     . conv=>whnf
     refine And.intro ?_ trivial
     conv=>whnf
     all_goals first | rfl | trace_state
   conv=>whnf
   refine zau [(0,some 900),(1,some 901),(2,some 902),(3,some 903),(4,some 904),(5,some 905),(6,some 970)] rfl rfl trivial rfl rfl ⟨⟨rfl,.inl ⟨900,rfl,rfl⟩⟩,⟨rfl,.inl ⟨901,rfl,rfl⟩⟩,⟨rfl,.inl ⟨902,rfl,rfl⟩⟩,⟨rfl,.inl ⟨903,rfl,?_⟩⟩,⟨rfl,.inl ⟨904,rfl,rfl⟩⟩,⟨rfl,.inl ⟨905,rfl,rfl⟩⟩,⟨rfl,.inl ⟨970,rfl,?_⟩⟩,trivial⟩
   . exact zao (by rw [List.append_nil,woken,hN,h])
   . exact zao (by rw [show t.config=s.config from k2.config])
end Snd
end Go.HL
namespace Go.HL
open Go.Proofs
namespace Snd
open Ser
set_option maxHeartbeats 8000000
set_option maxRecDepth 100000
set_option linter.unusedSimpArgs false
theorem yhv (s:Sender) (h:PF 62 s) (hm:inI s.config.packet) (hp:s.paths.length=1 \/ s.paths.length=2) :
 FunOK Tryz.prog 39 [s.hv] zac (.tup [(pump s).1.hv,.p (.sl 3 ((pump s).2.map Packet.row))]) zac:=by
 rcases hp with hp | hp
 . refine zch Tryz.func39 (zzb s h hm hp) ?_
   generalize pump s=d
   conv=>whnf
   rfl
 . refine zch Tryz.func39 (zzc s h hm hp) ?_
   generalize pump s=d
   conv=>whnf
   rfl
theorem yhw (s:Sender) (hs:Fit s):FunOK Tryz.prog 33 [s.hv] zac s.hv zac:=by
 refine zch Tryz.func33 (zdb s hs) ?_
 conv=>whnf
 rfl
theorem yhx (s:Sender):FunOK Tryz.prog 38 [s.hv] zac (hbool (calm s)) zac:=by
 refine zah mixed Tryz.func38 (by decide) ?_
 conv=>whnf
 (repeat' (first | (refine zbc ?_;conv=>whnf) | (refine zaa ?_ ?_;(first | kernel_rfl | decide);conv=>whnf) | (refine zas ?_ ?_;kernel_rfl;conv=>whnf) | (refine hcut.go ?_;conv=>whnf) | (refine zaf (fun h=>?_) (fun h=>?_) <;> conv=>whnf)))
 all_goals try simp only [Bool.not_eq_true',Bool.not_eq_false',beq_iff_eq,beq_eq_false_iff_ne,decide_eq_true_eq,decide_eq_false_iff_not,List.length_map] at *
 . have h':s.queue.length=0:=by omega
   show hbool _=hbool _
   refine congrArg hbool ?_
   rw [Bool.eq_iff_iff];simp only [calm,h',beq_iff_eq,Bool.and_eq_true,decide_eq_true_eq,true_and,decide_true];omega
 . have h':s.queue.length ≠ 0:=by omega
   show hbool _=hbool _
   refine congrArg hbool ?_
   rw [calm,decide_eq_false h',Bool.false_and]
def wrgS (c:Config):Int :=
 if c.streams < 1 \/ c.streams > 4 \/ c.paths < 1 \/ c.paths > 2 \/ c.part < 1 \/ c.part > 16 \/ c.packet < 40 \/ c.packet > 120 \/ c.waiting < 1 \/ c.waiting > 12 \/ c.first < 0 \/ c.first >= 65536 then 3 else
 if (c).turns < 1 \/ (c).turns > 5 then 1 else 0
theorem zwe (c:Config):FunOK Tryz.prog 29 [c.hv] zac (i64 (wrgS c)) zac:=by
 refine zah mixed Tryz.func29 (by decide) ?_
 conv=>whnf
 (repeat' (first | (refine zbc ?_;conv=>whnf) | (refine zaa ?_ ?_;(first | kernel_rfl | decide);conv=>whnf) | (refine zas ?_ ?_;kernel_rfl;conv=>whnf) | (refine hcut.go ?_;conv=>whnf) | (refine zaf (fun h=>?_) (fun h=>?_) <;> conv=>whnf)))
 all_goals try simp only [Bool.not_eq_true',Bool.not_eq_false',beq_iff_eq,beq_eq_false_iff_ne,decide_eq_true_eq,decide_eq_false_iff_not] at *
 all_goals first | (simp only [wrgS];(repeat' split) <;> first | rfl | omega) | trace_state
end Snd
end Go.HL
namespace Go.HL
open Go.Proofs
namespace Snd
open Ser
set_option maxHeartbeats 8000000
set_option maxRecDepth 100000
set_option linter.unusedSimpArgs false
def sendR (s:Sender) (m:Message):Sender × Int × Int:=if zdo s m=0 then (sendS s m,(s.fates.length:Int),0) else (noS,0,zdo s m)
theorem zge {s:Sender} {m:Message} {e:Int} (h:zdo s m=e) (he:e ≠ 0):sendR s m=(noS,0,e):=by rw [sendR,h,if_neg he]
theorem zkh {s:Sender} {m:Message} (h:zdo s m=0):sendR s m=(sendS s m,(s.fates.length:Int),0):=by rw [sendR,if_pos h]
theorem yep (s:Sender) (m:Message) (hs:Fit s) (hd:m.data.length < 2 ^ 38) :
 FunOK Tryz.prog 31 [s.hv,m.hv] zac (.tup [sndO (sendR s m).1 0 1 2 3 4 5,i64 (sendR s m).2.1,i64 (sendR s m).2.2]) (lk .free (sndB (sendR s m).1 0 1 2 3 4 5 [])):=by
 have hs':=hs
 obtain ⟨h1,h2,h3,h4,h5,h6,h7⟩:=hs
 refine zal mixed Tryz.func31 (by decide) [] (fun _=>.inl rfl) ?_
 conv=>whnf
 (repeat' (first | (refine zbc ?_;conv=>whnf) | (refine zaa ?_ ?_;(first | kernel_rfl | decide);conv=>whnf) | (refine zas ?_ ?_;kernel_rfl;conv=>whnf) | (refine hcut.go ?_;conv=>whnf) | (refine zaf (fun h=>?_) (fun h=>?_) <;> conv=>whnf)))
 all_goals try simp only [Bool.not_eq_true',Bool.not_eq_false',beq_iff_eq,beq_eq_false_iff_ne,decide_eq_true_eq,decide_eq_false_iff_not,List.length_map] at *
 all_goals first
  | (rw [zge (e:=3) (by simp only [zdo];(repeat' split) <;> first | rfl | omega) (by decide)];exact zau [(0,none),(1,none),(2,none),(3,none),(4,none),(5,none)] rfl rfl trivial rfl rfl ⟨⟨rfl,.inr ⟨rfl,rfl⟩⟩,⟨rfl,.inr ⟨rfl,rfl⟩⟩,⟨rfl,.inr ⟨rfl,rfl⟩⟩,⟨rfl,.inr ⟨rfl,rfl⟩⟩,⟨rfl,.inr ⟨rfl,rfl⟩⟩,⟨rfl,.inr ⟨rfl,rfl⟩⟩,trivial⟩)
  | (rw [zge (e:=4) (by simp only [zdo];(repeat' split) <;> first | rfl | omega) (by decide)];exact zau [(0,none),(1,none),(2,none),(3,none),(4,none),(5,none)] rfl rfl trivial rfl rfl ⟨⟨rfl,.inr ⟨rfl,rfl⟩⟩,⟨rfl,.inr ⟨rfl,rfl⟩⟩,⟨rfl,.inr ⟨rfl,rfl⟩⟩,⟨rfl,.inr ⟨rfl,rfl⟩⟩,⟨rfl,.inr ⟨rfl,rfl⟩⟩,⟨rfl,.inr ⟨rfl,rfl⟩⟩,trivial⟩)
  | (rw [zge (e:=7) (by simp only [zdo];(repeat' split) <;> first | rfl | omega) (by decide)];exact zau [(0,none),(1,none),(2,none),(3,none),(4,none),(5,none)] rfl rfl trivial rfl rfl ⟨⟨rfl,.inr ⟨rfl,rfl⟩⟩,⟨rfl,.inr ⟨rfl,rfl⟩⟩,⟨rfl,.inr ⟨rfl,rfl⟩⟩,⟨rfl,.inr ⟨rfl,rfl⟩⟩,⟨rfl,.inr ⟨rfl,rfl⟩⟩,⟨rfl,.inr ⟨rfl,rfl⟩⟩,trivial⟩)
  | rw [zkh (by simp only [zdo];(repeat' split) <;> first | rfl | omega)]
 (refine zap [(0,20),(1,21),(2,22),(3,23),(4,24),(5,25)]  ?_;(conv=>whnf);refine dO (zdb s hs') ?_)
 (refine zap [(0,26)]  ?_;(conv=>whnf);refine dO (Cl.zcz m.data (by omega)) ?_)
 refine zaa (c:=((s.queue.map Queued.row).length+1) * 96 <= 140737488355328) (by simp;omega) ?_;conv=>whnf
 refine zaa (c:=((s.fates.map fun n=>[pi n]).length+1) * 8 <= 140737488355328) (by simp;omega) ?_;conv=>whnf
 refine zau [(0,some 80),(1,some 21),(2,some 22),(3,some 23),(4,some 24),(5,some 85)] rfl rfl trivial rfl (by rw [show (s.fates.length:Int)=((s.fates.map fun n=>[pi n]).length:Nat) by rw [List.length_map]];rfl) ⟨⟨rfl,.inl ⟨80,rfl,?_⟩⟩,⟨rfl,.inl ⟨21,rfl,rfl⟩⟩,⟨rfl,.inl ⟨22,rfl,rfl⟩⟩,⟨rfl,.inl ⟨23,rfl,rfl⟩⟩,⟨rfl,.inl ⟨24,rfl,rfl⟩⟩,⟨rfl,.inl ⟨85,rfl,?_⟩⟩,trivial⟩
 . exact zat (f:=Queued.row) rfl (by rw [List.length_map];rfl)
 . exact zat (f:=fun n:Int=>[pi n]) rfl rfl
theorem yhy (s:Sender) (m:Message) (hs:Fit s) (hd:m.data.length < 2 ^ 38) :
 FunOK Tryz.prog 31 [s.hv,m.hv] zac (.tup [(sendR s m).1.hv,i64 (sendR s m).2.1,i64 (sendR s m).2.2]) zac:=by
 refine zch Tryz.func31 (yep s m hs hd) ?_
 generalize sendR s m=d
 conv=>whnf
 rfl
end Snd
end Go.HL
namespace Go.HL
open Go.Proofs
namespace Snd
open Ser
set_option maxHeartbeats 8000000
set_option maxRecDepth 100000
set_option linter.unusedSimpArgs false
theorem zqr {l:List Sent} (i:Int) (h:Sco.Sized l):Sco.Sized (l.map (Sco.late i)):=⟨by simpa using h.len,by
 have:Sco.total (l.map (Sco.late i))=Sco.total l:=by
  simp only [Sco.total,List.map_map];congr 1;apply List.map_congr_left;intro x _;simp only [Function.comp,Sco.late];split <;> rfl
 rw [this];exact h.bytes⟩
def lateS (part:Int) (s:Sender) (i:Nat) (p:Path):Sender:={ s with out:=s.out.map (Sco.late i),paths:=s.paths.set i (Paths.late p part) }
theorem zio {part:Int} {s:Sender} {i:Nat} {p:Path} (hp:s.paths[i]?=some p) (h:p.alarm=0 \/ s.clock < p.alarm):late1 part s i=s:=by
 simp only [late1,hp];rw [if_pos h]
theorem ycc {part:Int} {s:Sender} {i:Nat} {p:Path} (hp:s.paths[i]?=some p) (h:¬ (p.alarm=0 \/ s.clock < p.alarm)):late1 part s i=if (Sco.point (lateS part s i p).out s.cum).1 > s.cum then { lateS part s i p with forward:=true } else lateS part s i p:=by
 simp only [late1,hp];rw [if_neg h];rfl
abbrev tkF (s t:Sender):List (Nat × HSlot):=(1,.live (.cells 32 (sndC s (Sch.qs s.queue) (ints s.sched.had) (Sco.sents s.out) (pths s.paths) (ints s.mids) (ints s.fates)))) :: (2,.live (.cells 32 zeroS)) :: (3,.live (.cells 32 (sndC t (.own 900) (.own 901) (.own 902) (.own 903) (.own 904) (.own 905)))) :: sndB t 900 901 902 903 904 905 []
theorem yeq (s:Sender) (hs:Fit s):FunOK Tryz.prog 36 [s.hv] zac (sndO (tick s) 0 1 2 3 4 5) (lk .free (sndB (tick s) 0 1 2 3 4 5 [])):=by
 have hs':=hs
 obtain ⟨h1,h2,h3,h4,h5,h6,h7⟩:=hs
 have hT:(List.range s.paths.length).foldl (late1 s.config.part) { s with clock:=W (s.clock+1) }=tick s:=rfl
 generalize tick s=T at hT ⊢
 refine zal mixed Tryz.func36 (by decide) [] (fun _=>.inl rfl) ?_
 conv=>whnf
 (refine zap [(0,20),(1,21),(2,22),(3,23),(4,24),(5,25)]  ?_;(conv=>whnf);refine dO (zdb s hs') ?_)
 refine sR ?_
 refine ⟨{ x:Nat × Sender // x.1 <= s.paths.length /\ (List.range x.1).foldl (late1 s.config.part) { s with clock:=W (s.clock+1) }=x.2 /\ Sco.Sized x.2.out /\ x.2.paths.length=s.paths.length },
  fun | ⟨(i,t),_⟩=>hs 61 [(1,.ptr 1 0),(2,.ptr 2 0),(3,.ptr 3 0),(15,.own 903),(16,i64 s.paths.length),(17,i64 i)] (tkF s t),fun x=>s.paths.length - x.1.1,⟨(0,{ s with clock:=W (s.clock+1) }),by dsimp only;omega,rfl,h3,rfl⟩,?_,?_⟩
 . exact (hle_Q [(1,some 1),(2,some 2),(3,some 3),(900,some 20),(901,some 21),(902,some 22),(903,some 23),(904,some 24),(905,some 25)])
 rintro ⟨⟨i,t⟩,k1,k2,k3,k4⟩
 dsimp only at k1 k2 k3 k4
 conv=>whnf
 by_cases hi:i < s.paths.length
 case neg =>
  have hin:i=s.paths.length:=by omega
  subst hin
  refine sN ?_
  rw [hT] at k2
  subst k2
  exact zau [(0,some 900),(1,some 901),(2,some 902),(3,some 903),(4,some 904),(5,some 905)] rfl rfl trivial rfl rfl ⟨⟨rfl,.inl ⟨900,rfl,rfl⟩⟩,⟨rfl,.inl ⟨901,rfl,rfl⟩⟩,⟨rfl,.inl ⟨902,rfl,rfl⟩⟩,⟨rfl,.inl ⟨903,rfl,rfl⟩⟩,⟨rfl,.inl ⟨904,rfl,rfl⟩⟩,⟨rfl,.inl ⟨905,rfl,rfl⟩⟩,trivial⟩
 case pos =>
  obtain ⟨p,hp⟩:∃ p,t.paths[i]?=some p:=⟨_,List.getElem?_eq_getElem (by omega)⟩
  have hst:=zfl (late1 s.config.part) { s with clock:=W (s.clock+1) } i
  rw [k2] at hst
  refine sT ?_
  refine sOm ?_
  refine zai hp rfl ?_;conv=>whnf
  by_cases c1:p.alarm=0
  case pos =>
   rw [show (p.alarm == 0)=true from beq_iff_eq.2 c1]
   conv=>whnf
   refine sF ?_
   exact ⟨⟨(i+1,t),by dsimp only;omega,by rw [hst,zio hp (.inl c1)],k3,k4⟩,(hle_X ((1,some 1) :: (2,some 2) :: (3,some 3) :: (pJ6 [])) (by repeat' (first | exact z0 | refine z1 ?_ | refine ⟨?_,?_⟩ | ((exact zbg om)) | exact z2))),by dsimp only;omega⟩
  case neg =>
   rw [show (p.alarm == 0)=false from beq_eq_false_iff_ne.2 c1]
   refine zab rfl ?_;conv=>whnf
   repeat (refine hcut.go ?_;conv=>whnf)
   by_cases c2:t.clock < p.alarm
   case pos =>
    rw [show decide (t.clock < p.alarm)=true from decide_eq_true c2]
    conv=>whnf
    refine sF ?_
    exact ⟨⟨(i+1,t),by dsimp only;omega,by rw [hst,zio hp (.inr c2)],k3,k4⟩,(hle_X ((1,some 1) :: (2,some 2) :: (3,some 3) :: (pJ6 [])) (by repeat' (first | exact z0 | refine z1 ?_ | refine ⟨?_,?_⟩ | ((exact zbg om)) | exact z2))),by dsimp only;omega⟩
   case neg =>
    rw [show decide (t.clock < p.alarm)=false from decide_eq_false c2]
    conv=>whnf
    have hgo:=ycc (part:=s.config.part) hp (fun h=>h.elim c1 c2)
    (refine zap [(0,35)]  ?_;(conv=>whnf);refine dO (Sco.zof t.out i k3) ?_)
    (refine cL ?_;refine dL (Paths.zof p s.config.part) ?_)
    refine zaa ⟨by omega,by rw [List.length_map];omega⟩ ?_;conv=>whnf
    refine zai hp rfl ?_;conv=>whnf
    refine sD ?_
    (refine zag [] [(1000,35)] [(0,51)] ?_;(conv=>whnf);refine dG (Sco.zdj (t.out.map (Sco.late i)) t.cum (by rw [List.length_map];exact k3.len)) ?_)
    have hsz:=zqr i k3
    by_cases c3:(Sco.point (t.out.map (Sco.late i)) t.cum).1 > t.cum
    case pos =>
     rw [if_pos (show (Sco.point (lateS s.config.part t i p).out t.cum).1 > t.cum from c3)] at hgo
     refine zad ?_ ?_
     . simpa using c3
     conv=>whnf
     refine sF ?_
     exact ⟨⟨(i+1,{ lateS s.config.part t i p with forward:=true }),by dsimp only;omega,by rw [hst,hgo],hsz,by show (t.paths.set i _).length=_;rw [List.length_set];exact k4⟩,(hle_X [(1,some 1),(2,some 2),(3,some 3),(900,some 900),(901,some 901),(902,some 35),(903,some 903),(904,some 904),(905,some 905)] (by repeat' (first | exact z0 | refine z1 ?_ | refine ⟨?_,?_⟩ | ((exact zbg om)) | ((exact (zdk rfl).symm)) | ((exact zdk rfl)) | exact z2))),by dsimp only;omega⟩
    case neg =>
     rw [if_neg (show ¬ (Sco.point (lateS s.config.part t i p).out t.cum).1 > t.cum from c3)] at hgo
     refine zab ?_ ?_
     . simpa using c3
     conv=>whnf
     refine sF ?_
     exact ⟨⟨(i+1,lateS s.config.part t i p),by dsimp only;omega,by rw [hst,hgo],hsz,by show (t.paths.set i _).length=_;rw [List.length_set];exact k4⟩,(hle_X [(1,some 1),(2,some 2),(3,some 3),(900,some 900),(901,some 901),(902,some 35),(903,some 903),(904,some 904),(905,some 905)] (by repeat' (first | exact z0 | refine z1 ?_ | refine ⟨?_,?_⟩ | ((exact zbg om)) | ((exact (zdk rfl).symm)) | ((exact zdk rfl)) | exact z2))),by dsimp only;omega⟩
theorem yhz (s:Sender) (hs:Fit s):FunOK Tryz.prog 36 [s.hv] zac (tick s).hv zac:=by
 refine zch Tryz.func36 (yeq s hs) ?_
 generalize tick s=d
 conv=>whnf
 rfl
end Snd
end Go.HL
namespace Go.HL
open Go.Proofs
namespace Snd
open Ser
set_option maxHeartbeats 8000000
set_option maxRecDepth 100000
set_option linter.unusedSimpArgs false
def newP (c:Config):Sender × Int:=if wrgS c=0 then (newS c,0) else (noS,wrgS c)
theorem yia (n:Int) (hb:n < 2 ^ 40):FunOK Tryz.prog 66 [i64 n] zac (.agg [i64 (Sch.new n).last,i64 (Sch.new n).hand,.own 0]) (lk .free [(0,rowT (Sch.new n).had)]):=by
 refine zal mixed Tryz.func66 (by decide) [] (fun _=>.inl rfl) ?_
 conv=>whnf
 refine zbc ?_;conv=>whnf
 refine zaa (c:=0 <= (if 0 > n then 0 else n) /\ (if 0 > n then 0 else n)=(if 0 > n then 0 else n) /\ (if 0 > n then 0 else n) * 8 <= 140737488355328) (by omega) ?_
 conv=>whnf
 refine zau [(0,some 7)] rfl rfl trivial rfl rfl ⟨⟨rfl,.inl ⟨7,rfl,?_⟩⟩,trivial⟩
 have e:(if 0 > n then 0 else n)=max n 0:=by omega
 refine zao ?_
 rw [show (Sch.new n).had=List.replicate (max n 0).toNat 0 from rfl,List.map_replicate,<- e];rfl
theorem yib (c:Config):FunOK Tryz.prog 26 [c.hv] zac (.tup [sndO (newP c).1 0 1 2 3 4 5,i64 (newP c).2]) (lk .free (sndB (newP c).1 0 1 2 3 4 5 [])):=by
 refine zal mixed Tryz.func26 (by decide) [] (fun _=>.inl rfl) ?_
 conv=>whnf
 (refine cP ?_;refine dL (zwe c) ?_)
 by_cases c0:wrgS c=0
 case neg =>
  rw [newP,if_neg c0]
  refine zad ?_ ?_
  . simpa using c0
  conv=>whnf
  refine zau [(0,none),(1,none),(2,none),(3,none),(4,none),(5,none)] rfl rfl trivial rfl rfl ⟨⟨rfl,.inr ⟨rfl,rfl⟩⟩,⟨rfl,.inr ⟨rfl,rfl⟩⟩,⟨rfl,.inr ⟨rfl,rfl⟩⟩,⟨rfl,.inr ⟨rfl,rfl⟩⟩,⟨rfl,.inr ⟨rfl,rfl⟩⟩,⟨rfl,.inr ⟨rfl,rfl⟩⟩,trivial⟩
 case pos =>
  rw [newP,if_pos c0]
  refine zab ?_ ?_
  . simpa using c0
  conv=>whnf
  repeat (refine hcut.go ?_;conv=>whnf)
  have hb:1 <= c.streams /\ c.streams <= 4 /\ 1 <= c.paths /\ c.paths <= 2 /\ 0 <= c.first /\ c.first < 65536:=by
   unfold wrgS at c0
   split at c0
   . cases c0
   . omega
  obtain ⟨b1,b2,b3,b4,b5,b6⟩:=hb
  (refine zap [(0,15)]  ?_;(conv=>whnf);refine dO (yia c.streams (by omega)) ?_)
  refine zan (z:=c.first - 1) (W_fit (by omega) (by omega)) ?_;conv=>whnf
  refine zan (z:=2 * c.streams) (W_fit (by omega) (by omega)) ?_;conv=>whnf
  refine zaa (c:=0 <= 2 * c.streams /\ 2 * c.streams=2 * c.streams /\ 2 * c.streams * (8:Nat) <= 140737488355328) ⟨by omega,rfl,by omega⟩ ?_;conv=>whnf
  refine zan (z:=c.first - 1) (W_fit (by omega) (by omega)) ?_;conv=>whnf
  refine sD ?_
  have hnn:(2 * c.streams).toNat=(2 * c.streams).toNat:=rfl
  refine ⟨{ i:Nat // (i:Int) <= c.paths },fun | ⟨i,_⟩=>hs 43 [(1,.ptr 1 0),(2,.ptr 2 0),(3,i64 0),(5,.ptr 5 0),(30,i64 c.paths),(31,i64 i)] [(1,.live (.cells 24 [i64 c.streams,i64 c.part,i64 c.packet,i64 c.paths,i64 (c).turns,i64 c.waiting,i64 c.first])),(2,.live (.cells 32 zeroS)),(5,.live (.cells 32 (sndC (newS c) hnil (.own 901) hnil (.own 900) (.own 902) hnil))),(900,rowW (List.replicate i (Paths.new c.part))),(901,rowT (Sch.new c.streams).had),(902,rowT (List.replicate (2 * c.streams).toNat 0))],fun i=>c.paths.toNat - i.1,⟨0,by omega⟩,?_,?_⟩
  . exact (hle_X [(1,some 1),(2,some 2),(5,some 5),(900,none),(901,some 15),(902,some 24)] (by repeat' (first | exact z0 | refine z1 ?_ | refine ⟨?_,?_⟩ | ((exact zao (by rw [List.map_replicate];rfl))) | exact z2)))
  rintro ⟨i,k1⟩
  conv=>whnf
  by_cases hi:(i:Int) < c.paths
  case pos =>
   refine sT ?_
   (refine cL ?_;refine dL (Paths.zsq c.part) ?_)
   refine zaa (c:=(((List.replicate i (Paths.new c.part)).map Path.row).length+1) * 56 <= 140737488355328) (by simp;omega) ?_;conv=>whnf
   refine sD ?_
   refine sF ?_
   exact ⟨⟨i+1,by omega⟩,(hle_X [(1,some 1),(2,some 2),(5,some 5),(900,some 39),(901,some 901),(902,some 902)] (by repeat' (first | exact z0 | refine z1 ?_ | refine ⟨?_,?_⟩ | ((exact zat (f:=Path.row) List.replicate_succ' rfl)) | exact z2))),by dsimp only;omega⟩
  case neg =>
   refine sN ?_
   have hin:c.paths.toNat=i:=by omega
   refine zau [(0,none),(1,some 901),(2,none),(3,some 900),(4,some 902),(5,none)] rfl rfl trivial rfl rfl ⟨⟨rfl,.inr ⟨rfl,rfl⟩⟩,⟨rfl,.inl ⟨901,rfl,rfl⟩⟩,⟨rfl,.inr ⟨rfl,rfl⟩⟩,⟨rfl,.inl ⟨900,rfl,?_⟩⟩,⟨rfl,.inl ⟨902,rfl,rfl⟩⟩,⟨rfl,.inr ⟨rfl,rfl⟩⟩,trivial⟩
   exact zao (by rw [newS,hin])
theorem zsq (c:Config):FunOK Tryz.prog 26 [c.hv] zac (.tup [(newP c).1.hv,i64 (newP c).2]) zac:=by
 refine zch Tryz.func26 (yib c) ?_
 generalize newP c=d
 conv=>whnf
 rfl
end Snd
end Go.HL
namespace Go.HL
open Go.Proofs
namespace Snd
open Ser
set_option maxHeartbeats 8000000
set_option maxRecDepth 100000
set_option linter.unusedSimpArgs false
theorem zpl {g:FuncId} {c1:List PV} {p:Queued -> Bool} (hg:∀ m:Queued,FunOK Tryz.prog g [m.hv,.rp c1] zac (hbool (p m)) zac) (q:List Queued) (hb:q.length < 2 ^ 62) :
 FunOK Tryz.prog 158 [.p (.sl 10 (q.map Queued.row)),.clo g [.rp c1]] zac (i64 (zbm p 0 q)) zac:=by
 refine zah mixed Tryz.func158 (by decide) ?_
 conv=>whnf
 refine ⟨{ k:Nat // k <= q.length /\ zbm p k (q.drop k)=zbm p 0 q },fun | ⟨k,_⟩=>hs 19 [(0,.p (.sl 10 (q.map Queued.row))),(1,.clo g [.rp c1]),(7,i64 (q.map Queued.row).length),(8,i64 k)] [],fun k=>q.length - k.1,⟨0,by simp⟩,?_,?_⟩
 . exact (hle_Q [])
 . rintro ⟨k,hk,hi⟩
   conv=>whnf
   refine zaf (fun h=>?_) (fun h=>?_)
   . have hlt:k < q.length:=by simpa using h
     conv=>whnf
     refine zbq (r:=(q[k]).row) (by simp) (by simp [hlt]) ?_
     conv=>whnf
     refine zeo ?_;conv=>whnf
     refine ⟨_,hg q[k],rfl,?_⟩;conv=>whnf
     rw [List.drop_eq_getElem_cons hlt] at hi
     simp only [zbm] at hi
     refine zaf (fun h=>?_) (fun h=>?_)
     . conv=>whnf
       rw [if_pos h] at hi
       rw [<- hi]
     . conv=>whnf
       rw [if_neg (by rw [h];decide)] at hi
       refine zan (W_fit (by omega) (by omega)) ?_
       conv=>whnf
       exact ⟨⟨k+1,hlt,hi⟩,(hle_Q []),by dsimp only;omega⟩
   . conv=>whnf
     have hge:q.length <= k:=by simpa using h
     rw [List.drop_eq_nil_of_le hge] at hi
     rw [<- hi];rfl
theorem yer {g:FuncId} {c1:List PV} {p:Queued -> Bool} (hg:∀ m:Queued,FunOK Tryz.prog g [m.hv,.rp c1] zac (hbool (p m)) zac) (q:List Queued) (hb:q.length < 2 ^ 62) :
 FunOK Tryz.prog 124 [.p (.sl 10 (q.map Queued.row)),.clo g [.rp c1]] zac (hbool (q.any p)) zac:=by
 refine zah mixed Tryz.func124 (by decide) ?_
 conv=>whnf
 (refine cL ?_;refine dL (zpl hg q hb) ?_)
 rw [zsr q 0]
theorem zwf {g:FuncId} {c1:List PV} {p:Sent -> Bool} (hg:∀ m:Sent,FunOK Tryz.prog g [m.hv,.rp c1] zac (hbool (p m)) zac) (q:List Sent) (hb:q.length < 2 ^ 62) :
 FunOK Tryz.prog 159 [.p (.sl 20 (q.map Sent.row)),.clo g [.rp c1]] zac (i64 (zbm p 0 q)) zac:=by
 refine zah mixed Tryz.func159 (by decide) ?_
 conv=>whnf
 refine ⟨{ k:Nat // k <= q.length /\ zbm p k (q.drop k)=zbm p 0 q },fun | ⟨k,_⟩=>hs 19 [(0,.p (.sl 20 (q.map Sent.row))),(1,.clo g [.rp c1]),(7,i64 (q.map Sent.row).length),(8,i64 k)] [],fun k=>q.length - k.1,⟨0,by simp⟩,?_,?_⟩
 . exact (hle_Q [])
 . rintro ⟨k,hk,hi⟩
   conv=>whnf
   refine zaf (fun h=>?_) (fun h=>?_)
   . have hlt:k < q.length:=by simpa using h
     conv=>whnf
     refine zbq (r:=(q[k]).row) (by simp) (by simp [hlt]) ?_
     conv=>whnf
     refine zeo ?_;conv=>whnf
     refine ⟨_,hg q[k],rfl,?_⟩;conv=>whnf
     rw [List.drop_eq_getElem_cons hlt] at hi
     simp only [zbm] at hi
     refine zaf (fun h=>?_) (fun h=>?_)
     . conv=>whnf
       rw [if_pos h] at hi
       rw [<- hi]
     . conv=>whnf
       rw [if_neg (by rw [h];decide)] at hi
       refine zan (W_fit (by omega) (by omega)) ?_
       conv=>whnf
       exact ⟨⟨k+1,hlt,hi⟩,(hle_Q []),by dsimp only;omega⟩
   . conv=>whnf
     have hge:q.length <= k:=by simpa using h
     rw [List.drop_eq_nil_of_le hge] at hi
     rw [<- hi];rfl
theorem ylx {g:FuncId} {c1:List PV} {p:Sent -> Bool} (hg:∀ m:Sent,FunOK Tryz.prog g [m.hv,.rp c1] zac (hbool (p m)) zac) (q:List Sent) (hb:q.length < 2 ^ 62) :
 FunOK Tryz.prog 126 [.p (.sl 20 (q.map Sent.row)),.clo g [.rp c1]] zac (hbool (q.any p)) zac:=by
 refine zah mixed Tryz.func126 (by decide) ?_
 conv=>whnf
 (refine cL ?_;refine dL (zwf hg q hb) ?_)
 rw [zsr q 0]
theorem yic (id:Int) (m:Queued):FunOK Tryz.prog 125 [m.hv,.rp [pi id]] zac (hbool (decide (m.id=id))) zac:=by
 refine zah mixed Tryz.func125 (by decide) ?_
 conv=>whnf
 try rfl
theorem yid (id:Int) (x:Sent):FunOK Tryz.prog 127 [x.hv,.rp [pi id]] zac (hbool (decide (x.id=id) && decide (x.state ≠ 2))) zac:=by
 refine zah mixed Tryz.func127 (by decide) ?_
 conv=>whnf
 (repeat' (first | (refine zbc ?_;conv=>whnf) | (refine zaa ?_ ?_;(first | kernel_rfl | decide);conv=>whnf) | (refine zas ?_ ?_;kernel_rfl;conv=>whnf) | (refine hcut.go ?_;conv=>whnf) | (refine zaf (fun h=>?_) (fun h=>?_) <;> conv=>whnf)))
 all_goals try simp only [Bool.not_eq_true',Bool.not_eq_false',beq_iff_eq,beq_eq_false_iff_ne,decide_eq_true_eq,decide_eq_false_iff_not] at *
 . show hbool _=hbool _
   refine congrArg hbool ?_
   rw [Bool.eq_iff_iff];simp [*]
 . show hbool _=hbool _
   refine congrArg hbool ?_
   rw [Bool.eq_iff_iff];simp [*]
theorem ztm {α β:Type} (f:Nat -> α -> β) (A:List α) (p:α) (B:List β):(A++[p]).mapIdx f++B=A.mapIdx f++f A.length p :: B:=by
 rw [List.mapIdx_concat];simp
theorem zdl (s:Sender)  (hs:Fit s):FunOK Tryz.prog 82 [.ptr 1000 0] (lk .free (pH0 s )) (.tup []) (lk .free (pD0 (settle s) )):=by
 obtain ⟨h1,h2,h3,h4,h5,h6,h7⟩:=hs
 refine zal mixed Tryz.func82 (by decide) [1000,1001,1002,1003,1004,1005,1006] zbn ?_
 conv=>whnf
 refine ⟨{ x:List Int × List Int // s.fates=x.1++x.2 },fun | ⟨(A,B),_⟩=>hsP [1000,1001,1002,1003,1004,1005,1006] 41 [(0,.ptr 1000 0),(7,.own 1006),(8,i64 s.fates.length),(9,i64 A.length)] (pH0 { s with fates:=A.mapIdx (settled s)++B } ),fun x=>x.1.2.length,⟨([],s.fates),rfl⟩,?_,?_⟩
 . exact (hle_Y (pK7 []) (by repeat' (first | exact z0 | refine z1 ?_ | refine ⟨?_,?_⟩ | ((exact zbg om)) | exact z2)))
 rintro ⟨⟨A,B⟩,h⟩
 dsimp only at h
 conv=>whnf
 cases B with
 | cons f B =>
  have hz:=zar h
  refine sT ?_
  refine sOm ?_
  refine zaj (f:=fun n:Int=>[pi n]) (a:=A.mapIdx (settled s)) (b:=B) (s:=f) rfl (by simp) ?_;conv=>whnf
  by_cases c1:f=1
  case neg =>
   rw [show (f == 1)=false from beq_eq_false_iff_ne.2 c1]
   conv=>whnf
   refine sF ?_
   exact ⟨⟨(A++[f],B),zae h⟩,(hle_Y (pK7 []) (by repeat' (first | exact z0 | refine z1 ?_ | refine ⟨?_,?_⟩ | ((exact zao (by rw [ztm,settled,if_neg (fun h=>c1 h.1)]))) | exact z2))),by simp⟩
  case pos =>
   rw [show (f == 1)=true from beq_iff_eq.2 c1]
   refine zad rfl ?_;conv=>whnf
   (refine cL ?_;refine dL (yer (fun m=>yic (A.length:Int) m) s.queue (by omega)) ?_)
   cases c2:(s.queue.any fun m=>decide (m.id=(A.length:Int))) with
   | true =>
    conv=>whnf
    try (refine zab rfl ?_;conv=>whnf)
    conv=>whnf
    refine sF ?_
    exact ⟨⟨(A++[f],B),zae h⟩,(hle_Y (pK7 []) (by repeat' (first | exact z0 | refine z1 ?_ | refine ⟨?_,?_⟩ | ((exact zao (by rw [ztm,settled,if_neg (fun h=>absurd (c2.symm.trans h.2.1) (by decide))]))) | exact z2))),by simp⟩
   | false =>
    conv=>whnf
    try (refine zad rfl ?_;conv=>whnf)
    repeat (refine hcut.go ?_;conv=>whnf)
    (refine cL ?_;refine dL (ylx (fun x=>yid (A.length:Int) x) s.out (by have:=h3.len;omega)) ?_)
    cases c3:(s.out.any fun x=>decide (x.id=(A.length:Int)) && decide (x.state ≠ 2)) with
    | true =>
     conv=>whnf
     refine sF ?_
     exact ⟨⟨(A++[f],B),zae h⟩,(hle_Y (pK7 []) (by repeat' (first | exact z0 | refine z1 ?_ | refine ⟨?_,?_⟩ | ((exact zao (by rw [ztm,settled,if_neg (fun h=>absurd (c3.symm.trans h.2.2) (by decide))]))) | exact z2))),by simp⟩
    | false =>
     conv=>whnf
     refine sOm ?_
     refine zaj (f:=fun n:Int=>[pi n]) (a:=A.mapIdx (settled s)) (b:=B) (s:=f) rfl (by simp) ?_;conv=>whnf
     refine sD ?_
     refine sF ?_
     exact ⟨⟨(A++[f],B),zae h⟩,(hle_Y (pK7 []) (by repeat' (first | exact z0 | refine z1 ?_ | refine ⟨?_,?_⟩ | ((rw [ztm,settled,if_pos ⟨c1,c2,c3⟩];refine Eq.symm (zdd (f:=fun n:Int=>[pi n]) (a:=A.mapIdx (settled s)) (b:=B) ?_ ?_);all_goals first | rfl | (simp;done))) | exact z2))),by simp⟩
 | nil =>
  have hz:=zaz h
  rw [List.append_nil] at h
  refine sN ?_
  (exact zbz (pK7 [(0,some 1001),(1,some 1002),(2,some 1003),(3,some 1004),(4,some 1005),(5,some 1006)]) (by repeat' (first | exact z0 | refine z1 ?_ | refine ⟨?_,?_⟩ | ((exact zao (by rw [settle,h,List.append_nil]))) | exact z2)))
end Snd
end Go.HL
namespace Go.HL
open Go.Proofs
namespace Sco
open Ser
set_option maxHeartbeats 2000000
set_option maxRecDepth 100000
set_option linter.unusedSimpArgs false
theorem yet (l:List Sent) (cum:Int) (c:Chunk) (paths:Int) (hl:Sized l) (hr:Right l cum paths) (hsp:c.spans.length < 2 ^ 60) :
 FunOK Tryz.prog 75 [sents l,i64 cum,c.hv,i64 paths] zac (.tup [.own 0,i64 (sack l cum c paths).2.1,.own 1,.own 2]) (lk .free [(0,sentB (sack l cum c paths).1),(1,intB (sack l cum c paths).2.2.1),(2,intB (sack l cum c paths).2.2.2)]):=by
 have hl1:=hl.len
 have hp0:=hr.p0
 have hp1:=hr.p1
 have hc0:=hr.c0
 have hc1:=hr.c1
 refine zal mixed Tryz.func75 (by decide) [] (fun _=>.inl rfl) ?_
 have hn:=zhp (a:=cum) (t:=c.tag) (by omega) (by omega)
 rw [sack]
 generalize hN:near cum c.tag=n at hn ⊢
 conv=>whnf
 refine zaa (c:=0 <= (if 0 > paths then 0 else paths) /\ (if 0 > paths then 0 else paths)=(if 0 > paths then 0 else paths) /\ (if 0 > paths then 0 else paths) * 8 <= 140737488355328) (by omega) ?_
 conv=>whnf
 (refine cL ?_;refine dLm (zoh _ _) ?_)
 rw [hN]
 conv=>whnf
 refine hcut.meet PUnit (fun _=>hs 165 [(0,sents l),(1,i64 cum),(6,.ptr 6 0),(8,hnil),(10,.own 900),(11,hnil),(12,i64 n),(13,i64 (cum+l.length))] [(6,.live (.cells 61 c.cells)),(900,intB (List.replicate paths.toNat 0))]) ?_ ?_
 . have e21:HSlot.live (.row 3 1 (List.replicate (if 0 > paths then 0 else paths).toNat [pi 0]))=intB (List.replicate paths.toNat 0):=by
    rw [if_neg (by omega),intB,List.map_replicate]
   conv=>whnf
   refine zaf (fun c1=>?_) (fun c1=>?_)
   . have c1:0 < l.length:=by simpa using c1
     have e1:=hr.rise (l.length - 1) (l[l.length - 1]) (List.getElem?_eq_getElem (by omega))
     conv=>whnf
     refine sF ?_
     refine zbj (l.length - 1) (by simp;omega) (by omega) ?_
     conv=>whnf
     exact ⟨⟨⟩,(hle_X [(6,some 6),(900,some 21)] (by repeat' (first | exact z0 | refine z1 ?_ | refine ⟨?_,?_⟩ | (exact zbg (by omega)) | (exact e21) | exact z2)))⟩
   . have c1:l.length=0:=by simpa using c1
     conv=>whnf
     exact ⟨⟨⟩,(hle_X [(6,some 6),(900,some 21)] (by repeat' (first | exact z0 | refine z1 ?_ | refine ⟨?_,?_⟩ | (exact zbg (by omega)) | (exact e21) | exact z2)))⟩
 rintro ⟨⟩
 conv=>whnf
 by_cases k1:n < cum \/ n > cum+l.length
 . rw [if_pos k1]
   by_cases k2:n < cum
   . refine sT ?_
     (refine zap [(0,46)]  ?_;(conv=>whnf);refine dO (zdb l hl) ?_)
     exact zau [(0,some 46),(1,some 900),(2,none)] rfl rfl trivial rfl rfl ⟨⟨rfl,.inl ⟨46,rfl,rfl⟩⟩,⟨rfl,.inl ⟨900,rfl,rfl⟩⟩,⟨rfl,.inr ⟨rfl,rfl⟩⟩,trivial⟩
   . refine sN ?_
     refine sT ?_
     (refine zap [(0,46)]  ?_;(conv=>whnf);refine dO (zdb l hl) ?_)
     exact zau [(0,some 46),(1,some 900),(2,none)] rfl rfl trivial rfl rfl ⟨⟨rfl,.inl ⟨46,rfl,rfl⟩⟩,⟨rfl,.inl ⟨900,rfl,rfl⟩⟩,⟨rfl,.inr ⟨rfl,rfl⟩⟩,trivial⟩
 . rw [if_neg k1]
   refine sN ?_
   refine sN ?_
   (refine zap [(0,50)]  ?_;(conv=>whnf);refine dO (zdb l hl) ?_)
   refine ⟨{ x:List Sent × List Sent × List Sent × List Int × Int // SI l c n paths.toNat cum x },fun | ⟨(a,b,out,come,high),_⟩=>hs 165 [(6,.ptr 6 0),(8,.own 901),(10,.own 900),(11,hnil),(12,i64 n),(14,i64 high),(50,.own 902),(51,i64 l.length),(52,i64 a.length)] [(6,.live (.cells 61 c.cells)),(900,intB come),(901,sentB out),(902,sentB l)],fun x=>x.1.2.1.length,⟨([],l,[],List.replicate paths.toNat 0,0),rfl,rfl,rfl,rfl,Int.le_refl _,by dsimp only;simp;omega⟩,?_,?_⟩
   . exact (hle_Q [(6,some 6),(900,some 900),(901,none),(902,some 50)])
   rintro ⟨⟨a,b,out,come,high⟩,hi⟩
   have h:=hi.split
   dsimp only at h
   cases b with
   | nil =>
    have hz:=zaz h
    obtain ⟨h1,h2,h3,h4,h5,h6⟩:=hi
    dsimp only at h1 h2 h3 h4 h5 h6
    rw [List.append_nil] at h1
    subst h1
    rw [<- h3,<- h4,<- h2]
    have hlen:out.length <= l.length:=by rw [h2,left,List.length_map];exact List.length_filter_le _ _
    conv=>whnf
    refine sN ?_
    refine ⟨{ x:List Sent × List Sent // out=x.1++x.2 },fun | ⟨(a,b),_⟩=>hs 165 [(8,.own 901),(10,.own 900),(11,.own 903),(12,i64 n),(14,i64 high),(118,i64 out.length),(119,i64 a.length)] [(900,intB come),(901,sentB (a.map (age high)++b)),(903,intB (lost high a))],fun x=>x.1.2.length,⟨([],out),rfl⟩,?_,?_⟩
    . exact (hle_Q [(900,some 900),(901,some 901),(903,none)])
    rintro ⟨⟨a,b⟩,h⟩
    dsimp only at h
    cases b with
    | nil =>
     have hz:=zaz h
     rw [List.append_nil] at h
     subst h
     conv=>whnf
     refine sN ?_
     exact zau [(0,some 901),(1,some 900),(2,some 903)] rfl rfl trivial rfl rfl ⟨⟨rfl,.inl ⟨901,rfl,by exact zao (by rw [List.append_nil])⟩⟩,⟨rfl,.inl ⟨900,rfl,rfl⟩⟩,⟨rfl,.inl ⟨903,rfl,rfl⟩⟩,trivial⟩
    | cons s b =>
     have hz:=zar h
     have ea:(a++[s]).map (age high)++b=a.map (age high)++age high s :: b:=by simp
     have el:lost high (a++[s])=lost high a++lost high [s]:=by simp [lost]
     have hln:(lost high a).length <= a.length:=by rw [lost,List.length_map];exact List.length_filter_le _ _
     conv=>whnf
     refine sT ?_
     (try (refine hcut.go ?_;conv=>whnf))
     refine sO ?_
     refine zaj (a:=a.map (age high)) (b:=b) (s:=s) rfl (by simp) ?_;conv=>whnf
     by_cases c1:s.state=1
     . refine sN ?_
       refine zaj (a:=a.map (age high)) (b:=b) (s:=s) rfl (by simp) ?_;conv=>whnf
       by_cases c2:s.number < high
       . refine sN ?_
         refine zaj (a:=a.map (age high)) (b:=b) (s:=s) rfl (by simp) ?_;conv=>whnf
         refine sR ?_
         refine zaj (a:=a.map (age high)) (b:=b) (s:=s) rfl (by simp) ?_;conv=>whnf
         refine zbe (by simp) (by simp) ?_;conv=>whnf
         by_cases c3:W (s.missed+1) >= 3
         . have e1:age high s={ s with missed:=W (s.missed+1),state:=3 }:=by rw [age,if_pos ⟨c1,c2⟩,if_pos c3]
           have e2:lost high [s]=[s.number]:=by simp [lost,c1,c2,c3]
           refine sT ?_
           refine zbe (by simp) (by simp) ?_;conv=>whnf
           refine zbe (by simp) (by simp) ?_;conv=>whnf
           refine zaa (c:=(((lost high a).map fun n=>[pi n]).length+1) * 8 <= 140737488355328) (by rw [List.length_map];omega) ?_;conv=>whnf
           refine sF ?_
           exact ⟨⟨(a++[s],b),zae h⟩,(hle_X [(900,some 900),(901,some 901),(903,some 159)] (by repeat' (first | exact z0 | refine z1 ?_ | refine ⟨?_,?_⟩ | ((rw [ea];exact (yln (by simp) (by rw [e1];rfl)).symm)) | ((rw [el,e2];exact (zcv (f:=fun n=>[pi n]) rfl).symm)) | exact z2))),by simp⟩
         . have e1:age high s={ s with missed:=W (s.missed+1) }:=by rw [age,if_pos ⟨c1,c2⟩,if_neg c3]
           have e2:lost high [s]=[]:=by simp [lost,c1,c2,c3]
           refine sN ?_
           refine sF ?_
           exact ⟨⟨(a++[s],b),zae h⟩,(hle_X [(900,some 900),(901,some 901),(903,some 903)] (by repeat' (first | exact z0 | refine z1 ?_ | refine ⟨?_,?_⟩ | ((rw [ea];exact (zdd (by simp) (by rw [e1];rfl)).symm)) | ((rw [el,e2,List.append_nil];rfl)) | exact z2))),by simp⟩
       . have e1:age high s=s:=by rw [age,if_neg fun h=>c2 h.2]
         have e2:lost high [s]=[]:=by simp [lost,c2]
         refine sT ?_
         refine sF ?_
         exact ⟨⟨(a++[s],b),zae h⟩,(hle_X [(900,some 900),(901,some 901),(903,some 903)] (by repeat' (first | exact z0 | refine z1 ?_ | refine ⟨?_,?_⟩ | ((rw [ea,e1];rfl)) | ((rw [el,e2,List.append_nil];rfl)) | exact z2))),by simp⟩
     . have e1:age high s=s:=by rw [age,if_neg fun h=>c1 h.1]
       have e2:lost high [s]=[]:=by simp [lost,c1]
       refine sT ?_
       refine sF ?_
       exact ⟨⟨(a++[s],b),zae h⟩,(hle_X [(900,some 900),(901,some 901),(903,some 903)] (by repeat' (first | exact z0 | refine z1 ?_ | refine ⟨?_,?_⟩ | ((rw [ea,e1];rfl)) | ((rw [el,e2,List.append_nil];rfl)) | exact z2))),by simp⟩
   | cons s b =>
    have hz:=zar h
    obtain ⟨hnum,hpa0,hpa1⟩:=hr.at h
    have hnx:=hi.next hnum hc0
    have hhi:=hi.h1
    have hh0:=hi.h0
    have hcl:=hi.come
    have hol:out.length <= a.length:=by have:=hi.out;dsimp only at this;rw [this,left,List.length_map];exact List.length_filter_le _ _
    dsimp only at hhi hh0 hcl
    have hcl:come.length=paths.toNat:=by rw [hcl,zij]
    have hby:=hl.bytes
    rw [h,zfa,zeb] at hby
    conv=>whnf
    refine sT ?_
    refine sO ?_
    refine zaj h rfl ?_;conv=>whnf
    by_cases g:s.number > n
    . refine sT ?_
      refine sR ?_
      (refine cL ?_;refine dL (yls c.spans _ (by omega)) ?_)
      by_cases hh:has c.spans (W (s.number - n))=true
      . have hk:here c n s=true:=by rw [here,hh];simp
        refine sN ?_
        have eA:HSlot.live (.row 3 1 ((come.map fun n=>[pi n]).set s.path.toNat [pi (W (come[s.path.toNat]'(by omega)+((s.chunk.data.map bRow).length:Int)))]))=intB (addAt come s.path s.chunk.data.length):=by
         rw [addAt,intB,List.map_set,List.getElem?_eq_getElem (by omega),Option.getD_some,List.length_map]
        by_cases q:s.state=1 \/ s.state=3
        . have hcm:comes c n s=true:=by rw [comes,hk,Bool.true_and];rcases q with q | q <;> rw [q] <;> rfl
          rw [if_pos g,come1,if_pos hcm,high1,if_pos hcm,turn,if_pos hcm] at hnx
          have emx:(if s.number > high then s.number else high)=s.number:=by split <;> omega
          by_cases q1:s.state=1
          . refine sT ?_
            (repeat' (first | refine sT ?_ | refine sN ?_))
            refine sO ?_
            refine zbj s.path.toNat (by omega) (by omega) ?_;conv=>whnf
            refine sR ?_
            refine sO ?_
            refine zbj s.path.toNat (by omega) (by omega) ?_;conv=>whnf
            refine sD ?_
            refine sT ?_
            refine zaa (c:=((out.map Sent.row).length+1) * 200 <= 140737488355328) om ?_;conv=>whnf
            refine sF ?_
            exact ⟨⟨_,hnx⟩,(hle_X [(6,some 6),(900,some 900),(901,some 115),(902,some 902)] (by repeat' (first | exact z0 | refine z1 ?_ | refine ⟨?_,?_⟩ | (exact (zcv (f:=Sent.row) rfl).symm) | (exact eA) | (exact zbg emx.symm) | exact z2))),by simp⟩
          . refine sN ?_
            refine sT ?_
            (repeat' (first | refine sT ?_ | refine sN ?_))
            refine sO ?_
            refine zbj s.path.toNat (by omega) (by omega) ?_;conv=>whnf
            refine sR ?_
            refine sO ?_
            refine zbj s.path.toNat (by omega) (by omega) ?_;conv=>whnf
            refine sD ?_
            refine sT ?_
            refine zaa (c:=((out.map Sent.row).length+1) * 200 <= 140737488355328) om ?_;conv=>whnf
            refine sF ?_
            exact ⟨⟨_,hnx⟩,(hle_X [(6,some 6),(900,some 900),(901,some 115),(902,some 902)] (by repeat' (first | exact z0 | refine z1 ?_ | refine ⟨?_,?_⟩ | (exact (zcv (f:=Sent.row) rfl).symm) | (exact eA) | (exact zbg emx.symm) | exact z2))),by simp⟩
        . have hcm:comes c n s=false:=by
           rw [comes,hk,Bool.true_and]
           simp only [not_or] at q
           simp [q.1,q.2]
          rw [if_pos g,come1,if_neg (by rw [hcm];decide),high1,if_neg (by rw [hcm];decide),turn,if_neg (by rw [hcm];decide)] at hnx
          have q1:s.state ≠ 1:=fun h=>q (.inl h)
          have q2:s.state ≠ 3:=fun h=>q (.inr h)
          refine sN ?_
          refine sN ?_
          refine sT ?_
          refine zaa (c:=((out.map Sent.row).length+1) * 200 <= 140737488355328) om ?_;conv=>whnf
          refine sF ?_
          exact ⟨⟨_,hnx⟩,(hle_X [(6,some 6),(900,some 900),(901,some 115),(902,some 902)] (by repeat' (first | exact z0 | refine z1 ?_ | refine ⟨?_,?_⟩ | (exact (zcv (f:=Sent.row) rfl).symm) | (exact eA) | (exact zbg emx.symm) | exact z2))),by simp⟩
      . have hk:here c n s=false:=by rw [here];simp [hh];omega
        have hcm:comes c n s=false:=by rw [comes,hk];rfl
        rw [if_pos g,come1,if_neg (by rw [hcm];decide),high1,if_neg (by rw [hcm];decide),turn,if_neg (by rw [hcm];decide)] at hnx
        refine zad (by simpa using hh) ?_;conv=>whnf
        refine zaa (c:=((out.map Sent.row).length+1) * 200 <= 140737488355328) om ?_;conv=>whnf
        refine sF ?_
        exact ⟨⟨_,hnx⟩,(hle_X [(6,some 6),(900,some 900),(901,some 73),(902,some 902)] (by repeat' (first | exact z0 | refine z1 ?_ | refine ⟨?_,?_⟩ | (exact (zcv (f:=Sent.row) rfl).symm) | exact z2))),by simp⟩
    . have hk:here c n s=true:=by rw [here];simp;left;omega
      refine sN ?_
      have eA:HSlot.live (.row 3 1 ((come.map fun n=>[pi n]).set s.path.toNat [pi (W (come[s.path.toNat]'(by omega)+((s.chunk.data.map bRow).length:Int)))]))=intB (addAt come s.path s.chunk.data.length):=by
       rw [addAt,intB,List.map_set,List.getElem?_eq_getElem (by omega),Option.getD_some,List.length_map]
      by_cases q:s.state=1 \/ s.state=3
      . have hcm:comes c n s=true:=by rw [comes,hk,Bool.true_and];rcases q with q | q <;> rw [q] <;> rfl
        rw [if_neg g,come1,if_pos hcm,high1,if_pos hcm,List.append_nil] at hnx
        have emx:(if s.number > high then s.number else high)=s.number:=by split <;> omega
        by_cases q1:s.state=1
        . refine sT ?_
          (repeat' (first | refine sT ?_ | refine sN ?_))
          refine sO ?_
          refine zbj s.path.toNat (by omega) (by omega) ?_;conv=>whnf
          refine sR ?_
          refine sO ?_
          refine zbj s.path.toNat (by omega) (by omega) ?_;conv=>whnf
          refine sD ?_
          refine sN ?_
          refine sF ?_
          exact ⟨⟨_,hnx⟩,(hle_X ((6,some 6) :: (pJ3 [])) (by repeat' (first | exact z0 | refine z1 ?_ | refine ⟨?_,?_⟩ | (exact eA) | (exact zbg emx.symm) | exact z2))),by simp⟩
        . refine sN ?_
          refine sT ?_
          (repeat' (first | refine sT ?_ | refine sN ?_))
          refine sO ?_
          refine zbj s.path.toNat (by omega) (by omega) ?_;conv=>whnf
          refine sR ?_
          refine sO ?_
          refine zbj s.path.toNat (by omega) (by omega) ?_;conv=>whnf
          refine sD ?_
          refine sN ?_
          refine sF ?_
          exact ⟨⟨_,hnx⟩,(hle_X ((6,some 6) :: (pJ3 [])) (by repeat' (first | exact z0 | refine z1 ?_ | refine ⟨?_,?_⟩ | (exact eA) | (exact zbg emx.symm) | exact z2))),by simp⟩
      . have hcm:comes c n s=false:=by
         rw [comes,hk,Bool.true_and]
         simp only [not_or] at q
         simp [q.1,q.2]
        rw [if_neg g,come1,if_neg (by rw [hcm];decide),high1,if_neg (by rw [hcm];decide),List.append_nil] at hnx
        have q1:s.state ≠ 1:=fun h=>q (.inl h)
        have q2:s.state ≠ 3:=fun h=>q (.inr h)
        refine sN ?_
        refine sN ?_
        refine sN ?_
        refine sF ?_
        exact ⟨⟨_,hnx⟩,(hle_X ((6,some 6) :: (pJ3 [])) (by repeat' (first | exact z0 | refine z1 ?_ | refine ⟨?_,?_⟩ | (exact eA) | (exact zbg emx.symm) | exact z2))),by simp⟩
end Sco
end Go.HL
namespace Go.HL
open Go.Proofs
namespace Snd
open Ser
set_option maxHeartbeats 8000000
set_option maxRecDepth 100000
set_option linter.unusedSimpArgs false
def comeP (ps:List Path) (part:Int) (moved:Bool) (A:List Int):List Path:=ps.mapIdx fun i p=>if A[i]?.getD 0 > 0 then Paths.acked p (A[i]?.getD 0) part moved else p
theorem ztn {ps:List Path} {part:Int} {moved:Bool} {A:List Int}:(comeP ps part moved A)[A.length]?=ps[A.length]?:=by
 rw [comeP,List.getElem?_mapIdx,List.getElem?_eq_none (Nat.le_refl _)]
 cases ps[A.length]? <;> simp
theorem zqs {ps:List Path} {part:Int} {moved:Bool} {A:List Int} {n:Int} {p:Path} (hp:ps[A.length]?=some p) :
 comeP ps part moved (A++[n])=(comeP ps part moved A).set A.length (if n > 0 then Paths.acked p n part moved else p):=by
 apply List.ext_getElem?
 intro i
 rw [List.getElem?_set,comeP,comeP,List.getElem?_mapIdx,List.getElem?_mapIdx,List.length_mapIdx]
 have hl:=(List.getElem?_eq_some_iff.1 hp).1
 by_cases hi:A.length=i
 . subst hi
   rw [if_pos rfl,if_pos hl,hp]
   simp
 . rw [if_neg hi]
   rcases Nat.lt_or_ge i A.length with h | h
   . rw [List.getElem?_append_left h]
   . rw [List.getElem?_eq_none (l:=A++[n]) (by simp;omega),List.getElem?_eq_none (l:=A) h]
theorem zme {l:List Sent} (h:Sco.Sized l) (cum:Int) (c:Chunk) (paths:Int):Sco.Sized (Sco.sack l cum c paths).1:=by
 have hf:∀ (p:Sent -> Bool) (l:List Sent),Sco.total (l.filter p) <= Sco.total l:=by
  intro p l
  induction l with
  | nil=>exact Nat.le_refl _
  | cons x l ih =>
   rw [List.filter_cons,Sco.zeb]
   split
   . rw [Sco.zeb];omega
   . omega
 have hm:∀ (f:Sent -> Sent) (l:List Sent),(∀ x,(f x).chunk=x.chunk) -> Sco.total (l.map f)=Sco.total l:=by
  intro f l hf
  simp only [Sco.total,List.map_map]
  congr 1
  exact List.map_congr_left fun s _=>by simp [hf]
 unfold Sco.sack
 split
 . exact h
 . refine ⟨?_,?_⟩
   . have:=List.length_filter_le (fun s:Sent=>decide (s.number > near cum c.tag)) l
     have:=h.len
     simp only [Sco.left,List.length_map];omega
   . dsimp only
     rw [hm _ _ (fun x=>by unfold Sco.age;(repeat' split) <;> rfl),Sco.left,hm _ _ (fun x=>by unfold Sco.turn;split <;> rfl)]
     exact Nat.lt_of_le_of_lt (hf _ _) h.bytes
def zki (s:Sender) (c:Chunk) (k:List Sent × Int × List Int × List Int):Sender:=flights { s with out:=k.1,cum:=k.2.1,room:=c.room,paths:=comeP s.paths s.config.part (decide (k.2.1 > s.cum)) k.2.2.1 }
def zhg (part:Int) (t:Sender) (lost:List Int):Sender:=match lost.getLast? with
 | none=>t
 | some z=>if z > t.recover then { t with paths:=setAt t.paths (choose t) fun p=>Paths.halved p part,recover:=W (t.next - 1) } else t
def zel (moved:Bool) (u:Sender):Sender:=if moved=true /\ (Sco.point u.out u.cum).1 > u.cum then { u with forward:=true } else u
theorem zmy (s:Sender) (c:Chunk):heard s c=settle (zel (decide ((Sco.sack s.out s.cum c s.paths.length).2.1 > s.cum)) (zhg s.config.part (zki s c (Sco.sack s.out s.cum c s.paths.length)) (Sco.sack s.out s.cum c s.paths.length).2.2.2)):=rfl
def upS (t:Sender) (part:Int) (w:Path):Sender:={ t with paths:=t.paths.set (choose t) (Paths.halved w part),recover:=W (t.next - 1) }
theorem Fit.fwd {s:Sender} (h:Fit s):Fit { s with forward:=true }:=⟨h.queue,h.had,h.out,h.paths,h.mids,h.fates,h.data⟩
theorem Fit.up {s:Sender} (h:Fit s) {part:Int} {w:Path}:Fit (upS s part w):=⟨h.queue,h.had,h.out,by show (s.paths.set _ _).length < _;rw [List.length_set];exact h.paths,h.mids,h.fates,h.data⟩
theorem yeu (s:Sender) (c:Chunk) (hs:Fit s) (hr:Sco.Right s.out s.cum s.paths.length) (hsp:c.spans.length < 2 ^ 60) :
 FunOK Tryz.prog 34 [s.hv,c.hv] zac (sndO (hear s c) 0 1 2 3 4 5) (lk .free (sndB (hear s c) 0 1 2 3 4 5 [])):=by
 have hs':=hs
 obtain ⟨h1,h2,h3,h4,h5,h6,h7⟩:=hs
 generalize hT:hear s c=T
 refine zal mixed Tryz.func34 (by decide) [] (fun _=>.inl rfl) ?_
 conv=>whnf
 (refine zap [(0,20),(1,21),(2,22),(3,23),(4,24),(5,25)]  ?_;(conv=>whnf);refine dO (zdb s hs') ?_)
 by_cases c1:c.kind=2
 case neg =>
  rw [hear,if_pos c1] at hT
  subst hT
  refine zad ?_ ?_
  . simpa using c1
  conv=>whnf
  exact zau [(0,some 20),(1,some 21),(2,some 22),(3,some 23),(4,some 24),(5,some 25)] rfl rfl trivial rfl rfl ⟨⟨rfl,.inl ⟨20,rfl,rfl⟩⟩,⟨rfl,.inl ⟨21,rfl,rfl⟩⟩,⟨rfl,.inl ⟨22,rfl,rfl⟩⟩,⟨rfl,.inl ⟨23,rfl,rfl⟩⟩,⟨rfl,.inl ⟨24,rfl,rfl⟩⟩,⟨rfl,.inl ⟨25,rfl,rfl⟩⟩,trivial⟩
 case pos =>
  rw [hear,if_neg (fun h=>h c1)] at hT
  refine zab ?_ ?_
  . simpa using c1
  conv=>whnf
  repeat (refine hcut.go ?_;conv=>whnf)
  have hk:=Sco.yet s.out s.cum c ((s.paths.map Path.row).length:Nat) h3 (by rw [List.length_map];exact hr) hsp
  by_cases k1:near s.cum c.tag < s.cum \/ near s.cum c.tag > s.cum+s.out.length
  case pos =>
   rw [if_pos k1] at hT
   subst hT
   rw [Sco.sack,if_pos k1] at hk
   (refine zap [(0,31),(1,32),(2,33)]  ?_;(conv=>whnf);refine dO hk ?_)
   (refine cL ?_;refine dL (zoh s.cum c.tag) ?_)
   refine zad ?_ ?_
   . have:near s.cum c.tag ≠ s.cum:=by omega
     simpa using this
   conv=>whnf
   exact zau [(0,some 20),(1,some 21),(2,some 22),(3,some 23),(4,some 24),(5,some 25)] rfl rfl trivial rfl rfl ⟨⟨rfl,.inl ⟨20,rfl,rfl⟩⟩,⟨rfl,.inl ⟨21,rfl,rfl⟩⟩,⟨rfl,.inl ⟨22,rfl,rfl⟩⟩,⟨rfl,.inl ⟨23,rfl,rfl⟩⟩,⟨rfl,.inl ⟨24,rfl,rfl⟩⟩,⟨rfl,.inl ⟨25,rfl,rfl⟩⟩,trivial⟩
  case neg =>
   rw [if_neg k1,zmy] at hT
   have hks:=zme h3 s.cum c s.paths.length
   have hlo:(Sco.sack s.out s.cum c s.paths.length).2.2.2.length <= s.out.length:=by
    rw [Sco.sack,if_neg k1]
    dsimp only
    rw [Sco.lost,List.length_map]
    refine Nat.le_trans (List.length_filter_le _ _) ?_
    rw [Sco.left,List.length_map];exact List.length_filter_le _ _
   have hK:(Sco.sack s.out s.cum c ((s.paths.map Path.row).length:Nat)).2.1=near s.cum c.tag:=by rw [Sco.sack,if_neg k1]
   rw [hK] at hk
   (refine zap [(0,31),(1,32),(2,33)]  ?_;(conv=>whnf);refine dO hk ?_)
   (refine cL ?_;refine dL (zoh s.cum c.tag) ?_)
   rw [show (near s.cum c.tag != near s.cum c.tag)=false from bne_self_eq_false _]
   conv=>whnf
   refine sD ?_
   have hcl:(Sco.sack s.out s.cum c ((s.paths.map Path.row).length:Nat)).2.2.1.length=s.paths.length:=by
    rw [Sco.sack,if_neg k1];simp only [Sco.zij];rw [List.length_map];rfl
   have hid:s.paths.mapIdx (fun _ p=>p)=s.paths:=by apply List.ext_getElem <;> simp
   have epl:(s.paths.map Path.row).length=s.paths.length:=List.length_map _
   rw [<- epl] at hT hks hlo
   generalize Sco.sack s.out s.cum c ((s.paths.map Path.row).length:Nat)=K at hcl hK hk hT hks hlo ⊢
   rw [hK] at hT
   refine ⟨{ x:List Int × List Int // K.2.2.1=x.1++x.2 },fun | ⟨(A,B),_⟩=>hs 133 [(2,.ptr 2 0),(4,.ptr 4 0),(5,.ptr 5 0),(9,.own 907),(10,hbool (decide (near s.cum c.tag > s.cum))),(55,.own 906),(56,i64 s.paths.length),(57,i64 A.length)] ((2,.live (.cells 32 (sndC s (Sch.qs s.queue) (ints s.sched.had) (Sco.sents s.out) (pths s.paths) (ints s.mids) (ints s.fates)))) :: (4,.live (.cells 32 zeroS)) :: (5,.live (.cells 32 (sndC { s with cum:=near s.cum c.tag,room:=c.room } (.own 900) (.own 901) (.own 902) (.own 903) (.own 904) (.own 905)))) :: sndB { s with out:=K.1,paths:=comeP s.paths s.config.part (decide (near s.cum c.tag > s.cum)) A } 900 901 902 903 904 905 [(906,rowT K.2.2.1),(907,rowT K.2.2.2)]),fun x=>x.1.2.length,⟨([],K.2.2.1),rfl⟩,?_,?_⟩
   . exact (hle_X [(2,some 2),(4,some 4),(5,some 5),(900,some 20),(901,some 21),(902,some 31),(903,some 23),(904,some 24),(905,some 25),(906,some 32),(907,some 33)] (by repeat' (first | exact z0 | refine z1 ?_ | refine ⟨?_,?_⟩ | ((exact zbg (by rw [List.length_map];omega))) | ((exact zao (by simp [comeP,hid]))) | exact z2)))
   rintro ⟨⟨A,B⟩,h⟩
   dsimp only at h
   conv=>whnf
   cases B with
   | cons n B =>
    have hz:=zar h
    obtain ⟨p,hp⟩:∃ p,s.paths[A.length]?=some p:=⟨_,List.getElem?_eq_getElem (by omega)⟩
    have hpl:A.length < (comeP s.paths s.config.part (decide (near s.cum c.tag > s.cum)) A).length:=by rw [comeP,List.length_mapIdx];omega
    refine sT ?_
    refine sOm ?_
    refine zaj (f:=fun n:Int=>[pi n]) h rfl ?_;conv=>whnf
    by_cases d1:n > 0
    case pos =>
     rw [show decide (n > 0)=true from decide_eq_true d1]
     conv=>whnf
     refine zaa ⟨by omega,by rw [List.length_map];exact_mod_cast hpl⟩ ?_;conv=>whnf
     refine zai (ztn.trans hp) rfl ?_;conv=>whnf
     (refine cL ?_;refine dL (Paths.yef p n s.config.part (decide (near s.cum c.tag > s.cum))) ?_)
     refine zaa ⟨by omega,by rw [List.length_map];exact_mod_cast hpl⟩ ?_;conv=>whnf
     refine zai (ztn.trans hp) rfl ?_;conv=>whnf
     refine sD ?_
     refine sF ?_
     exact ⟨⟨(A++[n],B),zae h⟩,(hle_X ((2,some 2) :: ((4,some 4) :: (5,some 5) :: (pJ8 []))) (by repeat' (first | exact z0 | refine z1 ?_ | refine ⟨?_,?_⟩ | ((exact (zdk rfl).trans (zao (by rw [zqs hp,if_pos d1];rfl)))) | exact z2))),by simp⟩
    case neg =>
     rw [show decide (n > 0)=false from decide_eq_false d1]
     conv=>whnf
     refine sF ?_
     exact ⟨⟨(A++[n],B),zae h⟩,(hle_X ((2,some 2) :: ((4,some 4) :: (5,some 5) :: (pJ8 []))) (by repeat' (first | exact z0 | refine z1 ?_ | refine ⟨?_,?_⟩ | ((exact zao (by rw [zqs hp,if_neg d1,zhc (ztn.trans hp)]))) | exact z2))),by simp⟩
   | nil =>
    have hz:=zaz h
    rw [List.append_nil] at h
    refine sN ?_
    have hcp:(comeP s.paths s.config.part (decide (near s.cum c.tag > s.cum)) A).length=s.paths.length:=by rw [comeP,List.length_mapIdx]
    (refine zag [] [(1000,5),(1001,900),(1002,901),(1003,902),(1004,903),(1005,904),(1006,905)] [(0,930),(1,931),(2,932),(3,933),(4,934),(5,935)] ?_;(conv=>whnf);refine dG (zsy { s with cum:=near s.cum c.tag,room:=c.room,out:=K.1,paths:=comeP s.paths s.config.part (decide (near s.cum c.tag > s.cum)) A } hks (by dsimp only;omega)) ?_)
    rw [show zki s c K=flights { s with cum:=near s.cum c.tag,room:=c.room,out:=K.1,paths:=comeP s.paths s.config.part (decide (near s.cum c.tag > s.cum)) A } by rw [zki,hK,h]] at hT
    have hfl:(flights { s with cum:=near s.cum c.tag,room:=c.room,out:=K.1,paths:=comeP s.paths s.config.part (decide (near s.cum c.tag > s.cum)) A }).paths.length=s.paths.length:=by
     show (List.mapIdx _ _).length=_
     rw [List.length_mapIdx];exact hcp
    have hfo:(flights { s with cum:=near s.cum c.tag,room:=c.room,out:=K.1,paths:=comeP s.paths s.config.part (decide (near s.cum c.tag > s.cum)) A }).out=K.1:=rfl
    have hft:Fit (flights { s with cum:=near s.cum c.tag,room:=c.room,out:=K.1,paths:=comeP s.paths s.config.part (decide (near s.cum c.tag > s.cum)) A }):=⟨h1,h2,hks,by omega,h5,h6,h7⟩
    generalize flights { s with cum:=near s.cum c.tag,room:=c.room,out:=K.1,paths:=comeP s.paths s.config.part (decide (near s.cum c.tag > s.cum)) A }=t at hT hfl hfo hft ⊢
    generalize decide (near s.cum c.tag > s.cum)=mv at hT ⊢
    have hpl:=hr.p0
    obtain ⟨hch,hch2⟩:=zcc (s:=t) (by omega)
    obtain ⟨w,hw⟩:∃ w,t.paths[choose t]?=some w:=⟨_,List.getElem?_eq_getElem hch2⟩
    obtain ⟨K1,K2,K3,K4⟩:=K
    dsimp only at hT hcl hK hks h hz hfo hlo ⊢
    rcases List.eq_nil_or_concat K4 with rfl | ⟨L,z,rfl⟩
    case inl =>
     rw [show zhg s.config.part t []=t from rfl] at hT
     conv=>whnf
     refine sD ?_
     (refine zag [] [(1000,932)] [(0,960)] ?_;(conv=>whnf);refine dG (Sco.zdj t.out t.cum (by have:=hft.out.len;omega)) ?_)
     cases mv with
     | false =>
      rw [show zel false t=t from if_neg (fun h=>absurd h.1 (by decide))] at hT
      subst hT
      conv=>whnf
      (refine zag [] [(1000,5),(1001,930),(1002,931),(1003,932),(1004,933),(1005,934),(1006,935)] [(0,980),(1,981),(2,982),(3,983),(4,984),(5,985)] ?_;(conv=>whnf);refine dG (zdl t (hft)) ?_ ⟨rfl,rfl,rfl,⟨⟨rfl,_,rfl,.inl ⟨rfl,rfl⟩⟩,⟨⟨rfl,_,rfl,.inl ⟨rfl,rfl⟩⟩,⟨⟨rfl,_,rfl,.inl ⟨rfl,rfl⟩⟩,⟨⟨rfl,_,rfl,.inl ⟨rfl,rfl⟩⟩,⟨⟨rfl,_,rfl,.inl ⟨rfl,rfl⟩⟩,⟨⟨rfl,_,rfl,.inl ⟨rfl,rfl⟩⟩,⟨⟨rfl,_,rfl,.inl ⟨rfl,rfl⟩⟩,trivial⟩⟩⟩⟩⟩⟩⟩,⟨⟨rfl,rfl⟩,⟨⟨rfl,rfl⟩,⟨⟨rfl,rfl⟩,⟨⟨rfl,rfl⟩,⟨⟨rfl,rfl⟩,⟨⟨rfl,rfl⟩,trivial⟩⟩⟩⟩⟩⟩,rfl,rfl,rfl⟩)
      refine zau [(0,some 980),(1,some 981),(2,some 982),(3,some 983),(4,some 984),(5,some 985)] rfl rfl trivial rfl rfl ⟨⟨rfl,.inl ⟨980,rfl,rfl⟩⟩,⟨rfl,.inl ⟨981,rfl,rfl⟩⟩,⟨rfl,.inl ⟨982,rfl,rfl⟩⟩,⟨rfl,.inl ⟨983,rfl,rfl⟩⟩,⟨rfl,.inl ⟨984,rfl,rfl⟩⟩,⟨rfl,.inl ⟨985,rfl,rfl⟩⟩,trivial⟩
     | true =>
      conv=>whnf
      by_cases e1:(Sco.point t.out t.cum).1 > t.cum
      case pos =>
       rw [show zel true t={ t with forward:=true } from if_pos ⟨rfl,e1⟩] at hT
       subst hT
       rw [show decide ((Sco.point t.out t.cum).1 > t.cum)=true from decide_eq_true e1]
       conv=>whnf
       (refine zag [] [(1000,5),(1001,930),(1002,931),(1003,932),(1004,933),(1005,934),(1006,935)] [(0,980),(1,981),(2,982),(3,983),(4,984),(5,985)] ?_;(conv=>whnf);refine dG (zdl ({ t with forward:=true }:Sender) ((Fit.fwd hft))) ?_ ⟨rfl,rfl,rfl,⟨⟨rfl,_,rfl,.inl ⟨rfl,rfl⟩⟩,⟨⟨rfl,_,rfl,.inl ⟨rfl,rfl⟩⟩,⟨⟨rfl,_,rfl,.inl ⟨rfl,rfl⟩⟩,⟨⟨rfl,_,rfl,.inl ⟨rfl,rfl⟩⟩,⟨⟨rfl,_,rfl,.inl ⟨rfl,rfl⟩⟩,⟨⟨rfl,_,rfl,.inl ⟨rfl,rfl⟩⟩,⟨⟨rfl,_,rfl,.inl ⟨rfl,rfl⟩⟩,trivial⟩⟩⟩⟩⟩⟩⟩,⟨⟨rfl,rfl⟩,⟨⟨rfl,rfl⟩,⟨⟨rfl,rfl⟩,⟨⟨rfl,rfl⟩,⟨⟨rfl,rfl⟩,⟨⟨rfl,rfl⟩,trivial⟩⟩⟩⟩⟩⟩,rfl,rfl,rfl⟩)
       refine zau [(0,some 980),(1,some 981),(2,some 982),(3,some 983),(4,some 984),(5,some 985)] rfl rfl trivial rfl rfl ⟨⟨rfl,.inl ⟨980,rfl,rfl⟩⟩,⟨rfl,.inl ⟨981,rfl,rfl⟩⟩,⟨rfl,.inl ⟨982,rfl,rfl⟩⟩,⟨rfl,.inl ⟨983,rfl,rfl⟩⟩,⟨rfl,.inl ⟨984,rfl,rfl⟩⟩,⟨rfl,.inl ⟨985,rfl,rfl⟩⟩,trivial⟩
      case neg =>
       rw [show zel true t=t from if_neg (fun h=>e1 h.2)] at hT
       subst hT
       rw [show decide ((Sco.point t.out t.cum).1 > t.cum)=false from decide_eq_false e1]
       conv=>whnf
       (refine zag [] [(1000,5),(1001,930),(1002,931),(1003,932),(1004,933),(1005,934),(1006,935)] [(0,980),(1,981),(2,982),(3,983),(4,984),(5,985)] ?_;(conv=>whnf);refine dG (zdl t (hft)) ?_ ⟨rfl,rfl,rfl,⟨⟨rfl,_,rfl,.inl ⟨rfl,rfl⟩⟩,⟨⟨rfl,_,rfl,.inl ⟨rfl,rfl⟩⟩,⟨⟨rfl,_,rfl,.inl ⟨rfl,rfl⟩⟩,⟨⟨rfl,_,rfl,.inl ⟨rfl,rfl⟩⟩,⟨⟨rfl,_,rfl,.inl ⟨rfl,rfl⟩⟩,⟨⟨rfl,_,rfl,.inl ⟨rfl,rfl⟩⟩,⟨⟨rfl,_,rfl,.inl ⟨rfl,rfl⟩⟩,trivial⟩⟩⟩⟩⟩⟩⟩,⟨⟨rfl,rfl⟩,⟨⟨rfl,rfl⟩,⟨⟨rfl,rfl⟩,⟨⟨rfl,rfl⟩,⟨⟨rfl,rfl⟩,⟨⟨rfl,rfl⟩,trivial⟩⟩⟩⟩⟩⟩,rfl,rfl,rfl⟩)
       refine zau [(0,some 980),(1,some 981),(2,some 982),(3,some 983),(4,some 984),(5,some 985)] rfl rfl trivial rfl rfl ⟨⟨rfl,.inl ⟨980,rfl,rfl⟩⟩,⟨rfl,.inl ⟨981,rfl,rfl⟩⟩,⟨rfl,.inl ⟨982,rfl,rfl⟩⟩,⟨rfl,.inl ⟨983,rfl,rfl⟩⟩,⟨rfl,.inl ⟨984,rfl,rfl⟩⟩,⟨rfl,.inl ⟨985,rfl,rfl⟩⟩,trivial⟩
    case inr =>
     rw [List.concat_eq_append] at hT ⊢
     have hU:zhg s.config.part t (L++[z])=if z > t.recover then upS t s.config.part w else t:=by
      unfold zhg
      rw [List.getLast?_concat]
      dsimp only
      rw [upS,setAt,hw]
     rw [hU] at hT
     have hll:((L++[z]).map (fun n:Int=>[pi n])).length=L.length+1:=by simp
     have hLl:L.length < 2 ^ 38:=by
      have:=hlo
      rw [List.concat_eq_append,List.length_append] at this
      simp only [List.length_cons,List.length_nil] at this
      have:=h3.len
      omega
     rw [show decide (((List.map (fun n:Int=>[pi n]) (L++[z])).length:Int) > 0)=true from decide_eq_true (by omega)]
     conv=>whnf
     refine sFm ?_
     refine zaa (by omega) ?_;conv=>whnf
     refine zaj (f:=fun n:Int=>[pi n]) (a:=L) (b:=[]) (s:=z) rfl (by omega) ?_;conv=>whnf
     refine sD ?_
     by_cases e0:z > t.recover
     case neg =>
      rw [if_neg e0] at hT
      rw [show decide (z > t.recover)=false from decide_eq_false e0]
      conv=>whnf
      repeat (refine hcut.go ?_;conv=>whnf)
      (refine zag [] [(1000,932)] [(0,960)] ?_;(conv=>whnf);refine dG (Sco.zdj t.out t.cum (by have:=hft.out.len;omega)) ?_)
      cases mv with
      | false =>
       rw [show zel false t=t from if_neg (fun h=>absurd h.1 (by decide))] at hT
       subst hT
       conv=>whnf
       (refine zag [] [(1000,5),(1001,930),(1002,931),(1003,932),(1004,933),(1005,934),(1006,935)] [(0,980),(1,981),(2,982),(3,983),(4,984),(5,985)] ?_;(conv=>whnf);refine dG (zdl t (hft)) ?_ ⟨rfl,rfl,rfl,⟨⟨rfl,_,rfl,.inl ⟨rfl,rfl⟩⟩,⟨⟨rfl,_,rfl,.inl ⟨rfl,rfl⟩⟩,⟨⟨rfl,_,rfl,.inl ⟨rfl,rfl⟩⟩,⟨⟨rfl,_,rfl,.inl ⟨rfl,rfl⟩⟩,⟨⟨rfl,_,rfl,.inl ⟨rfl,rfl⟩⟩,⟨⟨rfl,_,rfl,.inl ⟨rfl,rfl⟩⟩,⟨⟨rfl,_,rfl,.inl ⟨rfl,rfl⟩⟩,trivial⟩⟩⟩⟩⟩⟩⟩,⟨⟨rfl,rfl⟩,⟨⟨rfl,rfl⟩,⟨⟨rfl,rfl⟩,⟨⟨rfl,rfl⟩,⟨⟨rfl,rfl⟩,⟨⟨rfl,rfl⟩,trivial⟩⟩⟩⟩⟩⟩,rfl,rfl,rfl⟩)
       refine zau [(0,some 980),(1,some 981),(2,some 982),(3,some 983),(4,some 984),(5,some 985)] rfl rfl trivial rfl rfl ⟨⟨rfl,.inl ⟨980,rfl,rfl⟩⟩,⟨rfl,.inl ⟨981,rfl,rfl⟩⟩,⟨rfl,.inl ⟨982,rfl,rfl⟩⟩,⟨rfl,.inl ⟨983,rfl,rfl⟩⟩,⟨rfl,.inl ⟨984,rfl,rfl⟩⟩,⟨rfl,.inl ⟨985,rfl,rfl⟩⟩,trivial⟩
      | true =>
       conv=>whnf
       by_cases e1:(Sco.point t.out t.cum).1 > t.cum
       case pos =>
        rw [show zel true t={ t with forward:=true } from if_pos ⟨rfl,e1⟩] at hT
        subst hT
        rw [show decide ((Sco.point t.out t.cum).1 > t.cum)=true from decide_eq_true e1]
        conv=>whnf
        (refine zag [] [(1000,5),(1001,930),(1002,931),(1003,932),(1004,933),(1005,934),(1006,935)] [(0,980),(1,981),(2,982),(3,983),(4,984),(5,985)] ?_;(conv=>whnf);refine dG (zdl ({ t with forward:=true }:Sender) ((Fit.fwd hft))) ?_ ⟨rfl,rfl,rfl,⟨⟨rfl,_,rfl,.inl ⟨rfl,rfl⟩⟩,⟨⟨rfl,_,rfl,.inl ⟨rfl,rfl⟩⟩,⟨⟨rfl,_,rfl,.inl ⟨rfl,rfl⟩⟩,⟨⟨rfl,_,rfl,.inl ⟨rfl,rfl⟩⟩,⟨⟨rfl,_,rfl,.inl ⟨rfl,rfl⟩⟩,⟨⟨rfl,_,rfl,.inl ⟨rfl,rfl⟩⟩,⟨⟨rfl,_,rfl,.inl ⟨rfl,rfl⟩⟩,trivial⟩⟩⟩⟩⟩⟩⟩,⟨⟨rfl,rfl⟩,⟨⟨rfl,rfl⟩,⟨⟨rfl,rfl⟩,⟨⟨rfl,rfl⟩,⟨⟨rfl,rfl⟩,⟨⟨rfl,rfl⟩,trivial⟩⟩⟩⟩⟩⟩,rfl,rfl,rfl⟩)
        refine zau [(0,some 980),(1,some 981),(2,some 982),(3,some 983),(4,some 984),(5,some 985)] rfl rfl trivial rfl rfl ⟨⟨rfl,.inl ⟨980,rfl,rfl⟩⟩,⟨rfl,.inl ⟨981,rfl,rfl⟩⟩,⟨rfl,.inl ⟨982,rfl,rfl⟩⟩,⟨rfl,.inl ⟨983,rfl,rfl⟩⟩,⟨rfl,.inl ⟨984,rfl,rfl⟩⟩,⟨rfl,.inl ⟨985,rfl,rfl⟩⟩,trivial⟩
       case neg =>
        rw [show zel true t=t from if_neg (fun h=>e1 h.2)] at hT
        subst hT
        rw [show decide ((Sco.point t.out t.cum).1 > t.cum)=false from decide_eq_false e1]
        conv=>whnf
        (refine zag [] [(1000,5),(1001,930),(1002,931),(1003,932),(1004,933),(1005,934),(1006,935)] [(0,980),(1,981),(2,982),(3,983),(4,984),(5,985)] ?_;(conv=>whnf);refine dG (zdl t (hft)) ?_ ⟨rfl,rfl,rfl,⟨⟨rfl,_,rfl,.inl ⟨rfl,rfl⟩⟩,⟨⟨rfl,_,rfl,.inl ⟨rfl,rfl⟩⟩,⟨⟨rfl,_,rfl,.inl ⟨rfl,rfl⟩⟩,⟨⟨rfl,_,rfl,.inl ⟨rfl,rfl⟩⟩,⟨⟨rfl,_,rfl,.inl ⟨rfl,rfl⟩⟩,⟨⟨rfl,_,rfl,.inl ⟨rfl,rfl⟩⟩,⟨⟨rfl,_,rfl,.inl ⟨rfl,rfl⟩⟩,trivial⟩⟩⟩⟩⟩⟩⟩,⟨⟨rfl,rfl⟩,⟨⟨rfl,rfl⟩,⟨⟨rfl,rfl⟩,⟨⟨rfl,rfl⟩,⟨⟨rfl,rfl⟩,⟨⟨rfl,rfl⟩,trivial⟩⟩⟩⟩⟩⟩,rfl,rfl,rfl⟩)
        refine zau [(0,some 980),(1,some 981),(2,some 982),(3,some 983),(4,some 984),(5,some 985)] rfl rfl trivial rfl rfl ⟨⟨rfl,.inl ⟨980,rfl,rfl⟩⟩,⟨rfl,.inl ⟨981,rfl,rfl⟩⟩,⟨rfl,.inl ⟨982,rfl,rfl⟩⟩,⟨rfl,.inl ⟨983,rfl,rfl⟩⟩,⟨rfl,.inl ⟨984,rfl,rfl⟩⟩,⟨rfl,.inl ⟨985,rfl,rfl⟩⟩,trivial⟩
     case pos =>
      rw [if_pos e0] at hT
      rw [show decide (z > t.recover)=true from decide_eq_true e0]
      conv=>whnf
      have pc:=Paths.zda t.paths (by omega)
      rw [hch] at pc
      (refine cL ?_;refine dL pc ?_)
      refine zaa (by rw [List.length_map];omega) ?_;conv=>whnf
      refine zai hw rfl ?_;conv=>whnf
      (refine cL ?_;refine dL (Paths.zep w s.config.part) ?_)
      refine zaa (by rw [List.length_map];omega) ?_;conv=>whnf
      refine zai hw rfl ?_;conv=>whnf
      refine sD ?_
      refine sR ?_
      (refine zag [] [(1000,932)] [(0,960)] ?_;(conv=>whnf);refine dG (Sco.zdj t.out t.cum (by have:=hft.out.len;omega)) ?_)
      cases mv with
      | false =>
       rw [show zel false (upS t s.config.part w)=(upS t s.config.part w) from if_neg (fun h=>absurd h.1 (by decide))] at hT
       subst hT
       conv=>whnf
       (refine zag [] [(1000,5),(1001,930),(1002,931),(1003,932),(1004,933),(1005,934),(1006,935)] [(0,980),(1,981),(2,982),(3,983),(4,984),(5,985)] ?_;(conv=>whnf);refine dG (zdl (upS t s.config.part w) ((Fit.up hft))) ?_ ⟨rfl,rfl,rfl,⟨⟨rfl,_,rfl,.inl ⟨rfl,rfl⟩⟩,⟨⟨rfl,_,rfl,.inl ⟨rfl,rfl⟩⟩,⟨⟨rfl,_,rfl,.inl ⟨rfl,rfl⟩⟩,⟨⟨rfl,_,rfl,.inl ⟨rfl,rfl⟩⟩,⟨⟨rfl,_,rfl,.inl ⟨rfl,(zdk rfl)⟩⟩,⟨⟨rfl,_,rfl,.inl ⟨rfl,rfl⟩⟩,⟨⟨rfl,_,rfl,.inl ⟨rfl,rfl⟩⟩,trivial⟩⟩⟩⟩⟩⟩⟩,⟨⟨rfl,rfl⟩,⟨⟨rfl,rfl⟩,⟨⟨rfl,rfl⟩,⟨⟨rfl,rfl⟩,⟨⟨rfl,rfl⟩,⟨⟨rfl,rfl⟩,trivial⟩⟩⟩⟩⟩⟩,rfl,rfl,rfl⟩)
       refine zau [(0,some 980),(1,some 981),(2,some 982),(3,some 983),(4,some 984),(5,some 985)] rfl rfl trivial rfl rfl ⟨⟨rfl,.inl ⟨980,rfl,rfl⟩⟩,⟨rfl,.inl ⟨981,rfl,rfl⟩⟩,⟨rfl,.inl ⟨982,rfl,rfl⟩⟩,⟨rfl,.inl ⟨983,rfl,rfl⟩⟩,⟨rfl,.inl ⟨984,rfl,rfl⟩⟩,⟨rfl,.inl ⟨985,rfl,rfl⟩⟩,trivial⟩
      | true =>
       conv=>whnf
       by_cases e1:(Sco.point t.out t.cum).1 > t.cum
       case pos =>
        rw [show zel true (upS t s.config.part w)={ (upS t s.config.part w) with forward:=true } from if_pos ⟨rfl,e1⟩] at hT
        subst hT
        rw [show decide ((Sco.point t.out t.cum).1 > t.cum)=true from decide_eq_true e1]
        conv=>whnf
        (refine zag [] [(1000,5),(1001,930),(1002,931),(1003,932),(1004,933),(1005,934),(1006,935)] [(0,980),(1,981),(2,982),(3,983),(4,984),(5,985)] ?_;(conv=>whnf);refine dG (zdl ({ (upS t s.config.part w) with forward:=true }:Sender) ((Fit.fwd (Fit.up hft)))) ?_ ⟨rfl,rfl,rfl,⟨⟨rfl,_,rfl,.inl ⟨rfl,rfl⟩⟩,⟨⟨rfl,_,rfl,.inl ⟨rfl,rfl⟩⟩,⟨⟨rfl,_,rfl,.inl ⟨rfl,rfl⟩⟩,⟨⟨rfl,_,rfl,.inl ⟨rfl,rfl⟩⟩,⟨⟨rfl,_,rfl,.inl ⟨rfl,(zdk rfl)⟩⟩,⟨⟨rfl,_,rfl,.inl ⟨rfl,rfl⟩⟩,⟨⟨rfl,_,rfl,.inl ⟨rfl,rfl⟩⟩,trivial⟩⟩⟩⟩⟩⟩⟩,⟨⟨rfl,rfl⟩,⟨⟨rfl,rfl⟩,⟨⟨rfl,rfl⟩,⟨⟨rfl,rfl⟩,⟨⟨rfl,rfl⟩,⟨⟨rfl,rfl⟩,trivial⟩⟩⟩⟩⟩⟩,rfl,rfl,rfl⟩)
        refine zau [(0,some 980),(1,some 981),(2,some 982),(3,some 983),(4,some 984),(5,some 985)] rfl rfl trivial rfl rfl ⟨⟨rfl,.inl ⟨980,rfl,rfl⟩⟩,⟨rfl,.inl ⟨981,rfl,rfl⟩⟩,⟨rfl,.inl ⟨982,rfl,rfl⟩⟩,⟨rfl,.inl ⟨983,rfl,rfl⟩⟩,⟨rfl,.inl ⟨984,rfl,rfl⟩⟩,⟨rfl,.inl ⟨985,rfl,rfl⟩⟩,trivial⟩
       case neg =>
        rw [show zel true (upS t s.config.part w)=(upS t s.config.part w) from if_neg (fun h=>e1 h.2)] at hT
        subst hT
        rw [show decide ((Sco.point t.out t.cum).1 > t.cum)=false from decide_eq_false e1]
        conv=>whnf
        (refine zag [] [(1000,5),(1001,930),(1002,931),(1003,932),(1004,933),(1005,934),(1006,935)] [(0,980),(1,981),(2,982),(3,983),(4,984),(5,985)] ?_;(conv=>whnf);refine dG (zdl (upS t s.config.part w) ((Fit.up hft))) ?_ ⟨rfl,rfl,rfl,⟨⟨rfl,_,rfl,.inl ⟨rfl,rfl⟩⟩,⟨⟨rfl,_,rfl,.inl ⟨rfl,rfl⟩⟩,⟨⟨rfl,_,rfl,.inl ⟨rfl,rfl⟩⟩,⟨⟨rfl,_,rfl,.inl ⟨rfl,rfl⟩⟩,⟨⟨rfl,_,rfl,.inl ⟨rfl,(zdk rfl)⟩⟩,⟨⟨rfl,_,rfl,.inl ⟨rfl,rfl⟩⟩,⟨⟨rfl,_,rfl,.inl ⟨rfl,rfl⟩⟩,trivial⟩⟩⟩⟩⟩⟩⟩,⟨⟨rfl,rfl⟩,⟨⟨rfl,rfl⟩,⟨⟨rfl,rfl⟩,⟨⟨rfl,rfl⟩,⟨⟨rfl,rfl⟩,⟨⟨rfl,rfl⟩,trivial⟩⟩⟩⟩⟩⟩,rfl,rfl,rfl⟩)
        refine zau [(0,some 980),(1,some 981),(2,some 982),(3,some 983),(4,some 984),(5,some 985)] rfl rfl trivial rfl rfl ⟨⟨rfl,.inl ⟨980,rfl,rfl⟩⟩,⟨rfl,.inl ⟨981,rfl,rfl⟩⟩,⟨rfl,.inl ⟨982,rfl,rfl⟩⟩,⟨rfl,.inl ⟨983,rfl,rfl⟩⟩,⟨rfl,.inl ⟨984,rfl,rfl⟩⟩,⟨rfl,.inl ⟨985,rfl,rfl⟩⟩,trivial⟩
theorem yie (s:Sender) (c:Chunk) (hs:Fit s) (hr:Sco.Right s.out s.cum s.paths.length) (hsp:c.spans.length < 2 ^ 60) :
 FunOK Tryz.prog 34 [s.hv,c.hv] zac (hear s c).hv zac:=by
 refine zch Tryz.func34 (yeu s c hs hr hsp) ?_
 conv=>whnf
 rfl
end Snd
end Go.HL
