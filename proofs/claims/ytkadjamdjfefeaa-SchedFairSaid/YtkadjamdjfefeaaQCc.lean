/- Walks, contracts and laws of the law's functions: part 3. No condition. -/
import Derived.Test.YtkadjamdjfefeaaQCb
open Go.Proofs
set_option maxHeartbeats 32000000
set_option maxRecDepth 100000
set_option linter.unusedSimpArgs false
theorem yy14 {P:Prop} (h:P:=by
 (conv=>whnf);exact ⟨⟨⟩,zca [(900,some 900)] rfl rfl rfl rfl ⟨⟨rfl,rfl⟩,⟨rfl,rfl⟩,⟨rfl,rfl⟩,⟨rfl,rfl⟩,⟨rfl,rfl⟩,trivial⟩ ⟨⟨rfl,.inl ⟨900,rfl,rfl⟩⟩,trivial⟩⟩):P:=h
theorem yy28 {P:Prop} (h:P:=by
 rw [h4];split
 . rename_i h;rw [h,show (n:Int)-1+1=n by omega,Int.emod_self]
 . exact Int.emod_eq_of_lt zz0 zz0):P:=h
namespace Go.HL
namespace Sch
abbrev qs (q:List zar):HV:=.p (.sl 10 (q.map zar.row))
def first (q:List zar) (stream:Int):Int:=zce (fun m:zar=>m.message.stream==stream) 0 q
def after (q:List zar) (last streams:Int):Nat->Nat->Int
 | _,0=>-1
 | k,n+1=>if first q ((W (W (last+1)+k)).tmod streams)>=0 then first q ((W (W (last+1)+k)).tmod streams) else after q last streams (k+1) n
theorem znx (m:zar) (stream:Int):zbx Try.prog 38 [m.hv,.rp [pi stream]] zan (zbr (m.message.stream==stream)) zan:=by
 refine zbe mixed Try.func38 zz2 ?_;(conv=>whnf)
theorem zqp (m:zar) (s:zcn):zbx Try.prog 30 [m.hv,.rp s.row] zan (zbr (m.id==s.hand)) zan:=by
 refine zbe mixed Try.func30 zz2 ?_;(conv=>whnf)
theorem zpi {g:FuncId} {cs:List PV} {p:zar->Bool} (hg:∀ m:zar,zbx Try.prog g [m.hv,.rp cs] zan (zbr (p m)) zan) (q:List zar) (hb:q.length<2 ^ 62) :
 zbx Try.prog 29 [qs q,.clo g [.rp cs]] zan (i64 (zce p 0 q)) zan:=by
 refine zbe mixed Try.func29 zz2 ?_;(conv=>whnf);refine ⟨{k:Nat // k<=q.length/\zce p k (q.drop k)=zce p 0 q},fun | ⟨k,_⟩=>hs 19 [(0,qs q),(1,.clo g [.rp cs]),(7,i64 (q.map zar.row).length),(8,i64 k)] [],fun k=>q.length-k.1,⟨0,by simp⟩,?_,?_⟩
 . exact zca [] rfl rfl rfl rfl ⟨⟨rfl,rfl⟩,⟨rfl,rfl⟩,⟨rfl,rfl⟩,⟨rfl,rfl⟩,trivial⟩ trivial
 . rintro ⟨k,hk,hi⟩
   (conv=>whnf);refine zal (fun h=>?_) (fun h=>?_)
   . have hlt:k<q.length:=by simpa using h
     (conv=>whnf);refine zcu (r:=(q[k]).row) zz1 (by simp [hlt]) ?_;(conv=>whnf);refine znd (zw ?_);refine ⟨_,hg q[k],rfl,zw ?_⟩;rw [List.drop_eq_getElem_cons hlt] at hi;simp only [zce] at hi;refine zal (fun h=>?_) (fun h=>?_)
     . conv=>whnf
       rw [zy7 h] at hi;rw [<- hi]
     . conv=>whnf
       rw [zy2 (by rw [h];decide)] at hi;refine zed (zju zz0 zz0) ?_;(conv=>whnf);exact ⟨⟨k+1,hlt,hi⟩,zca [] rfl rfl rfl rfl ⟨⟨rfl,rfl⟩,⟨rfl,rfl⟩,⟨rfl,rfl⟩,⟨rfl,by simp;rfl⟩,trivial⟩ trivial,by dsimp only;omega⟩
   . conv=>whnf
     have hge:q.length<=k:=by simpa using h
     rw [zy55 hge] at hi;rw [<- hi];rfl
theorem zen (q:List zar) (stream:Int) (hb:q.length<2 ^ 62):zbx Try.prog 32 [qs q,i64 stream] zan (i64 (first q stream)) zan:=by
 refine zbe mixed Try.func32 zz2 ?_;(conv=>whnf);refine zbf (zw ?_);refine ⟨_,zpi (fun m=>znx m stream) q hb,rfl,?_⟩;(conv=>whnf)
 rfl
theorem zql (q:List zar) (last streams:Int) (h0:0<streams) (h9:streams<2 ^ 62) (hb:q.length<2 ^ 62):zbx Try.prog 31 [qs q,i64 last,i64 streams] zan (i64 (after q last streams 0 streams.toNat)) zan:=by
 refine zbe mixed Try.func31 zz2 ?_;(conv=>whnf);refine ⟨{k:Nat // (k:Int)<=streams/\after q last streams k (streams.toNat-k)=after q last streams 0 streams.toNat},fun | ⟨k,_⟩=>hs 25 [(0,qs q),(1,i64 last),(2,i64 streams),(9,i64 streams),(10,i64 k)] [],fun k=>streams.toNat-k.1,⟨0,by omega,rfl⟩,?_,?_⟩
 . exact zca [] rfl rfl rfl rfl ⟨⟨rfl,rfl⟩,⟨rfl,rfl⟩,⟨rfl,rfl⟩,⟨rfl,rfl⟩,⟨rfl,rfl⟩,trivial⟩ trivial
 . rintro ⟨k,hk,hi⟩
   (conv=>whnf);refine zal (fun h=>?_) (fun h=>?_)
   . have hlt:(k:Int)<streams:=by simpa using h
     (conv=>whnf);refine zbw (zw ?_);refine zbw (zw ?_);refine zbg zz0 (zw ?_);refine zbf (zw ?_);refine ⟨_,zen q _ hb,rfl,zw ?_⟩;obtain ⟨j,hj⟩:∃ j,streams.toNat-k=j+1:=⟨streams.toNat-k-1,by omega⟩
     rw [hj] at hi;simp only [after] at hi;refine zal (fun h=>?_) (fun h=>?_)
     . conv=>whnf
       rw [zy7 (zy31 h)] at hi;rw [<- hi]
     . conv=>whnf
       rw [zy2 (zy27 h)] at hi;refine zed (zju zz0 zz0) ?_;(conv=>whnf);exact ⟨⟨k+1,by omega,by rw [show streams.toNat-(k+1)=j by omega];exact hi⟩,zca [] rfl rfl rfl rfl ⟨⟨rfl,rfl⟩,⟨rfl,rfl⟩,⟨rfl,rfl⟩,⟨rfl,rfl⟩,⟨rfl,by simp;rfl⟩,trivial⟩ trivial,by dsimp only;omega⟩
   . conv=>whnf
     have hge:¬ (k:Int)<streams:=by simpa using h
     rw [show streams.toNat-k=0 by omega] at hi;rw [<- hi];rfl
def zaw (q:List zar) (had:List Int) (best:Int) (k:Nat):List Int->Int
 | []=>best
 | n::r=>if first q k>=0/\(best<0\/n<had[best.toNat]?.getD 0) then zaw q had k (k+1) r else zaw q had best (k+1) r
def least (s:zcn) (q:List zar):Int:=if zaw q s.had (-1) 0 s.had<0 then -1 else first q (zaw q s.had (-1) 0 s.had)
theorem zqo (s:zcn) (q:List zar) (h9:s.had.length<2 ^ 62) (hb:q.length<2 ^ 62):zbx Try.prog 33 [s.hv,qs q] zan (i64 (least s q)) zan:=by
 refine zbe mixed Try.func33 zz2 ?_;(conv=>whnf);refine ⟨{x:Nat×Int // x.1<=s.had.length/\x.2<s.had.length/\zaw q s.had x.2 x.1 (s.had.drop x.1)=zaw q s.had (-1) 0 s.had},fun | ⟨(k,best),_⟩=>hs 40 [(1,qs q),(2,.ptr 2 0),(5,i64 best),(9,ints s.had),(10,i64 (s.had.map fun n=>[pi n]).length),(11,i64 k)] [(2,.live (.cells 43 s.cells))],fun x=>s.had.length-x.1.1,⟨(0,-1),by simp,by dsimp only;omega,rfl⟩,?_,?_⟩
 . exact zca [(2,some 2)] rfl rfl rfl rfl ⟨⟨rfl,rfl⟩,⟨rfl,rfl⟩,⟨rfl,rfl⟩,⟨rfl,rfl⟩,⟨rfl,rfl⟩,⟨rfl,rfl⟩,trivial⟩ ⟨⟨rfl,.inl ⟨2,rfl,rfl⟩⟩,trivial⟩
 . rintro ⟨⟨k,best⟩,hk,hlt2,hi⟩
   dsimp only at hk hlt2 hi;(conv=>whnf);refine zal (fun h=>?_) (fun h=>?_)
   . have hlt:k<s.had.length:=by simpa using h
     have hW:W ((k:Int)+1)=((k+1:Nat):Int):=zxk hlt h9;rw [List.drop_eq_getElem_cons hlt] at hi;simp only [zaw] at hi;have fin:∀ {b':Int} {s':HS},b'<s.had.length->zaw q s.had b' (k+1) (s.had.drop (k+1))=zaw q s.had (-1) 0 s.had->s'.n=40->s'.pins=[]->s'.slot 1=qs q->s'.slot 2=.ptr 2 0->s'.slot 5=i64 b'->s'.slot 9=ints s.had->s'.slot 10=i64 (s.had.map fun n=>[pi n]).length->s'.slot 11=i64 (W (k+1)) ->
      s'.heap 2=.live (.cells 43 s.cells)->∃ x':{x:Nat×Int // x.1<=s.had.length/\x.2<s.had.length/\zaw q s.had x.2 x.1 (s.had.drop x.1)=zaw q s.had (-1) 0 s.had},HLe s' (match x' with | ⟨(k,best),_⟩=>hs 40 [(1,qs q),(2,.ptr 2 0),(5,i64 best),(9,ints s.had),(10,i64 (s.had.map fun n=>[pi n]).length),(11,i64 k)] [(2,.live (.cells 43 s.cells))])/\s.had.length-x'.1.1<s.had.length-k:=by
      intro b' s' a1 a2 a3 a4 a5 a6 a7 a8 a9 a10 a11;rw [hW] at a10;exact ⟨⟨(k+1,b'),hlt,a1,a2⟩,zca [(2,some 2)] a3.symm a4.symm rfl rfl ⟨⟨rfl,a5.symm⟩,⟨rfl,a6.symm⟩,⟨rfl,a7.symm⟩,⟨rfl,a8.symm⟩,⟨rfl,a9.symm⟩,⟨rfl,a10.symm⟩,trivial⟩ ⟨⟨rfl,.inl ⟨2,rfl,a11⟩⟩,trivial⟩,by dsimp only;omega⟩
     (conv=>whnf);refine zuy.go (zw ?_);refine zcu (r:=[pi s.had[k]]) zz0 (by simp [hlt]) ?_;(conv=>whnf);refine zbf (zw ?_);refine ⟨_,zen q k hb,rfl,zw ?_⟩;refine zal (fun c1=>?_) (fun c1=>?_)
     . conv=>whnf
       refine zal (fun c2=>?_) (fun c2=>?_)
       . conv=>whnf
         refine zbw (zw ?_);rw [zy7 ⟨zy31 c1,.inl (zy31 c2)⟩] at hi;exact fin zz0 hi rfl rfl rfl rfl rfl rfl rfl rfl rfl
       . conv=>whnf
         have hb0:¬ best<0:=zy27 c2;refine zcu (r:=[pi s.had[best.toNat]]) zz0 (by simp [show best.toNat<s.had.length by omega]) ?_;(conv=>whnf);refine zal (fun c3=>?_) (fun c3=>?_)
         . conv=>whnf
           refine zbw (zw ?_);rw [zy7 ⟨zy31 c1,.inr (by simpa [show best.toNat<s.had.length by omega] using c3)⟩] at hi;exact fin zz0 hi rfl rfl rfl rfl rfl rfl rfl rfl rfl
         . conv=>whnf
           refine zbw (zw ?_);rw [zy2 (by rintro ⟨_,h | h⟩;exact hb0 h;have:=zy27 c3;simp [show best.toNat<s.had.length by omega] at h;omega)] at hi;exact fin zz0 hi rfl rfl rfl rfl rfl rfl rfl rfl rfl
     . conv=>whnf
       refine zbw (zw ?_);rw [zy2 (by rintro ⟨h,_⟩;exact zy27 c1 h)] at hi;exact fin zz0 hi rfl rfl rfl rfl rfl rfl rfl rfl rfl
   . have hge:s.had.length<=k:=by simpa using h
     rw [zy55 hge] at hi;simp only [zaw] at hi;(conv=>whnf);refine zal (fun c1=>?_) (fun c1=>?_)
     . conv=>whnf
       rw [least,<- hi,zy7 (zy31 c1)]
     . conv=>whnf
       refine zbf (zw ?_);refine ⟨_,zen q best hb,rfl,zw ?_⟩;rw [least,<- hi,zy2 (zy27 c1)]
def zfl (q:List zar) (k:Nat):Nat->Int
 | 0=>-1
 | n+1=>if first q k>=0 then first q k else zfl q (k+1) n
def zow (s:zcn) (q:List zar):Int:=zce (fun m:zar=>m.id==s.hand) 0 q
def next (turns:Int) (s:zcn) (q:List zar):Int :=
 if (q.length:Int)=0 then -1 else if (s.had.length:Int)=0 then -1 else
 if turns=2 then (if zow s q>=0 then zow s q else after q s.last s.had.length 0 s.had.length) else
 if turns=3 then after q s.last s.had.length 0 s.had.length else
 if turns=4 then zfl q 0 s.had.length else
 if turns=5 then least s q else 0
theorem zmj (turns:Int) (s:zcn) (q:List zar) (h9:s.had.length<2 ^ 62) (hb:q.length<2 ^ 62):zbx Try.prog 23 [i64 turns,s.hv,qs q] zan (i64 (next turns s q)) zan:=by
 refine zbe mixed Try.func23 zz2 ?_;have hl:(s.had.map fun n=>[pi n]).length=s.had.length:=by simp
 have hl2:(q.map zar.row).length=q.length:=by simp
 have haft:0<s.had.length->zbx Try.prog 31 [qs q,i64 s.last,i64 (s.had.map fun n=>[pi n]).length] zan (i64 (after q s.last s.had.length 0 s.had.length)) zan:=by
  intro h0;have:=zql q s.last s.had.length zz0 zz0 hb;rw [hl]
  simpa using this
 (conv=>whnf);refine zal (fun c1=>?_) (fun c1=>?_)
 . have c1:(q.length:Int)=0:=by simpa using c1
   (conv=>whnf);rw [next,zy7 c1]
 have c1:¬ (q.length:Int)=0:=by simpa using c1
 rw [next,zy2 c1];(conv=>whnf);refine zal (fun c2=>?_) (fun c2=>?_)
 . have c2:(s.had.length:Int)=0:=by simpa using c2
   (conv=>whnf);rw [zy7 c2]
 have c2:¬ (s.had.length:Int)=0:=by simpa using c2
 rw [zy2 c2];(conv=>whnf);refine zal (fun c3=>?_) (fun c3=>?_)
 . have c3:turns=2:=by simpa using c3
   rw [zy7 c3];(conv=>whnf);refine zbf (zw ?_);refine ⟨_,zpi (fun m=>zqp m s) q hb,rfl,?_⟩;show _;(conv=>whnf);refine zal (fun c4=>?_) (fun c4=>?_)
   . have c4:zow s q>=0:=zy31 c4
     rw [zy7 c4];(conv=>whnf)
     rfl
   . have c4:¬ zow s q>=0:=zy27 c4
     rw [zy2 c4];(conv=>whnf);refine zbf (zw ?_);refine ⟨_,haft zz0,rfl,?_⟩;(conv=>whnf)
 have c3:¬ turns=2:=by simpa using c3
 rw [zy2 c3];(conv=>whnf);refine zal (fun c4=>?_) (fun c4=>?_)
 . have c4:turns=3:=by simpa using c4
   rw [zy7 c4];(conv=>whnf);refine zbf (zw ?_);refine ⟨_,haft zz0,rfl,?_⟩;(conv=>whnf)
 have c4:¬ turns=3:=by simpa using c4
 rw [zy2 c4];(conv=>whnf);refine zal (fun c5=>?_) (fun c5=>?_)
 . have c5:turns=4:=by simpa using c5
   rw [zy7 c5];(conv=>whnf);refine ⟨{k:Nat // k<=s.had.length/\zfl q k (s.had.length-k)=zfl q 0 s.had.length},fun | ⟨k,_⟩=>hs 64 [(2,qs q),(47,i64 s.had.length),(48,i64 k)] [],fun k=>s.had.length-k.1,⟨0,by omega,rfl⟩,?_,?_⟩
   . exact zca [] rfl rfl rfl rfl ⟨⟨rfl,rfl⟩,⟨rfl,by rw [<- hl];rfl⟩,⟨rfl,rfl⟩,trivial⟩ trivial
   . rintro ⟨k,hk,hi⟩
     (conv=>whnf);refine zal (fun h=>?_) (fun h=>?_)
     . have hlt:k<s.had.length:=by simpa using h
       (conv=>whnf);refine zbf (zw ?_);refine ⟨_,zen q k hb,rfl,zw ?_⟩;obtain ⟨j,hj⟩:∃ j,s.had.length-k=j+1:=⟨s.had.length-k-1,by omega⟩
       rw [hj] at hi;simp only [zfl] at hi;refine zal (fun h=>?_) (fun h=>?_)
       . conv=>whnf
         rw [zy7 (zy31 h)] at hi;rw [<- hi]
       . conv=>whnf
         rw [zy2 (zy27 h)] at hi;refine zed (zju zz0 zz0) ?_;(conv=>whnf);exact ⟨⟨k+1,by omega,by rw [show s.had.length-(k+1)=j by omega];exact hi⟩,zca [] rfl rfl rfl rfl ⟨⟨rfl,rfl⟩,⟨rfl,rfl⟩,⟨rfl,by simp;rfl⟩,trivial⟩ trivial,by dsimp only;omega⟩
     . conv=>whnf
       have hge:s.had.length<=k:=by simpa using h
       rw [show s.had.length-k=0 by omega] at hi;rw [<- hi];rfl
 have c5:¬ turns=4:=by simpa using c5
 rw [zy2 c5];(conv=>whnf);refine zal (fun c6=>?_) (fun c6=>?_)
 . have c6:turns=5:=by simpa using c6
   rw [zy7 c6];(conv=>whnf);refine zbf (zw ?_);refine ⟨_,zqo s q h9 hb,rfl,?_⟩;(conv=>whnf)
 have c6:¬ turns=5:=by simpa using c6
 rw [zy2 c6];(conv=>whnf)
theorem zqn (l:List Int) (hb:l.length<2 ^ 40):zbx Try.prog 37 [ints l] zan (.own 0) (lk .free [(0,.live (.row 3 1 (l.map fun n=>[pi n])))]):=by
 refine zoj mixed Try.func37 zz2 [] (fun _=>.inl rfl) ?_;(conv=>whnf);intro b hn;(conv=>whnf);refine zal (fun c=>?_) (fun c=>?_)
 . conv=>whnf
   refine znf [(0,none)] rfl rfl trivial rfl rfl ⟨⟨rfl,.inr ⟨rfl,hn c⟩⟩,trivial⟩
 . conv=>whnf
   refine zbg (c:=(([]:List (List PV)).length+(l.map fun n=>[pi n]).length)*8<=140737488355328) zz13 ?_;(conv=>whnf);refine znf [(0,some 7)] rfl rfl trivial rfl rfl ⟨⟨rfl,.inl ⟨7,rfl,?_⟩⟩,trivial⟩
   rfl
theorem zpl (s:zcn) (hb:s.had.length<2 ^ 40):zbx Try.prog 28 [s.hv] zan (.agg [i64 s.last,i64 s.hand,.own 0]) (lk .free [(0,.live (.row 3 1 (s.had.map fun n=>[pi n])))]):=by
 refine zoj mixed Try.func28 zz2 [] (fun _=>.inl rfl) ?_;(conv=>whnf);refine zhu [(0,5)] (zw ?_);refine ⟨_,_,zqn s.had hb,⟨⟨⟨rfl,rfl⟩,trivial⟩,rfl,rfl,rfl⟩,?_⟩;(conv=>whnf);exact znf [(0,some 5)] rfl rfl trivial rfl rfl ⟨⟨rfl,.inl ⟨5,rfl,rfl⟩⟩,trivial⟩
def had (s:zcn) (m:zar) (bytes:Int) (zsr:Bool):zcn :=
 ⟨m.message.stream,if zsr then -1 else m.id,if 0<=m.message.stream/\m.message.stream<s.had.length then s.had.set m.message.stream.toNat (W (s.had[m.message.stream.toNat]?.getD 0+bytes)) else s.had⟩
theorem zph (s:zcn) (m:zar) (bytes:Int) (zsr:Bool) (hb:s.had.length<2 ^ 40):zbx Try.prog 24 [s.hv,m.hv,i64 bytes,zbr zsr] zan (had s m bytes zsr).hv zan:=by
 refine zbe mixed Try.func24 zz2 ?_;(conv=>whnf);refine zhu [(0,11)] (zw ?_);refine ⟨_,_,zpl s hb,⟨⟨⟨rfl,rfl⟩,trivial⟩,rfl,rfl,rfl⟩,?_⟩;(conv=>whnf);refine zex ?_ ?_
 . kernel_rfl
 (conv=>whnf);refine zuy.go (zw ?_);have h1:(had s m bytes true).hv=.agg [i64 m.message.stream,i64 (-1),ints (had s m bytes zsr).had]:=by simp [had,zcn.hv]
 have h2:(had s m bytes false).hv=.agg [i64 m.message.stream,i64 m.id,ints (had s m bytes zsr).had]:=by simp [had,zcn.hv]
 have hy:∀ (c2:0<=m.message.stream) (c3:m.message.stream<s.had.length),(s.had.map fun n=>[pi n]).set m.message.stream.toNat [pi (W (s.had[m.message.stream.toNat]+bytes))]=(had s m bytes zsr).had.map fun n=>[pi n]:=by
  intro c2 c3;simp only [had,zy7 (And.intro c2 c3)];rw [List.map_set,zy5 (by omega)]
  rfl
 have hn:¬ (0<=m.message.stream/\m.message.stream<s.had.length)->s.had=(had s m bytes zsr).had:=by
  intro h;simp only [had,zy2 h]
 refine zal (fun c1=>?_) (fun c1=>?_)
 all_goals
  subst c1
  first | rw [h1] | rw [h2]
  (conv=>whnf);refine zuy.go (zw ?_);refine zal (fun c2=>?_) (fun c2=>?_)
  . conv=>whnf
    refine zal (fun c3=>?_) (fun c3=>?_)
    . conv=>whnf
      have c2:m.message.stream>=0:=zy31 c2;have c3:m.message.stream<s.had.length:=by simpa using c3
      refine sOm ?_;refine zcu (r:=[pi s.had[m.message.stream.toNat]]) zz0 (by rw [zy41,zy10,zy5 (h:=show m.message.stream.toNat<s.had.length by omega)];rfl) ?_;(conv=>whnf);refine zbw (zw ?_);refine sOm ?_;refine zcu (r:=[pi s.had[m.message.stream.toNat]]) zz0 (by rw [zy41,zy10,zy5 (h:=show m.message.stream.toNat<s.had.length by omega)];rfl) ?_;(conv=>whnf);have:=hy c2 c3
      first | rw [this] | (simp only [zy41];rw [this])
    . conv=>whnf
      have c3:¬ m.message.stream<s.had.length:=by simpa using c3
      rw [hn fun h=>c3 h.2]
  . conv=>whnf
    have c2:¬ m.message.stream>=0:=zy27 c2;rw [hn fun h=>c2 h.1]
def new (n:Int):zcn:=⟨W (n-1),-1,List.replicate (max n 0).toNat 0⟩
theorem zpk (n:Int) (hb:n<2 ^ 40):zbx Try.prog 22 [i64 n] zan (new n).hv zan:=by
 refine zbe mixed Try.func22 zz2 ?_;(conv=>whnf);refine zbw (zw ?_);refine zbg (c:=0<=(if 0>n then 0 else n)/\(if 0>n then 0 else n)=(if 0>n then 0 else n)/\(if 0>n then 0 else n)*8<=140737488355328) zz0 ?_;(conv=>whnf);have e:(if 0>n then 0 else n)=max n 0:=by omega
 rw [e];have e2:List.replicate (max n 0).toNat [pi 0]=(List.replicate (max n 0).toNat (0:Int)).map fun n=>[pi n]:=by rw [List.map_replicate]
 show HV.agg [i64 (W (n-1)),i64 (-1),.p (.sl 1 (List.replicate (max n 0).toNat [pi 0]))]=_;rw [e2]
 rfl
def msg (id stream:Int):zar:=⟨id,0,0,0,0,⟨stream,false,0,0,[]⟩⟩
theorem zpj (id stream:Int):zbx Try.prog 21 [i64 id,i64 stream] zan (msg id stream).hv zan:=by
 refine zbe mixed Try.func21 zz2 ?_;(conv=>whnf)
 try rfl
theorem zqm:zbx Try.prog 20 [] zan (zbr true) zan:=by
 refine zbe mixed Try.func20 zz2 ?_;(conv=>whnf)
 (repeat' (first | (refine zbw ?_;conv=>whnf) | (refine zbg ?_ ?_;(first | kernel_rfl | decide);conv=>whnf) | (refine zex ?_ ?_;kernel_rfl;conv=>whnf) | (refine zuy.go ?_;conv=>whnf) | (refine zct ?_;(conv=>whnf);refine ⟨_,zpj _ _,rfl,?_⟩;conv=>whnf) | (refine zct ?_;(conv=>whnf);refine ⟨_,zpk _ zz2,rfl,?_⟩;conv=>whnf) | (refine zct ?_;(conv=>whnf);refine ⟨_,zph ⟨_,_,_⟩ ⟨_,_,_,_,_,⟨_,_,_,_,_⟩⟩ _ _ zz2,rfl,?_⟩;conv=>whnf) | (refine zbf ?_;(conv=>whnf);refine ⟨_,zmj _ ⟨_,_,_⟩ [_,_] zz2 zz2,rfl,?_⟩;conv=>whnf) | (refine zhu [(0,900)]  ?_;(conv=>whnf);refine ⟨_,_, zpl ⟨_,_,_⟩ zz2,⟨⟨⟨rfl,rfl⟩,trivial⟩,rfl,rfl,rfl⟩,?_⟩;conv=>whnf) | (refine zcu ?_ rfl ?_;(first | decide | kernel_rfl | omega);conv=>whnf) | (refine ztd ?_ ?_;· kernel_rfl;conv=>whnf) | (refine zhv ?_ ?_;· kernel_rfl;conv=>whnf)))
 all_goals kernel_rfl
end Sch
namespace Sch
section
variable {α:Type} {p:α->Bool}
theorem zou:∀ {l:List α} {k:Nat},zce p k l<0->∀ x∈l,p x=false
 | [],k,_,x,hx=>by cases hx
 | y::r,k,h,x,hx=>by
  simp only [zce] at h;split at h
  . omega
  . rename_i hp
    rcases zy11.1 hx with rfl | hx
    . simpa using hp
    . exact zou h x hx
theorem zov:∀ {l:List α} {k:Nat},0<=zce p k l->∃ i,∃ h:i<l.length,zce p k l=((k+i:Nat):Int)/\p l[i]=true/\∀ j,(hj:j<i)->p (l[j]'(Nat.lt_trans hj h))=false
 | [],k,h=>by simp [zce] at h
 | y::r,k,h=>by
  simp only [zce] at h ⊢;by_cases hp:p y=true
  . exact ⟨0,by simp,by rw [zy7 hp];simp,by simpa using hp,fun j hj=>absurd hj zz0⟩
  . rw [zy2 hp] at h ⊢
    obtain ⟨i,h1,h2,h3,h4⟩:=zov h;refine ⟨i+1,by simp;omega,by rw [h2];congr 1;omega,by simpa using h3,fun j hj=>?_⟩;cases j with
    | zero=>simpa using hp
    | succ j=>simpa using h4 j zz0
end
end Sch
namespace Sch
def all (n:Nat):List zar:=(List.range n).map fun k:Nat=>msg (k:Int) (k:Int)
theorem zfv (n:Nat):(all n).length=n:=by simp [all]
theorem zqw {n k:Nat} (h:k<(all n).length):(all n)[k]=msg (k:Int) (k:Int):=by simp [all]
theorem all_succ (n:Nat):all (n+1)=all n++[msg n n]:=by simp [all,List.range_succ]
theorem zht:∀ {n:Nat} {st:Int},0<=st->st<n->first (all n) st=st:=by
 intro n st h0 h1;have hmem:msg st st∈all n:=by
  refine zy6.2 ⟨st.toNat,List.mem_range.2 zz0,?_⟩;rw [Int.toNat_of_nonneg h0]
 have hge:0<=first (all n) st:=by
  rcases Int.lt_or_le (first (all n) st) 0 with h | h
  . have:=zou (p:=fun m:zar=>m.message.stream==st) (l:=all n) (k:=0) h _ hmem
    simp [msg] at this
  . exact h
 obtain ⟨i,h1',h2,h3,h4⟩:=zov hge;rw [first,h2];rw [zqw] at h3;simp [msg] at h3;simp;omega
theorem zqf {n:Nat} {s:zcn} (hn:0<n) (hl:s.had.length=n) (h0:0<=s.last) (h1:s.last<n) (h9:n<100):next 3 s (all n)=(s.last+1) % n:=by
 rw [next,zy2 (by rw [zfv];omega),zy2 zz0,zy2 zz2,zy7 rfl,hl];obtain ⟨m,hm⟩:∃ m,n=m+1:=⟨n-1,by omega⟩
 have e1:W (s.last+1)=s.last+1:=zju zz0 zz0;have e2:W (W (s.last+1)+(0:Nat))=s.last+1:=by rw [e1];simp;exact e1
 have e3:(s.last+1).tmod (n:Int)=(s.last+1) % n:=Int.tmod_eq_emod_of_nonneg zz0;have e4:first (all n) ((s.last+1) % n)=(s.last+1) % n:=zht (Int.emod_nonneg _ zz0) (Int.emod_lt_of_pos _ zz0);have hge:0<=(s.last+1) % n:=Int.emod_nonneg _ zz0;show after (all n) s.last n 0 n=_;generalize hq:all n=q at e4 ⊢;rw [hm] at *
 show (if first q ((W (W (s.last+1)+(0:Nat))).tmod ((m+1:Nat):Int))>=0 then first q ((W (W (s.last+1)+(0:Nat))).tmod ((m+1:Nat):Int)) else _)=_;rw [e2,e3,e4,zy7 hge]
theorem zek {n:Nat} {had:List Int} (hl:had.length=n):∀ {l:List Int} {k:Nat} {best:Int},k+l.length=n->(∀ i,(h:i<l.length)->had[k+i]?=some l[i]) ->
 ((best=-1/\k=0)\/(0<=best/\best<k/\∀ i,i<k->had[best.toNat]?.getD 0<=had[i]?.getD 0))->0<n ->
 0<=zaw (all n) had best k l/\zaw (all n) had best k l<n/\∀ i,i<n->had[(zaw (all n) had best k l).toNat]?.getD 0<=had[i]?.getD 0
 | [],k,best,h1,h2,h3,h0=>by
  simp only [zaw];simp at h1;rcases h3 with ⟨_,h3⟩ | ⟨h3,h4,h5⟩
  . omega
  . exact ⟨h3,by omega,fun i hi=>h5 i zz0⟩
 | x::r,k,best,h1,h2,h3,h0=>by
  simp only [zy34] at h1;have hx:had[k]?=some x:=by have:=h2 0 zz1;simpa using this
  have hr:∀ i,(h:i<r.length)->had[k+1+i]?=some r[i]:=fun i h=>by
   have:=h2 (i+1) zz13;rw [show k+1+i=k+(i+1) by omega]
   simpa using this
  have hf:first (all n) k=k:=zht zz0 zz0;simp only [zaw,hf];rcases h3 with ⟨h3,h4⟩ | ⟨h3,h4,h5⟩
  . rw [zy7 ⟨by omega,.inl (by omega)⟩]
    refine zek hl zz0 hr (.inr ⟨by omega,by omega,fun i hi=>?_⟩) h0;have:i=k:=by omega
    subst this;simp
  . split
    . rename_i hlt
      have hlt:x<had[best.toNat]?.getD 0:=by rcases hlt.2 with h | h;omega;exact h
      refine zek hl zz0 hr (.inr ⟨by omega,by omega,fun i hi=>?_⟩) h0;rw [zy41,hx];rcases zy36 i k with h | h
      . have:=h5 i h;simp only [zy67];omega
      . have:i=k:=by omega
        subst this;rw [hx];simp
    . rename_i hlt
      have hlt:¬ x<had[best.toNat]?.getD 0:=fun h=>hlt ⟨by omega,.inr h⟩
      refine zek hl zz0 hr (.inr ⟨h3,by omega,fun i hi=>?_⟩) h0;rcases zy36 i k with h | h
      . exact h5 i h
      . have:i=k:=by omega
        subst this;rw [hx];simp only [zy67];omega
theorem zrx {n:Nat} {s:zcn} (hn:0<n) (hl:s.had.length=n):0<=next 5 s (all n)/\next 5 s (all n)<n/\∀ i,i<n->s.had[(next 5 s (all n)).toNat]?.getD 0<=s.had[i]?.getD 0:=by
 rw [next,zy2 (by rw [zfv];omega),zy2 zz0,zy2 zz2,zy2 zz2,zy2 zz2,zy7 rfl];obtain ⟨h1,h2,h3⟩:=zek hl (l:=s.had) (k:=0) (best:=-1) zz0 (fun i h=>by rw [zy23,zy5 h]) (.inl ⟨rfl,rfl⟩) hn;rw [least,zy2 (by omega),zht h1 h2];exact ⟨h1,h2,h3⟩
theorem zwa {l:List Int} {t:Nat} (h:t<l.length) (a:Int) (i:Nat):(l.set t a)[i]?.getD 0=if t=i then a else l[i]?.getD 0:=by
 rw [zy57];split
 . first | rfl | (rw [zy7 h];rfl)
 . rfl
structure FI (n:Nat) (part:Int) (fair:Bool) (k:Nat) (s:zcn) (had:List Int):Prop where
 len:had.length=n
 slen:s.had.length=n
 lo:∀ i:Nat,i<n->0<=had[i]?.getD 0/\had[i]?.getD 0<=k
 close:∀ i j:Nat,i<n->j<n->had[i]?.getD 0<=had[j]?.getD 0+1
 bytes:∀ i:Nat,i<n->s.had[i]?.getD 0=part*had[i]?.getD 0
 turn:0<=s.last/\s.last<n
 round:fair=false->∃ q:Int,∀ i:Nat,i<n->had[i]?.getD 0=if (i:Int)<=s.last then q+1 else q
theorem FI.start {n:Nat} (part:Int) (fair:Bool) (hn:0<n) (h4:n<=4):FI n part fair 0 (new n) (List.replicate n 0):=by
 have e1:W ((n:Int)-1)=n-1:=zju zz0 zz0;have e2:(max (n:Int) 0).toNat=n:=by omega
 have hg:∀ i:Nat,(List.replicate n (0:Int))[i]?.getD 0=0:=by
  intro i;rw [zy53];split<;>rfl
 have hd:(new n).had=List.replicate n 0:=by simp only [new,e2]
 have hlast:(new n).last=n-1:=by simp only [new,e1]
 refine ⟨by simp,by rw [hd];simp,?_,?_,?_,by rw [hlast];omega,?_⟩
 . intro i _;rw [hg];omega
 . intro i j _ _;rw [hg,hg];omega
 . intro i _;rw [hd,hg];simp
 . intro _
   refine ⟨-1,fun i hi=>?_⟩;rw [hlast,hg,zy7 (by omega)];rfl
theorem FI.next {n:Nat} {part:Int} {fair:Bool} {k:Nat} {s:zcn} {hd:List Int} (h:FI n part fair k s hd) (hn:0<n) (h4:n<=4) (hp:1<=part) (hp2:part<=16) (hk:k<100) :
 ∃ t:Nat,t<n/\Sch.next (if fair then 5 else 3) s (all n)=t/\FI n part fair (k+1) (had s (msg t t) part false) (hd.set t (hd[t]?.getD 0+1)):=by
 have hturn:∃ t:Nat,t<n/\Sch.next (if fair then 5 else 3) s (all n)=t/\(∀ i:Nat,i<n->fair=true->hd[t]?.getD 0<=hd[i]?.getD 0)/\(fair=false->(t:Int)=(s.last+1) % n):=by
  cases fair with
  | true =>
   obtain ⟨h1,h2,h3⟩:=zrx hn h.slen;refine ⟨(Sch.next 5 s (all n)).toNat,by omega,by simp;omega,fun i hi _=>?_,fun h=>(by cases h)⟩;have:=h3 i hi;rw [h.bytes _ (by omega),h.bytes i hi] at this;exact Int.le_of_mul_le_mul_left this zz0
  | false =>
   have h1:=zqf hn h.slen h.turn.1 h.turn.2 zz0;have h2:0<=(s.last+1) % n:=Int.emod_nonneg _ zz0;have h3:(s.last+1) % n<n:=Int.emod_lt_of_pos _ zz0;exact ⟨((s.last+1) % n).toNat,by omega,by simp [h1];omega,fun i hi h=>(by cases h),fun _=>by omega⟩
 obtain ⟨t,ht,zrj,hleast,hround⟩:=hturn;have hlo:=h.lo;have hW:W (s.had[t]?.getD 0+part)=part*(hd[t]?.getD 0+1):=by
  have h1:=h.lo t ht;have h2:0<=part*hd[t]?.getD 0:=Int.mul_nonneg zz0 h1.1;have h3:part*hd[t]?.getD 0<=16*100:=Int.mul_le_mul hp2 zz0 h1.1 zz0;rw [h.bytes t ht,zju (by omega) (by omega),Int.mul_add,Int.mul_one]
 have hs':(had s (msg t t) part false).had=s.had.set t (part*(hd[t]?.getD 0+1)):=by
  simp only [had,msg,zy41,hW];rw [zy7 ⟨by omega,by rw [h.slen];omega⟩]
 refine ⟨t,ht,zrj,⟨by simp [h.len],by rw [hs'];simp [h.slen],?_,?_,?_,?_,?_⟩⟩
 . intro i hi
   rw [zwa (by rw [h.len];exact ht)];have h1:=hlo i hi;have h2:=hlo t ht;split<;>push_cast<;>omega
 . intro i j hi hj
   rw [zwa (by rw [h.len];exact ht),zwa (by rw [h.len];exact ht)];have h1:=h.close i j hi hj;have h2:=h.close t j ht hj;have h3:=h.close i t hi ht;cases hf:fair with
   | true =>
    have h4:=hleast j hj hf;split<;>split<;>omega
   | false =>
    obtain ⟨q,hq⟩:=h.round hf;have h4:=hround hf;have e1:=hq i hi;have e2:=hq j hj;have e3:=hq t ht;have e0:=hq 0 zz0;have hl:=h.turn;have h5:(t:Int)=if s.last=n-1 then 0 else s.last+1:=by
     exact yy28
    split at h5<;>split at e1<;>split at e2<;>split at e3<;>split<;>split<;>omega
 . intro i hi
   rw [hs',zwa (by rw [h.slen];exact ht),zwa (by rw [h.len];exact ht)];split
   . rfl
   . exact h.bytes i hi
 . show 0<=(t:Int)/\(t:Int)<n
   omega
 . intro hf
   obtain ⟨q,hq⟩:=h.round hf;have h4:=hround hf;have hl:=h.turn;have h5:(t:Int)=if s.last=n-1 then 0 else s.last+1:=by
    exact yy28
   have e3:=hq t ht;refine ⟨if s.last=n-1 then q+1 else q,fun i hi=>?_⟩;have e1:=hq i hi;rw [zwa (by rw [h.len];exact ht)];show (if t=i then hd[t]?.getD 0+1 else hd[i]?.getD 0)=if (i:Int)<=(t:Int) then (if s.last=n-1 then q+1 else q)+1 else if s.last=n-1 then q+1 else q
   by_cases hc:s.last=n-1
   . rw [zy7 hc] at h5
     rw [zy7 hc];split at e1<;>split at e3<;>split<;>split<;>omega
   . rw [zy2 hc] at h5
     rw [zy2 hc];split at e1<;>split at e3<;>split<;>split<;>omega
theorem fair (streams part times:Int) (byBytes:Bool):zbx Try.prog 6 [i64 streams,i64 part,i64 times,zbr byBytes] zan (zbr true) zan:=by
 refine zbe mixed Try.func6 zz2 ?_;(conv=>whnf);refine zbf (zw ?_);refine ⟨_,zqm,rfl,zw ?_⟩;refine zal (fun h=>?_) (fun h1=>?_)<;>conv=>whnf
 refine zal (fun h=>?_) (fun h2=>?_)<;>conv=>whnf
 refine zal (fun h=>?_) (fun h3=>?_)<;>conv=>whnf
 refine zal (fun h=>?_) (fun h4=>?_)<;>conv=>whnf
 refine zal (fun h=>?_) (fun h5=>?_)<;>conv=>whnf
 refine zal (fun h=>?_) (fun h6=>?_)<;>conv=>whnf
 simp only [decide_eq_false_iff_not] at h1 h2 h3 h4 h5 h6;obtain ⟨n,rfl⟩:∃ n:Nat,streams=n:=⟨streams.toNat,by omega⟩
 refine ⟨{k:Nat // k<=n},fun | ⟨k,_⟩=>hs 106 [(0,i64 n),(1,i64 part),(2,i64 times),(3,zbr byBytes),(9,.own 900),(43,i64 n),(44,i64 k)] [(900,.live (.row 40 10 ((all k).map zar.row)))],fun x=>n-x.1,⟨0,by omega⟩,?_,?_⟩
 . exact zca [(900,none)] rfl rfl rfl rfl ⟨⟨rfl,rfl⟩,⟨rfl,rfl⟩,⟨rfl,rfl⟩,⟨rfl,rfl⟩,⟨rfl,rfl⟩,⟨rfl,rfl⟩,⟨rfl,rfl⟩,trivial⟩ ⟨⟨rfl,.inr ⟨rfl,rfl⟩⟩,trivial⟩
 rintro ⟨k,hk⟩;(conv=>whnf);refine zal (fun c=>?_) (fun c=>?_)
 . have hlt:k<n:=by simpa using c
   (conv=>whnf);refine zct (zw ?_);refine ⟨_,zpj k k,rfl,zw ?_⟩;refine zbg (c:=(((all k).map zar.row).length+1)*96<=140737488355328) (by rw [zy39,zfv];omega) (zw ?_);refine sFm ?_;refine ⟨⟨k+1,hlt⟩,zca [(900,some 52)] rfl rfl rfl rfl ⟨⟨rfl,rfl⟩,⟨rfl,rfl⟩,⟨rfl,rfl⟩,⟨rfl,rfl⟩,⟨rfl,rfl⟩,⟨rfl,rfl⟩,⟨rfl,by simp;rfl⟩,trivial⟩ ⟨⟨rfl,.inl ⟨52,rfl,?_⟩⟩,trivial⟩,by dsimp only;omega⟩;show zaa.live (.row _ 10 ((all k).map zar.row++[(msg k k).row]))=zaa.live (.row _ 10 ((all (k+1)).map zar.row));rw [all_succ,zy46]
   rfl
 have hkn:k=n:=by have:=zy27 c;omega
 subst hkn;(conv=>whnf);refine zuy.meet PUnit (fun _=>hs 106 [(0,i64 k),(1,i64 part),(2,i64 times),(9,.own 900),(11,i64 (if byBytes then 5 else 3))] [(900,.live (.row 40 10 ((all k).map zar.row)))]) ?_ ?_
 . conv=>whnf
   refine zal (fun hb=>?_) (fun hb=>?_)
   . subst hb
     exact yy14
   . subst hb
     exact yy14
 rintro ⟨⟩;(conv=>whnf);refine zct (zw ?_);refine ⟨_,zpk k zz0,rfl,?_⟩;have hstart:=FI.start part byBytes (n:=k) zz0 zz0;generalize new k=s0 at hstart ⊢;(conv=>whnf);refine zbg (c:=0<=(k:Int)/\(k:Int)=k/\(k:Int)*8<=140737488355328) zz0 (zw ?_);refine ⟨{x:Nat×zcn×List Int // (x.1:Int)<=times/\FI k part byBytes x.1 x.2.1 x.2.2},fun | ⟨(j,s,hd),_⟩=>hs 106 [(1,i64 part),(9,.own 900),(11,i64 (if byBytes then 5 else 3)),(12,.ptr 12 0),(13,.own 901),(59,i64 times),(60,i64 j)] [(900,.live (.row 40 10 ((all k).map zar.row))),(12,.live (.cells 43 s.cells)),(901,.live (.row 3 1 (hd.map fun n=>[pi n])))],fun x=>times.toNat-x.1.1,⟨(0,s0,List.replicate k 0),by dsimp only;omega,hstart⟩,?_,?_⟩
 . refine zca [(900,some 900),(12,some 12),(901,some 58)] rfl rfl rfl rfl ⟨⟨rfl,rfl⟩,⟨rfl,rfl⟩,⟨rfl,rfl⟩,⟨rfl,rfl⟩,⟨rfl,rfl⟩,⟨rfl,rfl⟩,⟨rfl,rfl⟩,trivial⟩ ⟨⟨rfl,.inl ⟨900,rfl,rfl⟩⟩,⟨rfl,.inl ⟨12,rfl,rfl⟩⟩,⟨rfl,.inl ⟨58,rfl,?_⟩⟩,trivial⟩
   show zaa.live (.row _ 1 (List.replicate (k:Int).toNat [pi 0]))=zaa.live (.row _ 1 ((List.replicate k (0:Int)).map fun n=>[pi n]));rw [List.map_replicate]
   rfl
 rintro ⟨⟨j,s,hd⟩,hj,hinv⟩;dsimp only at hj hinv;have hal:((all k).map zar.row).length=k:=by rw [zy39,zfv]
 (conv=>whnf);refine zal (fun c1=>?_) (fun c1=>?_)
 . have hjt:(j:Int)<times:=by simpa using c1
   obtain ⟨t,ht,zrj,hn⟩:=hinv.next zz0 zz0 zz0 zz0 zz0;(conv=>whnf);refine zbf (zw ?_);refine ⟨_,zmj (if byBytes then 5 else 3) s (all k) (by rw [hinv.slen];omega) (by rw [zfv];omega),rfl,?_⟩;rw [zrj];(conv=>whnf);refine zhv ?_ ?_
   . refine decide_eq_false ?_
     rw [hal];omega
   (conv=>whnf);have hdl:(hd.map fun n=>[pi n]).length=k:=by rw [zy39,hinv.len]
   refine zbg zz21 (zw ?_);refine zhy (f:=fun n=>[pi n]) (l:=hd) t zz0 zz12 (zw ?_);have hv:=hinv.lo t ht;have hget:hd[t]'zz12=hd[t]?.getD 0:=by rw [zy5 (by rw [hinv.len];exact ht)];rfl
   refine zed (zju (by rw [hget];omega) (by rw [hget];omega)) (zw ?_);refine zbg zz21 (zw ?_);refine zhy (f:=fun n=>[pi n]) (l:=hd) t zz0 zz12 (zw ?_);refine zbg (by rw [hal];omega) (zw ?_);refine zhy (f:=zar.row) (l:=all k) t zz0 (by rw [zfv];exact ht) ?_;rw [zqw];(conv=>whnf);refine zct (zw ?_);refine ⟨_,zph s (msg t t) part false (by rw [hinv.slen];omega),rfl,?_⟩;generalize had s (msg t t) part false=s' at hn ⊢;(conv=>whnf);refine zex ?_ ?_
   . kernel_rfl
   (conv=>whnf);refine sFm ?_;refine ⟨⟨(j+1,s',hd.set t (hd[t]?.getD 0+1)),by dsimp only;omega,hn⟩,zca [(900,some 900),(12,some 12),(901,some 901)] rfl rfl rfl rfl ⟨⟨rfl,rfl⟩,⟨rfl,rfl⟩,⟨rfl,rfl⟩,⟨rfl,rfl⟩,⟨rfl,rfl⟩,⟨rfl,rfl⟩,⟨rfl,by simp;rfl⟩,trivial⟩ ⟨⟨rfl,.inl ⟨900,rfl,rfl⟩⟩,⟨rfl,.inl ⟨12,rfl,rfl⟩⟩,⟨rfl,.inl ⟨901,rfl,?_⟩⟩,trivial⟩,by dsimp only;omega⟩;show zaa.live (.row _ 1 ((hd.map fun n=>[pi n]).set t [pi (hd[t]'zz12+1)]))=zaa.live (.row _ 1 ((hd.set t (hd[t]?.getD 0+1)).map fun n=>[pi n]));rw [hget,List.map_set]
 have hget:∀ i:Nat,(h:i<hd.length)->hd[i]=hd[i]?.getD 0:=fun i h=>by rw [zy5 h];rfl
 have hdl:(hd.map fun n=>[pi n]).length=k:=by rw [zy39,hinv.len]
 (conv=>whnf);refine ⟨{i:Nat // i<=k},fun | ⟨i,_⟩=>hs 106 [(13,.own 901),(88,.own 901),(89,i64 k),(90,i64 i)] [(901,.live (.row 3 1 (hd.map fun n=>[pi n])))],fun x=>k-x.1,⟨0,by omega⟩,?_,?_⟩
 . exact zca [(901,some 901)] rfl rfl rfl rfl ⟨⟨rfl,rfl⟩,⟨rfl,rfl⟩,⟨rfl,congrArg (fun z:Nat=>i64 z) hdl.symm⟩,⟨rfl,rfl⟩,trivial⟩ ⟨⟨rfl,.inl ⟨901,rfl,rfl⟩⟩,trivial⟩
 rintro ⟨i,hi⟩;(conv=>whnf);refine zal (fun c2=>?_) (fun c2=>?_)
 rotate_left
 . conv=>whnf
 have hik:i<k:=by simpa using c2
 (conv=>whnf);refine zbg zz21 (zw ?_);refine zhy (f:=fun n=>[pi n]) (l:=hd) i zz0 (by rw [hinv.len];exact hik) (zw ?_);refine ⟨{m:Nat // m<=k},fun | ⟨m,_⟩=>hs 106 [(13,.own 901),(16,i64 (hd[i]?.getD 0)),(88,.own 901),(89,i64 k),(90,i64 i),(94,.own 901),(95,i64 k),(96,i64 m)] [(901,.live (.row 3 1 (hd.map fun n=>[pi n])))],fun x=>k-x.1,⟨0,by omega⟩,?_,?_⟩
 . exact zca [(901,some 901)] rfl rfl rfl rfl ⟨⟨rfl,rfl⟩,⟨rfl,by rw [<- hget i (by rw [hinv.len];exact hik)];rfl⟩,⟨rfl,rfl⟩,⟨rfl,rfl⟩,⟨rfl,rfl⟩,⟨rfl,rfl⟩,⟨rfl,congrArg (fun z:Nat=>i64 z) hdl.symm⟩,⟨rfl,rfl⟩,trivial⟩ ⟨⟨rfl,.inl ⟨901,rfl,rfl⟩⟩,trivial⟩
 rintro ⟨m,hm⟩;(conv=>whnf);refine zal (fun c3=>?_) (fun c3=>?_)
 . have hmk:m<k:=by simpa using c3
   have h1:=hinv.lo i hik;have h2:=hinv.lo m hmk;have h3:=hinv.close i m hik hmk;(conv=>whnf);refine zbg zz21 (zw ?_);refine zhy (f:=fun n=>[pi n]) (l:=hd) m zz0 (by rw [hinv.len];exact hmk) ?_;rw [hget m (by rw [hinv.len];exact hmk)];(conv=>whnf);refine sFm ?_;refine zhv (decide_eq_false zz0) (zw ?_);refine sFm ?_;exact ⟨⟨m+1,hmk⟩,zca [(901,some 901)] rfl rfl rfl rfl ⟨⟨rfl,rfl⟩,⟨rfl,rfl⟩,⟨rfl,rfl⟩,⟨rfl,rfl⟩,⟨rfl,rfl⟩,⟨rfl,rfl⟩,⟨rfl,rfl⟩,⟨rfl,by simp;rfl⟩,trivial⟩ ⟨⟨rfl,.inl ⟨901,rfl,rfl⟩⟩,trivial⟩,by dsimp only;omega⟩
 . conv=>whnf
   refine sFm ?_;exact ⟨⟨i+1,hik⟩,zca [(901,some 901)] rfl rfl rfl rfl ⟨⟨rfl,rfl⟩,⟨rfl,rfl⟩,⟨rfl,rfl⟩,⟨rfl,by simp;rfl⟩,trivial⟩ ⟨⟨rfl,.inl ⟨901,rfl,rfl⟩⟩,trivial⟩,by dsimp only;omega⟩
end Sch
end Go.HL
