/- slices.swapRangeCmpFunc at tasks: walked. Conditions: two parts of the row that do not meet. Rows of tasks as lists: two parts of one length exchanged. Conditions: none. slices.insertionSortCmpFunc at tasks, as lists. Conditions: the row lies in memory. The plain law of a stable sort: runs that are sorted, a part of a row put in order. Conditions: none. slices.rotateCmpFunc at tasks: walked. Conditions: two parts of the row, neither of them empty. What slices.symMergeCmpFunc's loops hold, in plain Lean; cells of a row of tasks, two neighbours exchanged. Conditions: the row lies in memory. -/
import Derived.Test.YtjfelfjobeeenaaGreatF10
import Derived.Shelf.SlSortCmp.WholeK
set_option linter.unusedSimpArgs false
set_option linter.unusedVariables false
namespace Go.Proofs.YtjfelfjobeeenaaGreat
open Go.RowKit Go.Sf Go.Shelf Go.Sort Go.Lib
instance:Inhabited Tsk:=⟨⟨⟨⟨#[]⟩,0⟩,0,0⟩⟩
def tskCells (t:Tsk):List Value:=[.string t.id.key,.int .i64 t.id.ver,.int .i64 t.nd,.int .i64 t.held]
def swapN (d:Array Tsk) (a b:Nat):Nat→Array Tsk
 | 0=>d
 | n+1=>swp (swapN d a b n) (a+n) (b+n)
theorem size_swapN (d:Array Tsk) (a b:Nat):∀n,(swapN d a b n).size=d.size
 | 0=>rfl
 | n+1=>by rw[swapN,size_swp,size_swapN d a b n]
theorem sc4 (w:World) (b o:Nat) (v0 v1 v2 v3:Value):w.setCells b o [v0,v1,v2,v3]=(((w.setCell ⟨b,o,none⟩ v0).setCell ⟨b,o+1,none⟩ v1).setCell ⟨b,o+2,none⟩ v2).setCell ⟨b,o+3,none⟩ v3:=rfl
theorem drew_setCells (b:Nat):∀(l:List Value) (o:Nat) (w:World),w.drew.setCells b o l=(w.setCells b o l).drew
 | [],_,_=>rfl
 | v :: r,o,w=>by rw[World.setCells,World.setCells,←drew_setCells b r];rfl
set_option maxHeartbeats 4000000 in
set_option maxRecDepth 1000000 in
theorem swapRange_any (F:Value) (blk off cap a b n:Nat) (d0 d:Array Tsk) (w0 w:World) (R:RowK tskCells 4 w0 blk off d0) (hs:d0.size=d.size) (S:SWK tskCells 4 w0 blk off d w) (hab:a+n≤b) (hb:b+n≤d.size) (hsz:d.size<4611686018427387904) :
  Calls Tryz.prog 224 #[.slice (some ⟨blk,off,none⟩) d.size cap,.int .i64 a,.int .i64 b,.int .i64 n,F] w fun e w'=>e = .returned (.tuple #[])∧SWK tskCells 4 w0 blk off (swapN d a b n) w':=by
 have S0:Aside (SWK tskCells 4 w0 blk off d w):=S
 have aE:=Tryz.isAgg56
 have zE:=Tryz.sizeOf56
 have mixed:Tryz.prog.follows .mixedOrders=true:=by kernel_rfl
 clear S
 go_enter Tryz.func224,Tryz.ntmps224
 go_wp2
 go_loopw [10] (fun s wr=>∃i:Nat,i≤n∧s = .int .i64 i∧Aside (SWK tskCells 4 w0 blk off (swapN d a b i) wr)) (fun s _=>n-(intOf s).toNat)
 case atStart=>exact⟨0,Nat.zero_le _,rfl,S0⟩
 case round=>
  clear S0
  obtain⟨i,hi,rfl,S1⟩:=hrel
  rcases Nat.lt_or_ge i n with hlt|hge
  ·obtain⟨dk,hdk⟩:∃dk,dk=swapN d a b i:=⟨_,rfl⟩
   have hds:dk.size=d.size:=by rw[hdk,size_swapN]
   rw[←hdk] at S1
   have hnx:swapN d a b (i+1)=swp dk (a+i) (b+i):=by rw[hdk];rfl
   have HNX:=Lib.hid hnx
   clear hnx hdk
   have S2:Aside (SWK tskCells 4 w0 blk off (swp dk (a+i) (b+i)) ((wr.drew.setCells blk (off+(a+i)*4) (tskCells dk[b+i]!)).setCells blk (off+(b+i)*4) (tskCells dk[a+i]!))):=S1.out.swapped R (a+i) (b+i) (by omega) (by omega)
   have hH:=S1.out.holds R.hblk R.hH (by omega)
   have hA:=fun c v hv=>HoldsK.cells hH R.hk (i:=a+i) (by omega) c v hv
   have hB:=fun c v hv=>HoldsK.cells hH R.hk (i:=b+i) (by omega) c v hv
   have fA:=fun c (hc:c<4)=>(hH.cell (i:=a+i) (by omega) (c:=c) hc).2
   have fB:=fun c (hc:c<4)=>(hH.cell (i:=b+i) (by omega) (c:=c) hc).2
   generalize dk[a+i]! = x at *
   generalize dk[b+i]! = y at *
   obtain⟨⟨xk,xv⟩,xn,xh⟩:=x
   obtain⟨⟨yk,yv⟩,yn,yh⟩:=y
   have A0:=hA 0 _ rfl
   have A1:=hA 1 _ rfl
   have A2:=hA 2 _ rfl
   have A3:=hA 3 _ rfl
   have B0:=hB 0 _ rfl
   have B1:=hB 1 _ rfl
   have B2:=hB 2 _ rfl
   have B3:=hB 3 _ rfl
   have FA0:=fA 0 (by omega)
   have FA1:=fA 1 (by omega)
   have FA2:=fA 2 (by omega)
   have FA3:=fA 3 (by omega)
   have FB0:=fB 0 (by omega)
   have FB1:=fB 1 (by omega)
   have FB2:=fB 2 (by omega)
   have FB3:=fB 3 (by omega)
   simp only[Addr.add_lit,Nat.add_zero] at A0 A1 A2 A3 B0 B1 B2 B3 FA0 FA1 FA2 FA3 FB0 FB1 FB2 FB3
   clear hH hA hB fA fB S1
   have S3:=S2.out
   rw[drew_setCells,drew_setCells] at S3
   simp only[tskCells,sc4] at S3
   have S4:=Lib.hid S3
   clear S2 S3
   have ea:((a:Int)+i).toNat=a+i:=by omega
   have eb:((b:Int)+i).toNat=b+i:=by omega
   have pa:(0:Int)≤(a:Int)+i:=by omega
   have pb:(0:Int)≤(b:Int)+i:=by omega
   have ba:(a:Int)+i<(d.size:Int):=by omega
   have bb:(b:Int)+i<(d.size:Int):=by omega
   have ra:IntKind.i64.wrap ((a:Int)+i)=(a:Int)+i:=by rw[IntKind.wrap_i64];omega
   have rb:IntKind.i64.wrap ((b:Int)+i)=(b:Int)+i:=by rw[IntKind.wrap_i64];omega
   go_upto_region 3 with fail
   go_big_region_o
   clear A0 A1 A2 A3 B0 B1 B2 B3 FA0 FA1 FA2 FA3 FB0 FB1 FB2 FB3
   go_wp2
   go_roundw
   case rel=>exact⟨i+1,by omega,by go_num,by rw[HNX.out];exact S4.out⟩
   case measure=>simp[intOf];omega
  ·go_wp2
   go_end0
   have e:i=n:=by omega
   subst e
   exact⟨rfl,S1.out⟩
theorem swp_get? (d:Array Tsk) (i j q:Nat) (hi:i<d.size) (hj:j<d.size):(swp d i j)[q]? = if q=j then d[i]? else if q=i then d[j]? else d[q]?:=by
 unfold swp
 rw[Array.getElem?_setIfInBounds,Array.getElem?_setIfInBounds]
 by_cases h1:q=j
 ·subst h1
  rw[if_pos rfl,if_pos rfl,if_pos (by simpa using hj),getElem!_pos d i hi,Array.getElem?_eq_getElem hi]
 ·rw[if_neg (fun e=>h1 e.symm),if_neg h1]
  by_cases h2:q=i
  ·subst h2
   rw[if_pos rfl,if_pos rfl,if_pos hi,getElem!_pos d j hj,Array.getElem?_eq_getElem hj]
  ·rw[if_neg (fun e=>h2 e.symm),if_neg h2]
theorem swapN_get (d:Array Tsk) (a b:Nat):∀n q,a+n≤b→b+n≤d.size→(swapN d a b n)[q]? = if a≤q∧q<a+n then d[q-a+b]? else if b≤q∧q<b+n then d[q-b+a]? else d[q]?
 | 0,q,_,_=>by rw[if_neg (by omega),if_neg (by omega)];rfl
 | n+1,q,h1,h2=>by
  have ih:=fun p=>swapN_get d a b n p (by omega) (by omega)
  rw[swapN,swp_get? _ _ _ _ (by rw[size_swapN];omega) (by rw[size_swapN];omega),ih,ih,ih]
  by_cases e1:q=b+n
  ·subst e1
   rw[if_pos rfl,if_neg (by omega),if_neg (by omega),if_neg (by omega),if_pos (by omega)]
   congr 1;omega
  ·rw[if_neg e1]
   by_cases e2:q=a+n
   ·subst e2
    rw[if_pos rfl,if_neg (by omega),if_neg (by omega),if_pos (by omega)]
    congr 1;omega
   ·rw[if_neg e2]
    by_cases e3:a≤q∧q<a+n
    ·rw[if_pos e3,if_pos (by omega)]
    ·by_cases e4:b≤q∧q<b+n
     ·rw[if_neg e3,if_pos e4,if_neg (show ¬(a≤q∧q<a+(n+1)) by omega),if_pos (by omega)]
     ·rw[if_neg e3,if_neg e4,if_neg (by omega),if_neg (by omega)]
theorem get5 {α:Type} (A X M Y B:List α) (q:Nat):(A++X++M++Y++B)[q]? = if q<A.length then A[q]? else if q<A.length+X.length then X[q-A.length]? else if q<A.length+X.length+M.length then M[q-(A.length+X.length)]? else if q<A.length+X.length+M.length+Y.length then Y[q-(A.length+X.length+M.length)]? else B[q-(A.length+X.length+M.length+Y.length)]?:=by
 simp only[List.getElem?_append,List.length_append]
 by_cases h1:q<A.length
 ·rw[if_pos (by omega),if_pos (by omega),if_pos (by omega),if_pos h1,if_pos h1]
 ·by_cases h2:q<A.length+X.length
  ·rw[if_pos (by omega),if_pos (by omega),if_pos h2,if_neg h1,if_neg h1,if_pos h2]
  ·by_cases h3:q<A.length+X.length+M.length
   ·rw[if_pos (by omega),if_pos h3,if_neg h2,if_neg h1,if_neg h2,if_pos h3]
   ·by_cases h4:q<A.length+X.length+M.length+Y.length
    ·rw[if_pos h4,if_neg h3,if_neg h1,if_neg h2,if_neg h3,if_pos h4]
    ·rw[if_neg h4,if_neg h1,if_neg h2,if_neg h3,if_neg h4]
theorem swapN_list (A X M Y B:List Tsk) (h:X.length=Y.length):swapN (A++X++M++Y++B).toArray A.length (A.length+X.length+M.length) X.length=(A++Y++M++X++B).toArray:=by
 apply Array.ext_getElem?
 intro q
 rw[swapN_get _ _ _ _ _ (by omega) (by simp;omega)]
 simp only[List.getElem?_toArray,get5]
 by_cases h1:q<A.length
 ·rw[if_neg (by omega),if_neg (by omega),if_pos h1,if_pos h1]
 ·by_cases h2:q<A.length+X.length
  ·rw[if_pos (by omega),if_neg (by omega),if_neg (by omega),if_neg (by omega),if_pos (by omega),if_neg h1,if_pos (by omega)]
   congr 1;omega
  ·by_cases h3:q<A.length+X.length+M.length
   ·rw[if_neg (by omega),if_neg (by omega),if_neg h1,if_neg h2,if_pos h3,if_neg h1,if_neg (by omega),if_pos (by omega),h]
   ·by_cases h4:q<A.length+X.length+M.length+Y.length
    ·rw[if_neg (by omega),if_pos (by omega),if_neg (by omega),if_pos (by omega),if_neg h1,if_neg (by omega),if_neg (by omega),if_pos (by omega)]
     congr 1;omega
    ·rw[if_neg (by omega),if_neg (by omega),if_neg h1,if_neg h2,if_neg h3,if_neg h4,if_neg h1,if_neg (by omega),if_neg (by omega),if_neg (by omega)]
     congr 1;omega
def LW (w0:World) (blk off:Nat) (l:List Tsk) (W:World):Prop:=SWK tskCells 4 w0 blk off l.toArray W
theorem swapL {w0 w:World} {blk off:Nat} {d0:Array Tsk} (R:RowK tskCells 4 w0 blk off d0) (hsz:d0.size<4611686018427387904) (F:Value) (cap sz:Nat) (za zb zn:Int) (A X M Y B:List Tsk) (S:LW w0 blk off (A++X++M++Y++B) w)
  (hs:d0.size=(A++X++M++Y++B).length) (hz:sz=d0.size) (h:X.length=Y.length) (ha:za=(A.length:Nat)) (hb:zb=((A.length+X.length+M.length:Nat):Int)) (hn:zn=(X.length:Nat)) :
  Calls Tryz.prog 224 #[.slice (some ⟨blk,off,none⟩) sz cap,.int .i64 za,.int .i64 zb,.int .i64 zn,F] w fun e w'=>e = .returned (.tuple #[])∧LW w0 blk off (A++Y++M++X++B) w':=by
 subst ha hb hn
 have e1:(A++X++M++Y++B).toArray.size=(A++X++M++Y++B).length:=by simp
 have:=swapRange_any F blk off cap A.length (A.length+X.length+M.length) X.length d0 (A++X++M++Y++B).toArray w0 w R (by rw[e1];exact hs) S (by omega) (by simp;omega) (by rw[e1,←hs];exact hsz)
 rw[swapN_list _ _ _ _ _ h,e1,←hs,←hz] at this
 exact this
theorem permIn_list {A X B:List Tsk} {d':Array Tsk} (h:PermIn A.length (A.length+X.length) (A++X++B).toArray d'):∃Z,d'=(A++Z++B).toArray∧Z.Perm X:=by
 obtain⟨h1,h2,h3⟩:=h
 have hsz:d'.size=A.length+X.length+B.length:=by rw[h1];simp;omega
 have get (q:Nat) (hq:q<A.length∨A.length+X.length≤q):d'[q]? = (A++X++B)[q]?:=by
  by_cases hl:q<d'.size
  ·have e:=h2 q hq
   have hl':q<(A++X++B).toArray.size:=by rw[←h1];exact hl
   rw[getElem!_pos d' q hl,getElem!_pos _ q hl'] at e
   rw[Array.getElem?_eq_getElem hl,e,←List.getElem?_toArray,Array.getElem?_eq_getElem hl']
  ·rw[Array.getElem?_eq_none (by omega),List.getElem?_eq_none (by simp;omega)]
 refine⟨(d'.extract A.length (A.length+X.length)).toList,?_,?_⟩
 ·apply Array.ext_getElem?
  intro q
  have hl:(d'.extract A.length (A.length+X.length)).toList.length=X.length:=by simp;omega
  simp only[List.getElem?_toArray]
  rw[List.getElem?_append,List.getElem?_append,List.length_append,hl]
  by_cases c1:q<A.length
  ·rw[if_pos (by omega),if_pos c1,get q (Or.inl c1),List.append_assoc,List.getElem?_append,if_pos c1]
  ·by_cases c2:q<A.length+X.length
   ·rw[if_pos c2,if_neg c1,Array.getElem?_toList,Array.getElem?_extract,if_pos (by omega)]
    congr 1;omega
   ·rw[if_neg c2,get q (Or.inr (by omega)),List.getElem?_append,List.length_append,if_neg c2]
 ·refine h3.trans (List.Perm.of_eq ?_)
  apply List.ext_getElem?
  intro q
  rw[Array.getElem?_toList,Array.getElem?_extract]
  simp only[List.getElem?_toArray]
  by_cases c:q<X.length
  ·rw[if_pos (by simp;omega),List.getElem?_append,List.length_append,if_pos (by omega),List.getElem?_append,if_neg (by omega)]
   congr 1;omega
  ·rw[if_neg (by simp;omega),List.getElem?_eq_none (by omega)]
theorem sortedIn_list {A Z B:List Tsk} (h:SortedIn ltT A.length (A.length+Z.length) (A++Z++B).toArray):Srt ltT Z:=by
 unfold Srt
 rw[List.pairwise_iff_getElem]
 intro i j hi hj hij
 have:=h (A.length+i) (A.length+j) (by omega) (by omega) (by omega)
 have e:∀k (hk:k<Z.length),(A++Z++B).toArray[A.length+k]! = Z[k]:=fun k hk=>by
  rw[getElem!_pos _ _ (by simp;omega),List.getElem_toArray]
  rw[List.getElem_append_left (by simp;omega),List.getElem_append_right (by omega)]
  congr 1;omega
 rw[e j hj,e i hi] at this
 exact this
theorem swoT:SWO ltT where
 irrefl x:=linT.self x
 trans x y z h1 h2:=by
  cases e:ltT x z with
  | true=>rfl
  | false=>exact absurd (linT.thr z x y e (linT.tot x y h1)) (by rw[h2];simp)
 ntrans x y z h1 h2:=linT.thr z y x h2 h1
theorem ltOf_ord:ltOf ordT=ltT:=rfl
theorem tsk_len (x:Tsk):(tskCells x).length=4:=rfl
theorem tsk_one (x:Tsk):∀v∈tskCells x,v.oneCell'=true:=by
 intro v hv
 simp only[tskCells,List.mem_cons,List.not_mem_nil,or_false] at hv
 rcases hv with rfl|rfl|rfl|rfl <;> rfl
theorem cmpT {w0:World} {blk off n:Nat}:CmpLays Tryz.prog 63 #[] tskCells 4 ordT blk off n w0:=fun m os dk _ x y=>orderT_any x y _
structure TRow (w0:World) (blk off:Nat) (d0:Array Tsk):Prop where
 R:RowK tskCells 4 w0 blk off d0
 sz:d0.size<4611686018427387904
def Upd (l l':List Tsk) (a n:Nat):Prop:=∃A X Z B,l=A++X++B∧l'=A++Z++B∧A.length=a∧X.length=n∧Z.Perm X∧Srt ltT Z
section
variable {l l' : List Tsk} {a n : Nat}
theorem Upd.perm (h:Upd l l' a n):l'.Perm l:=by
 obtain⟨A,X,Z,B,rfl,rfl,_,_,p,_⟩:=h
 exact(p.append_left A).append_right B
theorem Upd.len (h:Upd l l' a n):l'.length=l.length:=h.perm.length_eq
theorem Upd.out (h:Upd l l' a n) (j s:Nat) (hj:j+s≤a∨a+n≤j):(l'.drop j).take s=(l.drop j).take s:=by
 obtain⟨A,X,Z,B,rfl,rfl,ha,hn,p,_⟩:=h
 have hz:=p.length_eq
 rcases hj with hj|hj
 ·rw[List.append_assoc,List.append_assoc,List.drop_append_of_le_length (by omega),List.drop_append_of_le_length (by omega),List.take_append_of_le_length (by simp;omega),List.take_append_of_le_length (by simp;omega)]
 ·have e1:(A++Z).drop j = []:=List.drop_eq_nil_of_le (by simp;omega)
  have e2:(A++X).drop j = []:=List.drop_eq_nil_of_le (by simp;omega)
  rw[List.drop_append (l₁:=A++Z),List.drop_append (l₁:=A++X),e1,e2,List.length_append,List.length_append,hz]
theorem Upd.mid (h:Upd l l' a n):Srt ltT ((l'.drop a).take n):=by
 obtain⟨A,X,Z,B,rfl,rfl,ha,hn,p,hs⟩:=h
 have hz:=p.length_eq
 rw[List.append_assoc,List.drop_append,List.drop_eq_nil_of_le (by omega),←ha,Nat.sub_self,List.drop_zero,List.nil_append,List.take_append_of_le_length (by omega),List.take_of_length_le (by omega)]
 exact hs
theorem part3 (l:List Tsk) (a n:Nat) (h:a+n≤l.length):∃A X B,l=A++X++B∧A.length=a∧X.length=n∧X=(l.drop a).take n:=
 ⟨l.take a,(l.drop a).take n,l.drop (a+n),by
  rw[List.append_assoc,←List.drop_drop,List.take_append_drop,List.take_append_drop],by simp;omega,by simp;omega,rfl⟩
theorem part4 (l:List Tsk) (a n m:Nat) (h:a+n+m≤l.length):∃A X Y B,l=A++X++Y++B∧A.length=a∧X.length=n∧Y.length=m∧X=(l.drop a).take n∧Y=(l.drop (a+n)).take m:=
 ⟨l.take a,(l.drop a).take n,(l.drop (a+n)).take m,l.drop (a+n+m),by
  have e1:l.drop (a+n+m)=(l.drop (a+n)).drop m:=by rw[List.drop_drop]
  have e2:l.drop (a+n)=(l.drop a).drop n:=by rw[List.drop_drop]
  rw[List.append_assoc,e1,List.take_append_drop,List.append_assoc,e2,List.take_append_drop,List.take_append_drop],by simp;omega,by simp;omega,by simp;omega,rfl,rfl⟩
end
def Runs (s:Nat) (l:List Tsk):Prop:=∀i,Srt ltT ((l.drop (i*s)).take s)
theorem Runs.whole {s:Nat} {l:List Tsk} (h:Runs s l) (hs:l.length≤s):Srt ltT l:=by
 have:=h 0
 rwa [Nat.zero_mul,List.drop_zero,List.take_of_length_le hs] at this
theorem srt_nil:Srt ltT ([]:List Tsk):=List.Pairwise.nil
def RunsTo (s t:Nat) (l:List Tsk):Prop:=∀i,i<t→Srt ltT ((l.drop (i*s)).take s)
theorem RunsTo.zero (s:Nat) (l:List Tsk):RunsTo s 0 l:=fun i h=>absurd h (Nat.not_lt_zero _)
theorem RunsTo.next {s t:Nat} {l l':List Tsk} (h:RunsTo s t l) (u:Upd l l' (t*s) s):RunsTo s (t+1) l':=by
 intro i hi
 by_cases e:i=t
 ·subst e;exact u.mid
 ·have:(i+1)*s≤t*s:=Nat.mul_le_mul_right s (by omega)
  rw[u.out _ _ (Or.inl (by rw[Nat.add_mul,Nat.one_mul] at this;exact this))]
  exact h i (by omega)
theorem beyond {s t i:Nat} {l:List Tsk} (hi:t<i) (hl:l.length<t*s+s):(l.drop (i*s)).take s = []:=by
 have:(t+1)*s≤i*s:=Nat.mul_le_mul_right s (by omega)
 rw[Nat.add_mul,Nat.one_mul] at this
 rw[List.drop_eq_nil_of_le (by omega)];simp
theorem RunsTo.last {s t:Nat} {l l':List Tsk} (h:RunsTo s t l) (u:Upd l l' (t*s) (l.length-t*s)) (hl:l.length<t*s+s) (ha:t*s≤l.length):Runs s l':=by
 intro i
 have hlen:=u.len
 rcases Nat.lt_trichotomy i t with c|c|c
 ·have:(i+1)*s≤t*s:=Nat.mul_le_mul_right s (by omega)
  rw[u.out _ _ (Or.inl (by rw[Nat.add_mul,Nat.one_mul] at this;exact this))]
  exact h i c
 ·subst c
  have:=u.mid
  rw[List.take_of_length_le (by simp;omega)] at this ⊢
  exact this
 ·rw[beyond c (by omega)];exact srt_nil
structure Half (s t:Nat) (l:List Tsk):Prop where
 fst:RunsTo (2*s) t l
 rst:∀i,2*t≤i→Srt ltT ((l.drop (i*s)).take s)
theorem Half.zero {s:Nat} {l:List Tsk} (h:Runs s l):Half s 0 l:=⟨RunsTo.zero _ _,fun i _=>h i⟩
theorem two_mul_mul (t s:Nat):t*(2*s)=2*t*s:=by rw[←Nat.mul_assoc,Nat.mul_comm t 2]
theorem Half.left {s t:Nat} {l:List Tsk} (h:Half s t l):Srt ltT ((l.drop (t*(2*s))).take s):=by
 rw[two_mul_mul];exact h.rst _ (Nat.le_refl _)
theorem Half.right {s t:Nat} {l:List Tsk} (h:Half s t l):Srt ltT ((l.drop (t*(2*s)+s)).take s):=by
 have:=h.rst (2*t+1) (by omega)
 rwa [Nat.add_mul,Nat.one_mul,←two_mul_mul] at this
theorem Half.next {s t:Nat} {l l':List Tsk} (h:Half s t l) (u:Upd l l' (t*(2*s)) (2*s)):Half s (t+1) l':=
 ⟨h.fst.next u,fun i hi=>by
  have:(2*t+2)*s≤i*s:=Nat.mul_le_mul_right s (by omega)
  rw[u.out _ _ (Or.inr (by rw[two_mul_mul];rw[Nat.add_mul] at this;exact this))]
  exact h.rst i (by omega)⟩
theorem Half.last {s t:Nat} {l l':List Tsk} (h:Half s t l) (u:Upd l l' (t*(2*s)) (l.length-t*(2*s))) (hl:l.length<t*(2*s)+2*s) (ha:t*(2*s)≤l.length):Runs (2*s) l':=h.fst.last u hl ha
theorem Half.stay {s t:Nat} {l:List Tsk} (h:Half s t l) (hl:l.length≤t*(2*s)+s):Runs (2*s) l:=by
 intro i
 rcases Nat.lt_trichotomy i t with c|c|c
 ·exact h.fst i c
 ·subst c
  have:=h.left
  rw[List.take_of_length_le (by simp;omega)] at this ⊢
  exact this
 ·by_cases hs:s=0
  ·subst hs;simp;exact srt_nil
  ·rw[beyond c (by omega)];exact srt_nil
structure RotI (w0:World) (blk off:Nat) (tgt:List Tsk) (m N ni nj:Nat) (P X Y S:List Tsk) (W:World):Prop where
 x:X.length=ni
 y:Y.length=nj
 p:P.length+ni=m
 n:m+nj+S.length=N
 t:P++Y++X++S=tgt
 w:LW w0 blk off (P++X++Y++S) W
theorem split_at (X:List Tsk) (n:Nat) (h:n≤X.length):∃X1 X2,X=X1++X2∧X1.length=n:=⟨X.take n,X.drop n,(List.take_append_drop n X).symm,by simp;omega⟩
set_option maxHeartbeats 4000000 in
set_option maxRecDepth 1000000 in
theorem rotate_any {w0:World} {blk off:Nat} {d0:Array Tsk} (T:TRow w0 blk off d0) (F:Value) (cap sz:Nat) (hz:sz=d0.size) (A X Y B:List Tsk) (w:World) (za zm zb:Int) (S:LW w0 blk off (A++X++Y++B) w) (hs:d0.size=(A++X++Y++B).length) (hX:0<X.length) (hY:0<Y.length)
  (ha:za=(A.length:Nat)) (hm:zm=((A.length+X.length:Nat):Int)) (hb:zb=((A.length+X.length+Y.length:Nat):Int)) :
  Calls Tryz.prog 190 #[.slice (some ⟨blk,off,none⟩) sz cap,.int .i64 za,.int .i64 zm,.int .i64 zb,F] w fun e w'=>e = .returned (.tuple #[])∧LW w0 blk off (A++Y++X++B) w':=by
 obtain⟨tgt,htgt⟩:∃l,l=A++Y++X++B:=⟨_,rfl⟩
 obtain⟨a,ea⟩:∃a,a=A.length:=⟨_,rfl⟩
 obtain⟨x,ex⟩:∃a,a=X.length:=⟨_,rfl⟩
 obtain⟨y,ey⟩:∃a,a=Y.length:=⟨_,rfl⟩
 obtain⟨N,eN⟩:∃a,a=d0.size:=⟨_,rfl⟩
 have hN:N<4611686018427387904:=by rw[eN];exact T.sz
 have h0:RotI w0 blk off tgt (a+x) N x y A X Y B w:=⟨ex.symm,ey.symm,by omega,by rw[eN,hs,ea,ex,ey];simp;omega,htgt.symm,S⟩
 rw[←htgt]
 have hle:a+x+y≤N:=by have:=h0.n;omega
 rw[←ea,←ex,←ey] at hb
 rw[←ea,←ex] at hm
 rw[←ea] at ha
 rw[←ex] at hX
 rw[←ey] at hY
 subst ha hm hb
 have HSW:Hid (∀(za zb zn:Int) (A X M Y B:List Tsk) (w:World),LW w0 blk off (A++X++M++Y++B) w→N=(A++X++M++Y++B).length→X.length=Y.length→za=(A.length:Nat)→zb=((A.length+X.length+M.length:Nat):Int)→zn=(X.length:Nat)→
   Calls Tryz.prog 224 #[.slice (some ⟨blk,off,none⟩) sz cap,.int .i64 za,.int .i64 zb,.int .i64 zn,F] w fun e w'=>e = .returned (.tuple #[])∧LW w0 blk off (A++Y++M++X++B) w'):=
  (show ∀(za zb zn:Int) (A X M Y B:List Tsk) (w:World),_→_→_→_→_→_→Calls _ _ _ _ _ from fun za zb zn A X M Y B w S h1 h2 h3 h4 h5=>swapL T.R T.sz F cap sz za zb zn A X M Y B S (by rw[←eN];exact h1) hz h2 h3 h4 h5)
 have H0:=Lib.hid h0
 clear h0 S hs htgt ea ex ey eN hz T
 obtain⟨m,hm⟩:∃m,m=a+x:=⟨_,rfl⟩
 rw[←hm] at H0 hle ⊢
 have ham:a≤m:=by omega
 have hmx:((m:Int)-(a:Int))=(x:Int):=by omega
 obtain⟨b,hb⟩:∃b,b=m+y:=⟨_,rfl⟩
 rw[←hb] at hle ⊢
 have hmy:((b:Int)-(m:Int))=(y:Int):=by omega
 have hmb:m+y≤N:=by omega
 have hbm:m≤b:=by omega
 clear hm hb
 go_enter Tryz.func190,Tryz.ntmps190
 go_wp2
 clear hmx hmy
 go_loopw [10,11] (fun i j wr=>∃(ni nj:Nat) (P X Y S:List Tsk),i = .int .i64 ni∧j = .int .i64 nj∧0<ni∧0<nj∧ni≤m∧m+nj≤N∧Hid (RotI w0 blk off tgt m N ni nj P X Y S wr)) (fun i j _=>(intOf i).toNat+(intOf j).toNat)
 case atStart=>exact⟨x,y,A,X,Y,B,by first|rfl|(congr 1;omega),by first|rfl|(congr 1;omega),hX,hY,by have:=H0.out.p;omega,by omega,H0⟩
 case round=>
  clear H0
  obtain⟨ni,nj,P,X1,Y1,S1,rfl,rfl,hi,hj,him,hjn,hI⟩:=hrel
  rcases Nat.lt_trichotomy nj ni with c|c|c
  ·have hne:((ni:Int) == (nj:Int))=false:=by simp;omega
   have hne2:((ni:Int) != (nj:Int))=true:=by simp;omega
   obtain⟨U,V,hUV,hU⟩:=split_at X1 nj (by rw[hI.out.x];omega)
   have HQ:Hid (Calls Tryz.prog 224 #[.slice (some ⟨blk,off,none⟩) sz cap,.int .i64 ((m:Int)-(ni:Int)),.int .i64 m,.int .i64 nj,F] wr fun e w'=>e = .returned (.tuple #[])∧Hid (RotI w0 blk off tgt m N (ni-nj) nj (P++Y1) V U S1 w')):=(show Calls _ _ _ _ _ from by
    have i:=hI.out
    have hV:V.length=ni-nj:=by have:=i.x;rw[hUV,List.length_append] at this;omega
    have e1:=i.p
    have e2:=i.n
    have e3:=i.y
    refine(HSW.out _ _ _ P U V Y1 S1 wr (by have:=i.w;rw[hUV,←List.append_assoc] at this;exact this) (by simp;omega) (by omega) (by omega) (by omega) (by omega)).mono ?_
    rintro e w' ⟨h1,h2⟩
    exact⟨h1,show RotI _ _ _ _ _ _ _ _ _ _ _ _ _ from ⟨hV,hU,by simp;omega,by omega,by rw[←i.t,hUV];simp,h2⟩⟩)
   clear hUV hU hI
   go_wp2_with (go_at_call 224;refine HQ.out.mono ?_;rintro e w' ⟨rfl,hl⟩)
   go_roundw
   case rel=>exact⟨ni-nj,nj,_,_,_,_,by go_num,rfl,by omega,hj,by omega,hjn,hl⟩
   case measure=>simp[intOf];omega
  ·have hne:((ni:Int) == (nj:Int))=true:=by simp;omega
   have hne2:((ni:Int) != (nj:Int))=false:=by simp;omega
   have HQ:Hid (Calls Tryz.prog 224 #[.slice (some ⟨blk,off,none⟩) sz cap,.int .i64 ((m:Int)-(ni:Int)),.int .i64 m,.int .i64 ni,F] wr fun e w'=>e = .returned (.tuple #[])∧LW w0 blk off tgt w'):=(show Calls _ _ _ _ _ from by
    have i:=hI.out
    have e1:=i.p
    have e2:=i.n
    have e3:=i.y
    have e4:=i.x
    refine(HSW.out _ _ _ P X1 [] Y1 S1 wr (by have:=i.w;simpa using this) (by simp;omega) (by omega) (by omega) (by simp;omega) (by omega)).mono ?_
    rintro e w' ⟨h1,h2⟩
    exact⟨h1,by rw[←i.t];simpa using h2⟩)
   clear hI c
   go_wp2_with (go_at_call 224;refine HQ.out.mono ?_;rintro e w' ⟨rfl,hl⟩)
   go_end0
   exact⟨rfl,hl⟩
  ·have hne:((ni:Int) == (nj:Int))=false:=by simp;omega
   have hne2:((ni:Int) != (nj:Int))=true:=by simp;omega
   obtain⟨U,V,hUV,hU⟩:=split_at Y1 (nj-ni) (by rw[hI.out.y];omega)
   have HQ:Hid (Calls Tryz.prog 224 #[.slice (some ⟨blk,off,none⟩) sz cap,.int .i64 ((m:Int)-(ni:Int)),.int .i64 ((m:Int)+(nj:Int)-(ni:Int)),.int .i64 ni,F] wr fun e w'=>e = .returned (.tuple #[])∧Hid (RotI w0 blk off tgt m N ni (nj-ni) P V U (X1++S1) w')):=(show Calls _ _ _ _ _ from by
    have i:=hI.out
    have hV:V.length=ni:=by have:=i.y;rw[hUV,List.length_append] at this;omega
    have e1:=i.p
    have e2:=i.n
    have e3:=i.x
    refine(HSW.out _ _ _ P X1 U V S1 wr (by have:=i.w;rw[hUV,←List.append_assoc] at this;exact this) (by simp;omega) (by omega) (by omega) (by omega) (by omega)).mono ?_
    rintro e w' ⟨h1,h2⟩
    exact⟨h1,show RotI _ _ _ _ _ _ _ _ _ _ _ _ _ from ⟨hV,hU,by omega,by simp;omega,by rw[←i.t,hUV];simp,by rw[←List.append_assoc];exact h2⟩⟩)
   clear hUV hU hI
   go_wp2_with (go_at_call 224;refine HQ.out.mono ?_;rintro e w' ⟨rfl,hl⟩)
   go_roundw
   case rel=>exact⟨ni,nj-ni,_,_,_,_,rfl,by go_num,hi,by omega,him,by omega,hl⟩
   case measure=>simp[intOf];omega
structure TC (W:World) (blk o:Nat) (t:Tsk):Prop where
 c0:∀n os,(grow (W.drewN n) os).cell? ⟨blk,o,none⟩=some (.string t.id.key)
 c1:∀n os,(grow (W.drewN n) os).cell? ⟨blk,o+1,none⟩=some (.int .i64 t.id.ver)
 c2:∀n os,(grow (W.drewN n) os).cell? ⟨blk,o+2,none⟩=some (.int .i64 t.nd)
 c3:∀n os,(grow (W.drewN n) os).cell? ⟨blk,o+3,none⟩=some (.int .i64 t.held)
structure TD (W:World) (blk o:Nat) (t:Tsk):Prop where
 c0:W.cell? ⟨blk,o,none⟩=some (.string t.id.key)
 c1:W.cell? ⟨blk,o+1,none⟩=some (.int .i64 t.id.ver)
 c2:W.cell? ⟨blk,o+2,none⟩=some (.int .i64 t.nd)
 c3:W.cell? ⟨blk,o+3,none⟩=some (.int .i64 t.held)
 f0:W.frozen? ⟨blk,o,none⟩=false
 f1:W.frozen? ⟨blk,o+1,none⟩=false
 f2:W.frozen? ⟨blk,o+2,none⟩=false
 f3:W.frozen? ⟨blk,o+3,none⟩=false
section
variable {w0 W : World} {blk off : Nat} {d0 : Array Tsk} {l : List Tsk}
theorem getB {i:Nat} {t:Tsk} (hi:l[i]? = some t):i<l.toArray.size∧l.toArray[i]! = t:=by
 obtain⟨h1,h2⟩:=List.getElem?_eq_some_iff.1 hi
 have hl:i<l.toArray.size:=by simpa using h1
 exact⟨hl,by rw[getElem!_pos _ i hl,List.getElem_toArray,h2]⟩
theorem LW.td (T:TRow w0 blk off d0) (h:LW w0 blk off l W) (hs:d0.size=l.length) {i:Nat} {t:Tsk} (hi:l[i]? = some t):TD W blk (off+i*4) t:=by
 obtain⟨h1,h2⟩:=getB hi
 have hH:=SWK.holds h T.R.hblk T.R.hH (by simpa using hs.symm)
 have hA:=fun c v hv=>HoldsK.cells hH T.R.hk (i:=i) h1 c v hv
 have fA:=fun c (hc:c<4)=>(hH.cell (i:=i) h1 (c:=c) hc).2
 rw[h2] at hA
 have A0:=hA 0 _ rfl
 have A1:=hA 1 _ rfl
 have A2:=hA 2 _ rfl
 have A3:=hA 3 _ rfl
 have F0:=fA 0 (by omega)
 have F1:=fA 1 (by omega)
 have F2:=fA 2 (by omega)
 have F3:=fA 3 (by omega)
 simp only[Addr.add_lit,Nat.add_zero] at A0 A1 A2 A3 F0 F1 F2 F3
 exact⟨A0,A1,A2,A3,F0,F1,F2,F3⟩
theorem LW.grown (h:LW w0 blk off l W) (n:Nat) (os:Array Obj):LW w0 blk off l (grow (W.drewN n) os):=SWK.grown h n os
theorem LW.tc (T:TRow w0 blk off d0) (h:LW w0 blk off l W) (hs:d0.size=l.length) {i:Nat} {t:Tsk} (hi:l[i]? = some t):TC W blk (off+i*4) t:=
 ⟨fun n os=>((h.grown n os).td T hs hi).c0,fun n os=>((h.grown n os).td T hs hi).c1,fun n os=>((h.grown n os).td T hs hi).c2,fun n os=>((h.grown n os).td T hs hi).c3⟩
def put4 (W:World) (blk o:Nat) (t:Tsk):World:=(((W.setCell ⟨blk,o,none⟩ (.string t.id.key)).setCell ⟨blk,o+1,none⟩ (.int .i64 t.id.ver)).setCell ⟨blk,o+2,none⟩ (.int .i64 t.nd)).setCell ⟨blk,o+3,none⟩ (.int .i64 t.held)
theorem put4_eq (W:World) (blk o:Nat) (t:Tsk):W.setCells blk o (tskCells t)=put4 W blk o t:=sc4 _ _ _ _ _ _ _
theorem at_P (P Q:List Tsk) (x y:Tsk):(P ++ [x] ++ [y]++Q)[P.length]? = some x∧(P ++ [x] ++ [y]++Q)[P.length+1]? = some y:=by
 constructor
 ·rw[List.append_assoc,List.append_assoc,List.getElem?_append_right (Nat.le_refl _)];simp
 ·rw[List.append_assoc,List.append_assoc,List.getElem?_append_right (by omega)];simp
theorem swp_nb (P Q:List Tsk) (x y:Tsk):swp (P ++ [x] ++ [y]++Q).toArray P.length (P.length+1)=(P ++ [y] ++ [x]++Q).toArray:=by
 have:=swapN_list P [x] [] [y] Q rfl
 simpa[swapN] using this
theorem swp_nb' (P Q:List Tsk) (x y:Tsk):swp (P ++ [x] ++ [y]++Q).toArray (P.length+1) P.length=(P ++ [y] ++ [x]++Q).toArray:=by
 have hh:=swp_nb P Q x y
 rw[←hh]
 clear hh
 apply Array.ext_getElem?
 intro q
 rw[swp_get? _ _ _ _ (by simp) (by simp),swp_get? _ _ _ _ (by simp) (by simp)]
 by_cases h1:q=P.length
 ·subst h1;simp
 ·by_cases h2:q=P.length+1
  ·subst h2;simp
  ·simp[h1,h2]
theorem LW.exL (T:TRow w0 blk off d0) {P Q:List Tsk} {x y:Tsk} (h:LW w0 blk off (P ++ [x] ++ [y]++Q) W) (hs:d0.size=(P ++ [x] ++ [y]++Q).length) :
  LW w0 blk off (P ++ [y] ++ [x]++Q) (put4 (put4 W blk (off+P.length*4) y) blk (off+(P.length+1)*4) x).drew:=by
 obtain⟨h1,h2⟩:=getB (at_P P Q x y).1
 obtain⟨h3,h4⟩:=getB (at_P P Q x y).2
 have:=SWK.swapped h T.R P.length (P.length+1) h1 h3
 rw[h2,h4,swp_nb,drew_setCells,drew_setCells,put4_eq,put4_eq] at this
 exact this
theorem LW.exR (T:TRow w0 blk off d0) {P Q:List Tsk} {x y:Tsk} (h:LW w0 blk off (P ++ [x] ++ [y]++Q) W) (hs:d0.size=(P ++ [x] ++ [y]++Q).length) :
  LW w0 blk off (P ++ [y] ++ [x]++Q) (put4 (put4 W blk (off+(P.length+1)*4) x) blk (off+P.length*4) y).drew:=by
 obtain⟨h1,h2⟩:=getB (at_P P Q x y).1
 obtain⟨h3,h4⟩:=getB (at_P P Q x y).2
 have:=SWK.swapped h T.R (P.length+1) P.length h3 h1
 rw[h2,h4,swp_nb',drew_setCells,drew_setCells,put4_eq,put4_eq] at this
 exact this
end
structure LowI (Y:List Tsk) (x:Tsk) (lo hi:Nat):Prop where
 p1:∀u,(Y.take lo).getLast? = some u→ltT u x=true
 p2:∀u,(Y.drop hi).head? = some u→ltT u x=false
theorem last_take {α:Type} (Y:List α) (k:Nat) (hk:k<Y.length):(Y.take (k+1)).getLast? = some Y[k]:=by
 rw[List.take_succ_eq_append_getElem hk,List.getLast?_eq_some_iff];exact⟨_,rfl⟩
theorem head_drop {α:Type} (Y:List α) (k:Nat) (hk:k<Y.length):(Y.drop k).head? = some Y[k]:=by
 rw[List.drop_eq_getElem_cons hk];rfl
section
variable {X Y : List Tsk} {x y : Tsk} {lo hi k : Nat}
theorem LowI.start (Y:List Tsk) (x:Tsk):LowI Y x 0 Y.length:=⟨fun u h=>by simp at h,fun u h=>by simp at h⟩
theorem LowI.up (h:LowI Y x lo hi) (hk:Y[k]? = some y) (hl:ltT y x=true):LowI Y x (k+1) hi:=by
 obtain⟨h1,rfl⟩:=List.getElem?_eq_some_iff.1 hk
 exact⟨fun u hu=>by rw[last_take Y k h1] at hu;cases hu;exact hl,h.p2⟩
theorem LowI.dn (h:LowI Y x lo hi) (hk:Y[k]? = some y) (hl:ltT y x=false):LowI Y x lo k:=by
 obtain⟨h1,rfl⟩:=List.getElem?_eq_some_iff.1 hk
 exact⟨h.p1,fun u hu=>by rw[head_drop Y k h1] at hu;cases hu;exact hl⟩
theorem LowI.done (h:LowI Y x lo lo) (hY:Srt ltT Y):Srt ltT (Y.take lo++x :: Y.drop lo)∧(Y.take lo++x :: Y.drop lo).Perm (x :: Y):=
 put_low linT hY x lo (low_of linT hY x lo h.p1) h.p2
structure HighI (X:List Tsk) (y:Tsk) (lo hi:Nat):Prop where
 p1:∀u,(X.take lo).getLast? = some u→ltT y u=false
 p2:∀u,(X.drop hi).head? = some u→ltT y u=true
theorem HighI.start (X:List Tsk) (y:Tsk):HighI X y 0 X.length:=⟨fun u h=>by simp at h,fun u h=>by simp at h⟩
theorem HighI.up (h:HighI X y lo hi) (hk:X[k]? = some x) (hl:ltT y x=false):HighI X y (k+1) hi:=by
 obtain⟨h1,rfl⟩:=List.getElem?_eq_some_iff.1 hk
 exact⟨fun u hu=>by rw[last_take X k h1] at hu;cases hu;exact hl,h.p2⟩
theorem HighI.dn (h:HighI X y lo hi) (hk:X[k]? = some x) (hl:ltT y x=true):HighI X y lo k:=by
 obtain⟨h1,rfl⟩:=List.getElem?_eq_some_iff.1 hk
 exact⟨h.p1,fun u hu=>by rw[head_drop X k h1] at hu;cases hu;exact hl⟩
theorem HighI.done (h:HighI X y lo lo) (hX:Srt ltT X):Srt ltT (X.take lo++y :: X.drop lo)∧(X.take lo++y :: X.drop lo).Perm (X ++ [y]):=
 put_high linT hX y lo h.p1 (high_of linT hX y lo h.p2)
end
def MPost (w0:World) (blk off:Nat) (A V B:List Tsk) (w':World):Prop:=∃Z,Z.Perm V∧Srt ltT Z∧LW w0 blk off (A++Z++B) w'
structure MidI (l:List Tsk) (p lo0 hi0 s r:Nat):Prop where
 p1:s=lo0∨(∃u v,l[s-1]? = some u∧l[p-(s-1)]? = some v∧ltT v u=false∧lo0<s)
 p2:r=hi0∨(∃u v,l[r]? = some u∧l[p-r]? = some v∧ltT v u=true∧r<hi0)
end Go.Proofs.YtjfelfjobeeenaaGreat
