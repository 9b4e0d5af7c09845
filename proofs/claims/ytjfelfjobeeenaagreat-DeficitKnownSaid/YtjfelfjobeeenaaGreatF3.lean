/- What the table's readers answer: Look, Wanted, Next, Offered, Life, Call, now. Conditions: a table that lies in memory. What the table's readers answer, further: Next, Life, Call, now. Conditions: a table that lies in memory. maps.DeleteFunc at the table's maps. Conditions: the closure writes nothing that lay. What the table's own writers do: begins, begin, remove, reject, offer. Conditions: a table that lies in memory. -/
import Derived.Test.YtjfelfjobeeenaaGreatF2
import Derived.Shelf.Abstract
import Derived.StillTailTactics
set_option linter.unusedSimpArgs false
set_option linter.unusedVariables false
namespace Go.Proofs.YtjfelfjobeeenaaGreat
open Go.RowKit Go.Sf
def lookV (T:Tab) (k:ByteArray):Val:=(mget T.values k).getD ⟨0,false⟩
def look (T:Tab) (k:ByteArray):Int:=if (lookV T k).dead=true then 0 else (lookV T k).ver
def wantedB (T:Tab) (i:ID):Bool:=(mget T.pending i).isSome || (decide (0<i.ver) && decide (look T i.key=i.ver))
def callV (T:Tab) (n:Int):CallT:=(mget T.calls n).getD ⟨0,0,false,0⟩
theorem lookV_enc (T:Tab) (k:ByteArray):((mget T.values k).map encVal).getD (encVal ⟨0,false⟩) = .agg #[.int .i64 (lookV T k).ver,.bool (lookV T k).dead]:=by
 unfold lookV;cases mget T.values k <;> rfl
theorem callV_enc (T:Tab) (n:Int):((mget T.calls n).map encCall).getD (encCall ⟨0,0,false,0⟩) = .agg #[.int .i64 (callV T n).req,.int .i64 (callV T n).ver,.bool (callV T n).done,.int .i64 (callV T n).code]:=by
 unfold callV;cases mget T.calls n <;> rfl
section
variable {w : World} {tb : Nat} {T : Tab}
theorem TRep.run_values (W:World) (h:MapT W T.vb Value.string encVal T.values) (k:ByteArray):(Instr.lookup 118 (.map (some T.vb)) (.string k) false).run Tryz.prog W = .ok (.agg #[.int .i64 (lookV T k).ver,.bool (lookV T k).dead]) W:=by
 rw[h.lookup keStr Tryz.underlying118 (zeroVal W) k false,lookV_enc];rfl
theorem TRep.run_calls (W:World) (h:MapT W T.cb (Value.int .i64) encCall T.calls) (n:Int):(Instr.lookup 117 (.map (some T.cb)) (.int .i64 n) false).run Tryz.prog W = .ok (.agg #[.int .i64 (callV T n).req,.int .i64 (callV T n).ver,.bool (callV T n).done,.int .i64 (callV T n).code]) W:=by
 rw[h.lookup keInt Tryz.underlying117 (zeroCall W) n false,callV_enc];rfl
theorem run_pendingT (pb:Nat) (m:List (ID × Pend)) (k:ByteArray) (n:Int):∃pc pr,(∀p,mget m ⟨k,n⟩=some p→p=⟨pc,pr⟩)∧∀W,MapT W pb encID encPend m→
  (Instr.lookup 119 (.map (some pb)) (.agg #[.string k,.int .i64 n]) true).run Tryz.prog W = .ok (.tuple #[.agg #[.int .i64 pc,.int .i64 pr],.bool (mget m ⟨k,n⟩).isSome]) W:=by
 cases hm:mget m ⟨k,n⟩ with
 | none=>
  refine⟨0,0,fun p hp=>(by cases hp),fun W hW=>?_⟩
  have:=hW.lookup keID Tryz.underlying119 (zeroPend W) ⟨k,n⟩ true
  rw[hm] at this
  exact this
 | some p=>
  refine⟨p.client,p.req,fun q hq=>(by cases hq;rfl),fun W hW=>?_⟩
  have:=hW.lookup keID Tryz.underlying119 (zeroPend W) ⟨k,n⟩ true
  rw[hm] at this
  exact this
structure VRep (w:World) (tb:Nat) (T:Tab):Prop where
 c5:w.cell? ⟨tb,5,none⟩=some (.map (some T.vb))
 c6:w.cell? ⟨tb,6,none⟩=some (.map (some T.pb))
 values:MapT w T.vb Value.string encVal T.values
 pending:MapT w T.pb encID encPend T.pending
theorem TRep.v (h:TRep w tb T):VRep w tb T:=⟨h.c5,h.c6,h.values,h.pending⟩
theorem VRep.tlt (h:VRep w tb T):tb<w.heap.size:=cell_lt h.c5
theorem VRep.grown {W:World} (h:VRep w tb T) (hg:w.grownBy W none):VRep W tb T:=
 ⟨hg.cell h.c5 (by simp),hg.cell h.c6 (by simp),h.values.kept hg (by simp),h.pending.kept hg (by simp)⟩
theorem look_core (h:VRep w tb T) (k:ByteArray) :
  Calls Tryz.prog 34 #[.pointer (some ⟨tb,0,none⟩),.string k] w fun e w'=>e = .returned (.int .i64 (look T k))∧w.grownBy w' none:=by
 have c5:=h.c5
 have hv:=h.values
 have hrun:=fun W hW=>TRep.run_values (T:=T) W hW k
 have HL:Hid (look T k=if (lookV T k).dead=true then 0 else (lookV T k).ver):=(show _=_ from rfl)
 generalize (lookV T k).dead=vd at *
 generalize (lookV T k).ver=vn at *
 clear h
 go_enter Tryz.func34,Tryz.ntmps34
 go_wp2
 all_goals (go_ret;refine⟨?_,(World.grownBy_alloc w _ none)⟩;rw[HL.out];simp[*])
theorem wanted_core (h:VRep w tb T) (i:ID) :
  Calls Tryz.prog 36 #[.pointer (some ⟨tb,0,none⟩),encID i] w fun e w'=>e = .returned (.bool (wantedB T i))∧w.grownBy w' none:=by
 have c5:=h.c5
 have c6:=h.c6
 have hp:=h.pending
 have htb:=h.tlt
 obtain⟨k,n⟩:=i
 obtain⟨pc,pr,_,hl⟩:=run_pendingT T.pb T.pending k n
 have HL:Hid (∀W,w.grownBy W none→Calls Tryz.prog 34 #[.pointer (some ⟨tb,0,none⟩),.string k] W fun e w'=>e = .returned (.int .i64 (look T k))∧W.grownBy w' none):=fun W hg=>look_core (h.grown hg) k
 clear h
 have hres:∀b,(mget T.pending ⟨k,n⟩).isSome=b→wantedB T ⟨k,n⟩=(b || (decide (0<n) && decide (look T k=n))):=fun b hb=>by simp[wantedB,hb]
 simp only[encID]
 cases hi:(mget T.pending ⟨k,n⟩).isSome
 ·have HR:=Lib.hid (hres false hi)
  simp only[hi] at hl
  clear hres hi
  by_cases hn:0<n
  ·by_cases he:look T k=n
   all_goals
    go_enter Tryz.func36,Tryz.ntmps36
    go_wp2
    go_region
    go_wp2
    refine wp_region_quiet_ext (by kernel_rfl) (by kernel_rfl) ?_
    repeat (any_goals (first|go_big_quiet_step (((go_at_call 34;exact calls_ext (HL.out _ (by repeat (first|exact grown_refl _|exact World.grownBy_alloc _ _ _|refine grown_ext' ?_ _|refine grown_alloc ?_ _|refine grown_drew ?_))))))|quiet_step (((go_at_call 34;exact calls_ext (HL.out _ (by repeat (first|exact grown_refl _|exact World.grownBy_alloc _ _ _|refine grown_ext' ?_ _|refine grown_alloc ?_ _|refine grown_drew ?_))))))))
    refine wpQuiet_nil ?_
    intro _ hw'
    obtain⟨x,hw''⟩:=hw'
    subst hw''
    go_wp2
    go_ret
    exact⟨by rw[HR.out];simp[hn,he],by repeat (first|exact grown_refl _|exact World.grownBy_alloc _ _ _|refine grown_ext' ?_ _|refine grown_alloc ?_ _|refine grown_drew ?_)⟩
  ·have hn':decide (0<n)=false:=by simpa using hn
   go_enter Tryz.func36,Tryz.ntmps36
   go_wp2
   go_region
   go_wp2
   refine wp_region_quiet_ext (by kernel_rfl) (by kernel_rfl) ?_
   repeat (any_goals (first|go_big_quiet_step (fail)|quiet_step (fail)))
   refine wpQuiet_nil ?_
   intro _ hw'
   obtain⟨x,hw''⟩:=hw'
   subst hw''
   go_wp2
   go_ret
   exact⟨by rw[HR.out];simp[hn'],by repeat (first|exact grown_refl _|exact World.grownBy_alloc _ _ _|refine grown_ext' ?_ _|refine grown_alloc ?_ _|refine grown_drew ?_)⟩
 ·have HR:=Lib.hid (hres true hi)
  simp only[hi] at hl
  clear hres hi
  go_enter Tryz.func36,Tryz.ntmps36
  go_wp2
  go_region
  go_wp2
  refine wp_region_quiet_ext (by kernel_rfl) (by kernel_rfl) ?_
  repeat (any_goals (first|go_big_quiet_step (fail)|quiet_step (fail)))
  refine wpQuiet_nil ?_
  intro _ hw'
  obtain⟨x,hw''⟩:=hw'
  subst hw''
  go_wp2
  go_ret
  exact⟨by rw[HR.out];simp,by repeat (first|exact grown_refl _|exact World.grownBy_alloc _ _ _|refine grown_ext' ?_ _|refine grown_alloc ?_ _|refine grown_drew ?_)⟩
theorem wanted_any (h:TRep w tb T) (i:ID) :
  Calls Tryz.prog 36 #[.pointer (some ⟨tb,0,none⟩),encID i] w fun e w'=>e = .returned (.bool (wantedB T i))∧w.grownBy w' none:=wanted_core h.v i
end
def lifeV (T:Tab) (n:Int):Int:=if n<0∨(T.lives.length:Int)≤n then 0 else T.lives.getD n.toNat 0
def nowB (T:Tab) (c:Cmd):Bool:=decide (0<c.inc) && decide (lifeV T c.node=c.inc)
section
variable {w : World} {tb : Nat} {T : Tab}
theorem life_any (h:TRep w tb T) (n:Int) (hl:T.lives.length≤9223372036854775807):Calls Tryz.prog 23 #[.pointer (some ⟨tb,0,none⟩),.int .i64 n] w fun e w'=>
  e = .returned (.int .i64 (lifeV T n))∧w.grownBy w' none:=by
 have c3:=h.c3
 by_cases h0:n<0
 ·have HL:Hid (lifeV T n=0):=(show _=_ from if_pos (Or.inl h0))
  clear h
  go_enter Tryz.func23,Tryz.ntmps23
  go_wp2
  go_ret
  exact⟨by rw[HL.out];rfl,grown_refl _⟩
 ·by_cases h1:(T.lives.length:Int)≤n
  ·have HL:Hid (lifeV T n=0):=(show _=_ from if_pos (Or.inr h1))
   clear h
   go_enter Tryz.func23,Tryz.ntmps23
   go_wp2
   go_ret
   exact⟨by rw[HL.out];rfl,grown_refl _⟩
  ·obtain⟨k,rfl⟩:=Int.eq_ofNat_of_zero_le (by omega:0≤n)
   have hk:k<T.lives.length:=by omega
   have cl:=h.life k hk
   have HL:Hid (lifeV T k=T.lives.getD k 0):=(show _=_ from by unfold lifeV;rw[if_neg (by omega)];simp)
   generalize T.lives.getD k 0=x at *
   clear h
   go_enter Tryz.func23,Tryz.ntmps23
   go_wp2
   go_ret
   exact⟨by rw[HL.out];rfl,grown_refl _⟩
theorem now_any (h:TRep w tb T) (c:Cmd) (hl:T.lives.length≤9223372036854775807) (h0:0≤c.node) (h1:c.node<T.lives.length):Calls Tryz.prog 172 #[.pointer (some ⟨tb,0,none⟩),encCmd c] w fun e w'=>
  e = .returned (.bool (nowB T c))∧w.grownBy w' none:=by
 have c3:=h.c3
 obtain⟨kind,node,client,inc,req,ver,key,code⟩:=c
 simp only at h0 h1
 simp only[encCmd]
 obtain⟨k,rfl⟩:=Int.eq_ofNat_of_zero_le h0
 have hk:k<T.lives.length:=by omega
 have cl:=h.life k hk
 have htb:=h.tlt
 have hlb:=h.llt
 have HL:Hid (nowB T ⟨kind,(k:Int),client,inc,req,ver,key,code⟩=(decide (0<inc) && decide (T.lives.getD k 0=inc))):=(show _=_ from by unfold nowB lifeV;simp only;rw[if_neg (by omega)];simp)
 generalize T.lives.getD k 0=x at *
 clear h
 by_cases hi:0<inc
 ·go_enter Tryz.func172,Tryz.ntmps172
  go_wp2
  refine wp_region_quiet_ext (by kernel_rfl) (by kernel_rfl) ?_
  repeat (any_goals (first|go_big_quiet_step (fail)|quiet_step (fail)))
  refine wpQuiet_nil ?_
  intro _ hw'
  obtain⟨y,hw''⟩:=hw'
  subst hw''
  go_wp2
  go_ret
  exact⟨by rw[HL.out];simp[hi];rfl,by repeat (first|exact grown_refl _|exact World.grownBy_alloc _ _ _|refine grown_ext' ?_ _|refine grown_alloc ?_ _|refine grown_drew ?_)⟩
 ·have hi':decide (0<inc)=false:=by simpa using hi
  go_enter Tryz.func172,Tryz.ntmps172
  go_wp2
  refine wp_region_quiet_ext (by kernel_rfl) (by kernel_rfl) ?_
  repeat (any_goals (first|go_big_quiet_step (fail)|quiet_step (fail)))
  refine wpQuiet_nil ?_
  intro _ hw'
  obtain⟨y,hw''⟩:=hw'
  subst hw''
  go_wp2
  go_ret
  exact⟨by rw[HL.out];simp[hi'],by repeat (first|exact grown_refl _|exact World.grownBy_alloc _ _ _|refine grown_ext' ?_ _|refine grown_alloc ?_ _|refine grown_drew ?_)⟩
end
open Go.RowKit Go.Sf Go.Shelf
set_option maxHeartbeats 4000000 in
theorem delSets (b:Nat) (m:List (ID × NSet)) (f:ID→NSet→Bool) (g:Nat) (cb:Array Value) (w:World) (eg:∀args w,(callFunc g args).run Tryz.prog w = .ok (.enter g args) w)
  (hm:MapT w b encID encSet m)
  (hdel:∀(W:World) (k:ID) (v:NSet),w.grownBy W (some b)→(k,v)∈m→Calls Tryz.prog g (#[encID k,encSet v]++cb) W fun e w'=>e = .returned (.bool (f k v))∧W.grownBy w' none) :
  Calls Tryz.prog 67 #[.map (some b),.func (.func g) #[] cb] w fun e w'=>e = .returned (.tuple #[])∧MapT w' b encID encSet (m.filter fun p=>!f p.1 p.2)∧w.grownBy w' (some b):=by
 have hnd:=hm.nodup
 have HD:=Lib.hid hdel
 have HN:=Lib.hid hnd
 clear hdel hnd
 go_enter Tryz.func67,Tryz.ntmps67
 go_wp2_with (at_range;refine wpList_rangeT _ rfl _ 120 rfl Tryz.underlying120 b m rfl hm ?_;intro w0 hi0 hg0 hs0)
 go_frame
 go_loopw [8] (fun _ wr=>∃seen,IterT wr w.heap.size b encID encSet (dfAt m f seen) seen∧w.grownBy wr (some b)) (fun _ wr=>leftW wr w.heap.size b)
 case atStart=>exact⟨fun _=>false,by rw[dfAt_start];exact hi0,hg0.but _⟩
 case round=>
  obtain⟨seen,hi,hgw⟩:=hrel
  go_wp2_with (at_next;refine wpList_nextT _ rfl _ rfl encID_inj w.heap.size b _ seen rfl hi ?_ ?_)
  ·intro hall
   go_wp2
   go_end0
   exact⟨rfl,by rw[←dfAt_end hall];exact hi.map,hgw⟩
  ·intro k v w1 ⟨hmem,hsn,hi1,hg1,hs1,hen⟩
   have hin:(k,v)∈m:=(List.mem_filter.1 hmem).1
   have hgw1:=hgw.andThen hg1 (fun j hj=>by cases hj;exact Or.inl (Nat.le_refl _))
   have hc:=HD.out (w1.alloc (.cells #[.string k.key,.int .i64 k.ver] 54)) k v (hgw1.andThen (World.grownBy_alloc w1 _ none) (fun j hj=>by cases hj)) hin
   have hst:=dfAt_stays (f:=f) (seen:=seen) HN.out hmem
   have hsk:=dfAt_struck (f:=f) (seen:=seen) HN.out hmem
   have hlt:=leftN_step (m:=dfAt m f seen) (seen:=seen) hmem hsn
   have hle:=leftN_del (dfAt m f seen) (fun x=>seen x || decide (x=k)) k
   have HK:=Lib.hid (And.intro hst (And.intro hsk (And.intro hlt hle)))
   clear hst hsk hlt hle hmem hsn hin
   obtain⟨kk,kn⟩:=k
   obtain⟨vb,vs⟩:=v
   simp only[encID,encSet] at hen hc ⊢
   cases hp:f ⟨kk,kn⟩ ⟨vb,vs⟩ <;> rw[hp] at hc
   ·go_wp2_with (go_at_fn g;refine hc.mono ?_;rintro e w2 ⟨rfl,hg2⟩)
    have hi2:=hi1.kept (w':=w2) ((World.grownBy_alloc w1 _ none).andThen hg2 (fun j hj=>by cases hj)) (by simp) (by simp)
    go_roundw
    case rel=>exact⟨_,by rw[HK.out.1 hp];exact hi2,hgw1.andThen ((World.grownBy_alloc w1 _ none).andThen hg2 (fun j hj=>by cases hj)) (fun j hj=>by cases hj)⟩
    case measure=>rw[hi2.left,hi.left];exact HK.out.2.2.1
   ·go_wp2_with (first
     | (go_at_fn g;refine hc.mono ?_;rintro e w2 ⟨rfl,hg2⟩;have hi2:=hi1.kept (w':=w2) ((World.grownBy_alloc w1 _ none).andThen hg2 (fun j hj=>by cases hj)) (by simp) (by simp);have hx2:w2.cell? ⟨wr.heap.size,0,none⟩=some (.string kk):=(hg2.cell (by rw[←hs1];simp[go_sem]) (by simp));have hx3:w2.cell? ⟨wr.heap.size,1,none⟩=some (.int .i64 kn):=(hg2.cell (by rw[←hs1];simp[go_sem]) (by simp)))
     | (at_delete;refine wpList_deleteIterT _ rfl _ _ 120 54 rfl keID Tryz.underlying120 w.heap.size b _ _ rfl hi2 ⟨kk,kn⟩ rfl ?_;intro w3 hi3 hg3 hs3;go_frame))
    go_roundw
    case rel=>exact⟨_,by rw[HK.out.2.1 hp];exact hi3,(hgw1.andThen ((World.grownBy_alloc w1 _ none).andThen hg2 (fun j hj=>by cases hj)) (fun j hj=>by cases hj)).andThen hg3 (fun j hj=>by cases hj;exact Or.inr rfl)⟩
    case measure=>rw[hi3.left,hi.left];exact Nat.lt_of_le_of_lt HK.out.2.2.2 HK.out.2.2.1
set_option maxHeartbeats 4000000 in
theorem delPend (b:Nat) (m:List (ID × Pend)) (f:ID→Pend→Bool) (g:Nat) (cb:Array Value) (w:World) (eg:∀args w,(callFunc g args).run Tryz.prog w = .ok (.enter g args) w)
  (hm:MapT w b encID encPend m)
  (hdel:∀(W:World) (k:ID) (v:Pend),w.grownBy W (some b)→(k,v)∈m→Calls Tryz.prog g (#[encID k,encPend v]++cb) W fun e w'=>e = .returned (.bool (f k v))∧W.grownBy w' none) :
  Calls Tryz.prog 191 #[.map (some b),.func (.func g) #[] cb] w fun e w'=>e = .returned (.tuple #[])∧MapT w' b encID encPend (m.filter fun p=>!f p.1 p.2)∧w.grownBy w' (some b):=by
 have hnd:=hm.nodup
 have HD:=Lib.hid hdel
 have HN:=Lib.hid hnd
 clear hdel hnd
 go_enter Tryz.func191,Tryz.ntmps191
 go_wp2_with (at_range;refine wpList_rangeT _ rfl _ 119 rfl Tryz.underlying119 b m rfl hm ?_;intro w0 hi0 hg0 hs0)
 go_frame
 go_loopw [8] (fun _ wr=>∃seen,IterT wr w.heap.size b encID encPend (dfAt m f seen) seen∧w.grownBy wr (some b)) (fun _ wr=>leftW wr w.heap.size b)
 case atStart=>exact⟨fun _=>false,by rw[dfAt_start];exact hi0,hg0.but _⟩
 case round=>
  obtain⟨seen,hi,hgw⟩:=hrel
  go_wp2_with (at_next;refine wpList_nextT _ rfl _ rfl encID_inj w.heap.size b _ seen rfl hi ?_ ?_)
  ·intro hall
   go_wp2
   go_end0
   exact⟨rfl,by rw[←dfAt_end hall];exact hi.map,hgw⟩
  ·intro k v w1 ⟨hmem,hsn,hi1,hg1,hs1,hen⟩
   have hin:(k,v)∈m:=(List.mem_filter.1 hmem).1
   have hgw1:=hgw.andThen hg1 (fun j hj=>by cases hj;exact Or.inl (Nat.le_refl _))
   have hc:=HD.out ((w1.alloc (.cells #[.string k.key,.int .i64 k.ver] 54)).alloc (.cells #[.int .i64 v.client,.int .i64 v.req] 130)) k v (hgw1.andThen (grown_alloc (World.grownBy_alloc w1 _ none) _) (fun j hj=>by cases hj)) hin
   have hst:=dfAt_stays (f:=f) (seen:=seen) HN.out hmem
   have hsk:=dfAt_struck (f:=f) (seen:=seen) HN.out hmem
   have hlt:=leftN_step (m:=dfAt m f seen) (seen:=seen) hmem hsn
   have hle:=leftN_del (dfAt m f seen) (fun x=>seen x || decide (x=k)) k
   have HK:=Lib.hid (And.intro hst (And.intro hsk (And.intro hlt hle)))
   clear hst hsk hlt hle hmem hsn hin
   obtain⟨kk,kn⟩:=k
   obtain⟨vc,vr⟩:=v
   simp only[encID,encPend] at hen hc ⊢
   cases hp:f ⟨kk,kn⟩ ⟨vc,vr⟩ <;> rw[hp] at hc
   ·go_wp2_with (go_at_fn g;refine hc.mono ?_;rintro e w2 ⟨rfl,hg2⟩)
    have hi2:=hi1.kept (w':=w2) ((grown_alloc (World.grownBy_alloc w1 _ none) _).andThen hg2 (fun j hj=>by cases hj)) (by simp) (by simp)
    go_roundw
    case rel=>exact⟨_,by rw[HK.out.1 hp];exact hi2,hgw1.andThen ((grown_alloc (World.grownBy_alloc w1 _ none) _).andThen hg2 (fun j hj=>by cases hj)) (fun j hj=>by cases hj)⟩
    case measure=>rw[hi2.left,hi.left];exact HK.out.2.2.1
   ·go_wp2_with (first
     | (go_at_fn g;refine hc.mono ?_;rintro e w2 ⟨rfl,hg2⟩;have hi2:=hi1.kept (w':=w2) ((grown_alloc (World.grownBy_alloc w1 _ none) _).andThen hg2 (fun j hj=>by cases hj)) (by simp) (by simp);have hx2:w2.cell? ⟨wr.heap.size,0,none⟩=some (.string kk):=(hg2.cell (by rw[←hs1];simp[go_sem]) (by simp));have hx3:w2.cell? ⟨wr.heap.size,1,none⟩=some (.int .i64 kn):=(hg2.cell (by rw[←hs1];simp[go_sem]) (by simp)))
     | (at_delete;refine wpList_deleteIterT _ rfl _ _ 119 54 rfl keID Tryz.underlying119 w.heap.size b _ _ rfl hi2 ⟨kk,kn⟩ rfl ?_;intro w3 hi3 hg3 hs3;go_frame))
    go_roundw
    case rel=>exact⟨_,by rw[HK.out.2.1 hp];exact hi3,(hgw1.andThen ((grown_alloc (World.grownBy_alloc w1 _ none) _).andThen hg2 (fun j hj=>by cases hj)) (fun j hj=>by cases hj)).andThen hg3 (fun j hj=>by cases hj;exact Or.inr rfl)⟩
    case measure=>rw[hi3.left,hi.left];exact Nat.lt_of_le_of_lt HK.out.2.2.2 HK.out.2.2.1
section
variable {w : World} {tb : Nat} {T : Tab}
theorem begins1 (k:ID) (v:Pend) (bx:Nat) (cl:Int) (W:World) (h2:W.cell? ⟨bx,2,none⟩=some (.int .i64 cl)) :
  Calls Tryz.prog 192 (#[encID k,encPend v] ++ #[.pointer (some ⟨bx,0,none⟩)]) W fun e w'=>e = .returned (.bool (decide (v.client=cl)))∧W.grownBy w' none:=by
 have hlt:=cell_lt h2
 obtain⟨kk,kn⟩:=k
 obtain⟨vc,vr⟩:=v
 simp only[encID,encPend]
 go_enter Tryz.func192,Tryz.ntmps192
 go_wp2
 go_ret
 exact⟨rfl,by repeat (first|exact grown_refl _|exact World.grownBy_alloc _ _ _|refine grown_ext' ?_ _|refine grown_alloc ?_ _|refine grown_drew ?_)⟩
def beginsB (T:Tab) (c:Cmd):Bool:=decide ((callV T c.client).req<c.req)
def dropC (T:Tab) (n:Int):List (ID × Pend):=T.pending.filter fun p=>!decide (p.2.client=n)
def begunT (T:Tab) (c:Cmd):Tab:=if beginsB T c=true then { T with pending:=dropC T c.client } else T
theorem begunT_t {T:Tab} {c:Cmd} (h:beginsB T c=true):begunT T c = { T with pending:=dropC T c.client }:=if_pos h
theorem begunT_f {T:Tab} {c:Cmd} (h:beginsB T c=false):begunT T c=T:=if_neg (by rw[h];decide)
def Chg (w w':World) (bs:List Nat):Prop:=w'.os=w.os∧w'.tape=w.tape∧w'.output=w.output∧w.heap.size≤w'.heap.size∧∀k,k<w.heap.size→k ∉ bs→w'.heap[k]? = w.heap[k]?
theorem Chg.refl (w:World) (bs:List Nat):Chg w w bs:=⟨rfl,rfl,rfl,Nat.le_refl _,fun _ _ _=>rfl⟩
theorem Chg.grown {a b c:World} {bs:List Nat} (h:Chg a b bs) (g:b.grownBy c none):Chg a c bs:=
 ⟨g.os.trans h.1,g.tape.trans h.2.1,g.output.trans h.2.2.1,Nat.le_trans h.2.2.2.1 g.size,fun k hk hn=>(g.block k (Nat.lt_of_lt_of_le hk h.2.2.2.1) (by simp)).trans (h.2.2.2.2 k hk hn)⟩
theorem Chg.turned {a b c:World} {bs:List Nat} {r:Nat} (h:Chg a b bs) (g:b.grownBy c (some r)) (hr:r∈bs∨a.heap.size≤r):Chg a c bs:=
 ⟨g.os.trans h.1,g.tape.trans h.2.1,g.output.trans h.2.2.1,Nat.le_trans h.2.2.2.1 g.size,fun k hk hn=>(g.block k (Nat.lt_of_lt_of_le hk h.2.2.2.1) (by
  intro e;cases e;rcases hr with hr|hr
  ·exact hn hr
  ·omega)).trans (h.2.2.2.2 k hk hn)⟩
theorem Chg.trans {a b c:World} {bs cs:List Nat} (h:Chg a b bs) (g:Chg b c cs) (hs:∀x∈cs,x∈bs∨a.heap.size≤x):Chg a c bs:=
 ⟨g.1.trans h.1,g.2.1.trans h.2.1,g.2.2.1.trans h.2.2.1,Nat.le_trans h.2.2.2.1 g.2.2.2.1,fun k hk hn=>(g.2.2.2.2 k (Nat.lt_of_lt_of_le hk h.2.2.2.1) (by
  intro e;rcases hs k e with hr|hr
  ·exact hn hr
  ·omega)).trans (h.2.2.2.2 k hk hn)⟩
theorem Chg.of_grown {a b:World} (g:a.grownBy b none) (bs:List Nat):Chg a b bs:=(Chg.refl a bs).grown g
theorem Chg.block {a b:World} {bs:List Nat} (h:Chg a b bs) {k:Nat} (hk:k<a.heap.size) (hn:k ∉ bs):b.heap[k]? = a.heap[k]?:=h.2.2.2.2 k hk hn
theorem Chg.cell {a b:World} {bs:List Nat} (h:Chg a b bs) {p:Addr} {v:Value} (hv:a.cell? p=some v) (hn:p.block ∉ bs):b.cell? p=some v:=by
 rw[World.cell?_of_block (h.block (cell_lt hv) hn)];exact hv
theorem begins_any (h:TRep w tb T) (c:Cmd) :
  Calls Tryz.prog 171 #[.pointer (some ⟨tb,0,none⟩),encCmd c] w fun e w'=>e = .returned (.bool (beginsB T c))∧
   TRep w' tb (begunT T c)∧w.grownBy w' (some T.pb):=by
 have c4:=h.c4
 have c6:=h.c6
 have htb:=h.tlt
 have hc:=h.calls
 have hplt:=h.pending.lt
 obtain⟨kind,node,client,inc,req,ver,key,code⟩:=c
 have hrun:=fun W hW=>TRep.run_calls (T:=T) W hW client
 have HB:Hid (beginsB T ⟨kind,node,client,inc,req,ver,key,code⟩=decide ((callV T client).req<req)):=(show _=_ from rfl)
 have HT:=Lib.hid h
 clear h
 simp only[encCmd]
 generalize (callV T client).req=r1 at *
 generalize (callV T client).ver=r2 at *
 generalize (callV T client).done=r3 at *
 generalize (callV T client).code=r4 at *
 by_cases hr:req≤r1
 ·have hd:decide (r1<req)=false:=by simpa using hr
  rw[hd] at HB
  clear hd
  have hd2:decide (req≤r1)=true:=by simpa using hr
  go_enter Tryz.func171,Tryz.ntmps171
  go_wp2
  refine wp_region_quiet_ext (by kernel_rfl) (by kernel_rfl) ?_
  repeat (any_goals (first|go_big_quiet_step (fail)|quiet_step (fail)))
  refine wpQuiet_nil ?_
  intro _ hw'
  obtain⟨y,hw''⟩:=hw'
  subst hw''
  go_wp2
  go_ret
  have hg:w.grownBy (ext (w.alloc (.cells #[.int .u8 kind,.int .i64 node,.int .i64 client,.int .i64 inc,.int .i64 req,.int .i64 ver,.string key,.int .i64 code] 24)) y) none:=by repeat (first|exact grown_refl _|exact World.grownBy_alloc _ _ _|refine grown_ext' ?_ _|refine grown_alloc ?_ _|refine grown_drew ?_)
  exact⟨by rw[HB.out];rfl,by rw[begunT_f HB.out];exact HT.out.grown hg,hg.but _⟩
 ·have hd:decide (r1<req)=true:=by simp;omega
  rw[hd] at HB
  clear hd
  have hd2:decide (req≤r1)=false:=by simpa using hr
  go_enter Tryz.func171,Tryz.ntmps171
  go_wp2
  refine wp_region_quiet_ext (by kernel_rfl) (by kernel_rfl) ?_
  repeat (any_goals (first|go_big_quiet_step (fail)|quiet_step (fail)))
  refine wpQuiet_nil ?_
  intro _ hw'
  obtain⟨y,hw''⟩:=hw'
  subst hw''
  have hg:w.grownBy (ext (w.alloc (.cells #[.int .u8 kind,.int .i64 node,.int .i64 client,.int .i64 inc,.int .i64 req,.int .i64 ver,.string key,.int .i64 code] 24)) y) none:=by repeat (first|exact grown_refl _|exact World.grownBy_alloc _ _ _|refine grown_ext' ?_ _|refine grown_alloc ?_ _|refine grown_drew ?_)
  have eg:∀args w,(callFunc 192 args).run Tryz.prog w = .ok (.enter 192 args) w:=enters_of Tryz.func192 (by kernel_rfl) rfl
  have hdel:=delPend T.pb T.pending (fun _ v=>decide (v.client=client)) 192 #[.pointer (some ⟨w.heap.size,0,none⟩)] (ext (w.alloc (.cells #[.int .u8 kind,.int .i64 node,.int .i64 client,.int .i64 inc,.int .i64 req,.int .i64 ver,.string key,.int .i64 code] 24)) y) eg ((HT.out.grown hg).pending) (fun W k v hW _=>begins1 k v w.heap.size client W (hW.cell (by simp[go_sem]) (by simp;omega)))
  have HD:=Lib.hid hdel
  clear hdel eg
  go_wp2_with (go_at_call 191;refine HD.out.mono ?_;rintro e w1 ⟨rfl,hm1,hg1⟩)
  go_ret
  exact⟨by rw[HB.out];rfl,by rw[begunT_t HB.out];exact(HT.out.grown hg).upd_pending hm1 hg1,(hg.but _).andThen hg1 (fun j hj=>by cases hj;exact Or.inr rfl)⟩
end
end Go.Proofs.YtjfelfjobeeenaaGreat
