/- The document's Do: blocks of the call's own; a table's numbers. Conditions: none. cmp.Compare, cmp.Or, and how ids are ordered: the walks. Conditions: none. slices.Collect over the keys of a map whose keys are ids. Conditions: a map that lies in memory, not too many keys. DERIVED: THE SHELF's CONTRACTS AT THIS DUMP, IN PLAIN WORDS (tools/lay-plain.mjs out of 'YtjfelfjobeeenaaGreatLayFX.lean', which tools/lay-shelf.mjs wrote): THE SAME DECLARATIONS UNDER THE SAME NAMES: 'import', 'namespace', 'open', 'def', 'theorem' AND NOTHING ELSE: no command of the shelf's: FOR A HAND-IN. Each laying: the table of numbers ('.._ren') and one theorem, a field a fact of the dump's own or the kernel's comparison; each contract: ONE APPLICATION. -/
import Derived.Test.YtjfelfjobeeenaaGreatP17
import Derived.Test.YtjfelfjobeeenaaGreatP11
import Derived.Shelf.SlSortCmp.WholeK
import Derived.Deep.RegionHeld3
import Derived.RangeFuncNested
import Derived.RangeFuncLeaves
import Derived.Shelf.Abstract
import Derived.WalkKit
import Derived.OwnWalkIn
import Derived.TacticsInMore
import Derived.RegionIn
import Derived.LoopNIn
import Derived.LoopIn
import Derived.Maps.OwnIn
import Derived.Maps.AppendAt
import Derived.Shelf.SlLaysF0
import Derived.Ground.SlsfProg
import Derived.Shelf.SlGeneric
import Derived.Test.YtjfelfjobeeenaaGreatProg
namespace Go.Proofs.YtjfelfjobeeenaaGreat
set_option linter.unusedVariables false
set_option linter.unusedSimpArgs false
open Go.RowKit Go.Sf Go.Shelf
def fence (bs:Nat→Prop) (W W2:World) (k:Nat):Prop:=bs k∧(k<W.heap.size∨W2.heap.size≤k)
@[go_sem] theorem fieldRV1 (k:ByteArray) (r1:Int) (r3:Bool) (w:World):(Instr.field 202 (.agg #[.string k,.int .i64 r1,.bool r3]) 1).run Tryz.prog w = .ok (.int .i64 r1) w:=by kernel_rfl
section
variable {bs : Nat → Prop} {W W2 w : World} {rb : Nat} {R : RTab}
theorem RAt.fence (h:RAt bs W rb R) (hg:W.grownBy W2 none):RAt (fence bs W W2) W2 rb R:=
 (h.mono fun k hk hb=>⟨hb,Or.inl hk⟩).grown hg
theorem fence_new (hbs:∀k,W.heap.size≤k→bs k) (hs:W.heap.size≤W2.heap.size) (w:World) (hw:W2.heap.size≤w.heap.size):∀k,w.heap.size≤k→fence bs W W2 k:=fun k hk=>⟨hbs k (by omega),Or.inr (by omega)⟩
theorem fence_end (hg:W.grownBy W2 none) (h:RAt (fence bs W W2) w rb R) (ht:Turn (fence bs W W2) W2 w):RAt bs w rb R∧Turn bs W w:=
 ⟨h.mono fun k _ hk=>hk.1,turn_then hg (ht.mono fun k hk=>hk.1)⟩
theorem fence_at (ht:Turn (fence bs W W2) W2 w) {b:Nat} {o:Obj} (hb:W2.heap[b]? = some o) (h1:W.heap.size≤b):w.heap[b]? = some o:=
 (ht.block b (Array.getElem?_eq_some_iff.1 hb).1 (fun hf=>by
  have:=(Array.getElem?_eq_some_iff.1 hb).1
  rcases hf.2 with h|h <;> omega)).trans hb
theorem boxes {a0 a1 a2 a3 a4 a5 a6 a7 x0 x1:Value} {t t':TypeId} (h0:W2.heap[W.heap.size]? = some (.cells #[a0,a1,a2,a3,a4,a5,a6,a7] t (0,0))) (h1:W2.heap[W.heap.size+1]? = some (.cells #[x0,x1] t' (0,0))) (ht:Turn (Go.Proofs.YtjfelfjobeeenaaGreat.fence bs W W2) W2 w) :
  (w.cell? ⟨W.heap.size,0,none⟩=some a0∧w.cell? ⟨W.heap.size,1,none⟩=some a1∧w.cell? ⟨W.heap.size,2,none⟩=some a2∧w.cell? ⟨W.heap.size,3,none⟩=some a3∧w.cell? ⟨W.heap.size,4,none⟩=some a4∧w.cell? ⟨W.heap.size,5,none⟩=some a5∧w.cell? ⟨W.heap.size,6,none⟩=some a6∧w.cell? ⟨W.heap.size,7,none⟩=some a7)∧
  w.cell? ⟨W.heap.size+1,0,none⟩=some x0∧w.cell? ⟨W.heap.size+1,1,none⟩=some x1∧W.heap.size<w.heap.size∧W.heap.size+1<w.heap.size:=by
 have e0:=fence_at ht h0 (Nat.le_refl _)
 have e1:=fence_at ht h1 (Nat.le_succ _)
 exact⟨⟨(cell_block e0 0).trans rfl,(cell_block e0 1).trans rfl,(cell_block e0 2).trans rfl,(cell_block e0 3).trans rfl,(cell_block e0 4).trans rfl,(cell_block e0 5).trans rfl,(cell_block e0 6).trans rfl,(cell_block e0 7).trans rfl⟩,(cell_block e1 0).trans rfl,(cell_block e1 1).trans rfl,(Array.getElem?_eq_some_iff.1 e0).1,(Array.getElem?_eq_some_iff.1 e1).1⟩
theorem RAt.setOff (h:RAt bs W rb R) (n:Int):RAt bs (W.setCell ⟨rb,2,none⟩ (.int .i64 n)) rb { R with offers:=n }∧Turn bs W (W.setCell ⟨rb,2,none⟩ (.int .i64 n)):=by
 obtain⟨vL,vC,vV,vP,vH,h1,h2,h3⟩:=h
 refine⟨⟨vL,vC,vV,vP,vH,⟨(heap_set_eq h1.box _).trans rfl,?_,?_,?_,?_,?_⟩,h2,h3⟩,⟨rfl,rfl,rfl,by simp[World.setCell],fun k hk hn=>heap_set_ne W _ _ k (fun e=>hn (by rw[e];exact h2))⟩⟩
 ·exact h1.lives.same fun g hg=>heap_set_ne W _ _ g (fun e=>own_ne h1.lives h1.box (by decide) (by rw[hg];exact congrArg some e))
 ·exact h1.calls.same fun g hg=>heap_set_ne W _ _ g (fun e=>own_ne h1.calls h1.box (by decide) (by rw[hg];exact congrArg some e))
 ·exact h1.vals.same fun g hg=>heap_set_ne W _ _ g (fun e=>own_ne h1.vals h1.box (by decide) (by rw[hg];exact congrArg some e))
 ·exact h1.pends.same fun g hg=>heap_set_ne W _ _ g (fun e=>own_ne h1.pends h1.box (by decide) (by rw[hg];exact congrArg some e))
 ·exact h1.holds.same fun g hg=>heap_set_ne W _ _ g (fun e=>own_ne h1.holds h1.box (by decide) (by rw[hg];exact congrArg some e))
theorem RAt.setNext (h:RAt bs W rb R) (n:Int):RAt bs (W.setCell ⟨rb,3,none⟩ (.int .i64 n)) rb { R with next:=n }∧Turn bs W (W.setCell ⟨rb,3,none⟩ (.int .i64 n)):=by
 obtain⟨vL,vC,vV,vP,vH,h1,h2,h3⟩:=h
 refine⟨⟨vL,vC,vV,vP,vH,⟨(heap_set_eq h1.box _).trans rfl,?_,?_,?_,?_,?_⟩,h2,h3⟩,⟨rfl,rfl,rfl,by simp[World.setCell],fun k hk hn=>heap_set_ne W _ _ k (fun e=>hn (by rw[e];exact h2))⟩⟩
 ·exact h1.lives.same fun g hg=>heap_set_ne W _ _ g (fun e=>own_ne h1.lives h1.box (by decide) (by rw[hg];exact congrArg some e))
 ·exact h1.calls.same fun g hg=>heap_set_ne W _ _ g (fun e=>own_ne h1.calls h1.box (by decide) (by rw[hg];exact congrArg some e))
 ·exact h1.vals.same fun g hg=>heap_set_ne W _ _ g (fun e=>own_ne h1.vals h1.box (by decide) (by rw[hg];exact congrArg some e))
 ·exact h1.pends.same fun g hg=>heap_set_ne W _ _ g (fun e=>own_ne h1.pends h1.box (by decide) (by rw[hg];exact congrArg some e))
 ·exact h1.holds.same fun g hg=>heap_set_ne W _ _ g (fun e=>own_ne h1.holds h1.box (by decide) (by rw[hg];exact congrArg some e))
theorem RAt.mem (h:RAt bs W rb R):∃vL vC vV vP vH,RMem W rb R vL vC vV vP vH:=by
 obtain⟨vL,vC,vV,vP,vH,h1,_⟩:=h
 exact⟨vL,vC,vV,vP,vH,h1⟩
theorem RAt.c2 (h:RAt bs W rb R):W.cell? ⟨rb,2,none⟩=some (.int .i64 R.offers):=by obtain⟨_,_,_,_,_,h1⟩:=h.mem;exact h1.c2
theorem RAt.c3 (h:RAt bs W rb R):W.cell? ⟨rb,3,none⟩=some (.int .i64 R.next):=by obtain⟨_,_,_,_,_,h1⟩:=h.mem;exact h1.c3
theorem RAt.c0 (h:RAt bs W rb R):W.cell? ⟨rb,0,none⟩=some (.int .i64 R.N):=by obtain⟨_,_,_,_,_,h1⟩:=h.mem;exact h1.c0
theorem RAt.c1 (h:RAt bs W rb R):W.cell? ⟨rb,1,none⟩=some (.int .i64 R.W):=by obtain⟨_,_,_,_,_,h1⟩:=h.mem;exact h1.c1
theorem RAt.free (h:RAt bs W rb R) (i:Nat):W.frozen? ⟨rb,i,none⟩=false:=by obtain⟨_,_,_,_,_,h1⟩:=h.mem;exact h1.free i
theorem RAt.live (h:RAt bs W rb R) {a:Nat} (ha:a<R.lives.length):∃gL capL,W.cell? ⟨rb,4,none⟩=some (.slice (some ⟨gL,0,none⟩) R.lives.length capL)∧W.cell? ⟨gL,a,none⟩=some (.int .i64 (R.lives.getD a 0))∧W.frozen? ⟨gL,a,none⟩=false∧R.lives.length≤capL∧capL≤9223372036854775807:=by
 obtain⟨vL,vC,vV,vP,vH,h1⟩:=h.mem
 obtain⟨gL,capL,rfl,hc,hf⟩:=(h1.lives.at lenI).resolve_left (fun e=>by rw[e] at ha;simp at ha)
 obtain⟨p2,c2,e2,h3,h4⟩:=h1.lives.form
 injection e2 with _ _ e2
 subst e2
 refine⟨gL,capL,h1.c4,?_,hf a,h4,h3⟩
 have:=hc a ha 0 _ rfl
 simp only[Nat.mul_one,Nat.add_zero] at this
 rw[this];simp[List.getD,List.getElem?_eq_getElem ha]
theorem RAt.setLive (h:RAt bs W rb R) {a:Nat} (ha:a<R.lives.length):∃gL capL,W.cell? ⟨rb,4,none⟩=some (.slice (some ⟨gL,0,none⟩) R.lives.length capL)∧W.cell? ⟨gL,a,none⟩=some (.int .i64 (R.lives.getD a 0))∧W.frozen? ⟨gL,a,none⟩=false∧R.lives.length≤capL∧capL≤9223372036854775807∧∀x:Int,RAt bs (W.setCell ⟨gL,a,none⟩ (.int .i64 x)) rb { R with lives:=R.lives.set a x }∧Turn bs W (W.setCell ⟨gL,a,none⟩ (.int .i64 x)):=by
 obtain⟨vL,vC,vV,vP,vH,h1,h2,h3⟩:=h
 obtain⟨gL,capL,rfl,hc,hf⟩:=(h1.lives.at lenI).resolve_left (fun e=>by rw[e] at ha;simp at ha)
 obtain⟨p2,c2,e2,h4,h5⟩:=h1.lives.form
 injection e2 with _ _ e2
 subst e2
 refine⟨gL,capL,h1.c4,?_,hf a,h5,h4,fun x=>?_⟩
 ·have:=hc a ha 0 _ rfl
  simp only[Nat.mul_one,Nat.add_zero] at this
  rw[this];simp[List.getD,List.getElem?_eq_getElem ha]
 ·obtain⟨s1,s2⟩:=h1.lives.put lenI x a ha
  simp only[cellsI,List.foldl_cons,List.foldl_nil,Nat.mul_one] at s1 s2
  exact⟨⟨_,vC,vV,vP,vH,h1.putL s1 s2,h2,h3⟩,turn_some s2 (fun k hk=>h3.1 k (by rw[←hk];rfl))⟩
structure ROk (R:RTab):Prop where
 lc:R.calls.length≤10000000
 lv:R.vals.length≤10000000
 lp:R.pends.length≤10000000
 lh:R.holds.length≤10000000
 ll:R.lives.length≤1000000
 nd:∀x∈R.holds,0≤x.node∧x.node<(R.lives.length:Int)
 nn:R.N=R.lives.length
 o0:0≤R.offers
 o1:R.offers≤4611686018427387904
 x0:0≤R.next
 x1:R.next≤4611686018427387904
 w0:0≤R.W
 w1:R.W≤1000000
theorem pendI_some (R:RTab) (i:ID) (h:0≤pendI R i):∃k:Nat,pendI R i=k∧∃hk:k<R.pends.length,mget R.pends i=some R.pends[k].2∧R.pends[k].1=i∧{ R with pends:=R.pends.eraseIdx k }=rends R i:=by
 unfold pendI firstI at *
 cases e:R.pends.findIdx? fun p=>decide (p.1=i) with
 | none=>rw[e] at h;simp at h
 | some k=>
  obtain⟨hk,hf,hno⟩:=List.findIdx?_eq_some_iff_getElem.1 e
  have hN:NoneB (fun p:ID × Pend=>decide (p.1=i)) R.pends k:=fun j hj hjk=>by have:=hno j hjk;simpa using this
  have hi:R.pends[k].1=i:=by simpa using hf
  refine⟨k,rfl,hk,mget_hit hN hk hi,hi,?_⟩
  unfold rends
  rw[eraseP_at (k:=k) hN hk hf]
theorem pendI_none (R:RTab) (i:ID) (h:¬0≤pendI R i):mget R.pends i=none:=by
 have:=pendI_B R i
 rw[show decide (0≤pendI R i)=false from by simpa using h] at this
 unfold rpendB at this
 cases e:mget R.pends i with
 | none=>rfl
 | some _=>rw[e] at this;cases this
theorem turn_block {F:Nat→Prop} (ht:Turn F W2 w) {b:Nat} {o:Obj} (hb:W2.heap[b]? = some o) (h1:¬F b):w.heap[b]? = some o:=
 (ht.block b (Array.getElem?_eq_some_iff.1 hb).1 h1).trans hb
end
open Go.RowKit Go.Sf Go.Shelf Go.Sort Go.Lib
def cmpI (a b:Int):Int:=if a<b then -1 else if b<a then 1 else 0
def cmpB (a b:ByteArray):Int:=if Op.bytesLess a.toList b.toList=true then -1 else if a=b then 0 else 1
def ordI (a b:ID):Int:=if cmpB a.key b.key=0 then cmpI a.ver b.ver else cmpB a.key b.key
set_option maxHeartbeats 1000000 in
theorem cmpI_any (a b:Int) (W:World):Calls Tryz.prog 126 #[.int .i64 a,.int .i64 b] W fun e w'=>e = .returned (.int .i64 (cmpI a b))∧w'=W:=by
 by_cases h1:a<b
 ·have hc:cmpI a b = -1:=by unfold cmpI;rw[if_pos h1]
  rw[hc]
  go_enter Tryz.func126,Tryz.ntmps126
  go_wp2
  go_ret
  exact⟨rfl,rfl⟩
 ·by_cases h2:b<a
  ·have hc:cmpI a b=1:=by unfold cmpI;rw[if_neg h1,if_pos h2]
   rw[hc]
   go_enter Tryz.func126,Tryz.ntmps126
   go_wp2
   go_ret
   exact⟨rfl,rfl⟩
  ·have hc:cmpI a b=0:=by unfold cmpI;rw[if_neg h1,if_neg h2]
   rw[hc]
   go_enter Tryz.func126,Tryz.ntmps126
   go_wp2
   go_ret
   exact⟨rfl,rfl⟩
set_option maxHeartbeats 1000000 in
theorem cmpB_any (a b:ByteArray) (W:World):Calls Tryz.prog 89 #[.string a,.string b] W fun e w'=>e = .returned (.int .i64 (cmpB a b))∧w'=W:=by
 cases h1:Op.bytesLess a.toList b.toList with
 | true=>
  have hc:cmpB a b = -1:=by unfold cmpB;rw[if_pos h1]
  rw[hc]
  go_enter Tryz.func89,Tryz.ntmps89
  go_wp2
  go_ret
  exact⟨rfl,rfl⟩
 | false=>
  cases h2:(a.toList == b.toList) with
  | true=>
   have e:a=b:=by rw[toList_eq_iff] at h2;exact of_decide_eq_true h2
   have hc:cmpB a b=0:=by unfold cmpB;rw[if_neg (by rw[h1];decide),if_pos e]
   rw[hc]
   clear e
   go_enter Tryz.func89,Tryz.ntmps89
   go_wp2
   go_ret
   exact⟨rfl,rfl⟩
  | false=>
   have e:¬a=b:=by rw[toList_eq_iff] at h2;exact of_decide_eq_false h2
   have hc:cmpB a b=1:=by unfold cmpB;rw[if_neg (by rw[h1];decide),if_neg e]
   rw[hc]
   clear e
   go_enter Tryz.func89,Tryz.ntmps89
   go_wp2
   go_ret
   exact⟨rfl,rfl⟩
set_option maxHeartbeats 1000000 in
theorem or_any (x y:Int) (g:Nat) (W:World) (h0:W.cell? ⟨g,0,none⟩=some (.int .i64 x)) (h1:W.cell? ⟨g,1,none⟩=some (.int .i64 y)):Calls Tryz.prog 125 #[.slice (some ⟨g,0,none⟩) 2 2] W fun e w'=>e = .returned (.int .i64 (if x=0 then y else x))∧w'=W:=by
 obtain⟨r,hr⟩:∃r,r=if x=0 then y else x:=⟨_,rfl⟩
 rw[←hr]
 go_enter Tryz.func125,Tryz.ntmps125
 go_wp2
 go_loopw [5,8] (fun _ i wr=>wr=W∧(i = .int .i64 0∨(i = .int .i64 1∧x=0)∨(i = .int .i64 2∧x=0∧y=0))) (fun _ i _=>2-(intOf i).toNat)
 case atStart=>exact⟨rfl,Or.inl rfl⟩
 case round=>
  obtain⟨rfl,rfl|⟨rfl,hx⟩|⟨rfl,hx,hy⟩⟩:=hrel
  ·by_cases hx:x=0
   ·subst hx
    go_wp2
    go_roundw
    case rel=>simp
    case measure=>simp[intOf]
   ·rw[if_neg hx] at hr
    subst hr
    go_wp2
    go_ret
    exact⟨rfl,rfl⟩
  ·subst hx
   rw[if_pos rfl] at hr
   subst hr
   by_cases hy:r=0
   ·subst hy
    go_wp2
    go_roundw
    case rel=>simp
    case measure=>simp[intOf]
   ·go_wp2
    go_ret
    exact⟨rfl,rfl⟩
  ·subst hx;subst hy
   rw[if_pos rfl] at hr
   subst hr
   go_wp2
   go_ret
   exact⟨rfl,rfl⟩
set_option maxHeartbeats 2000000 in
set_option maxRecDepth 100000 in
theorem order_any (a b:ID) (W:World):Calls Tryz.prog 80 #[encID a,encID b] W fun e w'=>e = .returned (.int .i64 (ordI a b))∧∃q os',w'=grow (W.drewN q) os':=by
 obtain⟨ak,av⟩:=a
 obtain⟨bk,bv⟩:=b
 simp only[encID,ordI]
 have HB:=fun W=>cmpB_any ak bk W
 have HI:=fun W=>cmpI_any av bv W
 have HO:=fun g W=>or_any (cmpB ak bk) (cmpI av bv) g W
 generalize cmpB ak bk=x at *
 generalize cmpI av bv=y at *
 generalize (if x=0 then y else x)=r at *
 go_enter Tryz.func80,Tryz.ntmps80
 go_wp2
 have c0:((W.alloc (.cells #[.string ak,.int .i64 av] 54)).alloc (.cells #[.string bk,.int .i64 bv] 54)).cell? ⟨W.heap.size,0,none⟩=some (.string ak):=by simp[go_sem]
 have c1:((W.alloc (.cells #[.string ak,.int .i64 av] 54)).alloc (.cells #[.string bk,.int .i64 bv] 54)).cell? ⟨W.heap.size,1,none⟩=some (.int .i64 av):=by simp[go_sem]
 have c2:((W.alloc (.cells #[.string ak,.int .i64 av] 54)).alloc (.cells #[.string bk,.int .i64 bv] 54)).cell? ⟨W.heap.size+1,0,none⟩=some (.string bk):=by simp[go_sem]
 have c3:((W.alloc (.cells #[.string ak,.int .i64 av] 54)).alloc (.cells #[.string bk,.int .i64 bv] 54)).cell? ⟨W.heap.size+1,1,none⟩=some (.int .i64 bv):=by simp[go_sem]
 have hg:(W.alloc (.cells #[.string ak,.int .i64 av] 54)).alloc (.cells #[.string bk,.int .i64 bv] 54)=grow (W.drewN 0) #[.cells #[.string ak,.int .i64 av] 54,.cells #[.string bk,.int .i64 bv] 54]:=by rw[alloc_eq_grow,alloc_eq_grow,grow_grow];rfl
 generalize (W.alloc (.cells #[.string ak,.int .i64 av] 54)).alloc (.cells #[.string bk,.int .i64 bv] 54)=W2 at *
 have HG:=Lib.hid hg
 clear hg
 go_region_held3 (fun w'=>w'.cell? ⟨W.heap.size,0,none⟩=some (.string ak)∧w'.cell? ⟨W.heap.size,1,none⟩=some (.int .i64 av)∧w'.cell? ⟨W.heap.size+1,0,none⟩=some (.string bk)∧w'.cell? ⟨W.heap.size+1,1,none⟩=some (.int .i64 bv)) (go_keep)
  (first
  | (go_at_call 89;refine(HB _).mono ?_;rintro e w3 ⟨rfl,rfl⟩)
  | (go_at_call 126;refine(HI _).mono ?_;rintro e w3 ⟨rfl,rfl⟩)
  | (go_at_call 125;refine(HO _ _ (by simp[go_sem]) (by simp[go_sem])).mono ?_;rintro e w3 ⟨rfl,rfl⟩))
 all_goals
  go_wp2
  go_ret
  exact⟨rfl,1,_,by rw[HG.out,alloc_eq_grow,grow_grow];rfl⟩
end Go.Proofs.YtjfelfjobeeenaaGreat
namespace Go.Sf
open Go.RowKit Go.MapKept
section
variable {P : Program} {K V : Type} [DecidableEq K] {ek : K → Value} {ev : V → Value} (w : World) {F : Fence} {nF : Nat} {ops : Array Oper} {rest : List Oper} {o : Oper} {a : Act} {Q : Exit → Act → World → Prop}
omit [DecidableEq K] in
theorem wpListIn_rangeT (hg:o.guard=none) (x:Operand) (t:TypeId) (hop:o.op=Op.range t x) {kt et:TypeId} (ht:P.underlying t=some (.map kt et)) (b:Nat) (m:List (K × V)) (hx:a.eval x = .map (some b)) (h:MapT w b ek ev m)
  (hK:∀w',IterT w' w.heap.size b ek ev m (fun _=>false)→w.grownBy w' none→w'.heap.size=w.heap.size+1→wpListIn F nF P ops Q rest (a.put o.dst (.pointer (some ⟨w.heap.size,0,none⟩))) w'):wpListIn F nF P ops Q (o :: rest) a w:=by
 refine wpListIn_plain hg fun K' hK'=>?_
 obtain⟨w',hrun,r1,r2,r3⟩:=h.range ht
 unfold Oper.wpIn
 refine⟨by simp[Oper.about,hop],?_⟩
 rw[Oper.semAt_plain F _ _ (by rw[hop];intro c hc';cases hc')]
 simp[execOp,hop,hx,hrun,Result.andThen]
 exact hK' _ _ (hK w' r1 r2 r3)
theorem wpListIn_nextT (hg:o.guard=none) (it:Operand) (hop:o.op=Op.next it false) (inj:∀a b,ek a=ek b→a=b) (r b:Nat) (m:List (K × V)) (seen:K→Bool) (hit:a.eval it = .pointer (some ⟨r,0,none⟩)) (h:IterT w r b ek ev m seen)
  (hDone:AllSeen m seen→wpListIn F nF P ops Q rest (a.put o.dst (.tuple #[.bool false])) w)
  (hMore:∀k v w',Came P w w' r b ek ev m seen k v→wpListIn F nF P ops Q rest (a.put o.dst (.tuple #[.bool true,ek k,ev v])) w'):wpListIn F nF P ops Q (o :: rest) a w:=by
 refine wpListIn_plain hg fun K' hK'=>?_
 unfold Oper.wpIn
 refine⟨by simp[Oper.about,hop],?_⟩
 rw[Oper.semAt_plain F _ _ (by rw[hop];intro c hc';cases hc')]
 rcases h.next (P:=P) inj o.type with ⟨h0,hrun⟩|⟨k,v,w',r1,r2,hrun,r3,r4,r5,r6⟩
 ·simp[execOp,hop,hit,hrun,Result.andThen]
  exact hK' _ _ (hDone h0)
 ·simp[execOp,hop,hit,hrun,Result.andThen]
  exact hK' _ _ (hMore k v w' ⟨r1,r2,r3,r4,r5,r6⟩)
end
section
variable {K V : Type} {ek : K → Value} {ev : V → Value} {w w' : World} {r b : Nat} {m : List (K × V)} {seen : K → Bool}
theorem IterT.walks (h:IterT w r b ek ev m seen) (hk:KeepsWalks w w'):IterT w' r b ek ev m seen:=by
 obtain⟨es,clock,sn,hb,hs,he,hr,h2⟩:=h
 exact⟨es,clock,sn,hk.same b _ hb rfl,hs,he,hk.same r _ hr rfl,h2⟩
theorem IterT.walk (h:IterT w r b ek ev m seen):∃o:Obj,w.heap[r]? = some o∧o.isWalk=true:=by
 obtain⟨es,clock,sn,hb,hs,he,hr,h2⟩:=h
 exact⟨_,hr,rfl⟩
theorem MapT.below {n:Nat} (h:MapT w b ek ev m) (hb:b<n) (hw:Below n w w'):MapT w' b ek ev m:=by
 obtain⟨es,clock,h1,hs,he⟩:=h
 exact⟨es,clock,(hw.block b hb).trans h1,hs,he⟩
end
structure KeysAt {K V:Type} (m:List (K × V)) (seen:K→Bool) (ss:List K):Prop where
 nodup:ss.Nodup
 sub:∀x∈ss,x∈m.map (·.1)
 iff:∀x,seen x=true↔x∈ss
theorem KeysAt.start {K V:Type} (m:List (K × V)):KeysAt m (fun _=>false) []:=⟨by simp,by simp,by simp⟩
theorem KeysAt.step {K V:Type} [DecidableEq K] {m:List (K × V)} {seen:K→Bool} {ss:List K} (h:KeysAt m seen ss) {k:K} {v:V} (hm:(k,v)∈m) (hn:seen k=false):KeysAt m (fun x=>seen x || decide (x=k)) (ss ++ [k]):=by
 have hk:¬k∈ss:=fun hk=>by have:=(h.iff k).2 hk;rw[hn] at this;cases this
 refine⟨List.nodup_append.2 ⟨h.nodup,by simp,fun x hx y hy e=>?_⟩,fun x hx=>?_,fun x=>?_⟩
 ·simp only[List.mem_singleton] at hy;subst hy;subst e;exact hk hx
 ·rcases List.mem_append.1 hx with hx|hx
  ·exact h.sub x hx
  ·simp only[List.mem_singleton] at hx;subst hx;exact List.mem_map.2 ⟨_,hm,rfl⟩
 ·simp only[Bool.or_eq_true,decide_eq_true_eq,List.mem_append,List.mem_singleton]
  rw[h.iff]
theorem KeysAt.perm {K V:Type} {m:List (K × V)} {seen:K→Bool} {ss:List K} (h:KeysAt m seen ss) (hnd:(m.map (·.1)).Nodup) (ha:AllSeen m seen):ss.Perm (m.map (·.1)):=
 (List.perm_ext_iff_of_nodup h.nodup hnd).2 fun x=>⟨h.sub x,fun hx=>by
  obtain⟨p,hp,rfl⟩:=List.mem_map.1 hx
  exact(h.iff p.1).1 (ha p hp)⟩
theorem KeysAt.lt {K V:Type} [DecidableEq K] {m:List (K × V)} {seen:K→Bool} {ss:List K} (h:KeysAt m seen ss) (hnd:(m.map (·.1)).Nodup) {k:K} {v:V} (hm:(k,v)∈m) (hn:seen k=false):ss.length<m.length:=by
 have h2:=h.step hm hn
 have h3:(ss ++ [k]).length≤(m.map (·.1)).length:=h2.nodup.length_le_of_subset h2.sub
 simp at h3
 omega
end Go.Sf
namespace Go.Proofs.YtjfelfjobeeenaaGreat
open Go.RowKit Go.Sf Go.Shelf Go.Maps
attribute [local go_sem] Oper.semAt_some
set_option maxRecDepth 100000 in
set_option maxHeartbeats 2000000 in
theorem idKeys1 (F:Fence) (n:Nat) (h10:F.fn 142) (hro:F.round=none) (hn:1≤n) (l Bm b:Nat) (m:List (ID × Pend)) (J Jx:List ID→World→Prop)
  (hY:∀pre x W,J pre W→pre.length<m.length→YieldAt F (n-1) Tryz.prog l #[encID x] W fun e W'=>(e = .returned (.bool true)∧J (pre ++ [x]) W'∧KeepsWalks W W')∨(e = .returned (.bool false)∧Jx (pre ++ [x]) W'))
  (W:World) (hJ:AbidesFrom W.heap.size J) (hm:W.cell? ⟨Bm,0,none⟩=some (.map (some b))) (hown:MapT W b encID encPend m) (h0:J [] W) :
  CallsIn F n Tryz.prog 142 #[.func (.yield l) #[] #[],.pointer (some ⟨Bm,0,none⟩)] W fun e W'=>(∃v,e = .returned v)∧((∃xs:List ID,xs.Perm (m.map (·.1))∧J xs W')∨(∃pre:List ID,True∧Jx pre W')):=by
 have hnd:=hown.nodup
 refine callsIn_of_wp Tryz.func142 rfl h10 ?_ hro
 simp only[Tryz.ntmps142,List.size_toArray,List.length_cons,List.length_nil,Nat.reduceAdd,Nat.reduceSub,Array.replicate_succ,Array.replicate_zero,List.push_toArray,List.append_toArray,List.nil_append,List.cons_append]
 gi_wp2_with (gi_at_range;refine wpListIn_rangeT _ rfl _ _ rfl Tryz.underlying119 b m rfl hown ?_;intro w0 hit hg0 hs0)
 go_frame
 gi_loopw [3] (fun _ wr=>∃(seen:ID→Bool) (ss:List ID),IterT wr W.heap.size b encID encPend m seen∧KeysAt m seen ss∧J ss wr) (fun _ wr=>leftW wr W.heap.size b)
 case atStart=>exact⟨_,[],hit,KeysAt.start m,hJ [] W w0 none h0 hg0 (fun r e=>by cases e)⟩
 case round=>
  obtain⟨seen,ss,hit,hC,hJs⟩:=hrel
  gi_wp2_with (gi_at_next;refine wpListIn_nextT _ rfl _ rfl encID_inj W.heap.size b m seen rfl hit ?_ ?_)
  ·intro hall
   gi_wp2
   go_end0
   exact⟨⟨_,rfl⟩,.inl ⟨ss,hC.perm hnd hall,hJs⟩⟩
  ·rintro⟨kk,kv⟩ v w2 hc
   have hJ2:=hJ ss wr w2 (some W.heap.size) hJs hc.grown (fun r e=>by cases e;exact⟨Nat.le_refl _,hit.walk⟩)
   have hJ3:=hJ ss w2 (w2.alloc (.cells #[.string kk,.int .i64 kv] 54)) none hJ2 (World.grownBy_alloc _ _ _) (fun r e=>by cases e)
   have hlt:=hC.lt hnd hc.mem hc.new
   obtain⟨fn,tmps,assign,body,hy,hR⟩:=hY ss ⟨kk,kv⟩ _ hJ3 hlt
   have hen:=hc.entry
   simp only[encID] at hy hen ⊢
   have hit2:=hc.iter
   have hleft:=hit2.left
   gi_wp2
   refine hR.mono ?_
   rintro e W3 (⟨rfl,hJ4,hk3⟩|⟨rfl,hJx3⟩)
   ·have hit3:=(IterT.kept hit2 (World.grownBy_alloc w2 (.cells #[.string kk,.int .i64 kv] 54) none) (by simp) (by simp)).walks hk3
    gi_wp2
    go_roundw
    case rel=>exact⟨_,ss ++ [⟨kk,kv⟩],hit3,hC.step hc.mem hc.new,hJ4⟩
    case measure=>
     rw[hit3.left,hit.left]
     exact leftN_step hc.mem hc.new
   ·gi_wp2
    refine bodyPost_ret (results_none rfl _ _ _) rfl ?_
    exact⟨⟨_,rfl⟩,.inr ⟨_,trivial,hJx3⟩⟩
theorem idKeys_stops (F:Fence) (n:Nat) (h10:F.fn 142) (hro:F.round=none) (hn:1≤n) (Bm b:Nat) (m:List (ID × Pend)) (w:World) (hBm:Bm<w.heap.size) (hm:w.cell? ⟨Bm,0,none⟩=some (.map (some b))) (hown:MapT w b encID encPend m) :
  SeqStopsK F n Tryz.prog 142 #[.pointer (some ⟨Bm,0,none⟩)] (fun x:ID=>#[encID x]) KeepsWalks (fun xs=>xs.Perm (m.map (·.1))) (fun _=>True) m.length w:=fun l J Jx W hW hJ _ hY h0=>
 idKeys1 F n h10 hro hn l Bm b m J Jx hY W hJ ((hW.cell (p:=⟨Bm,0,none⟩) hBm).trans hm) (hown.below hown.lt hW) h0
theorem id_new (w:World) (x:ID) (t:TypeId):∀j u,(idCells x)[j]? = some u→(w.alloc (.cells #[.string x.key,.int .i64 x.ver] t)).cell? ((⟨w.heap.size,0,none⟩:Addr).add j)=some u:=by
 intro j u hj
 match j,hj with
 | 0,hj=>simp[idCells] at hj;subst hj;simp[Addr.add,go_sem]
 | 1,hj=>simp[idCells] at hj;subst hj;simp[Addr.add,go_sem]
 | j+2,hj=>simp[idCells] at hj
set_option maxRecDepth 100000 in
set_option maxHeartbeats 2000000 in
theorem idAppend (F:Fence) (n:Nat) (h11:F.fn 177) (hro:F.round=none) (hn:2≤n) (g:Nat) (lb:Array Value) (hFg:F.fn g) (eg:∀args w,(callFunc g args).run Tryz.prog w = .ok (.enter g args) w)
  (S:List ID→Prop) (N:Nat) (hN:N≤1000000) (w:World) (hseq:SeqStopsK F (n-1) Tryz.prog g lb (fun x:ID=>#[encID x]) KeepsWalks S (fun _=>True) N w) :
  CallsIn F n Tryz.prog 177 #[.slice none 0 0,.func (.func g) #[] lb] w fun e w'=>∃(v:Value) (ss:List ID),e = .returned v∧S ss∧w'.ownsRow w.heap.size 54 2 v ss.length (ss.flatMap idCells)∧(v = .slice none 0 0↔ss = [])∧Below w.heap.size w w':=by
 have h1:1≤n:=by omega
 obtain⟨i0,hi,hz0,hz1,hz2⟩:=info_parts infoID
 refine callsIn_of_wp_marks Tryz.func177 rfl h11 ?_ hro
 simp only[Tryz.ntmps177,List.size_toArray,List.length_cons,List.length_nil,Nat.reduceAdd,Nat.reduceSub,Array.replicate_succ,Array.replicate_zero,List.push_toArray,List.append_toArray,List.nil_append,List.cons_append]
 gi_wp2
 have bS:=Boxed.new w 66 (.slice none 0 0)
 have hB0:Below w.heap.size w (w.alloc (.cells #[.slice none 0 0] 66)):=(Below.refl _ w).alloc (Nat.le_refl _) _
 have hsz:(w.alloc (.cells #[.slice none 0 0] 66)).heap.size=w.heap.size+1:=by simp
 generalize w.alloc (.cells #[.slice none 0 0] 66)=W0 at *
 refine wpIn_rangeFunc_ownH hro h1 (gf:=g) (lb:=lb) rfl hFg eg hseq walksK_t walksK_b hB0 (fun _=>rfl)
  (fun pre W=>(∃v,Boxed W w.heap.size 66 v∧W.ownsRow w.heap.size 54 2 v pre.length (pre.flatMap idCells)∧(v = .slice none 0 0↔pre = []))∧Below w.heap.size w W)
  (fun _ _ _=>False)
  (OwnFrom.and (Own.from (holdsRow_own w.heap.size w.heap.size 66 54 2 (fun pre:List ID=>pre.length) (fun pre=>pre.flatMap idCells) (fun pre v=>v = .slice none 0 0↔pre = [])) _) (ownFrom_below (Nat.le_refl _) (by omega)))
  (fun _ _ _ _ _ hs _ _=>hs)
  ⟨⟨_,bS,World.ownsRow_nil _ _ _ _,by simp⟩,hB0⟩
  (fun x a' W=>∃Bx,w.heap.size<Bx∧W.heap[Bx]? = some (.cells #[.string x.key,.int .i64 x.ver] 54 (0,0))∧a' = { tmps:=#[.slice none 0 0,.func (.func g) #[] lb,.pointer (some ⟨w.heap.size,0,none⟩),undef,.slice none 0 0,.pointer (some ⟨Bx,0,none⟩),.func (.func g) #[] lb,encID x,undef,undef,undef,undef,undef],defers:=[] })
  (fun x a' _ X Y row hs hg hr=>by
   obtain⟨Bx,h1,h2,h3⟩:=hs
   refine⟨Bx,h1,(hg.block Bx (Array.getElem?_eq_some_iff.1 h2).1 (fun e=>?_)).trans h2,h3⟩
   obtain⟨_,o,ho,hc⟩:=hr Bx e.symm
   rw[h2] at ho;cases ho;cases hc)
  ?assign ?body ?done ?stop
 case assign=>
  rintro l pre ⟨xk,xv⟩ W K ⟨⟨v,bS1,hrow,hnil⟩,hB1⟩ hK
  simp only[encID]
  gi_wp2
  exact hK _ _ ((KeepsOthers.alloc _ _).from _) (KeepsWalks.alloc _ _) ⟨⟨v,bS1.alloc _,hrow.alloc _,hnil⟩,hB1.alloc hB1.size _⟩ ⟨W.heap.size,bS1.lt,World.alloc_heap_new W _,rfl⟩
 case body=>
  rintro l pre ⟨xk,xv⟩ a' W hl ⟨r,hr⟩ ⟨⟨v,bS1,hrow,hnil⟩,hB1⟩ ⟨Bx,hBx,bX,rfl⟩ hlt
  have cS:=bS1.cell
  have fS:=bS1.frozen
  have c0:W.cell? ⟨Bx,0,none⟩=some (.string xk):=(cell_block bX 0).trans rfl
  have c1:W.cell? ⟨Bx,1,none⟩=some (.int .i64 xv):=(cell_block bX 1).trans rfl
  simp only[encID]
  gi_wp2_with (gi_at_builtin;refine wpListIn_append_own _ rfl _ _ 66 rfl w.heap.size 54 i0 (.agg #[.string { data:=#[] },.int .i64 0]) 2 24 Tryz.underlying66 hi hz0 hz1 hz2 rfl (by decide) _ _ _ rfl (hrow.alloc _) ⟨W.heap.size,0,none⟩ 1 1 (idCells ⟨xk,xv⟩) rfl rfl (id_new W ⟨xk,xv⟩ _) (by simp[idCells,Value.oneCell']) (by unfold maxLen;omega) (by omega) (by have:=hB1.size;simp;omega) ?_;intro v' w1 hown' hgrow _;obtain⟨g',cap',rfl⟩:=ownsRow_succ hown';obtain⟨hv1,hv2,hr2,hk2,hb2⟩:=bS1.appended (by decide) hrow hB1.size (Nat.le_refl _) hown' hgrow;have hc1:=hv1.cell;have hf1:=hv1.frozen)
  exact⟨hk2.from _,hk2.walks,⟨_,hv2,by simpa[List.flatMap_append] using hr2,by simp⟩,hB1.trans hb2⟩
 case done=>
  rintro D zs W hD hS ⟨⟨v,bS1,hrow,hnil⟩,hB1⟩ hK
  have cS:=bS1.cell
  gi_wp2
  refine⟨by simp,.inl ⟨_,_,rfl,run_takeDeferred hK,?_⟩⟩
  exact⟨_,results_tmp rfl _ _ _,v,zs,rfl,hS,ownsRow_putObj hrow _ hK rfl,hnil,hB1.trans (belowK_b (w:=w) (Nat.le_refl _) W D _ _ (by omega) hK rfl rfl)⟩
 case stop=>
  rintro D c pre W _ _ h _
  exact h.elim
set_option maxHeartbeats 1000000 in
theorem idCollect (F:Fence) (n:Nat) (h8:F.fn 140) (h11:F.fn 177) (hro:F.round=none) (hn:3≤n) (g:Nat) (lb:Array Value) (hFg:F.fn g) (eg:∀args w,(callFunc g args).run Tryz.prog w = .ok (.enter g args) w)
  (S:List ID→Prop) (N:Nat) (hN:N≤1000000) (w:World) (hseq:SeqStopsK F (n-1-1) Tryz.prog g lb (fun x:ID=>#[encID x]) KeepsWalks S (fun _=>True) N w) :
  CallsIn F n Tryz.prog 140 #[.func (.func g) #[] lb] w fun e w'=>∃(v:Value) (ss:List ID),e = .returned v∧S ss∧w'.ownsRow w.heap.size 54 2 v ss.length (ss.flatMap idCells)∧(v = .slice none 0 0↔ss = [])∧Below w.heap.size w w':=by
 have h1:1≤n:=by omega
 refine callsIn_of_wp Tryz.func140 rfl h8 ?_ hro
 simp only[Tryz.ntmps140,List.size_toArray,List.length_cons,List.length_nil,Nat.reduceAdd,Nat.reduceSub,Array.replicate_succ,Array.replicate_zero,List.push_toArray,List.append_toArray,List.nil_append,List.cons_append]
 gi_wp2_with (gi_at_call 177;refine(idAppend F (n-1) h11 hro (by omega) g lb hFg eg S N hN _ hseq).mono ?_;rintro e w' ⟨v,ss,rfl,hS,hrow,hnil,hb⟩)
 go_ret
 exact⟨v,ss,rfl,hS,hrow,hnil,hb⟩
theorem keysP_any (mb:Option Nat) (W:World):Calls Tryz.prog 79 #[.map mb] W fun e w'=>
  e = .returned (.func (.func 142) #[] #[.pointer (some ⟨W.heap.size,0,none⟩)])∧w'=W.alloc (.cells #[.map mb] 119):=by
 have hmf:∀(fn:Fn) (first cap:Array Value) (w:World),(Instr.makeFunc fn first cap).run Tryz.prog w = .ok (.func fn first cap) w:=fun _ _ _ _=>rfl
 go_enter Tryz.func79,Tryz.ntmps79
 go_wp2
 go_ret
 exact⟨rfl,rfl⟩
end Go.Proofs.YtjfelfjobeeenaaGreat
namespace Go.Proofs
open Go.Shelf
def Tryz.sortF_ren:Go.Shelf.Ren:=⟨fun|6=>141|15=>179|14=>178|28=>201|29=>202|20=>193|21=>194|22=>195|23=>196|24=>197|25=>198|26=>199|27=>200|46=>225|47=>226|48=>227|49=>228|50=>229|57=>252|n=>n,fun|22=>66|24=>54|25=>149|3=>3|39=>188|0=>0|53=>224|55=>101|4=>4|46=>262|45=>261|50=>266|5=>5|9=>9|66=>283|70=>287|76=>303|77=>304|n=>n,fun|n=>n⟩
theorem Tryz.sortF:Go.Proofs.SlLaysF0.n6 Tryz.prog Tryz.sortF_ren:={
 mixed:=by kernel_rfl
 f6:=⟨Tryz.f141.name,by decide,Tryz.func141.trans (congrArg some (by kernel_rfl))⟩
 f14:=⟨Tryz.f178.name,by decide,Tryz.func178.trans (congrArg some (by kernel_rfl))⟩
 f15:=Tryz.func179.trans (congrArg some (by kernel_rfl))
 f20:=⟨Tryz.f193.name,by decide,Tryz.func193.trans (congrArg some (by kernel_rfl))⟩
 f21:=⟨Tryz.f194.name,by decide,Tryz.func194.trans (congrArg some (by kernel_rfl))⟩
 f22:=⟨Tryz.f195.name,by decide,Tryz.func195.trans (congrArg some (by kernel_rfl))⟩
 f23:=⟨Tryz.f196.name,by decide,Tryz.func196.trans (congrArg some (by kernel_rfl))⟩
 f24:=⟨Tryz.f197.name,by decide,Tryz.func197.trans (congrArg some (by kernel_rfl))⟩
 f25:=⟨Tryz.f198.name,by decide,Tryz.func198.trans (congrArg some (by kernel_rfl))⟩
 f26:=⟨Tryz.f199.name,by decide,Tryz.func199.trans (congrArg some (by kernel_rfl))⟩
 f27:=⟨Tryz.f200.name,by decide,Tryz.func200.trans (congrArg some (by kernel_rfl))⟩
 f28:=Tryz.func201.trans (congrArg some (by kernel_rfl))
 f29:=Tryz.func202.trans (congrArg some (by kernel_rfl))
 f46:=⟨Tryz.f225.name,by decide,Tryz.func225.trans (congrArg some (by kernel_rfl))⟩
 f47:=Tryz.func226.trans (congrArg some (by kernel_rfl))
 f48:=Tryz.func227.trans (congrArg some (by kernel_rfl))
 f49:=⟨Tryz.f228.name,by decide,Tryz.func228.trans (congrArg some (by kernel_rfl))⟩
 f50:=⟨Tryz.f229.name,by decide,Tryz.func229.trans (congrArg some (by kernel_rfl))⟩
 f57:=⟨Tryz.f252.name,by decide,Tryz.func252.trans (congrArg some (by kernel_rfl))⟩
 t0:=Tryz.underlying0
 a0:=Tryz.isAgg0
 z0:=Tryz.sizeOf0
 v0:=Tryz.zeroValue0
 t3:=Tryz.underlying3
 a3:=Tryz.isAgg3
 z3:=Tryz.sizeOf3
 v3:=Tryz.zeroValue3
 t4:=Tryz.underlying4
 a4:=Tryz.isAgg4
 z4:=Tryz.sizeOf4
 v4:=Tryz.zeroValue4
 t5:=Tryz.underlying5
 a5:=Tryz.isAgg5
 z5:=Tryz.sizeOf5
 v5:=Tryz.zeroValue5
 t9:=Tryz.underlying9
 a9:=Tryz.isAgg9
 z9:=Tryz.sizeOf9
 v9:=Tryz.zeroValue9
 t22:=Tryz.underlying66
 a22:=Tryz.isAgg66
 z22:=Tryz.sizeOf66
 v22:=Tryz.zeroValue66
 t25:=Tryz.underlying149
 a25:=Tryz.isAgg149
 z25:=Tryz.sizeOf149
 v25:=Tryz.zeroValue149
 t39:=Tryz.underlying188
 a39:=Tryz.isAgg188
 z39:=Tryz.sizeOf188
 v39:=Tryz.zeroValue188
 t45:=Tryz.underlying261
 a45:=Tryz.isAgg261
 z45:=Tryz.sizeOf261
 v45:=Tryz.zeroValue261
 t46:=Tryz.underlying262
 a46:=Tryz.isAgg262
 z46:=Tryz.sizeOf262
 v46:=Tryz.zeroValue262
 t50:=Tryz.underlying266
 a50:=Tryz.isAgg266
 z50:=Tryz.sizeOf266
 v50:=Tryz.zeroValue266
 t53:=Tryz.underlying224
 a53:=Tryz.isAgg224
 z53:=Tryz.sizeOf224
 v53:=Tryz.zeroValue224
 t55:=Tryz.underlying101
 a55:=Tryz.isAgg101
 z55:=Tryz.sizeOf101
 v55:=Tryz.zeroValue101
 t66:=Tryz.underlying283
 a66:=Tryz.isAgg283
 z66:=Tryz.sizeOf283
 v66:=Tryz.zeroValue283
 t70:=Tryz.underlying287
 a70:=Tryz.isAgg287
 z70:=Tryz.sizeOf287
 v70:=Tryz.zeroValue287
 t76:=Tryz.underlying303
 a76:=Tryz.isAgg303
 z76:=Tryz.sizeOf303
 v76:=Tryz.zeroValue303
 t77:=Tryz.underlying304
 a77:=Tryz.isAgg304
 z77:=Tryz.sizeOf304
 v77:=Tryz.zeroValue304 }
end Go.Proofs
