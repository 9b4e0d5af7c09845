/- A disk's Read: the walk. Conditions: none, or as the theorems say. -/
import Derived.Test.YtbcbhlfjgobejaaGreatI7
set_option linter.unusedSimpArgs false
set_option linter.unusedVariables false
namespace Go.Proofs.YtbcbhlfjgobejaaGreat
set_option maxHeartbeats 200000000
open Go.RowKit Go.Sf
theorem zmh (m:List (Int × List Int)) (i:Nat):((zw m (i:Int)).map xz).getD (xz zz)=xz (bk m i):=by
 unfold bk
 cases zw m (i:Int) <;> rfl
theorem bk_ok {m:List (Int × List Int)} (h:ze1 m) (i:Nat):(bk m i).length=256∧BL (bk m i):=by
 unfold bk
 cases e:zw m (i:Int) with
 | none=>exact⟨xq,fun b hb=>by have:=List.eq_of_mem_replicate hb;omega⟩
 | some x=>exact h _ (uo e)
section
variable {own : Nat → Prop} {W W' : World} {db sb nb : Nat} {lv : Value} {d : Dk}
structure BlkRow (W w':World) (v:Value) (x:List Int):Prop where
 ex:∃g,v = .slice (some ⟨g,0,none⟩) 256 256∧W.heap.size≤g∧w'.heap[g]? = some (.cells (zi x).toArray 174 (0,0))
 len:x.length=256
 bl:BL x
def Yh (W:World) (d:Dk) (i:Int) (e:Ending) (w':World):Prop:=
 W.grownBy w' none∧∃v,e = .returned (.tuple #[v,.int .i64 (d.mayE i 0)])∧((d.mayE i 0≠0∧v = .slice none 0 0)∨(d.mayE i 0=0∧BlkRow W w' v (bk d.now i.toNat)))
set_option maxRecDepth 100000 in
theorem dread (h:vl own W db d) (ii:Int):Calls Tryz.prog 114 #[.pointer (some ⟨db,0,none⟩),.int .i64 ii] W (Yh W d ii):=by
 have HM:=zd (dmay h ii none 0 0)
 by_cases he:d.mayE ii 0=0
 ·obtain⟨hoff,hi0,hi1,-⟩:=zdi he
  obtain⟨i,rfl⟩:∃i:Nat,ii=(i:Int):=⟨ii.toNat,by omega⟩
  obtain⟨sb,nb,lv,hd⟩:=h.ex;have hx:=bk_ok hd.bnow i;have HQ:Hid (∀w',w'=W.alloc (.cells (zi (bk d.now i)).toArray 174)→Yh W d i (.returned (.tuple #[.slice (some ⟨W.heap.size,0,none⟩) 256 256,.int .i64 0])) w'):=(fun w' hw=>by
   subst hw;refine⟨zg _ _ _,_,by rw[he],Or.inr ⟨he,⟨⟨_,rfl,Nat.le_refl _,?_⟩,?_,?_⟩⟩⟩
   ·rw[Int.toNat_natCast];exact heap_alloc_new _ _
   ·rw[Int.toNat_natCast];exact hx.1
   ·rw[Int.toNat_natCast];exact hx.2)
  rw[he] at HM;have HNW:Hid (yg W nb (Value.int .i64) xz d.now):=(show yg _ _ _ _ _ from hd.now)
  obtain⟨c0,c1,c2,c3,c4,c5,c6,y⟩:=hd.cells;have HE:=zd (zmh d.now i);have HX:=zd hx;clear h hd hx;generalize Yh W d i=PP at *;generalize bk d.now i=x at *
  go_enter Tryz.func114,Tryz.ntmps114
  go_wp2_with (first
   | (go_at_call 100;refine HM.out.mono ?_;rintro e w1 ⟨rfl,h5⟩;obtain rfl:W=w1:=h5.symm)
   | (refine qx _ rfl _ _ 164 false rfl Qn Tryz.underlying164 (Zk _) nb d.now rfl HNW.out (i:Int) rfl ?_;rw[HE.out];unfold xz)
   | (refine ui rfl 174 rfl (xz zz) Zk (zi zz).toArray rfl ?_)
   | (refine ub rfl 174 _ _ rfl _ (zi x).toArray _ rfl rfl (blkI HX.out.1) (blkE xq HX.out.1) (blkA _) ?_))
  exact HQ.out _ rfl
 ·have HQ:Hid (Yh W d ii (.returned (.tuple #[.slice none 0 0,.int .i64 (d.mayE ii 0)])) W):=(show Yh _ _ _ _ _ from ⟨zm _,_,rfl,Or.inl ⟨he,rfl⟩⟩)
  generalize Yh W d ii=PP at *;generalize d.mayE ii 0=ev at *
  go_enter Tryz.func114,Tryz.ntmps114
  go_wp2_with (go_at_call 100;refine HM.out.mono ?_;rintro e w1 ⟨rfl,h5⟩;obtain rfl:W=w1:=h5.symm)
  first|exact HQ.out|(go_ret2;exact HQ.out)
end
end Go.Proofs.YtbcbhlfjgobejaaGreat
