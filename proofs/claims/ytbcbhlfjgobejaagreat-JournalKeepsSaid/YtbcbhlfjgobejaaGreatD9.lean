/- A disk's Read: the walk. Conditions: none beyond the disk's being there. -/
import Derived.Test.YtbcbhlfjgobejaaGreatD8
set_option linter.unusedSimpArgs false
set_option linter.unusedVariables false
namespace Go.Proofs.YtbcbhlfjgobejaaGreat
open Go.RowKit Go.Sf
theorem mget_enc (m:List (Int × List Int)) (i:Nat):((mget m (i:Int)).map encB).getD (encB zeroB)=encB (bk m i):=by
 unfold bk
 cases mget m (i:Int) <;> rfl
theorem bk_ok {m:List (Int × List Int)} (h:BlkL m) (i:Nat):(bk m i).length=256∧BL (bk m i):=by
 unfold bk
 cases e:mget m (i:Int) with
 | none=>exact⟨zeroB_len,fun b hb=>by have:=List.eq_of_mem_replicate hb;omega⟩
 | some x=>exact h _ (mget_mem e)
section
variable {own : Nat → Prop} {W W' : World} {db sb nb : Nat} {lv : Value} {d : Dk}
structure BlkRow (W w':World) (v:Value) (x:List Int):Prop where
 ex:∃g,v = .slice (some ⟨g,0,none⟩) 256 256∧W.heap.size≤g∧w'.heap[g]? = some (.cells (bytesV x).toArray 174 (0,0))
 len:x.length=256
 bl:BL x
def ReadPost (W:World) (d:Dk) (i:Int) (e:Ending) (w':World):Prop:=
 W.grownBy w' none∧∃v,e = .returned (.tuple #[v,.int .i64 (d.mayE i 0)])∧((d.mayE i 0≠0∧v = .slice none 0 0)∨(d.mayE i 0=0∧BlkRow W w' v (bk d.now i.toNat)))
set_option maxHeartbeats 2000000 in
set_option maxRecDepth 100000 in
theorem dread (h:DRep own W db d) (ii:Int):Calls Tryz.prog 114 #[.pointer (some ⟨db,0,none⟩),.int .i64 ii] W (ReadPost W d ii):=by
 have HM:=Lib.hid (dmay h ii none 0 0)
 by_cases he:d.mayE ii 0=0
 ·obtain⟨hoff,hi0,hi1,-⟩:=mayE_zero he
  obtain⟨i,rfl⟩:∃i:Nat,ii=(i:Int):=⟨ii.toNat,by omega⟩
  obtain⟨sb,nb,lv,hd⟩:=h.ex
  have hx:=bk_ok hd.bnow i
  have HQ:Hid (∀w',w'=W.alloc (.cells (bytesV (bk d.now i)).toArray 174)→ReadPost W d i (.returned (.tuple #[.slice (some ⟨W.heap.size,0,none⟩) 256 256,.int .i64 0])) w'):=(fun w' hw=>by
   subst hw
   refine⟨World.grownBy_alloc _ _ _,_,by rw[he],Or.inr ⟨he,⟨⟨_,rfl,Nat.le_refl _,?_⟩,?_,?_⟩⟩⟩
   ·rw[Int.toNat_natCast];exact heap_alloc_new _ _
   ·rw[Int.toNat_natCast];exact hx.1
   ·rw[Int.toNat_natCast];exact hx.2)
  rw[he] at HM
  have HNW:Hid (MapT W nb (Value.int .i64) encB d.now):=(show MapT _ _ _ _ _ from hd.now)
  obtain⟨c0,c1,c2,c3,c4,c5,c6,y⟩:=hd.cells
  have HE:=Lib.hid (mget_enc d.now i)
  have HX:=Lib.hid hx
  clear h hd hx
  generalize ReadPost W d i=PP at *
  generalize bk d.now i=x at *
  go_enter Tryz.func114,Tryz.ntmps114
  go_wp2_with (first
   | (go_at_call 100;refine HM.out.mono ?_;rintro e w1 ⟨rfl,h5⟩;obtain rfl:W=w1:=h5.symm)
   | (refine wpList_lookupT _ rfl _ _ 164 false rfl keInt Tryz.underlying164 (zeroBlk _) nb d.now rfl HNW.out (i:Int) rfl ?_;rw[HE.out];unfold encB)
   | (refine wpList_allocZ rfl 174 rfl (encB zeroB) zeroBlk (bytesV zeroB).toArray rfl ?_)
   | (refine wpList_storeNew rfl 174 _ _ rfl _ (bytesV x).toArray _ rfl rfl (blkI HX.out.1) (blkE zeroB_len HX.out.1) (blkA _) ?_))
  exact HQ.out _ rfl
 ·have HQ:Hid (ReadPost W d ii (.returned (.tuple #[.slice none 0 0,.int .i64 (d.mayE ii 0)])) W):=(show ReadPost _ _ _ _ _ from ⟨grown_refl _,_,rfl,Or.inl ⟨he,rfl⟩⟩)
  generalize ReadPost W d ii=PP at *
  generalize d.mayE ii 0=ev at *
  go_enter Tryz.func114,Tryz.ntmps114
  go_wp2_with (go_at_call 100;refine HM.out.mono ?_;rintro e w1 ⟨rfl,h5⟩;obtain rfl:W=w1:=h5.symm)
  first|exact HQ.out|(go_ret2;exact HQ.out)
end
end Go.Proofs.YtbcbhlfjgobejaaGreat
