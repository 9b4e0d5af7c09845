/- table.Get: the walk. Conditions: none, or as the theorems say. -/
import Derived.Test.YtjfelfjobeeenaaGreatN5
namespace Go.Proofs.YtjfelfjobeeenaaGreat
set_option maxHeartbeats 200000000
set_option linter.unusedVariables false
set_option linter.unusedSimpArgs false
open Go.RowKit Go.Sf
@[go_sem] theorem as_none (v:Value) (w:World):(Instr.typeAssert (.iface 186 v) 20 186 false).run Tryz.prog w = .ok v w:=by kernel_rfl
set_option maxRecDepth 100000 in
theorem ze3 (W:World):Calls Tryz.prog 56 #[.iface 186 (.agg #[])] W fun e w'=>e = .returned (.bool true)∧w'=W:=by
 go_enter Tryz.func56,Tryz.ntmps56
 go_wp2
 go_ret
 exact⟨rfl,rfl⟩
set_option maxRecDepth 100000 in
theorem ze2 (W:World):Calls Tryz.prog 56 #[.nilIface] W fun e w'=>e = .returned (.bool false)∧w'=W:=by
 go_enter Tryz.func56,Tryz.ntmps56
 go_wp2
 go_ret
 exact⟨rfl,rfl⟩
def zcj:Array Value:=#[.int .u8 0,.int .i64 0,.int .i64 0,.int .i64 0,.int .i64 0,.int .i64 0,.string ⟨#[]⟩,.int .i64 0]
structure GB (W:World) (a0 a1 a2 a3 a4 a5 a6 a7:Value) (w:World):Prop where
 cbx:w.heap[W.heap.size]? = some (.cells #[a0,a1,a2,a3,a4,a5,a6,a7] 24 (0,0))
 ebx:w.heap[W.heap.size+1]? = some (.cells #[.int .i64 0] 22 (0,0))
 grown:W.grownBy w none
 lt:W.heap.size+2<w.heap.size
structure G (W:World) (a0 a1 a2 a3 a4 a5 a6 a7:Value) (l:List Int) (w:World):Prop where
 gb:GB W a0 a1 a2 a3 a4 a5 a6 a7 w
 rdr:Rd W.heap.size w (W.heap.size+2) l
 bl:BL l
theorem GB.cells {W w:World} {a0 a1 a2 a3 a4 a5 a6 a7:Value} (h:GB W a0 a1 a2 a3 a4 a5 a6 a7 w) :
  (w.cell? ⟨W.heap.size,0,none⟩=some a0∧w.cell? ⟨W.heap.size,1,none⟩=some a1∧w.cell? ⟨W.heap.size,2,none⟩=some a2∧w.cell? ⟨W.heap.size,3,none⟩=some a3∧w.cell? ⟨W.heap.size,4,none⟩=some a4∧w.cell? ⟨W.heap.size,5,none⟩=some a5∧w.cell? ⟨W.heap.size,6,none⟩=some a6∧w.cell? ⟨W.heap.size,7,none⟩=some a7)∧
  w.cell? ⟨W.heap.size+1,0,none⟩=some (.int .i64 0)∧(∀i,w.frozen? ⟨W.heap.size,i,none⟩=false)∧(∀i,w.frozen? ⟨W.heap.size+1,i,none⟩=false):=by
 have e:=h.cbx;have e1:=h.ebx;refine⟨⟨?_,?_,?_,?_,?_,?_,?_,?_⟩,?_,fun i=>?_,fun i=>?_⟩ <;> simp[World.cell?,World.frozen?,e,e1]
theorem G.cells {W w:World} {a0 a1 a2 a3 a4 a5 a6 a7:Value} {l:List Int} (h:G W a0 a1 a2 a3 a4 a5 a6 a7 l w) :
  (w.cell? ⟨W.heap.size,0,none⟩=some a0∧w.cell? ⟨W.heap.size,1,none⟩=some a1∧w.cell? ⟨W.heap.size,2,none⟩=some a2∧w.cell? ⟨W.heap.size,3,none⟩=some a3∧w.cell? ⟨W.heap.size,4,none⟩=some a4∧w.cell? ⟨W.heap.size,5,none⟩=some a5∧w.cell? ⟨W.heap.size,6,none⟩=some a6∧w.cell? ⟨W.heap.size,7,none⟩=some a7)∧
  w.cell? ⟨W.heap.size+1,0,none⟩=some (.int .i64 0)∧(∀i,w.frozen? ⟨W.heap.size,i,none⟩=false)∧(∀i,w.frozen? ⟨W.heap.size+1,i,none⟩=false):=h.gb.cells
theorem G.place {W w:World} {a0 a1 a2 a3 a4 a5 a6 a7:Value} {l:List Int} (h:G W a0 a1 a2 a3 a4 a5 a6 a7 l w):∃p cap,w.cell? ⟨W.heap.size+2,0,none⟩=some (.slice p l.length cap):=by
 obtain⟨v,hb,hv⟩:=h.rdr.ex;obtain⟨p,cap,rfl,-⟩:=hv.ex
 exact⟨p,cap,by simp[World.cell?,hb]⟩
theorem GB.turn {W w w':World} {a0 a1 a2 a3 a4 a5 a6 a7:Value} (h:GB W a0 a1 a2 a3 a4 a5 a6 a7 w) (ht:yc (fun k=>k=W.heap.size+2) w w'):GB W a0 a1 a2 a3 a4 a5 a6 a7 w':=by
 have hl:=h.lt;refine⟨(ht.block _ (by omega) (by omega)).trans h.cbx,(ht.block _ (by omega) (by omega)).trans h.ebx,⟨ht.os.trans h.grown.os,ht.tape.trans h.grown.tape,ht.output.trans h.grown.output,Nat.le_trans h.grown.size ht.size,fun k hk _=>?_⟩,Nat.lt_of_lt_of_le hl ht.size⟩
 exact(ht.block k (by omega) (by omega)).trans (h.grown.block k hk (by simp))
theorem GB.grow {W w w':World} {a0 a1 a2 a3 a4 a5 a6 a7:Value} (h:GB W a0 a1 a2 a3 a4 a5 a6 a7 w) (ht:w.grownBy w' none):GB W a0 a1 a2 a3 a4 a5 a6 a7 w':=by
 have hl:=h.lt
 exact⟨(ht.block _ (by omega) (by simp)).trans h.cbx,(ht.block _ (by omega) (by simp)).trans h.ebx,ze h.grown ht,Nat.lt_of_lt_of_le hl ht.size⟩
theorem G.start {W:World} {v:Value} {l:List Int} (h:uy W.heap.size W v l) (hl:BL l) (c0:Obj) (h0:c0 = .cells #[.int .u8 0,.int .i64 0,.int .i64 0,.int .i64 0,.int .i64 0,.int .i64 0,.string ⟨#[]⟩,.int .i64 0] 24):G W (.int .u8 0) (.int .i64 0) (.int .i64 0) (.int .i64 0) (.int .i64 0) (.int .i64 0) (.string ⟨#[]⟩) (.int .i64 0) l (((W.alloc c0).alloc (.cells #[.int .i64 0] 22)).alloc (.cells #[v] 107)):=by
 have g1:=zg (zg (zd (W.alloc c0)) (.cells #[.int .i64 0] 22)) (.cells #[v] 107);have g2:=zg (zd ((W.alloc c0).alloc (.cells #[.int .i64 0] 22))) (.cells #[v] 107);have hg:=ze (zc W c0 none) g1;have e1:=(g1.block W.heap.size (by simp) (by simp)).trans (heap_alloc_new W c0)
 have e2:=(g2.block (W.alloc c0).heap.size (by simp) (by simp)).trans (heap_alloc_new (W.alloc c0) _)
 have e3:=heap_alloc_new ((W.alloc c0).alloc (.cells #[.int .i64 0] 22)) (.cells #[v] 107);have s1:(W.alloc c0).heap.size=W.heap.size+1:=by simp
 have s2:((W.alloc c0).alloc (.cells #[.int .i64 0] 22)).heap.size=W.heap.size+2:=by simp
 rw[s1] at e2;rw[s2] at e3;subst h0
 exact⟨⟨e1,e2,hg,by simp⟩,⟨by omega,v,e3,h.turn fun k hk=>hg.block k hk (by simp)⟩,hl⟩
theorem GB.set0 {W w:World} {a0 a1 a2 a3 a4 a5 a6 a7:Value} (h:GB W a0 a1 a2 a3 a4 a5 a6 a7 w) (v:Value):GB W v a1 a2 a3 a4 a5 a6 a7 (w.setCell ⟨W.heap.size,0,none⟩ v):=by
 have e:=h.cbx;have ht:=vf w W.heap.size 0 v;have hl:=h.lt
 exact⟨by simp[World.setCell,Array.getElem?_modify,e],(ht.block _ (by omega) (by omega)).trans h.ebx,⟨ht.os.trans h.grown.os,ht.tape.trans h.grown.tape,ht.output.trans h.grown.output,Nat.le_trans h.grown.size ht.size,fun k hk _=>(ht.block k (by omega) (by omega)).trans (h.grown.block k hk (by simp))⟩,Nat.lt_of_lt_of_le hl ht.size⟩
theorem G.set0 {W w:World} {a0 a1 a2 a3 a4 a5 a6 a7:Value} {l:List Int} (h:G W a0 a1 a2 a3 a4 a5 a6 a7 l w) (v:Value):G W v a1 a2 a3 a4 a5 a6 a7 l (w.setCell ⟨W.heap.size,0,none⟩ v):=by
 have ht:=vf w W.heap.size 0 v;have hl:=h.gb.lt;refine⟨h.gb.set0 v,⟨h.rdr.le,?_⟩,h.bl⟩;obtain⟨x,hb,hv⟩:=h.rdr.ex
 exact⟨x,(ht.block _ (by omega) (by omega)).trans hb,hv.turn fun k hk=>ht.block k (by omega) (by omega)⟩
theorem GB.set1 {W w:World} {a0 a1 a2 a3 a4 a5 a6 a7:Value} (h:GB W a0 a1 a2 a3 a4 a5 a6 a7 w) (v:Value):GB W a0 v a2 a3 a4 a5 a6 a7 (w.setCell ⟨W.heap.size,1,none⟩ v):=by
 have e:=h.cbx;have ht:=vf w W.heap.size 1 v;have hl:=h.lt
 exact⟨by simp[World.setCell,Array.getElem?_modify,e],(ht.block _ (by omega) (by omega)).trans h.ebx,⟨ht.os.trans h.grown.os,ht.tape.trans h.grown.tape,ht.output.trans h.grown.output,Nat.le_trans h.grown.size ht.size,fun k hk _=>(ht.block k (by omega) (by omega)).trans (h.grown.block k hk (by simp))⟩,Nat.lt_of_lt_of_le hl ht.size⟩
theorem G.set1 {W w:World} {a0 a1 a2 a3 a4 a5 a6 a7:Value} {l:List Int} (h:G W a0 a1 a2 a3 a4 a5 a6 a7 l w) (v:Value):G W a0 v a2 a3 a4 a5 a6 a7 l (w.setCell ⟨W.heap.size,1,none⟩ v):=by
 have ht:=vf w W.heap.size 1 v;have hl:=h.gb.lt;refine⟨h.gb.set1 v,⟨h.rdr.le,?_⟩,h.bl⟩;obtain⟨x,hb,hv⟩:=h.rdr.ex
 exact⟨x,(ht.block _ (by omega) (by omega)).trans hb,hv.turn fun k hk=>ht.block k (by omega) (by omega)⟩
theorem GB.set2 {W w:World} {a0 a1 a2 a3 a4 a5 a6 a7:Value} (h:GB W a0 a1 a2 a3 a4 a5 a6 a7 w) (v:Value):GB W a0 a1 v a3 a4 a5 a6 a7 (w.setCell ⟨W.heap.size,2,none⟩ v):=by
 have e:=h.cbx;have ht:=vf w W.heap.size 2 v;have hl:=h.lt
 exact⟨by simp[World.setCell,Array.getElem?_modify,e],(ht.block _ (by omega) (by omega)).trans h.ebx,⟨ht.os.trans h.grown.os,ht.tape.trans h.grown.tape,ht.output.trans h.grown.output,Nat.le_trans h.grown.size ht.size,fun k hk _=>(ht.block k (by omega) (by omega)).trans (h.grown.block k hk (by simp))⟩,Nat.lt_of_lt_of_le hl ht.size⟩
theorem G.set2 {W w:World} {a0 a1 a2 a3 a4 a5 a6 a7:Value} {l:List Int} (h:G W a0 a1 a2 a3 a4 a5 a6 a7 l w) (v:Value):G W a0 a1 v a3 a4 a5 a6 a7 l (w.setCell ⟨W.heap.size,2,none⟩ v):=by
 have ht:=vf w W.heap.size 2 v;have hl:=h.gb.lt;refine⟨h.gb.set2 v,⟨h.rdr.le,?_⟩,h.bl⟩;obtain⟨x,hb,hv⟩:=h.rdr.ex
 exact⟨x,(ht.block _ (by omega) (by omega)).trans hb,hv.turn fun k hk=>ht.block k (by omega) (by omega)⟩
theorem GB.set3 {W w:World} {a0 a1 a2 a3 a4 a5 a6 a7:Value} (h:GB W a0 a1 a2 a3 a4 a5 a6 a7 w) (v:Value):GB W a0 a1 a2 v a4 a5 a6 a7 (w.setCell ⟨W.heap.size,3,none⟩ v):=by
 have e:=h.cbx;have ht:=vf w W.heap.size 3 v;have hl:=h.lt
 exact⟨by simp[World.setCell,Array.getElem?_modify,e],(ht.block _ (by omega) (by omega)).trans h.ebx,⟨ht.os.trans h.grown.os,ht.tape.trans h.grown.tape,ht.output.trans h.grown.output,Nat.le_trans h.grown.size ht.size,fun k hk _=>(ht.block k (by omega) (by omega)).trans (h.grown.block k hk (by simp))⟩,Nat.lt_of_lt_of_le hl ht.size⟩
theorem G.set3 {W w:World} {a0 a1 a2 a3 a4 a5 a6 a7:Value} {l:List Int} (h:G W a0 a1 a2 a3 a4 a5 a6 a7 l w) (v:Value):G W a0 a1 a2 v a4 a5 a6 a7 l (w.setCell ⟨W.heap.size,3,none⟩ v):=by
 have ht:=vf w W.heap.size 3 v;have hl:=h.gb.lt;refine⟨h.gb.set3 v,⟨h.rdr.le,?_⟩,h.bl⟩;obtain⟨x,hb,hv⟩:=h.rdr.ex
 exact⟨x,(ht.block _ (by omega) (by omega)).trans hb,hv.turn fun k hk=>ht.block k (by omega) (by omega)⟩
theorem GB.set4 {W w:World} {a0 a1 a2 a3 a4 a5 a6 a7:Value} (h:GB W a0 a1 a2 a3 a4 a5 a6 a7 w) (v:Value):GB W a0 a1 a2 a3 v a5 a6 a7 (w.setCell ⟨W.heap.size,4,none⟩ v):=by
 have e:=h.cbx;have ht:=vf w W.heap.size 4 v;have hl:=h.lt
 exact⟨by simp[World.setCell,Array.getElem?_modify,e],(ht.block _ (by omega) (by omega)).trans h.ebx,⟨ht.os.trans h.grown.os,ht.tape.trans h.grown.tape,ht.output.trans h.grown.output,Nat.le_trans h.grown.size ht.size,fun k hk _=>(ht.block k (by omega) (by omega)).trans (h.grown.block k hk (by simp))⟩,Nat.lt_of_lt_of_le hl ht.size⟩
theorem G.set4 {W w:World} {a0 a1 a2 a3 a4 a5 a6 a7:Value} {l:List Int} (h:G W a0 a1 a2 a3 a4 a5 a6 a7 l w) (v:Value):G W a0 a1 a2 a3 v a5 a6 a7 l (w.setCell ⟨W.heap.size,4,none⟩ v):=by
 have ht:=vf w W.heap.size 4 v;have hl:=h.gb.lt;refine⟨h.gb.set4 v,⟨h.rdr.le,?_⟩,h.bl⟩;obtain⟨x,hb,hv⟩:=h.rdr.ex
 exact⟨x,(ht.block _ (by omega) (by omega)).trans hb,hv.turn fun k hk=>ht.block k (by omega) (by omega)⟩
theorem GB.set5 {W w:World} {a0 a1 a2 a3 a4 a5 a6 a7:Value} (h:GB W a0 a1 a2 a3 a4 a5 a6 a7 w) (v:Value):GB W a0 a1 a2 a3 a4 v a6 a7 (w.setCell ⟨W.heap.size,5,none⟩ v):=by
 have e:=h.cbx;have ht:=vf w W.heap.size 5 v;have hl:=h.lt
 exact⟨by simp[World.setCell,Array.getElem?_modify,e],(ht.block _ (by omega) (by omega)).trans h.ebx,⟨ht.os.trans h.grown.os,ht.tape.trans h.grown.tape,ht.output.trans h.grown.output,Nat.le_trans h.grown.size ht.size,fun k hk _=>(ht.block k (by omega) (by omega)).trans (h.grown.block k hk (by simp))⟩,Nat.lt_of_lt_of_le hl ht.size⟩
theorem G.set5 {W w:World} {a0 a1 a2 a3 a4 a5 a6 a7:Value} {l:List Int} (h:G W a0 a1 a2 a3 a4 a5 a6 a7 l w) (v:Value):G W a0 a1 a2 a3 a4 v a6 a7 l (w.setCell ⟨W.heap.size,5,none⟩ v):=by
 have ht:=vf w W.heap.size 5 v;have hl:=h.gb.lt;refine⟨h.gb.set5 v,⟨h.rdr.le,?_⟩,h.bl⟩;obtain⟨x,hb,hv⟩:=h.rdr.ex
 exact⟨x,(ht.block _ (by omega) (by omega)).trans hb,hv.turn fun k hk=>ht.block k (by omega) (by omega)⟩
theorem GB.set6 {W w:World} {a0 a1 a2 a3 a4 a5 a6 a7:Value} (h:GB W a0 a1 a2 a3 a4 a5 a6 a7 w) (v:Value):GB W a0 a1 a2 a3 a4 a5 v a7 (w.setCell ⟨W.heap.size,6,none⟩ v):=by
 have e:=h.cbx;have ht:=vf w W.heap.size 6 v;have hl:=h.lt
 exact⟨by simp[World.setCell,Array.getElem?_modify,e],(ht.block _ (by omega) (by omega)).trans h.ebx,⟨ht.os.trans h.grown.os,ht.tape.trans h.grown.tape,ht.output.trans h.grown.output,Nat.le_trans h.grown.size ht.size,fun k hk _=>(ht.block k (by omega) (by omega)).trans (h.grown.block k hk (by simp))⟩,Nat.lt_of_lt_of_le hl ht.size⟩
theorem G.set6 {W w:World} {a0 a1 a2 a3 a4 a5 a6 a7:Value} {l:List Int} (h:G W a0 a1 a2 a3 a4 a5 a6 a7 l w) (v:Value):G W a0 a1 a2 a3 a4 a5 v a7 l (w.setCell ⟨W.heap.size,6,none⟩ v):=by
 have ht:=vf w W.heap.size 6 v;have hl:=h.gb.lt;refine⟨h.gb.set6 v,⟨h.rdr.le,?_⟩,h.bl⟩;obtain⟨x,hb,hv⟩:=h.rdr.ex
 exact⟨x,(ht.block _ (by omega) (by omega)).trans hb,hv.turn fun k hk=>ht.block k (by omega) (by omega)⟩
theorem GB.set7 {W w:World} {a0 a1 a2 a3 a4 a5 a6 a7:Value} (h:GB W a0 a1 a2 a3 a4 a5 a6 a7 w) (v:Value):GB W a0 a1 a2 a3 a4 a5 a6 v (w.setCell ⟨W.heap.size,7,none⟩ v):=by
 have e:=h.cbx;have ht:=vf w W.heap.size 7 v;have hl:=h.lt
 exact⟨by simp[World.setCell,Array.getElem?_modify,e],(ht.block _ (by omega) (by omega)).trans h.ebx,⟨ht.os.trans h.grown.os,ht.tape.trans h.grown.tape,ht.output.trans h.grown.output,Nat.le_trans h.grown.size ht.size,fun k hk _=>(ht.block k (by omega) (by omega)).trans (h.grown.block k hk (by simp))⟩,Nat.lt_of_lt_of_le hl ht.size⟩
theorem G.set7 {W w:World} {a0 a1 a2 a3 a4 a5 a6 a7:Value} {l:List Int} (h:G W a0 a1 a2 a3 a4 a5 a6 a7 l w) (v:Value):G W a0 a1 a2 a3 a4 a5 a6 v l (w.setCell ⟨W.heap.size,7,none⟩ v):=by
 have ht:=vf w W.heap.size 7 v;have hl:=h.gb.lt;refine⟨h.gb.set7 v,⟨h.rdr.le,?_⟩,h.bl⟩;obtain⟨x,hb,hv⟩:=h.rdr.ex
 exact⟨x,(ht.block _ (by omega) (by omega)).trans hb,hv.turn fun k hk=>ht.block k (by omega) (by omega)⟩
theorem GB.err {W w:World} {a0 a1 a2 a3 a4 a5 a6 a7:Value} (h:GB W a0 a1 a2 a3 a4 a5 a6 a7 w) (v:Value):(w.setCell ⟨W.heap.size+1,0,none⟩ v).heap[W.heap.size]? = some (.cells #[a0,a1,a2,a3,a4,a5,a6,a7] 24 (0,0))∧(w.setCell ⟨W.heap.size+1,0,none⟩ v).heap[W.heap.size+1]? = some (.cells #[v] 22 (0,0))∧W.grownBy (w.setCell ⟨W.heap.size+1,0,none⟩ v) none:=by
 have e:=h.ebx;have ht:=vf w (W.heap.size+1) 0 v;have hl:=h.lt
 exact⟨(ht.block _ (by omega) (by omega)).trans h.cbx,by simp[World.setCell,Array.getElem?_modify,e],⟨ht.os.trans h.grown.os,ht.tape.trans h.grown.tape,ht.output.trans h.grown.output,Nat.le_trans h.grown.size ht.size,fun k hk _=>(ht.block k (by omega) (by omega)).trans (h.grown.block k hk (by simp))⟩⟩
section
variable {W w : World} {a0 a1 a2 a3 a4 a5 a6 a7 : Value} {l : List Int}
theorem rd_BL {n x:Nat} {l t:List Int} (hl:BL l) (h:rd n l=some (x,t)):BL t:=(xz hl h).2.2
theorem G.number (h:G W a0 a1 a2 a3 a4 a5 a6 a7 l w) (n:Nat) (hn:n≤8) (m:Int) (hm:m=n):Calls Tryz.prog 57 #[.pointer (some ⟨W.heap.size+2,0,none⟩),.int .i64 m] w fun e w'=>
  (∃x t,rd n l=some (x,t)∧x<256 ^ n∧e = .returned (.int .i64 (s64 x))∧G W a0 a1 a2 a3 a4 a5 a6 a7 t w')∨(rd n l=none∧e = .panicked [{ v:=.iface 186 (.agg #[]),recovered:=false }]∧GB W a0 a1 a2 a3 a4 a5 a6 a7 w'):=by
 subst hm;refine(zbf h.rdr (by have:=h.gb.lt;omega) h.bl n hn).mono ?_
 rintro e w' ⟨ht,hq⟩
 cases hr:rd n l with
 | none=>rw[hr] at hq;exact Or.inr ⟨rfl,hq,h.gb.turn ht⟩
 | some p=>
  obtain⟨x,t⟩:=p;rw[hr] at hq;obtain⟨⟨v,rfl,rfl⟩,hd⟩:=hq
  exact Or.inl ⟨x,t,rfl,(xz h.bl hr).2.1,rfl,h.gb.turn ht,hd,rd_BL h.bl hr⟩
theorem G.text (h:G W a0 a1 a2 a3 a4 a5 a6 a7 l w):Calls Tryz.prog 58 #[.pointer (some ⟨W.heap.size+2,0,none⟩)] w fun e w'=>
  (∃x t,rdT l=some (x,t)∧x.size<256∧e = .returned (.string x)∧G W a0 a1 a2 a3 a4 a5 a6 a7 t w')∨(rdT l=none∧e = .panicked [{ v:=.iface 186 (.agg #[]),recovered:=false }]∧GB W a0 a1 a2 a3 a4 a5 a6 a7 w'):=by
 refine(zju h.rdr (by have:=h.gb.lt;omega) h.bl).mono ?_
 rintro e w' ⟨ht,hq⟩
 cases hr:rdT l with
 | none=>rw[hr] at hq;exact Or.inr ⟨rfl,hq,h.gb.turn ht⟩
 | some p=>
  obtain⟨x,t⟩:=p;rw[hr] at hq;obtain⟨⟨v,rfl,rfl⟩,hd⟩:=hq
  exact Or.inl ⟨x,t,rfl,(zbj h.bl hr).2.1,rfl,h.gb.turn ht,hd,(zbj h.bl hr).2.2⟩
end
def Zt (W:World) (l:List Int) (e:Ending) (w':World):Prop:=
 (match jh l with
  | some c=>e = .returned (.tuple #[zp c,.int .i64 0])
  | none=>e = .returned (.tuple #[.agg zcj,.int .i64 2]))∧W.grownBy w' none
set_option maxRecDepth 100000 in
theorem uv {W w:World} {a0 a1 a2 a3 a4 a5 a6 a7:Value} (h:GB W a0 a1 a2 a3 a4 a5 a6 a7 w):CallsD Tryz.prog 55 #[.pointer (some ⟨W.heap.size,0,none⟩),.pointer (some ⟨W.heap.size+1,0,none⟩)] (.panicking [{ v:=.iface 186 (.agg #[]),recovered:=false }]) w fun e u' w'=>
  e = .returned (.tuple #[])∧u' = .panicking [{ v:=.iface 186 (.agg #[]),recovered:=true }]∧w'.heap[W.heap.size]? = some (.cells zcj 24 (0,0))∧w'.heap[W.heap.size+1]? = some (.cells #[.int .i64 2] 22 (0,0))∧W.grownBy w' none:=by
 obtain⟨⟨d0,d1,d2,d3,d4,d5,d6,d7⟩,d8,f0,f1⟩:=h.cells;refine callsD_of_wpS Tryz.func55 rfl fun c₀ cs hu=>?_
 apply wpS_seq
 apply wpS_region
 simp[wpOpsS,go_sem,recoverD,hu,Tryz.ntmps55,Exit.thenS];refine(ze3 _).mono ?_;rintro e w1 ⟨rfl,rfl⟩;simp only[Exit.thenS];refine wpS_cond (t:=true) (by simp[Act.eval,Array.replicate]) ?_
 simp only[if_true]
 apply wpS_region
 simp[wpOpsS,go_sem,d0,d1,d2,d3,d4,d5,d6,d7,d8,f0,f1,bodyPostS,results,Tryz.results55]
 exact((((((((h.set0 _).set1 _).set2 _).set3 _).set4 _).set5 _).set6 _).set7 _).err _
set_option maxRecDepth 100000 in
theorem Vr (w:World) (p q:Value):CallsD Tryz.prog 55 #[p,q] .returning w fun e u' w'=>e = .returned (.tuple #[])∧u' = .returning∧w'=w:=by
 refine callsD_of_wpS Tryz.func55 rfl fun c₀ cs hu=>?_
 apply wpS_seq
 apply wpS_region
 simp[wpOpsS,go_sem,recoverD,hu,Tryz.ntmps55,Exit.thenS];refine(ze2 _).mono ?_;rintro e w1 ⟨rfl,rfl⟩;simp only[Exit.thenS];refine wpS_cond (t:=false) (by simp[Act.eval,Array.replicate]) ?_
 simp only[Bool.false_eq_true,if_false];refine wpS_of_wp (wp_skip ?_)
 cases c₀
 simp_all [bodyPostS,results,Tryz.results55]
theorem Uf {W w:World} {l:List Int} (hd:jh l=none) (hg:W.grownBy w none):Zt W l (.returned (.tuple #[.agg zcj,.int .i64 2])) w:=by
 rw[Zt,hd];exact⟨rfl,hg⟩
theorem Vu {W w:World} {l:List Int} {c:Cmd} {v:Value} (hm:ua c=true) (hd:jh l=some c) (hv:v=zp c) (hg:W.grownBy w none):Zt W l (.returned (.tuple #[v,.int .i64 0])) w:=by
 rw[Zt,hd];exact⟨by rw[hv],hg⟩
theorem jp {W w:World} (h2:w.heap[W.heap.size]? = some (.cells zcj 24 (0,0))) (h3:w.heap[W.heap.size+1]? = some (.cells #[.int .i64 2] 22 (0,0))) :
  (w.cell? ⟨W.heap.size,0,none⟩=some (.int .u8 0)∧w.cell? ⟨W.heap.size,1,none⟩=some (.int .i64 0)∧w.cell? ⟨W.heap.size,2,none⟩=some (.int .i64 0)∧w.cell? ⟨W.heap.size,3,none⟩=some (.int .i64 0)∧w.cell? ⟨W.heap.size,4,none⟩=some (.int .i64 0)∧w.cell? ⟨W.heap.size,5,none⟩=some (.int .i64 0)∧w.cell? ⟨W.heap.size,6,none⟩=some (.string ⟨#[]⟩)∧w.cell? ⟨W.heap.size,7,none⟩=some (.int .i64 0))∧w.cell? ⟨W.heap.size+1,0,none⟩=some (.int .i64 2):=by
 refine⟨⟨?_,?_,?_,?_,?_,?_,?_,?_⟩,?_⟩ <;> simp[World.cell?,h2,h3,zcj]
section
variable {W w : World} {a0 a1 a2 a3 a4 a5 a6 a7 : Value} {l : List Int}
theorem zjl {x n:Nat} (hx:x<256 ^ n) (hn:n≤2):s64 x=(x:Int):=by
 have:x<256 ^ 2:=Nat.lt_of_lt_of_le hx (Nat.pow_le_pow_right (by decide) hn)
 rw[s64,if_pos (by omega)]
theorem G.number1 (h:G W a0 a1 a2 a3 a4 a5 a6 a7 l w):Calls Tryz.prog 57 #[.pointer (some ⟨W.heap.size+2,0,none⟩),.int .i64 1] w fun e w'=>
  (∃x t,rd 1 l=some (x,t)∧x<256 ^ 1∧e = .returned (.int .i64 (x:Int))∧G W a0 a1 a2 a3 a4 a5 a6 a7 t w')∨(rd 1 l=none∧e = .panicked [{ v:=.iface 186 (.agg #[]),recovered:=false }]∧GB W a0 a1 a2 a3 a4 a5 a6 a7 w'):=
 (h.number 1 (by omega) 1 rfl).mono fun e w' hq=>by
  rcases hq with ⟨x,t,hr,hx,he,hg⟩|hq
  ·exact Or.inl ⟨x,t,hr,hx,by rw[he,zjl hx (by omega)],hg⟩
  ·exact Or.inr hq
theorem G.number2 (h:G W a0 a1 a2 a3 a4 a5 a6 a7 l w):Calls Tryz.prog 57 #[.pointer (some ⟨W.heap.size+2,0,none⟩),.int .i64 2] w fun e w'=>
  (∃x t,rd 2 l=some (x,t)∧x<256 ^ 2∧e = .returned (.int .i64 (x:Int))∧G W a0 a1 a2 a3 a4 a5 a6 a7 t w')∨(rd 2 l=none∧e = .panicked [{ v:=.iface 186 (.agg #[]),recovered:=false }]∧GB W a0 a1 a2 a3 a4 a5 a6 a7 w'):=
 (h.number 2 (by omega) 2 rfl).mono fun e w' hq=>by
  rcases hq with ⟨x,t,hr,hx,he,hg⟩|hq
  ·exact Or.inl ⟨x,t,hr,hx,by rw[he,zjl hx (by omega)],hg⟩
  ·exact Or.inr hq
theorem G.number8 (h:G W a0 a1 a2 a3 a4 a5 a6 a7 l w):Calls Tryz.prog 57 #[.pointer (some ⟨W.heap.size+2,0,none⟩),.int .i64 8] w fun e w'=>
  (∃x t,rd 8 l=some (x,t)∧x<256 ^ 8∧e = .returned (.int .i64 (s64 x))∧G W a0 a1 a2 a3 a4 a5 a6 a7 t w')∨(rd 8 l=none∧e = .panicked [{ v:=.iface 186 (.agg #[]),recovered:=false }]∧GB W a0 a1 a2 a3 a4 a5 a6 a7 w'):=
 h.number 8 (by omega) 8 rfl
end
theorem Xc (kind node zvw zvx zvy zvz code:Int) (key:ByteArray) (w:World) (hk:key.size<256) :
  Calls Tryz.prog 48 #[.agg #[.int .u8 kind,.int .i64 node,.int .i64 zvw,.int .i64 zvx,.int .i64 zvy,.int .i64 zvz,.string key,.int .i64 code]] w fun e w'=>(ua ⟨kind,node,zvw,zvx,zvy,zvz,key,code⟩=true∧e = .returned (.bool true)∧w.grownBy w' none)∨(ua ⟨kind,node,zvw,zvx,zvy,zvz,key,code⟩=false∧e = .returned (.bool false)∧w.grownBy w' none):=
 (Ys kind node zvw zvx zvy zvz code key w (by omega)).mono fun e w' ⟨he,hg⟩=>by
  cases hm:ua ⟨kind,node,zvw,zvx,zvy,zvz,key,code⟩ with
  | true=>exact Or.inl ⟨rfl,by rw[he,hm],hg⟩
  | false=>exact Or.inr ⟨rfl,by rw[he,hm],hg⟩
set_option maxRecDepth 100000 in
theorem zto {W:World} {v:Value} {l:List Int} (h:uy W.heap.size W v l) (hl:BL l) (h1:rd 1 l=none):Calls Tryz.prog 15 #[v] W fun e w'=>Zt W l e w':=by
 have hmf:∀(fn:Fn) (first cap:Array Value) (w:World),(Instr.makeFunc fn first cap).run Tryz.prog w = .ok (.func fn first cap) w:=fun _ _ _ _=>rfl
 obtain⟨p,cap,rfl,-⟩:=h.ex;have HG:=za (G.start h hl _ rfl);clear h hl
 go_enter_defers Tryz.func15,Tryz.ntmps15
 go_wp2_with (go_at_call 57;refine(HG.out.number1).mono ?_;rintro e w1 (⟨x,t,hr,hx,rfl,hg⟩|⟨hr,rfl,hg⟩) <;> first|(rw[h1] at hr;cases hr;done)|(obtain⟨⟨d0,d1,d2,d3,d4,d5,d6,d7⟩,d8,f0,f1⟩:=hg.cells;have HB:=za hg;clear hg))
 refine leaves_cons (f:=55) (args:=#[.pointer (some ⟨W.heap.size,0,none⟩),.pointer (some ⟨W.heap.size+1,0,none⟩)]) (by simp) (by simp[go_sem]) ?_
 refine(uv HB.out).mono ?_;rintro e u' w2 ⟨rfl,rfl,h2,h3,h4⟩;clear d0 d1 d2 d3 d4 d5 d6 d7 d8 f0 f1;obtain⟨⟨d0,d1,d2,d3,d4,d5,d6,d7⟩,d8⟩:=jp h2 h3;simp[Leaves,settle,results,Tryz.results15,go_sem,d0,d1,d2,d3,d4,d5,d6,d7,d8]
 exact Uf (by simp[jh,par,h1]) h4
set_option maxRecDepth 100000 in
theorem get_2 {W:World} {v:Value} {l t0:List Int} (h:uy W.heap.size W v l) (hl:BL l) (h1:rd 1 l=some (2,t0)):Calls Tryz.prog 15 #[v] W fun e w'=>Zt W l e w':=by
 have hmf:∀(fn:Fn) (first cap:Array Value) (w:World),(Instr.makeFunc fn first cap).run Tryz.prog w = .ok (.func fn first cap) w:=fun _ _ _ _=>rfl
 obtain⟨p,cap,rfl,-⟩:=h.ex;have HG0:=za (G.start h hl _ rfl);clear h hl
 go_enter_defers Tryz.func15,Tryz.ntmps15
 go_wp2_with (first
  | (go_at_call 57;refine(HG0.out.number1).mono ?_;intro e w1 hq;rcases hq with ⟨x,t,hr,hx,rfl,hg⟩|⟨hr,rfl,hg⟩ <;> first|(rw[h1] at hr;cases hr;done)|(rw[h1] at hr;injection hr with hr;injection hr with hr1 hr2;subst hr1 hr2;clear HG0;(have HX:=za hx;clear hx;simp only[];have hpl:=hg.place;obtain⟨p,cap,d9⟩:=hpl;obtain⟨⟨d0,d1,d2,d3,d4,d5,d6,d7⟩,d8,f0,f1⟩:=hg.cells;have HG1:=za hg;clear hg)))
  | (go_at_call 57;refine((HG1.out.set0 _).number2).mono ?_;intro e w1 hq;clear d0 d1 d2 d3 d4 d5 d6 d7 d8 d9 f0 f1 HG1;rcases hq with ⟨x,t,hr,hx,rfl,hg⟩|⟨hr,rfl,hg⟩ <;> first|(have HX:=za hx;clear hx;simp only[];have hpl:=hg.place;obtain⟨p,cap,d9⟩:=hpl;obtain⟨⟨d0,d1,d2,d3,d4,d5,d6,d7⟩,d8,f0,f1⟩:=hg.cells;have HG2:=za hg;clear hg)|(simp only[];obtain⟨⟨d0,d1,d2,d3,d4,d5,d6,d7⟩,d8,f0,f1⟩:=hg.cells;have HB:=za hg;clear hg))
  | (go_at_call 57;refine(HG2.out.number8).mono ?_;intro e w1 hq;clear d0 d1 d2 d3 d4 d5 d6 d7 d8 d9 f0 f1 HG2;rcases hq with ⟨x,t,hr,hx,rfl,hg⟩|⟨hr,rfl,hg⟩ <;> first|(have HX:=za hx;clear hx;simp only[];have hpl:=hg.place;obtain⟨p,cap,d9⟩:=hpl;obtain⟨⟨d0,d1,d2,d3,d4,d5,d6,d7⟩,d8,f0,f1⟩:=hg.cells;have HG3:=za hg;clear hg;by_cases hz:t = [] <;> first|(rw[hz,List.length_nil] at d9)|(have hz1:¬(t.length=0):=(fun e=>hz (List.eq_nil_of_length_eq_zero e));have hz2:¬((t.length:Int)=0):=(by omega)))|(simp only[];obtain⟨⟨d0,d1,d2,d3,d4,d5,d6,d7⟩,d8,f0,f1⟩:=hg.cells;have HB:=za hg;clear hg))
  | (go_at_call 48;refine(Xc _ _ _ _ _ _ _ _ _ (by first|exact HT.out|decide)).mono ?_;intro e w1 hq;clear d0 d1 d2 d3 d4 d5 d6 d7 d8 d9 f0 f1;rcases hq with ⟨hm,rfl,hg⟩|⟨hm,rfl,hg⟩ <;> (have hb:=((HG3.out.set1 _).set3 _).gb.grow hg;obtain⟨⟨d0,d1,d2,d3,d4,d5,d6,d7⟩,d8,f0,f1⟩:=hb.cells;have HB:=za hb;clear hb hg))
  | (go_at_call 59;first|(refine(xu _).mono ?_;rintro e w2 ⟨rfl,rfl⟩)|(refine(yt _).mono ?_;rintro e w2 ⟨rfl,rfl⟩;simp only[xh])))
 ·refine leaves_cons (f:=55) (args:=#[.pointer (some ⟨W.heap.size,0,none⟩),.pointer (some ⟨W.heap.size+1,0,none⟩)]) (by simp) (by simp[go_sem]) ?_
  refine(Vr _ _ _).mono ?_;rintro e u' w2 ⟨rfl,rfl,rfl⟩;simp[Leaves,settle,results,Tryz.results15,go_sem,d0,d1,d2,d3,d4,d5,d6,d7,d8,f0,f1]
  exact Vu hm (by simp[jh,par,Xd,Jo,Xe, *]) rfl ((((((((((HB.out.set0 _).set1 _).set2 _).set3 _).set4 _).set5 _).set6 _).set7 _).err _).2.2)
 all_goals
  refine leaves_cons (f:=55) (args:=#[.pointer (some ⟨W.heap.size,0,none⟩),.pointer (some ⟨W.heap.size+1,0,none⟩)]) (by simp) (by simp[go_sem]) ?_
  first|refine(uv HB.out).mono ?_|refine(uv ((HG3.out.set1 _).set3 _).gb).mono ?_
  rintro e u' w2 ⟨rfl,rfl,h2,h3,h4⟩;clear d0 d1 d2 d3 d4 d5 d6 d7 d8 f0 f1;obtain⟨⟨d0,d1,d2,d3,d4,d5,d6,d7⟩,d8⟩:=jp h2 h3;simp[Leaves,settle,results,Tryz.results15,go_sem,d0,d1,d2,d3,d4,d5,d6,d7,d8]
  exact Uf (by simp[jh,par,Xd,Jo,Xe, *]) h4
set_option maxRecDepth 100000 in
theorem get_4 {W:World} {v:Value} {l t0:List Int} (h:uy W.heap.size W v l) (hl:BL l) (h1:rd 1 l=some (4,t0)):Calls Tryz.prog 15 #[v] W fun e w'=>Zt W l e w':=by
 have hmf:∀(fn:Fn) (first cap:Array Value) (w:World),(Instr.makeFunc fn first cap).run Tryz.prog w = .ok (.func fn first cap) w:=fun _ _ _ _=>rfl
 obtain⟨p,cap,rfl,-⟩:=h.ex;have HG0:=za (G.start h hl _ rfl);clear h hl
 go_enter_defers Tryz.func15,Tryz.ntmps15
 go_wp2_with (first
  | (go_at_call 57;refine(HG0.out.number1).mono ?_;intro e w1 hq;rcases hq with ⟨x,t,hr,hx,rfl,hg⟩|⟨hr,rfl,hg⟩ <;> first|(rw[h1] at hr;cases hr;done)|(rw[h1] at hr;injection hr with hr;injection hr with hr1 hr2;subst hr1 hr2;clear HG0;(have HX:=za hx;clear hx;simp only[];have hpl:=hg.place;obtain⟨p,cap,d9⟩:=hpl;obtain⟨⟨d0,d1,d2,d3,d4,d5,d6,d7⟩,d8,f0,f1⟩:=hg.cells;have HG1:=za hg;clear hg)))
  | (go_at_call 57;refine((HG1.out.set0 _).number2).mono ?_;intro e w1 hq;clear d0 d1 d2 d3 d4 d5 d6 d7 d8 d9 f0 f1 HG1;rcases hq with ⟨x,t,hr,hx,rfl,hg⟩|⟨hr,rfl,hg⟩ <;> first|(have HX:=za hx;clear hx;simp only[];have hpl:=hg.place;obtain⟨p,cap,d9⟩:=hpl;obtain⟨⟨d0,d1,d2,d3,d4,d5,d6,d7⟩,d8,f0,f1⟩:=hg.cells;have HG2:=za hg;clear hg)|(simp only[];obtain⟨⟨d0,d1,d2,d3,d4,d5,d6,d7⟩,d8,f0,f1⟩:=hg.cells;have HB:=za hg;clear hg))
  | (go_at_call 57;refine(HG2.out.number8).mono ?_;intro e w1 hq;clear d0 d1 d2 d3 d4 d5 d6 d7 d8 d9 f0 f1 HG2;rcases hq with ⟨x,t,hr,hx,rfl,hg⟩|⟨hr,rfl,hg⟩ <;> first|(have HX:=za hx;clear hx;simp only[];have hpl:=hg.place;obtain⟨p,cap,d9⟩:=hpl;obtain⟨⟨d0,d1,d2,d3,d4,d5,d6,d7⟩,d8,f0,f1⟩:=hg.cells;have HG3:=za hg;clear hg)|(simp only[];obtain⟨⟨d0,d1,d2,d3,d4,d5,d6,d7⟩,d8,f0,f1⟩:=hg.cells;have HB:=za hg;clear hg))
  | (go_at_call 58;refine(((HG3.out.set1 _).set3 _).text).mono ?_;intro e w1 hq;clear d0 d1 d2 d3 d4 d5 d6 d7 d8 d9 f0 f1 HG3;rcases hq with ⟨x,t,hr,hx,rfl,hg⟩|⟨hr,rfl,hg⟩ <;> first|(have HT:=za hx;clear hx;simp only[];have hpl:=hg.place;obtain⟨p,cap,d9⟩:=hpl;obtain⟨⟨d0,d1,d2,d3,d4,d5,d6,d7⟩,d8,f0,f1⟩:=hg.cells;have HG4:=za hg;clear hg)|(simp only[];obtain⟨⟨d0,d1,d2,d3,d4,d5,d6,d7⟩,d8,f0,f1⟩:=hg.cells;have HB:=za hg;clear hg))
  | (go_at_call 57;refine((HG4.out.set6 _).number8).mono ?_;intro e w1 hq;clear d0 d1 d2 d3 d4 d5 d6 d7 d8 d9 f0 f1 HG4;rcases hq with ⟨x,t,hr,hx,rfl,hg⟩|⟨hr,rfl,hg⟩ <;> first|(have HX:=za hx;clear hx;simp only[];have hpl:=hg.place;obtain⟨p,cap,d9⟩:=hpl;obtain⟨⟨d0,d1,d2,d3,d4,d5,d6,d7⟩,d8,f0,f1⟩:=hg.cells;have HG5:=za hg;clear hg;by_cases hz:t = [] <;> first|(rw[hz,List.length_nil] at d9)|(have hz1:¬(t.length=0):=(fun e=>hz (List.eq_nil_of_length_eq_zero e));have hz2:¬((t.length:Int)=0):=(by omega)))|(simp only[];obtain⟨⟨d0,d1,d2,d3,d4,d5,d6,d7⟩,d8,f0,f1⟩:=hg.cells;have HB:=za hg;clear hg))
  | (go_at_call 48;refine(Xc _ _ _ _ _ _ _ _ _ (by first|exact HT.out|decide)).mono ?_;intro e w1 hq;clear d0 d1 d2 d3 d4 d5 d6 d7 d8 d9 f0 f1;rcases hq with ⟨hm,rfl,hg⟩|⟨hm,rfl,hg⟩ <;> (have hb:=(HG5.out.set5 _).gb.grow hg;obtain⟨⟨d0,d1,d2,d3,d4,d5,d6,d7⟩,d8,f0,f1⟩:=hb.cells;have HB:=za hb;clear hb hg))
  | (go_at_call 59;first|(refine(xu _).mono ?_;rintro e w2 ⟨rfl,rfl⟩)|(refine(yt _).mono ?_;rintro e w2 ⟨rfl,rfl⟩;simp only[xh])))
 ·refine leaves_cons (f:=55) (args:=#[.pointer (some ⟨W.heap.size,0,none⟩),.pointer (some ⟨W.heap.size+1,0,none⟩)]) (by simp) (by simp[go_sem]) ?_
  refine(Vr _ _ _).mono ?_;rintro e u' w2 ⟨rfl,rfl,rfl⟩;simp[Leaves,settle,results,Tryz.results15,go_sem,d0,d1,d2,d3,d4,d5,d6,d7,d8,f0,f1]
  exact Vu hm (by simp[jh,par,Xd,Jo,Xe, *]) rfl ((((((((((HB.out.set0 _).set1 _).set2 _).set3 _).set4 _).set5 _).set6 _).set7 _).err _).2.2)
 all_goals
  refine leaves_cons (f:=55) (args:=#[.pointer (some ⟨W.heap.size,0,none⟩),.pointer (some ⟨W.heap.size+1,0,none⟩)]) (by simp) (by simp[go_sem]) ?_
  first|refine(uv HB.out).mono ?_|refine(uv (HG5.out.set5 _).gb).mono ?_
  rintro e u' w2 ⟨rfl,rfl,h2,h3,h4⟩;clear d0 d1 d2 d3 d4 d5 d6 d7 d8 f0 f1;obtain⟨⟨d0,d1,d2,d3,d4,d5,d6,d7⟩,d8⟩:=jp h2 h3;simp[Leaves,settle,results,Tryz.results15,go_sem,d0,d1,d2,d3,d4,d5,d6,d7,d8]
  exact Uf (by simp[jh,par,Xd,Jo,Xe, *]) h4
set_option maxRecDepth 100000 in
theorem get_5 {W:World} {v:Value} {l t0:List Int} (h:uy W.heap.size W v l) (hl:BL l) (h1:rd 1 l=some (5,t0)):Calls Tryz.prog 15 #[v] W fun e w'=>Zt W l e w':=by
 have hmf:∀(fn:Fn) (first cap:Array Value) (w:World),(Instr.makeFunc fn first cap).run Tryz.prog w = .ok (.func fn first cap) w:=fun _ _ _ _=>rfl
 obtain⟨p,cap,rfl,-⟩:=h.ex;have HG0:=za (G.start h hl _ rfl);clear h hl
 go_enter_defers Tryz.func15,Tryz.ntmps15
 go_wp2_with (first
  | (go_at_call 57;refine(HG0.out.number1).mono ?_;intro e w1 hq;rcases hq with ⟨x,t,hr,hx,rfl,hg⟩|⟨hr,rfl,hg⟩ <;> first|(rw[h1] at hr;cases hr;done)|(rw[h1] at hr;injection hr with hr;injection hr with hr1 hr2;subst hr1 hr2;clear HG0;(have HX:=za hx;clear hx;simp only[];have hpl:=hg.place;obtain⟨p,cap,d9⟩:=hpl;obtain⟨⟨d0,d1,d2,d3,d4,d5,d6,d7⟩,d8,f0,f1⟩:=hg.cells;have HG1:=za hg;clear hg)))
  | (go_at_call 57;refine((HG1.out.set0 _).number2).mono ?_;intro e w1 hq;clear d0 d1 d2 d3 d4 d5 d6 d7 d8 d9 f0 f1 HG1;rcases hq with ⟨x,t,hr,hx,rfl,hg⟩|⟨hr,rfl,hg⟩ <;> first|(have HX:=za hx;clear hx;simp only[];have hpl:=hg.place;obtain⟨p,cap,d9⟩:=hpl;obtain⟨⟨d0,d1,d2,d3,d4,d5,d6,d7⟩,d8,f0,f1⟩:=hg.cells;have HG2:=za hg;clear hg)|(simp only[];obtain⟨⟨d0,d1,d2,d3,d4,d5,d6,d7⟩,d8,f0,f1⟩:=hg.cells;have HB:=za hg;clear hg))
  | (go_at_call 57;refine(HG2.out.number8).mono ?_;intro e w1 hq;clear d0 d1 d2 d3 d4 d5 d6 d7 d8 d9 f0 f1 HG2;rcases hq with ⟨x,t,hr,hx,rfl,hg⟩|⟨hr,rfl,hg⟩ <;> first|(have HX:=za hx;clear hx;simp only[];have hpl:=hg.place;obtain⟨p,cap,d9⟩:=hpl;obtain⟨⟨d0,d1,d2,d3,d4,d5,d6,d7⟩,d8,f0,f1⟩:=hg.cells;have HG3:=za hg;clear hg)|(simp only[];obtain⟨⟨d0,d1,d2,d3,d4,d5,d6,d7⟩,d8,f0,f1⟩:=hg.cells;have HB:=za hg;clear hg))
  | (go_at_call 58;refine(((HG3.out.set1 _).set3 _).text).mono ?_;intro e w1 hq;clear d0 d1 d2 d3 d4 d5 d6 d7 d8 d9 f0 f1 HG3;rcases hq with ⟨x,t,hr,hx,rfl,hg⟩|⟨hr,rfl,hg⟩ <;> first|(have HT:=za hx;clear hx;simp only[];have hpl:=hg.place;obtain⟨p,cap,d9⟩:=hpl;obtain⟨⟨d0,d1,d2,d3,d4,d5,d6,d7⟩,d8,f0,f1⟩:=hg.cells;have HG4:=za hg;clear hg)|(simp only[];obtain⟨⟨d0,d1,d2,d3,d4,d5,d6,d7⟩,d8,f0,f1⟩:=hg.cells;have HB:=za hg;clear hg))
  | (go_at_call 57;refine((HG4.out.set6 _).number8).mono ?_;intro e w1 hq;clear d0 d1 d2 d3 d4 d5 d6 d7 d8 d9 f0 f1 HG4;rcases hq with ⟨x,t,hr,hx,rfl,hg⟩|⟨hr,rfl,hg⟩ <;> first|(have HX:=za hx;clear hx;simp only[];have hpl:=hg.place;obtain⟨p,cap,d9⟩:=hpl;obtain⟨⟨d0,d1,d2,d3,d4,d5,d6,d7⟩,d8,f0,f1⟩:=hg.cells;have HG5:=za hg;clear hg;by_cases hz:t = [] <;> first|(rw[hz,List.length_nil] at d9)|(have hz1:¬(t.length=0):=(fun e=>hz (List.eq_nil_of_length_eq_zero e));have hz2:¬((t.length:Int)=0):=(by omega)))|(simp only[];obtain⟨⟨d0,d1,d2,d3,d4,d5,d6,d7⟩,d8,f0,f1⟩:=hg.cells;have HB:=za hg;clear hg))
  | (go_at_call 48;refine(Xc _ _ _ _ _ _ _ _ _ (by first|exact HT.out|decide)).mono ?_;intro e w1 hq;clear d0 d1 d2 d3 d4 d5 d6 d7 d8 d9 f0 f1;rcases hq with ⟨hm,rfl,hg⟩|⟨hm,rfl,hg⟩ <;> (have hb:=(HG5.out.set5 _).gb.grow hg;obtain⟨⟨d0,d1,d2,d3,d4,d5,d6,d7⟩,d8,f0,f1⟩:=hb.cells;have HB:=za hb;clear hb hg))
  | (go_at_call 59;first|(refine(xu _).mono ?_;rintro e w2 ⟨rfl,rfl⟩)|(refine(yt _).mono ?_;rintro e w2 ⟨rfl,rfl⟩;simp only[xh])))
 ·refine leaves_cons (f:=55) (args:=#[.pointer (some ⟨W.heap.size,0,none⟩),.pointer (some ⟨W.heap.size+1,0,none⟩)]) (by simp) (by simp[go_sem]) ?_
  refine(Vr _ _ _).mono ?_;rintro e u' w2 ⟨rfl,rfl,rfl⟩;simp[Leaves,settle,results,Tryz.results15,go_sem,d0,d1,d2,d3,d4,d5,d6,d7,d8,f0,f1]
  exact Vu hm (by simp[jh,par,Xd,Jo,Xe, *]) rfl ((((((((((HB.out.set0 _).set1 _).set2 _).set3 _).set4 _).set5 _).set6 _).set7 _).err _).2.2)
 all_goals
  refine leaves_cons (f:=55) (args:=#[.pointer (some ⟨W.heap.size,0,none⟩),.pointer (some ⟨W.heap.size+1,0,none⟩)]) (by simp) (by simp[go_sem]) ?_
  first|refine(uv HB.out).mono ?_|refine(uv (HG5.out.set5 _).gb).mono ?_
  rintro e u' w2 ⟨rfl,rfl,h2,h3,h4⟩;clear d0 d1 d2 d3 d4 d5 d6 d7 d8 f0 f1;obtain⟨⟨d0,d1,d2,d3,d4,d5,d6,d7⟩,d8⟩:=jp h2 h3;simp[Leaves,settle,results,Tryz.results15,go_sem,d0,d1,d2,d3,d4,d5,d6,d7,d8]
  exact Uf (by simp[jh,par,Xd,Jo,Xe, *]) h4
set_option maxRecDepth 100000 in
theorem get_3 {W:World} {v:Value} {l t0:List Int} (h:uy W.heap.size W v l) (hl:BL l) (h1:rd 1 l=some (3,t0)):Calls Tryz.prog 15 #[v] W fun e w'=>Zt W l e w':=by
 have hmf:∀(fn:Fn) (first cap:Array Value) (w:World),(Instr.makeFunc fn first cap).run Tryz.prog w = .ok (.func fn first cap) w:=fun _ _ _ _=>rfl
 obtain⟨p,cap,rfl,-⟩:=h.ex;have HG0:=za (G.start h hl _ rfl);clear h hl
 go_enter_defers Tryz.func15,Tryz.ntmps15
 go_wp2_with (first
  | (go_at_call 57;refine(HG0.out.number1).mono ?_;intro e w1 hq;rcases hq with ⟨x,t,hr,hx,rfl,hg⟩|⟨hr,rfl,hg⟩ <;> first|(rw[h1] at hr;cases hr;done)|(rw[h1] at hr;injection hr with hr;injection hr with hr1 hr2;subst hr1 hr2;clear HG0;(have HX:=za hx;clear hx;simp only[];have hpl:=hg.place;obtain⟨p,cap,d9⟩:=hpl;obtain⟨⟨d0,d1,d2,d3,d4,d5,d6,d7⟩,d8,f0,f1⟩:=hg.cells;have HG1:=za hg;clear hg)))
  | (go_at_call 57;refine((HG1.out.set0 _).number2).mono ?_;intro e w1 hq;clear d0 d1 d2 d3 d4 d5 d6 d7 d8 d9 f0 f1 HG1;rcases hq with ⟨x,t,hr,hx,rfl,hg⟩|⟨hr,rfl,hg⟩ <;> first|(have HX:=za hx;clear hx;simp only[];have hpl:=hg.place;obtain⟨p,cap,d9⟩:=hpl;obtain⟨⟨d0,d1,d2,d3,d4,d5,d6,d7⟩,d8,f0,f1⟩:=hg.cells;have HG2:=za hg;clear hg)|(simp only[];obtain⟨⟨d0,d1,d2,d3,d4,d5,d6,d7⟩,d8,f0,f1⟩:=hg.cells;have HB:=za hg;clear hg))
  | (go_at_call 57;refine(HG2.out.number8).mono ?_;intro e w1 hq;clear d0 d1 d2 d3 d4 d5 d6 d7 d8 d9 f0 f1 HG2;rcases hq with ⟨x,t,hr,hx,rfl,hg⟩|⟨hr,rfl,hg⟩ <;> first|(have HX:=za hx;clear hx;simp only[];have hpl:=hg.place;obtain⟨p,cap,d9⟩:=hpl;obtain⟨⟨d0,d1,d2,d3,d4,d5,d6,d7⟩,d8,f0,f1⟩:=hg.cells;have HG3:=za hg;clear hg)|(simp only[];obtain⟨⟨d0,d1,d2,d3,d4,d5,d6,d7⟩,d8,f0,f1⟩:=hg.cells;have HB:=za hg;clear hg))
  | (go_at_call 58;refine(((HG3.out.set2 _).set4 _).text).mono ?_;intro e w1 hq;clear d0 d1 d2 d3 d4 d5 d6 d7 d8 d9 f0 f1 HG3;rcases hq with ⟨x,t,hr,hx,rfl,hg⟩|⟨hr,rfl,hg⟩ <;> first|(have HT:=za hx;clear hx;simp only[];have hpl:=hg.place;obtain⟨p,cap,d9⟩:=hpl;obtain⟨⟨d0,d1,d2,d3,d4,d5,d6,d7⟩,d8,f0,f1⟩:=hg.cells;have HG4:=za hg;clear hg;by_cases hz:t = [] <;> first|(rw[hz,List.length_nil] at d9)|(have hz1:¬(t.length=0):=(fun e=>hz (List.eq_nil_of_length_eq_zero e));have hz2:¬((t.length:Int)=0):=(by omega)))|(simp only[];obtain⟨⟨d0,d1,d2,d3,d4,d5,d6,d7⟩,d8,f0,f1⟩:=hg.cells;have HB:=za hg;clear hg))
  | (go_at_call 48;refine(Xc _ _ _ _ _ _ _ _ _ (by first|exact HT.out|decide)).mono ?_;intro e w1 hq;clear d0 d1 d2 d3 d4 d5 d6 d7 d8 d9 f0 f1;rcases hq with ⟨hm,rfl,hg⟩|⟨hm,rfl,hg⟩ <;> (have hb:=(HG4.out.set6 _).gb.grow hg;obtain⟨⟨d0,d1,d2,d3,d4,d5,d6,d7⟩,d8,f0,f1⟩:=hb.cells;have HB:=za hb;clear hb hg))
  | (go_at_call 59;first|(refine(xu _).mono ?_;rintro e w2 ⟨rfl,rfl⟩)|(refine(yt _).mono ?_;rintro e w2 ⟨rfl,rfl⟩;simp only[xh])))
 ·refine leaves_cons (f:=55) (args:=#[.pointer (some ⟨W.heap.size,0,none⟩),.pointer (some ⟨W.heap.size+1,0,none⟩)]) (by simp) (by simp[go_sem]) ?_
  refine(Vr _ _ _).mono ?_;rintro e u' w2 ⟨rfl,rfl,rfl⟩;simp[Leaves,settle,results,Tryz.results15,go_sem,d0,d1,d2,d3,d4,d5,d6,d7,d8,f0,f1]
  exact Vu hm (by simp[jh,par,Xd,Jo,Xe, *]) rfl ((((((((((HB.out.set0 _).set1 _).set2 _).set3 _).set4 _).set5 _).set6 _).set7 _).err _).2.2)
 all_goals
  refine leaves_cons (f:=55) (args:=#[.pointer (some ⟨W.heap.size,0,none⟩),.pointer (some ⟨W.heap.size+1,0,none⟩)]) (by simp) (by simp[go_sem]) ?_
  first|refine(uv HB.out).mono ?_|refine(uv (HG4.out.set6 _).gb).mono ?_
  rintro e u' w2 ⟨rfl,rfl,h2,h3,h4⟩;clear d0 d1 d2 d3 d4 d5 d6 d7 d8 f0 f1;obtain⟨⟨d0,d1,d2,d3,d4,d5,d6,d7⟩,d8⟩:=jp h2 h3;simp[Leaves,settle,results,Tryz.results15,go_sem,d0,d1,d2,d3,d4,d5,d6,d7,d8]
  exact Uf (by simp[jh,par,Xd,Jo,Xe, *]) h4
set_option maxRecDepth 100000 in
theorem get_6 {W:World} {v:Value} {l t0:List Int} (h:uy W.heap.size W v l) (hl:BL l) (h1:rd 1 l=some (6,t0)):Calls Tryz.prog 15 #[v] W fun e w'=>Zt W l e w':=by
 have hmf:∀(fn:Fn) (first cap:Array Value) (w:World),(Instr.makeFunc fn first cap).run Tryz.prog w = .ok (.func fn first cap) w:=fun _ _ _ _=>rfl
 obtain⟨p,cap,rfl,-⟩:=h.ex;have HG0:=za (G.start h hl _ rfl);clear h hl
 go_enter_defers Tryz.func15,Tryz.ntmps15
 go_wp2_with (first
  | (go_at_call 57;refine(HG0.out.number1).mono ?_;intro e w1 hq;rcases hq with ⟨x,t,hr,hx,rfl,hg⟩|⟨hr,rfl,hg⟩ <;> first|(rw[h1] at hr;cases hr;done)|(rw[h1] at hr;injection hr with hr;injection hr with hr1 hr2;subst hr1 hr2;clear HG0;(have HX:=za hx;clear hx;simp only[];have hpl:=hg.place;obtain⟨p,cap,d9⟩:=hpl;obtain⟨⟨d0,d1,d2,d3,d4,d5,d6,d7⟩,d8,f0,f1⟩:=hg.cells;have HG1:=za hg;clear hg)))
  | (go_at_call 57;refine((HG1.out.set0 _).number2).mono ?_;intro e w1 hq;clear d0 d1 d2 d3 d4 d5 d6 d7 d8 d9 f0 f1 HG1;rcases hq with ⟨x,t,hr,hx,rfl,hg⟩|⟨hr,rfl,hg⟩ <;> first|(have HX:=za hx;clear hx;simp only[];have hpl:=hg.place;obtain⟨p,cap,d9⟩:=hpl;obtain⟨⟨d0,d1,d2,d3,d4,d5,d6,d7⟩,d8,f0,f1⟩:=hg.cells;have HG2:=za hg;clear hg)|(simp only[];obtain⟨⟨d0,d1,d2,d3,d4,d5,d6,d7⟩,d8,f0,f1⟩:=hg.cells;have HB:=za hg;clear hg))
  | (go_at_call 57;refine(HG2.out.number8).mono ?_;intro e w1 hq;clear d0 d1 d2 d3 d4 d5 d6 d7 d8 d9 f0 f1 HG2;rcases hq with ⟨x,t,hr,hx,rfl,hg⟩|⟨hr,rfl,hg⟩ <;> first|(have HX:=za hx;clear hx;simp only[];have hpl:=hg.place;obtain⟨p,cap,d9⟩:=hpl;obtain⟨⟨d0,d1,d2,d3,d4,d5,d6,d7⟩,d8,f0,f1⟩:=hg.cells;have HG3:=za hg;clear hg)|(simp only[];obtain⟨⟨d0,d1,d2,d3,d4,d5,d6,d7⟩,d8,f0,f1⟩:=hg.cells;have HB:=za hg;clear hg))
  | (go_at_call 58;refine(((HG3.out.set2 _).set4 _).text).mono ?_;intro e w1 hq;clear d0 d1 d2 d3 d4 d5 d6 d7 d8 d9 f0 f1 HG3;rcases hq with ⟨x,t,hr,hx,rfl,hg⟩|⟨hr,rfl,hg⟩ <;> first|(have HT:=za hx;clear hx;simp only[];have hpl:=hg.place;obtain⟨p,cap,d9⟩:=hpl;obtain⟨⟨d0,d1,d2,d3,d4,d5,d6,d7⟩,d8,f0,f1⟩:=hg.cells;have HG4:=za hg;clear hg;by_cases hz:t = [] <;> first|(rw[hz,List.length_nil] at d9)|(have hz1:¬(t.length=0):=(fun e=>hz (List.eq_nil_of_length_eq_zero e));have hz2:¬((t.length:Int)=0):=(by omega)))|(simp only[];obtain⟨⟨d0,d1,d2,d3,d4,d5,d6,d7⟩,d8,f0,f1⟩:=hg.cells;have HB:=za hg;clear hg))
  | (go_at_call 48;refine(Xc _ _ _ _ _ _ _ _ _ (by first|exact HT.out|decide)).mono ?_;intro e w1 hq;clear d0 d1 d2 d3 d4 d5 d6 d7 d8 d9 f0 f1;rcases hq with ⟨hm,rfl,hg⟩|⟨hm,rfl,hg⟩ <;> (have hb:=(HG4.out.set6 _).gb.grow hg;obtain⟨⟨d0,d1,d2,d3,d4,d5,d6,d7⟩,d8,f0,f1⟩:=hb.cells;have HB:=za hb;clear hb hg))
  | (go_at_call 59;first|(refine(xu _).mono ?_;rintro e w2 ⟨rfl,rfl⟩)|(refine(yt _).mono ?_;rintro e w2 ⟨rfl,rfl⟩;simp only[xh])))
 ·refine leaves_cons (f:=55) (args:=#[.pointer (some ⟨W.heap.size,0,none⟩),.pointer (some ⟨W.heap.size+1,0,none⟩)]) (by simp) (by simp[go_sem]) ?_
  refine(Vr _ _ _).mono ?_;rintro e u' w2 ⟨rfl,rfl,rfl⟩;simp[Leaves,settle,results,Tryz.results15,go_sem,d0,d1,d2,d3,d4,d5,d6,d7,d8,f0,f1]
  exact Vu hm (by simp[jh,par,Xd,Jo,Xe, *]) rfl ((((((((((HB.out.set0 _).set1 _).set2 _).set3 _).set4 _).set5 _).set6 _).set7 _).err _).2.2)
 all_goals
  refine leaves_cons (f:=55) (args:=#[.pointer (some ⟨W.heap.size,0,none⟩),.pointer (some ⟨W.heap.size+1,0,none⟩)]) (by simp) (by simp[go_sem]) ?_
  first|refine(uv HB.out).mono ?_|refine(uv (HG4.out.set6 _).gb).mono ?_
  rintro e u' w2 ⟨rfl,rfl,h2,h3,h4⟩;clear d0 d1 d2 d3 d4 d5 d6 d7 d8 f0 f1;obtain⟨⟨d0,d1,d2,d3,d4,d5,d6,d7⟩,d8⟩:=jp h2 h3;simp[Leaves,settle,results,Tryz.results15,go_sem,d0,d1,d2,d3,d4,d5,d6,d7,d8]
  exact Uf (by simp[jh,par,Xd,Jo,Xe, *]) h4
set_option maxRecDepth 100000 in
theorem get_7 {W:World} {v:Value} {l t0:List Int} (h:uy W.heap.size W v l) (hl:BL l) (h1:rd 1 l=some (7,t0)):Calls Tryz.prog 15 #[v] W fun e w'=>Zt W l e w':=by
 have hmf:∀(fn:Fn) (first cap:Array Value) (w:World),(Instr.makeFunc fn first cap).run Tryz.prog w = .ok (.func fn first cap) w:=fun _ _ _ _=>rfl
 obtain⟨p,cap,rfl,-⟩:=h.ex;have HG0:=za (G.start h hl _ rfl);clear h hl
 go_enter_defers Tryz.func15,Tryz.ntmps15
 go_wp2_with (first
  | (go_at_call 57;refine(HG0.out.number1).mono ?_;intro e w1 hq;rcases hq with ⟨x,t,hr,hx,rfl,hg⟩|⟨hr,rfl,hg⟩ <;> first|(rw[h1] at hr;cases hr;done)|(rw[h1] at hr;injection hr with hr;injection hr with hr1 hr2;subst hr1 hr2;clear HG0;(have HX:=za hx;clear hx;simp only[];have hpl:=hg.place;obtain⟨p,cap,d9⟩:=hpl;obtain⟨⟨d0,d1,d2,d3,d4,d5,d6,d7⟩,d8,f0,f1⟩:=hg.cells;have HG1:=za hg;clear hg)))
  | (go_at_call 57;refine((HG1.out.set0 _).number2).mono ?_;intro e w1 hq;clear d0 d1 d2 d3 d4 d5 d6 d7 d8 d9 f0 f1 HG1;rcases hq with ⟨x,t,hr,hx,rfl,hg⟩|⟨hr,rfl,hg⟩ <;> first|(have HX:=za hx;clear hx;simp only[];have hpl:=hg.place;obtain⟨p,cap,d9⟩:=hpl;obtain⟨⟨d0,d1,d2,d3,d4,d5,d6,d7⟩,d8,f0,f1⟩:=hg.cells;have HG2:=za hg;clear hg)|(simp only[];obtain⟨⟨d0,d1,d2,d3,d4,d5,d6,d7⟩,d8,f0,f1⟩:=hg.cells;have HB:=za hg;clear hg))
  | (go_at_call 57;refine(HG2.out.number8).mono ?_;intro e w1 hq;clear d0 d1 d2 d3 d4 d5 d6 d7 d8 d9 f0 f1 HG2;rcases hq with ⟨x,t,hr,hx,rfl,hg⟩|⟨hr,rfl,hg⟩ <;> first|(have HX:=za hx;clear hx;simp only[];have hpl:=hg.place;obtain⟨p,cap,d9⟩:=hpl;obtain⟨⟨d0,d1,d2,d3,d4,d5,d6,d7⟩,d8,f0,f1⟩:=hg.cells;have HG3:=za hg;clear hg)|(simp only[];obtain⟨⟨d0,d1,d2,d3,d4,d5,d6,d7⟩,d8,f0,f1⟩:=hg.cells;have HB:=za hg;clear hg))
  | (go_at_call 57;refine(((HG3.out.set2 _).set4 _).number2).mono ?_;intro e w1 hq;clear d0 d1 d2 d3 d4 d5 d6 d7 d8 d9 f0 f1 HG3;rcases hq with ⟨x,t,hr,hx,rfl,hg⟩|⟨hr,rfl,hg⟩ <;> first|(have HX:=za hx;clear hx;simp only[];have hpl:=hg.place;obtain⟨p,cap,d9⟩:=hpl;obtain⟨⟨d0,d1,d2,d3,d4,d5,d6,d7⟩,d8,f0,f1⟩:=hg.cells;have HG4:=za hg;clear hg;by_cases hz:t = [] <;> first|(rw[hz,List.length_nil] at d9)|(have hz1:¬(t.length=0):=(fun e=>hz (List.eq_nil_of_length_eq_zero e));have hz2:¬((t.length:Int)=0):=(by omega)))|(simp only[];obtain⟨⟨d0,d1,d2,d3,d4,d5,d6,d7⟩,d8,f0,f1⟩:=hg.cells;have HB:=za hg;clear hg))
  | (go_at_call 48;refine(Xc _ _ _ _ _ _ _ _ _ (by first|exact HT.out|decide)).mono ?_;intro e w1 hq;clear d0 d1 d2 d3 d4 d5 d6 d7 d8 d9 f0 f1;rcases hq with ⟨hm,rfl,hg⟩|⟨hm,rfl,hg⟩ <;> (have hb:=(HG4.out.set7 _).gb.grow hg;obtain⟨⟨d0,d1,d2,d3,d4,d5,d6,d7⟩,d8,f0,f1⟩:=hb.cells;have HB:=za hb;clear hb hg))
  | (go_at_call 59;first|(refine(xu _).mono ?_;rintro e w2 ⟨rfl,rfl⟩)|(refine(yt _).mono ?_;rintro e w2 ⟨rfl,rfl⟩;simp only[xh])))
 ·refine leaves_cons (f:=55) (args:=#[.pointer (some ⟨W.heap.size,0,none⟩),.pointer (some ⟨W.heap.size+1,0,none⟩)]) (by simp) (by simp[go_sem]) ?_
  refine(Vr _ _ _).mono ?_;rintro e u' w2 ⟨rfl,rfl,rfl⟩;simp[Leaves,settle,results,Tryz.results15,go_sem,d0,d1,d2,d3,d4,d5,d6,d7,d8,f0,f1]
  exact Vu hm (by simp[jh,par,Xd,Jo,Xe, *]) rfl ((((((((((HB.out.set0 _).set1 _).set2 _).set3 _).set4 _).set5 _).set6 _).set7 _).err _).2.2)
 all_goals
  refine leaves_cons (f:=55) (args:=#[.pointer (some ⟨W.heap.size,0,none⟩),.pointer (some ⟨W.heap.size+1,0,none⟩)]) (by simp) (by simp[go_sem]) ?_
  first|refine(uv HB.out).mono ?_|refine(uv (HG4.out.set7 _).gb).mono ?_
  rintro e u' w2 ⟨rfl,rfl,h2,h3,h4⟩;clear d0 d1 d2 d3 d4 d5 d6 d7 d8 f0 f1;obtain⟨⟨d0,d1,d2,d3,d4,d5,d6,d7⟩,d8⟩:=jp h2 h3;simp[Leaves,settle,results,Tryz.results15,go_sem,d0,d1,d2,d3,d4,d5,d6,d7,d8]
  exact Uf (by simp[jh,par,Xd,Jo,Xe, *]) h4
set_option maxRecDepth 100000 in
theorem get_low {W:World} {v:Value} {l t0:List Int} {k:Nat} (hk:k≤1) (h:uy W.heap.size W v l) (hl:BL l) (h1:rd 1 l=some (k,t0)):Calls Tryz.prog 15 #[v] W fun e w'=>Zt W l e w':=by
 have hkm:(k:Int)%256=k:=by omega
 have hk_2:¬(k:Int)=2:=by omega
 have hn_2:¬k=2:=by omega
 have hk_3:¬(k:Int)=3:=by omega
 have hn_3:¬k=3:=by omega
 have hk_4:¬(k:Int)=4:=by omega
 have hn_4:¬k=4:=by omega
 have hk_5:¬(k:Int)=5:=by omega
 have hn_5:¬k=5:=by omega
 have hk_6:¬(k:Int)=6:=by omega
 have hn_6:¬k=6:=by omega
 have hk_7:¬(k:Int)=7:=by omega
 have hn_7:¬k=7:=by omega
 have hk3:(k:Int)<3:=by omega
 have hn3:¬3≤k:=by omega
 have hmf:∀(fn:Fn) (first cap:Array Value) (w:World),(Instr.makeFunc fn first cap).run Tryz.prog w = .ok (.func fn first cap) w:=fun _ _ _ _=>rfl
 obtain⟨p,cap,rfl,-⟩:=h.ex;have HG0:=za (G.start h hl _ rfl);clear h hl
 go_enter_defers Tryz.func15,Tryz.ntmps15
 go_wp2_with (first
  | (go_at_call 57;refine(HG0.out.number1).mono ?_;intro e w1 hq;rcases hq with ⟨x,t,hr,hx,rfl,hg⟩|⟨hr,rfl,hg⟩ <;> first|(rw[h1] at hr;cases hr;done)|(rw[h1] at hr;injection hr with hr;injection hr with hr1 hr2;subst hr1 hr2;clear HG0;(have HX:=za hx;clear hx;simp only[];have hpl:=hg.place;obtain⟨p,cap,d9⟩:=hpl;obtain⟨⟨d0,d1,d2,d3,d4,d5,d6,d7⟩,d8,f0,f1⟩:=hg.cells;have HG1:=za hg;clear hg;by_cases hz:t0 = [] <;> first|(rw[hz,List.length_nil] at d9)|(have hz1:¬(t0.length=0):=(fun e=>hz (List.eq_nil_of_length_eq_zero e));have hz2:¬((t0.length:Int)=0):=(by omega)))))
  | (go_at_call 48;refine(Xc _ _ _ _ _ _ _ _ _ (by first|exact HT.out|decide)).mono ?_;intro e w1 hq;clear d0 d1 d2 d3 d4 d5 d6 d7 d8 d9 f0 f1;rcases hq with ⟨hm,rfl,hg⟩|⟨hm,rfl,hg⟩ <;> (have hb:=(HG1.out.set0 _).gb.grow hg;obtain⟨⟨d0,d1,d2,d3,d4,d5,d6,d7⟩,d8,f0,f1⟩:=hb.cells;have HB:=za hb;clear hb hg))
  | (go_at_call 59;first|(refine(xu _).mono ?_;rintro e w2 ⟨rfl,rfl⟩)|(refine(yt _).mono ?_;rintro e w2 ⟨rfl,rfl⟩;simp only[xh])))
 ·refine leaves_cons (f:=55) (args:=#[.pointer (some ⟨W.heap.size,0,none⟩),.pointer (some ⟨W.heap.size+1,0,none⟩)]) (by simp) (by simp[go_sem]) ?_
  refine(Vr _ _ _).mono ?_;rintro e u' w2 ⟨rfl,rfl,rfl⟩;simp[Leaves,settle,results,Tryz.results15,go_sem,d0,d1,d2,d3,d4,d5,d6,d7,d8,f0,f1]
  exact Vu hm (by simp[jh,par,Xd,Jo,Xe, *]) rfl ((((((((((HB.out.set0 _).set1 _).set2 _).set3 _).set4 _).set5 _).set6 _).set7 _).err _).2.2)
 all_goals
  refine leaves_cons (f:=55) (args:=#[.pointer (some ⟨W.heap.size,0,none⟩),.pointer (some ⟨W.heap.size+1,0,none⟩)]) (by simp) (by simp[go_sem]) ?_
  first|refine(uv HB.out).mono ?_|refine(uv (HG1.out.set0 _).gb).mono ?_
  rintro e u' w2 ⟨rfl,rfl,h2,h3,h4⟩;clear d0 d1 d2 d3 d4 d5 d6 d7 d8 f0 f1;obtain⟨⟨d0,d1,d2,d3,d4,d5,d6,d7⟩,d8⟩:=jp h2 h3;simp[Leaves,settle,results,Tryz.results15,go_sem,d0,d1,d2,d3,d4,d5,d6,d7,d8]
  exact Uf (by simp[jh,par,Xd,Jo,Xe, *]) h4
set_option maxRecDepth 100000 in
theorem ztn {W:World} {v:Value} {l t0:List Int} {k:Nat} (hk:8≤k) (hk2:k<256) (h:uy W.heap.size W v l) (hl:BL l) (h1:rd 1 l=some (k,t0)):Calls Tryz.prog 15 #[v] W fun e w'=>Zt W l e w':=by
 have hkm:(k:Int)%256=k:=by omega
 have hk_2:¬(k:Int)=2:=by omega
 have hn_2:¬k=2:=by omega
 have hk_3:¬(k:Int)=3:=by omega
 have hn_3:¬k=3:=by omega
 have hk_4:¬(k:Int)=4:=by omega
 have hn_4:¬k=4:=by omega
 have hk_5:¬(k:Int)=5:=by omega
 have hn_5:¬k=5:=by omega
 have hk_6:¬(k:Int)=6:=by omega
 have hn_6:¬k=6:=by omega
 have hk_7:¬(k:Int)=7:=by omega
 have hn_7:¬k=7:=by omega
 have hk3:(3:Int)≤k:=by omega
 have hk7:6<(k:Int):=by omega
 have hn7:¬k≤6:=by omega
 have hmf:∀(fn:Fn) (first cap:Array Value) (w:World),(Instr.makeFunc fn first cap).run Tryz.prog w = .ok (.func fn first cap) w:=fun _ _ _ _=>rfl
 obtain⟨p,cap,rfl,-⟩:=h.ex;have HG0:=za (G.start h hl _ rfl);clear h hl
 go_enter_defers Tryz.func15,Tryz.ntmps15
 go_wp2_with (first
  | (go_at_call 57;refine(HG0.out.number1).mono ?_;intro e w1 hq;rcases hq with ⟨x,t,hr,hx,rfl,hg⟩|⟨hr,rfl,hg⟩ <;> first|(rw[h1] at hr;cases hr;done)|(rw[h1] at hr;injection hr with hr;injection hr with hr1 hr2;subst hr1 hr2;clear HG0;(have HX:=za hx;clear hx;simp only[];have hpl:=hg.place;obtain⟨p,cap,d9⟩:=hpl;obtain⟨⟨d0,d1,d2,d3,d4,d5,d6,d7⟩,d8,f0,f1⟩:=hg.cells;have HG1:=za hg;clear hg;by_cases hz:t0 = [] <;> first|(rw[hz,List.length_nil] at d9)|(have hz1:¬(t0.length=0):=(fun e=>hz (List.eq_nil_of_length_eq_zero e));have hz2:¬((t0.length:Int)=0):=(by omega)))))
  | (go_at_call 48;refine(Xc _ _ _ _ _ _ _ _ _ (by first|exact HT.out|decide)).mono ?_;intro e w1 hq;clear d0 d1 d2 d3 d4 d5 d6 d7 d8 d9 f0 f1;rcases hq with ⟨hm,rfl,hg⟩|⟨hm,rfl,hg⟩ <;> (have hb:=(HG1.out.set0 _).gb.grow hg;obtain⟨⟨d0,d1,d2,d3,d4,d5,d6,d7⟩,d8,f0,f1⟩:=hb.cells;have HB:=za hb;clear hb hg))
  | (go_at_call 59;first|(refine(xu _).mono ?_;rintro e w2 ⟨rfl,rfl⟩)|(refine(yt _).mono ?_;rintro e w2 ⟨rfl,rfl⟩;simp only[xh])))
 ·refine leaves_cons (f:=55) (args:=#[.pointer (some ⟨W.heap.size,0,none⟩),.pointer (some ⟨W.heap.size+1,0,none⟩)]) (by simp) (by simp[go_sem]) ?_
  refine(Vr _ _ _).mono ?_;rintro e u' w2 ⟨rfl,rfl,rfl⟩;simp[Leaves,settle,results,Tryz.results15,go_sem,d0,d1,d2,d3,d4,d5,d6,d7,d8,f0,f1]
  exact Vu hm (by simp[jh,par,Xd,Jo,Xe, *]) rfl ((((((((((HB.out.set0 _).set1 _).set2 _).set3 _).set4 _).set5 _).set6 _).set7 _).err _).2.2)
 all_goals
  refine leaves_cons (f:=55) (args:=#[.pointer (some ⟨W.heap.size,0,none⟩),.pointer (some ⟨W.heap.size+1,0,none⟩)]) (by simp) (by simp[go_sem]) ?_
  first|refine(uv HB.out).mono ?_|refine(uv (HG1.out.set0 _).gb).mono ?_
  rintro e u' w2 ⟨rfl,rfl,h2,h3,h4⟩;clear d0 d1 d2 d3 d4 d5 d6 d7 d8 f0 f1;obtain⟨⟨d0,d1,d2,d3,d4,d5,d6,d7⟩,d8⟩:=jp h2 h3;simp[Leaves,settle,results,Tryz.results15,go_sem,d0,d1,d2,d3,d4,d5,d6,d7,d8]
  exact Uf (by simp[jh,par,Xd,Jo,Xe, *]) h4
theorem get_any {W:World} {v:Value} {l:List Int} (h:uy W.heap.size W v l) (hl:BL l):Calls Tryz.prog 15 #[v] W fun e w'=>Zt W l e w':=by
 cases h1:rd 1 l with
 | none=>exact zto h hl h1
 | some p=>
  obtain⟨k,t⟩:=p;have hk:=(xz hl h1).2.1;have hc:k≤1∨k=2∨k=3∨k=4∨k=5∨k=6∨k=7∨8≤k:=by omega
  rcases hc with hc|rfl|rfl|rfl|rfl|rfl|rfl|hc
  ·exact get_low hc h hl h1
  ·exact get_2 h hl h1
  ·exact get_3 h hl h1
  ·exact get_4 h hl h1
  ·exact get_5 h hl h1
  ·exact get_6 h hl h1
  ·exact get_7 h hl h1
  ·exact ztn hc (by omega) h hl h1
end Go.Proofs.YtjfelfjobeeenaaGreat
