/- The document's table: one of its rows is another one. Conditions: none. The document's table: call, value: the walks. Conditions: a table that lies in memory. -/
import Derived.Test.YtjfelfjobeeenaaGreatF15
set_option linter.unusedSimpArgs false
set_option linter.unusedVariables false
namespace Go.Proofs.YtjfelfjobeeenaaGreat
open Go.RowKit Go.Sf Go.Shelf
theorem heap_set_ne (w:World) (p:Addr) (v:Value) (k:Nat) (h:k≠p.block):(w.setCell p v).heap[k]? = w.heap[k]?:=Below.heap_setCell w p v k h
theorem heap_set_eq {w:World} {b i:Nat} {c:Array Value} {t:TypeId} {fr:Nat × Nat} (h:w.heap[b]? = some (.cells c t fr)) (v:Value):(w.setCell ⟨b,i,none⟩ v).heap[b]? = some (.cells (c.setIfInBounds i v) t fr):=by
 simp[World.setCell,Array.getElem?_modify,h]
theorem two_rows {W:World} {α β:Type} {E F:TypeId} {m n:Nat} {ea:α→List Value} {eb:β→List Value} {u v:Value} {l:List α} {k:List β} (h:SRow W E m ea u l) (h2:SRow W F n eb v k) (hne:E≠F) {g:Nat} (hg:u.ownBlock=some g):v.ownBlock≠some g:=by
 obtain⟨c,hc⟩:=h.kind hg
 exact own_ne h2 hc hne.symm
section
variable {W w1 : World} {rb : Nat} {R : RTab} {vL vC vV vP vH v' : Value}
theorem RMem.putL (h:RMem W rb R vL vC vV vP vH) {l:List Int} (hs:SRow w1 2 1 cellsI vL l) (hg:W.grownBy w1 vL.ownBlock):RMem w1 rb { R with lives:=l } vL vC vV vP vH:=by
 have hb:vL.ownBlock≠some rb:=own_ne h.lives h.box (by decide)
 refine⟨(hg.block rb h.lt (fun e=>hb e.symm)).trans h.box,hs,h.calls.same fun g hg2=>hg.block g (h.calls.lt hg2) (fun e=>two_rows h.calls h.lives (by decide) hg2 e.symm),h.vals.same fun g hg2=>hg.block g (h.vals.lt hg2) (fun e=>two_rows h.vals h.lives (by decide) hg2 e.symm),h.pends.same fun g hg2=>hg.block g (h.pends.lt hg2) (fun e=>two_rows h.pends h.lives (by decide) hg2 e.symm),h.holds.same fun g hg2=>hg.block g (h.holds.lt hg2) (fun e=>two_rows h.holds h.lives (by decide) hg2 e.symm)⟩
theorem RMem.putC (h:RMem W rb R vL vC vV vP vH) {l:List (Int × CallT)} (hs:SRow w1 193 5 cellsC vC l) (hg:W.grownBy w1 vC.ownBlock):RMem w1 rb { R with calls:=l } vL vC vV vP vH:=by
 have hb:vC.ownBlock≠some rb:=own_ne h.calls h.box (by decide)
 refine⟨(hg.block rb h.lt (fun e=>hb e.symm)).trans h.box,h.lives.same fun g hg2=>hg.block g (h.lives.lt hg2) (fun e=>two_rows h.lives h.calls (by decide) hg2 e.symm),hs,h.vals.same fun g hg2=>hg.block g (h.vals.lt hg2) (fun e=>two_rows h.vals h.calls (by decide) hg2 e.symm),h.pends.same fun g hg2=>hg.block g (h.pends.lt hg2) (fun e=>two_rows h.pends h.calls (by decide) hg2 e.symm),h.holds.same fun g hg2=>hg.block g (h.holds.lt hg2) (fun e=>two_rows h.holds h.calls (by decide) hg2 e.symm)⟩
theorem RMem.appC (h:RMem W rb R vL vC vV vP vH) {l:List (Int × CallT)} (ha:Apped W 193 5 cellsC vC l v' w1):RMem (w1.setCell ⟨rb,5,none⟩ v') rb { R with calls:=l } vL v' vV vP vH∧Turn (fun k=>k=rb∨vC.ownBlock=some k) W (w1.setCell ⟨rb,5,none⟩ v')∧(∀g,v'.ownBlock=some g→vC.ownBlock=some g∨W.heap.size≤g):=by
 obtain⟨h1,hg,h3⟩:=ha
 have hb:vC.ownBlock≠some rb:=own_ne h.calls h.box (by decide)
 have hbox:w1.heap[rb]? = _:=(hg.block rb h.lt (fun e=>hb e.symm)).trans h.box
 have hb':v'.ownBlock≠some rb:=own_ne h1 hbox (by decide)
 refine⟨⟨?_,?_,?_,?_,?_,?_⟩,⟨hg.os,hg.tape,hg.output,Nat.le_trans hg.size (by simp[World.setCell]),fun k hk hn=>?_⟩,fun g hg2=>?_⟩
 ·exact(heap_set_eq hbox v').trans rfl
 ·exact h.lives.same fun g hg2=>(heap_set_ne w1 _ _ g (fun e=>own_ne h.lives h.box (by decide) (by rw[hg2];exact congrArg some e))).trans (hg.block g (h.lives.lt hg2) (fun e=>two_rows h.lives h.calls (by decide) hg2 e.symm))
 ·exact h1.same fun g hg2=>heap_set_ne w1 _ _ g (fun e=>hb' (by rw[hg2];exact congrArg some e))
 ·exact h.vals.same fun g hg2=>(heap_set_ne w1 _ _ g (fun e=>own_ne h.vals h.box (by decide) (by rw[hg2];exact congrArg some e))).trans (hg.block g (h.vals.lt hg2) (fun e=>two_rows h.vals h.calls (by decide) hg2 e.symm))
 ·exact h.pends.same fun g hg2=>(heap_set_ne w1 _ _ g (fun e=>own_ne h.pends h.box (by decide) (by rw[hg2];exact congrArg some e))).trans (hg.block g (h.pends.lt hg2) (fun e=>two_rows h.pends h.calls (by decide) hg2 e.symm))
 ·exact h.holds.same fun g hg2=>(heap_set_ne w1 _ _ g (fun e=>own_ne h.holds h.box (by decide) (by rw[hg2];exact congrArg some e))).trans (hg.block g (h.holds.lt hg2) (fun e=>two_rows h.holds h.calls (by decide) hg2 e.symm))
 ·exact(heap_set_ne w1 _ _ k (fun e=>hn (Or.inl e))).trans (hg.block k hk (fun e=>hn (Or.inr e.symm)))
 ·rcases h3 with e|e
  ·exact Or.inl (e ▸ hg2)
  ·rw[e] at hg2;cases hg2;exact Or.inr (Nat.le_refl _)
theorem RMem.putV (h:RMem W rb R vL vC vV vP vH) {l:List (ByteArray × Val)} (hs:SRow w1 202 3 cellsV vV l) (hg:W.grownBy w1 vV.ownBlock):RMem w1 rb { R with vals:=l } vL vC vV vP vH:=by
 have hb:vV.ownBlock≠some rb:=own_ne h.vals h.box (by decide)
 refine⟨(hg.block rb h.lt (fun e=>hb e.symm)).trans h.box,h.lives.same fun g hg2=>hg.block g (h.lives.lt hg2) (fun e=>two_rows h.lives h.vals (by decide) hg2 e.symm),h.calls.same fun g hg2=>hg.block g (h.calls.lt hg2) (fun e=>two_rows h.calls h.vals (by decide) hg2 e.symm),hs,h.pends.same fun g hg2=>hg.block g (h.pends.lt hg2) (fun e=>two_rows h.pends h.vals (by decide) hg2 e.symm),h.holds.same fun g hg2=>hg.block g (h.holds.lt hg2) (fun e=>two_rows h.holds h.vals (by decide) hg2 e.symm)⟩
theorem RMem.appV (h:RMem W rb R vL vC vV vP vH) {l:List (ByteArray × Val)} (ha:Apped W 202 3 cellsV vV l v' w1):RMem (w1.setCell ⟨rb,6,none⟩ v') rb { R with vals:=l } vL vC v' vP vH∧Turn (fun k=>k=rb∨vV.ownBlock=some k) W (w1.setCell ⟨rb,6,none⟩ v')∧(∀g,v'.ownBlock=some g→vV.ownBlock=some g∨W.heap.size≤g):=by
 obtain⟨h1,hg,h3⟩:=ha
 have hb:vV.ownBlock≠some rb:=own_ne h.vals h.box (by decide)
 have hbox:w1.heap[rb]? = _:=(hg.block rb h.lt (fun e=>hb e.symm)).trans h.box
 have hb':v'.ownBlock≠some rb:=own_ne h1 hbox (by decide)
 refine⟨⟨?_,?_,?_,?_,?_,?_⟩,⟨hg.os,hg.tape,hg.output,Nat.le_trans hg.size (by simp[World.setCell]),fun k hk hn=>?_⟩,fun g hg2=>?_⟩
 ·exact(heap_set_eq hbox v').trans rfl
 ·exact h.lives.same fun g hg2=>(heap_set_ne w1 _ _ g (fun e=>own_ne h.lives h.box (by decide) (by rw[hg2];exact congrArg some e))).trans (hg.block g (h.lives.lt hg2) (fun e=>two_rows h.lives h.vals (by decide) hg2 e.symm))
 ·exact h.calls.same fun g hg2=>(heap_set_ne w1 _ _ g (fun e=>own_ne h.calls h.box (by decide) (by rw[hg2];exact congrArg some e))).trans (hg.block g (h.calls.lt hg2) (fun e=>two_rows h.calls h.vals (by decide) hg2 e.symm))
 ·exact h1.same fun g hg2=>heap_set_ne w1 _ _ g (fun e=>hb' (by rw[hg2];exact congrArg some e))
 ·exact h.pends.same fun g hg2=>(heap_set_ne w1 _ _ g (fun e=>own_ne h.pends h.box (by decide) (by rw[hg2];exact congrArg some e))).trans (hg.block g (h.pends.lt hg2) (fun e=>two_rows h.pends h.vals (by decide) hg2 e.symm))
 ·exact h.holds.same fun g hg2=>(heap_set_ne w1 _ _ g (fun e=>own_ne h.holds h.box (by decide) (by rw[hg2];exact congrArg some e))).trans (hg.block g (h.holds.lt hg2) (fun e=>two_rows h.holds h.vals (by decide) hg2 e.symm))
 ·exact(heap_set_ne w1 _ _ k (fun e=>hn (Or.inl e))).trans (hg.block k hk (fun e=>hn (Or.inr e.symm)))
 ·rcases h3 with e|e
  ·exact Or.inl (e ▸ hg2)
  ·rw[e] at hg2;cases hg2;exact Or.inr (Nat.le_refl _)
theorem RMem.appP (h:RMem W rb R vL vC vV vP vH) {l:List (ID × Pend)} (ha:Apped W 190 4 cellsP vP l v' w1):RMem (w1.setCell ⟨rb,7,none⟩ v') rb { R with pends:=l } vL vC vV v' vH∧Turn (fun k=>k=rb∨vP.ownBlock=some k) W (w1.setCell ⟨rb,7,none⟩ v')∧(∀g,v'.ownBlock=some g→vP.ownBlock=some g∨W.heap.size≤g):=by
 obtain⟨h1,hg,h3⟩:=ha
 have hb:vP.ownBlock≠some rb:=own_ne h.pends h.box (by decide)
 have hbox:w1.heap[rb]? = _:=(hg.block rb h.lt (fun e=>hb e.symm)).trans h.box
 have hb':v'.ownBlock≠some rb:=own_ne h1 hbox (by decide)
 refine⟨⟨?_,?_,?_,?_,?_,?_⟩,⟨hg.os,hg.tape,hg.output,Nat.le_trans hg.size (by simp[World.setCell]),fun k hk hn=>?_⟩,fun g hg2=>?_⟩
 ·exact(heap_set_eq hbox v').trans rfl
 ·exact h.lives.same fun g hg2=>(heap_set_ne w1 _ _ g (fun e=>own_ne h.lives h.box (by decide) (by rw[hg2];exact congrArg some e))).trans (hg.block g (h.lives.lt hg2) (fun e=>two_rows h.lives h.pends (by decide) hg2 e.symm))
 ·exact h.calls.same fun g hg2=>(heap_set_ne w1 _ _ g (fun e=>own_ne h.calls h.box (by decide) (by rw[hg2];exact congrArg some e))).trans (hg.block g (h.calls.lt hg2) (fun e=>two_rows h.calls h.pends (by decide) hg2 e.symm))
 ·exact h.vals.same fun g hg2=>(heap_set_ne w1 _ _ g (fun e=>own_ne h.vals h.box (by decide) (by rw[hg2];exact congrArg some e))).trans (hg.block g (h.vals.lt hg2) (fun e=>two_rows h.vals h.pends (by decide) hg2 e.symm))
 ·exact h1.same fun g hg2=>heap_set_ne w1 _ _ g (fun e=>hb' (by rw[hg2];exact congrArg some e))
 ·exact h.holds.same fun g hg2=>(heap_set_ne w1 _ _ g (fun e=>own_ne h.holds h.box (by decide) (by rw[hg2];exact congrArg some e))).trans (hg.block g (h.holds.lt hg2) (fun e=>two_rows h.holds h.pends (by decide) hg2 e.symm))
 ·exact(heap_set_ne w1 _ _ k (fun e=>hn (Or.inl e))).trans (hg.block k hk (fun e=>hn (Or.inr e.symm)))
 ·rcases h3 with e|e
  ·exact Or.inl (e ▸ hg2)
  ·rw[e] at hg2;cases hg2;exact Or.inr (Nat.le_refl _)
def Among (bs:Nat→Prop) (W:World) (rb:Nat) (vL vC vV vP vH:Value):Prop:=bs rb∧(∀g,vL.ownBlock=some g→bs g)∧(∀g,vC.ownBlock=some g→bs g)∧(∀g,vV.ownBlock=some g→bs g)∧(∀g,vP.ownBlock=some g→bs g)∧(∀g,vH.ownBlock=some g→bs g)∧∀k,W.heap.size≤k→bs k
theorem Among.grown {bs:Nat→Prop} (h:Among bs W rb vL vC vV vP vH) (hg:W.heap.size≤w1.heap.size):Among bs w1 rb vL vC vV vP vH:=
 ⟨h.1,h.2.1,h.2.2.1,h.2.2.2.1,h.2.2.2.2.1,h.2.2.2.2.2.1,fun k hk=>h.2.2.2.2.2.2 k (Nat.le_trans hg hk)⟩
theorem turn_then {bs:Nat→Prop} {a b c:World} (h:a.grownBy b none) (g:Turn bs b c):Turn bs a c:=
 ⟨g.os.trans h.os,g.tape.trans h.tape,g.output.trans h.output,Nat.le_trans h.size g.size,fun k hk hn=>(g.block k (Nat.lt_of_lt_of_le hk h.size) hn).trans (h.block k hk (by simp))⟩
theorem RMem.boxC (h:RMem W rb R vL vC vV vP vH) {l:List (Int × CallT)} (ha:Apped W 193 5 cellsC vC l v' w1):w1.cell? ⟨rb,5,none⟩=some vC∧w1.frozen? ⟨rb,5,none⟩=false:=by
 have hb:vC.ownBlock≠some rb:=own_ne h.calls h.box (by decide)
 have hbox:=(ha.2.1.block rb h.lt (fun e=>hb e.symm)).trans h.box
 exact⟨(cell_block hbox 5).trans rfl,free_block hbox 5⟩
theorem RAt.appC {bs:Nat→Prop} {W0:World} (hg:W0.grownBy W none) (hA:Among bs W0 rb vL vC vV vP vH) (h:RMem W rb R vL vC vV vP vH) {l:List (Int × CallT)} (ha:Apped W 193 5 cellsC vC l v' w1):RAt bs (w1.setCell ⟨rb,5,none⟩ v') rb { R with calls:=l }∧Turn bs W0 (w1.setCell ⟨rb,5,none⟩ v'):=by
 obtain⟨h1,h2,h3⟩:=h.appC ha
 obtain⟨a0,aL,aC,aV,aP,aH,aN⟩:=hA.grown hg.size
 refine⟨⟨vL,v',vV,vP,vH,h1,a0,aL,?_,aV,aP,aH⟩,turn_then hg (h2.mono fun k hk=>?_)⟩
 ·intro g hg2
  rcases h3 g hg2 with e|e
  ·exact aC g e
  ·exact aN g e
 ·rcases hk with rfl|e
  ·exact a0
  ·exact aC k e
theorem RAt.putC {bs:Nat→Prop} {W0:World} (hg:W0.grownBy W none) (hA:Among bs W0 rb vL vC vV vP vH) (h:RMem W rb R vL vC vV vP vH) {l:List (Int × CallT)} (hs:SRow w1 193 5 cellsC vC l) (hg2:W.grownBy w1 vC.ownBlock):RAt bs w1 rb { R with calls:=l }∧Turn bs W0 w1:=by
 obtain⟨a0,aL,aC,aV,aP,aH,aN⟩:=hA.grown hg.size
 exact⟨⟨vL,vC,vV,vP,vH,h.putC hs hg2,a0,aL,aC,aV,aP,aH⟩,turn_then hg ⟨hg2.os,hg2.tape,hg2.output,hg2.size,fun k hk hn=>hg2.block k hk (fun e=>hn (aC k e.symm))⟩⟩
theorem RMem.boxV (h:RMem W rb R vL vC vV vP vH) {l:List (ByteArray × Val)} (ha:Apped W 202 3 cellsV vV l v' w1):w1.cell? ⟨rb,6,none⟩=some vV∧w1.frozen? ⟨rb,6,none⟩=false:=by
 have hb:vV.ownBlock≠some rb:=own_ne h.vals h.box (by decide)
 have hbox:=(ha.2.1.block rb h.lt (fun e=>hb e.symm)).trans h.box
 exact⟨(cell_block hbox 6).trans rfl,free_block hbox 6⟩
theorem RAt.appV {bs:Nat→Prop} {W0:World} (hg:W0.grownBy W none) (hA:Among bs W0 rb vL vC vV vP vH) (h:RMem W rb R vL vC vV vP vH) {l:List (ByteArray × Val)} (ha:Apped W 202 3 cellsV vV l v' w1):RAt bs (w1.setCell ⟨rb,6,none⟩ v') rb { R with vals:=l }∧Turn bs W0 (w1.setCell ⟨rb,6,none⟩ v'):=by
 obtain⟨h1,h2,h3⟩:=h.appV ha
 obtain⟨a0,aL,aC,aV,aP,aH,aN⟩:=hA.grown hg.size
 refine⟨⟨vL,vC,v',vP,vH,h1,a0,aL,aC,?_,aP,aH⟩,turn_then hg (h2.mono fun k hk=>?_)⟩
 ·intro g hg2
  rcases h3 g hg2 with e|e
  ·exact aV g e
  ·exact aN g e
 ·rcases hk with rfl|e
  ·exact a0
  ·exact aV k e
theorem RAt.putV {bs:Nat→Prop} {W0:World} (hg:W0.grownBy W none) (hA:Among bs W0 rb vL vC vV vP vH) (h:RMem W rb R vL vC vV vP vH) {l:List (ByteArray × Val)} (hs:SRow w1 202 3 cellsV vV l) (hg2:W.grownBy w1 vV.ownBlock):RAt bs w1 rb { R with vals:=l }∧Turn bs W0 w1:=by
 obtain⟨a0,aL,aC,aV,aP,aH,aN⟩:=hA.grown hg.size
 exact⟨⟨vL,vC,vV,vP,vH,h.putV hs hg2,a0,aL,aC,aV,aP,aH⟩,turn_then hg ⟨hg2.os,hg2.tape,hg2.output,hg2.size,fun k hk hn=>hg2.block k hk (fun e=>hn (aV k e.symm))⟩⟩
theorem RMem.boxP (h:RMem W rb R vL vC vV vP vH) {l:List (ID × Pend)} (ha:Apped W 190 4 cellsP vP l v' w1):w1.cell? ⟨rb,7,none⟩=some vP∧w1.frozen? ⟨rb,7,none⟩=false:=by
 have hb:vP.ownBlock≠some rb:=own_ne h.pends h.box (by decide)
 have hbox:=(ha.2.1.block rb h.lt (fun e=>hb e.symm)).trans h.box
 exact⟨(cell_block hbox 7).trans rfl,free_block hbox 7⟩
theorem RAt.appP {bs:Nat→Prop} {W0:World} (hg:W0.grownBy W none) (hA:Among bs W0 rb vL vC vV vP vH) (h:RMem W rb R vL vC vV vP vH) {l:List (ID × Pend)} (ha:Apped W 190 4 cellsP vP l v' w1):RAt bs (w1.setCell ⟨rb,7,none⟩ v') rb { R with pends:=l }∧Turn bs W0 (w1.setCell ⟨rb,7,none⟩ v'):=by
 obtain⟨h1,h2,h3⟩:=h.appP ha
 obtain⟨a0,aL,aC,aV,aP,aH,aN⟩:=hA.grown hg.size
 refine⟨⟨vL,vC,vV,v',vH,h1,a0,aL,aC,aV,?_,aH⟩,turn_then hg (h2.mono fun k hk=>?_)⟩
 ·intro g hg2
  rcases h3 g hg2 with e|e
  ·exact aP g e
  ·exact aN g e
 ·rcases hk with rfl|e
  ·exact a0
  ·exact aP k e
theorem RAt.newP {bs:Nat→Prop} {W0:World} (hg0:W0.grownBy W none) (hA:Among bs W0 rb vL vC vV vP vH) (h:RMem W rb R vL vC vV vP vH) {l:List (ID × Pend)} (hg:W.grownBy w1 none) (hs:SRow w1 190 4 cellsP v' l) (hn:∀g,v'.ownBlock=some g→W0.heap.size≤g):RAt bs (w1.setCell ⟨rb,7,none⟩ v') rb { R with pends:=l }∧Turn bs W0 (w1.setCell ⟨rb,7,none⟩ v'):=by
 obtain⟨a0,aL,aC,aV,aP,aH,aN⟩:=hA
 have h1:=h.grown hg
 have hg2:=grown_trans hg0 hg
 have hb':v'.ownBlock≠some rb:=own_ne hs h1.box (by decide)
 refine⟨⟨vL,vC,vV,v',vH,⟨?_,?_,?_,?_,?_,?_⟩,a0,aL,aC,aV,?_,aH⟩,⟨hg2.os,hg2.tape,hg2.output,Nat.le_trans hg2.size (by simp[World.setCell]),fun k hk hn=>?_⟩⟩
 ·exact(heap_set_eq h1.box v').trans rfl
 ·exact h1.lives.same fun g hg2=>heap_set_ne w1 _ _ g (fun e=>own_ne h1.lives h1.box (by decide) (by rw[hg2];exact congrArg some e))
 ·exact h1.calls.same fun g hg2=>heap_set_ne w1 _ _ g (fun e=>own_ne h1.calls h1.box (by decide) (by rw[hg2];exact congrArg some e))
 ·exact h1.vals.same fun g hg2=>heap_set_ne w1 _ _ g (fun e=>own_ne h1.vals h1.box (by decide) (by rw[hg2];exact congrArg some e))
 ·exact hs.same fun g hg2=>heap_set_ne w1 _ _ g (fun e=>hb' (by rw[hg2];exact congrArg some e))
 ·exact h1.holds.same fun g hg2=>heap_set_ne w1 _ _ g (fun e=>own_ne h1.holds h1.box (by decide) (by rw[hg2];exact congrArg some e))
 ·exact fun g hg2=>aN g (hn g hg2)
 ·exact(heap_set_ne w1 _ _ k (fun e=>hn (by rw[e];exact a0))).trans (hg2.block k hk (by simp))
theorem RAt.newH {bs:Nat→Prop} {W0:World} (hg0:W0.grownBy W none) (hA:Among bs W0 rb vL vC vV vP vH) (h:RMem W rb R vL vC vV vP vH) {l:List RHold} (hg:W.grownBy w1 none) (hs:SRow w1 197 5 cellsH v' l) (hn:∀g,v'.ownBlock=some g→W0.heap.size≤g):RAt bs (w1.setCell ⟨rb,8,none⟩ v') rb { R with holds:=l }∧Turn bs W0 (w1.setCell ⟨rb,8,none⟩ v'):=by
 obtain⟨a0,aL,aC,aV,aP,aH,aN⟩:=hA
 have h1:=h.grown hg
 have hg2:=grown_trans hg0 hg
 have hb':v'.ownBlock≠some rb:=own_ne hs h1.box (by decide)
 refine⟨⟨vL,vC,vV,vP,v',⟨?_,?_,?_,?_,?_,?_⟩,a0,aL,aC,aV,aP,?_⟩,⟨hg2.os,hg2.tape,hg2.output,Nat.le_trans hg2.size (by simp[World.setCell]),fun k hk hn=>?_⟩⟩
 ·exact(heap_set_eq h1.box v').trans rfl
 ·exact h1.lives.same fun g hg2=>heap_set_ne w1 _ _ g (fun e=>own_ne h1.lives h1.box (by decide) (by rw[hg2];exact congrArg some e))
 ·exact h1.calls.same fun g hg2=>heap_set_ne w1 _ _ g (fun e=>own_ne h1.calls h1.box (by decide) (by rw[hg2];exact congrArg some e))
 ·exact h1.vals.same fun g hg2=>heap_set_ne w1 _ _ g (fun e=>own_ne h1.vals h1.box (by decide) (by rw[hg2];exact congrArg some e))
 ·exact h1.pends.same fun g hg2=>heap_set_ne w1 _ _ g (fun e=>own_ne h1.pends h1.box (by decide) (by rw[hg2];exact congrArg some e))
 ·exact hs.same fun g hg2=>heap_set_ne w1 _ _ g (fun e=>hb' (by rw[hg2];exact congrArg some e))
 ·exact fun g hg2=>aN g (hn g hg2)
 ·exact(heap_set_ne w1 _ _ k (fun e=>hn (by rw[e];exact a0))).trans (hg2.block k hk (by simp))
end
section
variable {K V : Type} [DecidableEq K]
theorem mput_hit {l:List (K × V)} {x:K} {k:Nat} (v:V) (h:NoneB (fun p:K × V=>decide (p.1=x)) l k) (hk:k<l.length) (hf:l[k].1=x):mput l x v=l.set k (x,v):=by
 induction l generalizing k with
 | nil=>simp at hk
 | cons p r ih=>
  cases k with
  | zero=>
   simp only[List.getElem_cons_zero] at hf
   simp[mput,hf]
  | succ k=>
   have h0:=h 0 (by simp) (by omega)
   simp only[List.getElem_cons_zero,decide_eq_false_iff_not] at h0
   simp only[mput,if_neg h0,List.set_cons_succ]
   rw[ih (k:=k) (fun j hj hjk=>by have:=h (j+1) (by simpa using hj) (by omega);simpa using this) (by simpa using hk) (by simpa using hf)]
theorem mput_miss {l:List (K × V)} {x:K} {k:Nat} (v:V) (h:NoneB (fun p:K × V=>decide (p.1=x)) l k) (hk:l.length≤k):mput l x v=l ++ [(x,v)]:=
 mput_new (fun p hp e=>by
  obtain⟨j,hj,rfl⟩:=List.getElem_of_mem hp
  have:=h j hj (Nat.lt_of_lt_of_le hj hk)
  simp[e] at this) v
end
theorem yrow_at {α:Type} {enc:α→List Value} {w:World} {b:Nat} {t:TypeId} {fr:Nat × Nat} (x:α) (h:w.heap[b]? = some (.cells (enc x).toArray t fr)):YRow w enc (.slice (some ⟨b,0,none⟩) 1 1) [x]:=
 ⟨_,_,rfl,Or.inr ⟨_,rfl,fun j u hu=>by
  have e:(⟨b,0,none⟩:Addr).add j=⟨b,j,none⟩:=by unfold Addr.add;split <;> simp_all
  rw[e,cell_block h]
  simpa using hu⟩⟩
theorem turn_grown {bs:Nat→Prop} {w w':World} (h:w.grownBy w' none):Turn bs w w':=⟨h.os,h.tape,h.output,h.size,fun k hk _=>h.block k hk (by simp)⟩
theorem turn_some {bs:Nat→Prop} {w w':World} {g:Option Nat} (h:w.grownBy w' g) (hb:∀k,g=some k→bs k):Turn bs w w':=⟨h.os,h.tape,h.output,h.size,fun k hk hn=>h.block k hk (fun e=>hn (hb k e.symm))⟩
section
variable {bs : Nat → Prop} {W : World} {rb : Nat} {R : RTab}
set_option maxHeartbeats 4000000 in
set_option maxRecDepth 100000 in
theorem rput_call (h:RAt bs W rb R) (hbs:∀k,W.heap.size≤k→bs k) (n:Int) (c:CallT) (hl:R.calls.length≤100000000):Calls Tryz.prog 114 #[.pointer (some ⟨rb,0,none⟩),encRCall n c] W fun e w'=>e = .returned (.tuple #[])∧RAt bs w' rb { R with calls:=mput R.calls n c }∧Turn bs W w':=by
 obtain⟨vL,vC,vV,vP,vH,h,hb1,hb2,hb3,hb4,hb5,hb6⟩:=h
 obtain⟨i0,hi,hz0,hz1,hz2⟩:=info_parts infoC
 obtain⟨p,cap,rfl,hcap,hlc⟩:=h.calls.form
 have HBS:Hid (Among bs W rb vL (.slice p R.calls.length cap) vV vP vH):=(show Among bs W rb vL (.slice p R.calls.length cap) vV vP vH from ⟨hb1,hb2,hb3,hb4,hb5,hb6,hbs⟩)
 clear hb1 hb2 hb3 hb4 hb5 hb6 hbs
 have HR:=Lib.hid (h.grown (World.grownBy_alloc W (.cells #[.int .i64 n,.int .i64 c.req,.int .i64 c.ver,.bool c.done,.int .i64 c.code] 193) none))
 have HB:=Lib.hid (heap_alloc_new W (.cells #[.int .i64 n,.int .i64 c.req,.int .i64 c.ver,.bool c.done,.int .i64 c.code] 193))
 have HG:=Lib.hid (World.grownBy_alloc W (.cells #[.int .i64 n,.int .i64 c.req,.int .i64 c.ver,.bool c.done,.int .i64 c.code] 193) none)
 clear h
 simp only[encRCall]
 go_enter Tryz.func114,Tryz.ntmps114
 go_wp2
 generalize W.alloc (.cells #[.int .i64 n,.int .i64 c.req,.int .i64 c.ver,.bool c.done,.int .i64 c.code] 193)=W2 at *
 go_loopw [4] (fun x wr=>∃k:Nat,k≤R.calls.length∧x = .int .i64 k∧NoneB (fun p:Int × CallT=>decide (p.1=n)) R.calls k∧W2.grownBy wr none) (fun x _=>R.calls.length-(intOf x).toNat)
 case atStart=>exact⟨0,Nat.zero_le _,rfl,noneB_zero,grown_refl _⟩
 case round=>
  obtain⟨k,hk,rfl,hno,hg2⟩:=hrel
  have hR:=HR.out.grown hg2
  have c5:=hR.c5
  have zb:=hR.free 5
  have hrb:=hR.lt
  have HNO:=Lib.hid hno
  have b:=(hg2.block W.heap.size (Array.getElem?_eq_some_iff.1 HB.out).1 (by simp)).trans HB.out
  have b0:wr.cell? ⟨W.heap.size,0,none⟩=some (.int .i64 n):=(cell_block b 0).trans rfl
  have b1:wr.cell? ⟨W.heap.size,1,none⟩=some (.int .i64 c.req):=(cell_block b 1).trans rfl
  have b2:wr.cell? ⟨W.heap.size,2,none⟩=some (.int .i64 c.ver):=(cell_block b 2).trans rfl
  have b3:wr.cell? ⟨W.heap.size,3,none⟩=some (.bool c.done):=(cell_block b 3).trans rfl
  have b4:wr.cell? ⟨W.heap.size,4,none⟩=some (.int .i64 c.code):=(cell_block b 4).trans rfl
  clear hno b
  by_cases hlt:k<R.calls.length
  ·obtain⟨g,cap',hv',hc,hfz⟩:=(hR.calls.at lenC).resolve_left (fun e=>by rw[e] at hlt;simp at hlt)
   injection hv' with hv1 hv2 hv3
   subst hv1 hv3
   have e0:wr.cell? ⟨g,k*5,none⟩=some (.int .i64 R.calls[k].1):=hc k hlt 0 _ rfl
   have HH:=Lib.hid hR
   by_cases hi:R.calls[k].1=n
   ·have e1:wr.cell? ⟨g,k*5+1,none⟩=some (.int .i64 R.calls[k].2.req):=hc k hlt 1 _ rfl
    have e2:wr.cell? ⟨g,k*5+2,none⟩=some (.int .i64 R.calls[k].2.ver):=hc k hlt 2 _ rfl
    have e3:wr.cell? ⟨g,k*5+3,none⟩=some (.bool R.calls[k].2.done):=hc k hlt 3 _ rfl
    have e4:wr.cell? ⟨g,k*5+4,none⟩=some (.int .i64 R.calls[k].2.code):=hc k hlt 4 _ rfl
    have z0:=hfz (k*5)
    have z1:=hfz (k*5+1)
    have z2:=hfz (k*5+2)
    have z3:=hfz (k*5+3)
    have z4:=hfz (k*5+4)
    have hd:(R.calls[k].1 == n)=true:=by rw[hi];simp
    have HI:=Lib.hid hi
    clear hR hv2 hc hfz hi
    go_wp2
    go_quiet (fail)
    go_wp2
    go_region
    all_goals
     go_wp2
     refine bodyPost_ret (results_none rfl _ _ _) rfl ⟨rfl,?_⟩
     rw[mput_hit c HNO.out hlt HI.out]
     have hp:=(HH.out.grown (grown_drewN wr (nq+1))).calls.put lenC (n,c) k hlt
     exact RAt.putC (grown_trans HG.out (grown_trans hg2 (grown_drewN _ _))) HBS.out (HH.out.grown (grown_drewN wr (nq+1))) hp.1 hp.2
   ·have hd:(R.calls[k].1 == n)=false:=by simpa using hi
    have HI:=Lib.hid hi
    clear hR hv2 hc hfz hi
    go_wp2
    go_quiet (fail)
    go_wp2
    go_roundw
    case rel=>exact⟨k+1,by omega,by go_num,HNO.out.step hlt (by simpa using HI.out),grown_trans hg2 (grown_drewN _ _)⟩
    case measure=>simp[intOf];omega
  ·have hge:R.calls.length≤k:=by omega
   have HGE:=Lib.hid hge
   have HH:=Lib.hid hR
   clear hR hge
   go_wp2
   go_region_law (refine step_sapp rfl _ _ 47 rfl lenC oneC i0 _ 40 Tryz.underlying47 hi hz0 hz1 hz2 rfl (by decide) (by decide) (l:=R.calls) (m:=[(n,c)]) rfl ((HH.out.grown (by repeat (first|exact grown_refl _|refine grown_alloc ?_ _|refine grown_drew ?_))).calls) rfl (yrow_at (n,c) (heap_alloc_new _ _)) (by simp;omega) _ rfl ?_;intro p' cap' w1 ha;obtain⟨d0,y0⟩:=RMem.boxC (HH.out.grown (by repeat (first|exact grown_refl _|refine grown_alloc ?_ _|refine grown_drew ?_))) ha;have HA:=Lib.hid ha;clear ha)
   all_goals
    go_wp2
    first|go_end0|refine bodyPost_ret (results_none rfl _ _ _) rfl ?_
    refine⟨rfl,?_⟩
    rw[mput_miss c HNO.out HGE.out]
    exact RAt.appC (grown_trans HG.out (grown_trans hg2 (by repeat (first|exact grown_refl _|refine grown_alloc ?_ _|refine grown_drew ?_)))) HBS.out (HH.out.grown (by repeat (first|exact grown_refl _|refine grown_alloc ?_ _|refine grown_drew ?_))) HA.out
set_option maxHeartbeats 4000000 in
set_option maxRecDepth 100000 in
theorem rput_value (h:RAt bs W rb R) (hbs:∀k,W.heap.size≤k→bs k) (n:ByteArray) (c:Val) (hl:R.vals.length≤100000000):Calls Tryz.prog 121 #[.pointer (some ⟨rb,0,none⟩),encRVal n c] W fun e w'=>e = .returned (.tuple #[])∧RAt bs w' rb { R with vals:=mput R.vals n c }∧Turn bs W w':=by
 obtain⟨vL,vC,vV,vP,vH,h,hb1,hb2,hb3,hb4,hb5,hb6⟩:=h
 obtain⟨i0,hi,hz0,hz1,hz2⟩:=info_parts infoV
 obtain⟨p,cap,rfl,hcap,hlc⟩:=h.vals.form
 have HBS:Hid (Among bs W rb vL vC (.slice p R.vals.length cap) vP vH):=(show Among bs W rb vL vC (.slice p R.vals.length cap) vP vH from ⟨hb1,hb2,hb3,hb4,hb5,hb6,hbs⟩)
 clear hb1 hb2 hb3 hb4 hb5 hb6 hbs
 have HR:=Lib.hid (h.grown (World.grownBy_alloc W (.cells #[.string n,.int .i64 c.ver,.bool c.dead] 202) none))
 have HB:=Lib.hid (heap_alloc_new W (.cells #[.string n,.int .i64 c.ver,.bool c.dead] 202))
 have HG:=Lib.hid (World.grownBy_alloc W (.cells #[.string n,.int .i64 c.ver,.bool c.dead] 202) none)
 clear h
 simp only[encRVal]
 go_enter Tryz.func121,Tryz.ntmps121
 go_wp2
 generalize W.alloc (.cells #[.string n,.int .i64 c.ver,.bool c.dead] 202)=W2 at *
 go_loopw [4] (fun x wr=>∃k:Nat,k≤R.vals.length∧x = .int .i64 k∧NoneB (fun p:ByteArray × Val=>decide (p.1=n)) R.vals k∧W2.grownBy wr none) (fun x _=>R.vals.length-(intOf x).toNat)
 case atStart=>exact⟨0,Nat.zero_le _,rfl,noneB_zero,grown_refl _⟩
 case round=>
  obtain⟨k,hk,rfl,hno,hg2⟩:=hrel
  have hR:=HR.out.grown hg2
  have c6:=hR.c6
  have zb:=hR.free 6
  have hrb:=hR.lt
  have HNO:=Lib.hid hno
  have b:=(hg2.block W.heap.size (Array.getElem?_eq_some_iff.1 HB.out).1 (by simp)).trans HB.out
  have b0:wr.cell? ⟨W.heap.size,0,none⟩=some (.string n):=(cell_block b 0).trans rfl
  have b1:wr.cell? ⟨W.heap.size,1,none⟩=some (.int .i64 c.ver):=(cell_block b 1).trans rfl
  have b2:wr.cell? ⟨W.heap.size,2,none⟩=some (.bool c.dead):=(cell_block b 2).trans rfl
  clear hno b
  by_cases hlt:k<R.vals.length
  ·obtain⟨g,cap',hv',hc,hfz⟩:=(hR.vals.at lenV).resolve_left (fun e=>by rw[e] at hlt;simp at hlt)
   injection hv' with hv1 hv2 hv3
   subst hv1 hv3
   have e0:wr.cell? ⟨g,k*3,none⟩=some (.string R.vals[k].1):=hc k hlt 0 _ rfl
   have HH:=Lib.hid hR
   by_cases hi:R.vals[k].1=n
   ·have e1:wr.cell? ⟨g,k*3+1,none⟩=some (.int .i64 R.vals[k].2.ver):=hc k hlt 1 _ rfl
    have e2:wr.cell? ⟨g,k*3+2,none⟩=some (.bool R.vals[k].2.dead):=hc k hlt 2 _ rfl
    have z0:=hfz (k*3)
    have z1:=hfz (k*3+1)
    have z2:=hfz (k*3+2)
    have hd:(R.vals[k].1.toList == n.toList)=true:=by rw[hi];simp
    have HI:=Lib.hid hi
    clear hR hv2 hc hfz hi
    go_wp2
    go_quiet (fail)
    go_wp2
    go_region
    all_goals
     go_wp2
     refine bodyPost_ret (results_none rfl _ _ _) rfl ⟨rfl,?_⟩
     rw[mput_hit c HNO.out hlt HI.out]
     have hp:=(HH.out.grown (grown_drewN wr (nq+1))).vals.put lenV (n,c) k hlt
     exact RAt.putV (grown_trans HG.out (grown_trans hg2 (grown_drewN _ _))) HBS.out (HH.out.grown (grown_drewN wr (nq+1))) hp.1 hp.2
   ·have hd:(R.vals[k].1.toList == n.toList)=false:=by rw[toList_eq_iff];simpa using hi
    have HI:=Lib.hid hi
    clear hR hv2 hc hfz hi
    go_wp2
    go_quiet (fail)
    go_wp2
    go_roundw
    case rel=>exact⟨k+1,by omega,by go_num,HNO.out.step hlt (by simpa using HI.out),grown_trans hg2 (grown_drewN _ _)⟩
    case measure=>simp[intOf];omega
  ·have hge:R.vals.length≤k:=by omega
   have HGE:=Lib.hid hge
   have HH:=Lib.hid hR
   clear hR hge
   go_wp2
   go_region_law (refine step_sapp rfl _ _ 48 rfl lenV oneV i0 _ 32 Tryz.underlying48 hi hz0 hz1 hz2 rfl (by decide) (by decide) (l:=R.vals) (m:=[(n,c)]) rfl ((HH.out.grown (by repeat (first|exact grown_refl _|refine grown_alloc ?_ _|refine grown_drew ?_))).vals) rfl (yrow_at (n,c) (heap_alloc_new _ _)) (by simp;omega) _ rfl ?_;intro p' cap' w1 ha;obtain⟨d0,y0⟩:=RMem.boxV (HH.out.grown (by repeat (first|exact grown_refl _|refine grown_alloc ?_ _|refine grown_drew ?_))) ha;have HA:=Lib.hid ha;clear ha)
   all_goals
    go_wp2
    first|go_end0|refine bodyPost_ret (results_none rfl _ _ _) rfl ?_
    refine⟨rfl,?_⟩
    rw[mput_miss c HNO.out HGE.out]
    exact RAt.appV (grown_trans HG.out (grown_trans hg2 (by repeat (first|exact grown_refl _|refine grown_alloc ?_ _|refine grown_drew ?_)))) HBS.out (HH.out.grown (by repeat (first|exact grown_refl _|refine grown_alloc ?_ _|refine grown_drew ?_))) HA.out
end
end Go.Proofs.YtjfelfjobeeenaaGreat
