/- The document's table: one of its rows is another one. Conditions: none. -/
import Derived.Test.YtjfelfjobeeenaaGreatQ14
namespace Go.Proofs.YtjfelfjobeeenaaGreat
open Go.RowKit Go.Sf Go.Shelf
set_option linter.unusedVariables false
theorem heap_set_ne (w : World) (p : Addr) (v : Value) (k : Nat) (h : k ≠ p.block) : (w.setCell p v).heap[k]? = w.heap[k]? := Below.heap_setCell w p v k h
theorem heap_set_eq {w : World} {b i : Nat} {c : Array Value} {t : TypeId} {fr : Nat × Nat} (h : w.heap[b]? = some (.cells c t fr)) (v : Value) : (w.setCell ⟨b, i, none⟩ v).heap[b]? = some (.cells (c.setIfInBounds i v) t fr) := by
  simp [World.setCell, Array.getElem?_modify, h]
/-- two rows of unlike elements lie in two blocks -/
theorem two_rows {W : World} {α β : Type} {E F : TypeId} {m n : Nat} {ea : α → List Value} {eb : β → List Value} {u v : Value} {l : List α} {k : List β} (h : SRow W E m ea u l) (h2 : SRow W F n eb v k) (hne : E ≠ F) {g : Nat} (hg : u.ownBlock = some g) : v.ownBlock ≠ some g := by
  obtain ⟨c, hc⟩ := h.kind hg
  exact own_ne h2 hc hne.symm
section
variable {W w1 : World} {rb : Nat} {R : RTab} {vL vC vV vP vH v' : Value}
theorem RMem.putL (h : RMem W rb R vL vC vV vP vH) {l : List Int} (hs : SRow w1 2 1 cellsI vL l) (hg : W.grownBy w1 vL.ownBlock) : RMem w1 rb { R with lives := l } vL vC vV vP vH := by
  have hb : vL.ownBlock ≠ some rb := own_ne h.lives h.box (by decide)
  refine ⟨(hg.block rb h.lt (fun e => hb e.symm)).trans h.box, hs, h.calls.same fun g hg2 => hg.block g (h.calls.lt hg2) (fun e => two_rows h.calls h.lives (by decide) hg2 e.symm), h.vals.same fun g hg2 => hg.block g (h.vals.lt hg2) (fun e => two_rows h.vals h.lives (by decide) hg2 e.symm), h.pends.same fun g hg2 => hg.block g (h.pends.lt hg2) (fun e => two_rows h.pends h.lives (by decide) hg2 e.symm), h.holds.same fun g hg2 => hg.block g (h.holds.lt hg2) (fun e => two_rows h.holds h.lives (by decide) hg2 e.symm)⟩
theorem RMem.appL (h : RMem W rb R vL vC vV vP vH) {l : List Int} (ha : Apped W 2 1 cellsI vL l v' w1) : RMem (w1.setCell ⟨rb, 4, none⟩ v') rb { R with lives := l } v' vC vV vP vH ∧ Turn (fun k => k = rb ∨ vL.ownBlock = some k) W (w1.setCell ⟨rb, 4, none⟩ v') ∧ (∀ g, v'.ownBlock = some g → vL.ownBlock = some g ∨ W.heap.size ≤ g) := by
  obtain ⟨h1, hg, h3⟩ := ha
  have hb : vL.ownBlock ≠ some rb := own_ne h.lives h.box (by decide)
  have hbox : w1.heap[rb]? = _ := (hg.block rb h.lt (fun e => hb e.symm)).trans h.box
  have hb' : v'.ownBlock ≠ some rb := own_ne h1 hbox (by decide)
  refine ⟨⟨?_, ?_, ?_, ?_, ?_, ?_⟩, ⟨hg.os, hg.tape, hg.output, Nat.le_trans hg.size (by simp [World.setCell]), fun k hk hn => ?_⟩, fun g hg2 => ?_⟩
  · exact (heap_set_eq hbox v').trans rfl
  · exact h1.same fun g hg2 => heap_set_ne w1 _ _ g (fun e => hb' (by rw [hg2]; exact congrArg some e))
  · exact h.calls.same fun g hg2 => (heap_set_ne w1 _ _ g (fun e => own_ne h.calls h.box (by decide) (by rw [hg2]; exact congrArg some e))).trans (hg.block g (h.calls.lt hg2) (fun e => two_rows h.calls h.lives (by decide) hg2 e.symm))
  · exact h.vals.same fun g hg2 => (heap_set_ne w1 _ _ g (fun e => own_ne h.vals h.box (by decide) (by rw [hg2]; exact congrArg some e))).trans (hg.block g (h.vals.lt hg2) (fun e => two_rows h.vals h.lives (by decide) hg2 e.symm))
  · exact h.pends.same fun g hg2 => (heap_set_ne w1 _ _ g (fun e => own_ne h.pends h.box (by decide) (by rw [hg2]; exact congrArg some e))).trans (hg.block g (h.pends.lt hg2) (fun e => two_rows h.pends h.lives (by decide) hg2 e.symm))
  · exact h.holds.same fun g hg2 => (heap_set_ne w1 _ _ g (fun e => own_ne h.holds h.box (by decide) (by rw [hg2]; exact congrArg some e))).trans (hg.block g (h.holds.lt hg2) (fun e => two_rows h.holds h.lives (by decide) hg2 e.symm))
  · exact (heap_set_ne w1 _ _ k (fun e => hn (Or.inl e))).trans (hg.block k hk (fun e => hn (Or.inr e.symm)))
  · rcases h3 with e | e
    · exact Or.inl (e ▸ hg2)
    · rw [e] at hg2; cases hg2; exact Or.inr (Nat.le_refl _)
theorem RMem.putC (h : RMem W rb R vL vC vV vP vH) {l : List (Int × CallT)} (hs : SRow w1 193 5 cellsC vC l) (hg : W.grownBy w1 vC.ownBlock) : RMem w1 rb { R with calls := l } vL vC vV vP vH := by
  have hb : vC.ownBlock ≠ some rb := own_ne h.calls h.box (by decide)
  refine ⟨(hg.block rb h.lt (fun e => hb e.symm)).trans h.box, h.lives.same fun g hg2 => hg.block g (h.lives.lt hg2) (fun e => two_rows h.lives h.calls (by decide) hg2 e.symm), hs, h.vals.same fun g hg2 => hg.block g (h.vals.lt hg2) (fun e => two_rows h.vals h.calls (by decide) hg2 e.symm), h.pends.same fun g hg2 => hg.block g (h.pends.lt hg2) (fun e => two_rows h.pends h.calls (by decide) hg2 e.symm), h.holds.same fun g hg2 => hg.block g (h.holds.lt hg2) (fun e => two_rows h.holds h.calls (by decide) hg2 e.symm)⟩
theorem RMem.appC (h : RMem W rb R vL vC vV vP vH) {l : List (Int × CallT)} (ha : Apped W 193 5 cellsC vC l v' w1) : RMem (w1.setCell ⟨rb, 5, none⟩ v') rb { R with calls := l } vL v' vV vP vH ∧ Turn (fun k => k = rb ∨ vC.ownBlock = some k) W (w1.setCell ⟨rb, 5, none⟩ v') ∧ (∀ g, v'.ownBlock = some g → vC.ownBlock = some g ∨ W.heap.size ≤ g) := by
  obtain ⟨h1, hg, h3⟩ := ha
  have hb : vC.ownBlock ≠ some rb := own_ne h.calls h.box (by decide)
  have hbox : w1.heap[rb]? = _ := (hg.block rb h.lt (fun e => hb e.symm)).trans h.box
  have hb' : v'.ownBlock ≠ some rb := own_ne h1 hbox (by decide)
  refine ⟨⟨?_, ?_, ?_, ?_, ?_, ?_⟩, ⟨hg.os, hg.tape, hg.output, Nat.le_trans hg.size (by simp [World.setCell]), fun k hk hn => ?_⟩, fun g hg2 => ?_⟩
  · exact (heap_set_eq hbox v').trans rfl
  · exact h.lives.same fun g hg2 => (heap_set_ne w1 _ _ g (fun e => own_ne h.lives h.box (by decide) (by rw [hg2]; exact congrArg some e))).trans (hg.block g (h.lives.lt hg2) (fun e => two_rows h.lives h.calls (by decide) hg2 e.symm))
  · exact h1.same fun g hg2 => heap_set_ne w1 _ _ g (fun e => hb' (by rw [hg2]; exact congrArg some e))
  · exact h.vals.same fun g hg2 => (heap_set_ne w1 _ _ g (fun e => own_ne h.vals h.box (by decide) (by rw [hg2]; exact congrArg some e))).trans (hg.block g (h.vals.lt hg2) (fun e => two_rows h.vals h.calls (by decide) hg2 e.symm))
  · exact h.pends.same fun g hg2 => (heap_set_ne w1 _ _ g (fun e => own_ne h.pends h.box (by decide) (by rw [hg2]; exact congrArg some e))).trans (hg.block g (h.pends.lt hg2) (fun e => two_rows h.pends h.calls (by decide) hg2 e.symm))
  · exact h.holds.same fun g hg2 => (heap_set_ne w1 _ _ g (fun e => own_ne h.holds h.box (by decide) (by rw [hg2]; exact congrArg some e))).trans (hg.block g (h.holds.lt hg2) (fun e => two_rows h.holds h.calls (by decide) hg2 e.symm))
  · exact (heap_set_ne w1 _ _ k (fun e => hn (Or.inl e))).trans (hg.block k hk (fun e => hn (Or.inr e.symm)))
  · rcases h3 with e | e
    · exact Or.inl (e ▸ hg2)
    · rw [e] at hg2; cases hg2; exact Or.inr (Nat.le_refl _)
theorem RMem.putV (h : RMem W rb R vL vC vV vP vH) {l : List (ByteArray × Val)} (hs : SRow w1 202 3 cellsV vV l) (hg : W.grownBy w1 vV.ownBlock) : RMem w1 rb { R with vals := l } vL vC vV vP vH := by
  have hb : vV.ownBlock ≠ some rb := own_ne h.vals h.box (by decide)
  refine ⟨(hg.block rb h.lt (fun e => hb e.symm)).trans h.box, h.lives.same fun g hg2 => hg.block g (h.lives.lt hg2) (fun e => two_rows h.lives h.vals (by decide) hg2 e.symm), h.calls.same fun g hg2 => hg.block g (h.calls.lt hg2) (fun e => two_rows h.calls h.vals (by decide) hg2 e.symm), hs, h.pends.same fun g hg2 => hg.block g (h.pends.lt hg2) (fun e => two_rows h.pends h.vals (by decide) hg2 e.symm), h.holds.same fun g hg2 => hg.block g (h.holds.lt hg2) (fun e => two_rows h.holds h.vals (by decide) hg2 e.symm)⟩
theorem RMem.appV (h : RMem W rb R vL vC vV vP vH) {l : List (ByteArray × Val)} (ha : Apped W 202 3 cellsV vV l v' w1) : RMem (w1.setCell ⟨rb, 6, none⟩ v') rb { R with vals := l } vL vC v' vP vH ∧ Turn (fun k => k = rb ∨ vV.ownBlock = some k) W (w1.setCell ⟨rb, 6, none⟩ v') ∧ (∀ g, v'.ownBlock = some g → vV.ownBlock = some g ∨ W.heap.size ≤ g) := by
  obtain ⟨h1, hg, h3⟩ := ha
  have hb : vV.ownBlock ≠ some rb := own_ne h.vals h.box (by decide)
  have hbox : w1.heap[rb]? = _ := (hg.block rb h.lt (fun e => hb e.symm)).trans h.box
  have hb' : v'.ownBlock ≠ some rb := own_ne h1 hbox (by decide)
  refine ⟨⟨?_, ?_, ?_, ?_, ?_, ?_⟩, ⟨hg.os, hg.tape, hg.output, Nat.le_trans hg.size (by simp [World.setCell]), fun k hk hn => ?_⟩, fun g hg2 => ?_⟩
  · exact (heap_set_eq hbox v').trans rfl
  · exact h.lives.same fun g hg2 => (heap_set_ne w1 _ _ g (fun e => own_ne h.lives h.box (by decide) (by rw [hg2]; exact congrArg some e))).trans (hg.block g (h.lives.lt hg2) (fun e => two_rows h.lives h.vals (by decide) hg2 e.symm))
  · exact h.calls.same fun g hg2 => (heap_set_ne w1 _ _ g (fun e => own_ne h.calls h.box (by decide) (by rw [hg2]; exact congrArg some e))).trans (hg.block g (h.calls.lt hg2) (fun e => two_rows h.calls h.vals (by decide) hg2 e.symm))
  · exact h1.same fun g hg2 => heap_set_ne w1 _ _ g (fun e => hb' (by rw [hg2]; exact congrArg some e))
  · exact h.pends.same fun g hg2 => (heap_set_ne w1 _ _ g (fun e => own_ne h.pends h.box (by decide) (by rw [hg2]; exact congrArg some e))).trans (hg.block g (h.pends.lt hg2) (fun e => two_rows h.pends h.vals (by decide) hg2 e.symm))
  · exact h.holds.same fun g hg2 => (heap_set_ne w1 _ _ g (fun e => own_ne h.holds h.box (by decide) (by rw [hg2]; exact congrArg some e))).trans (hg.block g (h.holds.lt hg2) (fun e => two_rows h.holds h.vals (by decide) hg2 e.symm))
  · exact (heap_set_ne w1 _ _ k (fun e => hn (Or.inl e))).trans (hg.block k hk (fun e => hn (Or.inr e.symm)))
  · rcases h3 with e | e
    · exact Or.inl (e ▸ hg2)
    · rw [e] at hg2; cases hg2; exact Or.inr (Nat.le_refl _)
theorem RMem.putP (h : RMem W rb R vL vC vV vP vH) {l : List (ID × Pend)} (hs : SRow w1 190 4 cellsP vP l) (hg : W.grownBy w1 vP.ownBlock) : RMem w1 rb { R with pends := l } vL vC vV vP vH := by
  have hb : vP.ownBlock ≠ some rb := own_ne h.pends h.box (by decide)
  refine ⟨(hg.block rb h.lt (fun e => hb e.symm)).trans h.box, h.lives.same fun g hg2 => hg.block g (h.lives.lt hg2) (fun e => two_rows h.lives h.pends (by decide) hg2 e.symm), h.calls.same fun g hg2 => hg.block g (h.calls.lt hg2) (fun e => two_rows h.calls h.pends (by decide) hg2 e.symm), h.vals.same fun g hg2 => hg.block g (h.vals.lt hg2) (fun e => two_rows h.vals h.pends (by decide) hg2 e.symm), hs, h.holds.same fun g hg2 => hg.block g (h.holds.lt hg2) (fun e => two_rows h.holds h.pends (by decide) hg2 e.symm)⟩
theorem RMem.appP (h : RMem W rb R vL vC vV vP vH) {l : List (ID × Pend)} (ha : Apped W 190 4 cellsP vP l v' w1) : RMem (w1.setCell ⟨rb, 7, none⟩ v') rb { R with pends := l } vL vC vV v' vH ∧ Turn (fun k => k = rb ∨ vP.ownBlock = some k) W (w1.setCell ⟨rb, 7, none⟩ v') ∧ (∀ g, v'.ownBlock = some g → vP.ownBlock = some g ∨ W.heap.size ≤ g) := by
  obtain ⟨h1, hg, h3⟩ := ha
  have hb : vP.ownBlock ≠ some rb := own_ne h.pends h.box (by decide)
  have hbox : w1.heap[rb]? = _ := (hg.block rb h.lt (fun e => hb e.symm)).trans h.box
  have hb' : v'.ownBlock ≠ some rb := own_ne h1 hbox (by decide)
  refine ⟨⟨?_, ?_, ?_, ?_, ?_, ?_⟩, ⟨hg.os, hg.tape, hg.output, Nat.le_trans hg.size (by simp [World.setCell]), fun k hk hn => ?_⟩, fun g hg2 => ?_⟩
  · exact (heap_set_eq hbox v').trans rfl
  · exact h.lives.same fun g hg2 => (heap_set_ne w1 _ _ g (fun e => own_ne h.lives h.box (by decide) (by rw [hg2]; exact congrArg some e))).trans (hg.block g (h.lives.lt hg2) (fun e => two_rows h.lives h.pends (by decide) hg2 e.symm))
  · exact h.calls.same fun g hg2 => (heap_set_ne w1 _ _ g (fun e => own_ne h.calls h.box (by decide) (by rw [hg2]; exact congrArg some e))).trans (hg.block g (h.calls.lt hg2) (fun e => two_rows h.calls h.pends (by decide) hg2 e.symm))
  · exact h.vals.same fun g hg2 => (heap_set_ne w1 _ _ g (fun e => own_ne h.vals h.box (by decide) (by rw [hg2]; exact congrArg some e))).trans (hg.block g (h.vals.lt hg2) (fun e => two_rows h.vals h.pends (by decide) hg2 e.symm))
  · exact h1.same fun g hg2 => heap_set_ne w1 _ _ g (fun e => hb' (by rw [hg2]; exact congrArg some e))
  · exact h.holds.same fun g hg2 => (heap_set_ne w1 _ _ g (fun e => own_ne h.holds h.box (by decide) (by rw [hg2]; exact congrArg some e))).trans (hg.block g (h.holds.lt hg2) (fun e => two_rows h.holds h.pends (by decide) hg2 e.symm))
  · exact (heap_set_ne w1 _ _ k (fun e => hn (Or.inl e))).trans (hg.block k hk (fun e => hn (Or.inr e.symm)))
  · rcases h3 with e | e
    · exact Or.inl (e ▸ hg2)
    · rw [e] at hg2; cases hg2; exact Or.inr (Nat.le_refl _)
theorem RMem.putH (h : RMem W rb R vL vC vV vP vH) {l : List RHold} (hs : SRow w1 197 5 cellsH vH l) (hg : W.grownBy w1 vH.ownBlock) : RMem w1 rb { R with holds := l } vL vC vV vP vH := by
  have hb : vH.ownBlock ≠ some rb := own_ne h.holds h.box (by decide)
  refine ⟨(hg.block rb h.lt (fun e => hb e.symm)).trans h.box, h.lives.same fun g hg2 => hg.block g (h.lives.lt hg2) (fun e => two_rows h.lives h.holds (by decide) hg2 e.symm), h.calls.same fun g hg2 => hg.block g (h.calls.lt hg2) (fun e => two_rows h.calls h.holds (by decide) hg2 e.symm), h.vals.same fun g hg2 => hg.block g (h.vals.lt hg2) (fun e => two_rows h.vals h.holds (by decide) hg2 e.symm), h.pends.same fun g hg2 => hg.block g (h.pends.lt hg2) (fun e => two_rows h.pends h.holds (by decide) hg2 e.symm), hs⟩
theorem RMem.appH (h : RMem W rb R vL vC vV vP vH) {l : List RHold} (ha : Apped W 197 5 cellsH vH l v' w1) : RMem (w1.setCell ⟨rb, 8, none⟩ v') rb { R with holds := l } vL vC vV vP v' ∧ Turn (fun k => k = rb ∨ vH.ownBlock = some k) W (w1.setCell ⟨rb, 8, none⟩ v') ∧ (∀ g, v'.ownBlock = some g → vH.ownBlock = some g ∨ W.heap.size ≤ g) := by
  obtain ⟨h1, hg, h3⟩ := ha
  have hb : vH.ownBlock ≠ some rb := own_ne h.holds h.box (by decide)
  have hbox : w1.heap[rb]? = _ := (hg.block rb h.lt (fun e => hb e.symm)).trans h.box
  have hb' : v'.ownBlock ≠ some rb := own_ne h1 hbox (by decide)
  refine ⟨⟨?_, ?_, ?_, ?_, ?_, ?_⟩, ⟨hg.os, hg.tape, hg.output, Nat.le_trans hg.size (by simp [World.setCell]), fun k hk hn => ?_⟩, fun g hg2 => ?_⟩
  · exact (heap_set_eq hbox v').trans rfl
  · exact h.lives.same fun g hg2 => (heap_set_ne w1 _ _ g (fun e => own_ne h.lives h.box (by decide) (by rw [hg2]; exact congrArg some e))).trans (hg.block g (h.lives.lt hg2) (fun e => two_rows h.lives h.holds (by decide) hg2 e.symm))
  · exact h.calls.same fun g hg2 => (heap_set_ne w1 _ _ g (fun e => own_ne h.calls h.box (by decide) (by rw [hg2]; exact congrArg some e))).trans (hg.block g (h.calls.lt hg2) (fun e => two_rows h.calls h.holds (by decide) hg2 e.symm))
  · exact h.vals.same fun g hg2 => (heap_set_ne w1 _ _ g (fun e => own_ne h.vals h.box (by decide) (by rw [hg2]; exact congrArg some e))).trans (hg.block g (h.vals.lt hg2) (fun e => two_rows h.vals h.holds (by decide) hg2 e.symm))
  · exact h.pends.same fun g hg2 => (heap_set_ne w1 _ _ g (fun e => own_ne h.pends h.box (by decide) (by rw [hg2]; exact congrArg some e))).trans (hg.block g (h.pends.lt hg2) (fun e => two_rows h.pends h.holds (by decide) hg2 e.symm))
  · exact h1.same fun g hg2 => heap_set_ne w1 _ _ g (fun e => hb' (by rw [hg2]; exact congrArg some e))
  · exact (heap_set_ne w1 _ _ k (fun e => hn (Or.inl e))).trans (hg.block k hk (fun e => hn (Or.inr e.symm)))
  · rcases h3 with e | e
    · exact Or.inl (e ▸ hg2)
    · rw [e] at hg2; cases hg2; exact Or.inr (Nat.le_refl _)
/-- which blocks a table has -/
def Among (bs : Nat → Prop) (W : World) (rb : Nat) (vL vC vV vP vH : Value) : Prop := bs rb ∧ (∀ g, vL.ownBlock = some g → bs g) ∧ (∀ g, vC.ownBlock = some g → bs g) ∧ (∀ g, vV.ownBlock = some g → bs g) ∧ (∀ g, vP.ownBlock = some g → bs g) ∧ (∀ g, vH.ownBlock = some g → bs g) ∧ ∀ k, W.heap.size ≤ k → bs k
theorem Among.grown {bs : Nat → Prop} (h : Among bs W rb vL vC vV vP vH) (hg : W.heap.size ≤ w1.heap.size) : Among bs w1 rb vL vC vV vP vH :=
  ⟨h.1, h.2.1, h.2.2.1, h.2.2.2.1, h.2.2.2.2.1, h.2.2.2.2.2.1, fun k hk => h.2.2.2.2.2.2 k (Nat.le_trans hg hk)⟩
theorem turn_then {bs : Nat → Prop} {a b c : World} (h : a.grownBy b none) (g : Turn bs b c) : Turn bs a c :=
  ⟨g.os.trans h.os, g.tape.trans h.tape, g.output.trans h.output, Nat.le_trans h.size g.size, fun k hk hn => (g.block k (Nat.lt_of_lt_of_le hk h.size) hn).trans (h.block k hk (by simp))⟩
theorem RMem.boxL (h : RMem W rb R vL vC vV vP vH) {l : List Int} (ha : Apped W 2 1 cellsI vL l v' w1) : w1.cell? ⟨rb, 4, none⟩ = some vL ∧ w1.frozen? ⟨rb, 4, none⟩ = false := by
  have hb : vL.ownBlock ≠ some rb := own_ne h.lives h.box (by decide)
  have hbox := (ha.2.1.block rb h.lt (fun e => hb e.symm)).trans h.box
  exact ⟨(cell_block hbox 4).trans rfl, free_block hbox 4⟩
theorem RAt.appL {bs : Nat → Prop} {W0 : World} (hg : W0.grownBy W none) (hA : Among bs W0 rb vL vC vV vP vH) (h : RMem W rb R vL vC vV vP vH) {l : List Int} (ha : Apped W 2 1 cellsI vL l v' w1) : RAt bs (w1.setCell ⟨rb, 4, none⟩ v') rb { R with lives := l } ∧ Turn bs W0 (w1.setCell ⟨rb, 4, none⟩ v') := by
  obtain ⟨h1, h2, h3⟩ := h.appL ha
  obtain ⟨a0, aL, aC, aV, aP, aH, aN⟩ := hA.grown hg.size
  refine ⟨⟨v', vC, vV, vP, vH, h1, a0, ?_, aC, aV, aP, aH⟩, turn_then hg (h2.mono fun k hk => ?_)⟩
  · intro g hg2
    rcases h3 g hg2 with e | e
    · exact aL g e
    · exact aN g e
  · rcases hk with rfl | e
    · exact a0
    · exact aL k e
theorem RAt.putL {bs : Nat → Prop} {W0 : World} (hg : W0.grownBy W none) (hA : Among bs W0 rb vL vC vV vP vH) (h : RMem W rb R vL vC vV vP vH) {l : List Int} (hs : SRow w1 2 1 cellsI vL l) (hg2 : W.grownBy w1 vL.ownBlock) : RAt bs w1 rb { R with lives := l } ∧ Turn bs W0 w1 := by
  obtain ⟨a0, aL, aC, aV, aP, aH, aN⟩ := hA.grown hg.size
  exact ⟨⟨vL, vC, vV, vP, vH, h.putL hs hg2, a0, aL, aC, aV, aP, aH⟩, turn_then hg ⟨hg2.os, hg2.tape, hg2.output, hg2.size, fun k hk hn => hg2.block k hk (fun e => hn (aL k e.symm))⟩⟩
theorem RMem.boxC (h : RMem W rb R vL vC vV vP vH) {l : List (Int × CallT)} (ha : Apped W 193 5 cellsC vC l v' w1) : w1.cell? ⟨rb, 5, none⟩ = some vC ∧ w1.frozen? ⟨rb, 5, none⟩ = false := by
  have hb : vC.ownBlock ≠ some rb := own_ne h.calls h.box (by decide)
  have hbox := (ha.2.1.block rb h.lt (fun e => hb e.symm)).trans h.box
  exact ⟨(cell_block hbox 5).trans rfl, free_block hbox 5⟩
theorem RAt.appC {bs : Nat → Prop} {W0 : World} (hg : W0.grownBy W none) (hA : Among bs W0 rb vL vC vV vP vH) (h : RMem W rb R vL vC vV vP vH) {l : List (Int × CallT)} (ha : Apped W 193 5 cellsC vC l v' w1) : RAt bs (w1.setCell ⟨rb, 5, none⟩ v') rb { R with calls := l } ∧ Turn bs W0 (w1.setCell ⟨rb, 5, none⟩ v') := by
  obtain ⟨h1, h2, h3⟩ := h.appC ha
  obtain ⟨a0, aL, aC, aV, aP, aH, aN⟩ := hA.grown hg.size
  refine ⟨⟨vL, v', vV, vP, vH, h1, a0, aL, ?_, aV, aP, aH⟩, turn_then hg (h2.mono fun k hk => ?_)⟩
  · intro g hg2
    rcases h3 g hg2 with e | e
    · exact aC g e
    · exact aN g e
  · rcases hk with rfl | e
    · exact a0
    · exact aC k e
theorem RAt.putC {bs : Nat → Prop} {W0 : World} (hg : W0.grownBy W none) (hA : Among bs W0 rb vL vC vV vP vH) (h : RMem W rb R vL vC vV vP vH) {l : List (Int × CallT)} (hs : SRow w1 193 5 cellsC vC l) (hg2 : W.grownBy w1 vC.ownBlock) : RAt bs w1 rb { R with calls := l } ∧ Turn bs W0 w1 := by
  obtain ⟨a0, aL, aC, aV, aP, aH, aN⟩ := hA.grown hg.size
  exact ⟨⟨vL, vC, vV, vP, vH, h.putC hs hg2, a0, aL, aC, aV, aP, aH⟩, turn_then hg ⟨hg2.os, hg2.tape, hg2.output, hg2.size, fun k hk hn => hg2.block k hk (fun e => hn (aC k e.symm))⟩⟩
theorem RMem.boxV (h : RMem W rb R vL vC vV vP vH) {l : List (ByteArray × Val)} (ha : Apped W 202 3 cellsV vV l v' w1) : w1.cell? ⟨rb, 6, none⟩ = some vV ∧ w1.frozen? ⟨rb, 6, none⟩ = false := by
  have hb : vV.ownBlock ≠ some rb := own_ne h.vals h.box (by decide)
  have hbox := (ha.2.1.block rb h.lt (fun e => hb e.symm)).trans h.box
  exact ⟨(cell_block hbox 6).trans rfl, free_block hbox 6⟩
theorem RAt.appV {bs : Nat → Prop} {W0 : World} (hg : W0.grownBy W none) (hA : Among bs W0 rb vL vC vV vP vH) (h : RMem W rb R vL vC vV vP vH) {l : List (ByteArray × Val)} (ha : Apped W 202 3 cellsV vV l v' w1) : RAt bs (w1.setCell ⟨rb, 6, none⟩ v') rb { R with vals := l } ∧ Turn bs W0 (w1.setCell ⟨rb, 6, none⟩ v') := by
  obtain ⟨h1, h2, h3⟩ := h.appV ha
  obtain ⟨a0, aL, aC, aV, aP, aH, aN⟩ := hA.grown hg.size
  refine ⟨⟨vL, vC, v', vP, vH, h1, a0, aL, aC, ?_, aP, aH⟩, turn_then hg (h2.mono fun k hk => ?_)⟩
  · intro g hg2
    rcases h3 g hg2 with e | e
    · exact aV g e
    · exact aN g e
  · rcases hk with rfl | e
    · exact a0
    · exact aV k e
theorem RAt.putV {bs : Nat → Prop} {W0 : World} (hg : W0.grownBy W none) (hA : Among bs W0 rb vL vC vV vP vH) (h : RMem W rb R vL vC vV vP vH) {l : List (ByteArray × Val)} (hs : SRow w1 202 3 cellsV vV l) (hg2 : W.grownBy w1 vV.ownBlock) : RAt bs w1 rb { R with vals := l } ∧ Turn bs W0 w1 := by
  obtain ⟨a0, aL, aC, aV, aP, aH, aN⟩ := hA.grown hg.size
  exact ⟨⟨vL, vC, vV, vP, vH, h.putV hs hg2, a0, aL, aC, aV, aP, aH⟩, turn_then hg ⟨hg2.os, hg2.tape, hg2.output, hg2.size, fun k hk hn => hg2.block k hk (fun e => hn (aV k e.symm))⟩⟩
theorem RMem.boxP (h : RMem W rb R vL vC vV vP vH) {l : List (ID × Pend)} (ha : Apped W 190 4 cellsP vP l v' w1) : w1.cell? ⟨rb, 7, none⟩ = some vP ∧ w1.frozen? ⟨rb, 7, none⟩ = false := by
  have hb : vP.ownBlock ≠ some rb := own_ne h.pends h.box (by decide)
  have hbox := (ha.2.1.block rb h.lt (fun e => hb e.symm)).trans h.box
  exact ⟨(cell_block hbox 7).trans rfl, free_block hbox 7⟩
theorem RAt.appP {bs : Nat → Prop} {W0 : World} (hg : W0.grownBy W none) (hA : Among bs W0 rb vL vC vV vP vH) (h : RMem W rb R vL vC vV vP vH) {l : List (ID × Pend)} (ha : Apped W 190 4 cellsP vP l v' w1) : RAt bs (w1.setCell ⟨rb, 7, none⟩ v') rb { R with pends := l } ∧ Turn bs W0 (w1.setCell ⟨rb, 7, none⟩ v') := by
  obtain ⟨h1, h2, h3⟩ := h.appP ha
  obtain ⟨a0, aL, aC, aV, aP, aH, aN⟩ := hA.grown hg.size
  refine ⟨⟨vL, vC, vV, v', vH, h1, a0, aL, aC, aV, ?_, aH⟩, turn_then hg (h2.mono fun k hk => ?_)⟩
  · intro g hg2
    rcases h3 g hg2 with e | e
    · exact aP g e
    · exact aN g e
  · rcases hk with rfl | e
    · exact a0
    · exact aP k e
theorem RAt.putP {bs : Nat → Prop} {W0 : World} (hg : W0.grownBy W none) (hA : Among bs W0 rb vL vC vV vP vH) (h : RMem W rb R vL vC vV vP vH) {l : List (ID × Pend)} (hs : SRow w1 190 4 cellsP vP l) (hg2 : W.grownBy w1 vP.ownBlock) : RAt bs w1 rb { R with pends := l } ∧ Turn bs W0 w1 := by
  obtain ⟨a0, aL, aC, aV, aP, aH, aN⟩ := hA.grown hg.size
  exact ⟨⟨vL, vC, vV, vP, vH, h.putP hs hg2, a0, aL, aC, aV, aP, aH⟩, turn_then hg ⟨hg2.os, hg2.tape, hg2.output, hg2.size, fun k hk hn => hg2.block k hk (fun e => hn (aP k e.symm))⟩⟩
theorem RMem.boxH (h : RMem W rb R vL vC vV vP vH) {l : List RHold} (ha : Apped W 197 5 cellsH vH l v' w1) : w1.cell? ⟨rb, 8, none⟩ = some vH ∧ w1.frozen? ⟨rb, 8, none⟩ = false := by
  have hb : vH.ownBlock ≠ some rb := own_ne h.holds h.box (by decide)
  have hbox := (ha.2.1.block rb h.lt (fun e => hb e.symm)).trans h.box
  exact ⟨(cell_block hbox 8).trans rfl, free_block hbox 8⟩
theorem RAt.appH {bs : Nat → Prop} {W0 : World} (hg : W0.grownBy W none) (hA : Among bs W0 rb vL vC vV vP vH) (h : RMem W rb R vL vC vV vP vH) {l : List RHold} (ha : Apped W 197 5 cellsH vH l v' w1) : RAt bs (w1.setCell ⟨rb, 8, none⟩ v') rb { R with holds := l } ∧ Turn bs W0 (w1.setCell ⟨rb, 8, none⟩ v') := by
  obtain ⟨h1, h2, h3⟩ := h.appH ha
  obtain ⟨a0, aL, aC, aV, aP, aH, aN⟩ := hA.grown hg.size
  refine ⟨⟨vL, vC, vV, vP, v', h1, a0, aL, aC, aV, aP, ?_⟩, turn_then hg (h2.mono fun k hk => ?_)⟩
  · intro g hg2
    rcases h3 g hg2 with e | e
    · exact aH g e
    · exact aN g e
  · rcases hk with rfl | e
    · exact a0
    · exact aH k e
theorem RAt.putH {bs : Nat → Prop} {W0 : World} (hg : W0.grownBy W none) (hA : Among bs W0 rb vL vC vV vP vH) (h : RMem W rb R vL vC vV vP vH) {l : List RHold} (hs : SRow w1 197 5 cellsH vH l) (hg2 : W.grownBy w1 vH.ownBlock) : RAt bs w1 rb { R with holds := l } ∧ Turn bs W0 w1 := by
  obtain ⟨a0, aL, aC, aV, aP, aH, aN⟩ := hA.grown hg.size
  exact ⟨⟨vL, vC, vV, vP, vH, h.putH hs hg2, a0, aL, aC, aV, aP, aH⟩, turn_then hg ⟨hg2.os, hg2.tape, hg2.output, hg2.size, fun k hk hn => hg2.block k hk (fun e => hn (aH k e.symm))⟩⟩
theorem RAt.newL {bs : Nat → Prop} {W0 : World} (hg0 : W0.grownBy W none) (hA : Among bs W0 rb vL vC vV vP vH) (h : RMem W rb R vL vC vV vP vH) {l : List Int} (hg : W.grownBy w1 none) (hs : SRow w1 2 1 cellsI v' l) (hn : ∀ g, v'.ownBlock = some g → W0.heap.size ≤ g) : RAt bs (w1.setCell ⟨rb, 4, none⟩ v') rb { R with lives := l } ∧ Turn bs W0 (w1.setCell ⟨rb, 4, none⟩ v') := by
  obtain ⟨a0, aL, aC, aV, aP, aH, aN⟩ := hA
  have h1 := h.grown hg
  have hg2 := grown_trans hg0 hg
  have hb' : v'.ownBlock ≠ some rb := own_ne hs h1.box (by decide)
  refine ⟨⟨v', vC, vV, vP, vH, ⟨?_, ?_, ?_, ?_, ?_, ?_⟩, a0, ?_, aC, aV, aP, aH⟩, ⟨hg2.os, hg2.tape, hg2.output, Nat.le_trans hg2.size (by simp [World.setCell]), fun k hk hn => ?_⟩⟩
  · exact (heap_set_eq h1.box v').trans rfl
  · exact hs.same fun g hg2 => heap_set_ne w1 _ _ g (fun e => hb' (by rw [hg2]; exact congrArg some e))
  · exact h1.calls.same fun g hg2 => heap_set_ne w1 _ _ g (fun e => own_ne h1.calls h1.box (by decide) (by rw [hg2]; exact congrArg some e))
  · exact h1.vals.same fun g hg2 => heap_set_ne w1 _ _ g (fun e => own_ne h1.vals h1.box (by decide) (by rw [hg2]; exact congrArg some e))
  · exact h1.pends.same fun g hg2 => heap_set_ne w1 _ _ g (fun e => own_ne h1.pends h1.box (by decide) (by rw [hg2]; exact congrArg some e))
  · exact h1.holds.same fun g hg2 => heap_set_ne w1 _ _ g (fun e => own_ne h1.holds h1.box (by decide) (by rw [hg2]; exact congrArg some e))
  · exact fun g hg2 => aN g (hn g hg2)
  · exact (heap_set_ne w1 _ _ k (fun e => hn (by rw [e]; exact a0))).trans (hg2.block k hk (by simp))
theorem RAt.newC {bs : Nat → Prop} {W0 : World} (hg0 : W0.grownBy W none) (hA : Among bs W0 rb vL vC vV vP vH) (h : RMem W rb R vL vC vV vP vH) {l : List (Int × CallT)} (hg : W.grownBy w1 none) (hs : SRow w1 193 5 cellsC v' l) (hn : ∀ g, v'.ownBlock = some g → W0.heap.size ≤ g) : RAt bs (w1.setCell ⟨rb, 5, none⟩ v') rb { R with calls := l } ∧ Turn bs W0 (w1.setCell ⟨rb, 5, none⟩ v') := by
  obtain ⟨a0, aL, aC, aV, aP, aH, aN⟩ := hA
  have h1 := h.grown hg
  have hg2 := grown_trans hg0 hg
  have hb' : v'.ownBlock ≠ some rb := own_ne hs h1.box (by decide)
  refine ⟨⟨vL, v', vV, vP, vH, ⟨?_, ?_, ?_, ?_, ?_, ?_⟩, a0, aL, ?_, aV, aP, aH⟩, ⟨hg2.os, hg2.tape, hg2.output, Nat.le_trans hg2.size (by simp [World.setCell]), fun k hk hn => ?_⟩⟩
  · exact (heap_set_eq h1.box v').trans rfl
  · exact h1.lives.same fun g hg2 => heap_set_ne w1 _ _ g (fun e => own_ne h1.lives h1.box (by decide) (by rw [hg2]; exact congrArg some e))
  · exact hs.same fun g hg2 => heap_set_ne w1 _ _ g (fun e => hb' (by rw [hg2]; exact congrArg some e))
  · exact h1.vals.same fun g hg2 => heap_set_ne w1 _ _ g (fun e => own_ne h1.vals h1.box (by decide) (by rw [hg2]; exact congrArg some e))
  · exact h1.pends.same fun g hg2 => heap_set_ne w1 _ _ g (fun e => own_ne h1.pends h1.box (by decide) (by rw [hg2]; exact congrArg some e))
  · exact h1.holds.same fun g hg2 => heap_set_ne w1 _ _ g (fun e => own_ne h1.holds h1.box (by decide) (by rw [hg2]; exact congrArg some e))
  · exact fun g hg2 => aN g (hn g hg2)
  · exact (heap_set_ne w1 _ _ k (fun e => hn (by rw [e]; exact a0))).trans (hg2.block k hk (by simp))
theorem RAt.newV {bs : Nat → Prop} {W0 : World} (hg0 : W0.grownBy W none) (hA : Among bs W0 rb vL vC vV vP vH) (h : RMem W rb R vL vC vV vP vH) {l : List (ByteArray × Val)} (hg : W.grownBy w1 none) (hs : SRow w1 202 3 cellsV v' l) (hn : ∀ g, v'.ownBlock = some g → W0.heap.size ≤ g) : RAt bs (w1.setCell ⟨rb, 6, none⟩ v') rb { R with vals := l } ∧ Turn bs W0 (w1.setCell ⟨rb, 6, none⟩ v') := by
  obtain ⟨a0, aL, aC, aV, aP, aH, aN⟩ := hA
  have h1 := h.grown hg
  have hg2 := grown_trans hg0 hg
  have hb' : v'.ownBlock ≠ some rb := own_ne hs h1.box (by decide)
  refine ⟨⟨vL, vC, v', vP, vH, ⟨?_, ?_, ?_, ?_, ?_, ?_⟩, a0, aL, aC, ?_, aP, aH⟩, ⟨hg2.os, hg2.tape, hg2.output, Nat.le_trans hg2.size (by simp [World.setCell]), fun k hk hn => ?_⟩⟩
  · exact (heap_set_eq h1.box v').trans rfl
  · exact h1.lives.same fun g hg2 => heap_set_ne w1 _ _ g (fun e => own_ne h1.lives h1.box (by decide) (by rw [hg2]; exact congrArg some e))
  · exact h1.calls.same fun g hg2 => heap_set_ne w1 _ _ g (fun e => own_ne h1.calls h1.box (by decide) (by rw [hg2]; exact congrArg some e))
  · exact hs.same fun g hg2 => heap_set_ne w1 _ _ g (fun e => hb' (by rw [hg2]; exact congrArg some e))
  · exact h1.pends.same fun g hg2 => heap_set_ne w1 _ _ g (fun e => own_ne h1.pends h1.box (by decide) (by rw [hg2]; exact congrArg some e))
  · exact h1.holds.same fun g hg2 => heap_set_ne w1 _ _ g (fun e => own_ne h1.holds h1.box (by decide) (by rw [hg2]; exact congrArg some e))
  · exact fun g hg2 => aN g (hn g hg2)
  · exact (heap_set_ne w1 _ _ k (fun e => hn (by rw [e]; exact a0))).trans (hg2.block k hk (by simp))
theorem RAt.newP {bs : Nat → Prop} {W0 : World} (hg0 : W0.grownBy W none) (hA : Among bs W0 rb vL vC vV vP vH) (h : RMem W rb R vL vC vV vP vH) {l : List (ID × Pend)} (hg : W.grownBy w1 none) (hs : SRow w1 190 4 cellsP v' l) (hn : ∀ g, v'.ownBlock = some g → W0.heap.size ≤ g) : RAt bs (w1.setCell ⟨rb, 7, none⟩ v') rb { R with pends := l } ∧ Turn bs W0 (w1.setCell ⟨rb, 7, none⟩ v') := by
  obtain ⟨a0, aL, aC, aV, aP, aH, aN⟩ := hA
  have h1 := h.grown hg
  have hg2 := grown_trans hg0 hg
  have hb' : v'.ownBlock ≠ some rb := own_ne hs h1.box (by decide)
  refine ⟨⟨vL, vC, vV, v', vH, ⟨?_, ?_, ?_, ?_, ?_, ?_⟩, a0, aL, aC, aV, ?_, aH⟩, ⟨hg2.os, hg2.tape, hg2.output, Nat.le_trans hg2.size (by simp [World.setCell]), fun k hk hn => ?_⟩⟩
  · exact (heap_set_eq h1.box v').trans rfl
  · exact h1.lives.same fun g hg2 => heap_set_ne w1 _ _ g (fun e => own_ne h1.lives h1.box (by decide) (by rw [hg2]; exact congrArg some e))
  · exact h1.calls.same fun g hg2 => heap_set_ne w1 _ _ g (fun e => own_ne h1.calls h1.box (by decide) (by rw [hg2]; exact congrArg some e))
  · exact h1.vals.same fun g hg2 => heap_set_ne w1 _ _ g (fun e => own_ne h1.vals h1.box (by decide) (by rw [hg2]; exact congrArg some e))
  · exact hs.same fun g hg2 => heap_set_ne w1 _ _ g (fun e => hb' (by rw [hg2]; exact congrArg some e))
  · exact h1.holds.same fun g hg2 => heap_set_ne w1 _ _ g (fun e => own_ne h1.holds h1.box (by decide) (by rw [hg2]; exact congrArg some e))
  · exact fun g hg2 => aN g (hn g hg2)
  · exact (heap_set_ne w1 _ _ k (fun e => hn (by rw [e]; exact a0))).trans (hg2.block k hk (by simp))
theorem RAt.newH {bs : Nat → Prop} {W0 : World} (hg0 : W0.grownBy W none) (hA : Among bs W0 rb vL vC vV vP vH) (h : RMem W rb R vL vC vV vP vH) {l : List RHold} (hg : W.grownBy w1 none) (hs : SRow w1 197 5 cellsH v' l) (hn : ∀ g, v'.ownBlock = some g → W0.heap.size ≤ g) : RAt bs (w1.setCell ⟨rb, 8, none⟩ v') rb { R with holds := l } ∧ Turn bs W0 (w1.setCell ⟨rb, 8, none⟩ v') := by
  obtain ⟨a0, aL, aC, aV, aP, aH, aN⟩ := hA
  have h1 := h.grown hg
  have hg2 := grown_trans hg0 hg
  have hb' : v'.ownBlock ≠ some rb := own_ne hs h1.box (by decide)
  refine ⟨⟨vL, vC, vV, vP, v', ⟨?_, ?_, ?_, ?_, ?_, ?_⟩, a0, aL, aC, aV, aP, ?_⟩, ⟨hg2.os, hg2.tape, hg2.output, Nat.le_trans hg2.size (by simp [World.setCell]), fun k hk hn => ?_⟩⟩
  · exact (heap_set_eq h1.box v').trans rfl
  · exact h1.lives.same fun g hg2 => heap_set_ne w1 _ _ g (fun e => own_ne h1.lives h1.box (by decide) (by rw [hg2]; exact congrArg some e))
  · exact h1.calls.same fun g hg2 => heap_set_ne w1 _ _ g (fun e => own_ne h1.calls h1.box (by decide) (by rw [hg2]; exact congrArg some e))
  · exact h1.vals.same fun g hg2 => heap_set_ne w1 _ _ g (fun e => own_ne h1.vals h1.box (by decide) (by rw [hg2]; exact congrArg some e))
  · exact h1.pends.same fun g hg2 => heap_set_ne w1 _ _ g (fun e => own_ne h1.pends h1.box (by decide) (by rw [hg2]; exact congrArg some e))
  · exact hs.same fun g hg2 => heap_set_ne w1 _ _ g (fun e => hb' (by rw [hg2]; exact congrArg some e))
  · exact fun g hg2 => aN g (hn g hg2)
  · exact (heap_set_ne w1 _ _ k (fun e => hn (by rw [e]; exact a0))).trans (hg2.block k hk (by simp))
end
end Go.Proofs.YtjfelfjobeeenaaGreat
