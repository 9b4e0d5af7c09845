/- Do's closures; what a table's sets keep. Conditions: a table that lies in memory. -/
import Derived.Test.YtjfelfjobeeenaaGreatRef
namespace Go.Proofs.YtjfelfjobeeenaaGreat
open Go.RowKit Go.Sf Go.Shelf
set_option linter.unusedVariables false
section
variable {w w1 : World} {tb : Nat} {T : Tab}
def struckH (T : Tab) (i : ID) (s : NSet) : Bool := decide (s.mem.length = 0) || !wantedB T i
def struckR (T : Tab) (i : ID) (s : NSet) : Bool := decide (s.mem.length = 0) || !(mget T.pending i).isSome

set_option maxHeartbeats 1000000 in
theorem do1_any (h : VRep w tb T) (i : ID) (s : NSet) (hs : SetT w s) (bx : Nat) (hb : w.cell? ⟨bx, 0, none⟩ = some (.pointer (some ⟨tb, 0, none⟩))) :
    Calls Tryz.prog 68 (#[encID i, encSet s] ++ #[.pointer (some ⟨bx, 0, none⟩)]) w fun e w' => e = .returned (.bool (struckH T i s)) ∧ w.grownBy w' none := by
  have hblt := cell_lt hb
  have hll := run_lenSet s
  simp only [SetT] at hs
  have HW : Hid (∀ W, w.grownBy W none → Calls Tryz.prog 36 #[.pointer (some ⟨tb, 0, none⟩), encID i] W fun e w' => e = .returned (.bool (wantedB T i)) ∧ W.grownBy w' none) := fun W hg => wanted_core (h.grown hg) i
  clear h
  have HS : Hid (struckH T i s = (decide (s.mem.length = 0) || !wantedB T i)) := (show _ = _ from rfl)
  obtain ⟨k, v⟩ := i
  simp only [encID, encSet] at *
  by_cases h0 : s.mem.length = 0
  · have d0 : ((s.mem.length : Int) == 0) = true := by simpa using h0
    go_enter Tryz.func68, Tryz.ntmps68
    go_wp2
    go_ret
    exact ⟨by rw [HS.out]; simp [h0], (by repeat (first | exact grown_refl _ | exact World.grownBy_alloc _ _ _ | refine grown_ext' ?_ _ | refine grown_alloc ?_ _ | refine grown_drew ?_))⟩
  · have d0 : ((s.mem.length : Int) == 0) = false := beq_eq_false_iff_ne.2 (by omega)
    go_enter Tryz.func68, Tryz.ntmps68
    go_wp2_with (go_at_call 36; refine (HW.out _ (by repeat (first | exact grown_refl _ | exact World.grownBy_alloc _ _ _ | refine grown_ext' ?_ _ | refine grown_alloc ?_ _ | refine grown_drew ?_))).mono ?_; rintro e w2 ⟨rfl, hg2⟩)
    go_ret
    exact ⟨by rw [HS.out]; simp [h0], grown_trans (by repeat (first | exact grown_refl _ | exact World.grownBy_alloc _ _ _ | refine grown_ext' ?_ _ | refine grown_alloc ?_ _ | refine grown_drew ?_)) hg2⟩

set_option maxHeartbeats 1000000 in
theorem do2_any (h : VRep w tb T) (i : ID) (s : NSet) (hs : SetT w s) (bx : Nat) (hb : w.cell? ⟨bx, 0, none⟩ = some (.pointer (some ⟨tb, 0, none⟩))) :
    Calls Tryz.prog 69 (#[encID i, encSet s] ++ #[.pointer (some ⟨bx, 0, none⟩)]) w fun e w' => e = .returned (.bool (struckR T i s)) ∧ w.grownBy w' none := by
  have hblt := cell_lt hb
  have hblt1 : bx < w.heap.size + 1 := Nat.lt_succ_of_lt hblt
  have htb := h.tlt
  have htb1 : tb < w.heap.size + 1 := Nat.lt_succ_of_lt htb
  have hll := run_lenSet s
  have c6 := h.c6
  have hp := h.pending
  simp only [SetT] at hs
  clear h
  obtain ⟨k, v⟩ := i
  have HS : Hid (struckR T ⟨k, v⟩ s = (decide (s.mem.length = 0) || !(mget T.pending ⟨k, v⟩).isSome)) := (show _ = _ from rfl)
  obtain ⟨pc, pr, _, hlk⟩ := run_pendingT T.pb T.pending k v
  generalize (mget T.pending ⟨k, v⟩).isSome = B at *
  simp only [encID, encSet] at *
  by_cases h0 : s.mem.length = 0
  · have d0 : ((s.mem.length : Int) == 0) = true := by simpa using h0
    go_enter Tryz.func69, Tryz.ntmps69
    go_wp2
    go_region
    go_wp2
    go_ret
    exact ⟨by rw [HS.out]; simp [h0], (by repeat (first | exact grown_refl _ | exact World.grownBy_alloc _ _ _ | refine grown_ext' ?_ _ | refine grown_alloc ?_ _ | refine grown_drew ?_))⟩
  · have d0 : ((s.mem.length : Int) == 0) = false := beq_eq_false_iff_ne.2 (by omega)
    go_enter Tryz.func69, Tryz.ntmps69
    go_wp2
    go_region
    go_wp2
    go_ret
    exact ⟨by rw [HS.out]; simp [h0], (by repeat (first | exact grown_refl _ | exact World.grownBy_alloc _ _ _ | refine grown_ext' ?_ _ | refine grown_alloc ?_ _ | refine grown_drew ?_))⟩

def does (k : Int) : Nat := if k = 1 then 129 else if k = 2 then 130 else if k = 3 then 131 else if k = 4 then 132 else if k = 5 then 133 else if k = 6 then 134 else 135
theorem idx_1 (w : World) : (Instr.index 212 (Value.agg #[.nilFunc, .func (.func 129) #[] #[], .func (.func 130) #[] #[], .func (.func 131) #[] #[], .func (.func 132) #[] #[], .func (.func 133) #[] #[], .func (.func 134) #[] #[], .func (.func 135) #[] #[]]) (.int .u8 1)).run Tryz.prog w = .ok (.func (.func 129) #[] #[]) w := by kernel_rfl
theorem idx_2 (w : World) : (Instr.index 212 (Value.agg #[.nilFunc, .func (.func 129) #[] #[], .func (.func 130) #[] #[], .func (.func 131) #[] #[], .func (.func 132) #[] #[], .func (.func 133) #[] #[], .func (.func 134) #[] #[], .func (.func 135) #[] #[]]) (.int .u8 2)).run Tryz.prog w = .ok (.func (.func 130) #[] #[]) w := by kernel_rfl
theorem idx_3 (w : World) : (Instr.index 212 (Value.agg #[.nilFunc, .func (.func 129) #[] #[], .func (.func 130) #[] #[], .func (.func 131) #[] #[], .func (.func 132) #[] #[], .func (.func 133) #[] #[], .func (.func 134) #[] #[], .func (.func 135) #[] #[]]) (.int .u8 3)).run Tryz.prog w = .ok (.func (.func 131) #[] #[]) w := by kernel_rfl
theorem idx_4 (w : World) : (Instr.index 212 (Value.agg #[.nilFunc, .func (.func 129) #[] #[], .func (.func 130) #[] #[], .func (.func 131) #[] #[], .func (.func 132) #[] #[], .func (.func 133) #[] #[], .func (.func 134) #[] #[], .func (.func 135) #[] #[]]) (.int .u8 4)).run Tryz.prog w = .ok (.func (.func 132) #[] #[]) w := by kernel_rfl
theorem idx_5 (w : World) : (Instr.index 212 (Value.agg #[.nilFunc, .func (.func 129) #[] #[], .func (.func 130) #[] #[], .func (.func 131) #[] #[], .func (.func 132) #[] #[], .func (.func 133) #[] #[], .func (.func 134) #[] #[], .func (.func 135) #[] #[]]) (.int .u8 5)).run Tryz.prog w = .ok (.func (.func 133) #[] #[]) w := by kernel_rfl
theorem idx_6 (w : World) : (Instr.index 212 (Value.agg #[.nilFunc, .func (.func 129) #[] #[], .func (.func 130) #[] #[], .func (.func 131) #[] #[], .func (.func 132) #[] #[], .func (.func 133) #[] #[], .func (.func 134) #[] #[], .func (.func 135) #[] #[]]) (.int .u8 6)).run Tryz.prog w = .ok (.func (.func 134) #[] #[]) w := by kernel_rfl
theorem idx_7 (w : World) : (Instr.index 212 (Value.agg #[.nilFunc, .func (.func 129) #[] #[], .func (.func 130) #[] #[], .func (.func 131) #[] #[], .func (.func 132) #[] #[], .func (.func 133) #[] #[], .func (.func 134) #[] #[], .func (.func 135) #[] #[]]) (.int .u8 7)).run Tryz.prog w = .ok (.func (.func 135) #[] #[]) w := by kernel_rfl
set_option maxHeartbeats 1000000 in
set_option maxRecDepth 100000 in
theorem does_any (k : Int) (h1 : 1 ≤ k) (h7 : k ≤ 7) (w : World) : Calls Tryz.prog 66 #[.int .u8 k] w fun e w' => e = .returned (.func (.func (does k)) #[] #[]) ∧ w' = w := by
  have h : k = 1 ∨ k = 2 ∨ k = 3 ∨ k = 4 ∨ k = 5 ∨ k = 6 ∨ k = 7 := by omega
  rcases h with rfl | rfl | rfl | rfl | rfl | rfl | rfl
  · have hidx := idx_1
    go_enter Tryz.func66, Tryz.ntmps66
    go_wp2
    go_ret
    exact ⟨rfl, rfl⟩
  · have hidx := idx_2
    go_enter Tryz.func66, Tryz.ntmps66
    go_wp2
    go_ret
    exact ⟨rfl, rfl⟩
  · have hidx := idx_3
    go_enter Tryz.func66, Tryz.ntmps66
    go_wp2
    go_ret
    exact ⟨rfl, rfl⟩
  · have hidx := idx_4
    go_enter Tryz.func66, Tryz.ntmps66
    go_wp2
    go_ret
    exact ⟨rfl, rfl⟩
  · have hidx := idx_5
    go_enter Tryz.func66, Tryz.ntmps66
    go_wp2
    go_ret
    exact ⟨rfl, rfl⟩
  · have hidx := idx_6
    go_enter Tryz.func66, Tryz.ntmps66
    go_wp2
    go_ret
    exact ⟨rfl, rfl⟩
  · have hidx := idx_7
    go_enter Tryz.func66, Tryz.ntmps66
    go_wp2
    go_ret
    exact ⟨rfl, rfl⟩

theorem TRep.filterH (h : TRep w tb T) (f : ID × NSet → Bool) (hm : MapT w1 T.hb encID encSet (T.holds.filter f)) (hg : w.grownBy w1 (some T.hb)) : TRep w1 tb { T with holds := T.holds.filter f } := by
  have nd := h.nodup
  have nd0 := nd
  simp only [Tab.blocks, List.nodup_cons, List.mem_cons, List.mem_append, List.mem_map, not_or, not_exists, not_and] at nd
  exact {
    cells := (hg.block _ h.tlt (by simp; omega)).trans h.cells
    lives := (hg.block _ h.llt (by simp; omega)).trans h.lives
    calls := h.calls.kept hg (by simp; omega)
    values := h.values.kept hg (by simp; omega)
    pending := h.pending.kept hg (by simp; omega)
    holds := hm
    refuses := h.refuses.kept hg (by simp; omega)
    hsets := fun x hx => MapT.kept (h.hsets x (List.mem_filter.1 hx).1) hg (by have := nd.2.2.2.2.2.1.2.1 x (List.mem_filter.1 hx).1; simpa using this)
    rsets := fun x hx => MapT.kept (h.rsets x hx) hg (by have := nd.2.2.2.2.2.1.2.2 x hx; simpa using this)
    nodup := by
      refine List.Nodup.sublist ?_ nd0
      unfold Tab.blocks
      simp only [List.cons_sublist_cons]
      exact List.Sublist.append (List.Sublist.map _ List.filter_sublist) (List.Sublist.refl _) }
theorem TRep.filterR (h : TRep w tb T) (f : ID × NSet → Bool) (hm : MapT w1 T.rb encID encSet (T.refuses.filter f)) (hg : w.grownBy w1 (some T.rb)) : TRep w1 tb { T with refuses := T.refuses.filter f } := by
  have nd := h.nodup
  have nd0 := nd
  simp only [Tab.blocks, List.nodup_cons, List.mem_cons, List.mem_append, List.mem_map, not_or, not_exists, not_and] at nd
  exact {
    cells := (hg.block _ h.tlt (by simp; omega)).trans h.cells
    lives := (hg.block _ h.llt (by simp; omega)).trans h.lives
    calls := h.calls.kept hg (by simp; omega)
    values := h.values.kept hg (by simp; omega)
    pending := h.pending.kept hg (by simp; omega)
    holds := h.holds.kept hg (by simp; omega)
    refuses := hm
    hsets := fun x hx => MapT.kept (h.hsets x hx) hg (by have := nd.2.2.2.2.2.2.1.1 x hx; simpa using this)
    rsets := fun x hx => MapT.kept (h.rsets x (List.mem_filter.1 hx).1) hg (by have := nd.2.2.2.2.2.2.1.2 x (List.mem_filter.1 hx).1; simpa using this)
    nodup := by
      refine List.Nodup.sublist ?_ nd0
      unfold Tab.blocks
      simp only [List.cons_sublist_cons]
      exact List.Sublist.append (List.Sublist.refl _) (List.Sublist.map _ List.filter_sublist) }
theorem TRep.vh (h : TRep w tb T) (hg : w.grownBy w1 (some T.hb)) : VRep w1 tb T := by
  have nd := h.nodup
  simp only [Tab.blocks, List.nodup_cons, List.mem_cons, List.mem_append, List.mem_map, not_or, not_exists, not_and] at nd
  exact ⟨hg.cell h.c5 (by simp; omega), hg.cell h.c6 (by simp; omega), h.values.kept hg (by simp; omega), h.pending.kept hg (by simp; omega)⟩
theorem TRep.vr (h : TRep w tb T) (hg : w.grownBy w1 (some T.rb)) : VRep w1 tb T := by
  have nd := h.nodup
  simp only [Tab.blocks, List.nodup_cons, List.mem_cons, List.mem_append, List.mem_map, not_or, not_exists, not_and] at nd
  exact ⟨hg.cell h.c5 (by simp; omega), hg.cell h.c6 (by simp; omega), h.values.kept hg (by simp; omega), h.pending.kept hg (by simp; omega)⟩
theorem TRep.seth (h : TRep w tb T) (hg : w.grownBy w1 (some T.hb)) {x : ID × NSet} (hx : x ∈ T.holds) : SetT w1 x.2 := by
  have nd := h.nodup
  simp only [Tab.blocks, List.nodup_cons, List.mem_cons, List.mem_append, List.mem_map, not_or, not_exists, not_and] at nd
  exact MapT.kept (h.hsets x hx) hg (by have := nd.2.2.2.2.2.1.2.1 x hx; simpa using this)
theorem TRep.setr (h : TRep w tb T) (hg : w.grownBy w1 (some T.rb)) {x : ID × NSet} (hx : x ∈ T.refuses) : SetT w1 x.2 := by
  have nd := h.nodup
  simp only [Tab.blocks, List.nodup_cons, List.mem_cons, List.mem_append, List.mem_map, not_or, not_exists, not_and] at nd
  exact MapT.kept (h.rsets x hx) hg (by have := nd.2.2.2.2.2.2.1.2 x hx; simpa using this)
end
end Go.Proofs.YtjfelfjobeeenaaGreat
