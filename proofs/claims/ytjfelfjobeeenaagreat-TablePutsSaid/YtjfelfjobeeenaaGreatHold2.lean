/- What Holders answers. Conditions: a table that lies in memory, nodes within range. -/
import Derived.Test.YtjfelfjobeeenaaGreatHold
namespace Go.Proofs.YtjfelfjobeeenaaGreat
open Go.RowKit Go.Sf Go.Shelf Go.Maps Go.Sort
set_option linter.unusedVariables false
/-- who holds an id, in order -/
def holdL (T : Tab) (i : ID) : List Int := (memH T.holds i).mergeSort fun x y => decide (x ≤ y)
/-- a set's members: numbers of the machine, not too many -/
def Fits (l : List Int) : Prop := (∀ n ∈ l, (Lit.int .i64 n).wf = true) ∧ l.length ≤ 1000000
theorem ints_up {w0 w w' : World} {v : Value} {l : List Int} (h : Ints w w' v l) (hg : w0.grownBy w none) : Ints w0 w' v l :=
  ⟨⟨h.1.1, h.1.2.imp id fun ⟨g, cap, cur, hv, hb, rest⟩ => ⟨g, cap, cur, hv, Nat.le_trans hg.size hb, rest⟩⟩, h.2.1, grown_trans hg h.2.2⟩
section
variable {w : World} {tb : Nat} {T : Tab}
set_option maxHeartbeats 4000000 in
set_option maxRecDepth 100000 in
theorem holders_any (h : TRep w tb T) (i : ID) (hf : Fits (memH T.holds i)) :
    Calls Tryz.prog 37 #[.pointer (some ⟨tb, 0, none⟩), encID i] w fun e w' => ∃ v, e = .returned v ∧ Ints w w' v (holdL T i) := by
  obtain ⟨k, n⟩ := i
  have c7 := h.c7
  have hh := h.holds
  have htb := h.tlt
  simp only [encID]
  cases hr : mget T.holds ⟨k, n⟩ with
  | none =>
    have hl := run_setsT T.hb T.holds k n none hr
    have HM : Hid (holdL T ⟨k, n⟩ = []) := (show _ = _ from by unfold holdL memH; rw [hr]; simp)
    have HT := Lib.hid h
    clear h hf
    simp only [Option.map_none] at hl
    go_enter Tryz.func37, Tryz.ntmps37
    go_wp2
    have hg : w.grownBy (w.alloc (.cells #[.string k, .int .i64 n] 54)) none := World.grownBy_alloc _ _ _
    have x0 : (w.alloc (.cells #[.string k, .int .i64 n] 54)).cell? ⟨w.heap.size, 0, none⟩ = some (.string k) := by simp [go_sem]
    have x1 : (w.alloc (.cells #[.string k, .int .i64 n] 54)).cell? ⟨w.heap.size, 1, none⟩ = some (.int .i64 n) := by simp [go_sem]
    generalize w.alloc (.cells #[.string k, .int .i64 n] 54) = W1 at *
    have T1 := HT.out.grown hg
    have d7 := T1.c7
    have hh1 := T1.holds
    have HT1 := Lib.hid T1
    have HG := Lib.hid hg
    clear T1 hg c7 hh
    go_still_tail 6, (by kernel_rfl)
    go_wp2_with (first
      | (go_at_call 82; refine (keysI_any none _).mono ?_; rintro e w1 ⟨rfl, rfl⟩)
      | (go_at_call 81; have hq := sortedI_nil (W1.alloc (.cells #[.map none] 127)).drew W1.heap.size (by simp [go_sem]) (by simp [go_sem]); refine hq.mono ?_; rintro e w2 ⟨v, rfl, hv⟩))
    go_ret
    rw [HM.out]
    refine ⟨v, rfl, ints_up hv ?_⟩
    repeat (first | exact HG.out | exact grown_refl _ | exact World.grownBy_alloc _ _ _ | refine grown_ext' ?_ _ | refine grown_alloc ?_ _ | refine grown_drew ?_)
  | some s =>
    have hl := run_setsT T.hb T.holds k n (some s) hr
    have HM : Hid (holdL T ⟨k, n⟩ = s.mem.mergeSort fun x y => decide (x ≤ y)) := (show _ = _ from by unfold holdL memH; rw [hr]; rfl)
    have hs := h.hsets _ (mget_mem hr)
    have hf' : Fits s.mem := by unfold memH at hf; rw [hr] at hf; exact hf
    have HS : Hid (∀ W, w.grownBy W none → SetT W s) := fun W hg => MapT.kept hs hg (by simp)
    have HF := Lib.hid hf'
    have HT := Lib.hid h
    clear h hf hf' hs
    simp only [Option.map_some] at hl
    go_enter Tryz.func37, Tryz.ntmps37
    go_wp2
    have hg : w.grownBy (w.alloc (.cells #[.string k, .int .i64 n] 54)) none := World.grownBy_alloc _ _ _
    have x0 : (w.alloc (.cells #[.string k, .int .i64 n] 54)).cell? ⟨w.heap.size, 0, none⟩ = some (.string k) := by simp [go_sem]
    have x1 : (w.alloc (.cells #[.string k, .int .i64 n] 54)).cell? ⟨w.heap.size, 1, none⟩ = some (.int .i64 n) := by simp [go_sem]
    generalize w.alloc (.cells #[.string k, .int .i64 n] 54) = W1 at *
    have T1 := HT.out.grown hg
    have d7 := T1.c7
    have hh1 := T1.holds
    have HT1 := Lib.hid T1
    have HG := Lib.hid hg
    clear T1 hg c7 hh
    go_still_tail 6, (by kernel_rfl)
    go_wp2_with (first
      | (go_at_call 82; refine (keysI_any (some s.blk) _).mono ?_; rintro e w1 ⟨rfl, rfl⟩)
      | (go_at_call 81; have hq := sortedI_any (W := (W1.alloc (.cells #[.map (some s.blk)] 127)).drew) s (HS.out _ (by repeat (first | exact HG.out | exact grown_refl _ | exact World.grownBy_alloc _ _ _ | refine grown_ext' ?_ _ | refine grown_alloc ?_ _ | refine grown_drew ?_))) HF.out.1 HF.out.2 W1.heap.size (by simp [go_sem]) (by simp [go_sem]); refine hq.mono ?_; rintro e w2 ⟨v, rfl, hv⟩))
    go_ret
    rw [HM.out]
    refine ⟨v, rfl, ints_up hv ?_⟩
    repeat (first | exact HG.out | exact grown_refl _ | exact World.grownBy_alloc _ _ _ | refine grown_ext' ?_ _ | refine grown_alloc ?_ _ | refine grown_drew ?_)
end
end Go.Proofs.YtjfelfjobeeenaaGreat
