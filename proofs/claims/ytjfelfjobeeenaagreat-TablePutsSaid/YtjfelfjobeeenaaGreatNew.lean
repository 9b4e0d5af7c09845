/- What New makes. Conditions: none. -/
import Derived.Test.YtjfelfjobeeenaaGreatDo2
import Derived.Deep.OwnRows
namespace Go.Proofs.YtjfelfjobeeenaaGreat
open Go.RowKit Go.Sf Go.Shelf
set_option linter.unusedVariables false
def clampN (n : Int) : Int := if n < 1 then 1 else if 255 < n then 255 else n
def clampW (N : Nat) (w : Int) : Int := if w < 1 then 1 else if (N : Int) < w then N else w
/-- a new table, its first block b -/
def newT (N : Nat) (w : Int) (b : Nat) : Tab := ⟨clampW N w, 0, 1, List.replicate N 0, [], [], [], [], [], b, b + 1, b + 2, b + 3, b + 4, b + 5⟩
theorem info_i64 : (Tryz.prog.info? 2).map (fun i => (i.zero, i.size, i.bytes)) = some (some (.int .i64 0), 1, 8) := by kernel_rfl
theorem mapT_made' {K V : Type} (W : World) (b : Nat) (hb : b = W.heap.size) (ek : K → Value) (ev : V → Value) : MapT (W.alloc (.map #[] 0)) b ek ev ([] : List (K × V)) := hb ▸ mapT_made W ek ev
theorem made_cells (N : Nat) : madeCells #[.int .i64 0] N = ((List.replicate N (0 : Int)).map (Value.int .i64)).toArray := by
  apply Array.ext
  · simp [madeCells]
  · intro i h1 h2
    simp [madeCells, Nat.mod_one]
theorem new_rep (w : World) (N : Nat) (wi : Int) :
    TRep (((((((w.alloc (.cells (madeCells #[.int .i64 0] N) 2)).alloc (.map #[] 0)).alloc (.map #[] 0)).alloc (.map #[] 0)).alloc (.map #[] 0)).alloc (.map #[] 0)).alloc
      (.cells #[.int .i64 (clampW N wi), .int .i64 0, .int .i64 1, .slice (some ⟨w.heap.size, 0, none⟩) N N, .map (some (w.heap.size + 1)), .map (some (w.heap.size + 2)), .map (some (w.heap.size + 3)), .map (some (w.heap.size + 4)), .map (some (w.heap.size + 5))] 122)) (w.heap.size + 6) (newT N wi w.heap.size) where
  cells := by
    have := (MapKept.heap_alloc ((((((w.alloc (.cells (madeCells #[.int .i64 0] N) 2)).alloc (.map #[] 0)).alloc (.map #[] 0)).alloc (.map #[] 0)).alloc (.map #[] 0)).alloc (.map #[] 0)) (.cells #[.int .i64 (clampW N wi), .int .i64 0, .int .i64 1, .slice (some ⟨w.heap.size, 0, none⟩) N N, .map (some (w.heap.size + 1)), .map (some (w.heap.size + 2)), .map (some (w.heap.size + 3)), .map (some (w.heap.size + 4)), .map (some (w.heap.size + 5))] 122)).1
    simp only [World.size_alloc] at this
    rw [show w.heap.size + 6 = w.heap.size + 1 + 1 + 1 + 1 + 1 + 1 from rfl, this]
    simp [Tab.cells, newT]
  lives := by
    have h0 := (MapKept.heap_alloc w (.cells (madeCells #[.int .i64 0] N) 2)).1
    rw [Below.heap_alloc _ _ _ (by simp [newT]; omega), Below.heap_alloc _ _ _ (by simp [newT]; omega), Below.heap_alloc _ _ _ (by simp [newT]; omega), Below.heap_alloc _ _ _ (by simp [newT]; omega), Below.heap_alloc _ _ _ (by simp [newT]; omega), Below.heap_alloc _ _ _ (by simp [newT])]
    rw [show (newT N wi w.heap.size).lb = w.heap.size from rfl, h0, made_cells]
    rfl
  calls := by
    refine MapT.alloc (MapT.alloc (MapT.alloc (MapT.alloc (MapT.alloc ?_ _) _) _) _) _
    exact mapT_made' _ _ (by simp [newT]) _ _
  values := by
    refine MapT.alloc (MapT.alloc (MapT.alloc (MapT.alloc ?_ _) _) _) _
    exact mapT_made' _ _ (by simp [newT]) _ _
  pending := by
    refine MapT.alloc (MapT.alloc (MapT.alloc ?_ _) _) _
    exact mapT_made' _ _ (by simp [newT]) _ _
  holds := by
    refine MapT.alloc (MapT.alloc ?_ _) _
    exact mapT_made' _ _ (by simp [newT]) _ _
  refuses := by
    refine MapT.alloc ?_ _
    exact mapT_made' _ _ (by simp [newT]) _ _
  hsets := fun x hx => by cases hx
  rsets := fun x hx => by cases hx
  nodup := by
    simp [Tab.blocks, newT]

set_option maxHeartbeats 4000000 in
set_option maxRecDepth 100000 in
theorem new_any (nodes wi : Int) (N : Nat) (hN : (N : Int) = clampN nodes) (w : World) :
    Calls Tryz.prog 30 #[.int .i64 nodes, .int .i64 wi] w fun e w' => ∃ tb, e = .returned (.pointer (some ⟨tb, 0, none⟩)) ∧ w.heap.size ≤ tb ∧ TRep w' tb (newT N wi w.heap.size) ∧ w.grownBy w' none := by
  have hN1 : 1 ≤ N := by unfold clampN at hN; split at hN <;> (try split at hN) <;> omega
  have hN2 : N ≤ 255 := by unfold clampN at hN; split at hN <;> (try split at hN) <;> omega
  have hmk := run_make_row' (P := Tryz.prog) 46 2 (.int .i64 0) 8 Tryz.underlying46 info_i64 rfl .i64 .i64 N (by omega) (by omega)
  have hmm := @run_makeMap Tryz.prog
  have HN := Lib.hid hN
  clear hN
  go_enter Tryz.func30, Tryz.ntmps30
  go_upto_region 1 with fail
  go_cut [5] (fun s wx => s = .int .i64 N ∧ wx = w)
  case first =>
    clear hmk hmm
    go_wp2
    all_goals (go_meet; refine ⟨?_, rfl⟩; have := HN.out; unfold clampN at this; congr 1; (repeat (split at this)) <;> omega)
  case rest =>
    obtain ⟨rfl, rfl⟩ := hcut
    go_wp2
    all_goals
      go_ret
      refine ⟨wc.heap.size + 6, rfl, by omega, ?_, by repeat (first | exact grown_refl _ | exact World.grownBy_alloc _ _ _ | refine grown_alloc ?_ _)⟩
      first
        | (have h := new_rep wc N wi; rw [show clampW N wi = 1 from by unfold clampW; (repeat split) <;> omega] at h; exact h)
        | (have h := new_rep wc N wi; rw [show clampW N wi = (N : Int) from by unfold clampW; (repeat split) <;> omega] at h; exact h)
        | (have h := new_rep wc N wi; rw [show clampW N wi = wi from by unfold clampW; (repeat split) <;> omega] at h; exact h)
end Go.Proofs.YtjfelfjobeeenaaGreat
