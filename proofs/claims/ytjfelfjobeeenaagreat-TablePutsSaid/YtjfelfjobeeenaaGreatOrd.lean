/- cmp.Compare, cmp.Or, and how ids are ordered: the walks. Conditions: none. -/
import Derived.Test.YtjfelfjobeeenaaGreatNorm
import Derived.Shelf.SlSortCmp.WholeK
import Derived.Deep.RegionHeld3
namespace Go.Proofs.YtjfelfjobeeenaaGreat
open Go.RowKit Go.Sf Go.Shelf Go.Sort Go.Lib
set_option linter.unusedVariables false
def cmpI (a b : Int) : Int := if a < b then -1 else if b < a then 1 else 0
def cmpB (a b : ByteArray) : Int := if Op.bytesLess a.toList b.toList = true then -1 else if a = b then 0 else 1
def ordI (a b : ID) : Int := if cmpB a.key b.key = 0 then cmpI a.ver b.ver else cmpB a.key b.key
set_option maxHeartbeats 1000000 in
theorem cmpI_any (a b : Int) (W : World) : Calls Tryz.prog 126 #[.int .i64 a, .int .i64 b] W fun e w' => e = .returned (.int .i64 (cmpI a b)) ∧ w' = W := by
  by_cases h1 : a < b
  · have hc : cmpI a b = -1 := by unfold cmpI; rw [if_pos h1]
    rw [hc]
    go_enter Tryz.func126, Tryz.ntmps126
    go_wp2
    go_ret
    exact ⟨rfl, rfl⟩
  · by_cases h2 : b < a
    · have hc : cmpI a b = 1 := by unfold cmpI; rw [if_neg h1, if_pos h2]
      rw [hc]
      go_enter Tryz.func126, Tryz.ntmps126
      go_wp2
      go_ret
      exact ⟨rfl, rfl⟩
    · have hc : cmpI a b = 0 := by unfold cmpI; rw [if_neg h1, if_neg h2]
      rw [hc]
      go_enter Tryz.func126, Tryz.ntmps126
      go_wp2
      go_ret
      exact ⟨rfl, rfl⟩
set_option maxHeartbeats 1000000 in
theorem cmpB_any (a b : ByteArray) (W : World) : Calls Tryz.prog 89 #[.string a, .string b] W fun e w' => e = .returned (.int .i64 (cmpB a b)) ∧ w' = W := by
  cases h1 : Op.bytesLess a.toList b.toList with
  | true =>
    have hc : cmpB a b = -1 := by unfold cmpB; rw [if_pos h1]
    rw [hc]
    go_enter Tryz.func89, Tryz.ntmps89
    go_wp2
    go_ret
    exact ⟨rfl, rfl⟩
  | false =>
    cases h2 : (a.toList == b.toList) with
    | true =>
      have e : a = b := by rw [toList_eq_iff] at h2; exact of_decide_eq_true h2
      have hc : cmpB a b = 0 := by unfold cmpB; rw [if_neg (by rw [h1]; decide), if_pos e]
      rw [hc]
      clear e
      go_enter Tryz.func89, Tryz.ntmps89
      go_wp2
      go_ret
      exact ⟨rfl, rfl⟩
    | false =>
      have e : ¬ a = b := by rw [toList_eq_iff] at h2; exact of_decide_eq_false h2
      have hc : cmpB a b = 1 := by unfold cmpB; rw [if_neg (by rw [h1]; decide), if_neg e]
      rw [hc]
      clear e
      go_enter Tryz.func89, Tryz.ntmps89
      go_wp2
      go_ret
      exact ⟨rfl, rfl⟩
set_option maxHeartbeats 1000000 in
theorem or_any (x y : Int) (g : Nat) (W : World) (h0 : W.cell? ⟨g, 0, none⟩ = some (.int .i64 x)) (h1 : W.cell? ⟨g, 1, none⟩ = some (.int .i64 y)) : Calls Tryz.prog 125 #[.slice (some ⟨g, 0, none⟩) 2 2] W fun e w' => e = .returned (.int .i64 (if x = 0 then y else x)) ∧ w' = W := by
  obtain ⟨r, hr⟩ : ∃ r, r = if x = 0 then y else x := ⟨_, rfl⟩
  rw [← hr]
  go_enter Tryz.func125, Tryz.ntmps125
  go_wp2
  go_loopw [5, 8] (fun _ i wr => wr = W ∧ (i = .int .i64 0 ∨ (i = .int .i64 1 ∧ x = 0) ∨ (i = .int .i64 2 ∧ x = 0 ∧ y = 0))) (fun _ i _ => 2 - (intOf i).toNat)
  case atStart => exact ⟨rfl, Or.inl rfl⟩
  case round =>
    obtain ⟨rfl, rfl | ⟨rfl, hx⟩ | ⟨rfl, hx, hy⟩⟩ := hrel
    · by_cases hx : x = 0
      · subst hx
        go_wp2
        go_roundw
        case rel => simp
        case measure => simp [intOf]
      · rw [if_neg hx] at hr
        subst hr
        go_wp2
        go_ret
        exact ⟨rfl, rfl⟩
    · subst hx
      rw [if_pos rfl] at hr
      subst hr
      by_cases hy : r = 0
      · subst hy
        go_wp2
        go_roundw
        case rel => simp
        case measure => simp [intOf]
      · go_wp2
        go_ret
        exact ⟨rfl, rfl⟩
    · subst hx; subst hy
      rw [if_pos rfl] at hr
      subst hr
      go_wp2
      go_ret
      exact ⟨rfl, rfl⟩
set_option maxHeartbeats 2000000 in
set_option maxRecDepth 100000 in
theorem order_any (a b : ID) (W : World) : Calls Tryz.prog 80 #[encID a, encID b] W fun e w' => e = .returned (.int .i64 (ordI a b)) ∧ ∃ q os', w' = grow (W.drewN q) os' := by
  obtain ⟨ak, av⟩ := a
  obtain ⟨bk, bv⟩ := b
  simp only [encID, ordI]
  have HB := fun W => cmpB_any ak bk W
  have HI := fun W => cmpI_any av bv W
  have HO := fun g W => or_any (cmpB ak bk) (cmpI av bv) g W
  generalize cmpB ak bk = x at *
  generalize cmpI av bv = y at *
  generalize (if x = 0 then y else x) = r at *
  go_enter Tryz.func80, Tryz.ntmps80
  go_wp2
  have c0 : ((W.alloc (.cells #[.string ak, .int .i64 av] 54)).alloc (.cells #[.string bk, .int .i64 bv] 54)).cell? ⟨W.heap.size, 0, none⟩ = some (.string ak) := by simp [go_sem]
  have c1 : ((W.alloc (.cells #[.string ak, .int .i64 av] 54)).alloc (.cells #[.string bk, .int .i64 bv] 54)).cell? ⟨W.heap.size, 1, none⟩ = some (.int .i64 av) := by simp [go_sem]
  have c2 : ((W.alloc (.cells #[.string ak, .int .i64 av] 54)).alloc (.cells #[.string bk, .int .i64 bv] 54)).cell? ⟨W.heap.size + 1, 0, none⟩ = some (.string bk) := by simp [go_sem]
  have c3 : ((W.alloc (.cells #[.string ak, .int .i64 av] 54)).alloc (.cells #[.string bk, .int .i64 bv] 54)).cell? ⟨W.heap.size + 1, 1, none⟩ = some (.int .i64 bv) := by simp [go_sem]
  have hg : (W.alloc (.cells #[.string ak, .int .i64 av] 54)).alloc (.cells #[.string bk, .int .i64 bv] 54) = grow (W.drewN 0) #[.cells #[.string ak, .int .i64 av] 54, .cells #[.string bk, .int .i64 bv] 54] := by rw [alloc_eq_grow, alloc_eq_grow, grow_grow]; rfl
  generalize (W.alloc (.cells #[.string ak, .int .i64 av] 54)).alloc (.cells #[.string bk, .int .i64 bv] 54) = W2 at *
  have HG := Lib.hid hg
  clear hg
  go_region_held3 (fun w' => w'.cell? ⟨W.heap.size, 0, none⟩ = some (.string ak) ∧ w'.cell? ⟨W.heap.size, 1, none⟩ = some (.int .i64 av) ∧ w'.cell? ⟨W.heap.size + 1, 0, none⟩ = some (.string bk) ∧ w'.cell? ⟨W.heap.size + 1, 1, none⟩ = some (.int .i64 bv)) (go_keep)
    (first
    | (go_at_call 89; refine (HB _).mono ?_; rintro e w3 ⟨rfl, rfl⟩)
    | (go_at_call 126; refine (HI _).mono ?_; rintro e w3 ⟨rfl, rfl⟩)
    | (go_at_call 125; refine (HO _ _ (by simp [go_sem]) (by simp [go_sem])).mono ?_; rintro e w3 ⟨rfl, rfl⟩))
  all_goals
    go_wp2
    go_ret
    exact ⟨rfl, 1, _, by rw [HG.out, alloc_eq_grow, grow_grow]; rfl⟩
end Go.Proofs.YtjfelfjobeeenaaGreat
