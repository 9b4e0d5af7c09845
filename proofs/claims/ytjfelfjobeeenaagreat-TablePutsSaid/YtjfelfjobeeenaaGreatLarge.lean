/- Rows of commands that came in; large(): the walk. Conditions: a row of commands in memory. -/
import Derived.Test.YtjfelfjobeeenaaGreatRSt
import Derived.Test.YtjfelfjobeeenaaGreatWorks2
namespace Go.Proofs.YtjfelfjobeeenaaGreat
open Go.RowKit Go.Sf Go.Shelf
set_option linter.unusedVariables false
/-- a row of commands that lies below base -/
def CmdRow (w : World) (base : Nat) (v : Value) (l : List Cmd) : Prop :=
  ∃ p cap, v = .slice p l.length cap ∧ l.length ≤ 9223372036854775807 ∧ (∀ c ∈ l, (c.key.size : Int) ≤ 9223372036854775807) ∧ (l = [] ∨ ∃ b off, p = some ⟨b, off, none⟩ ∧ b < base ∧ ∀ i, i < l.length → ∀ j u, (cmdCells (l.getD i wkD))[j]? = some u → w.cell? ⟨b, off + i * 8 + j, none⟩ = some u)
set_option maxHeartbeats 4000000 in
set_option maxRecDepth 100000 in
theorem large_any (v : Value) (l : List Cmd) (base : Nat) (w : World) (h : CmdRow w base v l) :
    Calls Tryz.prog 29 #[v] w fun e w' => ∃ r, e = .returned (.bool r) ∧ w.grownBy w' none ∧ (r = false → l.length ≤ 80) := by
  obtain ⟨p, cap, rfl, hlen, hks, hrow⟩ := h
  rcases Nat.lt_or_ge 80 l.length with h80 | h80
  · clear hrow hks
    go_enter Tryz.func29, Tryz.ntmps29
    go_wp2
    go_ret
    exact ⟨true, rfl, grown_refl _, by simp⟩
  · have HL : Hid (∀ r : Bool, r = false → l.length ≤ 80) := fun _ _ => h80
    have HK := Lib.hid hks
    have HR := Lib.hid hrow
    clear hks hrow
    generalize hn : l.length = m at *
    go_enter Tryz.func29, Tryz.ntmps29
    go_wp2
    go_loopw [3, 4] (fun s i wr => ∃ (j : Nat) (x : Int), j ≤ m ∧ i = .int .i64 j ∧ s = .int .i64 x ∧ 0 ≤ x ∧ x ≤ 2000 ∧ wr = w) (fun _ i _ => m - (intOf i).toNat)
    case atStart => exact ⟨0, 0, Nat.zero_le _, rfl, rfl, by omega, by omega, rfl⟩
    case round =>
      obtain ⟨j, x, hj, rfl, rfl, hx0, hx1, rfl⟩ := hrel
      rcases Nat.lt_or_ge j m with hlt | hge
      · rcases HR.out with h0 | ⟨b, off, rfl, hb, hc⟩
        · subst h0; simp at hn; omega
        · have hcell := hc j hlt 6 _ rfl
          have hk := HK.out (l.getD j wkD) (by simp only [List.getD_eq_getElem?_getD, List.getElem?_eq_getElem (show j < l.length by omega), Option.getD_some]; exact List.getElem_mem _)
          clear hc HR
          generalize l.getD j wkD = c at *
          obtain ⟨kind, node, client, inc, req, ver, key, code⟩ := c
          simp only at hcell hk
          generalize hks : (key.size : Int) = ks at *
          have hk0 : 0 ≤ ks := by omega
          by_cases hgt : 2000 - x < ks
          · go_wp2
            go_ret
            exact ⟨true, rfl, grown_refl _, by simp⟩
          · go_wp2
            go_roundw
            case rel => exact ⟨j + 1, x + ks, by omega, rfl, by simp, by omega, by omega, by simp⟩
            case measure => simp [intOf]; omega
      · go_wp2
        go_ret
        exact ⟨false, rfl, grown_refl _, HL.out _⟩
end Go.Proofs.YtjfelfjobeeenaaGreat
