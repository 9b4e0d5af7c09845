/- The example that the laws fall back on: works() answers true: the walk. -/
import Derived.Test.YtjfelfjobeeenaaGreatWorks
namespace Go.Proofs.YtjfelfjobeeenaaGreat
open Go.RowKit Go.Sf Go.Shelf
set_option linter.unusedVariables false
def cmdCells (c : Cmd) : List Value := [.int .u8 c.kind, .int .i64 c.node, .int .i64 c.client, .int .i64 c.inc, .int .i64 c.req, .int .i64 c.ver, .string c.key, .int .i64 c.code]
theorem wk_cells (k : Nat) (hk : k < 7) (j : Nat) (hj : j < 8) : ((wkC.flatMap cmdCells).toArray)[k * 8 + j]? = (cmdCells (wkC.getD k wkD))[j]? := by
  obtain rfl | rfl | rfl | rfl | rfl | rfl | rfl : k = 0 ∨ k = 1 ∨ k = 2 ∨ k = 3 ∨ k = 4 ∨ k = 5 ∨ k = 6 := by omega
  all_goals
    obtain rfl | rfl | rfl | rfl | rfl | rfl | rfl | rfl : j = 0 ∨ j = 1 ∨ j = 2 ∨ j = 3 ∨ j = 4 ∨ j = 5 ∨ j = 6 ∨ j = 7 := by omega
    all_goals rfl
/-- the block that holds the example's commands -/
structure WkRow (w : World) (g : Nat) : Prop where
  row : w.heap[g]? = some (.cells (wkC.flatMap cmdCells).toArray 24 (0, 0))
theorem WkRow.cell {w : World} {g : Nat} (h : WkRow w g) (k : Nat) (hk : k < 7) (j : Nat) (hj : j < 8) (o : Nat) (ho : o = k * 8 + j) (v : Value) (hv : (cmdCells (wkC.getD k wkD))[j]? = some v) : w.cell? ⟨g, o, none⟩ = some v := by
  subst ho
  rw [cell_block h.row, wk_cells k hk j hj, hv]
theorem WkRow.out {bs : Nat → Prop} {w w' : World} {g : Nat} (h : WkRow w g) (ho : Out bs w w') (hn : ¬ bs g) : WkRow w' g :=
  ⟨(ho.block g (Array.getElem?_eq_some_iff.1 h.row).1 hn).trans h.row⟩
attribute [local irreducible] stepT memH look wantedB callV in
set_option maxHeartbeats 2000000 in
set_option maxRecDepth 100000 in
theorem works_any (w : World) : Calls Tryz.prog 10 #[] w fun e w' => e = .returned (.bool true) ∧ w.grownBy w' none := by
  go_enter Tryz.func10, Tryz.ntmps10
  go_wp2_with (go_at_call 30; refine (new_at (bs := fun k => w.heap.size ≤ k) 3 2 3 rfl w (fun _ h => h)).mono ?_; rintro e w1 ⟨tb, rfl, hle, hA, hg⟩; have HA := Lib.hid hA; have HG := Lib.hid hg; clear hA hg)
  have hrow : WkRow (w1.alloc (.cells #[.int .u8 1, .int .i64 0, .int .i64 0, .int .i64 0, .int .i64 0, .int .i64 0, .string { data := #[] }, .int .i64 0, .int .u8 1, .int .i64 0, .int .i64 0, .int .i64 0, .int .i64 0, .int .i64 0, .string { data := #[] }, .int .i64 0, .int .u8 2, .int .i64 0, .int .i64 0, .int .i64 1, .int .i64 0, .int .i64 0, .string { data := #[] }, .int .i64 0, .int .u8 2, .int .i64 1, .int .i64 0, .int .i64 2, .int .i64 0, .int .i64 0, .string { data := #[] }, .int .i64 0, .int .u8 3, .int .i64 0, .int .i64 9, .int .i64 0, .int .i64 1, .int .i64 0, .string { data := #[97] }, .int .i64 0, .int .u8 4, .int .i64 0, .int .i64 0, .int .i64 1, .int .i64 0, .int .i64 1, .string { data := #[97] }, .int .i64 0, .int .u8 4, .int .i64 1, .int .i64 0, .int .i64 1, .int .i64 0, .int .i64 1, .string { data := #[97] }, .int .i64 0] 24)) w1.heap.size := ⟨heap_alloc_new _ _⟩
  have hg2 : w1.grownBy (w1.alloc (.cells #[.int .u8 1, .int .i64 0, .int .i64 0, .int .i64 0, .int .i64 0, .int .i64 0, .string { data := #[] }, .int .i64 0, .int .u8 1, .int .i64 0, .int .i64 0, .int .i64 0, .int .i64 0, .int .i64 0, .string { data := #[] }, .int .i64 0, .int .u8 2, .int .i64 0, .int .i64 0, .int .i64 1, .int .i64 0, .int .i64 0, .string { data := #[] }, .int .i64 0, .int .u8 2, .int .i64 1, .int .i64 0, .int .i64 2, .int .i64 0, .int .i64 0, .string { data := #[] }, .int .i64 0, .int .u8 3, .int .i64 0, .int .i64 9, .int .i64 0, .int .i64 1, .int .i64 0, .string { data := #[97] }, .int .i64 0, .int .u8 4, .int .i64 0, .int .i64 0, .int .i64 1, .int .i64 0, .int .i64 1, .string { data := #[97] }, .int .i64 0, .int .u8 4, .int .i64 1, .int .i64 0, .int .i64 1, .int .i64 0, .int .i64 1, .string { data := #[97] }, .int .i64 0] 24)) none := World.grownBy_alloc _ _ _
  have hs2 : w1.heap.size < (w1.alloc (.cells #[.int .u8 1, .int .i64 0, .int .i64 0, .int .i64 0, .int .i64 0, .int .i64 0, .string { data := #[] }, .int .i64 0, .int .u8 1, .int .i64 0, .int .i64 0, .int .i64 0, .int .i64 0, .int .i64 0, .string { data := #[] }, .int .i64 0, .int .u8 2, .int .i64 0, .int .i64 0, .int .i64 1, .int .i64 0, .int .i64 0, .string { data := #[] }, .int .i64 0, .int .u8 2, .int .i64 1, .int .i64 0, .int .i64 2, .int .i64 0, .int .i64 0, .string { data := #[] }, .int .i64 0, .int .u8 3, .int .i64 0, .int .i64 9, .int .i64 0, .int .i64 1, .int .i64 0, .string { data := #[97] }, .int .i64 0, .int .u8 4, .int .i64 0, .int .i64 0, .int .i64 1, .int .i64 0, .int .i64 1, .string { data := #[97] }, .int .i64 0, .int .u8 4, .int .i64 1, .int .i64 0, .int .i64 1, .int .i64 0, .int .i64 1, .string { data := #[97] }, .int .i64 0] 24)).heap.size := by simp
  generalize w1.alloc (.cells #[.int .u8 1, .int .i64 0, .int .i64 0, .int .i64 0, .int .i64 0, .int .i64 0, .string { data := #[] }, .int .i64 0, .int .u8 1, .int .i64 0, .int .i64 0, .int .i64 0, .int .i64 0, .int .i64 0, .string { data := #[] }, .int .i64 0, .int .u8 2, .int .i64 0, .int .i64 0, .int .i64 1, .int .i64 0, .int .i64 0, .string { data := #[] }, .int .i64 0, .int .u8 2, .int .i64 1, .int .i64 0, .int .i64 2, .int .i64 0, .int .i64 0, .string { data := #[] }, .int .i64 0, .int .u8 3, .int .i64 0, .int .i64 9, .int .i64 0, .int .i64 1, .int .i64 0, .string { data := #[97] }, .int .i64 0, .int .u8 4, .int .i64 0, .int .i64 0, .int .i64 1, .int .i64 0, .int .i64 1, .string { data := #[97] }, .int .i64 0, .int .u8 4, .int .i64 1, .int .i64 0, .int .i64 1, .int .i64 0, .int .i64 1, .string { data := #[97] }, .int .i64 0] 24) = w2 at *
  have HB : Hid (∀ k, w2.heap.size ≤ k → (w.heap.size ≤ k ∧ k ≠ w1.heap.size)) := (fun k hk => ⟨by have := HG.out.size; omega, by omega⟩)
  have HA2 : Hid (At (fun k => w.heap.size ≤ k ∧ k ≠ w1.heap.size) w2 tb (wkL 0)) := (show At _ _ _ _ from wkL_zero ▸ (HA.out.mono (fun k h1 h2 => ⟨h2, by omega⟩)).grown hg2)
  have HG2 := Lib.hid (grown_trans HG.out hg2)
  have HGL : Hid (w.heap.size ≤ w1.heap.size) := HG.out.size
  have HR := Lib.hid hrow
  clear HA HG hg2 hrow
  generalize hgb : w1.heap.size = g at *
  go_loopw [3] (fun i wr => ∃ k : Nat, k ≤ 7 ∧ i = .int .i64 k ∧ At (fun k => w.heap.size ≤ k ∧ k ≠ g) wr tb (wkL k) ∧ Out (fun k => w.heap.size ≤ k ∧ k ≠ g) w2 wr) (fun i _ => 7 - (intOf i).toNat)
  case atStart => exact ⟨0, by omega, rfl, HA2.out, Out.refl _ _⟩
  case round =>
    obtain ⟨k, hk, rfl, hat, hout⟩ := hrel
    have HAT := Lib.hid hat
    have HOUT := Lib.hid hout
    have HRW := Lib.hid (HR.out.out hout (fun h => h.2 rfl))
    have HBS : Hid (∀ k, wr.heap.size ≤ k → (w.heap.size ≤ k ∧ k ≠ g)) := (fun k hk => HB.out k (Nat.le_trans hout.size hk))
    clear hat hout
    rcases Nat.lt_or_ge k 7 with hlt | hge
    · have HGOOD := Lib.hid (wk_good k hlt)
      have HS := Lib.hid (wkL_succ k hlt)
      have c0 := HRW.out.cell k hlt 0 (by omega) (k * 8) (by omega) _ rfl
      have c1 := HRW.out.cell k hlt 1 (by omega) (k * 8 + 1) (by omega) _ rfl
      have c2 := HRW.out.cell k hlt 2 (by omega) (k * 8 + 2) (by omega) _ rfl
      have c3 := HRW.out.cell k hlt 3 (by omega) (k * 8 + 3) (by omega) _ rfl
      have c4 := HRW.out.cell k hlt 4 (by omega) (k * 8 + 4) (by omega) _ rfl
      have c5 := HRW.out.cell k hlt 5 (by omega) (k * 8 + 5) (by omega) _ rfl
      have c6 := HRW.out.cell k hlt 6 (by omega) (k * 8 + 6) (by omega) _ rfl
      have c7 := HRW.out.cell k hlt 7 (by omega) (k * 8 + 7) (by omega) _ rfl
      generalize wkC.getD k wkD = c at *
      obtain ⟨kind, node, client, inc, req, ver, key, code⟩ := c
      simp only at c0 c1 c2 c3 c4 c5 c6 c7
      go_wp2_with (go_at_call 22; go_loud (refine (do_good HAT.out ⟨kind, node, client, inc, req, ver, key, code⟩ HGOOD.out HBS.out).mono ?_; rintro e w3 ⟨rfl, hA3, hO3⟩; have HA3 := Lib.hid hA3; have HO3 := Lib.hid hO3; clear hA3 hO3))
      go_roundw
      case rel => exact ⟨k + 1, by omega, rfl, by rw [HS.out]; exact HA3.out, HOUT.out.trans HO3.out⟩
      case measure => simp [intOf]; omega
    · obtain rfl : k = 7 := by omega
      have HQ : Hid (St w g tb (wkL 7) wr) := (show St _ _ _ _ _ from ⟨HAT.out, (Out.of_grown HG2.out _).trans HOUT.out, Nat.lt_of_lt_of_le hs2 HOUT.out.size⟩)
      have hwg : w.heap.size ≤ g := HGL.out
      have F7 := Lib.hid wk_f7
      have F8 := Lib.hid wk_f8
      have F9 := Lib.hid wk_f9
      clear HAT HOUT HRW HBS HR HG2 HA2 HB
      generalize wkL 7 = L7 at *
      generalize wk8 = L8 at *
      generalize wk9 = L9 at *
      generalize (Value.agg #[.int .u8 1, .int .i64 0, .int .i64 0, .int .i64 0, .int .i64 0, .int .i64 0, .string { data := #[] }, .int .i64 0]) = ag1
      generalize (Value.agg #[.int .u8 2, .int .i64 0, .int .i64 0, .int .i64 1, .int .i64 0, .int .i64 0, .string { data := #[] }, .int .i64 0]) = ag3
      generalize (Value.agg #[.int .u8 2, .int .i64 1, .int .i64 0, .int .i64 2, .int .i64 0, .int .i64 0, .string { data := #[] }, .int .i64 0]) = ag4
      generalize (Value.agg #[.int .u8 3, .int .i64 0, .int .i64 9, .int .i64 0, .int .i64 1, .int .i64 0, .string { data := #[97] }, .int .i64 0]) = ag5
      generalize (Value.agg #[.int .u8 4, .int .i64 0, .int .i64 0, .int .i64 1, .int .i64 0, .int .i64 1, .string { data := #[97] }, .int .i64 0]) = ag6
      generalize (Value.agg #[.int .u8 4, .int .i64 1, .int .i64 0, .int .i64 1, .int .i64 0, .int .i64 1, .string { data := #[97] }, .int .i64 0]) = ag7
      go_wp2_with (first
        | (go_at_call 34; refine (HQ.out.look ⟨#[97]⟩ 0 F7.out.1).mono ?_; rintro e w3 ⟨rfl, hq, -⟩; replace HQ := Lib.hid hq; clear hq)
        | (go_at_call 45; refine (id_any ⟨#[97]⟩ 1 _).mono ?_; rintro e w3 ⟨rfl, hg⟩; replace HQ := Lib.hid (HQ.out.grown hg); clear hg)
        | (go_at_call 36; refine (HQ.out.wanted ⟨#[97]⟩ 1 true F7.out.2.1).mono ?_; rintro e w3 ⟨rfl, hq, -⟩; replace HQ := Lib.hid hq; clear hq)
        | (go_at_call 32; refine (HQ.out.call 9 1 1 false 0 F7.out.2.2.1).mono ?_; rintro e w3 ⟨rfl, hq, -⟩; replace HQ := Lib.hid hq; clear hq)
        | (go_at_call 37; refine (HQ.out.holders ⟨#[97]⟩ 1 1 F7.out.2.2.2.1 F7.out.2.2.2.2.1).mono ?_; rintro e w3 ⟨p, c, rfl, hq, -⟩; replace HQ := Lib.hid hq; clear hq))
      go_wp2_with (first
        | (go_at_call 22; refine (HQ.out.step hwg 4 1 0 2 0 1 ⟨#[97]⟩ 0 L8 F7.out.2.2.2.2.2.1 F7.out.2.2.2.2.2.2).mono ?_; rintro e w3 ⟨rfl, hq, -⟩; replace HQ := Lib.hid hq; clear hq)
        | (go_at_call 34; refine (HQ.out.look ⟨#[97]⟩ 1 F8.out.1).mono ?_; rintro e w3 ⟨rfl, hq, -⟩; replace HQ := Lib.hid hq; clear hq)
        | (go_at_call 45; refine (id_any ⟨#[97]⟩ 1 _).mono ?_; rintro e w3 ⟨rfl, hg⟩; replace HQ := Lib.hid (HQ.out.grown hg); clear hg)
        | (go_at_call 32; refine (HQ.out.call 9 1 1 true 0 F8.out.2.1).mono ?_; rintro e w3 ⟨rfl, hq, -⟩; replace HQ := Lib.hid hq; clear hq)
        | (go_at_call 37; refine (HQ.out.holders ⟨#[97]⟩ 1 2 F8.out.2.2.1 F8.out.2.2.2.1).mono ?_; rintro e w3 ⟨p, c, rfl, hq, -⟩; replace HQ := Lib.hid hq; clear hq)
        | (go_at_call 42; refine (HQ.out.current 1 F8.out.2.2.2.2.1 F8.out.2.2.2.2.2.1).mono ?_; rintro e w3 ⟨p, c, rfl, hq, -⟩; replace HQ := Lib.hid hq; clear hq))
      go_wp2_with (first
        | (go_at_call 22; refine (HQ.out.step hwg 6 0 9 0 2 0 ⟨#[97]⟩ 0 L9 F8.out.2.2.2.2.2.2.1 F8.out.2.2.2.2.2.2.2).mono ?_; rintro e w3 ⟨rfl, hq, -⟩; replace HQ := Lib.hid hq; clear hq)
        | (go_at_call 34; refine (HQ.out.look ⟨#[97]⟩ 0 F9.out.1).mono ?_; rintro e w3 ⟨rfl, hq, -⟩; replace HQ := Lib.hid hq; clear hq)
        | (go_at_call 42; refine (HQ.out.current 0 F9.out.2.1 F9.out.2.2.1).mono ?_; rintro e w3 ⟨p, c, rfl, hq, -⟩; replace HQ := Lib.hid hq; clear hq)
        | (go_at_call 31; refine (HQ.out.next 3 F9.out.2.2.2).mono ?_; rintro e w3 ⟨rfl, hq, -⟩; replace HQ := Lib.hid hq; clear hq))
      go_ret
      exact ⟨rfl, HQ.out.base⟩
end Go.Proofs.YtjfelfjobeeenaaGreat
