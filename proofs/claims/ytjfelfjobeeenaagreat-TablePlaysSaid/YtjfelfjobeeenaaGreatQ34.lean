/- The example that the laws fall back on: works() answers true: the walk. Rows of commands that came in; large(): the walk. Conditions: a row of commands in memory. play, TablePlays: the walks. Conditions: both tables lie in memory, apart, and go together. TablePlays: the walk: it answers true. Conditions: a row of commands in memory. A law that leaves all old memory alone: its row's last step. Conditions: none. -/
import Derived.Test.YtjfelfjobeeenaaGreatQ21
import Derived.Test.YtjfelfjobeeenaaGreatQ33
import Derived.Test.YtjfelfjobeeenaaGreatRows
import Derived.WalkKit
import Derived.ProofKit
import Derived.OpenShut
namespace Go.Proofs.YtjfelfjobeeenaaGreat
open Go.RowKit Go.Sf Go.Shelf
set_option linter.unusedVariables false
def cmdCells (c : Cmd) : List Value := [.int .u8 c.kind, .int .i64 c.node, .int .i64 c.client, .int .i64 c.inc, .int .i64 c.req, .int .i64 c.ver, .string c.key, .int .i64 c.code]
theorem wk_cells (k : Nat) (hk : k < 7) (j : Nat) (hj : j < 8) : ((wkC.flatMap cmdCells).toArray)[k * 8 + j]? = (cmdCells (wkC.getD k wkD))[j]? := by
  obtain rfl | rfl | rfl | rfl | rfl | rfl | rfl : k = 0 ∨ k = 1 ∨ k = 2 ∨ k = 3 ∨ k = 4 ∨ k = 5 ∨ k = 6 := by omega
  all_goals
    obtain rfl | rfl | rfl | rfl | rfl | rfl | rfl | rfl : j = 0 ∨ j = 1 ∨ j = 2 ∨ j = 3 ∨ j = 4 ∨ j = 5 ∨ j = 6 ∨ j = 7 := by omega
    all_goals rfl
/-- the block that holds the example's commands -/
structure WkRow (w : World) (g : Nat) : Prop where
  row : w.heap[g]? = some (.cells (wkC.flatMap cmdCells).toArray 24 (0, 0))
theorem WkRow.cell {w : World} {g : Nat} (h : WkRow w g) (k : Nat) (hk : k < 7) (j : Nat) (hj : j < 8) (o : Nat) (ho : o = k * 8 + j) (v : Value) (hv : (cmdCells (wkC.getD k wkD))[j]? = some v) : w.cell? ⟨g, o, none⟩ = some v := by
  subst ho
  rw [cell_block h.row, wk_cells k hk j hj, hv]
theorem WkRow.out {bs : Nat → Prop} {w w' : World} {g : Nat} (h : WkRow w g) (ho : Out bs w w') (hn : ¬ bs g) : WkRow w' g :=
  ⟨(ho.block g (Array.getElem?_eq_some_iff.1 h.row).1 hn).trans h.row⟩
attribute [local irreducible] stepT memH look wantedB callV in
set_option maxHeartbeats 2000000 in
set_option maxRecDepth 100000 in
theorem works_any (w : World) : Calls Tryz.prog 10 #[] w fun e w' => e = .returned (.bool true) ∧ w.grownBy w' none := by
  go_enter Tryz.func10, Tryz.ntmps10
  go_wp2_with (go_at_call 30; refine (new_at (bs := fun k => w.heap.size ≤ k) 3 2 3 rfl w (fun _ h => h)).mono ?_; rintro e w1 ⟨tb, rfl, hle, hA, hg⟩; have HA := Lib.hid hA; have HG := Lib.hid hg; clear hA hg)
  have hrow : WkRow (w1.alloc (.cells #[.int .u8 1, .int .i64 0, .int .i64 0, .int .i64 0, .int .i64 0, .int .i64 0, .string { data := #[] }, .int .i64 0, .int .u8 1, .int .i64 0, .int .i64 0, .int .i64 0, .int .i64 0, .int .i64 0, .string { data := #[] }, .int .i64 0, .int .u8 2, .int .i64 0, .int .i64 0, .int .i64 1, .int .i64 0, .int .i64 0, .string { data := #[] }, .int .i64 0, .int .u8 2, .int .i64 1, .int .i64 0, .int .i64 2, .int .i64 0, .int .i64 0, .string { data := #[] }, .int .i64 0, .int .u8 3, .int .i64 0, .int .i64 9, .int .i64 0, .int .i64 1, .int .i64 0, .string { data := #[97] }, .int .i64 0, .int .u8 4, .int .i64 0, .int .i64 0, .int .i64 1, .int .i64 0, .int .i64 1, .string { data := #[97] }, .int .i64 0, .int .u8 4, .int .i64 1, .int .i64 0, .int .i64 1, .int .i64 0, .int .i64 1, .string { data := #[97] }, .int .i64 0] 24)) w1.heap.size := ⟨heap_alloc_new _ _⟩
  have hg2 : w1.grownBy (w1.alloc (.cells #[.int .u8 1, .int .i64 0, .int .i64 0, .int .i64 0, .int .i64 0, .int .i64 0, .string { data := #[] }, .int .i64 0, .int .u8 1, .int .i64 0, .int .i64 0, .int .i64 0, .int .i64 0, .int .i64 0, .string { data := #[] }, .int .i64 0, .int .u8 2, .int .i64 0, .int .i64 0, .int .i64 1, .int .i64 0, .int .i64 0, .string { data := #[] }, .int .i64 0, .int .u8 2, .int .i64 1, .int .i64 0, .int .i64 2, .int .i64 0, .int .i64 0, .string { data := #[] }, .int .i64 0, .int .u8 3, .int .i64 0, .int .i64 9, .int .i64 0, .int .i64 1, .int .i64 0, .string { data := #[97] }, .int .i64 0, .int .u8 4, .int .i64 0, .int .i64 0, .int .i64 1, .int .i64 0, .int .i64 1, .string { data := #[97] }, .int .i64 0, .int .u8 4, .int .i64 1, .int .i64 0, .int .i64 1, .int .i64 0, .int .i64 1, .string { data := #[97] }, .int .i64 0] 24)) none := World.grownBy_alloc _ _ _
  have hs2 : w1.heap.size < (w1.alloc (.cells #[.int .u8 1, .int .i64 0, .int .i64 0, .int .i64 0, .int .i64 0, .int .i64 0, .string { data := #[] }, .int .i64 0, .int .u8 1, .int .i64 0, .int .i64 0, .int .i64 0, .int .i64 0, .int .i64 0, .string { data := #[] }, .int .i64 0, .int .u8 2, .int .i64 0, .int .i64 0, .int .i64 1, .int .i64 0, .int .i64 0, .string { data := #[] }, .int .i64 0, .int .u8 2, .int .i64 1, .int .i64 0, .int .i64 2, .int .i64 0, .int .i64 0, .string { data := #[] }, .int .i64 0, .int .u8 3, .int .i64 0, .int .i64 9, .int .i64 0, .int .i64 1, .int .i64 0, .string { data := #[97] }, .int .i64 0, .int .u8 4, .int .i64 0, .int .i64 0, .int .i64 1, .int .i64 0, .int .i64 1, .string { data := #[97] }, .int .i64 0, .int .u8 4, .int .i64 1, .int .i64 0, .int .i64 1, .int .i64 0, .int .i64 1, .string { data := #[97] }, .int .i64 0] 24)).heap.size := by simp
  generalize w1.alloc (.cells #[.int .u8 1, .int .i64 0, .int .i64 0, .int .i64 0, .int .i64 0, .int .i64 0, .string { data := #[] }, .int .i64 0, .int .u8 1, .int .i64 0, .int .i64 0, .int .i64 0, .int .i64 0, .int .i64 0, .string { data := #[] }, .int .i64 0, .int .u8 2, .int .i64 0, .int .i64 0, .int .i64 1, .int .i64 0, .int .i64 0, .string { data := #[] }, .int .i64 0, .int .u8 2, .int .i64 1, .int .i64 0, .int .i64 2, .int .i64 0, .int .i64 0, .string { data := #[] }, .int .i64 0, .int .u8 3, .int .i64 0, .int .i64 9, .int .i64 0, .int .i64 1, .int .i64 0, .string { data := #[97] }, .int .i64 0, .int .u8 4, .int .i64 0, .int .i64 0, .int .i64 1, .int .i64 0, .int .i64 1, .string { data := #[97] }, .int .i64 0, .int .u8 4, .int .i64 1, .int .i64 0, .int .i64 1, .int .i64 0, .int .i64 1, .string { data := #[97] }, .int .i64 0] 24) = w2 at *
  have HB : Hid (∀ k, w2.heap.size ≤ k → (w.heap.size ≤ k ∧ k ≠ w1.heap.size)) := (fun k hk => ⟨by have := HG.out.size; omega, by omega⟩)
  have HA2 : Hid (At (fun k => w.heap.size ≤ k ∧ k ≠ w1.heap.size) w2 tb (wkL 0)) := (show At _ _ _ _ from wkL_zero ▸ (HA.out.mono (fun k h1 h2 => ⟨h2, by omega⟩)).grown hg2)
  have HG2 := Lib.hid (grown_trans HG.out hg2)
  have HGL : Hid (w.heap.size ≤ w1.heap.size) := HG.out.size
  have HR := Lib.hid hrow
  clear HA HG hg2 hrow
  generalize hgb : w1.heap.size = g at *
  go_loopw [3] (fun i wr => ∃ k : Nat, k ≤ 7 ∧ i = .int .i64 k ∧ At (fun k => w.heap.size ≤ k ∧ k ≠ g) wr tb (wkL k) ∧ Out (fun k => w.heap.size ≤ k ∧ k ≠ g) w2 wr) (fun i _ => 7 - (intOf i).toNat)
  case atStart => exact ⟨0, by omega, rfl, HA2.out, Out.refl _ _⟩
  case round =>
    obtain ⟨k, hk, rfl, hat, hout⟩ := hrel
    have HAT := Lib.hid hat
    have HOUT := Lib.hid hout
    have HRW := Lib.hid (HR.out.out hout (fun h => h.2 rfl))
    have HBS : Hid (∀ k, wr.heap.size ≤ k → (w.heap.size ≤ k ∧ k ≠ g)) := (fun k hk => HB.out k (Nat.le_trans hout.size hk))
    clear hat hout
    rcases Nat.lt_or_ge k 7 with hlt | hge
    · have HGOOD := Lib.hid (wk_good k hlt)
      have HS := Lib.hid (wkL_succ k hlt)
      have c0 := HRW.out.cell k hlt 0 (by omega) (k * 8) (by omega) _ rfl
      have c1 := HRW.out.cell k hlt 1 (by omega) (k * 8 + 1) (by omega) _ rfl
      have c2 := HRW.out.cell k hlt 2 (by omega) (k * 8 + 2) (by omega) _ rfl
      have c3 := HRW.out.cell k hlt 3 (by omega) (k * 8 + 3) (by omega) _ rfl
      have c4 := HRW.out.cell k hlt 4 (by omega) (k * 8 + 4) (by omega) _ rfl
      have c5 := HRW.out.cell k hlt 5 (by omega) (k * 8 + 5) (by omega) _ rfl
      have c6 := HRW.out.cell k hlt 6 (by omega) (k * 8 + 6) (by omega) _ rfl
      have c7 := HRW.out.cell k hlt 7 (by omega) (k * 8 + 7) (by omega) _ rfl
      generalize wkC.getD k wkD = c at *
      obtain ⟨kind, node, client, inc, req, ver, key, code⟩ := c
      simp only at c0 c1 c2 c3 c4 c5 c6 c7
      go_wp2_with (go_at_call 22; go_loud (refine (do_good HAT.out ⟨kind, node, client, inc, req, ver, key, code⟩ HGOOD.out HBS.out).mono ?_; rintro e w3 ⟨rfl, hA3, hO3⟩; have HA3 := Lib.hid hA3; have HO3 := Lib.hid hO3; clear hA3 hO3))
      go_roundw
      case rel => exact ⟨k + 1, by omega, rfl, by rw [HS.out]; exact HA3.out, HOUT.out.trans HO3.out⟩
      case measure => simp [intOf]; omega
    · obtain rfl : k = 7 := by omega
      have HQ : Hid (St w g tb (wkL 7) wr) := (show St _ _ _ _ _ from ⟨HAT.out, (Out.of_grown HG2.out _).trans HOUT.out, Nat.lt_of_lt_of_le hs2 HOUT.out.size⟩)
      have hwg : w.heap.size ≤ g := HGL.out
      have F7 := Lib.hid wk_f7
      have F8 := Lib.hid wk_f8
      have F9 := Lib.hid wk_f9
      clear HAT HOUT HRW HBS HR HG2 HA2 HB
      generalize wkL 7 = L7 at *
      generalize wk8 = L8 at *
      generalize wk9 = L9 at *
      generalize (Value.agg #[.int .u8 1, .int .i64 0, .int .i64 0, .int .i64 0, .int .i64 0, .int .i64 0, .string { data := #[] }, .int .i64 0]) = ag1
      generalize (Value.agg #[.int .u8 2, .int .i64 0, .int .i64 0, .int .i64 1, .int .i64 0, .int .i64 0, .string { data := #[] }, .int .i64 0]) = ag3
      generalize (Value.agg #[.int .u8 2, .int .i64 1, .int .i64 0, .int .i64 2, .int .i64 0, .int .i64 0, .string { data := #[] }, .int .i64 0]) = ag4
      generalize (Value.agg #[.int .u8 3, .int .i64 0, .int .i64 9, .int .i64 0, .int .i64 1, .int .i64 0, .string { data := #[97] }, .int .i64 0]) = ag5
      generalize (Value.agg #[.int .u8 4, .int .i64 0, .int .i64 0, .int .i64 1, .int .i64 0, .int .i64 1, .string { data := #[97] }, .int .i64 0]) = ag6
      generalize (Value.agg #[.int .u8 4, .int .i64 1, .int .i64 0, .int .i64 1, .int .i64 0, .int .i64 1, .string { data := #[97] }, .int .i64 0]) = ag7
      go_wp2_with (first
        | (go_at_call 34; refine (HQ.out.look ⟨#[97]⟩ 0 F7.out.1).mono ?_; rintro e w3 ⟨rfl, hq, -⟩; replace HQ := Lib.hid hq; clear hq)
        | (go_at_call 45; refine (id_any ⟨#[97]⟩ 1 _).mono ?_; rintro e w3 ⟨rfl, hg⟩; replace HQ := Lib.hid (HQ.out.grown hg); clear hg)
        | (go_at_call 36; refine (HQ.out.wanted ⟨#[97]⟩ 1 true F7.out.2.1).mono ?_; rintro e w3 ⟨rfl, hq, -⟩; replace HQ := Lib.hid hq; clear hq)
        | (go_at_call 32; refine (HQ.out.call 9 1 1 false 0 F7.out.2.2.1).mono ?_; rintro e w3 ⟨rfl, hq, -⟩; replace HQ := Lib.hid hq; clear hq)
        | (go_at_call 37; refine (HQ.out.holders ⟨#[97]⟩ 1 1 F7.out.2.2.2.1 F7.out.2.2.2.2.1).mono ?_; rintro e w3 ⟨p, c, rfl, hq, -⟩; replace HQ := Lib.hid hq; clear hq))
      go_wp2_with (first
        | (go_at_call 22; refine (HQ.out.step hwg 4 1 0 2 0 1 ⟨#[97]⟩ 0 L8 F7.out.2.2.2.2.2.1 F7.out.2.2.2.2.2.2).mono ?_; rintro e w3 ⟨rfl, hq, -⟩; replace HQ := Lib.hid hq; clear hq)
        | (go_at_call 34; refine (HQ.out.look ⟨#[97]⟩ 1 F8.out.1).mono ?_; rintro e w3 ⟨rfl, hq, -⟩; replace HQ := Lib.hid hq; clear hq)
        | (go_at_call 45; refine (id_any ⟨#[97]⟩ 1 _).mono ?_; rintro e w3 ⟨rfl, hg⟩; replace HQ := Lib.hid (HQ.out.grown hg); clear hg)
        | (go_at_call 32; refine (HQ.out.call 9 1 1 true 0 F8.out.2.1).mono ?_; rintro e w3 ⟨rfl, hq, -⟩; replace HQ := Lib.hid hq; clear hq)
        | (go_at_call 37; refine (HQ.out.holders ⟨#[97]⟩ 1 2 F8.out.2.2.1 F8.out.2.2.2.1).mono ?_; rintro e w3 ⟨p, c, rfl, hq, -⟩; replace HQ := Lib.hid hq; clear hq)
        | (go_at_call 42; refine (HQ.out.current 1 F8.out.2.2.2.2.1 F8.out.2.2.2.2.2.1).mono ?_; rintro e w3 ⟨p, c, rfl, hq, -⟩; replace HQ := Lib.hid hq; clear hq))
      go_wp2_with (first
        | (go_at_call 22; refine (HQ.out.step hwg 6 0 9 0 2 0 ⟨#[97]⟩ 0 L9 F8.out.2.2.2.2.2.2.1 F8.out.2.2.2.2.2.2.2).mono ?_; rintro e w3 ⟨rfl, hq, -⟩; replace HQ := Lib.hid hq; clear hq)
        | (go_at_call 34; refine (HQ.out.look ⟨#[97]⟩ 0 F9.out.1).mono ?_; rintro e w3 ⟨rfl, hq, -⟩; replace HQ := Lib.hid hq; clear hq)
        | (go_at_call 42; refine (HQ.out.current 0 F9.out.2.1 F9.out.2.2.1).mono ?_; rintro e w3 ⟨p, c, rfl, hq, -⟩; replace HQ := Lib.hid hq; clear hq)
        | (go_at_call 31; refine (HQ.out.next 3 F9.out.2.2.2).mono ?_; rintro e w3 ⟨rfl, hq, -⟩; replace HQ := Lib.hid hq; clear hq))
      go_ret
      exact ⟨rfl, HQ.out.base⟩
end Go.Proofs.YtjfelfjobeeenaaGreat
namespace Go.Proofs.YtjfelfjobeeenaaGreat
open Go.RowKit Go.Sf Go.Shelf
set_option linter.unusedVariables false
/-- a row of commands that lies below base -/
def CmdRow (w : World) (base : Nat) (v : Value) (l : List Cmd) : Prop :=
  ∃ p cap, v = .slice p l.length cap ∧ l.length ≤ 9223372036854775807 ∧ (∀ c ∈ l, (c.key.size : Int) ≤ 9223372036854775807) ∧ (l = [] ∨ ∃ b off, p = some ⟨b, off, none⟩ ∧ b < base ∧ ∀ i, i < l.length → ∀ j u, (cmdCells (l.getD i wkD))[j]? = some u → w.cell? ⟨b, off + i * 8 + j, none⟩ = some u)
set_option maxHeartbeats 4000000 in
set_option maxRecDepth 100000 in
theorem large_any (v : Value) (l : List Cmd) (base : Nat) (w : World) (h : CmdRow w base v l) :
    Calls Tryz.prog 29 #[v] w fun e w' => ∃ r, e = .returned (.bool r) ∧ w.grownBy w' none ∧ (r = false → l.length ≤ 80) := by
  obtain ⟨p, cap, rfl, hlen, hks, hrow⟩ := h
  rcases Nat.lt_or_ge 80 l.length with h80 | h80
  · clear hrow hks
    go_enter Tryz.func29, Tryz.ntmps29
    go_wp2
    go_ret
    exact ⟨true, rfl, grown_refl _, by simp⟩
  · have HL : Hid (∀ r : Bool, r = false → l.length ≤ 80) := fun _ _ => h80
    have HK := Lib.hid hks
    have HR := Lib.hid hrow
    clear hks hrow
    generalize hn : l.length = m at *
    go_enter Tryz.func29, Tryz.ntmps29
    go_wp2
    go_loopw [3, 4] (fun s i wr => ∃ (j : Nat) (x : Int), j ≤ m ∧ i = .int .i64 j ∧ s = .int .i64 x ∧ 0 ≤ x ∧ x ≤ 2000 ∧ wr = w) (fun _ i _ => m - (intOf i).toNat)
    case atStart => exact ⟨0, 0, Nat.zero_le _, rfl, rfl, by omega, by omega, rfl⟩
    case round =>
      obtain ⟨j, x, hj, rfl, rfl, hx0, hx1, rfl⟩ := hrel
      rcases Nat.lt_or_ge j m with hlt | hge
      · rcases HR.out with h0 | ⟨b, off, rfl, hb, hc⟩
        · subst h0; simp at hn; omega
        · have hcell := hc j hlt 6 _ rfl
          have hk := HK.out (l.getD j wkD) (by simp only [List.getD_eq_getElem?_getD, List.getElem?_eq_getElem (show j < l.length by omega), Option.getD_some]; exact List.getElem_mem _)
          clear hc HR
          generalize l.getD j wkD = c at *
          obtain ⟨kind, node, client, inc, req, ver, key, code⟩ := c
          simp only at hcell hk
          generalize hks : (key.size : Int) = ks at *
          have hk0 : 0 ≤ ks := by omega
          by_cases hgt : 2000 - x < ks
          · go_wp2
            go_ret
            exact ⟨true, rfl, grown_refl _, by simp⟩
          · go_wp2
            go_roundw
            case rel => exact ⟨j + 1, x + ks, by omega, rfl, by simp, by omega, by omega, by simp⟩
            case measure => simp [intOf]; omega
      · go_wp2
        go_ret
        exact ⟨false, rfl, grown_refl _, HL.out _⟩
end Go.Proofs.YtjfelfjobeeenaaGreat
namespace Go.Proofs.YtjfelfjobeeenaaGreat
open Go.RowKit Go.Sf Go.Shelf
set_option linter.unusedVariables false
set_option maxHeartbeats 1000000 in
set_option maxRecDepth 100000 in
theorem plainC_any (c : Cmd) (W : World) : Calls Tryz.prog 12 #[encCmd c] W fun e w' => e = .returned (encCmd c) ∧ W.grownBy w' none := by
  simp only [encCmd]
  go_enter Tryz.func12, Tryz.ntmps12
  go_wp2
  refine bodyPost_ret (v := encCmd c) (by simp [encCmd, results, Tryz.results12, go_sem]) rfl ⟨rfl, by repeat (first | exact grown_refl _ | exact World.grownBy_alloc _ _ _ | refine grown_alloc ?_ _ | refine grown_drew ?_)⟩
theorem Duo.kept {w0 W W' : World} {own : Nat → Prop} {tb rb : Nat} {L : Tab} {R : RTab} (h : Duo w0 own tb rb L R W) (hg : W.grownBy W' none) : Same own W W' := fun k hk => hg.block k (h.lt k hk) (by simp)
theorem Same.sub {own own' : Nat → Prop} {W W' : World} (h : Same own W W') (hs : ∀ k, own' k → own k) : Same own' W W' := fun k hk => h k (hs k hk)
theorem cmd8 {w : World} {b : Nat} {a0 a1 a2 a3 a4 a5 a6 a7 : Value} {t : TypeId} (h : w.heap[b]? = some (.cells #[a0, a1, a2, a3, a4, a5, a6, a7] t (0, 0))) :
    w.cell? ⟨b, 0, none⟩ = some a0 ∧ w.cell? ⟨b, 1, none⟩ = some a1 ∧ w.cell? ⟨b, 2, none⟩ = some a2 ∧ w.cell? ⟨b, 3, none⟩ = some a3 ∧ w.cell? ⟨b, 4, none⟩ = some a4 ∧ w.cell? ⟨b, 5, none⟩ = some a5 ∧ w.cell? ⟨b, 6, none⟩ = some a6 ∧ w.cell? ⟨b, 7, none⟩ = some a7 :=
  ⟨(cell_block h 0).trans rfl, (cell_block h 1).trans rfl, (cell_block h 2).trans rfl, (cell_block h 3).trans rfl, (cell_block h 4).trans rfl, (cell_block h 5).trans rfl, (cell_block h 6).trans rfl, (cell_block h 7).trans rfl⟩
section
variable {w0 W : World} {own : Nat → Prop} {tb rb : Nat} {L : Tab} {R : RTab}
set_option maxHeartbeats 8000000 in
set_option maxRecDepth 100000 in
theorem play_any {n k j : Nat} (h : Duo w0 own tb rb L R W) (hb : Both n k j L R) (hn : n ≤ 1000) (hk : k ≤ 1000) (hj : j ≤ 900) (kind node client inc req ver : Int) (key : ByteArray) (code : Int) (hkey : (key.size : Int) ≤ 9223372036854775807) :
    Calls Tryz.prog 39 #[.pointer (some ⟨tb, 0, none⟩), .pointer (some ⟨rb, 0, none⟩), .agg #[.int .u8 kind, .int .i64 node, .int .i64 client, .int .i64 inc, .int .i64 req, .int .i64 ver, .string key, .int .i64 code]] W fun e w' =>
      e = .returned (.bool true) ∧ Duo w0 own tb rb (actT L ⟨kind, node, client, inc, req, ver, key, code⟩) (ractT R ⟨kind, node, client, inc, req, ver, key, code⟩) w' ∧ Same own W w' := by
  obtain ⟨c, hc⟩ : ∃ c : Cmd, c = ⟨kind, node, client, inc, req, ver, key, code⟩ := ⟨_, rfl⟩
  have hkc : (c.key.size : Int) ≤ 9223372036854775807 := by rw [hc]; exact hkey
  have hcv : encCmd c = .agg #[.int .u8 kind, .int .i64 node, .int .i64 client, .int .i64 inc, .int .i64 req, .int .i64 ver, .string key, .int .i64 code] := by rw [hc]; rfl
  have hcn : c.node = node := by rw [hc]
  have HPL : Hid (∀ W', Calls Tryz.prog 12 #[.agg #[.int .u8 kind, .int .i64 node, .int .i64 client, .int .i64 inc, .int .i64 req, .int .i64 ver, .string key, .int .i64 code]] W' fun e w' => e = .returned (.agg #[.int .u8 kind, .int .i64 node, .int .i64 client, .int .i64 inc, .int .i64 req, .int .i64 ver, .string key, .int .i64 code]) ∧ W'.grownBy w' none) := (show ∀ _, _ from fun W' => by have := plainC_any c W'; rw [hcv] at this; exact this)
  have HMY : Hid (∀ W', Calls Tryz.prog 11 #[.agg #[.int .u8 kind, .int .i64 node, .int .i64 client, .int .i64 inc, .int .i64 req, .int .i64 ver, .string key, .int .i64 code]] W' fun e w' => e = .returned (.bool (mayB c)) ∧ W'.grownBy w' none) := (show ∀ _, _ from fun W' => by have := rmay_any c hkc W'; rw [hcv] at this; exact this)
  have hN := hb.sim.s0.N
  have hln := hb.inv.ln
  have hx1 := hb.rb.x1
  have ho1 := hb.rb.o1
  have hnx := hb.sim.s0.next
  have hof := hb.sim.s0.offers
  have HDT : Hid (∀ (own' : Nat → Prop) (W' : World), Duo w0 own' tb rb L R W' → Calls Tryz.prog 22 #[.pointer (some ⟨tb, 0, none⟩), .agg #[.int .u8 kind, .int .i64 node, .int .i64 client, .int .i64 inc, .int .i64 req, .int .i64 ver, .string key, .int .i64 code]] W' fun e w' => e = .returned (.int .i64 (if mayB c = true ∧ node < R.N then 0 else 2)) ∧ Duo w0 own' tb rb (actT L c) R w' ∧ Same own' W' w') := (show ∀ (_ : Nat → Prop) (_ : World), _ → Calls _ _ _ _ _ from fun own' W' hp => by
    have := hp.doT hb.inv (by omega) (by omega) (by omega) c hkc
    rw [hcv, hcn, ← hN] at this
    exact this)
  have HDR : Hid (mayB c = true → node < R.N → ∀ (own' : Nat → Prop) (W' : World) (L' : Tab), Duo w0 own' tb rb L' R W' → Calls Tryz.prog 60 #[.pointer (some ⟨rb, 0, none⟩), .agg #[.int .u8 kind, .int .i64 node, .int .i64 client, .int .i64 inc, .int .i64 req, .int .i64 ver, .string key, .int .i64 code]] W' fun e w' => e = .returned (.tuple #[]) ∧ Duo w0 own' tb rb L' (rdo R c) w' ∧ Same own' W' w') := (show _ → _ → ∀ (_ : Nat → Prop) (_ : World) (_ : Tab), _ → Calls _ _ _ _ _ from fun hm hlt own' W' L' hp => by
    have hkd := may_kind hm
    have hok := hb.rb.rok (by omega) hb.inv hb.sim hn hk
    have := hp.doR hok c hkd.1 hkd.2.1 hkd.2.2 (by rw [hcn, ← hok.nn]; exact hlt)
    rw [hcv] at this
    exact this)
  have HBS : Hid (Both n k (j + 1) (actT L c) (ractT R c)) := (show Both _ _ _ _ _ from both_step hb c)
  have HTE : Hid (∀ (own' : Nat → Prop) (W' : World), Duo w0 own' tb rb (actT L c) (ractT R c) W' → Calls Tryz.prog 83 #[.pointer (some ⟨tb, 0, none⟩), .pointer (some ⟨rb, 0, none⟩), .agg #[.int .u8 kind, .int .i64 node, .int .i64 client, .int .i64 inc, .int .i64 req, .int .i64 ver, .string key, .int .i64 code]] W' fun e w' => e = .returned (.bool true) ∧ W'.grownBy w' none) := (show ∀ (_ : Nat → Prop) (_ : World), _ → Calls _ _ _ _ _ from fun own' W' hp => tells_any (hp.telling HBS.out hn hk (by omega)) hp.tlt.1 hp.tlt.2 kind node client inc req ver code key)
  have HRA : Hid (ractT R c = if mayB c = true ∧ node < R.N then rdo R c else R) := (show _ = _ from by unfold ractT; rw [hcn])
  have HC0 : Hid (W.cell? ⟨rb, 0, none⟩ = some (.int .i64 R.N)) := (show _ = _ from (h.telling hb hn hk (by omega)).rc0)
  have HP := Lib.hid h
  have htb := h.tlt.1
  have hrb := h.tlt.2
  rw [← hc]
  clear h hb hN hln hx1 ho1 hnx hof hcn hcv hkc hc HBS
  generalize actT L c = L2 at *
  generalize ractT R c = R2 at *
  generalize rdo R c = R3 at *
  generalize hmb : mayB c = mb at *
  clear hmb
  generalize R.N = N at *
  go_enter Tryz.func39, Tryz.ntmps39
  go_upto_region 1 with fail
  have HG0 := Lib.hid (World.grownBy_alloc W (.cells #[.int .u8 kind, .int .i64 node, .int .i64 client, .int .i64 inc, .int .i64 req, .int .i64 ver, .string key, .int .i64 code] 24) none)
  have HB0 := Lib.hid (heap_alloc_new W (.cells #[.int .u8 kind, .int .i64 node, .int .i64 client, .int .i64 inc, .int .i64 req, .int .i64 ver, .string key, .int .i64 code] 24))
  have HS0 := Lib.hid (HP.out.fresh HG0.out W.heap.size (Nat.le_refl _) (by simp))
  have lcb : W.heap.size < (W.alloc (.cells #[.int .u8 kind, .int .i64 node, .int .i64 client, .int .i64 inc, .int .i64 req, .int .i64 ver, .string key, .int .i64 code] 24)).heap.size := by simp
  have lrb : rb < (W.alloc (.cells #[.int .u8 kind, .int .i64 node, .int .i64 client, .int .i64 inc, .int .i64 req, .int .i64 ver, .string key, .int .i64 code] 24)).heap.size := by simp; omega
  generalize W.alloc (.cells #[.int .u8 kind, .int .i64 node, .int .i64 client, .int .i64 inc, .int .i64 req, .int .i64 ver, .string key, .int .i64 code] 24) = wa at *
  have HCB : Hid (∀ k, own k → k < W.heap.size) := (show ∀ _, _ → _ from HP.out.lt)
  generalize hcb : W.heap.size = cb at *
  clear hcb
  obtain ⟨d0, d1, d2, d3, d4, d5, d6, d7⟩ := cmd8 HB0.out
  have r0 : wa.cell? ⟨rb, 0, none⟩ = some (.int .i64 N) := HG0.out.cell HC0.out (by simp)
  go_cut [7] (fun s wx => s = .bool (mb && decide (node < N)) ∧ wa.grownBy wx none)
  case first =>
    cases mb with
    | false =>
      refine wp_region_quiet_ext (by kernel_rfl) (by kernel_rfl) ?_
      repeat (any_goals (first | go_big_quiet_step ((first | (go_at_call 12; exact calls_ext (HPL.out _)) | (go_at_call 11; exact calls_ext (HMY.out _)))) | quiet_step ((first | (go_at_call 12; exact calls_ext (HPL.out _)) | (go_at_call 11; exact calls_ext (HMY.out _))))))
      refine wpQuiet_nil ?_
      intro _ hw'
      obtain ⟨x, hw''⟩ := hw'
      subst hw''
      go_wp2_with fail
      go_meet
      exact ⟨rfl, grown_ext wa x⟩
    | true =>
      generalize hbl : decide (node < N) = bl at *
      refine wp_region_quiet_ext (by kernel_rfl) (by kernel_rfl) ?_
      repeat (any_goals (first | go_big_quiet_step ((first | (go_at_call 12; exact calls_ext (HPL.out _)) | (go_at_call 11; exact calls_ext (HMY.out _)))) | quiet_step ((first | (go_at_call 12; exact calls_ext (HPL.out _)) | (go_at_call 11; exact calls_ext (HMY.out _))))))
      refine wpQuiet_nil ?_
      intro _ hw'
      obtain ⟨x, hw''⟩ := hw'
      subst hw''
      go_wp2_with fail
      go_meet
      exact ⟨by simp, grown_ext wa x⟩
  case rest =>
    obtain ⟨rfl, hgc⟩ := hcut
    have HS1 := Lib.hid (HS0.out.grown hgc)
    have HB1 := Lib.hid ((hgc.block cb lcb (by simp)).trans HB0.out)
    have HK1 := Lib.hid hgc
    clear d0 d1 d2 d3 d4 d5 d6 d7 r0 hgc
    obtain ⟨d0, d1, d2, d3, d4, d5, d6, d7⟩ := cmd8 HB1.out
    by_cases hm : mb = true ∧ node < N
    · have hq : (mb && decide (node < N)) = true := by simp [hm.1, hm.2]
      have HDR2 := Lib.hid (HDR.out hm.1 hm.2)
      have HR2 : Hid (R2 = R3) := (show _ = _ from by rw [HRA.out, if_pos hm])
      have HDT2 := Lib.hid (HDT.out _ wc HS1.out)
      rw [if_pos hm] at HDT2
      rw [hq]
      clear HDR HRA HDT hm hq
      rw [HR2.out] at HTE
      go_upto_region 3 with (go_at_call 22; refine HDT2.out.mono ?_; rintro e w2 ⟨rfl, hp, hs⟩; have HP2 := Lib.hid hp; have HSM := Lib.hid hs; clear hp hs)
      have HB2 := Lib.hid ((HSM.out cb (Or.inr rfl)).trans HB1.out)
      clear d0 d1 d2 d3 d4 d5 d6 d7
      obtain ⟨d0, d1, d2, d3, d4, d5, d6, d7⟩ := cmd8 HB2.out
      go_upto_region 5 with (first
        | (go_at_call 12; refine (HPL.out _).mono ?_; rintro e w3 ⟨rfl, hg⟩; have HG3 := Lib.hid hg; clear hg)
        | (go_at_call 60; refine (HDR2.out _ _ _ (HP2.out.grown HG3.out)).mono ?_; rintro e w4 ⟨rfl, hp, hs⟩; have HP4 := Lib.hid hp; have HS4 := Lib.hid hs; clear hp hs))
      have HB4 := Lib.hid ((HS4.out cb (Or.inr rfl)).trans ((HP2.out.kept HG3.out cb (Or.inr rfl)).trans HB2.out))
      clear d0 d1 d2 d3 d4 d5 d6 d7
      obtain ⟨d0, d1, d2, d3, d4, d5, d6, d7⟩ := cmd8 HB4.out
      go_wp2_with (go_at_call 83; refine (HTE.out _ _ HP4.out).mono ?_; rintro e w5 ⟨rfl, hg⟩; have HG5 := Lib.hid hg; clear hg)
      go_ret
      refine ⟨rfl, ?_, ?_⟩
      · rw [HR2.out]
        exact (HP4.out.grown HG5.out).less fun k hk => Or.inl hk
      · refine (HP.out.kept (grown_trans HG0.out HK1.out)).trans ((HSM.out.sub fun k hk => Or.inl hk).trans (((HP2.out.kept HG3.out).sub fun k hk => Or.inl hk).trans ((HS4.out.sub fun k hk => Or.inl hk).trans ((HP4.out.kept HG5.out).sub fun k hk => Or.inl hk))))
    · have hq : (mb && decide (node < N)) = false := by
        cases mb <;> simp at hm ⊢; omega
      have HR2 : Hid (R2 = R) := (show _ = _ from by rw [HRA.out, if_neg hm])
      have HDT2 := Lib.hid (HDT.out _ wc HS1.out)
      rw [if_neg hm] at HDT2
      rw [hq]
      clear HDR HRA HDT hm hq
      rw [HR2.out] at HTE
      go_upto_region 3 with (go_at_call 22; refine HDT2.out.mono ?_; rintro e w2 ⟨rfl, hp, hs⟩; have HP2 := Lib.hid hp; have HSM := Lib.hid hs; clear hp hs)
      have HB2 := Lib.hid ((HSM.out cb (Or.inr rfl)).trans HB1.out)
      clear d0 d1 d2 d3 d4 d5 d6 d7
      obtain ⟨d0, d1, d2, d3, d4, d5, d6, d7⟩ := cmd8 HB2.out
      go_wp2_with (go_at_call 83; refine (HTE.out _ _ HP2.out).mono ?_; rintro e w5 ⟨rfl, hg⟩; have HG5 := Lib.hid hg; clear hg)
      go_ret
      refine ⟨rfl, ?_, ?_⟩
      · rw [HR2.out]
        exact (HP2.out.grown HG5.out).less fun k hk => Or.inl hk
      · refine (HP.out.kept (grown_trans HG0.out HK1.out)).trans ((HSM.out.sub fun k hk => Or.inl hk).trans ((HP2.out.kept HG5.out).sub fun k hk => Or.inl hk))
end
end Go.Proofs.YtjfelfjobeeenaaGreat
namespace Go.Proofs.YtjfelfjobeeenaaGreat
open Go.RowKit Go.Sf Go.Shelf
set_option linter.unusedVariables false
theorem duo_new {w w1 w2 : World} {tb rb : Nat} {L : Tab} {R : RTab} (hg0 : w.grownBy w1 none) (hA : At (fun k => w.heap.size ≤ k) w1 tb L) (hR : RAt (fun k => w1.heap.size ≤ k) w2 rb R) (hg : w1.grownBy w2 none) : Duo w (fun _ => False) tb rb L R w2 := by
  refine ⟨⟨fun k => w1.heap.size ≤ k ∧ k < w2.heap.size, ?_, ?_, fun k hk => ⟨hk.2, fun e => e⟩⟩, fun k hk => hk.elim, grown_trans hg0 hg⟩
  · exact (hA.mono fun k hk hb => ⟨hb, fun e => e, fun e => by omega⟩).grown hg
  · exact hR.mono fun k hk hb => ⟨Nat.le_trans hg0.size hb, hb, hk⟩
set_option maxHeartbeats 8000000 in
set_option maxRecDepth 100000 in
theorem plays_any (a b : Nat) (ha : a ≤ 255) (hb : b ≤ 255) (v : Value) (l : List Cmd) (w : World) (h : CmdRow w w.heap.size v l) :
    Calls Tryz.prog 7 #[.int .u8 a, .int .u8 b, v] w fun e w' => e = .returned (.bool true) ∧ w.grownBy w' none := by
  obtain ⟨n, hn⟩ : ∃ n : Nat, n = a % 14 := ⟨_, rfl⟩
  obtain ⟨k, hk⟩ : ∃ k : Nat, k = b % 14 := ⟨_, rfl⟩
  have hn14 : n < 14 := by omega
  have hk14 : k < 14 := by omega
  have e1 : (a : Int) % 14 = (n : Int) := by omega
  have e2 : (b : Int) % 14 = (k : Int) := by omega
  obtain ⟨N, hN⟩ : ∃ N : Nat, (N : Int) = clampN n := ⟨(clampN n).toNat, by unfold clampN; split <;> (try split) <;> omega⟩
  have hN1 : 1 ≤ N ∧ N ≤ 13 := by unfold clampN at hN; split at hN <;> (try split at hN) <;> omega
  obtain ⟨K, hK⟩ : ∃ K : Nat, clampW N k = K := ⟨(clampW N k).toNat, by unfold clampW; split <;> (try split) <;> omega⟩
  have hK1 : K ≤ 13 := by unfold clampW at hK; split at hK <;> (try split at hK) <;> omega
  have HNW : Hid (∀ W, w.grownBy W none → Calls Tryz.prog 30 #[.int .i64 n, .int .i64 k] W fun e w' => ∃ tb, e = .returned (.pointer (some ⟨tb, 0, none⟩)) ∧ At (fun k => w.heap.size ≤ k) w' tb (newT N k 0).norm ∧ W.grownBy w' none) := (fun W hg =>
    (new_at (bs := fun k => w.heap.size ≤ k) n k N hN W (fun _ h => Nat.le_trans hg.size h)).mono fun e w' ⟨tb, h1, h2, h3, h4⟩ => ⟨tb, h1, h3, h4⟩)
  have HRW : Hid (∀ W, Calls Tryz.prog 38 #[.int .i64 n, .int .i64 k] W fun e w' => ∃ rb, e = .returned (.pointer (some ⟨rb, 0, none⟩)) ∧ RAt (fun k => W.heap.size ≤ k) w' rb (rnew N (clampW N k)) ∧ W.grownBy w' none) := (show ∀ _, _ from fun W => rnew_any n k N hN W (fun k => W.heap.size ≤ k) (fun _ h => h))
  have HBO : Hid (Both N K 0 (newT N k 0).norm (rnew N (clampW N k))) := (show Both _ _ _ _ _ from ⟨inv_new N k K hK, sim_new N k, rnew_b N _⟩)
  have HLG : Hid (Calls Tryz.prog 29 #[v] w fun e w' => ∃ r, e = .returned (.bool r) ∧ w.grownBy w' none ∧ (r = false → l.length ≤ 80)) := large_any v l _ w h
  have HV := Lib.hid h
  have HB : Hid (N ≤ 13 ∧ K ≤ 13) := (show _ ∧ _ from ⟨hN1.2, hK1⟩)
  clear hN hK hN1 hK1 hn hk h
  go_enter Tryz.func7, Tryz.ntmps7
  go_wp2_with (first
    | (go_at_call 29; refine HLG.out.mono ?_; rintro e w1 ⟨r, rfl, hg, hr⟩; have HG := Lib.hid hg; have HR := Lib.hid hr; clear hg hr HLG)
    | (go_at_call 10; refine (works_any _).mono ?_; rintro e w2 ⟨rfl, hg⟩; have HG2 := Lib.hid hg; clear hg)
    | (go_at_call 30; refine (HNW.out _ HG.out).mono ?_; rintro e w2 ⟨tb, rfl, hA, hg⟩; have HA := Lib.hid hA; have HG2 := Lib.hid hg; clear hA hg)
    | (go_at_call 38; refine (HRW.out _).mono ?_; rintro e w3 ⟨rb, rfl, hA, hg⟩; have HRA := Lib.hid hA; have HG3 := Lib.hid hg; clear hA hg))
  · go_ret
    exact ⟨rfl, grown_trans HG.out HG2.out⟩
  · have hlen := HR.out (by assumption)
    have HT0 : Hid (Duo w (fun _ => False) tb rb (newT N k 0).norm (rnew N (clampW N k)) w3) := (show Duo _ _ _ _ _ _ _ from duo_new (grown_trans HG.out HG2.out) HA.out HRA.out HG3.out)
    clear HA HG HG2 HNW HR HRA HG3 HRW
    obtain ⟨p, cap, rfl, hlen2, hks, hrow⟩ := HV.out
    have HROW := Lib.hid hrow
    have HKS := Lib.hid hks
    clear HV hrow hks hlen2
    have HD : Hid (∀ i c, i < l.length → l.getD i wkD = c → (c.key.size : Int) ≤ 9223372036854775807) := (fun i c hi hc => HKS.out c (by rw [← hc]; simp only [List.getD_eq_getElem?_getD, List.getElem?_eq_getElem hi, Option.getD_some]; exact List.getElem_mem hi))
    clear HKS
    generalize hm : l.length = m at *
    generalize (newT N k 0).norm = L0 at *
    generalize rnew N (clampW N k) = R0 at *
    go_loopw [11] (fun i wr => ∃ (j : Nat) (L : Tab) (R : RTab), j ≤ m ∧ i = .int .i64 j ∧ Duo w (fun _ => False) tb rb L R wr ∧ Both N K j L R) (fun i _ => m - (intOf i).toNat)
    case atStart => exact ⟨0, _, _, Nat.zero_le _, rfl, HT0.out, HBO.out⟩
    case round =>
      obtain ⟨j, L, R, hj, rfl, hduo, hboth⟩ := hrel
      rcases Nat.lt_or_ge j m with hlt | hge
      · rcases HROW.out with h0 | ⟨b, off, rfl, hb, hc⟩
        · subst h0; simp at hm; omega
        · have hcell := hc j hlt
          have hk := HD.out j _ (by omega) rfl
          generalize l.getD j wkD = c at *
          obtain ⟨kind, node, client, inc, req, ver, key, code⟩ := c
          have c0 := hduo.base.cell (hcell 0 _ rfl) (by simp)
          have c1 := hduo.base.cell (hcell 1 _ rfl) (by simp)
          have c2 := hduo.base.cell (hcell 2 _ rfl) (by simp)
          have c3 := hduo.base.cell (hcell 3 _ rfl) (by simp)
          have c4 := hduo.base.cell (hcell 4 _ rfl) (by simp)
          have c5 := hduo.base.cell (hcell 5 _ rfl) (by simp)
          have c6 := hduo.base.cell (hcell 6 _ rfl) (by simp)
          have c7 := hduo.base.cell (hcell 7 _ rfl) (by simp)
          simp only [Nat.add_zero] at c0 c1 c2 c3 c4 c5 c6 c7
          have HDU := Lib.hid hduo
          have HBT := Lib.hid hboth
          have HNB := Lib.hid (both_step hboth ⟨kind, node, client, inc, req, ver, key, code⟩)
          clear hduo hboth hcell hc HT0 HBO
          go_wp2_with (go_at_call 39; refine (play_any HDU.out HBT.out (by have := HB.out; omega) (by have := HB.out; omega) (by omega) kind node client inc req ver key code hk).mono ?_; rintro e w4 ⟨rfl, hp, hs⟩; have HP := Lib.hid hp; clear hp hs)
          go_roundw
          case rel => exact ⟨j + 1, _, _, by omega, by go_num, HP.out, HNB.out⟩
          case measure => simp [intOf]; omega
      · go_wp2_with (go_at_call 10; refine (works_any _).mono ?_; rintro e w5 ⟨rfl, hg⟩; have HG5 := Lib.hid hg; clear hg)
        go_ret
        exact ⟨rfl, grown_trans hduo.base HG5.out⟩
end Go.Proofs.YtjfelfjobeeenaaGreat
namespace Go.Sf
open Go.ChangeShapes Go.WideShapes Go.ChangeAt Go.RowKit
set_option linter.unusedVariables false
variable {P : Program} {H : Type} {enc : TypeId × Value → H}
theorem post_of_grown {f : Func} {s : ChangeSpec} {apart fresh handsOn again : Bool} {W W' : World} {args : Array Value} {v : Value} {ds gs : List (DataW H)} {before pa pv : List MemPlace}
    (hW : DataW.Whole enc P f.params.toList s.vars apart W args.toList ds gs before)
    (hres : ∀ (b : Nat) (sp : Nat → Bool) (hd : Bool), DataW.TrodAll enc P W' b sp hd f.resultTypes.toList (v.resultList f.resultTypes.size) (s.fn H (ds ++ gs)).results [])
    (hargs : ∀ sp : Nat → Bool, (∀ p ∈ before, sp p.block = true) → DataW.TrodAll enc P W' 0 sp true f.params.toList args.toList (s.fn H (ds ++ gs)).args pa)
    (hvars : ∀ sp : Nat → Bool, (∀ p ∈ before, sp p.block = true) → DataW.TrodVars enc P W' sp s.vars (s.fn H (ds ++ gs)).vars pv)
    (hps : before = pa ++ pv) (hg : W.grownBy W' none)
    (hok : ∀ (j : Nat) (t : TypeId) (r : Value), f.resultTypes[j]? = some t → (v.resultList f.resultTypes.size)[j]? = some r → Value.okWide P W' .any 0 t r) :
    s.post enc P f apart fresh handsOn again W args v W' := by
  have hold : ∀ p ∈ before, (fun b => decide (b < W.heap.size)) p.block = true := fun p hp => by simpa using hW.lt p hp
  have hlt : ∀ p ∈ before, p.block < W.heap.size := fun p hp => hW.lt p hp
  refine ⟨ds, gs, before, [], pa, pv, hW, hres _ _ _, hargs _ hold, hvars _ hold, ⟨hg.os, hg.output, fun i hi => by rw [hg.block i hi (by simp)]; exact (World.keptBut_refl W (fun p => p ∈ before ∧ (p ∈ [] ∨ p ∈ pa ∨ p ∈ pv))).2.2 i hi⟩, fun _ => ?_⟩
  obtain ⟨_, _, _, _, _, hz, hn⟩ := hW
  refine ⟨hok, _, _, ([] ++ pa) ++ pv, ⟨[] ++ pa, pv, trodAll_append (hargs _ (fun _ _ => rfl)) (hres _ _ _), hvars _ (fun _ _ => rfl), rfl, ?_, ?_⟩, ?_⟩
  · intro b off hp
    have hp' : MemPlace.cell b off ∈ before := by rw [hps]; simpa using hp
    rw [World.frozen?_of_block (a := ⟨b, off, none⟩) (hg.block b (hlt _ hp') (by simp))]
    exact hz b off hp'
  · intro ha
    have := hn ha
    rw [hps] at this
    simpa using this
  · intro p hp _
    rw [hps]
    simpa using hp
end Go.Sf
