/- The document's table: says: the walk. Conditions: a table that lies in memory. The document's table: clean: the walk. Conditions: a table that lies in memory, its holds' nodes in their range. -/
import Derived.Test.YtjfelfjobeeenaaGreatQ16
namespace Go.Proofs.YtjfelfjobeeenaaGreat
open Go.RowKit Go.Sf Go.Shelf
set_option linter.unusedVariables false
theorem neq_id (a b : ID) (w : World) : (binOp .neq 59 (.agg #[.string a.key, .int .i64 a.ver]) (.agg #[.string b.key, .int .i64 b.ver])).run Tryz.prog w = .ok (.bool (!decide (a = b))) w := by
  obtain ⟨a1, a2⟩ := a
  obtain ⟨b1, b2⟩ := b
  simp [go_sem, toList_eq_iff]
  by_cases e1 : a1 = b1 <;> by_cases e2 : a2 = b2 <;> simp [e1, e2]
def encRHold (h : RHold) : Value := .agg #[.string h.id.key, .int .i64 h.id.ver, .int .i64 h.node, .int .i64 h.inc, .bool h.ref]
/-- another one's -/
def otherH (x y : RHold) : Bool := decide (y.id ≠ x.id) || decide (y.node ≠ x.node)
/-- what of the first k stays -/
def keptF {α : Type} (f : α → Bool) (l : List α) (k : Nat) : List α := (l.take k).filter f
theorem keptF_zero {α : Type} (f : α → Bool) (l : List α) : keptF f l 0 = [] := by simp [keptF]
theorem keptF_yes {α : Type} (f : α → Bool) (l : List α) (k : Nat) (hk : k < l.length) (h : f l[k] = true) : keptF f l (k + 1) = keptF f l k ++ [l[k]] := by
  unfold keptF
  rw [List.take_succ_eq_append_getElem hk, List.filter_append]
  simp [h]
theorem keptF_no {α : Type} (f : α → Bool) (l : List α) (k : Nat) (hk : k < l.length) (h : f l[k] = false) : keptF f l (k + 1) = keptF f l k := by
  unfold keptF
  rw [List.take_succ_eq_append_getElem hk, List.filter_append]
  simp [h]
theorem keptF_all {α : Type} (f : α → Bool) (l : List α) (k : Nat) (hk : l.length ≤ k) : keptF f l k = l.filter f := by
  unfold keptF; rw [List.take_of_length_le hk]
theorem keptF_len {α : Type} (f : α → Bool) (l : List α) (k : Nat) : (keptF f l k).length ≤ l.length := by
  unfold keptF
  exact Nat.le_trans (List.length_filter_le _ _) (by rw [List.length_take]; omega)
/-- a row of the call's own that is growing -/
structure Grows {α : Type} (W : World) (E : TypeId) (sz : Nat) (enc : α → List Value) (v : Value) (l : List α) (w : World) : Prop where
  grown : W.grownBy w none
  row : SRow w E sz enc v l
  own : ∀ g, v.ownBlock = some g → W.heap.size ≤ g
theorem Grows.start {α : Type} (W : World) (E : TypeId) (sz : Nat) (enc : α → List Value) : Grows W E sz enc (.slice none 0 0) ([] : List α) W := ⟨grown_refl _, World.ownsRow_nil _ _ _ _, fun g h => by cases h⟩
theorem Grows.more {α : Type} {W w w' : World} {E : TypeId} {sz : Nat} {enc : α → List Value} {v : Value} {l : List α} (h : Grows W E sz enc v l w) (hg : w.grownBy w' none) : Grows W E sz enc v l w' :=
  ⟨grown_trans h.grown hg, h.row.grown hg (by simp), h.own⟩
theorem Grows.app {α : Type} {W wx w1 : World} {E : TypeId} {sz : Nat} {enc : α → List Value} {v v' : Value} {l l' : List α} (h : Grows W E sz enc v l wx) (ha : Apped wx E sz enc v l' v' w1) : Grows W E sz enc v' l' w1 := by
  refine ⟨grown_own h.grown ha.2.1 h.own, ha.1, fun g hg => ?_⟩
  rcases ha.2.2 with e | e
  · exact h.own g (e ▸ hg)
  · rw [e] at hg; cases hg; exact h.grown.size
section
variable {bs : Nat → Prop} {W : World} {rb : Nat} {R : RTab}
set_option maxHeartbeats 8000000 in
set_option maxRecDepth 100000 in
theorem rsays_any (h : RAt bs W rb R) (hbs : ∀ k, W.heap.size ≤ k → bs k) (x : RHold) (hl : R.holds.length ≤ 100000000) : Calls Tryz.prog 116 #[.pointer (some ⟨rb, 0, none⟩), encRHold x] W fun e w' => e = .returned (.tuple #[]) ∧ RAt bs w' rb (rsays R x) ∧ Turn bs W w' := by
  obtain ⟨vL, vC, vV, vP, vH, h, hb1, hb2, hb3, hb4, hb5, hb6⟩ := h
  obtain ⟨i0, hi, hz0, hz1, hz2⟩ := info_parts infoH
  obtain ⟨p, cap, rfl, hcap, hlc⟩ := h.holds.form
  have HBS : Hid (Among bs W rb vL vC vV vP (.slice p R.holds.length cap)) := (show Among bs W rb vL vC vV vP (.slice p R.holds.length cap) from ⟨hb1, hb2, hb3, hb4, hb5, hb6, hbs⟩)
  clear hb1 hb2 hb3 hb4 hb5 hb6 hbs
  have HR := Lib.hid (h.grown (World.grownBy_alloc W (.cells #[.string x.id.key, .int .i64 x.id.ver, .int .i64 x.node, .int .i64 x.inc, .bool x.ref] 197) none))
  have HB := Lib.hid (heap_alloc_new W (.cells #[.string x.id.key, .int .i64 x.id.ver, .int .i64 x.node, .int .i64 x.inc, .bool x.ref] 197))
  have HG := Lib.hid (World.grownBy_alloc W (.cells #[.string x.id.key, .int .i64 x.id.ver, .int .i64 x.node, .int .i64 x.inc, .bool x.ref] 197) none)
  clear h
  simp only [encRHold]
  go_enter Tryz.func116, Tryz.ntmps116
  go_wp2
  generalize W.alloc (.cells #[.string x.id.key, .int .i64 x.id.ver, .int .i64 x.node, .int .i64 x.inc, .bool x.ref] 197) = W2 at *
  go_loopw [4, 5] (fun lv i wr => ∃ k : Nat, k ≤ R.holds.length ∧ i = .int .i64 k ∧ Grows W2 197 5 cellsH lv (keptF (otherH x) R.holds k) wr) (fun _ i _ => R.holds.length - (intOf i).toNat)
  case atStart => exact ⟨0, Nat.zero_le _, rfl, by rw [keptF_zero]; exact Grows.start _ _ _ _⟩
  case round =>
    obtain ⟨k, hk, rfl, hgr⟩ := hrel
    have hg2 := hgr.grown
    have hR := HR.out.grown hg2
    have hkl := keptF_len (otherH x) R.holds k
    obtain ⟨pl, cl, rfl, -, -⟩ := hgr.row.form
    have HGR := Lib.hid hgr
    have c8 := hR.c8
    have z8 := hR.free 8
    have hrb := hR.lt
    have b := (hg2.block W.heap.size (Array.getElem?_eq_some_iff.1 HB.out).1 (by simp)).trans HB.out
    have b0 : wr.cell? ⟨W.heap.size, 0, none⟩ = some (.string x.id.key) := (cell_block b 0).trans rfl
    have b1 : wr.cell? ⟨W.heap.size, 1, none⟩ = some (.int .i64 x.id.ver) := (cell_block b 1).trans rfl
    have b2 : wr.cell? ⟨W.heap.size, 2, none⟩ = some (.int .i64 x.node) := (cell_block b 2).trans rfl
    have b3 : wr.cell? ⟨W.heap.size, 3, none⟩ = some (.int .i64 x.inc) := (cell_block b 3).trans rfl
    have b4 : wr.cell? ⟨W.heap.size, 4, none⟩ = some (.bool x.ref) := (cell_block b 4).trans rfl
    have hwl : W.heap.size < wr.heap.size := (Array.getElem?_eq_some_iff.1 b).1
    clear b hgr hg2
    by_cases hlt : k < R.holds.length
    · obtain ⟨g, cap', hv', hc, hfz⟩ := (hR.holds.at lenH).resolve_left (fun e => by rw [e] at hlt; simp at hlt)
      injection hv' with hv1 hv2 hv3
      subst hv1 hv3
      have e0 : wr.cell? ⟨g, k * 5, none⟩ = some (.string R.holds[k].id.key) := hc k hlt 0 _ rfl
      have e1 : wr.cell? ⟨g, k * 5 + 1, none⟩ = some (.int .i64 R.holds[k].id.ver) := hc k hlt 1 _ rfl
      have e2 : wr.cell? ⟨g, k * 5 + 2, none⟩ = some (.int .i64 R.holds[k].node) := hc k hlt 2 _ rfl
      have e3 : wr.cell? ⟨g, k * 5 + 3, none⟩ = some (.int .i64 R.holds[k].inc) := hc k hlt 3 _ rfl
      have e4 : wr.cell? ⟨g, k * 5 + 4, none⟩ = some (.bool R.holds[k].ref) := hc k hlt 4 _ rfl
      have HH := Lib.hid hR
      have heq := neq_id R.holds[k].id x.id
      clear hR hv2 hc hfz
      by_cases hi2 : R.holds[k].id = x.id ∧ R.holds[k].node = x.node
      · have HK : Hid (keptF (otherH x) R.holds (k + 1) = keptF (otherH x) R.holds k) := (show _ = _ from keptF_no _ _ _ hlt (by simp [otherH, hi2.1, hi2.2]))
        rw [show (!decide (R.holds[k].id = x.id)) = false from by simp [hi2.1]] at heq
        have hd : (R.holds[k].node != x.node) = false := by simp [hi2.2]
        clear hi2
        go_wp2
        go_quiet (fail)
        go_wp2
        go_roundw
        case rel => exact ⟨k + 1, by omega, by go_num, by rw [HK.out]; exact HGR.out.more (grown_drewN _ _)⟩
        case measure => simp [intOf]; omega
      · have HK : Hid (keptF (otherH x) R.holds (k + 1) = keptF (otherH x) R.holds k ++ [R.holds[k]]) := (show _ = _ from keptF_yes _ _ _ hlt (by
          by_cases h1 : R.holds[k].id = x.id
          · have h2 : R.holds[k].node ≠ x.node := fun e => hi2 ⟨h1, e⟩
            simp [otherH, h2]
          · simp [otherH, h1]))
        by_cases h1 : R.holds[k].id = x.id
        · have h2 : R.holds[k].node ≠ x.node := fun e => hi2 ⟨h1, e⟩
          rw [show (!decide (R.holds[k].id = x.id)) = false from by simp [h1]] at heq
          have hd : (R.holds[k].node != x.node) = true := by simp [h2]
          clear hi2 h1 h2
          go_wp2
          go_quiet (fail)
          go_wp2_with (at_builtin; refine wpList_sapp (l := keptF (otherH x) R.holds k) (m := [R.holds[k]]) _ rfl (.tmp 39) (.tmp 47) 50 rfl lenH oneH i0 _ 48 Tryz.underlying50 hi hz0 hz1 hz2 rfl (by decide) (by decide) rfl ?a1 rfl ?a2 ?a3 _ rfl ?_)
          case a1 => exact (HGR.out.more (by repeat (first | exact grown_refl _ | exact grown_drewN _ _ | refine grown_alloc ?_ _ | refine grown_drew ?_))).row
          case a2 => exact yrow_at R.holds[k] (heap_alloc_new _ _)
          case a3 => simp only [List.length_cons, List.length_nil]; omega
          intro p' c' w1 ha
          have HA := Lib.hid (Grows.app (Grows.more HGR.out (by repeat (first | exact grown_refl _ | exact grown_drewN _ _ | refine grown_alloc ?_ _ | refine grown_drew ?_))) ha)
          clear ha
          go_wp2
          go_roundw
          case rel => exact ⟨k + 1, by omega, by go_num, by rw [HK.out]; exact HA.out⟩
          case measure => simp [intOf]; omega
        · rw [show (!decide (R.holds[k].id = x.id)) = true from by simp [h1]] at heq
          clear hi2 h1
          go_wp2
          go_quiet (fail)
          go_wp2_with (at_builtin; refine wpList_sapp (l := keptF (otherH x) R.holds k) (m := [R.holds[k]]) _ rfl (.tmp 39) (.tmp 47) 50 rfl lenH oneH i0 _ 48 Tryz.underlying50 hi hz0 hz1 hz2 rfl (by decide) (by decide) rfl ?b1 rfl ?b2 ?b3 _ rfl ?_)
          case b1 => exact (HGR.out.more (by repeat (first | exact grown_refl _ | exact grown_drewN _ _ | refine grown_alloc ?_ _ | refine grown_drew ?_))).row
          case b2 => exact yrow_at R.holds[k] (heap_alloc_new _ _)
          case b3 => simp only [List.length_cons, List.length_nil]; omega
          intro p' c' w1 ha
          have HA := Lib.hid (Grows.app (Grows.more HGR.out (by repeat (first | exact grown_refl _ | exact grown_drewN _ _ | refine grown_alloc ?_ _ | refine grown_drew ?_))) ha)
          clear ha
          go_wp2
          go_roundw
          case rel => exact ⟨k + 1, by omega, by go_num, by rw [HK.out]; exact HA.out⟩
          case measure => simp [intOf]; omega
    · have hge : R.holds.length ≤ k := by omega
      have HK : Hid (keptF (otherH x) R.holds k ++ [x] = (rsays R x).holds) := (show _ = _ from by rw [keptF_all _ _ _ hge]; rfl)
      clear hR hge
      go_wp2_with (at_builtin; refine wpList_sapp (l := keptF (otherH x) R.holds k) (m := [x]) _ rfl (.tmp 50) (.tmp 52) 50 rfl lenH oneH i0 _ 48 Tryz.underlying50 hi hz0 hz1 hz2 rfl (by decide) (by decide) rfl ?c1 rfl ?c2 ?c3 _ rfl ?_)
      case c1 => exact (HGR.out.more (by repeat (first | exact grown_refl _ | exact grown_drewN _ _ | refine grown_alloc ?_ _ | refine grown_drew ?_))).row
      case c2 => exact yrow_at x (heap_alloc_new _ _)
      case c3 => simp only [List.length_cons, List.length_nil]; omega
      intro p' c' w1 ha
      have hq := Grows.app (Grows.more HGR.out (by repeat (first | exact grown_refl _ | exact grown_drewN _ _ | refine grown_alloc ?_ _ | refine grown_drew ?_))) ha
      have HA := Lib.hid hq
      have d8 := (HR.out.grown hq.grown).c8
      have y8 := (HR.out.grown hq.grown).free 8
      clear ha hq
      go_wp2
      first | go_end0 | refine bodyPost_ret (results_none rfl _ _ _) rfl ?_
      refine ⟨rfl, ?_⟩
      have hN := RAt.newH (W0 := W) HG.out HBS.out HR.out HA.out.grown HA.out.row (fun g hg => Nat.le_trans HG.out.size (HA.out.own g hg))
      rw [HK.out] at hN
      exact hN
end
end Go.Proofs.YtjfelfjobeeenaaGreat
namespace Go.Proofs.YtjfelfjobeeenaaGreat
open Go.RowKit Go.Sf Go.Shelf
set_option linter.unusedVariables false
theorem heap_new_at (w : World) (o : Obj) (n : Nat) (h : n = w.heap.size) : (w.alloc o).heap[n]? = some o := by subst h; exact heap_alloc_new _ _
theorem cellsH_arr (x : RHold) : (cellsH x).toArray = #[.string x.id.key, .int .i64 x.id.ver, .int .i64 x.node, .int .i64 x.inc, .bool x.ref] := rfl
section
variable {bs : Nat → Prop} {W : World} {rb : Nat} {R : RTab}
set_option maxHeartbeats 8000000 in
set_option maxRecDepth 100000 in
theorem rclean_any (h : RAt bs W rb R) (hbs : ∀ k, W.heap.size ≤ k → bs k) (hnd : ∀ x ∈ R.holds, 0 ≤ x.node ∧ x.node < (R.lives.length : Int)) (hl : R.holds.length ≤ 100000000) (hll : R.lives.length ≤ 1000000) : Calls Tryz.prog 123 #[.pointer (some ⟨rb, 0, none⟩)] W fun e w' => e = .returned (.tuple #[]) ∧ RAt bs w' rb (rclean R) ∧ Turn bs W w' := by
  obtain ⟨vL, vC, vV, vP, vH, h, hb1, hb2, hb3, hb4, hb5, hb6⟩ := h
  obtain ⟨i0, hi, hz0, hz1, hz2⟩ := info_parts infoH
  obtain ⟨p, cap, rfl, hcap, hlc⟩ := h.holds.form
  obtain ⟨pL, capL, rfl, hcapL, hlcL⟩ := h.lives.form
  have HBS : Hid (Among bs W rb (.slice pL R.lives.length capL) vC vV vP (.slice p R.holds.length cap)) := (show Among bs W rb (.slice pL R.lives.length capL) vC vV vP (.slice p R.holds.length cap) from ⟨hb1, hb2, hb3, hb4, hb5, hb6, hbs⟩)
  clear hb1 hb2 hb3 hb4 hb5 hb6 hbs
  have HR := Lib.hid h
  have HN := Lib.hid hnd
  clear h hnd
  go_enter Tryz.func123, Tryz.ntmps123
  go_wp2
  go_loopw [2, 3] (fun lv i wr => ∃ k : Nat, k ≤ R.holds.length ∧ i = .int .i64 k ∧ Grows W 197 5 cellsH lv (keptF (keepH R) R.holds k) wr) (fun _ i _ => R.holds.length - (intOf i).toNat)
  case atStart => exact ⟨0, Nat.zero_le _, rfl, by rw [keptF_zero]; exact Grows.start _ _ _ _⟩
  case round =>
    obtain ⟨k, hk, rfl, hgr⟩ := hrel
    have hR := HR.out.grown hgr.grown
    have hkl := keptF_len (keepH R) R.holds k
    obtain ⟨pl, cl, rfl, -, -⟩ := hgr.row.form
    have HGR := Lib.hid hgr
    have c8 := hR.c8
    have z8 := hR.free 8
    have hrb := hR.lt
    clear hgr
    by_cases hlt : k < R.holds.length
    · obtain ⟨g, cap', hv', hc, hfz⟩ := (hR.holds.at lenH).resolve_left (fun e => by rw [e] at hlt; simp at hlt)
      injection hv' with hv1 hv2 hv3
      subst hv1 hv3
      have hnk := HN.out R.holds[k] (List.getElem_mem hlt)
      obtain ⟨a, ha⟩ := Int.eq_ofNat_of_zero_le hnk.1
      have hal : a < R.lives.length := by omega
      obtain ⟨gL, capL', hvL', hcL, hfzL⟩ := (hR.lives.at lenI).resolve_left (fun e => by rw [e] at hal; simp at hal)
      injection hvL' with hvL1 hvL2 hvL3
      subst hvL1 hvL3
      have c4 := hR.c4
      have f0 : wr.cell? ⟨gL, a, none⟩ = some (.int .i64 (R.lives.getD a 0)) := by
        have := hcL a hal 0 _ rfl
        simp only [Nat.mul_one, Nat.add_zero] at this
        rw [this]; simp [List.getD, List.getElem?_eq_getElem hal]
      obtain ⟨LV, hLV⟩ : ∃ x, R.lives.getD a 0 = x := ⟨_, rfl⟩
      rw [hLV] at f0
      have e0 : wr.cell? ⟨g, k * 5, none⟩ = some (.string R.holds[k].id.key) := hc k hlt 0 _ rfl
      have e1 : wr.cell? ⟨g, k * 5 + 1, none⟩ = some (.int .i64 R.holds[k].id.ver) := hc k hlt 1 _ rfl
      have e2 : wr.cell? ⟨g, k * 5 + 2, none⟩ = some (.int .i64 a) := by rw [← ha]; exact hc k hlt 2 _ rfl
      have e3 : wr.cell? ⟨g, k * 5 + 3, none⟩ = some (.int .i64 R.holds[k].inc) := hc k hlt 3 _ rfl
      have e4 : wr.cell? ⟨g, k * 5 + 4, none⟩ = some (.bool R.holds[k].ref) := hc k hlt 4 _ rfl
      have hgl : g < wr.heap.size := cell_lt e0
      have hgLl : gL < wr.heap.size := cell_lt f0
      have HWT : Hid (∀ W', wr.grownBy W' none → Calls Tryz.prog 115 #[.pointer (some ⟨rb, 0, none⟩), .agg #[.string R.holds[k].id.key, .int .i64 R.holds[k].id.ver]] W' fun e w' => e = .returned (.bool (rwanted R R.holds[k].id)) ∧ W'.grownBy w' none) := (show ∀ _, _ from fun W' hg => rwanted_core (hR.grown hg) R.holds[k].id)
      have HPN : Hid (∀ W', wr.grownBy W' none → Calls Tryz.prog 117 #[.pointer (some ⟨rb, 0, none⟩), .agg #[.string R.holds[k].id.key, .int .i64 R.holds[k].id.ver]] W' fun e w' => e = .returned (.int .i64 (pendI R R.holds[k].id)) ∧ W'.grownBy w' none) := (show ∀ _, _ from fun W' hg => rpend_core (hR.grown hg) R.holds[k].id)
      have hpb := pendI_B R R.holds[k].id
      have hlf : rlife R R.holds[k].node = LV := by rw [← hLV]; unfold rlife; rw [ha]; rfl
      clear hLV
      have HLF := Lib.hid (And.intro hlf (And.intro hpb ha))
      clear hR hv2 hvL2 hc hfz hcL hfzL hnk hlf hpb ha
      cases hw : rwanted R R.holds[k].id with
      | false =>
        have HF := Lib.hid hw
        rw [hw] at HWT
        clear hw
        have HK : Hid (keptF (keepH R) R.holds (k + 1) = keptF (keepH R) R.holds k) := (show _ = _ from keptF_no _ _ _ hlt (by simp [keepH, HF.out]))
        go_wp2
        refine wp_region_quiet_ext (by kernel_rfl) (by kernel_rfl) ?_
        repeat (any_goals (first | go_big_quiet_step (((first | (go_at_call 115; exact calls_ext (HWT.out _ (by repeat (first | exact grown_refl _ | exact grown_drewN _ _ | refine grown_ext' ?_ _ | refine grown_alloc ?_ _ | refine grown_drew ?_)))) | (go_at_call 117; exact calls_ext (HPN.out _ (by repeat (first | exact grown_refl _ | exact grown_drewN _ _ | refine grown_ext' ?_ _ | refine grown_alloc ?_ _ | refine grown_drew ?_))))))) | quiet_step (((first | (go_at_call 115; exact calls_ext (HWT.out _ (by repeat (first | exact grown_refl _ | exact grown_drewN _ _ | refine grown_ext' ?_ _ | refine grown_alloc ?_ _ | refine grown_drew ?_)))) | (go_at_call 117; exact calls_ext (HPN.out _ (by repeat (first | exact grown_refl _ | exact grown_drewN _ _ | refine grown_ext' ?_ _ | refine grown_alloc ?_ _ | refine grown_drew ?_)))))))))
        refine wpQuiet_nil ?_
        intro _ hw'
        obtain ⟨xx, hw''⟩ := hw'
        subst hw''
        go_wp2
        go_roundw
        case rel => exact ⟨k + 1, by omega, by go_num, by rw [HK.out]; exact HGR.out.more (by repeat (first | exact grown_refl _ | exact grown_drewN _ _ | refine grown_ext' ?_ _ | refine grown_alloc ?_ _ | refine grown_drew ?_))⟩
        case measure => simp [intOf]; omega
      | true =>
        rw [hw] at HWT
        by_cases hlv : LV = R.holds[k].inc
        · cases hrf : R.holds[k].ref with
          | false =>
            have HF := Lib.hid (show rwanted R R.holds[k].id = true ∧ rlife R R.holds[k].node = R.holds[k].inc ∧ R.holds[k].ref = false from ⟨hw, HLF.out.1.trans hlv, hrf⟩)
            rw [hrf] at e4
            have hd : (LV == R.holds[k].inc) = true := by simpa using hlv
            clear hw hlv hrf
            have HK : Hid (keptF (keepH R) R.holds (k + 1) = keptF (keepH R) R.holds k ++ [R.holds[k]]) := (show _ = _ from keptF_yes _ _ _ hlt (by simp [keepH, HF.out]))
            go_wp2
            refine wp_region_quiet_ext (by kernel_rfl) (by kernel_rfl) ?_
            repeat (any_goals (first | go_big_quiet_step (((first | (go_at_call 115; exact calls_ext (HWT.out _ (by repeat (first | exact grown_refl _ | exact grown_drewN _ _ | refine grown_ext' ?_ _ | refine grown_alloc ?_ _ | refine grown_drew ?_)))) | (go_at_call 117; exact calls_ext (HPN.out _ (by repeat (first | exact grown_refl _ | exact grown_drewN _ _ | refine grown_ext' ?_ _ | refine grown_alloc ?_ _ | refine grown_drew ?_))))))) | quiet_step (((first | (go_at_call 115; exact calls_ext (HWT.out _ (by repeat (first | exact grown_refl _ | exact grown_drewN _ _ | refine grown_ext' ?_ _ | refine grown_alloc ?_ _ | refine grown_drew ?_)))) | (go_at_call 117; exact calls_ext (HPN.out _ (by repeat (first | exact grown_refl _ | exact grown_drewN _ _ | refine grown_ext' ?_ _ | refine grown_alloc ?_ _ | refine grown_drew ?_)))))))))
            refine wpQuiet_nil ?_
            intro _ hw'
            obtain ⟨xx, hw''⟩ := hw'
            subst hw''
            go_wp2_with (at_builtin; refine wpList_sapp (l := keptF (keepH R) R.holds k) (m := [R.holds[k]]) _ rfl (.tmp 50) (.tmp 52) 50 rfl lenH oneH i0 _ 48 Tryz.underlying50 hi hz0 hz1 hz2 rfl (by decide) (by decide) rfl ?a1 rfl ?b1 ?c1 _ rfl ?_)
            case a1 => exact (HGR.out.more (by repeat (first | exact grown_refl _ | exact grown_drewN _ _ | refine grown_ext' ?_ _ | refine grown_alloc ?_ _ | refine grown_drew ?_))).row
            case b1 => exact yrow_at R.holds[k] (by rw [cellsH_arr, HLF.out.2.2, (show R.holds[k].ref = false from by first | exact HF.out.2.2 | exact HF.out.2.2.1)]; exact heap_new_at _ _ _ (by simp [go_sem]))
            case c1 => simp only [List.length_cons, List.length_nil]; omega
            intro p' c' w1 ha
            have HAP := Lib.hid (Grows.app (Grows.more HGR.out (by repeat (first | exact grown_refl _ | exact grown_drewN _ _ | refine grown_ext' ?_ _ | refine grown_alloc ?_ _ | refine grown_drew ?_))) ha)
            clear ha
            go_wp2
            go_roundw
            case rel => exact ⟨k + 1, by omega, by go_num, by rw [HK.out]; exact HAP.out⟩
            case measure => simp [intOf]; omega
          | true =>
            rw [hrf] at e4
            have hd : (LV == R.holds[k].inc) = true := by simpa using hlv
            by_cases hp0 : 0 ≤ pendI R R.holds[k].id
            · have HF := Lib.hid (show rwanted R R.holds[k].id = true ∧ rlife R R.holds[k].node = R.holds[k].inc ∧ R.holds[k].ref = true ∧ rpendB R R.holds[k].id = true from ⟨hw, HLF.out.1.trans hlv, hrf, by rw [← HLF.out.2.1]; simpa using hp0⟩)
              have hdp : decide (0 ≤ pendI R R.holds[k].id) = true := by simpa using hp0
              clear hw hlv hrf
              have HK : Hid (keptF (keepH R) R.holds (k + 1) = keptF (keepH R) R.holds k ++ [R.holds[k]]) := (show _ = _ from keptF_yes _ _ _ hlt (by simp [keepH, HF.out]))
              go_wp2
              refine wp_region_quiet_ext (by kernel_rfl) (by kernel_rfl) ?_
              repeat (any_goals (first | go_big_quiet_step (((first | (go_at_call 115; exact calls_ext (HWT.out _ (by repeat (first | exact grown_refl _ | exact grown_drewN _ _ | refine grown_ext' ?_ _ | refine grown_alloc ?_ _ | refine grown_drew ?_)))) | (go_at_call 117; exact calls_ext (HPN.out _ (by repeat (first | exact grown_refl _ | exact grown_drewN _ _ | refine grown_ext' ?_ _ | refine grown_alloc ?_ _ | refine grown_drew ?_))))))) | quiet_step (((first | (go_at_call 115; exact calls_ext (HWT.out _ (by repeat (first | exact grown_refl _ | exact grown_drewN _ _ | refine grown_ext' ?_ _ | refine grown_alloc ?_ _ | refine grown_drew ?_)))) | (go_at_call 117; exact calls_ext (HPN.out _ (by repeat (first | exact grown_refl _ | exact grown_drewN _ _ | refine grown_ext' ?_ _ | refine grown_alloc ?_ _ | refine grown_drew ?_)))))))))
              refine wpQuiet_nil ?_
              intro _ hw'
              obtain ⟨xx, hw''⟩ := hw'
              subst hw''
              go_wp2_with (at_builtin; refine wpList_sapp (l := keptF (keepH R) R.holds k) (m := [R.holds[k]]) _ rfl (.tmp 50) (.tmp 52) 50 rfl lenH oneH i0 _ 48 Tryz.underlying50 hi hz0 hz1 hz2 rfl (by decide) (by decide) rfl ?a2 rfl ?b2 ?c2 _ rfl ?_)
              case a2 => exact (HGR.out.more (by repeat (first | exact grown_refl _ | exact grown_drewN _ _ | refine grown_ext' ?_ _ | refine grown_alloc ?_ _ | refine grown_drew ?_))).row
              case b2 => exact yrow_at R.holds[k] (by rw [cellsH_arr, HLF.out.2.2, (show R.holds[k].ref = true from by first | exact HF.out.2.2 | exact HF.out.2.2.1)]; exact heap_new_at _ _ _ (by simp [go_sem]))
              case c2 => simp only [List.length_cons, List.length_nil]; omega
              intro p' c' w1 ha
              have HAP := Lib.hid (Grows.app (Grows.more HGR.out (by repeat (first | exact grown_refl _ | exact grown_drewN _ _ | refine grown_ext' ?_ _ | refine grown_alloc ?_ _ | refine grown_drew ?_))) ha)
              clear ha
              go_wp2
              go_roundw
              case rel => exact ⟨k + 1, by omega, by go_num, by rw [HK.out]; exact HAP.out⟩
              case measure => simp [intOf]; omega
            · have HF := Lib.hid (show rwanted R R.holds[k].id = true ∧ rlife R R.holds[k].node = R.holds[k].inc ∧ R.holds[k].ref = true ∧ rpendB R R.holds[k].id = false from ⟨hw, HLF.out.1.trans hlv, hrf, by rw [← HLF.out.2.1]; simpa using hp0⟩)
              have hdp : decide (0 ≤ pendI R R.holds[k].id) = false := by simpa using hp0
              clear hw hlv hrf
              have HK : Hid (keptF (keepH R) R.holds (k + 1) = keptF (keepH R) R.holds k) := (show _ = _ from keptF_no _ _ _ hlt (by simp [keepH, HF.out]))
              go_wp2
              refine wp_region_quiet_ext (by kernel_rfl) (by kernel_rfl) ?_
              repeat (any_goals (first | go_big_quiet_step (((first | (go_at_call 115; exact calls_ext (HWT.out _ (by repeat (first | exact grown_refl _ | exact grown_drewN _ _ | refine grown_ext' ?_ _ | refine grown_alloc ?_ _ | refine grown_drew ?_)))) | (go_at_call 117; exact calls_ext (HPN.out _ (by repeat (first | exact grown_refl _ | exact grown_drewN _ _ | refine grown_ext' ?_ _ | refine grown_alloc ?_ _ | refine grown_drew ?_))))))) | quiet_step (((first | (go_at_call 115; exact calls_ext (HWT.out _ (by repeat (first | exact grown_refl _ | exact grown_drewN _ _ | refine grown_ext' ?_ _ | refine grown_alloc ?_ _ | refine grown_drew ?_)))) | (go_at_call 117; exact calls_ext (HPN.out _ (by repeat (first | exact grown_refl _ | exact grown_drewN _ _ | refine grown_ext' ?_ _ | refine grown_alloc ?_ _ | refine grown_drew ?_)))))))))
              refine wpQuiet_nil ?_
              intro _ hw'
              obtain ⟨xx, hw''⟩ := hw'
              subst hw''
              go_wp2
              go_roundw
              case rel => exact ⟨k + 1, by omega, by go_num, by rw [HK.out]; exact HGR.out.more (by repeat (first | exact grown_refl _ | exact grown_drewN _ _ | refine grown_ext' ?_ _ | refine grown_alloc ?_ _ | refine grown_drew ?_))⟩
              case measure => simp [intOf]; omega
        · have HF := Lib.hid (show rwanted R R.holds[k].id = true ∧ ¬ rlife R R.holds[k].node = R.holds[k].inc from ⟨hw, by rw [HLF.out.1]; exact hlv⟩)
          have hd : (LV == R.holds[k].inc) = false := by simpa using hlv
          clear hw hlv
          have HK : Hid (keptF (keepH R) R.holds (k + 1) = keptF (keepH R) R.holds k) := (show _ = _ from keptF_no _ _ _ hlt (by simp [keepH, HF.out]))
          go_wp2
          refine wp_region_quiet_ext (by kernel_rfl) (by kernel_rfl) ?_
          repeat (any_goals (first | go_big_quiet_step (((first | (go_at_call 115; exact calls_ext (HWT.out _ (by repeat (first | exact grown_refl _ | exact grown_drewN _ _ | refine grown_ext' ?_ _ | refine grown_alloc ?_ _ | refine grown_drew ?_)))) | (go_at_call 117; exact calls_ext (HPN.out _ (by repeat (first | exact grown_refl _ | exact grown_drewN _ _ | refine grown_ext' ?_ _ | refine grown_alloc ?_ _ | refine grown_drew ?_))))))) | quiet_step (((first | (go_at_call 115; exact calls_ext (HWT.out _ (by repeat (first | exact grown_refl _ | exact grown_drewN _ _ | refine grown_ext' ?_ _ | refine grown_alloc ?_ _ | refine grown_drew ?_)))) | (go_at_call 117; exact calls_ext (HPN.out _ (by repeat (first | exact grown_refl _ | exact grown_drewN _ _ | refine grown_ext' ?_ _ | refine grown_alloc ?_ _ | refine grown_drew ?_)))))))))
          refine wpQuiet_nil ?_
          intro _ hw'
          obtain ⟨xx, hw''⟩ := hw'
          subst hw''
          go_wp2
          go_roundw
          case rel => exact ⟨k + 1, by omega, by go_num, by rw [HK.out]; exact HGR.out.more (by repeat (first | exact grown_refl _ | exact grown_drewN _ _ | refine grown_ext' ?_ _ | refine grown_alloc ?_ _ | refine grown_drew ?_))⟩
          case measure => simp [intOf]; omega
    · have hge : R.holds.length ≤ k := by omega
      have HK : Hid (keptF (keepH R) R.holds k = (rclean R).holds) := (show _ = _ from by rw [keptF_all _ _ _ hge]; rfl)
      clear hR hge
      go_wp2
      first | go_end0 | refine bodyPost_ret (results_none rfl _ _ _) rfl ?_
      refine ⟨rfl, ?_⟩
      have hN := RAt.newH (W0 := W) (grown_refl _) HBS.out HR.out HGR.out.grown HGR.out.row HGR.out.own
      rw [show rclean R = { R with holds := keptF (keepH R) R.holds k } from by rw [HK.out]; rfl]
      exact hN
end
end Go.Proofs.YtjfelfjobeeenaaGreat
