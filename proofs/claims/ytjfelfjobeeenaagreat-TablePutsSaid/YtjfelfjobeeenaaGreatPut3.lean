/- slices.Concat of two rows of bytes, slices.Clone; fields.Writer's Raw, Out: the walks. Conditions: rows in memory, not too many bytes. -/
import Derived.Test.YtjfelfjobeeenaaGreatPut2
import Derived.Maps.AppendAt
namespace Go.Proofs.YtjfelfjobeeenaaGreat
open Go.RowKit Go.Sf
set_option linter.unusedVariables false
/-- a slice of bytes, as it reads -/
structure RawRow (W : World) (v : Value) (l : List Int) : Prop where
  ex : ∃ p cap, v = .slice p l.length cap ∧ (l = [] ∨ ∃ a, p = some a ∧ ∀ j u, (bytesV l)[j]? = some u → W.cell? (a.add j) = some u)
theorem run_append_none {P : Program} (w : World) (base : Nat) (t ty e : TypeId) (i : TypeInfo) (ht : P.underlying t = some (.slice e)) (hi : P.info? e = some i) (v : Value) (n : Nat) (xs : List Value) (hown : w.ownsRow base e 1 v n xs) (cx : Nat) :
    (Builtin.append_ #[t, t] ty #[v, .slice none 0 cx]).run P w = .ok v w := by
  rcases hown.2 with ⟨rfl, rfl⟩ | ⟨g, cap, cur, rfl, hbg, hg, hnc, hcm, hcs, htake⟩
  · simp [Builtin.append_, run_underlying ht, sizeOf, typeInfo, hi, Builtin.lenOf, Builtin.firstCells]
  · simp [Builtin.append_, run_underlying ht, sizeOf, typeInfo, hi, Builtin.lenOf, Builtin.firstCells, hnc, storeCells]
theorem wpList_raw {P : Program} (w : World) {ops : Array Oper} {rest : List Oper} {o : Oper} {a : Act} {Q : Exit → Act → World → Prop} (hgd : o.guard = none) (s x : Operand) (t e : TypeId) (hop : o.op = .call { callee := .builtin .append, args := #[s, x], argTypes := #[t, t] })
    (i : TypeInfo) (ht : P.underlying t = some (.slice e)) (hi : P.info? e = some i) (hz : i.zero = some (.int .u8 0)) (hsize : i.size = 1) (hby : i.bytes = 1)
    (base : Nat) (v : Value) (n : Nat) (xs : List Value) (hs : a.eval s = v) (hown : w.ownsRow base e 1 v n xs) (y : Value) (l : List Int) (hx : a.eval x = y) (hy : RawRow w y l) (hk : n + l.length ≤ 1000000000) (hbase : base ≤ w.heap.size)
    (h : ∀ v' w', w'.ownsRow base e 1 v' (n + l.length) (xs ++ bytesV l) → w.grownBy w' v.ownBlock → (v'.ownBlock = v.ownBlock ∨ v'.ownBlock = some w.heap.size) → wpList P ops Q rest (a.put o.dst v') w') :
    wpList P ops Q (o :: rest) a w := by
  obtain ⟨p, cap, rfl, hc⟩ := hy.ex
  cases p with
  | none =>
    have hl : l = [] := by
      rcases hc with h0 | ⟨a, ha, _⟩
      · exact h0
      · cases ha
    subst hl
    have hr := run_append_none (P := P) w base t o.type e i ht hi v n xs hown cap
    exact Go.Lib.wpList_append_run w hgd s x t t hop v _ hs hx _ _ hr (h v w (by simpa [bytesV] using hown) ⟨rfl, rfl, rfl, Nat.le_refl _, fun _ _ _ => rfl⟩ (Or.inl rfl))
  | some ad =>
    have hc' : ∀ j u, (bytesV l)[j]? = some u → w.cell? (ad.add j) = some u := by
      rcases hc with h0 | ⟨a, ha, hc⟩
      · subst h0; intro j u hu; simp [bytesV] at hu
      · cases ha; exact hc
    obtain ⟨v', w', hr, h1, h2, h3, h4⟩ := run_append_own_at (P := P) w base t o.type e i (.int .u8 0) 1 1 ht hi hz hsize hby rfl (by decide) v n xs hown ad l.length cap (bytesV l) (by simp [bytesV]) hc' (fun u hu => by simp [bytesV] at hu; obtain ⟨b, _, rfl⟩ := hu; rfl) (by unfold maxLen; omega) (by omega) hbase
    exact Go.Lib.wpList_append_run w hgd s x t t hop v _ hs hx _ _ hr (h v' w' h1 h2 h4)
theorem RawRow.grown {W W' : World} {v : Value} {l : List Int} (h : RawRow W v l) {r : Option Nat} (hg : W.grownBy W' r) (hr : ∀ b p n c, r = some b → v = .slice (some p) n c → p.block ≠ b) : RawRow W' v l := by
  obtain ⟨p, cap, rfl, hc⟩ := h.ex
  refine ⟨p, cap, rfl, ?_⟩
  rcases hc with h0 | ⟨a, rfl, hc⟩
  · exact Or.inl h0
  · refine Or.inr ⟨a, rfl, fun j u hu => ?_⟩
    have hb : (a.add j).block = a.block := by unfold Addr.add; split <;> rfl
    have hcc := hc j u hu
    refine hg.cell hcc (fun e => hr a.block a _ _ (by rw [← e, hb]) rfl rfl)
theorem RawRow.nil {W : World} {v : Value} {l : List Int} (h : RawRow W v l) (e : v = .slice none 0 0) : l = [] := by
  obtain ⟨p, cap, rfl, hc⟩ := h.ex
  injection e with _ e2 _
  exact List.eq_nil_of_length_eq_zero e2
@[go_sem] theorem eqlBytesNone (n c : Nat) (w : World) : (binOp BinOp.eql 25 (.slice none n c) (.slice none 0 0)).run Tryz.prog w = .ok (.bool true) w := by kernel_rfl
@[go_sem] theorem eqlBytesSome (a : Addr) (n c : Nat) (w : World) : (binOp BinOp.eql 25 (.slice (some a) n c) (.slice none 0 0)).run Tryz.prog w = .ok (.bool false) w := by kernel_rfl
theorem raw_of_row {W : World} {base : Nat} {v : Value} {l : List Int} (h : W.ownsRow base 5 1 v l.length (bytesV l)) : RawRow W v l := by
  rcases h.2 with ⟨e1, h0⟩ | ⟨b, c, cur, e1, _⟩
  · have : l = [] := List.eq_nil_of_length_eq_zero h0
    subst this
    exact ⟨none, 0, by rw [e1]; rfl, Or.inl rfl⟩
  · exact ⟨_, _, e1, Or.inr ⟨_, rfl, h.cells (g := b) (by rw [e1]; rfl)⟩⟩
set_option maxHeartbeats 2000000 in
set_option maxRecDepth 100000 in
theorem clone_any {W : World} {v : Value} {l : List Int} (h : RawRow W v l) (hl : l.length ≤ 100000000) (hnil : v = .slice none 0 0 → l = []) :
    Calls Tryz.prog 111 #[v] W fun e w' => ∃ v', e = .returned v' ∧ w'.ownsRow W.heap.size 5 1 v' l.length (bytesV l) ∧ W.grownBy w' none := by
  obtain ⟨i0, hi, hz0, hz1, hz2⟩ := info_parts infoU8
  obtain ⟨p, cap, rfl, hc⟩ := h.ex
  cases p with
  | none =>
    have h0 : l = [] := by
      rcases hc with h0 | ⟨a, ha, _⟩
      · exact h0
      · cases ha
    subst h0
    clear hc h
    go_enter Tryz.func111, Tryz.ntmps111
    go_wp2
    go_ret
    exact ⟨_, rfl, World.ownsRow_nil _ _ _ _, grown_refl _⟩
  | some ad =>
    have H := Lib.hid h
    have HR : Hid (∀ W', W.grownBy W' none → RawRow W' (.slice (some ad) l.length cap) l) := (fun W' hg => h.grown hg (by simp))
    clear hc h
    go_enter Tryz.func111, Tryz.ntmps111
    go_wp2_with (at_builtin; refine wpList_raw _ rfl _ _ 25 5 rfl i0 Tryz.underlying25 hi hz0 hz1 hz2 W.heap.size _ 0 [] rfl ?r0 _ l rfl (HR.out _ ?r1) (by omega) ?r2 ?_)
    case r0 => exact World.ownsRow_made W #[] 0 (Nat.le_refl _) (by unfold maxLen; omega) rfl
    case r1 => exact grown_alloc (grown_refl _) _
    case r2 => simp
    intro v' w1 ho hg hat
    have HO := Lib.hid ho
    have HG : Hid (W.grownBy w1 none) := (show W.grownBy w1 none from ⟨hg.os, hg.tape, hg.output, Nat.le_trans (by simp) hg.size, fun k hk _ => (hg.block k (by simp; omega) (by simp [Value.ownBlock]; omega)).trans ((World.grownBy_alloc W _ none).block k hk (by simp))⟩)
    clear ho hg hat
    go_wp2
    go_ret
    exact ⟨_, rfl, by simpa using HO.out, HG.out⟩
set_option maxHeartbeats 2000000 in
set_option maxRecDepth 100000 in
theorem out_any {W : World} {wb base : Nat} {v : Value} {l : List Int} (h : WBox W wb base v l) (hl : l.length ≤ 100000000) :
    Calls Tryz.prog 53 #[.pointer (some ⟨wb, 0, none⟩)] W fun e w' => ∃ v', e = .returned v' ∧ w'.ownsRow W.heap.size 5 1 v' l.length (bytesV l) ∧ W.grownBy w' none := by
  have c0 : W.cell? ⟨wb, 0, none⟩ = some v := by simp [World.cell?, h.box]
  have hr : RawRow W v l := raw_of_row h.row
  have HC := Lib.hid (clone_any hr hl (fun e => hr.nil e))
  clear h hr
  go_enter Tryz.func53, Tryz.ntmps53
  go_wp2_with (go_at_call 111; refine HC.out.mono ?_; rintro e w' ⟨v', rfl, h1, h2⟩; have HQ := Lib.hid (And.intro h1 h2); clear h1 h2)
  go_ret
  exact ⟨v', rfl, HQ.out.1, HQ.out.2⟩
theorem grown_row {W w1 w2 : World} {base n : Nat} {e : TypeId} {v : Value} {xs : List Value} (h : W.grownBy w1 none) (hr : w1.ownsRow base e 1 v n xs) (hb : W.heap.size ≤ base) (h2 : w1.grownBy w2 v.ownBlock) : W.grownBy w2 none :=
  ⟨h2.os.trans h.os, h2.tape.trans h.tape, h2.output.trans h.output, Nat.le_trans h.size h2.size, fun k hk _ =>
    (h2.block k (Nat.lt_of_lt_of_le hk h.size) (fun e => by have := (hr.lt k e.symm).1; omega)).trans (h.block k hk (by simp))⟩
set_option maxHeartbeats 4000000 in
set_option maxRecDepth 100000 in
theorem concat_any {W : World} {r : Nat} {v0 v1 : Value} {l0 l1 : List Int} (h0 : RawRow W v0 l0) (h1 : RawRow W v1 l1) (c0 : W.cell? ⟨r, 0, none⟩ = some v0) (c1 : W.cell? ⟨r, 1, none⟩ = some v1) (hl : l0.length + l1.length ≤ 100000000) :
    Calls Tryz.prog 167 #[.slice (some ⟨r, 0, none⟩) 2 2] W fun e w' => ∃ v', e = .returned v' ∧ w'.ownsRow W.heap.size 5 1 v' (l0.length + l1.length) (bytesV l0 ++ bytesV l1) ∧ W.grownBy w' none := by
  obtain ⟨i0, hi, hz0, hz1, hz2⟩ := info_parts infoU8
  have H0 : Hid (∀ W', W.grownBy W' none → RawRow W' v0 l0) := (fun W' hg => h0.grown hg (by simp))
  have H1 : Hid (∀ W', W.grownBy W' none → RawRow W' v1 l1) := (fun W' hg => h1.grown hg (by simp))
  obtain ⟨p0, k0, rfl, -⟩ := h0.ex
  obtain ⟨p1, k1, rfl, -⟩ := h1.ex
  have hrl : r < W.heap.size := World.block_lt_of_cell? W _ c0
  have HC : Hid (∀ W', W.grownBy W' none → W'.cell? ⟨r, 0, none⟩ = some (.slice p0 l0.length k0) ∧ W'.cell? ⟨r, 1, none⟩ = some (.slice p1 l1.length k1)) := (fun W' hg => ⟨hg.cell c0 (by simp), hg.cell c1 (by simp)⟩)
  clear h0 h1
  generalize hn0 : l0.length = n0 at *
  generalize hn1 : l1.length = n1 at *
  have HN : Hid (l0.length = n0 ∧ l1.length = n1) := (show _ ∧ _ from ⟨hn0, hn1⟩)
  clear hn0 hn1
  go_enter Tryz.func167, Tryz.ntmps167
  go_wp2
  go_loopw [3, 11] (fun sz i wr => W = wr ∧ ((i = .int .i64 0 ∧ sz = .int .i64 0) ∨ (i = .int .i64 1 ∧ sz = .int .i64 n0) ∨ (i = .int .i64 2 ∧ sz = .int .i64 ((n0 + n1 : Nat) : Int)))) (fun _ i _ => 2 - (intOf i).toNat)
  case atStart => exact ⟨rfl, Or.inl ⟨rfl, rfl⟩⟩
  case round =>
    obtain ⟨rfl, ⟨rfl, rfl⟩ | ⟨rfl, rfl⟩ | ⟨rfl, rfl⟩⟩ := hrel
    · go_wp2
      go_roundw
      case rel => simp
      case measure => simp [intOf]
    · go_wp2
      go_roundw
      case rel => simp
      case measure => simp [intOf]
    · go_wp2_with (go_at_call 189; refine (grow_any (n0 + n1) (by omega) W).mono ?_; rintro e w1 ⟨vg, rfl, hr, hg, -⟩; have HR := Lib.hid hr; have HG := Lib.hid hg; clear hr hg c0 c1)
      go_loopw [6, 27] (fun v i wz => W.grownBy wz none ∧ ((i = .int .i64 0 ∧ wz.ownsRow W.heap.size 5 1 v 0 []) ∨ (i = .int .i64 1 ∧ wz.ownsRow W.heap.size 5 1 v n0 (bytesV l0)) ∨ (i = .int .i64 2 ∧ wz.ownsRow W.heap.size 5 1 v (n0 + n1) (bytesV l0 ++ bytesV l1)))) (fun _ i _ => 2 - (intOf i).toNat)
      case atStart => exact ⟨HG.out, Or.inl ⟨rfl, HR.out⟩⟩
      case round =>
        obtain ⟨hgr, ⟨rfl, ho⟩ | ⟨rfl, ho⟩ | ⟨rfl, ho⟩⟩ := hrel
        · obtain ⟨c0, c1⟩ := HC.out wr hgr
          have HGR := Lib.hid hgr
          have HO := Lib.hid ho
          clear hgr ho
          go_wp2_with (at_builtin; refine wpList_raw _ rfl _ _ 25 5 rfl i0 Tryz.underlying25 hi hz0 hz1 hz2 W.heap.size _ 0 [] rfl HO.out _ l0 rfl (H0.out _ HGR.out) (by have := HN.out; omega) HGR.out.size ?_; intro v2 w2 ho2 hg2 _; have HO2 := Lib.hid ho2; have HG2 := Lib.hid (grown_row HGR.out HO.out (Nat.le_refl _) hg2); clear ho2 hg2)
          go_roundw
          case rel => exact ⟨HG2.out, Or.inr (Or.inl ⟨rfl, by simpa [HN.out.1] using HO2.out⟩)⟩
          case measure => simp [intOf]
        · obtain ⟨c0, c1⟩ := HC.out wr hgr
          have HGR := Lib.hid hgr
          have HO := Lib.hid ho
          clear hgr ho
          go_wp2_with (at_builtin; refine wpList_raw _ rfl _ _ 25 5 rfl i0 Tryz.underlying25 hi hz0 hz1 hz2 W.heap.size _ n0 (bytesV l0) rfl HO.out _ l1 rfl (H1.out _ HGR.out) (by have := HN.out; omega) HGR.out.size ?_; intro v2 w2 ho2 hg2 _; have HO2 := Lib.hid ho2; have HG2 := Lib.hid (grown_row HGR.out HO.out (Nat.le_refl _) hg2); clear ho2 hg2)
          go_roundw
          case rel => exact ⟨HG2.out, Or.inr (Or.inr ⟨rfl, by simpa [HN.out.2] using HO2.out⟩)⟩
          case measure => simp [intOf]
        · have HGR := Lib.hid hgr
          have HO := Lib.hid ho
          clear hgr ho
          go_wp2
          go_ret
          exact ⟨_, rfl, HO.out, HGR.out⟩
end Go.Proofs.YtjfelfjobeeenaaGreat
