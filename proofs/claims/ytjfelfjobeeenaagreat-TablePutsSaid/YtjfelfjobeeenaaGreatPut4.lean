/- fields.Writer's Raw and the table's text: the walks. Conditions: a writer that lies in memory, not too many bytes. -/
import Derived.Test.YtjfelfjobeeenaaGreatPut3
import Derived.Lib.ConvBytes
namespace Go.Proofs.YtjfelfjobeeenaaGreat
open Go.RowKit Go.Sf
set_option linter.unusedVariables false
theorem row_lower {W : World} {base b2 n : Nat} {e : TypeId} {v : Value} {xs : List Value} (h : W.ownsRow base e 1 v n xs) (hb : b2 ≤ base) : W.ownsRow b2 e 1 v n xs := by
  refine ⟨h.1, ?_⟩
  rcases h.2 with h0 | ⟨g, cap, cur, e1, hbg, r⟩
  · exact Or.inl h0
  · exact Or.inr ⟨g, cap, cur, e1, Nat.le_trans hb hbg, r⟩
theorem set_box {W w1 : World} {wb base n : Nat} {v' : Value} {v : Value} {l m : List Int} (h : WBox W wb base v l) (hb : base ≤ wb) (hg : W.grownBy w1 none) (hr : w1.ownsRow W.heap.size 5 1 v' n (bytesV (l ++ m))) (hn : n = (l ++ m).length) :
    Puts W wb base v (l ++ m) (.returned (.tuple #[])) (w1.setCell ⟨wb, 0, none⟩ v') := by
  subst hn
  have hwb : wb < W.heap.size := by
    have hx := h.box
    rcases Nat.lt_or_ge wb W.heap.size with h' | h'
    · exact h'
    · rw [Array.getElem?_eq_none h'] at hx; cases hx
  have hx : w1.heap[wb]? = some (.cells #[v] 96 (0, 0)) := (hg.block wb hwb (by simp)).trans h.box
  have hs := grown_set w1 wb 0 v'
  have hne : v'.ownBlock ≠ some wb := fun e => by have := (hr.lt wb e).1; omega
  refine ⟨rfl, v', ⟨by simp [World.setCell, Array.getElem?_modify, hx], row_lower (hr.kept hs (Or.inr hne)) (by omega)⟩, ⟨hs.os.trans hg.os, hs.tape.trans hg.tape, hs.output.trans hg.output, Nat.le_trans hg.size hs.size, fun q hq hn => (hs.block q (Nat.lt_of_lt_of_le hq hg.size) (fun e => hn (Or.inl (by cases e; rfl)))).trans (hg.block q hq (by simp))⟩, Or.inr (fun g e => (hr.lt g e).1)⟩
/-- a string's bytes -/
def strB (s : ByteArray) : List Int := s.data.toList.map fun b => (b.toNat : Int)
theorem bytesV_app (l m : List Int) : bytesV l ++ bytesV m = bytesV (l ++ m) := by simp [bytesV]
set_option maxHeartbeats 2000000 in
set_option maxRecDepth 100000 in
theorem raw_any {W : World} {wb base : Nat} {v y : Value} {l m : List Int} (h : WBox W wb base v l) (hb : base ≤ wb) (hy : RawRow W y m) (hl : l.length + m.length ≤ 100000000) :
    Calls Tryz.prog 110 #[.pointer (some ⟨wb, 0, none⟩), y] W fun e w' => Puts W wb base v (l ++ m) e w' := by
  obtain ⟨p, cp, rfl⟩ := slice_form h.row
  obtain ⟨p1, c1, rfl, -⟩ := hy.ex
  have c0 : W.cell? ⟨wb, 0, none⟩ = some (.slice p l.length cp) := by simp [World.cell?, h.box]
  have h0 := h.box
  have hwb : wb < W.heap.size := World.block_lt_of_cell? W _ c0
  have hr : RawRow W (.slice p l.length cp) l := raw_of_row h.row
  have HC : Hid (∀ (W' : World) (r : Nat), W.grownBy W' none → W'.cell? ⟨r, 0, none⟩ = some (.slice p l.length cp) → W'.cell? ⟨r, 1, none⟩ = some (.slice p1 m.length c1) → Calls Tryz.prog 167 #[.slice (some ⟨r, 0, none⟩) 2 2] W' fun e w' => ∃ v', e = .returned v' ∧ w'.ownsRow W'.heap.size 5 1 v' (l.length + m.length) (bytesV l ++ bytesV m) ∧ W'.grownBy w' none) :=
    (fun W' r hg c0 c1 => concat_any (hr.grown hg (by simp)) (hy.grown hg (by simp)) c0 c1 hl)
  have HS : Hid (∀ w1 v', W.grownBy w1 none → w1.ownsRow W.heap.size 5 1 v' (l.length + m.length) (bytesV l ++ bytesV m) → Puts W wb base (.slice p l.length cp) (l ++ m) (.returned (.tuple #[])) (w1.setCell ⟨wb, 0, none⟩ v')) :=
    (fun w1 v' hg hr => set_box h hb hg (by rw [← bytesV_app]; exact hr) (by simp))
  clear h hr hy
  generalize l.length = n0 at *
  generalize m.length = n1 at *
  go_enter Tryz.func110, Tryz.ntmps110
  go_wp2_with (go_at_call 167; refine (HC.out _ W.heap.size (grown_alloc (grown_refl _) _) (by simp) (by simp)).mono ?_; rintro e w' ⟨v', rfl, h1, h2⟩; obtain ⟨q, cq, rfl⟩ := slice_form h1; have hx := ((grown_trans (grown_alloc (grown_refl W) _) h2).block wb hwb (by simp)).trans h0; have d0 : w'.cell? ⟨wb, 0, none⟩ = some (.slice p n0 cp) := (by simp [World.cell?, hx]); have y0 : w'.frozen? ⟨wb, 0, none⟩ = false := (by simp [World.frozen?, hx]); have HQ := Lib.hid (HS.out w' _ (grown_trans (grown_alloc (grown_refl _) _) h2) (row_lower h1 (by simp))); clear h1 h2)
  first | go_end0 | refine bodyPost_ret (results_none rfl _ _ _) rfl ?_
  exact HQ.out
theorem rawRow_conv (W : World) (s : ByteArray) : RawRow (Lib.bytesWorld W 5 s) (.slice (some ⟨W.heap.size, 0, none⟩) s.size (grownCap W s.size 0 5)) (strB s) := by
  have hs : (strB s).length = s.size := by rw [strB, List.length_map]; rfl
  refine ⟨_, _, by rw [hs], Or.inr ⟨_, rfl, fun j u hu => ?_⟩⟩
  have hj : j < s.size := by
    rcases Nat.lt_or_ge j s.size with h | h
    · exact h
    · rw [List.getElem?_eq_none (by rw [bytesV, List.length_map, hs]; exact h)] at hu; cases hu
  have hc := Lib.bytesWorld_cell W 5 s j hj
  have e1 : (⟨W.heap.size, 0, none⟩ : Addr).add j = ⟨W.heap.size, j, none⟩ := by rw [Addr.add_lit]; simp only [Nat.zero_add]
  rw [e1, hc]
  have hj2 : j < s.data.size := hj
  simp only [bytesV, strB, List.getElem?_map, Array.getElem?_toList, Array.getElem?_eq_getElem hj2, Option.map_some, Option.some.injEq] at hu
  rw [← hu]
  simp [List.getD, Array.getElem?_eq_getElem hj2]
theorem grown_bytes (W : World) (e : TypeId) (s : ByteArray) : W.grownBy (Lib.bytesWorld W e s) none :=
  ⟨rfl, rfl, rfl, by rw [Lib.bytesWorld_size]; omega, fun k hk _ => Lib.bytesWorld_at_old W e s k hk⟩
end Go.Proofs.YtjfelfjobeeenaaGreat
