/- TablePuts: its callees at one command and its bytes; a byte behind a converted string's. Conditions: as the theorems say. -/
import Derived.Test.YtjfelfjobeeenaaGreatPuts0
namespace Go.Proofs.YtjfelfjobeeenaaGreat
open Go.RowKit Go.Sf
set_option linter.unusedVariables false
theorem neq_cmd (a b : Cmd) (w : World) : (binOp .neq 24 (encCmd a) (encCmd b)).run Tryz.prog w = .ok (.bool (!decide (a = b))) w := by
  obtain ⟨a1, a2, a3, a4, a5, a6, a7, a8⟩ := a
  obtain ⟨b1, b2, b3, b4, b5, b6, b7, b8⟩ := b
  simp [encCmd, go_sem, toList_eq_iff]
  by_cases e1 : a1 = b1 <;> by_cases e2 : a2 = b2 <;> by_cases e3 : a3 = b3 <;> by_cases e4 : a4 = b4 <;> by_cases e5 : a5 = b5 <;> by_cases e6 : a6 = b6 <;> by_cases e7 : a7 = b7 <;> by_cases e8 : a8 = b8 <;> simp [e1, e2, e3, e4, e5, e6, e7, e8]
/-- a converted string's bytes with one more behind them -/
theorem wpList_conv1 (w : World) (s : ByteArray) (hs : s.size ≤ 1000) (x : Int) {ops : Array Oper} {rest : List Oper} {o : Oper} {a : Act} {Q : Exit → Act → World → Prop} (hgd : o.guard = none) (so xo : Operand) (hop : o.op = .call { callee := .builtin .append, args := #[so, xo], argTypes := #[25, 25] })
    (hso : a.eval so = .slice (some ⟨w.heap.size, 0, none⟩) s.size (grownCap w s.size 0 5)) (b : Nat) (hb : b = w.heap.size + 1) (hxo : a.eval xo = .slice (some ⟨b, 0, none⟩) 1 1)
    (h : ∀ p' c' w', w.grownBy w' none → BRow w'.heap.size w' (.slice p' (s.size + 1) c') (strB s ++ [x]) → wpList Tryz.prog ops Q rest (a.put o.dst (.slice p' (s.size + 1) c')) w') :
    wpList Tryz.prog ops Q (o :: rest) a ((Lib.bytesWorld w 5 s).alloc (.cells #[.int .u8 x] 5)) := by
  subst hb
  obtain ⟨i0, hi, hz0, hz1, hz2⟩ := info_parts infoU8
  have hge := grownCap_ge w s.size 0 5
  have hcm := grownCap_le_maxLen w s.size 0 5 (by unfold maxLen; omega)
  have hcs : (Lib.bytesCells w 5 s).size = grownCap w s.size 0 5 := by
    have : s.data.size = s.size := rfl
    simp [Lib.bytesCells]
    omega
  have hb : ((Lib.bytesWorld w 5 s).alloc (.cells #[.int .u8 x] 5)).heap[w.heap.size]? = some (.cells (Lib.bytesCells w 5 s) 5 ((Lib.bytesCells w 5 s).size, (Lib.bytesCells w 5 s).size + 1)) :=
    (heap_alloc_old _ _ (by rw [Lib.bytesWorld_size]; omega)).trans (Lib.bytesWorld_at_new w 5 s)
  have hraw := rawRow_conv w s
  obtain ⟨p0, c0, e0, hc0⟩ := hraw.ex
  have hc : ∀ j u, (bytesV (strB s))[j]? = some u → ((Lib.bytesWorld w 5 s).alloc (.cells #[.int .u8 x] 5)).cell? ⟨w.heap.size, j, none⟩ = some u := by
    intro j u hu
    have e1 := (Value.slice.injEq _ _ _ _ _ _).mp e0 |>.1
    rcases hc0 with h0 | ⟨ad, h1, h2⟩
    · rw [h0] at hu; simp [bytesV] at hu
    · rw [h1] at e1
      obtain rfl := (Option.some.injEq _ _).mp e1
      have := h2 j u hu
      rw [Addr.add_lit, Nat.zero_add] at this
      exact (World.grownBy_alloc _ _ none).cell this (by simp)
  have hx : ((Lib.bytesWorld w 5 s).alloc (.cells #[.int .u8 x] 5)).cell? ⟨w.heap.size + 1, 0, none⟩ = some (.int .u8 x) := by
    have := cell_one_new (Lib.bytesWorld w 5 s) (.int .u8 x) 5 0 (.int .u8 x) rfl
    rw [Lib.bytesWorld_size] at this
    simpa [Addr.add] using this
  obtain ⟨v', w', hr, hg, hB⟩ := app_byte hi hz0 hz1 hz2 hb (by rw [hcs]; unfold maxLen at hcm; omega) (by rw [hcs]; exact hge) (by omega) hc hx o.type 1
  rw [hcs] at hr
  obtain ⟨p', c', rfl, -⟩ := hB.ex
  have hl : (strB s ++ [x]).length = s.size + 1 := by simp [strB_len]
  rw [hl] at hr hB
  refine Go.Lib.wpList_append_run _ hgd so xo 25 25 hop _ _ hso hxo _ _ hr (h p' c' w' ?_ hB)
  have g1 : w.grownBy ((Lib.bytesWorld w 5 s).alloc (.cells #[.int .u8 x] 5)) none := grown_alloc (grown_bytes w _ s) _
  exact grown_own g1 hg (fun k hk => by cases hk; exact Nat.le_refl _)
/-- what Get answers, once its bytes are known -/
def getV (o : Option Cmd) : Value := match o with
  | some c => encCmd c
  | none => .agg zeros
def getE (o : Option Cmd) : Int := match o with
  | some _ => 0
  | none => 2
theorem get_of {W : World} {v : Value} {l : List Int} (h : BRow W.heap.size W v l) (hl : BL l) (o : Option Cmd) (ho : decB l = o) : Calls Tryz.prog 15 #[v] W fun e w' => e = .returned (.tuple #[getV o, .int .i64 (getE o)]) ∧ W.grownBy w' none := by
  refine (get_any h hl).mono ?_
  rintro e w' ⟨h1, h2⟩
  rw [ho] at h1
  cases o <;> exact ⟨h1, h2⟩
/-- the box of a command, and bytes that a string is made of, in a later world -/
theorem put_keep {W wp w : World} {a0 a1 a2 a3 a4 a5 a6 a7 : Value} {t : TypeId} {v : Value} {E : List Int} (h0 : (W.alloc (.cells #[a0, a1, a2, a3, a4, a5, a6, a7] t)).grownBy wp none) (hx : BRow wp.heap.size wp v E) (hg : wp.grownBy w none) :
    w.cell? ⟨W.heap.size, 0, none⟩ = some a0 ∧ w.cell? ⟨W.heap.size, 1, none⟩ = some a1 ∧ w.cell? ⟨W.heap.size, 2, none⟩ = some a2 ∧ w.cell? ⟨W.heap.size, 3, none⟩ = some a3 ∧ w.cell? ⟨W.heap.size, 4, none⟩ = some a4 ∧ w.cell? ⟨W.heap.size, 5, none⟩ = some a5 ∧ w.cell? ⟨W.heap.size, 6, none⟩ = some a6 ∧ w.cell? ⟨W.heap.size, 7, none⟩ = some a7 ∧ (convert 25 9 v).run Tryz.prog w = .ok (.string (ofB E)) w := by
  obtain ⟨d0, d1, d2, d3, d4, d5, d6, d7⟩ := cells8 (grown_trans h0 hg)
  exact ⟨d0, d1, d2, d3, d4, d5, d6, d7, conv_bytes (hx.later (Nat.le_refl _) hg)⟩
end Go.Proofs.YtjfelfjobeeenaaGreat
