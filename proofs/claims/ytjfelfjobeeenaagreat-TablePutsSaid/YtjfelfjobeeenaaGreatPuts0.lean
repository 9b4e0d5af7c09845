/- TablePuts: rows of bytes that a call makes. Conditions: none. -/
import Derived.Test.YtjfelfjobeeenaaGreatRb2
import Derived.Test.YtjfelfjobeeenaaGreatRmay
import Derived.Test.YtjfelfjobeeenaaGreatWorks2
import Derived.ArgAppend
namespace Go.Proofs.YtjfelfjobeeenaaGreat
open Go.RowKit Go.Sf
set_option linter.unusedVariables false
theorem BRow.later {B : Nat} {W w : World} {v : Value} {l : List Int} (h : BRow B W v l) (hB : B ≤ W.heap.size) (hg : W.grownBy w none) : BRow w.heap.size w v l := by
  obtain ⟨p, cap, rfl, h1, h2, h3⟩ := (h.turn fun k hk => hg.block k (Nat.lt_of_lt_of_le hk hB) (by simp)).ex
  refine ⟨p, cap, rfl, h1, h2, ?_⟩
  rcases h3 with h3 | ⟨a, rfl, hb, h4⟩
  · exact Or.inl h3
  · exact Or.inr ⟨a, rfl, Nat.lt_of_lt_of_le hb (Nat.le_trans hB hg.size), h4⟩
theorem brow_of_row {w : World} {base : Nat} {v : Value} {l : List Int} (h : w.ownsRow base 5 1 v l.length (bytesV l)) : BRow w.heap.size w v l := by
  rcases h.2 with ⟨e1, h0⟩ | ⟨b, c, cur, e1, _, hb, r1, r2, _⟩
  · have : l = [] := List.eq_nil_of_length_eq_zero h0
    subst this
    exact ⟨none, 0, by rw [e1]; rfl, by simp, by omega, Or.inl rfl⟩
  · exact ⟨_, _, e1, r1, by unfold maxLen at r2; omega, Or.inr ⟨_, rfl, (Array.getElem?_eq_some_iff.1 hb).1, h.cells (g := b) (by rw [e1]; rfl)⟩⟩
theorem BRow.front {B : Nat} {W : World} {p : Option Addr} {cap : Nat} {l : List Int} (h : BRow B W (.slice p l.length cap) l) {n : Nat} (hn : n ≤ l.length) : BRow B W (.slice p n cap) (l.take n) := by
  obtain ⟨p', cap', e, h1, h2, h3⟩ := h.ex
  injection e with e1 _ e2
  subst e1 e2
  have hl : (l.take n).length = n := by rw [List.length_take]; omega
  refine ⟨p, cap, by rw [hl], by omega, h2, ?_⟩
  rcases h3 with h3 | ⟨a, rfl, hb2, h4⟩
  · subst h3; exact Or.inl (by simp)
  · refine Or.inr ⟨a, rfl, hb2, fun j u hu => h4 j u ?_⟩
    rw [bytesV, List.map_take] at hu
    have hj : j < n := by
      rcases Nat.lt_or_ge j n with h | h
      · exact h
      · rw [List.getElem?_eq_none (by rw [List.length_take]; omega)] at hu; cases hu
    rw [List.getElem?_take_of_lt hj] at hu
    exact hu
/-- one byte behind a string's bytes -/
theorem app_byte {w : World} {b : Nat} {cur : Array Value} {s : ByteArray} {ad : Addr} {x : Int} {i0 : TypeInfo} (hi : Tryz.prog.info? 5 = some i0) (hz0 : i0.zero = some (.int .u8 0)) (hz1 : i0.size = 1) (hz2 : i0.bytes = 1) (hb : w.heap[b]? = some (.cells cur 5 (cur.size, cur.size + 1))) (hcm : cur.size ≤ 9223372036854775807) (hs : s.size ≤ cur.size) (hsm : s.size ≤ 100000) (hc : ∀ j u, (bytesV (strB s))[j]? = some u → w.cell? ⟨b, j, none⟩ = some u) (hx : w.cell? ad = some (.int .u8 x)) (ty : TypeId) (cx : Nat) :
    ∃ v' w', (Builtin.append_ #[25, 25] ty #[.slice (some ⟨b, 0, none⟩) s.size cur.size, .slice (some ad) 1 cx]).run Tryz.prog w = .ok v' w' ∧ w.grownBy w' (some b) ∧ BRow w'.heap.size w' v' (strB s ++ [x]) := by
  have hlen := strB_len s
  have hnews : ∀ j u, ([Value.int .u8 x])[j]? = some u → w.cell? (ad.add j) = some u := by
    intro j u hu
    cases j with
    | zero => simp at hu; subst hu; simpa [Addr.add] using hx
    | succ j => simp at hu
  have hsz : (strB s ++ [x]).length = s.size + 1 := by simp [hlen]
  by_cases hroom : s.size + 1 ≤ cur.size
  · have hr := run_append_room_cells (P := Tryz.prog) (w := w) 25 ty 5 i0 Tryz.underlying25 hi b 0 s.size cur.size ad 1 cx [.int .u8 x] (by simp [hz1]) hnews (by simp [Value.oneCell']) hroom (fun j hj => by
      have : j = 0 := by simpa using hj
      subst this
      simp [World.cell?, hb, hz1]; omega) (fun j hj => by
      have : j = 0 := by simpa using hj
      subst this
      simp [World.frozen?, hb, hz1]; omega)
    have e1 : 0 + s.size * i0.size = s.size := by rw [hz1]; omega
    rw [e1] at hr
    refine ⟨_, _, hr, ?_, ?_⟩
    · exact grown_set w b s.size (.int .u8 x)
    · have hsl : s.size < cur.size := by omega
      have hb2 : (w.setCells b s.size [.int .u8 x]).heap[b]? = some (.cells (cur.setIfInBounds s.size (.int .u8 x)) 5 (cur.size, cur.size + 1)) := by
        show (w.setCell ⟨b, s.size, none⟩ (.int .u8 x)).heap[b]? = _
        simp [World.setCell, Array.getElem?_modify, hb]
      refine ⟨_, _, by rw [hsz], by rw [hsz]; omega, hcm, Or.inr ⟨_, rfl, (Array.getElem?_eq_some_iff.1 hb2).1, fun j u hu => ?_⟩⟩
      have e2 : (⟨b, 0, none⟩ : Addr).add j = ⟨b, j, none⟩ := by rw [Addr.add_lit]; simp
      rw [e2, cell_block hb2]
      rw [bytesV, List.map_append] at hu
      by_cases hj : j < s.size
      · rw [List.getElem?_append_left (by rw [List.length_map, hlen]; exact hj)] at hu
        have := hc j u hu
        rw [cell_block hb] at this
        rw [← this, Array.getElem?_setIfInBounds, if_neg (by omega)]
      · rw [List.getElem?_append_right (by rw [List.length_map, hlen]; omega), List.length_map, hlen] at hu
        have hj0 : j = s.size := by
          rcases Nat.eq_or_lt_of_le (Nat.le_of_not_lt hj) with h | h
          · exact h.symm
          · rw [List.getElem?_eq_none (by simp; omega)] at hu; cases hu
        subst hj0
        simp at hu
        rw [Array.getElem?_setIfInBounds, if_pos rfl, if_pos hsl, hu]
  · have hr := run_append_grow (P := Tryz.prog) w 25 ty 5 i0 (.int .u8 0) Tryz.underlying25 hi hz0 ⟨b, 0, none⟩ s.size cur.size (bytesV (strB s)) (by simp [bytesV, hlen, hz1]) (fun j u hu => by
      have e2 : (⟨b, 0, none⟩ : Addr).add j = ⟨b, j, none⟩ := by rw [Addr.add_lit]; simp
      rw [e2]; exact hc j u hu) ad 1 cx [.int .u8 x] (by simp [hz1]) hnews (by omega) (by omega) (by rw [hz2]; exact growslice_fits (by omega) (by omega))
    refine ⟨_, _, hr, ⟨rfl, rfl, rfl, by simp, fun k hk _ => (World.grownBy_alloc w.drew _ none).block k hk (by simp)⟩, ?_⟩
    have hge := grownCap_ge w (s.size + 1) cur.size 5
    have hcm2 := grownCap_le_maxLen w (s.size + 1) cur.size 5 (by unfold maxLen; omega)
    refine ⟨_, _, by rw [hsz], by rw [hsz]; exact hge, by unfold maxLen at hcm2; omega, Or.inr ⟨_, rfl, by simp, fun j u hu => ?_⟩⟩
    have e2 : (⟨w.heap.size, 0, none⟩ : Addr).add j = ⟨w.heap.size, j, none⟩ := by rw [Addr.add_lit]; simp
    rw [e2]
    refine (cell_block (b := w.drew.heap.size) (heap_alloc_new w.drew _) j).trans ?_
    have hjl : j < (bytesV (strB s ++ [x])).length := (List.getElem?_eq_some_iff.1 hu).1
    rw [Array.getElem?_append_left (by simp [bytesV] at hjl ⊢; omega)]
    rw [← hu]
    simp [bytesV, List.map_append]
set_option maxHeartbeats 1000000 in
set_option maxRecDepth 100000 in
theorem plain_any (c : Cmd) (W : World) : Calls Tryz.prog 12 #[encCmd c] W fun e w' => e = .returned (encCmd c) ∧ W.grownBy w' none := by
  simp only [encCmd]
  go_enter Tryz.func12, Tryz.ntmps12
  go_wp2
  refine bodyPost_ret (v := encCmd c) (by simp [encCmd, results, Tryz.results12, go_sem]) rfl ⟨rfl, by repeat (first | exact grown_refl _ | exact World.grownBy_alloc _ _ _ | refine grown_alloc ?_ _ | refine grown_drew ?_)⟩
end Go.Proofs.YtjfelfjobeeenaaGreat
