/- What Holders answers. Conditions: a table that lies in memory, nodes within range. -/
import Derived.Test.YtjfelfjobeeenaaGreatNew
import Derived.Test.YtjfelfjobeeenaaGreatKeys
import Derived.Test.YtjfelfjobeeenaaGreatLay
namespace Go.Proofs.YtjfelfjobeeenaaGreat
open Go.RowKit Go.Sf Go.Shelf Go.Maps Go.Sort
set_option linter.unusedVariables false
theorem sortsI (m : Nat) : AnyZI.SortsIn Tryz.prog Tryz.sortedI_ren Fence.wide m :=
  ⟨fun blk off cap ss W hH hblk hsz => callsIn_wide.2 (AnyM.slices_Sort_int Tryz.sortI blk off cap ss W hH hblk hsz),
   fun p cap W => callsIn_wide.2 (AnyM.slices_Sort_int_none Tryz.sortI p cap W)⟩
theorem below_grown {w w' : World} (h : Below w.heap.size w w') : w.grownBy w' none := ⟨h.os, h.tape, h.output, h.size, fun k hk _ => h.block k hk⟩
/-- a map's keys, as an iterator -/
theorem keysI_any (mb : Option Nat) (W : World) : Calls Tryz.prog 82 #[.map mb] W fun e w' =>
    e = .returned (.func (.func 145) #[] #[.pointer (some ⟨W.heap.size, 0, none⟩)]) ∧ w' = W.alloc (.cells #[.map mb] 127) :=
  callsIn_wide.1 (AnyZI.keys_in Tryz.keysI Fence.wide 5 trivial rfl mb W)
theorem intKeys_perm {l : List Int} {E : List (Lit × DataW Unit)} (h : E.Perm (l.map fun n => (Lit.int .i64 n, (DataW.nil : DataW Unit)))) : (intKeys (.map E)).Perm l := by
  have h1 := h.map (fun p => (match p.1 with | .int _ x => x | _ => 0 : Int))
  have h2 : (l.map fun n => (Lit.int .i64 n, (DataW.nil : DataW Unit))).map (fun p => (match p.1 with | .int _ x => x | _ => 0 : Int)) = l := by
    rw [List.map_map]; simp [Function.comp_def]
  rw [h2] at h1
  exact h1
/-- rows of numbers that are new -/
def Ints (w w' : World) (v : Value) (l : List Int) : Prop := w'.ownsRow w.heap.size 3 1 v l.length (l.map (Value.int .i64)) ∧ (v = .slice none 0 0 ↔ l = []) ∧ w.grownBy w' none
theorem sortedI_any {W : World} (s : NSet) (h : SetT W s) (hr : ∀ n ∈ s.mem, (Lit.int .i64 n).wf = true) (hl : s.mem.length ≤ 1000000) (Bm : Nat) (hBm : Bm < W.heap.size) (hm : W.cell? ⟨Bm, 0, none⟩ = some (.map (some s.blk))) :
    Calls Tryz.prog 81 #[.func (.func 145) #[] #[.pointer (some ⟨Bm, 0, none⟩)]] W
      fun e w' => ∃ v, e = .returned v ∧ Ints W w' v (s.mem.mergeSort fun x y => decide (x ≤ y)) := by
  obtain ⟨E, hown, hE⟩ := MapT.owns (P := Tryz.prog) (k := 3) h (fun n => Lit.int .i64 n) (fun p hp => by
    obtain ⟨n, hn, rfl⟩ := List.mem_map.1 hp
    exact keyOf_int_mk Tryz.underlying3 (hr n hn)) (by simp [maxLen]; omega)
  have hE' : E.Perm (s.mem.map fun n => (Lit.int .i64 n, (DataW.nil : DataW Unit))) := by
    rw [List.map_map] at hE; exact hE
  have hkeys := intKeys_perm hE'
  have hsz : Maps.size (.map E : DataW Unit) = s.mem.length := by
    have := hE'.length_eq
    simpa [Maps.size] using this
  have hbl := hown.lt
  have hseq : SeqGives Fence.wide 2 Tryz.prog 145 #[.pointer (some ⟨Bm, 0, none⟩)] encZ (fun ss => ss.Perm (intKeys (.map E : DataW Unit))) (Maps.size (.map E : DataW Unit)) W :=
    AnyZI.keys_gives (ρ := Tryz.keysI_ren) { Tryz.keysI with } Fence.wide _ trivial rfl (by omega) Bm s.blk _ (.map E) _ hBm hm hown
  have cS := AnyZI.sorted_in Tryz.sortedI Fence.wide 5 trivial trivial trivial trivial rfl (by omega) (sortsI _) (enters_of Tryz.func144 (by kernel_rfl) rfl) 145 #[.pointer (some ⟨Bm, 0, none⟩)] trivial (enters_of Tryz.func145 (by kernel_rfl) rfl) _ _ (by rw [hsz]; simp [maxLen]; omega) (by rw [hsz]; omega) _ hseq
  refine (callsIn_wide.1 cS).mono ?_
  rintro e w' ⟨v, ss, rfl, hS, hrow, hnil, hb⟩
  have hp : ss.Perm s.mem := hS.trans hkeys
  have hm : (ss.mergeSort fun x y => decide (x ≤ y)) = (s.mem.mergeSort fun x y => decide (x ≤ y)) := mergeSort_of_perm_i hp
  refine ⟨v, rfl, ?_, ?_, below_grown hb⟩
  · have h1 : ss.length = (s.mem.mergeSort fun x y => decide (x ≤ y)).length := by rw [← hm, List.length_mergeSort]
    rw [h1, hm] at hrow
    exact hrow
  · rw [hnil, ← hm]
    constructor
    · intro h0; rw [h0]; simp
    · intro h0
      have := congrArg List.length h0
      rw [List.length_mergeSort] at this
      exact List.eq_nil_of_length_eq_zero (by simpa using this)
theorem sortedI_nil (W : World) (Bm : Nat) (hBm : Bm < W.heap.size) (hm : W.cell? ⟨Bm, 0, none⟩ = some (.map none)) :
    Calls Tryz.prog 81 #[.func (.func 145) #[] #[.pointer (some ⟨Bm, 0, none⟩)]] W fun e w' => ∃ v, e = .returned v ∧ Ints W w' v [] := by
  have hseq : SeqGives Fence.wide 2 Tryz.prog 145 #[.pointer (some ⟨Bm, 0, none⟩)] encZ (fun ss : List Int => ss = []) 0 W :=
    AnyZI.keys_gives_nil (ρ := Tryz.keysI_ren) { Tryz.keysI with } Fence.wide _ trivial rfl Bm _ hBm hm
  have cS := AnyZI.sorted_in Tryz.sortedI Fence.wide 5 trivial trivial trivial trivial rfl (by omega) (sortsI _) (enters_of Tryz.func144 (by kernel_rfl) rfl) 145 #[.pointer (some ⟨Bm, 0, none⟩)] trivial (enters_of Tryz.func145 (by kernel_rfl) rfl) _ 0 (Nat.zero_le _) (by omega) _ hseq
  refine (callsIn_wide.1 cS).mono ?_
  rintro e w' ⟨v, ss, rfl, rfl, hrow, hnil, hb⟩
  simp only [List.mergeSort_nil] at hrow
  exact ⟨v, rfl, hrow, hnil, below_grown hb⟩
end Go.Proofs.YtjfelfjobeeenaaGreat
