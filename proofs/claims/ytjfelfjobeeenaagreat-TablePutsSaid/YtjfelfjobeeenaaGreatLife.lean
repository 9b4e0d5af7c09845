/- What life does: a node lives another life; it is in no set any more. Conditions: a table that lies in memory. -/
import Derived.Test.YtjfelfjobeeenaaGreatDone
namespace Go.Proofs.YtjfelfjobeeenaaGreat
open Go.RowKit Go.Sf Go.Shelf
set_option linter.unusedVariables false

/-- sets amid the loop -/
def part (m : List (ID × NSet)) (seen : ID → Bool) (n : Int) : List (ID × NSet) := m.map fun p => (p.1, ⟨p.2.blk, if seen p.1 = true then sdel p.2.mem n else p.2.mem⟩)
def sdelAll (m : List (ID × NSet)) (n : Int) : List (ID × NSet) := m.map fun p => (p.1, ⟨p.2.blk, sdel p.2.mem n⟩)
theorem part_start (m : List (ID × NSet)) (n : Int) : part m (fun _ => false) n = m := by
  unfold part; simp
theorem part_end {m : List (ID × NSet)} {seen : ID → Bool} (h : AllSeen m seen) (n : Int) : part m seen n = sdelAll m n := by
  unfold part sdelAll
  apply List.map_congr_left
  intro p hp
  rw [if_pos (h p hp)]
theorem part_step {m : List (ID × NSet)} {seen : ID → Bool} {k : ID} (hk : seen k = false) (n : Int) : smod (part m seen n) k (fun l => sdel l n) = part m (fun x => seen x || decide (x = k)) n := by
  unfold smod part
  rw [List.map_map]
  apply List.map_congr_left
  intro p hp
  simp only [Function.comp]
  by_cases e : p.1 = k
  · simp [e, hk]
  · simp [e]
theorem part_keys (m : List (ID × NSet)) (seen : ID → Bool) (n : Int) : (part m seen n).map (·.1) = m.map (·.1) := by
  unfold part; rw [List.map_map]; rfl
theorem part_blks (m : List (ID × NSet)) (seen : ID → Bool) (n : Int) : (part m seen n).map (·.2.blk) = m.map (·.2.blk) := by
  unfold part; rw [List.map_map]; rfl
theorem sdelAll_blks (m : List (ID × NSet)) (n : Int) : (sdelAll m n).map (·.2.blk) = m.map (·.2.blk) := by
  unfold sdelAll; rw [List.map_map]; rfl
theorem part_get {m : List (ID × NSet)} (hn : (m.map (·.1)).Nodup) {seen : ID → Bool} {k : ID} {s : NSet} (h : (k, s) ∈ m) (hk : seen k = false) (n : Int) : mget (part m seen n) k = some s := by
  refine mget_of_mem (by rw [part_keys]; exact hn) ?_
  unfold part
  refine List.mem_map.2 ⟨(k, s), h, ?_⟩
  simp [hk]

section
variable {w w1 : World} {tb : Nat} {T : Tab}
/-- the table's sets turned, all else as it was -/
theorem TRep.upd_sets (h : TRep w tb T) {H R : List (ID × NSet)} (hc : Chg w w1 (T.hb :: T.rb :: (T.holds.map (·.2.blk) ++ T.refuses.map (·.2.blk)))) (ht : Two w1 T.rb T.hb R H)
    (hH : ∀ x ∈ H, x.2.blk ∈ T.holds.map (·.2.blk) ∨ w.heap.size ≤ x.2.blk) (hR : ∀ x ∈ R, x.2.blk ∈ T.refuses.map (·.2.blk) ∨ w.heap.size ≤ x.2.blk) : TRep w1 tb { T with holds := H, refuses := R } := by
  have nd := h.nodup
  have nd0 := nd
  simp only [Tab.blocks, List.nodup_cons, List.mem_cons, List.mem_append, List.mem_map, not_or, not_exists, not_and] at nd
  have out : ∀ b, b ∈ [tb, T.lb, T.cb, T.vb, T.pb] → b ∉ (T.hb :: T.rb :: (T.holds.map (·.2.blk) ++ T.refuses.map (·.2.blk))) := by
    intro b hb
    simp only [List.mem_cons, List.not_mem_nil, or_false] at hb
    simp only [List.mem_cons, List.mem_append, List.mem_map, not_or, not_exists, not_and]
    rcases hb with rfl | rfl | rfl | rfl | rfl
    · exact ⟨nd.1.2.2.2.2.1, nd.1.2.2.2.2.2.1, nd.1.2.2.2.2.2.2.1, nd.1.2.2.2.2.2.2.2⟩
    · exact ⟨nd.2.1.2.2.2.1, nd.2.1.2.2.2.2.1, nd.2.1.2.2.2.2.2.1, nd.2.1.2.2.2.2.2.2⟩
    · exact ⟨nd.2.2.1.2.2.1, nd.2.2.1.2.2.2.1, nd.2.2.1.2.2.2.2.1, nd.2.2.1.2.2.2.2.2⟩
    · exact ⟨nd.2.2.2.1.2.1, nd.2.2.2.1.2.2.1, nd.2.2.2.1.2.2.2.1, nd.2.2.2.1.2.2.2.2⟩
    · exact ⟨nd.2.2.2.2.1.1, nd.2.2.2.2.1.2.1, nd.2.2.2.2.1.2.2.1, nd.2.2.2.2.1.2.2.2⟩
  have blk : ∀ b, b ∈ [tb, T.lb, T.cb, T.vb, T.pb] → w1.heap[b]? = w.heap[b]? := fun b hb => hc.block (h.lt b (by
    simp only [List.mem_cons, List.not_mem_nil, or_false] at hb
    simp only [Tab.blocks, List.mem_cons]; rcases hb with rfl | rfl | rfl | rfl | rfl <;> simp)) (out b hb)
  have fresh : ∀ b, b ∈ [tb, T.lb, T.cb, T.vb, T.pb] → (b ∉ H.map (·.2.blk) ∧ b ∉ R.map (·.2.blk)) ∧ b ≠ T.hb ∧ b ≠ T.rb := by
    intro b hb
    have h1 := out b hb
    have hlt : b < w.heap.size := h.lt b (by
      simp only [List.mem_cons, List.not_mem_nil, or_false] at hb
      simp only [Tab.blocks, List.mem_cons]; rcases hb with rfl | rfl | rfl | rfl | rfl <;> simp)
    simp only [List.mem_cons, List.mem_append, not_or] at h1
    refine ⟨⟨fun hm => ?_, fun hm => ?_⟩, h1.1, h1.2.1⟩
    · obtain ⟨x, hx, e⟩ := List.mem_map.1 hm
      rcases hH x hx with h2 | h2
      · exact h1.2.2.1 (e ▸ h2)
      · omega
    · obtain ⟨x, hx, e⟩ := List.mem_map.1 hm
      rcases hR x hx with h2 | h2
      · exact h1.2.2.2 (e ▸ h2)
      · omega
  exact {
    cells := (blk tb (by simp)).trans h.cells
    lives := (blk T.lb (by simp)).trans h.lives
    calls := h.calls.same (blk T.cb (by simp))
    values := h.values.same (blk T.vb (by simp))
    pending := h.pending.same (blk T.pb (by simp))
    holds := ht.t
    refuses := ht.f
    hsets := ht.ts
    rsets := ht.fs
    nodup := by
      have f0 := fresh tb (by simp)
      have f1 := fresh T.lb (by simp)
      have f2 := fresh T.cb (by simp)
      have f3 := fresh T.vb (by simp)
      have f4 := fresh T.pb (by simp)
      have n2 := ht.swap.nd
      simp only [Tab.blocks]
      simp only [List.nodup_cons, List.mem_cons, List.mem_append, not_or] at n2 f0 f1 f2 f3 f4 ⊢
      exact ⟨⟨nd.1.1, nd.1.2.1, nd.1.2.2.1, nd.1.2.2.2.1, f0.2.1, f0.2.2, f0.1.1, f0.1.2⟩,
        ⟨nd.2.1.1, nd.2.1.2.1, nd.2.1.2.2.1, f1.2.1, f1.2.2, f1.1.1, f1.1.2⟩,
        ⟨nd.2.2.1.1, nd.2.2.1.2.1, f2.2.1, f2.2.2, f2.1.1, f2.1.2⟩,
        ⟨nd.2.2.2.1.1, f3.2.1, f3.2.2, f3.1.1, f3.1.2⟩,
        ⟨f4.2.1, f4.2.2, f4.1.1, f4.1.2⟩, n2.1, n2.2⟩ }
theorem TRep.two (h : TRep w tb T) : Two w T.rb T.hb T.refuses T.holds := by
  refine Two.swap ⟨h.holds, h.refuses, h.hsets, h.rsets, ?_⟩
  have := h.nodup
  unfold Tab.blocks at this
  exact (List.nodup_cons.1 (List.nodup_cons.1 (List.nodup_cons.1 (List.nodup_cons.1 (List.nodup_cons.1 this).2).2).2).2).2
theorem TRep.upd_life (h : TRep w tb T) (k : Nat) (n : Int) : TRep (w.setCell ⟨T.lb, k, none⟩ (.int .i64 n)) tb { T with lives := T.lives.set k n } := by
  have nd := h.nodup
  simp only [Tab.blocks, List.nodup_cons, List.mem_cons, List.mem_append, List.mem_map, not_or, not_exists, not_and] at nd
  have ho : ∀ b, b ≠ T.lb → (w.setCell ⟨T.lb, k, none⟩ (.int .i64 n)).heap[b]? = w.heap[b]? := fun b hb => Below.heap_setCell w _ _ b hb
  exact {
    cells := by
      rw [ho tb nd.1.1, h.cells]
      simp [Tab.cells]
    lives := by
      have := h.lives
      simp only [World.setCell, Array.getElem?_modify, if_true, this]
      simp [List.map_set]
    calls := h.calls.same (ho T.cb (Ne.symm nd.2.1.1))
    values := h.values.same (ho T.vb (Ne.symm nd.2.1.2.1))
    pending := h.pending.same (ho T.pb (Ne.symm nd.2.1.2.2.1))
    holds := h.holds.same (ho T.hb (Ne.symm nd.2.1.2.2.2.1))
    refuses := h.refuses.same (ho T.rb (Ne.symm nd.2.1.2.2.2.2.1))
    hsets := fun x hx => MapT.same (h.hsets x hx) (ho x.2.blk (nd.2.1.2.2.2.2.2.1 x hx))
    rsets := fun x hx => MapT.same (h.rsets x hx) (ho x.2.blk (nd.2.1.2.2.2.2.2.2 x hx))
    nodup := h.nodup }
end
end Go.Proofs.YtjfelfjobeeenaaGreat
