/- starfishref02.Bytes: the walk. Conditions: at most 8 bytes. -/
import Derived.Test.YtjfelfjobeeenaaGreatGet2
import Derived.Lib.AppendStr
import Derived.Deep.OwnRows
import Derived.Laws.OwnMore
namespace Go.Proofs.YtjfelfjobeeenaaGreat
open Go.RowKit Go.Sf
set_option linter.unusedVariables false
/-- a row of bytes that is being written from its end -/
structure BPart (W : World) (base g n m : Nat) (tail : List Int) (w : World) : Prop where
  row : w.ownsRow base 5 1 (.slice (some ⟨g, 0, none⟩) n n) n (List.replicate m (.int .u8 0) ++ bytesV tail)
  grown : W.grownBy w none
  le : W.heap.size ≤ g
theorem BPart.step {W w : World} {base g n m : Nat} {tail : List Int} (h : BPart W base g n (m + 1) tail w) (hn : m < n) (x : Int) : BPart W base g n m (x :: tail) (w.setCell ⟨g, m, none⟩ (.int .u8 x)) := by
  have hs := grown_set w g m (.int .u8 x)
  refine ⟨?_, ⟨hs.os.trans h.grown.os, hs.tape.trans h.grown.tape, hs.output.trans h.grown.output, Nat.le_trans h.grown.size hs.size, fun k hk _ => (hs.block k (Nat.lt_of_lt_of_le hk h.grown.size) (fun e => by cases e; have := h.le; omega)).trans (h.grown.block k hk (by simp))⟩, h.le⟩
  have hr := row_set h.row m hn (.int .u8 x)
  have e1 : List.replicate (m + 1) (Value.int .u8 0) ++ bytesV tail = List.replicate m (Value.int .u8 0) ++ Value.int .u8 0 :: bytesV tail := by
    rw [List.replicate_succ']; simp
  have e2 : (List.replicate m (Value.int .u8 0)).length = m := by simp
  rw [e1] at hr
  have e3 := set_mid (List.replicate m (Value.int .u8 0)) (.int .u8 0) (bytesV tail) (.int .u8 x)
  rw [e2] at e3
  rw [e3] at hr
  exact hr
theorem BPart.facts {W w : World} {base g n m : Nat} {tail : List Int} (h : BPart W base g n (m + 1) tail w) (hn : m < n) : (∃ u, w.cell? ⟨g, m, none⟩ = some u) ∧ w.frozen? ⟨g, m, none⟩ = false := by
  rcases h.row.2 with ⟨e1, _⟩ | ⟨b, c, cur, e1, _, hb, r1, r2, r3, r4⟩
  · cases e1
  · cases e1
    refine ⟨⟨cur[m]'(by omega), ?_⟩, ?_⟩
    · simp [World.cell?, hb]
    · simp [World.frozen?, hb]
theorem bpart_start (W : World) (k : Nat) (hk : k ≤ 1000) : BPart W W.heap.size W.heap.size k k [] (W.alloc (.cells (madeCells #[.int .u8 0] k) 5)) := by
  have hl := toList_madeCells_one (.int .u8 0) k
  have hs : (madeCells #[Value.int .u8 0] k).size = k := by rw [← Array.length_toList, hl]; simp
  refine ⟨⟨by simp [bytesV], .inr ⟨W.heap.size, k, madeCells #[.int .u8 0] k, rfl, Nat.le_refl _, heap_alloc_new W _, Nat.le_refl _, by unfold maxLen; omega, by rw [hs]; omega, ?_⟩⟩, World.grownBy_alloc W _ none, Nat.le_refl _⟩
  rw [hl]
  simp [bytesV]
set_option maxHeartbeats 2000000 in
set_option maxRecDepth 100000 in
theorem bytes02 (N k : Nat) (hk0 : 0 < k) (hk : k ≤ 8) (hN : N < 256 ^ 8) (W : World) (kk : Int) (hkk : kk = k) : Calls Tryz.prog 54 #[.int .u64 N, .int .i64 kk] W fun e w' =>
    ∃ v, e = .returned v ∧ RawRow w' v (be k N) ∧ W.grownBy w' none := by
  subst hkk
  have hmk := run_make_row' (P := Tryz.prog) 25 5 (.int .u8 0) 1 Tryz.underlying25 infoU8 rfl .i64 .i64 k (by omega) (by omega)
  have HS : Hid (BPart W W.heap.size W.heap.size k k [] (W.alloc (.cells (madeCells #[.int .u8 0] k) 5))) := bpart_start W k (by omega)
  go_enter Tryz.func54, Tryz.ntmps54
  go_wp2
  go_loopw [0, 6] (fun nv i wr => ∃ (m nc : Nat) (tail : List Int), m ≤ k ∧ nv = .int .u64 nc ∧ nc < 256 ^ 8 ∧ i = .int .i64 ((k : Int) - m + 1) ∧ be k N = be m nc ++ tail ∧ tail.length + m = k ∧ BPart W W.heap.size W.heap.size k m tail wr) (fun _ i _ => (k : Int).toNat + 1 - (intOf i).toNat)
  case atStart => exact ⟨k, N, [], Nat.le_refl _, rfl, hN, by congr 1; omega, by simp, by simp, HS.out⟩
  case round =>
    obtain ⟨m, nc, tail, hm, rfl, hnc, rfl, hbe, htl, hp⟩ := hrel
    have HP := Lib.hid hp
    clear hp
    cases m with
    | zero =>
      go_wp2
      go_ret
      have hbt : be k N = tail := by simpa [be] using hbe
      refine ⟨_, rfl, ?_, HP.out.grown⟩
      have hr := HP.out.row
      rw [hbt]
      have hl : tail.length = k := by omega
      refine raw_of_row (base := W.heap.size) ?_
      rw [hl]
      simpa using hr
    | succ m =>
      obtain ⟨⟨u, c0⟩, f0⟩ := HP.out.facts (by omega)
      have he : k - (k - (m + 1) + 1) = m := by omega
      have hlt : m < k := by omega
      go_wp2
      refine ⟨⟨m, nc / 256, ((nc % 256 : Nat) : Int) :: tail, by omega, by simp, Nat.lt_of_le_of_lt (Nat.div_le_self _ _) hnc, by congr 1; omega, by rw [hbe, be_eq]; simp, by simp only [List.length_cons]; omega, ?_⟩, by simp [intOf]; omega⟩
      have hnm : ((nc % 256 : Nat) : Int) = (nc : Int) % 256 := rfl
      rw [hnm]
      exact HP.out.step hlt _
end Go.Proofs.YtjfelfjobeeenaaGreat
