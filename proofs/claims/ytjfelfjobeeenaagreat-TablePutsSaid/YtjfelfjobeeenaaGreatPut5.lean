/- the table's text. -/
import Derived.Test.YtjfelfjobeeenaaGreatPut4
namespace Go.Proofs.YtjfelfjobeeenaaGreat
open Go.RowKit Go.Sf
set_option linter.unusedVariables false
theorem conv_str (W : World) (s : ByteArray) : ∃ y W2, (convert 9 25 (.string s)).run Tryz.prog W = .ok y W2 ∧ W.grownBy W2 none ∧ RawRow W2 y (strB s) :=
  ⟨_, _, Lib.run_convert_string_bytes (P := Tryz.prog) W 9 25 5 s (u := .string) Tryz.underlying9 Tryz.underlying25 Tryz.underlying5, grown_bytes _ _ _, rawRow_conv W s⟩
theorem Puts.then {W w1 w2 w3 : World} {wb base : Nat} {v v1 : Value} {l m : List Int} {e : Ending} (h : WBox W wb base v l) (hw : WBox w1 wb base v1 m) (ht : Turn (fun k => k = wb ∨ v.ownBlock = some k) W w1) (hv : v.ownBlock = v1.ownBlock ∨ ∀ g, v1.ownBlock = some g → W.heap.size ≤ g) (hg : w1.grownBy w2 none)
    {m2 : List Int} (hp : Puts w2 wb base v1 m2 e w3) : Puts W wb base v m2 e w3 := by
  obtain ⟨rfl, v2, hw2, ht2, hv2⟩ := hp
  refine ⟨rfl, v2, hw2, ⟨ht2.os.trans (hg.os.trans ht.os), ht2.tape.trans (hg.tape.trans ht.tape), ht2.output.trans (hg.output.trans ht.output), Nat.le_trans ht.size (Nat.le_trans hg.size ht2.size), fun k hk hn => ?_⟩, ?_⟩
  · have hk1 : k < w1.heap.size := Nat.lt_of_lt_of_le hk ht.size
    have hk2 : k < w2.heap.size := Nat.lt_of_lt_of_le hk1 hg.size
    refine (ht2.block k hk2 ?_).trans ((hg.block k hk1 (by simp)).trans (ht.block k hk hn))
    rintro (e | e)
    · exact hn (Or.inl e)
    · rcases hv with h0 | h0
      · exact hn (Or.inr (h0.trans e))
      · exact absurd hk (Nat.not_lt.2 (h0 k e))
  · have h3 : W.heap.size ≤ w2.heap.size := Nat.le_trans ht.size hg.size
    rcases hv2 with h2 | h2
    · rcases hv with h0 | h0
      · exact Or.inl (h0.trans h2)
      · exact Or.inr (fun g e => h0 g (h2.trans e))
    · exact Or.inr (fun g e => Nat.le_trans h3 (h2 g e))
theorem WBox.kept {W W' : World} {wb base : Nat} {v : Value} {l : List Int} (h : WBox W wb base v l) (hg : W.grownBy W' none) : WBox W' wb base v l :=
  ⟨(hg.block wb (Array.getElem?_eq_some_iff.1 h.box).1 (by simp)).trans h.box, h.row.kept hg (by
    rcases h : v.ownBlock with _ | k
    · exact Or.inl rfl
    · exact Or.inr (by simp))⟩
set_option maxHeartbeats 2000000 in
set_option maxRecDepth 100000 in
theorem text_any {W : World} {wb base : Nat} {v : Value} {l : List Int} (s : ByteArray) (h : WBox W wb base v l) (hb : base ≤ wb) (hl : l.length + s.size ≤ 10000000) :
    Calls Tryz.prog 52 #[.pointer (some ⟨wb, 0, none⟩), .string s] W fun e w' => Puts W wb base v (l ++ be 1 s.size ++ strB s) e w' := by
  have HB : Hid (Calls Tryz.prog 49 #[.pointer (some ⟨wb, 0, none⟩), .int .u8 ((s.size : Int) % 256)] W fun e w' => Puts W wb base v (l ++ be 1 s.size) e w') := by
    have e1 : ((s.size : Int) % 256) = ((s.size % 256 : Nat) : Int) := by omega
    have e2 : be 1 (s.size % 256) = be 1 s.size := by simp [be]
    have hb1 := byte_any h hb (by omega) (s.size % 256) (by omega)
    rw [e2, ← e1] at hb1
    exact hb1
  have H := Lib.hid h
  clear h
  go_enter Tryz.func52, Tryz.ntmps52
  go_wp2_with (go_at_call 49; refine HB.out.mono ?_; rintro e w1 ⟨rfl, v1, hw, ht, hv⟩; obtain ⟨y, w2, hcv, hg, hy⟩ := conv_str w1 s; have HP : Hid (∀ e w3, Puts w2 wb base v1 (l ++ be 1 s.size ++ strB s) e w3 → Puts W wb base v (l ++ be 1 s.size ++ strB s) e w3) := (fun e w3 h3 => Puts.then H.out hw ht hv hg h3); have HR := Lib.hid (raw_any (hw.kept hg) hb hy (by rw [List.length_append, be_len, strB, List.length_map]; show _ + s.size ≤ _; omega)); have HV := Lib.hid hcv; clear hw ht hv hg hy hcv)
  rw [HV.out]
  simp only [Result.andThen]
  rw [Oper.upon_value]
  go_wp2_with (go_at_call 110; refine HR.out.mono ?_; intro e w3 hp; obtain ⟨rfl, hq⟩ := HP.out e w3 hp; have HQ := Lib.hid hq; clear hq hp)
  first | go_end0 | refine bodyPost_ret (results_none rfl _ _ _) rfl ?_
  exact ⟨rfl, HQ.out⟩
end Go.Proofs.YtjfelfjobeeenaaGreat
