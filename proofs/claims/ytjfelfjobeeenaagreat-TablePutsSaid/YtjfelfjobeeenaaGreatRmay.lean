/- starfishref25.May: the walk. Conditions: none. -/
import Derived.Test.YtjfelfjobeeenaaGreatPst
namespace Go.Proofs.YtjfelfjobeeenaaGreat
open Go.RowKit Go.Sf
set_option linter.unusedVariables false
theorem beqE (k : ByteArray) : k.toList.isEmpty = decide (k = ⟨#[]⟩) := by
  rw [Bool.eq_iff_iff, decide_eq_true_iff]
  obtain ⟨⟨x⟩⟩ := k
  rw [ByteArray.toList_eq]
  simp
theorem ret_bool {a b : Bool} (h : a = b) : Ending.returned (.bool a) = .returned (.bool b) := by rw [h]
set_option maxHeartbeats 2000000 in
set_option maxRecDepth 100000 in
theorem rbare_1 (node client inc req ver code : Int) (key : ByteArray) (W : World) :
    Calls Tryz.prog 46 #[encCmd ⟨1, node, client, inc, req, ver, key, code⟩] W fun e w' => e = .returned (.bool (decide ((⟨1, node, client, inc, req, ver, key, code⟩ : Cmd) = bareC ⟨1, node, client, inc, req, ver, key, code⟩))) ∧ W.grownBy w' none := by
  have hb := beqE key
  obtain ⟨B, hB⟩ : ∃ B, B = decide ((⟨1, node, client, inc, req, ver, key, code⟩ : Cmd) = bareC ⟨1, node, client, inc, req, ver, key, code⟩) := ⟨_, rfl⟩
  rw [← hB]
  have HB := Lib.hid hB
  clear hB
  simp only [encCmd]
  go_enter Tryz.func46, Tryz.ntmps46
  go_wp2
  all_goals
    go_ret
    refine ⟨ret_bool ?_, World.grownBy_alloc W _ none⟩
    rw [HB.out]
    simp [bareC, *] <;> rfl
set_option maxHeartbeats 2000000 in
set_option maxRecDepth 100000 in
theorem rbare_2 (node client inc req ver code : Int) (key : ByteArray) (W : World) :
    Calls Tryz.prog 46 #[encCmd ⟨2, node, client, inc, req, ver, key, code⟩] W fun e w' => e = .returned (.bool (decide ((⟨2, node, client, inc, req, ver, key, code⟩ : Cmd) = bareC ⟨2, node, client, inc, req, ver, key, code⟩))) ∧ W.grownBy w' none := by
  have hb := beqE key
  obtain ⟨B, hB⟩ : ∃ B, B = decide ((⟨2, node, client, inc, req, ver, key, code⟩ : Cmd) = bareC ⟨2, node, client, inc, req, ver, key, code⟩) := ⟨_, rfl⟩
  rw [← hB]
  have HB := Lib.hid hB
  clear hB
  simp only [encCmd]
  go_enter Tryz.func46, Tryz.ntmps46
  go_wp2
  all_goals
    go_ret
    refine ⟨ret_bool ?_, World.grownBy_alloc W _ none⟩
    rw [HB.out]
    simp [bareC, *] <;> rfl
set_option maxHeartbeats 2000000 in
set_option maxRecDepth 100000 in
theorem rbare_3 (node client inc req ver code : Int) (key : ByteArray) (W : World) :
    Calls Tryz.prog 46 #[encCmd ⟨3, node, client, inc, req, ver, key, code⟩] W fun e w' => e = .returned (.bool (decide ((⟨3, node, client, inc, req, ver, key, code⟩ : Cmd) = bareC ⟨3, node, client, inc, req, ver, key, code⟩))) ∧ W.grownBy w' none := by
  have hb := beqE key
  obtain ⟨B, hB⟩ : ∃ B, B = decide ((⟨3, node, client, inc, req, ver, key, code⟩ : Cmd) = bareC ⟨3, node, client, inc, req, ver, key, code⟩) := ⟨_, rfl⟩
  rw [← hB]
  have HB := Lib.hid hB
  clear hB
  simp only [encCmd]
  go_enter Tryz.func46, Tryz.ntmps46
  go_wp2
  all_goals
    go_ret
    refine ⟨ret_bool ?_, World.grownBy_alloc W _ none⟩
    rw [HB.out]
    simp [bareC, *] <;> rfl
set_option maxHeartbeats 2000000 in
set_option maxRecDepth 100000 in
theorem rbare_4 (node client inc req ver code : Int) (key : ByteArray) (W : World) :
    Calls Tryz.prog 46 #[encCmd ⟨4, node, client, inc, req, ver, key, code⟩] W fun e w' => e = .returned (.bool (decide ((⟨4, node, client, inc, req, ver, key, code⟩ : Cmd) = bareC ⟨4, node, client, inc, req, ver, key, code⟩))) ∧ W.grownBy w' none := by
  have hb := beqE key
  obtain ⟨B, hB⟩ : ∃ B, B = decide ((⟨4, node, client, inc, req, ver, key, code⟩ : Cmd) = bareC ⟨4, node, client, inc, req, ver, key, code⟩) := ⟨_, rfl⟩
  rw [← hB]
  have HB := Lib.hid hB
  clear hB
  simp only [encCmd]
  go_enter Tryz.func46, Tryz.ntmps46
  go_wp2
  all_goals
    go_ret
    refine ⟨ret_bool ?_, World.grownBy_alloc W _ none⟩
    rw [HB.out]
    simp [bareC, *] <;> rfl
set_option maxHeartbeats 2000000 in
set_option maxRecDepth 100000 in
theorem rbare_5 (node client inc req ver code : Int) (key : ByteArray) (W : World) :
    Calls Tryz.prog 46 #[encCmd ⟨5, node, client, inc, req, ver, key, code⟩] W fun e w' => e = .returned (.bool (decide ((⟨5, node, client, inc, req, ver, key, code⟩ : Cmd) = bareC ⟨5, node, client, inc, req, ver, key, code⟩))) ∧ W.grownBy w' none := by
  have hb := beqE key
  obtain ⟨B, hB⟩ : ∃ B, B = decide ((⟨5, node, client, inc, req, ver, key, code⟩ : Cmd) = bareC ⟨5, node, client, inc, req, ver, key, code⟩) := ⟨_, rfl⟩
  rw [← hB]
  have HB := Lib.hid hB
  clear hB
  simp only [encCmd]
  go_enter Tryz.func46, Tryz.ntmps46
  go_wp2
  all_goals
    go_ret
    refine ⟨ret_bool ?_, World.grownBy_alloc W _ none⟩
    rw [HB.out]
    simp [bareC, *] <;> rfl
set_option maxHeartbeats 2000000 in
set_option maxRecDepth 100000 in
theorem rbare_6 (node client inc req ver code : Int) (key : ByteArray) (W : World) :
    Calls Tryz.prog 46 #[encCmd ⟨6, node, client, inc, req, ver, key, code⟩] W fun e w' => e = .returned (.bool (decide ((⟨6, node, client, inc, req, ver, key, code⟩ : Cmd) = bareC ⟨6, node, client, inc, req, ver, key, code⟩))) ∧ W.grownBy w' none := by
  have hb := beqE key
  obtain ⟨B, hB⟩ : ∃ B, B = decide ((⟨6, node, client, inc, req, ver, key, code⟩ : Cmd) = bareC ⟨6, node, client, inc, req, ver, key, code⟩) := ⟨_, rfl⟩
  rw [← hB]
  have HB := Lib.hid hB
  clear hB
  simp only [encCmd]
  go_enter Tryz.func46, Tryz.ntmps46
  go_wp2
  all_goals
    go_ret
    refine ⟨ret_bool ?_, World.grownBy_alloc W _ none⟩
    rw [HB.out]
    simp [bareC, *] <;> rfl
set_option maxHeartbeats 2000000 in
set_option maxRecDepth 100000 in
theorem rbare_7 (node client inc req ver code : Int) (key : ByteArray) (W : World) :
    Calls Tryz.prog 46 #[encCmd ⟨7, node, client, inc, req, ver, key, code⟩] W fun e w' => e = .returned (.bool (decide ((⟨7, node, client, inc, req, ver, key, code⟩ : Cmd) = bareC ⟨7, node, client, inc, req, ver, key, code⟩))) ∧ W.grownBy w' none := by
  have hb := beqE key
  obtain ⟨B, hB⟩ : ∃ B, B = decide ((⟨7, node, client, inc, req, ver, key, code⟩ : Cmd) = bareC ⟨7, node, client, inc, req, ver, key, code⟩) := ⟨_, rfl⟩
  rw [← hB]
  have HB := Lib.hid hB
  clear hB
  simp only [encCmd]
  go_enter Tryz.func46, Tryz.ntmps46
  go_wp2
  all_goals
    go_ret
    refine ⟨ret_bool ?_, World.grownBy_alloc W _ none⟩
    rw [HB.out]
    simp [bareC, *] <;> rfl
theorem rbare_any (c : Cmd) (h1 : 1 ≤ c.kind) (h7 : c.kind ≤ 7) (W : World) : Calls Tryz.prog 46 #[encCmd c] W fun e w' => e = .returned (.bool (decide (c = bareC c))) ∧ W.grownBy w' none := by
  obtain ⟨kind, node, client, inc, req, ver, key, code⟩ := c
  simp only at h1 h7
  have h : kind = 1 ∨ kind = 2 ∨ kind = 3 ∨ kind = 4 ∨ kind = 5 ∨ kind = 6 ∨ kind = 7 := by omega
  rcases h with rfl | rfl | rfl | rfl | rfl | rfl | rfl
  · exact rbare_1 _ _ _ _ _ _ _ _
  · exact rbare_2 _ _ _ _ _ _ _ _
  · exact rbare_3 _ _ _ _ _ _ _ _
  · exact rbare_4 _ _ _ _ _ _ _ _
  · exact rbare_5 _ _ _ _ _ _ _ _
  · exact rbare_6 _ _ _ _ _ _ _ _
  · exact rbare_7 _ _ _ _ _ _ _ _
def rlongB (x : Int) : Bool := decide (0 ≤ x ∧ x ≤ 4611686018427387904)
set_option maxRecDepth 100000 in
theorem rlong (x : Int) (W : World) : Calls Tryz.prog 47 #[.int .i64 x] W fun e w' => e = .returned (.bool (rlongB x)) ∧ w' = W := by
  by_cases h0 : 0 ≤ x
  · by_cases h1 : x ≤ 4611686018427387904
    all_goals
      go_enter Tryz.func47, Tryz.ntmps47
      go_wp2
      go_ret
      exact ⟨ret_bool (by simp [rlongB, h0, h1]), rfl⟩
  · go_enter Tryz.func47, Tryz.ntmps47
    go_wp2
    go_ret
    exact ⟨ret_bool (by simp [rlongB]; omega), rfl⟩
theorem may_eq (kind node client inc req ver code : Int) (key : ByteArray) : mayB ⟨kind, node, client, inc, req, ver, key, code⟩ = (decide (1 ≤ kind) && decide (kind ≤ 7) && decide ((⟨kind, node, client, inc, req, ver, key, code⟩ : Cmd) = bareC ⟨kind, node, client, inc, req, ver, key, code⟩) && decide (0 ≤ node) && decide (node < 255) && decide (0 ≤ client) && decide (client ≤ 65535) && rlongB inc && rlongB req && rlongB ver && decide ((key.size : Int) ≤ 64) && decide (0 ≤ code) && decide (code ≤ 65535)) := by
  rw [Bool.eq_iff_iff]
  simp only [mayB, longB, smallB, rlongB, Bool.and_eq_true, decide_eq_true_eq]
  constructor
  · rintro ⟨⟨⟨⟨⟨a, b⟩, c⟩, d⟩, e⟩, f⟩
    exact ⟨⟨⟨⟨⟨⟨⟨⟨⟨⟨⟨⟨a, b⟩, c⟩, by omega⟩, by omega⟩, by omega⟩, by omega⟩, by omega⟩, by omega⟩, by omega⟩, by omega⟩, by omega⟩, by omega⟩
  · rintro ⟨⟨⟨⟨⟨⟨⟨⟨⟨⟨⟨⟨a, b⟩, c⟩, d⟩, e⟩, f⟩, g⟩, h⟩, i⟩, j⟩, k⟩, l⟩, m⟩
    exact ⟨⟨⟨⟨⟨a, b⟩, c⟩, by omega⟩, by omega⟩, by omega⟩
theorem cells8 {W w : World} {a0 a1 a2 a3 a4 a5 a6 a7 : Value} {t : TypeId} (h : (W.alloc (.cells #[a0, a1, a2, a3, a4, a5, a6, a7] t)).grownBy w none) :
    w.cell? ⟨W.heap.size, 0, none⟩ = some a0 ∧ w.cell? ⟨W.heap.size, 1, none⟩ = some a1 ∧ w.cell? ⟨W.heap.size, 2, none⟩ = some a2 ∧ w.cell? ⟨W.heap.size, 3, none⟩ = some a3 ∧ w.cell? ⟨W.heap.size, 4, none⟩ = some a4 ∧ w.cell? ⟨W.heap.size, 5, none⟩ = some a5 ∧ w.cell? ⟨W.heap.size, 6, none⟩ = some a6 ∧ w.cell? ⟨W.heap.size, 7, none⟩ = some a7 := by
  have e := (h.block W.heap.size (by simp) (by simp)).trans (heap_alloc_new W _)
  refine ⟨?_, ?_, ?_, ?_, ?_, ?_, ?_, ?_⟩ <;> simp [World.cell?, e]
set_option maxHeartbeats 4000000 in
set_option maxRecDepth 100000 in
theorem rmay_any (c : Cmd) (hk : (c.key.size : Int) ≤ 9223372036854775807) (W : World) : Calls Tryz.prog 11 #[encCmd c] W fun e w' => e = .returned (.bool (mayB c)) ∧ W.grownBy w' none := by
  obtain ⟨kind, node, client, inc, req, ver, key, code⟩ := c
  simp only at hk
  have hm := may_eq kind node client inc req ver code key
  have hbare := fun h1 h7 W => rbare_any ⟨kind, node, client, inc, req, ver, key, code⟩ h1 h7 W
  generalize hE : decide ((⟨kind, node, client, inc, req, ver, key, code⟩ : Cmd) = bareC ⟨kind, node, client, inc, req, ver, key, code⟩) = E at hm hbare
  clear hE
  have HB : Hid (1 ≤ kind → kind ≤ 7 → ∀ W, Calls Tryz.prog 46 #[(.agg #[.int .u8 kind, .int .i64 node, .int .i64 client, .int .i64 inc, .int .i64 req, .int .i64 ver, .string key, .int .i64 code] : Value)] W fun e w' => e = .returned (.bool E) ∧ W.grownBy w' none) := hbare
  clear hbare
  have L1 := Lib.hid (rlong inc)
  have L2 := Lib.hid (rlong req)
  have L3 := Lib.hid (rlong ver)
  generalize rlongB inc = B1 at *
  generalize rlongB req = B2 at *
  generalize rlongB ver = B3 at *
  have HM := Lib.hid hm
  clear hm
  simp only [encCmd]
  go_enter Tryz.func11, Tryz.ntmps11
  go_wp2_with (first
    | (go_at_call 46; refine (HB.out (by assumption) (by assumption) _).mono ?_; rintro e w1 ⟨rfl, hg⟩; obtain ⟨d0, d1, d2, d3, d4, d5, d6, d7⟩ := cells8 hg; have HG := Lib.hid hg; clear hg)
    | (go_at_call 47; (first | refine (L1.out _).mono ?_ | refine (L2.out _).mono ?_ | refine (L3.out _).mono ?_); rintro e w2 ⟨rfl, rfl⟩))
  all_goals
    go_ret
    refine ⟨ret_bool ?_, ?_⟩
    · rw [HM.out]; simp [*] <;> intros <;> omega
    · first | exact World.grownBy_alloc W _ none | exact grown_trans (World.grownBy_alloc W _ none) HG.out
end Go.Proofs.YtjfelfjobeeenaaGreat
