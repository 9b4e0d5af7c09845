import Derived.Test.YtjfelfjobeeenaaGreatCmd
import Derived.Deep.DeepCutAuto
namespace Go.Proofs.YtjfelfjobeeenaaGreat
open Go.RowKit Go.Sf
set_option linter.unusedVariables false
def longB (c : Cmd) : Bool := decide (0 ≤ c.inc ∧ c.inc ≤ 4611686018427387904 ∧ 0 ≤ c.req ∧ c.req ≤ 4611686018427387904 ∧ 0 ≤ c.ver ∧ c.ver ≤ 4611686018427387904)
def smallB (c : Cmd) : Bool := decide (0 ≤ c.node ∧ c.node < 255 ∧ 0 ≤ c.client ∧ c.client ≤ 65535 ∧ 0 ≤ c.code ∧ c.code ≤ 65535)
theorem longB_iff {b : Bool} {c : Cmd} (h : b = true ↔ (0 ≤ c.inc ∧ c.inc ≤ 4611686018427387904 ∧ 0 ≤ c.req ∧ c.req ≤ 4611686018427387904 ∧ 0 ≤ c.ver ∧ c.ver ≤ 4611686018427387904)) : Value.bool b = Value.bool (longB c) := by
  congr 1
  rw [Bool.eq_iff_iff, h, longB, decide_eq_true_iff]
theorem smallB_iff {b : Bool} {c : Cmd} (h : b = true ↔ (0 ≤ c.node ∧ c.node < 255 ∧ 0 ≤ c.client ∧ c.client ≤ 65535 ∧ 0 ≤ c.code ∧ c.code ≤ 65535)) : Value.bool b = Value.bool (smallB c) := by
  congr 1
  rw [Bool.eq_iff_iff, h, smallB, decide_eq_true_iff]

theorem toList_eq_iff (k k' : ByteArray) : (k.toList == k'.toList) = decide (k = k') := by
  rw [Bool.eq_iff_iff, decide_eq_true_iff, beq_iff_eq, ByteArray.toList_eq, ByteArray.toList_eq]
  refine ⟨fun h => ?_, fun h => by rw [h]⟩
  obtain ⟨⟨x⟩⟩ := k; obtain ⟨⟨y⟩⟩ := k'
  simpa using h
theorem eql_cmd (a b : Cmd) (w : World) : (binOp .eql 24 (encCmd a) (encCmd b)).run Tryz.prog w = .ok (.bool (decide (a = b))) w := by
  obtain ⟨a1, a2, a3, a4, a5, a6, a7, a8⟩ := a
  obtain ⟨b1, b2, b3, b4, b5, b6, b7, b8⟩ := b
  simp [encCmd, go_sem, toList_eq_iff]
  by_cases e1 : a1 = b1 <;> by_cases e2 : a2 = b2 <;> by_cases e3 : a3 = b3 <;> by_cases e4 : a4 = b4 <;> by_cases e5 : a5 = b5 <;> by_cases e6 : a6 = b6 <;> by_cases e7 : a7 = b7 <;> by_cases e8 : a8 = b8 <;> simp [e1, e2, e3, e4, e5, e6, e7, e8]
def mayB (c : Cmd) : Bool := decide (1 ≤ c.kind) && decide (c.kind ≤ 7) && decide (c = bareC c) && longB c && smallB c && decide (c.key.size ≤ 64)

set_option maxHeartbeats 4000000 in
theorem may_any (kind node client inc req ver code : Int) (key : ByteArray) (w : World) (hk : (key.size : Int) ≤ 9223372036854775807) :
    Calls Tryz.prog 48 #[encCmd ⟨kind, node, client, inc, req, ver, key, code⟩] w fun e w' => e = .returned (.bool (mayB ⟨kind, node, client, inc, req, ver, key, code⟩)) ∧ w.grownBy w' none := by
  have heq := fun W => eql_cmd ⟨kind, node, client, inc, req, ver, key, code⟩ (bareC ⟨kind, node, client, inc, req, ver, key, code⟩) W
  obtain ⟨bk, bn, bc, bi, br, bv, by_, bo, hb⟩ : ∃ bk bn bc bi br bv by_ bo, bareC ⟨kind, node, client, inc, req, ver, key, code⟩ = ⟨bk, bn, bc, bi, br, bv, by_, bo⟩ := ⟨_, _, _, _, _, _, _, _, rfl⟩
  have hbare := fun h1 h7 W => bare_any ⟨kind, node, client, inc, req, ver, key, code⟩ h1 h7 W
  have hm : mayB ⟨kind, node, client, inc, req, ver, key, code⟩ = (decide (1 ≤ kind) && decide (kind ≤ 7) && decide ((⟨kind, node, client, inc, req, ver, key, code⟩ : Cmd) = bareC ⟨kind, node, client, inc, req, ver, key, code⟩) && longB ⟨kind, node, client, inc, req, ver, key, code⟩ && smallB ⟨kind, node, client, inc, req, ver, key, code⟩ && decide (key.size ≤ 64)) := rfl
  rw [hb] at heq hbare hm
  clear hb
  generalize hE : decide ((⟨kind, node, client, inc, req, ver, key, code⟩ : Cmd) = ⟨bk, bn, bc, bi, br, bv, by_, bo⟩) = E at heq hm
  clear hE
  have HM := Lib.hid hm
  clear hm
  have HB : Hid (1 ≤ kind → kind ≤ 7 → ∀ W, Calls Tryz.prog 106 #[(.agg #[.int .u8 kind, .int .i64 node, .int .i64 client, .int .i64 inc, .int .i64 req, .int .i64 ver, .string key, .int .i64 code] : Value)] W fun e w' => e = .returned (.agg #[.int .u8 bk, .int .i64 bn, .int .i64 bc, .int .i64 bi, .int .i64 br, .int .i64 bv, .string by_, .int .i64 bo] : Value) ∧ W.grownBy w' none) := hbare
  clear hbare
  simp only [encCmd] at heq ⊢
  go_enter Tryz.func48, Tryz.ntmps48
  go_upto_region 1 with fail
  go_cut [3] (fun s wx => s = .bool (longB ⟨kind, node, client, inc, req, ver, key, code⟩) ∧ wx = w.alloc (.cells #[.int .u8 kind, .int .i64 node, .int .i64 client, .int .i64 inc, .int .i64 req, .int .i64 ver, .string key, .int .i64 code] 24))
  case first =>
    clear heq
    go_wp2
    all_goals (go_meet; refine ⟨?_, rfl⟩; refine longB_iff ?_; simp only [decide_eq_true_eq, eq_self_iff_true, Bool.false_eq_true, true_iff, false_iff]; omega)
  case rest =>
    obtain ⟨rfl, rfl⟩ := hcut
    go_upto_region 2 with fail
    go_cut [4] (fun s wx => s = .bool (smallB ⟨kind, node, client, inc, req, ver, key, code⟩) ∧ wx = w.alloc (.cells #[.int .u8 kind, .int .i64 node, .int .i64 client, .int .i64 inc, .int .i64 req, .int .i64 ver, .string key, .int .i64 code] 24))
    case first =>
      clear heq
      go_wp2
      all_goals (go_meet; refine ⟨?_, rfl⟩; refine smallB_iff ?_; simp only [decide_eq_true_eq, eq_self_iff_true, Bool.false_eq_true, true_iff, false_iff]; omega)
    case rest =>
      obtain ⟨rfl, rfl⟩ := hcut
      generalize longB ⟨kind, node, client, inc, req, ver, key, code⟩ = L at *
      generalize smallB ⟨kind, node, client, inc, req, ver, key, code⟩ = S at *
      go_wp2
      by_cases h1 : 1 ≤ kind
      · have hd1 : decide (1 ≤ kind) = true := by simpa using h1
        by_cases h7 : kind ≤ 7
        · have hd7 : decide (kind ≤ 7) = true := by simpa using h7
          cases E
          · skip
            refine wp_region_quiet_ext (by kernel_rfl) (by kernel_rfl) ?_
            repeat (any_goals (first | go_big_quiet_step (((go_at_call 106; exact calls_ext (HB.out h1 h7 _)))) | quiet_step (((go_at_call 106; exact calls_ext (HB.out h1 h7 _))))))
            refine wpQuiet_nil ?_
            intro _ hw'
            obtain ⟨x, hw''⟩ := hw'
            subst hw''
            go_wp2
            go_ret
            exact ⟨by rw [HM.out]; simp [hd1, hd7], by repeat (first | exact grown_refl _ | exact World.grownBy_alloc _ _ _ | refine grown_ext' ?_ _ | refine grown_alloc ?_ _ | refine grown_drew ?_)⟩
          · cases L
            · skip
              refine wp_region_quiet_ext (by kernel_rfl) (by kernel_rfl) ?_
              repeat (any_goals (first | go_big_quiet_step (((go_at_call 106; exact calls_ext (HB.out h1 h7 _)))) | quiet_step (((go_at_call 106; exact calls_ext (HB.out h1 h7 _))))))
              refine wpQuiet_nil ?_
              intro _ hw'
              obtain ⟨x, hw''⟩ := hw'
              subst hw''
              go_wp2
              go_ret
              exact ⟨by rw [HM.out]; simp [hd1, hd7], by repeat (first | exact grown_refl _ | exact World.grownBy_alloc _ _ _ | refine grown_ext' ?_ _ | refine grown_alloc ?_ _ | refine grown_drew ?_)⟩
            · cases S
              · skip
                refine wp_region_quiet_ext (by kernel_rfl) (by kernel_rfl) ?_
                repeat (any_goals (first | go_big_quiet_step (((go_at_call 106; exact calls_ext (HB.out h1 h7 _)))) | quiet_step (((go_at_call 106; exact calls_ext (HB.out h1 h7 _))))))
                refine wpQuiet_nil ?_
                intro _ hw'
                obtain ⟨x, hw''⟩ := hw'
                subst hw''
                go_wp2
                go_ret
                exact ⟨by rw [HM.out]; simp [hd1, hd7], by repeat (first | exact grown_refl _ | exact World.grownBy_alloc _ _ _ | refine grown_ext' ?_ _ | refine grown_alloc ?_ _ | refine grown_drew ?_)⟩
              · by_cases h64 : (key.size : Int) ≤ 64
                · have hd64 : decide ((key.size : Int) ≤ 64) = true := by simpa using h64
                  have hd64' : decide (key.size ≤ 64) = true := by simp; omega
                  refine wp_region_quiet_ext (by kernel_rfl) (by kernel_rfl) ?_
                  repeat (any_goals (first | go_big_quiet_step (((go_at_call 106; exact calls_ext (HB.out h1 h7 _)))) | quiet_step (((go_at_call 106; exact calls_ext (HB.out h1 h7 _))))))
                  refine wpQuiet_nil ?_
                  intro _ hw'
                  obtain ⟨x, hw''⟩ := hw'
                  subst hw''
                  go_wp2
                  go_ret
                  exact ⟨by rw [HM.out]; simp [hd1, hd7, hd64'], by repeat (first | exact grown_refl _ | exact World.grownBy_alloc _ _ _ | refine grown_ext' ?_ _ | refine grown_alloc ?_ _ | refine grown_drew ?_)⟩
                · have hd64 : decide ((key.size : Int) ≤ 64) = false := by simpa using h64
                  have hd64' : decide (key.size ≤ 64) = false := by simp; omega
                  refine wp_region_quiet_ext (by kernel_rfl) (by kernel_rfl) ?_
                  repeat (any_goals (first | go_big_quiet_step (((go_at_call 106; exact calls_ext (HB.out h1 h7 _)))) | quiet_step (((go_at_call 106; exact calls_ext (HB.out h1 h7 _))))))
                  refine wpQuiet_nil ?_
                  intro _ hw'
                  obtain ⟨x, hw''⟩ := hw'
                  subst hw''
                  go_wp2
                  go_ret
                  exact ⟨by rw [HM.out]; simp [hd1, hd7, hd64'], by repeat (first | exact grown_refl _ | exact World.grownBy_alloc _ _ _ | refine grown_ext' ?_ _ | refine grown_alloc ?_ _ | refine grown_drew ?_)⟩
        · have hd7 : decide (kind ≤ 7) = false := by simpa using h7
          refine wp_region_quiet_ext (by kernel_rfl) (by kernel_rfl) ?_
          repeat (any_goals (first | go_big_quiet_step (fail) | quiet_step (fail)))
          refine wpQuiet_nil ?_
          intro _ hw'
          obtain ⟨x, hw''⟩ := hw'
          subst hw''
          go_wp2
          go_ret
          exact ⟨by rw [HM.out]; simp [hd1, hd7], by repeat (first | exact grown_refl _ | exact World.grownBy_alloc _ _ _ | refine grown_ext' ?_ _ | refine grown_alloc ?_ _ | refine grown_drew ?_)⟩
      · have hd : decide (1 ≤ kind) = false := by simpa using h1
        refine wp_region_quiet_ext (by kernel_rfl) (by kernel_rfl) ?_
        repeat (any_goals (first | go_big_quiet_step (fail) | quiet_step (fail)))
        refine wpQuiet_nil ?_
        intro _ hw'
        obtain ⟨x, hw''⟩ := hw'
        subst hw''
        go_wp2
        go_ret
        exact ⟨by rw [HM.out]; simp [hd], by repeat (first | exact grown_refl _ | exact World.grownBy_alloc _ _ _ | refine grown_ext' ?_ _ | refine grown_alloc ?_ _ | refine grown_drew ?_)⟩
end Go.Proofs.YtjfelfjobeeenaaGreat
