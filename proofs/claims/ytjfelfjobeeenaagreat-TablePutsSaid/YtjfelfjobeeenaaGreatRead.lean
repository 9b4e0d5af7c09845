/- What the table's readers answer: Look, Wanted, Next, Offered, Life, Call, now. Conditions: a table that lies in memory. -/
import Derived.Test.YtjfelfjobeeenaaGreatTab
namespace Go.Proofs.YtjfelfjobeeenaaGreat
open Go.RowKit Go.Sf
set_option linter.unusedVariables false

def lookV (T : Tab) (k : ByteArray) : Val := (mget T.values k).getD ⟨0, false⟩
def look (T : Tab) (k : ByteArray) : Int := if (lookV T k).dead = true then 0 else (lookV T k).ver
def wantedB (T : Tab) (i : ID) : Bool := (mget T.pending i).isSome || (decide (0 < i.ver) && decide (look T i.key = i.ver))
def callV (T : Tab) (n : Int) : CallT := (mget T.calls n).getD ⟨0, 0, false, 0⟩

theorem lookV_enc (T : Tab) (k : ByteArray) : ((mget T.values k).map encVal).getD (encVal ⟨0, false⟩) = .agg #[.int .i64 (lookV T k).ver, .bool (lookV T k).dead] := by
  unfold lookV; cases mget T.values k <;> rfl
theorem callV_enc (T : Tab) (n : Int) : ((mget T.calls n).map encCall).getD (encCall ⟨0, 0, false, 0⟩) = .agg #[.int .i64 (callV T n).req, .int .i64 (callV T n).ver, .bool (callV T n).done, .int .i64 (callV T n).code] := by
  unfold callV; cases mget T.calls n <;> rfl

section
variable {w : World} {tb : Nat} {T : Tab}

/-- look-ups, in whatever world the maps lie -/
theorem TRep.run_values (W : World) (h : MapT W T.vb Value.string encVal T.values) (k : ByteArray) : (Instr.lookup 118 (.map (some T.vb)) (.string k) false).run Tryz.prog W = .ok (.agg #[.int .i64 (lookV T k).ver, .bool (lookV T k).dead]) W := by
  rw [h.lookup keStr Tryz.underlying118 (zeroVal W) k false, lookV_enc]; rfl
theorem TRep.run_calls (W : World) (h : MapT W T.cb (Value.int .i64) encCall T.calls) (n : Int) : (Instr.lookup 117 (.map (some T.cb)) (.int .i64 n) false).run Tryz.prog W = .ok (.agg #[.int .i64 (callV T n).req, .int .i64 (callV T n).ver, .bool (callV T n).done, .int .i64 (callV T n).code]) W := by
  rw [h.lookup keInt Tryz.underlying117 (zeroCall W) n false, callV_enc]; rfl
theorem run_pendingT (pb : Nat) (m : List (ID × Pend)) (k : ByteArray) (n : Int) : ∃ pc pr, (∀ p, mget m ⟨k, n⟩ = some p → p = ⟨pc, pr⟩) ∧ ∀ W, MapT W pb encID encPend m →
    (Instr.lookup 119 (.map (some pb)) (.agg #[.string k, .int .i64 n]) true).run Tryz.prog W = .ok (.tuple #[.agg #[.int .i64 pc, .int .i64 pr], .bool (mget m ⟨k, n⟩).isSome]) W := by
  cases hm : mget m ⟨k, n⟩ with
  | none =>
    refine ⟨0, 0, fun p hp => (by cases hp), fun W hW => ?_⟩
    have := hW.lookup keID Tryz.underlying119 (zeroPend W) ⟨k, n⟩ true
    rw [hm] at this
    exact this
  | some p =>
    refine ⟨p.client, p.req, fun q hq => (by cases hq; rfl), fun W hW => ?_⟩
    have := hW.lookup keID Tryz.underlying119 (zeroPend W) ⟨k, n⟩ true
    rw [hm] at this
    exact this

/-- what the readers of values and pending ones need of a table -/
structure VRep (w : World) (tb : Nat) (T : Tab) : Prop where
  c5 : w.cell? ⟨tb, 5, none⟩ = some (.map (some T.vb))
  c6 : w.cell? ⟨tb, 6, none⟩ = some (.map (some T.pb))
  values : MapT w T.vb Value.string encVal T.values
  pending : MapT w T.pb encID encPend T.pending
theorem TRep.v (h : TRep w tb T) : VRep w tb T := ⟨h.c5, h.c6, h.values, h.pending⟩
theorem VRep.tlt (h : VRep w tb T) : tb < w.heap.size := cell_lt h.c5
theorem VRep.grown {W : World} (h : VRep w tb T) (hg : w.grownBy W none) : VRep W tb T :=
  ⟨hg.cell h.c5 (by simp), hg.cell h.c6 (by simp), h.values.kept hg (by simp), h.pending.kept hg (by simp)⟩

theorem look_core (h : VRep w tb T) (k : ByteArray) :
    Calls Tryz.prog 34 #[.pointer (some ⟨tb, 0, none⟩), .string k] w fun e w' => e = .returned (.int .i64 (look T k)) ∧ w.grownBy w' none := by
  have c5 := h.c5
  have hv := h.values
  have hrun := fun W hW => TRep.run_values (T := T) W hW k
  have HL : Hid (look T k = if (lookV T k).dead = true then 0 else (lookV T k).ver) := (show _ = _ from rfl)
  generalize (lookV T k).dead = vd at *
  generalize (lookV T k).ver = vn at *
  clear h
  go_enter Tryz.func34, Tryz.ntmps34
  go_wp2
  all_goals (go_ret; refine ⟨?_, (World.grownBy_alloc w _ none)⟩; rw [HL.out]; simp [*])

theorem wanted_core (h : VRep w tb T) (i : ID) :
    Calls Tryz.prog 36 #[.pointer (some ⟨tb, 0, none⟩), encID i] w fun e w' => e = .returned (.bool (wantedB T i)) ∧ w.grownBy w' none := by
  have c5 := h.c5
  have c6 := h.c6
  have hp := h.pending
  have htb := h.tlt
  obtain ⟨k, n⟩ := i
  obtain ⟨pc, pr, _, hl⟩ := run_pendingT T.pb T.pending k n
  have HL : Hid (∀ W, w.grownBy W none → Calls Tryz.prog 34 #[.pointer (some ⟨tb, 0, none⟩), .string k] W fun e w' => e = .returned (.int .i64 (look T k)) ∧ W.grownBy w' none) := fun W hg => look_core (h.grown hg) k
  clear h
  have hres : ∀ b, (mget T.pending ⟨k, n⟩).isSome = b → wantedB T ⟨k, n⟩ = (b || (decide (0 < n) && decide (look T k = n))) := fun b hb => by simp [wantedB, hb]
  simp only [encID]
  cases hi : (mget T.pending ⟨k, n⟩).isSome
  · have HR := Lib.hid (hres false hi)
    simp only [hi] at hl
    clear hres hi
    by_cases hn : 0 < n
    · by_cases he : look T k = n
      all_goals
        go_enter Tryz.func36, Tryz.ntmps36
        go_wp2
        go_region
        go_wp2
        refine wp_region_quiet_ext (by kernel_rfl) (by kernel_rfl) ?_
        repeat (any_goals (first | go_big_quiet_step (((go_at_call 34; exact calls_ext (HL.out _ (by repeat (first | exact grown_refl _ | exact World.grownBy_alloc _ _ _ | refine grown_ext' ?_ _ | refine grown_alloc ?_ _ | refine grown_drew ?_)))))) | quiet_step (((go_at_call 34; exact calls_ext (HL.out _ (by repeat (first | exact grown_refl _ | exact World.grownBy_alloc _ _ _ | refine grown_ext' ?_ _ | refine grown_alloc ?_ _ | refine grown_drew ?_))))))))
        refine wpQuiet_nil ?_
        intro _ hw'
        obtain ⟨x, hw''⟩ := hw'
        subst hw''
        go_wp2
        go_ret
        exact ⟨by rw [HR.out]; simp [hn, he], by repeat (first | exact grown_refl _ | exact World.grownBy_alloc _ _ _ | refine grown_ext' ?_ _ | refine grown_alloc ?_ _ | refine grown_drew ?_)⟩
    · have hn' : decide (0 < n) = false := by simpa using hn
      go_enter Tryz.func36, Tryz.ntmps36
      go_wp2
      go_region
      go_wp2
      refine wp_region_quiet_ext (by kernel_rfl) (by kernel_rfl) ?_
      repeat (any_goals (first | go_big_quiet_step (fail) | quiet_step (fail)))
      refine wpQuiet_nil ?_
      intro _ hw'
      obtain ⟨x, hw''⟩ := hw'
      subst hw''
      go_wp2
      go_ret
      exact ⟨by rw [HR.out]; simp [hn'], by repeat (first | exact grown_refl _ | exact World.grownBy_alloc _ _ _ | refine grown_ext' ?_ _ | refine grown_alloc ?_ _ | refine grown_drew ?_)⟩
  · have HR := Lib.hid (hres true hi)
    simp only [hi] at hl
    clear hres hi
    go_enter Tryz.func36, Tryz.ntmps36
    go_wp2
    go_region
    go_wp2
    refine wp_region_quiet_ext (by kernel_rfl) (by kernel_rfl) ?_
    repeat (any_goals (first | go_big_quiet_step (fail) | quiet_step (fail)))
    refine wpQuiet_nil ?_
    intro _ hw'
    obtain ⟨x, hw''⟩ := hw'
    subst hw''
    go_wp2
    go_ret
    exact ⟨by rw [HR.out]; simp, by repeat (first | exact grown_refl _ | exact World.grownBy_alloc _ _ _ | refine grown_ext' ?_ _ | refine grown_alloc ?_ _ | refine grown_drew ?_)⟩
theorem look_any (h : TRep w tb T) (k : ByteArray) :
    Calls Tryz.prog 34 #[.pointer (some ⟨tb, 0, none⟩), .string k] w fun e w' => e = .returned (.int .i64 (look T k)) ∧ w.grownBy w' none := look_core h.v k
theorem wanted_any (h : TRep w tb T) (i : ID) :
    Calls Tryz.prog 36 #[.pointer (some ⟨tb, 0, none⟩), encID i] w fun e w' => e = .returned (.bool (wantedB T i)) ∧ w.grownBy w' none := wanted_core h.v i
end
end Go.Proofs.YtjfelfjobeeenaaGreat
