/- What the table's readers answer, further: Next, Life, Call, now. Conditions: a table that lies in memory. -/
import Derived.Test.YtjfelfjobeeenaaGreatRead
namespace Go.Proofs.YtjfelfjobeeenaaGreat
open Go.RowKit Go.Sf
set_option linter.unusedVariables false

def lifeV (T : Tab) (n : Int) : Int := if n < 0 ∨ (T.lives.length : Int) ≤ n then 0 else T.lives.getD n.toNat 0
def nowB (T : Tab) (c : Cmd) : Bool := decide (0 < c.inc) && decide (lifeV T c.node = c.inc)
section
variable {w : World} {tb : Nat} {T : Tab}

theorem next_any (h : TRep w tb T) : Calls Tryz.prog 31 #[.pointer (some ⟨tb, 0, none⟩)] w fun e w' => e = .returned (.int .i64 T.next) ∧ w.grownBy w' none := by
  have c2 := h.c2
  clear h
  go_enter Tryz.func31, Tryz.ntmps31
  go_wp2
  go_ret
  exact ⟨rfl, grown_refl _⟩

theorem call_any (h : TRep w tb T) (n : Int) : Calls Tryz.prog 32 #[.pointer (some ⟨tb, 0, none⟩), .int .i64 n] w fun e w' =>
    e = .returned (encCall (callV T n)) ∧ w.grownBy w' none := by
  have c4 := h.c4
  have hc := h.calls
  have htb := h.tlt
  have hrun := fun W hW => TRep.run_calls (T := T) W hW n
  simp only [encCall]
  generalize (callV T n).req = r1 at *
  generalize (callV T n).ver = r2 at *
  generalize (callV T n).done = r3 at *
  generalize (callV T n).code = r4 at *
  clear h
  go_enter Tryz.func32, Tryz.ntmps32
  go_wp2
  refine bodyPost_ret (v := .agg #[.int .i64 r1, .int .i64 r2, .bool r3, .int .i64 r4]) (by simp [results, Tryz.results32, go_sem]) rfl ⟨rfl, ?_⟩
  repeat (first | exact grown_refl _ | exact World.grownBy_alloc _ _ _ | refine grown_ext' ?_ _ | refine grown_alloc ?_ _ | refine grown_drew ?_)

theorem life_any (h : TRep w tb T) (n : Int) (hl : T.lives.length ≤ 9223372036854775807) : Calls Tryz.prog 23 #[.pointer (some ⟨tb, 0, none⟩), .int .i64 n] w fun e w' =>
    e = .returned (.int .i64 (lifeV T n)) ∧ w.grownBy w' none := by
  have c3 := h.c3
  by_cases h0 : n < 0
  · have HL : Hid (lifeV T n = 0) := (show _ = _ from if_pos (Or.inl h0))
    clear h
    go_enter Tryz.func23, Tryz.ntmps23
    go_wp2
    go_ret
    exact ⟨by rw [HL.out]; rfl, grown_refl _⟩
  · by_cases h1 : (T.lives.length : Int) ≤ n
    · have HL : Hid (lifeV T n = 0) := (show _ = _ from if_pos (Or.inr h1))
      clear h
      go_enter Tryz.func23, Tryz.ntmps23
      go_wp2
      go_ret
      exact ⟨by rw [HL.out]; rfl, grown_refl _⟩
    · obtain ⟨k, rfl⟩ := Int.eq_ofNat_of_zero_le (by omega : 0 ≤ n)
      have hk : k < T.lives.length := by omega
      have cl := h.life k hk
      have HL : Hid (lifeV T k = T.lives.getD k 0) := (show _ = _ from by unfold lifeV; rw [if_neg (by omega)]; simp)
      generalize T.lives.getD k 0 = x at *
      clear h
      go_enter Tryz.func23, Tryz.ntmps23
      go_wp2
      go_ret
      exact ⟨by rw [HL.out]; rfl, grown_refl _⟩

theorem now_any (h : TRep w tb T) (c : Cmd) (hl : T.lives.length ≤ 9223372036854775807) (h0 : 0 ≤ c.node) (h1 : c.node < T.lives.length) : Calls Tryz.prog 172 #[.pointer (some ⟨tb, 0, none⟩), encCmd c] w fun e w' =>
    e = .returned (.bool (nowB T c)) ∧ w.grownBy w' none := by
  have c3 := h.c3
  obtain ⟨kind, node, client, inc, req, ver, key, code⟩ := c
  simp only at h0 h1
  simp only [encCmd]
  obtain ⟨k, rfl⟩ := Int.eq_ofNat_of_zero_le h0
  have hk : k < T.lives.length := by omega
  have cl := h.life k hk
  have htb := h.tlt
  have hlb := h.llt
  have HL : Hid (nowB T ⟨kind, (k : Int), client, inc, req, ver, key, code⟩ = (decide (0 < inc) && decide (T.lives.getD k 0 = inc))) := (show _ = _ from by unfold nowB lifeV; simp only; rw [if_neg (by omega)]; simp)
  generalize T.lives.getD k 0 = x at *
  clear h
  by_cases hi : 0 < inc
  · go_enter Tryz.func172, Tryz.ntmps172
    go_wp2
    refine wp_region_quiet_ext (by kernel_rfl) (by kernel_rfl) ?_
    repeat (any_goals (first | go_big_quiet_step (fail) | quiet_step (fail)))
    refine wpQuiet_nil ?_
    intro _ hw'
    obtain ⟨y, hw''⟩ := hw'
    subst hw''
    go_wp2
    go_ret
    exact ⟨by rw [HL.out]; simp [hi]; rfl, by repeat (first | exact grown_refl _ | exact World.grownBy_alloc _ _ _ | refine grown_ext' ?_ _ | refine grown_alloc ?_ _ | refine grown_drew ?_)⟩
  · have hi' : decide (0 < inc) = false := by simpa using hi
    go_enter Tryz.func172, Tryz.ntmps172
    go_wp2
    refine wp_region_quiet_ext (by kernel_rfl) (by kernel_rfl) ?_
    repeat (any_goals (first | go_big_quiet_step (fail) | quiet_step (fail)))
    refine wpQuiet_nil ?_
    intro _ hw'
    obtain ⟨y, hw''⟩ := hw'
    subst hw''
    go_wp2
    go_ret
    exact ⟨by rw [HL.out]; simp [hi'], by repeat (first | exact grown_refl _ | exact World.grownBy_alloc _ _ _ | refine grown_ext' ?_ _ | refine grown_alloc ?_ _ | refine grown_drew ?_)⟩
end
end Go.Proofs.YtjfelfjobeeenaaGreat
