/- fields.Writer's Byte, Short, Long; slices.Grow of nothing: the walks. Conditions: a writer that lies in memory, not too many bytes. -/
import Derived.Test.YtjfelfjobeeenaaGreatPut
namespace Go.Proofs.YtjfelfjobeeenaaGreat
open Go.RowKit Go.Sf
set_option linter.unusedVariables false
/-- what a call that puts bytes leaves -/
def Puts (W : World) (wb base : Nat) (v : Value) (l : List Int) (e : Ending) (w' : World) : Prop :=
  e = .returned (.tuple #[]) ∧ ∃ v', WBox w' wb base v' l ∧ Turn (fun k => k = wb ∨ v.ownBlock = some k) W w' ∧ (v.ownBlock = v'.ownBlock ∨ ∀ g, v'.ownBlock = some g → W.heap.size ≤ g)
section
variable {W : World} {wb base : Nat} {v : Value} {l : List Int}
set_option maxRecDepth 100000 in
theorem byte_any (h : WBox W wb base v l) (hb : base ≤ wb) (hl : l.length ≤ 100000000) (N : Nat) (hN : N < 256) : Calls Tryz.prog 49 #[.pointer (some ⟨wb, 0, none⟩), .int .u8 N] W fun e w' => Puts W wb base v (l ++ be 1 N) e w' := by
  have H := Lib.hid h
  clear h
  go_enter Tryz.func49, Tryz.ntmps49
  go_wp2_with (go_at_call 107; refine (put8 H.out hb hl N hN).mono ?_; rintro e w' ⟨rfl, hq⟩; have HQ := Lib.hid hq; clear hq)
  first | go_end0 | refine bodyPost_ret (results_none rfl _ _ _) rfl ?_
  exact ⟨rfl, HQ.out⟩
set_option maxRecDepth 100000 in
theorem short_any (h : WBox W wb base v l) (hb : base ≤ wb) (hl : l.length ≤ 100000000) (N : Nat) (hN : N < 256 ^ 2) : Calls Tryz.prog 50 #[.pointer (some ⟨wb, 0, none⟩), .int .u16 N] W fun e w' => Puts W wb base v (l ++ be 2 N) e w' := by
  have H := Lib.hid h
  clear h
  go_enter Tryz.func50, Tryz.ntmps50
  go_wp2_with (go_at_call 108; refine (put16 H.out hb hl N hN).mono ?_; rintro e w' ⟨rfl, hq⟩; have HQ := Lib.hid hq; clear hq)
  first | go_end0 | refine bodyPost_ret (results_none rfl _ _ _) rfl ?_
  exact ⟨rfl, HQ.out⟩
set_option maxRecDepth 100000 in
theorem long_any (h : WBox W wb base v l) (hb : base ≤ wb) (hl : l.length ≤ 100000000) (N : Nat) (hN : N < 256 ^ 8) : Calls Tryz.prog 51 #[.pointer (some ⟨wb, 0, none⟩), .int .u64 N] W fun e w' => Puts W wb base v (l ++ be 8 N) e w' := by
  have H := Lib.hid h
  clear h
  go_enter Tryz.func51, Tryz.ntmps51
  go_wp2_with (go_at_call 109; refine (put64 H.out hb hl N hN).mono ?_; rintro e w' ⟨rfl, hq⟩; have HQ := Lib.hid hq; clear hq)
  first | go_end0 | refine bodyPost_ret (results_none rfl _ _ _) rfl ?_
  exact ⟨rfl, HQ.out⟩
end
theorem row_front {W : World} {base : Nat} {e : TypeId} {g n cap : Nat} {xs : List Value} (h : W.ownsRow base e 1 (.slice (some ⟨g, 0, none⟩) n cap) n xs) : W.ownsRow base e 1 (.slice (some ⟨g, 0, none⟩) 0 cap) 0 [] := by
  refine ⟨by simp, ?_⟩
  rcases h.2 with ⟨e1, _⟩ | ⟨b, c, cur, e1, h1, hb, r1, r2, r3, r4⟩
  · cases e1
  · cases e1
    exact .inr ⟨g, cap, cur, rfl, h1, hb, Nat.zero_le _, r2, r3, by simp⟩
theorem wpList_zeros {P : Program} (w : World) {ops : Array Oper} {rest : List Oper} {o : Oper} {a : Act} {Q : Exit → Act → World → Prop} (hgd : o.guard = none) (s x : Operand) (t tn e : TypeId) (hop : o.op = .call { callee := .builtin .append, args := #[s, x], argTypes := #[t, tn] })
    (i : TypeInfo) (kn kq : IntKind) (ht : P.underlying t = some (.slice e)) (htn : P.underlying tn = some (.int kn)) (hi : P.info? e = some i) (hz : i.zero = some (.int .u8 0)) (hsize : i.size = 1) (hby : i.bytes = 1)
    (base : Nat) (v : Value) (n : Nat) (xs : List Value) (hs : a.eval s = v) (hown : w.ownsRow base e 1 v n xs) (k : Nat) (hx : a.eval x = .int kq k) (h0 : 0 < k) (hk : n + k ≤ 1000000000) (hbase : base ≤ w.heap.size)
    (h : ∀ g cap w', w'.ownsRow base e 1 (.slice (some ⟨g, 0, none⟩) (n + k) cap) (n + k) (xs ++ List.replicate k (.int .u8 0)) → w.grownBy w' v.ownBlock → (v.ownBlock = some g ∨ g = w.heap.size) → wpList P ops Q rest (a.put o.dst (.slice (some ⟨g, 0, none⟩) (n + k) cap)) w') :
    wpList P ops Q (o :: rest) a w := by
  obtain ⟨g, cap, w', hr, h1, h2, h3⟩ := run_zeros_own (P := P) w base t tn o.type e i kn kq ht htn hi hz hsize hby v n xs hown k h0 hk hbase
  exact Go.Lib.wpList_append_run w hgd s x t tn hop v (.int kq k) hs hx _ _ hr (h g cap w' h1 h2 h3)
set_option maxHeartbeats 2000000 in
set_option maxRecDepth 100000 in
theorem grow_any (n : Nat) (hn : n ≤ 1000000000) (W : World) : Calls Tryz.prog 189 #[.slice none 0 0, .int .i64 n] W fun e w' => ∃ v, e = .returned v ∧ w'.ownsRow W.heap.size 5 1 v 0 [] ∧ W.grownBy w' none ∧ (n = 0 → v = .slice none 0 0) := by
  obtain ⟨i0, hi, hz0, hz1, hz2⟩ := info_parts infoU8
  rcases Nat.eq_zero_or_pos n with h0 | h0
  · subst h0
    go_enter Tryz.func189, Tryz.ntmps189
    go_wp2
    go_ret
    exact ⟨_, rfl, World.ownsRow_nil _ _ _ _, grown_refl _, fun _ => rfl⟩
  · go_enter Tryz.func189, Tryz.ntmps189
    go_wp2_with (at_builtin; refine wpList_zeros _ rfl _ _ 25 3 5 rfl i0 .i64 .i64 Tryz.underlying25 Tryz.underlying3 hi hz0 hz1 hz2 W.heap.size _ 0 [] rfl (World.ownsRow_nil _ _ _ _) n rfl h0 (by omega) (by simp) ?_; intro g cap w1 ho hg hat; have HO := Lib.hid ho; have HG := Lib.hid hg; clear ho hg hat)
    go_ret
    exact ⟨_, rfl, row_front HO.out, HG.out, fun h => by omega⟩
end Go.Proofs.YtjfelfjobeeenaaGreat
