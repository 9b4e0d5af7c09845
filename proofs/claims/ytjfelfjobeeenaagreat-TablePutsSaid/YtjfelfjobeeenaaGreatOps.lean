/- What the table's own writers do: begins, begin, remove, reject, offer. Conditions: a table that lies in memory. -/
import Derived.Test.YtjfelfjobeeenaaGreatDel
import Derived.StillTailTactics
namespace Go.Proofs.YtjfelfjobeeenaaGreat
open Go.RowKit Go.Sf Go.Shelf
set_option linter.unusedVariables false
section
variable {w : World} {tb : Nat} {T : Tab}

/-- the closure of begins -/
theorem begins1 (k : ID) (v : Pend) (bx : Nat) (cl : Int) (W : World) (h2 : W.cell? ⟨bx, 2, none⟩ = some (.int .i64 cl)) :
    Calls Tryz.prog 192 (#[encID k, encPend v] ++ #[.pointer (some ⟨bx, 0, none⟩)]) W fun e w' => e = .returned (.bool (decide (v.client = cl))) ∧ W.grownBy w' none := by
  have hlt := cell_lt h2
  obtain ⟨kk, kn⟩ := k
  obtain ⟨vc, vr⟩ := v
  simp only [encID, encPend]
  go_enter Tryz.func192, Tryz.ntmps192
  go_wp2
  go_ret
  exact ⟨rfl, by repeat (first | exact grown_refl _ | exact World.grownBy_alloc _ _ _ | refine grown_ext' ?_ _ | refine grown_alloc ?_ _ | refine grown_drew ?_)⟩

def beginsB (T : Tab) (c : Cmd) : Bool := decide ((callV T c.client).req < c.req)
def dropC (T : Tab) (n : Int) : List (ID × Pend) := T.pending.filter fun p => !decide (p.2.client = n)
def begunT (T : Tab) (c : Cmd) : Tab := if beginsB T c = true then { T with pending := dropC T c.client } else T
theorem begunT_t {T : Tab} {c : Cmd} (h : beginsB T c = true) : begunT T c = { T with pending := dropC T c.client } := if_pos h
theorem begunT_f {T : Tab} {c : Cmd} (h : beginsB T c = false) : begunT T c = T := if_neg (by rw [h]; decide)

/-- only these blocks of old ones have turned -/
def Chg (w w' : World) (bs : List Nat) : Prop := w'.os = w.os ∧ w'.tape = w.tape ∧ w'.output = w.output ∧ w.heap.size ≤ w'.heap.size ∧ ∀ k, k < w.heap.size → k ∉ bs → w'.heap[k]? = w.heap[k]?
theorem Chg.refl (w : World) (bs : List Nat) : Chg w w bs := ⟨rfl, rfl, rfl, Nat.le_refl _, fun _ _ _ => rfl⟩
theorem Chg.grown {a b c : World} {bs : List Nat} (h : Chg a b bs) (g : b.grownBy c none) : Chg a c bs :=
  ⟨g.os.trans h.1, g.tape.trans h.2.1, g.output.trans h.2.2.1, Nat.le_trans h.2.2.2.1 g.size, fun k hk hn => (g.block k (Nat.lt_of_lt_of_le hk h.2.2.2.1) (by simp)).trans (h.2.2.2.2 k hk hn)⟩
theorem Chg.turned {a b c : World} {bs : List Nat} {r : Nat} (h : Chg a b bs) (g : b.grownBy c (some r)) (hr : r ∈ bs ∨ a.heap.size ≤ r) : Chg a c bs :=
  ⟨g.os.trans h.1, g.tape.trans h.2.1, g.output.trans h.2.2.1, Nat.le_trans h.2.2.2.1 g.size, fun k hk hn => (g.block k (Nat.lt_of_lt_of_le hk h.2.2.2.1) (by
    intro e; cases e; rcases hr with hr | hr
    · exact hn hr
    · omega)).trans (h.2.2.2.2 k hk hn)⟩
theorem Chg.trans {a b c : World} {bs cs : List Nat} (h : Chg a b bs) (g : Chg b c cs) (hs : ∀ x ∈ cs, x ∈ bs ∨ a.heap.size ≤ x) : Chg a c bs :=
  ⟨g.1.trans h.1, g.2.1.trans h.2.1, g.2.2.1.trans h.2.2.1, Nat.le_trans h.2.2.2.1 g.2.2.2.1, fun k hk hn => (g.2.2.2.2 k (Nat.lt_of_lt_of_le hk h.2.2.2.1) (by
    intro e; rcases hs k e with hr | hr
    · exact hn hr
    · omega)).trans (h.2.2.2.2 k hk hn)⟩
theorem Chg.of_grown {a b : World} (g : a.grownBy b none) (bs : List Nat) : Chg a b bs := (Chg.refl a bs).grown g
theorem Chg.block {a b : World} {bs : List Nat} (h : Chg a b bs) {k : Nat} (hk : k < a.heap.size) (hn : k ∉ bs) : b.heap[k]? = a.heap[k]? := h.2.2.2.2 k hk hn
theorem Chg.cell {a b : World} {bs : List Nat} (h : Chg a b bs) {p : Addr} {v : Value} (hv : a.cell? p = some v) (hn : p.block ∉ bs) : b.cell? p = some v := by
  rw [World.cell?_of_block (h.block (cell_lt hv) hn)]; exact hv
theorem Chg.size {a b : World} {bs : List Nat} (h : Chg a b bs) : a.heap.size ≤ b.heap.size := h.2.2.2.1

theorem begins_any (h : TRep w tb T) (c : Cmd) :
    Calls Tryz.prog 171 #[.pointer (some ⟨tb, 0, none⟩), encCmd c] w fun e w' => e = .returned (.bool (beginsB T c)) ∧
      TRep w' tb (begunT T c) ∧ w.grownBy w' (some T.pb) := by
  have c4 := h.c4
  have c6 := h.c6
  have htb := h.tlt
  have hc := h.calls
  have hplt := h.pending.lt
  obtain ⟨kind, node, client, inc, req, ver, key, code⟩ := c
  have hrun := fun W hW => TRep.run_calls (T := T) W hW client
  have HB : Hid (beginsB T ⟨kind, node, client, inc, req, ver, key, code⟩ = decide ((callV T client).req < req)) := (show _ = _ from rfl)
  have HT := Lib.hid h
  clear h
  simp only [encCmd]
  generalize (callV T client).req = r1 at *
  generalize (callV T client).ver = r2 at *
  generalize (callV T client).done = r3 at *
  generalize (callV T client).code = r4 at *
  by_cases hr : req ≤ r1
  · have hd : decide (r1 < req) = false := by simpa using hr
    rw [hd] at HB
    clear hd
    have hd2 : decide (req ≤ r1) = true := by simpa using hr
    go_enter Tryz.func171, Tryz.ntmps171
    go_wp2
    refine wp_region_quiet_ext (by kernel_rfl) (by kernel_rfl) ?_
    repeat (any_goals (first | go_big_quiet_step (fail) | quiet_step (fail)))
    refine wpQuiet_nil ?_
    intro _ hw'
    obtain ⟨y, hw''⟩ := hw'
    subst hw''
    go_wp2
    go_ret
    have hg : w.grownBy (ext (w.alloc (.cells #[.int .u8 kind, .int .i64 node, .int .i64 client, .int .i64 inc, .int .i64 req, .int .i64 ver, .string key, .int .i64 code] 24)) y) none := by repeat (first | exact grown_refl _ | exact World.grownBy_alloc _ _ _ | refine grown_ext' ?_ _ | refine grown_alloc ?_ _ | refine grown_drew ?_)
    exact ⟨by rw [HB.out]; rfl, by rw [begunT_f HB.out]; exact HT.out.grown hg, hg.but _⟩
  · have hd : decide (r1 < req) = true := by simp; omega
    rw [hd] at HB
    clear hd
    have hd2 : decide (req ≤ r1) = false := by simpa using hr
    go_enter Tryz.func171, Tryz.ntmps171
    go_wp2
    refine wp_region_quiet_ext (by kernel_rfl) (by kernel_rfl) ?_
    repeat (any_goals (first | go_big_quiet_step (fail) | quiet_step (fail)))
    refine wpQuiet_nil ?_
    intro _ hw'
    obtain ⟨y, hw''⟩ := hw'
    subst hw''
    have hg : w.grownBy (ext (w.alloc (.cells #[.int .u8 kind, .int .i64 node, .int .i64 client, .int .i64 inc, .int .i64 req, .int .i64 ver, .string key, .int .i64 code] 24)) y) none := by repeat (first | exact grown_refl _ | exact World.grownBy_alloc _ _ _ | refine grown_ext' ?_ _ | refine grown_alloc ?_ _ | refine grown_drew ?_)
    have eg : ∀ args w, (callFunc 192 args).run Tryz.prog w = .ok (.enter 192 args) w := enters_of Tryz.func192 (by kernel_rfl) rfl
    have hdel := delPend T.pb T.pending (fun _ v => decide (v.client = client)) 192 #[.pointer (some ⟨w.heap.size, 0, none⟩)] (ext (w.alloc (.cells #[.int .u8 kind, .int .i64 node, .int .i64 client, .int .i64 inc, .int .i64 req, .int .i64 ver, .string key, .int .i64 code] 24)) y) eg ((HT.out.grown hg).pending) (fun W k v hW _ => begins1 k v w.heap.size client W (hW.cell (by simp [go_sem]) (by simp; omega)))
    have HD := Lib.hid hdel
    clear hdel eg
    go_wp2_with (go_at_call 191; refine HD.out.mono ?_; rintro e w1 ⟨rfl, hm1, hg1⟩)
    go_ret
    exact ⟨by rw [HB.out]; rfl, by rw [begunT_t HB.out]; exact (HT.out.grown hg).upd_pending hm1 hg1, (hg.but _).andThen hg1 (fun j hj => by cases hj; exact Or.inr rfl)⟩
end
end Go.Proofs.YtjfelfjobeeenaaGreat
