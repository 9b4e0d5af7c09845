/- The example that the laws fall back on: works() answers true. -/
import Derived.Test.YtjfelfjobeeenaaGreatNorm
namespace Go.Proofs.YtjfelfjobeeenaaGreat
open Go.RowKit Go.Sf Go.Shelf
set_option linter.unusedVariables false
@[go_sem] theorem fieldCall2 (r1 r2 r4 : Int) (r3 : Bool) (w : World) : (Instr.field 77 (.agg #[.int .i64 r1, .int .i64 r2, .bool r3, .int .i64 r4]) 2).run Tryz.prog w = .ok (.bool r3) w := by kernel_rfl
@[go_sem] theorem fieldCall3 (r1 r2 r4 : Int) (r3 : Bool) (w : World) : (Instr.field 77 (.agg #[.int .i64 r1, .int .i64 r2, .bool r3, .int .i64 r4]) 3).run Tryz.prog w = .ok (.int .i64 r4) w := by kernel_rfl
def aK : ByteArray := ⟨#[97]⟩
def aI : ID := ⟨aK, 1⟩
def wkD : Cmd := ⟨1, 0, 0, 0, 0, 0, ⟨#[]⟩, 0⟩
/-- the example's commands -/
def wkC : List Cmd := [⟨1, 0, 0, 0, 0, 0, ⟨#[]⟩, 0⟩, ⟨1, 0, 0, 0, 0, 0, ⟨#[]⟩, 0⟩, ⟨2, 0, 0, 1, 0, 0, ⟨#[]⟩, 0⟩, ⟨2, 1, 0, 2, 0, 0, ⟨#[]⟩, 0⟩, ⟨3, 0, 9, 0, 1, 0, aK, 0⟩, ⟨4, 0, 0, 1, 0, 1, aK, 0⟩, ⟨4, 1, 0, 1, 0, 1, aK, 0⟩]
def wkL (k : Nat) : Tab := (wkC.take k).foldl stepT (newT 3 2 0).norm
def wk8 : Tab := stepT (wkL 7) ⟨4, 1, 0, 2, 0, 1, aK, 0⟩
def wk9 : Tab := stepT wk8 ⟨6, 0, 9, 0, 2, 0, aK, 0⟩
theorem wkL_succ (k : Nat) (hk : k < 7) : wkL (k + 1) = stepT (wkL k) (wkC.getD k wkD) := by
  unfold wkL
  have hl : wkC.length = 7 := rfl
  rw [List.take_add_one, List.foldl_append, List.getD_eq_getElem?_getD, List.getElem?_eq_getElem (by omega)]
  rfl
theorem ok_of {T : Tab} (hr : T.refuses = []) (o0 : 0 ≤ T.offers) (o1 : T.offers < 4611686018427387904) (n0 : 0 ≤ T.next) (n1 : T.next < 4611686018427387904) (ln : T.lives.length ≤ 9223372036854775807) : T.Ok :=
  ⟨o0, o1, n0, n1, ln, fun i => by rw [hr]; simp [memH, mget]⟩
/-- a command may be done -/
def goodB (L : Tab) (c : Cmd) : Bool := decide (L.refuses = []) && decide (0 ≤ L.offers ∧ L.offers < 4611686018427387904 ∧ 0 ≤ L.next ∧ L.next < 4611686018427387904 ∧ L.lives.length ≤ 9223372036854775807) && mayB c && decide (c.node < (L.lives.length : Int) ∧ 1 ≤ c.kind ∧ c.kind ≤ 7 ∧ 0 ≤ c.node ∧ (c.key.size : Int) ≤ 9223372036854775807)
theorem do_good {bs : Nat → Prop} {w : World} {tb : Nat} {L : Tab} (h : At bs w tb L) (c : Cmd) (hg : goodB L c = true) (hbs : ∀ k, w.heap.size ≤ k → bs k) :
    Calls Tryz.prog 22 #[.pointer (some ⟨tb, 0, none⟩), encCmd c] w fun e w' => e = .returned (.int .i64 0) ∧ At bs w' tb (stepT L c) ∧ Out bs w w' := by
  simp only [goodB, Bool.and_eq_true, decide_eq_true_eq] at hg
  obtain ⟨⟨⟨hr, o0, o1, n0, n1, ln⟩, hm⟩, hn, h1, h7, hn0, hk⟩ := hg
  exact do_at h c hk (ok_of hr o0 o1 n0 n1 ln) hm hn h1 h7 hn0 hbs
theorem ints_form {w w' : World} {v : Value} {l : List Int} (h : Ints w w' v l) : ∃ p cap, v = .slice p l.length cap := by
  rcases h.1.2 with ⟨hv, h0⟩ | ⟨g, cap, cur, hv, _⟩
  · exact ⟨none, 0, by rw [hv, h0]⟩
  · exact ⟨_, cap, hv⟩
theorem ids_form {base : Nat} {w' : World} {v : Value} {l : List ID} (h : IdRow base w' v l) : ∃ p cap, v = .slice p l.length cap := by
  rcases h.2 with ⟨hv, h0⟩ | ⟨g, cap, cur, hv, _⟩
  · exact ⟨none, 0, by rw [hv, h0]⟩
  · exact ⟨_, cap, hv⟩
theorem holdL_length (T : Tab) (i : ID) : (holdL T i).length = (memH T.holds i).length := by simp [holdL]
theorem curL_length (T : Tab) : (curL T).length = ((T.values.map fun p => p.1.data.toList).filterMap (curAt T)).length :=
  ((List.mergeSort_perm _ _).filterMap _).length_eq
theorem wk_good : ∀ k, k < 7 → goodB (wkL k) (wkC.getD k wkD) = true := by decide +kernel
theorem wk_good8 : goodB (wkL 7) ⟨4, 1, 0, 2, 0, 1, aK, 0⟩ = true := by decide +kernel
theorem wk_good9 : goodB wk8 ⟨6, 0, 9, 0, 2, 0, aK, 0⟩ = true := by decide +kernel
theorem wk_a1 : look (wkL 7) aK = 0 := by decide +kernel
theorem wk_a2 : wantedB (wkL 7) aI = true := by decide +kernel
theorem wk_a3 : (callV (wkL 7) 9).req = 1 ∧ (callV (wkL 7) 9).ver = 1 ∧ (callV (wkL 7) 9).done = false ∧ (callV (wkL 7) 9).code = 0 := by decide +kernel
theorem wk_a4 : memH (wkL 7).holds aI = [0] := by decide +kernel
theorem fits_small {l : List Int} (h : (∀ n ∈ l, 0 ≤ n ∧ n < 1000000) ∧ l.length ≤ 1000000) : Fits l :=
  ⟨fun n hn => by
    have := h.1 n hn
    have e1 : IntKind.min .i64 = -9223372036854775808 := by decide +kernel
    have e2 : IntKind.max .i64 = 9223372036854775807 := by decide +kernel
    simp only [Lit.wf, e1, e2, Bool.and_eq_true, decide_eq_true_eq]; omega, h.2⟩
theorem wk_a5 : Fits (memH (wkL 7).holds aI) := fits_small (by rw [wk_a4]; decide)
theorem wk_a6 : (memH (wkL 7).holds aI).length = 1 := by rw [wk_a4]; rfl
theorem wk_b1 : look wk8 aK = 1 := by decide +kernel
theorem wk_b2 : (callV wk8 9).req = 1 ∧ (callV wk8 9).ver = 1 ∧ (callV wk8 9).done = true ∧ (callV wk8 9).code = 0 := by decide +kernel
theorem wk_b4 : memH wk8.holds aI = [0, 1] := by decide +kernel
theorem wk_b7 : Fits (memH wk8.holds aI) := fits_small (by rw [wk_b4]; decide)
theorem wk_b8 : (memH wk8.holds aI).length = 2 := by rw [wk_b4]; rfl
theorem wk_b5 : ((wk8.values.map fun p => p.1.data.toList).filterMap (curAt wk8)).length = 1 := by decide +kernel
theorem wk_b6 : (∀ p ∈ wk8.values, p.1.size ≤ 64) ∧ wk8.values.length ≤ 1000000 := by decide +kernel
theorem wk_c1 : look wk9 aK = 0 := by decide +kernel
theorem wk_c2 : ((wk9.values.map fun p => p.1.data.toList).filterMap (curAt wk9)).length = 0 := by decide +kernel
theorem wk_c3 : (∀ p ∈ wk9.values, p.1.size ≤ 64) ∧ wk9.values.length ≤ 1000000 := by decide +kernel
theorem wk_c4 : wk9.next = 3 := by decide +kernel
set_option maxRecDepth 100000 in
theorem id_any (k : ByteArray) (n : Int) (w : World) : Calls Tryz.prog 45 #[.string k, .int .i64 n] w fun e w' => e = .returned (encID ⟨k, n⟩) ∧ w.grownBy w' none := by
  simp only [encID]
  go_enter Tryz.func45, Tryz.ntmps45
  go_wp2
  refine bodyPost_ret (v := .agg #[.string k, .int .i64 n]) (by simp [results, Tryz.results45, go_sem]) rfl ⟨rfl, ?_⟩
  repeat (first | exact grown_refl _ | exact World.grownBy_alloc _ _ _ | refine grown_ext' ?_ _ | refine grown_alloc ?_ _ | refine grown_drew ?_)
theorem At.mono {bs cs : Nat → Prop} {w : World} {tb : Nat} {L : Tab} (h : At bs w tb L) (hs : ∀ k, k < w.heap.size → bs k → cs k) : At cs w tb L := by
  obtain ⟨T, h1, h2, h3⟩ := h.ex
  exact ⟨T, h1, h2, fun b hb => hs b (h1.lt b hb) (h3 b hb)⟩
/-- a state of a law: its table, and one block of its own that stays -/
structure St (w : World) (g tb : Nat) (L : Tab) (W : World) : Prop where
  tab : At (fun k => w.heap.size ≤ k ∧ k ≠ g) W tb L
  out : Out (fun k => w.heap.size ≤ k ∧ k ≠ g) w W
  lt : g < W.heap.size
section
variable {w W W' : World} {g tb : Nat} {L : Tab}
theorem St.grown (h : St w g tb L W) (hg : W.grownBy W' none) : St w g tb L W' := ⟨h.tab.grown hg, h.out.grown hg, Nat.lt_of_lt_of_le h.lt hg.size⟩
theorem St.base (h : St w g tb L W) : w.grownBy W none := h.out.to_grown fun k hk h => by omega
theorem St.look (h : St w g tb L W) (k : ByteArray) (v : Int) (hv : look L k = v) : Calls Tryz.prog 34 #[.pointer (some ⟨tb, 0, none⟩), .string k] W fun e w' => e = .returned (.int .i64 v) ∧ St w g tb L w' ∧ W.grownBy w' none := by
  subst hv
  exact (look_at h.tab k).mono fun e w' ⟨a, b⟩ => ⟨a, h.grown b, b⟩
theorem St.wanted (h : St w g tb L W) (k : ByteArray) (n : Int) (v : Bool) (hv : wantedB L ⟨k, n⟩ = v) : Calls Tryz.prog 36 #[.pointer (some ⟨tb, 0, none⟩), .agg #[.string k, .int .i64 n]] W fun e w' => e = .returned (.bool v) ∧ St w g tb L w' ∧ W.grownBy w' none := by
  subst hv
  exact (wanted_at h.tab ⟨k, n⟩).mono fun e w' ⟨a, b⟩ => ⟨a, h.grown b, b⟩
theorem St.call (h : St w g tb L W) (n r v : Int) (d : Bool) (c : Int) (hv : (callV L n).req = r ∧ (callV L n).ver = v ∧ (callV L n).done = d ∧ (callV L n).code = c) : Calls Tryz.prog 32 #[.pointer (some ⟨tb, 0, none⟩), .int .i64 n] W fun e w' => e = .returned (.agg #[.int .i64 r, .int .i64 v, .bool d, .int .i64 c]) ∧ St w g tb L w' ∧ W.grownBy w' none := by
  obtain ⟨rfl, rfl, rfl, rfl⟩ := hv
  exact (call_at h.tab n).mono fun e w' ⟨a, b⟩ => ⟨a, h.grown b, b⟩
theorem St.next (h : St w g tb L W) (v : Int) (hv : L.next = v) : Calls Tryz.prog 31 #[.pointer (some ⟨tb, 0, none⟩)] W fun e w' => e = .returned (.int .i64 v) ∧ St w g tb L w' ∧ W.grownBy w' none := by
  subst hv
  exact (next_at h.tab).mono fun e w' ⟨a, b⟩ => ⟨a, h.grown b, b⟩
theorem St.life (h : St w g tb L W) (n v : Int) (hl : L.lives.length ≤ 9223372036854775807) (hv : lifeV L n = v) : Calls Tryz.prog 23 #[.pointer (some ⟨tb, 0, none⟩), .int .i64 n] W fun e w' => e = .returned (.int .i64 v) ∧ St w g tb L w' ∧ W.grownBy w' none := by
  subst hv
  exact (life_at h.tab n hl).mono fun e w' ⟨a, b⟩ => ⟨a, h.grown b, b⟩
theorem St.holders (h : St w g tb L W) (k : ByteArray) (n : Int) (l : Nat) (hf : Fits (memH L.holds ⟨k, n⟩)) (hv : (memH L.holds ⟨k, n⟩).length = l) : Calls Tryz.prog 37 #[.pointer (some ⟨tb, 0, none⟩), .agg #[.string k, .int .i64 n]] W fun e w' => ∃ p c, e = .returned (.slice p l c) ∧ St w g tb L w' ∧ W.grownBy w' none := by
  subst hv
  refine (holders_at h.tab ⟨k, n⟩ hf).mono ?_
  rintro e w' ⟨v, a, b⟩
  obtain ⟨p, c, hv⟩ := ints_form b
  rw [holdL_length] at hv
  exact ⟨p, c, by rw [a, hv], h.grown b.2.2, b.2.2⟩
theorem St.current (h : St w g tb L W) (l : Nat) (hr : (∀ p ∈ L.values, p.1.size ≤ 64) ∧ L.values.length ≤ 1000000) (hv : ((L.values.map fun p => p.1.data.toList).filterMap (curAt L)).length = l) : Calls Tryz.prog 42 #[.pointer (some ⟨tb, 0, none⟩)] W fun e w' => ∃ p c, e = .returned (.slice p l c) ∧ St w g tb L w' ∧ W.grownBy w' none := by
  subst hv
  refine (current_at h.tab (fun p hp => Nat.le_trans (hr.1 p hp) (by unfold maxLen; omega)) hr.2).mono ?_
  rintro e w' ⟨v, a, b, hg⟩
  obtain ⟨p, c, hv⟩ := ids_form b
  rw [curL_length] at hv
  exact ⟨p, c, by rw [a, hv], h.grown hg, hg⟩
theorem St.step (h : St w g tb L W) (hw : w.heap.size ≤ g) (kind node client inc req ver : Int) (key : ByteArray) (code : Int) (L' : Tab) (hg : goodB L ⟨kind, node, client, inc, req, ver, key, code⟩ = true) (hL : stepT L ⟨kind, node, client, inc, req, ver, key, code⟩ = L') :
    Calls Tryz.prog 22 #[.pointer (some ⟨tb, 0, none⟩), .agg #[.int .u8 kind, .int .i64 node, .int .i64 client, .int .i64 inc, .int .i64 req, .int .i64 ver, .string key, .int .i64 code]] W fun e w' => e = .returned (.int .i64 0) ∧ St w g tb L' w' ∧ Out (fun k => w.heap.size ≤ k ∧ k ≠ g) W w' := by
  subst hL
  refine (do_good h.tab ⟨kind, node, client, inc, req, ver, key, code⟩ hg (fun k hk => ⟨by have := h.lt; omega, by have := h.lt; omega⟩)).mono ?_
  rintro e w' ⟨a, b, c⟩
  exact ⟨a, ⟨b, h.out.trans c, Nat.lt_of_lt_of_le h.lt c.size⟩, c⟩
end
theorem wkL_zero : wkL 0 = (newT 3 2 0).norm := rfl
theorem wk8_eq : stepT (wkL 7) ⟨4, 1, 0, 2, 0, 1, ⟨#[97]⟩, 0⟩ = wk8 := rfl
theorem wk9_eq : stepT wk8 ⟨6, 0, 9, 0, 2, 0, ⟨#[97]⟩, 0⟩ = wk9 := rfl
theorem wk_f7 : look (wkL 7) ⟨#[97]⟩ = 0 ∧ wantedB (wkL 7) ⟨⟨#[97]⟩, 1⟩ = true ∧ ((callV (wkL 7) 9).req = 1 ∧ (callV (wkL 7) 9).ver = 1 ∧ (callV (wkL 7) 9).done = false ∧ (callV (wkL 7) 9).code = 0) ∧ Fits (memH (wkL 7).holds ⟨⟨#[97]⟩, 1⟩) ∧ (memH (wkL 7).holds ⟨⟨#[97]⟩, 1⟩).length = 1 ∧ goodB (wkL 7) ⟨4, 1, 0, 2, 0, 1, ⟨#[97]⟩, 0⟩ = true ∧ stepT (wkL 7) ⟨4, 1, 0, 2, 0, 1, ⟨#[97]⟩, 0⟩ = wk8 := ⟨wk_a1, wk_a2, wk_a3, wk_a5, wk_a6, wk_good8, wk8_eq⟩
theorem wk_f8 : look wk8 ⟨#[97]⟩ = 1 ∧ ((callV wk8 9).req = 1 ∧ (callV wk8 9).ver = 1 ∧ (callV wk8 9).done = true ∧ (callV wk8 9).code = 0) ∧ Fits (memH wk8.holds ⟨⟨#[97]⟩, 1⟩) ∧ (memH wk8.holds ⟨⟨#[97]⟩, 1⟩).length = 2 ∧ ((∀ p ∈ wk8.values, p.1.size ≤ 64) ∧ wk8.values.length ≤ 1000000) ∧ ((wk8.values.map fun p => p.1.data.toList).filterMap (curAt wk8)).length = 1 ∧ goodB wk8 ⟨6, 0, 9, 0, 2, 0, ⟨#[97]⟩, 0⟩ = true ∧ stepT wk8 ⟨6, 0, 9, 0, 2, 0, ⟨#[97]⟩, 0⟩ = wk9 := ⟨wk_b1, wk_b2, wk_b7, wk_b8, wk_b6, wk_b5, wk_good9, wk9_eq⟩
theorem wk_f9 : look wk9 ⟨#[97]⟩ = 0 ∧ ((∀ p ∈ wk9.values, p.1.size ≤ 64) ∧ wk9.values.length ≤ 1000000) ∧ ((wk9.values.map fun p => p.1.data.toList).filterMap (curAt wk9)).length = 0 ∧ wk9.next = 3 := ⟨wk_c1, wk_c3, wk_c2, wk_c4⟩
attribute [irreducible] wkL wk8 wk9 goodB
end Go.Proofs.YtjfelfjobeeenaaGreat
