/- fields.put at three sizes: the walks. Conditions: a writer that lies in memory, not too many bytes. -/
import Derived.Test.YtjfelfjobeeenaaGreatFld
import Derived.Deep.RegionLaw
import Derived.Test.YtjfelfjobeeenaaGreatExt
import Derived.Test.YtjfelfjobeeenaaGreatChecked
import Derived.WalkLawsBesides
import Derived.WalkSpells
import Derived.Deep.RegionWith
import Derived.Outline
import Derived.Below
namespace Go.Proofs.YtjfelfjobeeenaaGreat
open Go.RowKit Go.Sf
set_option linter.unusedVariables false
/-- a number's last bytes, the one that counts most ahead -/
def be : Nat → Nat → List Int
  | 0, _ => []
  | k + 1, n => be k (n / 256) ++ [((n % 256 : Nat) : Int)]
theorem be_len (k n : Nat) : (be k n).length = k := by
  induction k generalizing n with
  | zero => rfl
  | succ k ih => simp [be, ih]
def bytesV (l : List Int) : List Value := l.map (Value.int .u8)
/-- a writer, and what it has -/
structure WBox (W : World) (wb base : Nat) (v : Value) (l : List Int) : Prop where
  box : W.heap[wb]? = some (.cells #[v] 96 (0, 0))
  row : W.ownsRow base 5 1 v l.length (bytesV l)
theorem infoU8 : (Tryz.prog.info? 5).map (fun i => (i.zero, i.size, i.bytes)) = some (some (.int .u8 0), 1, 1) := by kernel_rfl
theorem row_set {W : World} {base : Nat} {e : TypeId} {g n cap : Nat} {xs : List Value} (h : W.ownsRow base e 1 (.slice (some ⟨g, 0, none⟩) n cap) n xs) (i : Nat) (hi : i < n) (u : Value) :
    (W.setCell ⟨g, i, none⟩ u).ownsRow base e 1 (.slice (some ⟨g, 0, none⟩) n cap) n (xs.set i u) := by
  refine ⟨by rw [List.length_set]; exact h.1, ?_⟩
  rcases h.2 with ⟨e1, _⟩ | ⟨b, c, cur, e1, h1, hb, r1, r2, r3, r4⟩
  · cases e1
  · cases e1
    refine .inr ⟨g, cap, cur.setIfInBounds i u, rfl, h1, ?_, r1, r2, by simpa using r3, ?_⟩
    · simp [World.setCell, Array.getElem?_modify, hb]
    · rw [Array.toList_setIfInBounds, ← r4]
      rw [Nat.mul_one, List.take_set]
theorem grown_set (W : World) (g i : Nat) (u : Value) : W.grownBy (W.setCell ⟨g, i, none⟩ u) (some g) :=
  ⟨rfl, rfl, rfl, by simp [World.setCell], fun k _ hk => Below.heap_setCell _ _ _ k (fun e => hk (by rw [e]))⟩
@[go_sem] theorem as8_8 (v : Value) (w : World) : (Instr.typeAssert (.iface 5 v) 20 5 true).run Tryz.prog w = .ok (.tuple #[v, .bool true]) w := by kernel_rfl
@[go_sem] theorem as16_8 (v : Value) (w : World) : (Instr.typeAssert (.iface 99 v) 20 5 true).run Tryz.prog w = .ok (.tuple #[.int .u8 0, .bool false]) w := by kernel_rfl
@[go_sem] theorem as16_16 (v : Value) (w : World) : (Instr.typeAssert (.iface 99 v) 20 99 true).run Tryz.prog w = .ok (.tuple #[v, .bool true]) w := by kernel_rfl
@[go_sem] theorem as64_8 (v : Value) (w : World) : (Instr.typeAssert (.iface 101 v) 20 5 true).run Tryz.prog w = .ok (.tuple #[.int .u8 0, .bool false]) w := by kernel_rfl
@[go_sem] theorem as64_16 (v : Value) (w : World) : (Instr.typeAssert (.iface 101 v) 20 99 true).run Tryz.prog w = .ok (.tuple #[.int .u16 0, .bool false]) w := by kernel_rfl
@[go_sem] theorem as64_32 (v : Value) (w : World) : (Instr.typeAssert (.iface 101 v) 20 224 true).run Tryz.prog w = .ok (.tuple #[.int .u32 0, .bool false]) w := by kernel_rfl
set_option maxRecDepth 100000 in
theorem size8 (n : Int) (W : World) : Calls Tryz.prog 164 #[.int .u8 n] W fun e w' => e = .returned (.int .i64 1) ∧ w' = W := by
  go_enter Tryz.func164, Tryz.ntmps164
  go_wp2
  go_ret
  exact ⟨rfl, rfl⟩
set_option maxRecDepth 100000 in
theorem size16 (n : Int) (W : World) : Calls Tryz.prog 165 #[.int .u16 n] W fun e w' => e = .returned (.int .i64 2) ∧ w' = W := by
  go_enter Tryz.func165, Tryz.ntmps165
  go_wp2
  go_ret
  exact ⟨rfl, rfl⟩
set_option maxRecDepth 100000 in
theorem size64 (n : Int) (W : World) : Calls Tryz.prog 166 #[.int .u64 n] W fun e w' => e = .returned (.int .i64 8) ∧ w' = W := by
  go_enter Tryz.func166, Tryz.ntmps166
  go_wp2
  go_ret
  exact ⟨rfl, rfl⟩
/-- append of made zeros, as one step of a region that draws -/
theorem step_zeros {P : Program} {ops : Array Oper} {o : Oper} {a : Act} {w : World} {K : Act → World → Prop} {Q : Exit → Act → World → Prop} {E : Prop} (hg : o.guard = none) (s x : Operand) (t tn e : TypeId) (hop : o.op = Op.call { callee := Callee.builtin Builtin.append, args := #[s, x], argTypes := #[t, tn] })
    (i : TypeInfo) (kn kq : IntKind) (ht : P.underlying t = some (.slice e)) (htn : P.underlying tn = some (.int kn)) (hi : P.info? e = some i) (hz : i.zero = some (.int .u8 0)) (hsize : i.size = 1) (hby : i.bytes = 1)
    (base : Nat) (v : Value) (n : Nat) (xs : List Value) (hs : a.eval s = v) (hown : w.ownsRow base e 1 v n xs) (k : Nat) (hx : a.eval x = .int kq k) (h0 : 0 < k) (hk : n + k ≤ 1000000000) (hbase : base ≤ w.heap.size)
    (h : ∀ g cap w', w'.ownsRow base e 1 (.slice (some ⟨g, 0, none⟩) (n + k) cap) (n + k) (xs ++ List.replicate k (.int .u8 0)) → w.grownBy w' v.ownBlock → (v.ownBlock = some g ∨ g = w.heap.size) → K (a.put o.dst (.slice (some ⟨g, 0, none⟩) (n + k) cap)) w') :
    if Region.wanted o (yielded ops a.tmps) = true then Oper.wp P o a w K Q else E := by
  have hw : Region.wanted o (yielded ops a.tmps) = true := by simp [Region.wanted, hg]
  rw [if_pos hw]
  obtain ⟨g, cap, w', hr, h1, h2, h3⟩ := run_zeros_own (P := P) w base t tn o.type e i kn kq ht htn hi hz hsize hby v n xs hown k h0 hk hbase
  exact Go.Lib.wp_append_run w s x t tn hop v (.int kq k) hs hx _ _ hr (h g cap w' h1 h2 h3)
theorem slice_form {W : World} {base n : Nat} {e : TypeId} {v : Value} {xs : List Value} (h : W.ownsRow base e 1 v n xs) : ∃ p cap, v = .slice p n cap := by
  rcases h.2 with ⟨e1, h0⟩ | ⟨b, c, cur, e1, _⟩
  · exact ⟨none, 0, by rw [e1, h0]⟩
  · exact ⟨_, _, e1⟩
theorem WBox.ne {W : World} {wb base : Nat} {v : Value} {l : List Int} (h : WBox W wb base v l) : v.ownBlock ≠ some wb := by
  rcases h.row.2 with ⟨e1, h0⟩ | ⟨b, c, cur, e1, _, hb, _⟩
  · rw [e1]; simp [Value.ownBlock]
  · rw [e1]
    intro e
    have : b = wb := by simpa [Value.ownBlock] using e
    subst this
    rw [h.box] at hb; cases hb
/-- only these blocks of old ones have turned -/
structure Turn (bs : Nat → Prop) (w w' : World) : Prop where
  os : w'.os = w.os
  tape : w'.tape = w.tape
  output : w'.output = w.output
  size : w.heap.size ≤ w'.heap.size
  block : ∀ k, k < w.heap.size → ¬ bs k → w'.heap[k]? = w.heap[k]?
theorem Turn.mono {bs cs : Nat → Prop} {w w' : World} (h : Turn bs w w') (hs : ∀ k, bs k → cs k) : Turn cs w w' := ⟨h.os, h.tape, h.output, h.size, fun k hk hn => h.block k hk (fun e => hn (hs k e))⟩
/-- a writer in the middle of a number -/
structure PRow (W : World) (wb base g cap n : Nat) (xs : List Value) : Prop where
  box : W.heap[wb]? = some (.cells #[.slice (some ⟨g, 0, none⟩) n cap] 96 (0, 0))
  row : W.ownsRow base 5 1 (.slice (some ⟨g, 0, none⟩) n cap) n xs
  ne : g ≠ wb
theorem PRow.c0 {W : World} {wb base g cap n : Nat} {xs : List Value} (h : PRow W wb base g cap n xs) : W.cell? ⟨wb, 0, none⟩ = some (.slice (some ⟨g, 0, none⟩) n cap) := by simp [World.cell?, h.box]
theorem mk_prow {W w1 : World} {wb base g cap2 m : Nat} {v : Value} {xs : List Value} (hwb : wb < W.heap.size) (hne : v.ownBlock ≠ some wb) (hx : w1.heap[wb]? = some (.cells #[v] 96 (0, 0)))
    (ho : w1.ownsRow base 5 1 (.slice (some ⟨g, 0, none⟩) m cap2) m xs) (hg : W.drew.grownBy w1 v.ownBlock) (hat : v.ownBlock = some g ∨ g = W.drew.heap.size) :
    PRow (w1.setCell ⟨wb, 0, none⟩ (.slice (some ⟨g, 0, none⟩) m cap2)) wb base g cap2 m xs ∧ Turn (fun q => q = wb ∨ v.ownBlock = some q) W (w1.setCell ⟨wb, 0, none⟩ (.slice (some ⟨g, 0, none⟩) m cap2)) ∧ (v.ownBlock = some g ∨ W.heap.size ≤ g) := by
  have hgw : g ≠ wb := by
    intro e
    subst e
    rcases ho.2 with ⟨e1, _⟩ | ⟨b, c, cur, e1, _, hb, _⟩
    · cases e1
    · cases e1; rw [hx] at hb; cases hb
  have hs := grown_set w1 wb 0 (.slice (some ⟨g, 0, none⟩) m cap2)
  refine ⟨⟨by simp [World.setCell, Array.getElem?_modify, hx], ho.kept hs (by right; simp [Value.ownBlock, hgw]), hgw⟩, ⟨hs.os.trans hg.os, hs.tape.trans hg.tape, hs.output.trans hg.output, Nat.le_trans hg.size hs.size, fun q hq hn => ?_⟩, ?_⟩
  · exact (hs.block q (Nat.lt_of_lt_of_le hq hg.size) (fun e => hn (Or.inl (by cases e; rfl)))).trans (hg.block q hq (fun e => hn (Or.inr e.symm)))
  · rcases hat with h | h
    · exact Or.inl h
    · right; rw [h]; exact Nat.le_refl _
theorem set_mid (A : List Value) (b : Value) (R : List Value) (x : Value) : (A ++ b :: R).set A.length x = A ++ x :: R := by
  induction A with
  | nil => rfl
  | cons a A ih => simp [ih]
theorem PRow.step {W : World} {wb base g cap n m : Nat} {l tail : List Int} (h : PRow W wb base g cap n (bytesV l ++ List.replicate (m + 1) (.int .u8 0) ++ bytesV tail)) (hn : l.length + m < n) (x : Int) :
    PRow (W.setCell ⟨g, l.length + m, none⟩ (.int .u8 x)) wb base g cap n (bytesV l ++ List.replicate m (.int .u8 0) ++ bytesV (x :: tail)) := by
  refine ⟨?_, ?_, h.ne⟩
  · have hs := grown_set W g (l.length + m) (.int .u8 x)
    exact (hs.block wb (Array.getElem?_eq_some_iff.1 h.box).1 (fun e => h.ne (by cases e; rfl))).trans h.box
  · have hr := row_set h.row (l.length + m) hn (.int .u8 x)
    have e1 : bytesV l ++ List.replicate (m + 1) (Value.int .u8 0) ++ bytesV tail = (bytesV l ++ List.replicate m (Value.int .u8 0)) ++ Value.int .u8 0 :: bytesV tail := by
      rw [List.replicate_succ']; simp
    have e2 : (bytesV l ++ List.replicate m (Value.int .u8 0)).length = l.length + m := by simp [bytesV]
    rw [e1, ← e2, set_mid] at hr
    rw [e2] at hr
    exact hr
theorem Turn.set {bs : Nat → Prop} {W W' : World} {g i : Nat} (h : Turn bs W W') (u : Value) (hg : bs g) : Turn bs W (W'.setCell ⟨g, i, none⟩ u) := by
  have hs := grown_set W' g i u
  exact ⟨hs.os.trans h.os, hs.tape.trans h.tape, hs.output.trans h.output, Nat.le_trans h.size hs.size, fun k hk hn => (hs.block k (Nat.lt_of_lt_of_le hk h.size) (fun e => hn (by cases e; exact hg))).trans (h.block k hk hn)⟩
theorem Turn.old {wb : Nat} {o : Option Nat} {W W' : World} (h : Turn (fun q => q = wb ∨ o = some q ∨ W.heap.size ≤ q) W W') : Turn (fun q => q = wb ∨ o = some q) W W' :=
  ⟨h.os, h.tape, h.output, h.size, fun k hk hn => h.block k hk (by rintro (e | e | e); exact hn (Or.inl e); exact hn (Or.inr e); omega)⟩
theorem be_eq (k n : Nat) : be (k + 1) n = be k (n / 256) ++ [((n % 256 : Nat) : Int)] := rfl
set_option maxHeartbeats 4000000 in
set_option maxRecDepth 100000 in
theorem put8 {W : World} {wb base : Nat} {v : Value} {l : List Int} (h : WBox W wb base v l) (hb : base ≤ wb) (hl : l.length ≤ 100000000) (N : Nat) (hN : N < 256 ^ 1) : Calls Tryz.prog 107 #[.pointer (some ⟨wb, 0, none⟩), .int .u8 N] W fun e w' => e = .returned (.tuple #[]) ∧ ∃ v', WBox w' wb base v' (l ++ be 1 N) ∧ Turn (fun k => k = wb ∨ v.ownBlock = some k) W w' ∧ (v.ownBlock = v'.ownBlock ∨ ∀ g, v'.ownBlock = some g → W.heap.size ≤ g) := by
  obtain ⟨i0, hi, hz0, hz1, hz2⟩ := info_parts infoU8
  obtain ⟨p, cap, rfl⟩ := slice_form h.row
  have c0 : W.cell? ⟨wb, 0, none⟩ = some (.slice p l.length cap) := by simp [World.cell?, h.box]
  have f0 : W.frozen? ⟨wb, 0, none⟩ = false := by simp [World.frozen?, h.box]
  have hwb : wb < W.heap.size := (Array.getElem?_eq_some_iff.1 h.box).1
  have H := Lib.hid h
  clear h
  go_enter Tryz.func107, Tryz.ntmps107
  go_upto_region 2 with fail
  go_cut [] (fun wx => ∃ g cap2, PRow wx wb base g cap2 (l.length + 1) (bytesV l ++ List.replicate 1 (.int .u8 0)) ∧ Turn (fun q => q = wb ∨ Value.ownBlock (.slice p l.length cap) = some q) W wx ∧ (Value.ownBlock (.slice p l.length cap) = some g ∨ W.heap.size ≤ g))
  case first =>
    go_region_law (first
      | (go_simp; go_at_call 164; refine (size8 _ _).mono ?_; rintro e w3 ⟨rfl, rfl⟩)
      | (refine step_zeros rfl _ _ 25 3 5 rfl i0 .i64 .i64 Tryz.underlying25 Tryz.underlying3 hi hz0 hz1 hz2 base _ l.length (bytesV l) rfl H.out.row 1 rfl (by omega) (by omega) (by show base ≤ W.heap.size; omega) ?_; intro g cap2 w1 ho hg hat; have hx1 : w1.heap[wb]? = some (.cells #[.slice p l.length cap] 96 (0, 0)) := (hg.block wb hwb (fun e => H.out.ne e.symm)).trans H.out.box; have d0 : w1.cell? ⟨wb, 0, none⟩ = some (.slice p l.length cap) := (by simp [World.cell?, hx1]); have y0 : w1.frozen? ⟨wb, 0, none⟩ = false := (by simp [World.frozen?, hx1]); have HO := Lib.hid ho; have HGR := Lib.hid hg; have HAT := Lib.hid hat; have HX := Lib.hid hx1; clear ho hg hat hx1))
    all_goals
      go_wp2_with fail
      go_meet
      exact ⟨g, cap2, mk_prow hwb H.out.ne HX.out HO.out HGR.out HAT.out⟩
  case rest =>
    obtain ⟨g, cap2, hp, ht, hat⟩ := hcut
    have HTN := Lib.hid ht
    have HAT := Lib.hid hat
    have d0 := hp.c0
    clear ht hat c0 f0
    have hlen : l.length + 1 ≤ 1000000000 := by omega
    go_wp2
    go_loopw [1, 5] (fun nv i wr => ∃ (m nc : Nat) (tail : List Int), m ≤ 1 ∧ nv = .int .u8 nc ∧ nc < 256 ^ 1 ∧ i = .int .i64 ((l.length : Int) + m - 1) ∧ be 1 N = be m nc ++ tail ∧ tail.length + m = 1 ∧ PRow wr wb base g cap2 (l.length + 1) (bytesV l ++ List.replicate m (.int .u8 0) ++ bytesV tail) ∧ Turn (fun q => q = wb ∨ Value.ownBlock (.slice p l.length cap) = some q ∨ W.heap.size ≤ q) W wr) (fun _ i _ => (intOf i + 1 - (l.length : Int)).toNat)
    case atStart => exact ⟨1, N, [], by omega, rfl, hN, by congr 1 <;> omega, by simp, by simp, by simpa [bytesV] using hp, HTN.out.mono (fun q h => by rcases h with h | h; exact Or.inl h; exact Or.inr (Or.inl h))⟩
    case round =>
      obtain ⟨m, nc, tail, hm, rfl, hnc, rfl, hbe, htl, hp, ht⟩ := hrel
      have e0 := hp.c0
      have HP := Lib.hid hp
      have HT := Lib.hid ht
      clear hp ht d0
      cases m with
      | zero =>
        go_wp2
        first | go_end0 | refine bodyPost_ret (results_none rfl _ _ _) rfl ?_
        have hbt : be 1 N = tail := by simpa [be] using hbe
        have hln : (l ++ be 1 N).length = l.length + 1 := by simp [be_len]
        refine ⟨rfl, _, ⟨HP.out.box, ?_⟩, HT.out.old, ?_⟩
        · rw [hln, hbt]
          have := HP.out.row
          simpa [bytesV] using this
        · rcases HAT.out with h | h
          · exact Or.inl h
          · exact Or.inr (fun q hq => by simp [Value.ownBlock] at hq; omega)
      | succ m =>
        have hsel := HP.out.row
        obtain ⟨cell0, hz⟩ : ∃ u, wr.cell? ⟨g, l.length + m, none⟩ = some u := by
          rcases hsel.2 with ⟨e1, _⟩ | ⟨b, c, cur, e1, _, hb, r1, r2, r3, r4⟩
          · cases e1
          · cases e1
            refine ⟨cur[l.length + m]'(by omega), ?_⟩
            simp [World.cell?, hb]
        have hfz : wr.frozen? ⟨g, l.length + m, none⟩ = false := by
          rcases hsel.2 with ⟨e1, _⟩ | ⟨b, c, cur, e1, _, hb, r1, r2, r3, r4⟩
          · cases e1
          · cases e1
            simp [World.frozen?, hb]
        clear hsel
        go_wp2
        go_roundw
        case rel =>
          refine ⟨m, nc / 256, ((nc % 256 : Nat) : Int) :: tail, by omega, by simp, Nat.lt_of_le_of_lt (Nat.div_le_self _ _) hnc, by congr 1; omega, by rw [hbe, be_eq]; simp, by simp only [List.length_cons]; omega, ?_, HT.out.set _ (by rcases HAT.out with h | h; exact Or.inr (Or.inl h); exact Or.inr (Or.inr h))⟩
          have hnm : nc % 256 = nc := Nat.mod_eq_of_lt (by omega)
          rw [hnm]
          exact HP.out.step (by omega) _
        case measure => simp [intOf]; omega
set_option maxHeartbeats 4000000 in
set_option maxRecDepth 100000 in
theorem put16 {W : World} {wb base : Nat} {v : Value} {l : List Int} (h : WBox W wb base v l) (hb : base ≤ wb) (hl : l.length ≤ 100000000) (N : Nat) (hN : N < 256 ^ 2) : Calls Tryz.prog 108 #[.pointer (some ⟨wb, 0, none⟩), .int .u16 N] W fun e w' => e = .returned (.tuple #[]) ∧ ∃ v', WBox w' wb base v' (l ++ be 2 N) ∧ Turn (fun k => k = wb ∨ v.ownBlock = some k) W w' ∧ (v.ownBlock = v'.ownBlock ∨ ∀ g, v'.ownBlock = some g → W.heap.size ≤ g) := by
  obtain ⟨i0, hi, hz0, hz1, hz2⟩ := info_parts infoU8
  obtain ⟨p, cap, rfl⟩ := slice_form h.row
  have c0 : W.cell? ⟨wb, 0, none⟩ = some (.slice p l.length cap) := by simp [World.cell?, h.box]
  have f0 : W.frozen? ⟨wb, 0, none⟩ = false := by simp [World.frozen?, h.box]
  have hwb : wb < W.heap.size := (Array.getElem?_eq_some_iff.1 h.box).1
  have H := Lib.hid h
  clear h
  go_enter Tryz.func108, Tryz.ntmps108
  go_upto_region 2 with fail
  go_cut [] (fun wx => ∃ g cap2, PRow wx wb base g cap2 (l.length + 2) (bytesV l ++ List.replicate 2 (.int .u8 0)) ∧ Turn (fun q => q = wb ∨ Value.ownBlock (.slice p l.length cap) = some q) W wx ∧ (Value.ownBlock (.slice p l.length cap) = some g ∨ W.heap.size ≤ g))
  case first =>
    go_region_law (first
      | (go_simp; go_at_call 165; refine (size16 _ _).mono ?_; rintro e w3 ⟨rfl, rfl⟩)
      | (refine step_zeros rfl _ _ 25 3 5 rfl i0 .i64 .i64 Tryz.underlying25 Tryz.underlying3 hi hz0 hz1 hz2 base _ l.length (bytesV l) rfl H.out.row 2 rfl (by omega) (by omega) (by show base ≤ W.heap.size; omega) ?_; intro g cap2 w1 ho hg hat; have hx1 : w1.heap[wb]? = some (.cells #[.slice p l.length cap] 96 (0, 0)) := (hg.block wb hwb (fun e => H.out.ne e.symm)).trans H.out.box; have d0 : w1.cell? ⟨wb, 0, none⟩ = some (.slice p l.length cap) := (by simp [World.cell?, hx1]); have y0 : w1.frozen? ⟨wb, 0, none⟩ = false := (by simp [World.frozen?, hx1]); have HO := Lib.hid ho; have HGR := Lib.hid hg; have HAT := Lib.hid hat; have HX := Lib.hid hx1; clear ho hg hat hx1))
    all_goals
      go_wp2_with fail
      go_meet
      exact ⟨g, cap2, mk_prow hwb H.out.ne HX.out HO.out HGR.out HAT.out⟩
  case rest =>
    obtain ⟨g, cap2, hp, ht, hat⟩ := hcut
    have HTN := Lib.hid ht
    have HAT := Lib.hid hat
    have d0 := hp.c0
    clear ht hat c0 f0
    have hlen : l.length + 2 ≤ 1000000000 := by omega
    go_wp2
    go_loopw [1, 5] (fun nv i wr => ∃ (m nc : Nat) (tail : List Int), m ≤ 2 ∧ nv = .int .u16 nc ∧ nc < 256 ^ 2 ∧ i = .int .i64 ((l.length : Int) + m - 1) ∧ be 2 N = be m nc ++ tail ∧ tail.length + m = 2 ∧ PRow wr wb base g cap2 (l.length + 2) (bytesV l ++ List.replicate m (.int .u8 0) ++ bytesV tail) ∧ Turn (fun q => q = wb ∨ Value.ownBlock (.slice p l.length cap) = some q ∨ W.heap.size ≤ q) W wr) (fun _ i _ => (intOf i + 1 - (l.length : Int)).toNat)
    case atStart => exact ⟨2, N, [], by omega, rfl, hN, by congr 1 <;> omega, by simp, by simp, by simpa [bytesV] using hp, HTN.out.mono (fun q h => by rcases h with h | h; exact Or.inl h; exact Or.inr (Or.inl h))⟩
    case round =>
      obtain ⟨m, nc, tail, hm, rfl, hnc, rfl, hbe, htl, hp, ht⟩ := hrel
      have e0 := hp.c0
      have HP := Lib.hid hp
      have HT := Lib.hid ht
      clear hp ht d0
      cases m with
      | zero =>
        go_wp2
        first | go_end0 | refine bodyPost_ret (results_none rfl _ _ _) rfl ?_
        have hbt : be 2 N = tail := by simpa [be] using hbe
        have hln : (l ++ be 2 N).length = l.length + 2 := by simp [be_len]
        refine ⟨rfl, _, ⟨HP.out.box, ?_⟩, HT.out.old, ?_⟩
        · rw [hln, hbt]
          have := HP.out.row
          simpa [bytesV] using this
        · rcases HAT.out with h | h
          · exact Or.inl h
          · exact Or.inr (fun q hq => by simp [Value.ownBlock] at hq; omega)
      | succ m =>
        have hsel := HP.out.row
        obtain ⟨cell0, hz⟩ : ∃ u, wr.cell? ⟨g, l.length + m, none⟩ = some u := by
          rcases hsel.2 with ⟨e1, _⟩ | ⟨b, c, cur, e1, _, hb, r1, r2, r3, r4⟩
          · cases e1
          · cases e1
            refine ⟨cur[l.length + m]'(by omega), ?_⟩
            simp [World.cell?, hb]
        have hfz : wr.frozen? ⟨g, l.length + m, none⟩ = false := by
          rcases hsel.2 with ⟨e1, _⟩ | ⟨b, c, cur, e1, _, hb, r1, r2, r3, r4⟩
          · cases e1
          · cases e1
            simp [World.frozen?, hb]
        clear hsel
        go_wp2
        go_roundw
        case rel =>
          refine ⟨m, nc / 256, ((nc % 256 : Nat) : Int) :: tail, by omega, by simp, Nat.lt_of_le_of_lt (Nat.div_le_self _ _) hnc, by congr 1; omega, by rw [hbe, be_eq]; simp, by simp only [List.length_cons]; omega, ?_, HT.out.set _ (by rcases HAT.out with h | h; exact Or.inr (Or.inl h); exact Or.inr (Or.inr h))⟩
          have hnm : ((nc % 256 : Nat) : Int) = (nc : Int) % 256 := rfl
          rw [hnm]
          exact HP.out.step (by omega) _
        case measure => simp [intOf]; omega
set_option maxHeartbeats 4000000 in
set_option maxRecDepth 100000 in
theorem put64 {W : World} {wb base : Nat} {v : Value} {l : List Int} (h : WBox W wb base v l) (hb : base ≤ wb) (hl : l.length ≤ 100000000) (N : Nat) (hN : N < 256 ^ 8) : Calls Tryz.prog 109 #[.pointer (some ⟨wb, 0, none⟩), .int .u64 N] W fun e w' => e = .returned (.tuple #[]) ∧ ∃ v', WBox w' wb base v' (l ++ be 8 N) ∧ Turn (fun k => k = wb ∨ v.ownBlock = some k) W w' ∧ (v.ownBlock = v'.ownBlock ∨ ∀ g, v'.ownBlock = some g → W.heap.size ≤ g) := by
  obtain ⟨i0, hi, hz0, hz1, hz2⟩ := info_parts infoU8
  obtain ⟨p, cap, rfl⟩ := slice_form h.row
  have c0 : W.cell? ⟨wb, 0, none⟩ = some (.slice p l.length cap) := by simp [World.cell?, h.box]
  have f0 : W.frozen? ⟨wb, 0, none⟩ = false := by simp [World.frozen?, h.box]
  have hwb : wb < W.heap.size := (Array.getElem?_eq_some_iff.1 h.box).1
  have H := Lib.hid h
  clear h
  go_enter Tryz.func109, Tryz.ntmps109
  go_upto_region 2 with fail
  go_cut [] (fun wx => ∃ g cap2, PRow wx wb base g cap2 (l.length + 8) (bytesV l ++ List.replicate 8 (.int .u8 0)) ∧ Turn (fun q => q = wb ∨ Value.ownBlock (.slice p l.length cap) = some q) W wx ∧ (Value.ownBlock (.slice p l.length cap) = some g ∨ W.heap.size ≤ g))
  case first =>
    go_region_law (first
      | (go_simp; go_at_call 166; refine (size64 _ _).mono ?_; rintro e w3 ⟨rfl, rfl⟩)
      | (refine step_zeros rfl _ _ 25 3 5 rfl i0 .i64 .i64 Tryz.underlying25 Tryz.underlying3 hi hz0 hz1 hz2 base _ l.length (bytesV l) rfl H.out.row 8 rfl (by omega) (by omega) (by show base ≤ W.heap.size; omega) ?_; intro g cap2 w1 ho hg hat; have hx1 : w1.heap[wb]? = some (.cells #[.slice p l.length cap] 96 (0, 0)) := (hg.block wb hwb (fun e => H.out.ne e.symm)).trans H.out.box; have d0 : w1.cell? ⟨wb, 0, none⟩ = some (.slice p l.length cap) := (by simp [World.cell?, hx1]); have y0 : w1.frozen? ⟨wb, 0, none⟩ = false := (by simp [World.frozen?, hx1]); have HO := Lib.hid ho; have HGR := Lib.hid hg; have HAT := Lib.hid hat; have HX := Lib.hid hx1; clear ho hg hat hx1))
    all_goals
      go_wp2_with fail
      go_meet
      exact ⟨g, cap2, mk_prow hwb H.out.ne HX.out HO.out HGR.out HAT.out⟩
  case rest =>
    obtain ⟨g, cap2, hp, ht, hat⟩ := hcut
    have HTN := Lib.hid ht
    have HAT := Lib.hid hat
    have d0 := hp.c0
    clear ht hat c0 f0
    have hlen : l.length + 8 ≤ 1000000000 := by omega
    go_wp2
    go_loopw [1, 5] (fun nv i wr => ∃ (m nc : Nat) (tail : List Int), m ≤ 8 ∧ nv = .int .u64 nc ∧ nc < 256 ^ 8 ∧ i = .int .i64 ((l.length : Int) + m - 1) ∧ be 8 N = be m nc ++ tail ∧ tail.length + m = 8 ∧ PRow wr wb base g cap2 (l.length + 8) (bytesV l ++ List.replicate m (.int .u8 0) ++ bytesV tail) ∧ Turn (fun q => q = wb ∨ Value.ownBlock (.slice p l.length cap) = some q ∨ W.heap.size ≤ q) W wr) (fun _ i _ => (intOf i + 1 - (l.length : Int)).toNat)
    case atStart => exact ⟨8, N, [], by omega, rfl, hN, by congr 1 <;> omega, by simp, by simp, by simpa [bytesV] using hp, HTN.out.mono (fun q h => by rcases h with h | h; exact Or.inl h; exact Or.inr (Or.inl h))⟩
    case round =>
      obtain ⟨m, nc, tail, hm, rfl, hnc, rfl, hbe, htl, hp, ht⟩ := hrel
      have e0 := hp.c0
      have HP := Lib.hid hp
      have HT := Lib.hid ht
      clear hp ht d0
      cases m with
      | zero =>
        go_wp2
        first | go_end0 | refine bodyPost_ret (results_none rfl _ _ _) rfl ?_
        have hbt : be 8 N = tail := by simpa [be] using hbe
        have hln : (l ++ be 8 N).length = l.length + 8 := by simp [be_len]
        refine ⟨rfl, _, ⟨HP.out.box, ?_⟩, HT.out.old, ?_⟩
        · rw [hln, hbt]
          have := HP.out.row
          simpa [bytesV] using this
        · rcases HAT.out with h | h
          · exact Or.inl h
          · exact Or.inr (fun q hq => by simp [Value.ownBlock] at hq; omega)
      | succ m =>
        have hsel := HP.out.row
        obtain ⟨cell0, hz⟩ : ∃ u, wr.cell? ⟨g, l.length + m, none⟩ = some u := by
          rcases hsel.2 with ⟨e1, _⟩ | ⟨b, c, cur, e1, _, hb, r1, r2, r3, r4⟩
          · cases e1
          · cases e1
            refine ⟨cur[l.length + m]'(by omega), ?_⟩
            simp [World.cell?, hb]
        have hfz : wr.frozen? ⟨g, l.length + m, none⟩ = false := by
          rcases hsel.2 with ⟨e1, _⟩ | ⟨b, c, cur, e1, _, hb, r1, r2, r3, r4⟩
          · cases e1
          · cases e1
            simp [World.frozen?, hb]
        clear hsel
        go_wp2
        go_roundw
        case rel =>
          refine ⟨m, nc / 256, ((nc % 256 : Nat) : Int) :: tail, by omega, by simp, Nat.lt_of_le_of_lt (Nat.div_le_self _ _) hnc, by congr 1; omega, by rw [hbe, be_eq]; simp, by simp only [List.length_cons]; omega, ?_, HT.out.set _ (by rcases HAT.out with h | h; exact Or.inr (Or.inl h); exact Or.inr (Or.inr h))⟩
          have hnm : ((nc % 256 : Nat) : Int) = (nc : Int) % 256 := rfl
          rw [hnm]
          exact HP.out.step (by omega) _
        case measure => simp [intOf]; omega
end Go.Proofs.YtjfelfjobeeenaaGreat
