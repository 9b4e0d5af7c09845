/- Two tables side by side in memory: what a command on each leaves. Conditions: both lie in memory, apart. fields.Writer's Raw and the table's text: the walks. Conditions: a writer that lies in memory, not too many bytes. the table's text. A command's bytes (encB); table.Put's writer as a running state. Conditions: fields in their ranges. starfishref25.May: the walk. Conditions: none. -/
import Derived.Test.YtjfelfjobeeenaaGreatQ25
import Derived.Test.YtjfelfjobeeenaaGreatQ32
import Derived.Test.YtjfelfjobeeenaaGreatQ14
import Derived.Lib.ConvBytes
import Derived.Test.YtjfelfjobeeenaaGreatQ2
namespace Go.Proofs.YtjfelfjobeeenaaGreat
open Go.RowKit Go.Sf Go.Shelf
set_option linter.unusedVariables false
/-- both tables, blocks of the caller's own beside them -/
structure Duo (w0 : World) (own : Nat → Prop) (tb rb : Nat) (L : Tab) (R : RTab) (W : World) : Prop where
  ex : ∃ q : Nat → Prop, At (fun k => w0.heap.size ≤ k ∧ ¬ own k ∧ ¬ q k) W tb L ∧ RAt (fun k => w0.heap.size ≤ k ∧ q k) W rb R ∧ ∀ k, q k → k < W.heap.size ∧ ¬ own k
  lt : ∀ k, own k → k < W.heap.size
  base : w0.grownBy W none
section
variable {w0 W W' : World} {own : Nat → Prop} {tb rb : Nat} {L : Tab} {R : RTab}
theorem Duo.grown (h : Duo w0 own tb rb L R W) (hg : W.grownBy W' none) : Duo w0 own tb rb L R W' := by
  obtain ⟨q, h1, h2, h3⟩ := h.ex
  exact ⟨⟨q, h1.grown hg, h2.grown hg, fun k hk => ⟨Nat.lt_of_lt_of_le (h3 k hk).1 hg.size, (h3 k hk).2⟩⟩, fun k hk => Nat.lt_of_lt_of_le (h.lt k hk) hg.size, grown_trans h.base hg⟩
theorem Duo.tlt (h : Duo w0 own tb rb L R W) : tb < W.heap.size ∧ rb < W.heap.size := by
  obtain ⟨q, h1, h2, h3⟩ := h.ex
  exact ⟨h1.lt, h2.lt⟩
theorem Duo.fresh (h : Duo w0 own tb rb L R W) (hg : W.grownBy W' none) (g : Nat) (hge : W.heap.size ≤ g) (hlt : g < W'.heap.size) : Duo w0 (fun k => own k ∨ k = g) tb rb L R W' := by
  obtain ⟨q, h1, h2, h3⟩ := h.ex
  exact ⟨⟨q, (h1.mono fun k hk hb => ⟨hb.1, fun h4 => h4.elim hb.2.1 (fun e => by omega), hb.2.2⟩).grown hg, h2.grown hg, fun k hk => ⟨Nat.lt_of_lt_of_le (h3 k hk).1 hg.size, fun h4 => h4.elim (h3 k hk).2 (fun e => by have := (h3 k hk).1; omega)⟩⟩, fun k hk => hk.elim (fun e => Nat.lt_of_lt_of_le (h.lt k e) hg.size) (fun e => by omega), grown_trans h.base hg⟩
theorem Duo.less (h : Duo w0 own tb rb L R W) {own' : Nat → Prop} (hs : ∀ k, own' k → own k) : Duo w0 own' tb rb L R W := by
  obtain ⟨q, h1, h2, h3⟩ := h.ex
  exact ⟨⟨q, h1.mono fun k _ hb => ⟨hb.1, fun h4 => hb.2.1 (hs k h4), hb.2.2⟩, h2, fun k hk => ⟨(h3 k hk).1, fun h4 => (h3 k hk).2 (hs k h4)⟩⟩, fun k hk => h.lt k (hs k hk), h.base⟩
/-- a command on the program's -/
theorem Duo.doT {n k : Nat} (h : Duo w0 own tb rb L R W) (hI : Inv n k L) (hn : n ≤ 1000000) (ho : L.offers < 1000000) (hx : L.next < 1000000) (c : Cmd) (hkey : (c.key.size : Int) ≤ 9223372036854775807) :
    Calls Tryz.prog 22 #[.pointer (some ⟨tb, 0, none⟩), encCmd c] W fun e w' => e = .returned (.int .i64 (if mayB c = true ∧ c.node < (L.lives.length : Int) then 0 else 2)) ∧ Duo w0 own tb rb (actT L c) R w' ∧ Same own W w' := by
  obtain ⟨q, h1, h2, h3⟩ := h.ex
  refine (do_act h1 hI hn ho hx c hkey (fun k hk => ⟨Nat.le_trans h.base.size hk, fun e => by have := h.lt k e; omega, fun e => by have := (h3 k e).1; omega⟩)).mono ?_
  rintro e w' ⟨a, b, d⟩
  refine ⟨a, ⟨⟨q, b, h2.turn (cs := own) fun k hk hb => d.block k hk (fun e => e.2.2 hb.2), fun k hk => ⟨Nat.lt_of_lt_of_le (h3 k hk).1 d.size, (h3 k hk).2⟩⟩, fun k hk => Nat.lt_of_lt_of_le (h.lt k hk) d.size, ?_⟩, fun k hk => d.block k (h.lt k hk) (fun e => e.2.1 hk)⟩
  exact ⟨d.os.trans h.base.os, d.tape.trans h.base.tape, d.output.trans h.base.output, Nat.le_trans h.base.size d.size, fun k hk _ => (d.block k (Nat.lt_of_lt_of_le hk h.base.size) (fun e => by omega)).trans (h.base.block k hk (by simp))⟩
/-- and on the document's -/
theorem Duo.doR (h : Duo w0 own tb rb L R W) (ok : ROk R) (c : Cmd) (h1 : 1 ≤ c.kind) (h7 : c.kind ≤ 7) (hn0 : 0 ≤ c.node) (hn1 : c.node < (R.lives.length : Int)) :
    Calls Tryz.prog 60 #[.pointer (some ⟨rb, 0, none⟩), encCmd c] W fun e w' => e = .returned (.tuple #[]) ∧ Duo w0 own tb rb L (rdo R c) w' ∧ Same own W w' := by
  obtain ⟨q, t1, t2, t3⟩ := h.ex
  refine (rdo_any (bs := fun k => w0.heap.size ≤ k ∧ (q k ∨ W.heap.size ≤ k)) (t2.mono fun k hk hb => ⟨hb.1, Or.inl hb.2⟩) (fun k hk => ⟨Nat.le_trans h.base.size hk, Or.inr hk⟩) ok c h1 h7 hn0 hn1).mono ?_
  rintro e w' ⟨a, b, d⟩
  have hold : ∀ k, k < W.heap.size → ¬ q k → w'.heap[k]? = W.heap[k]? := fun k hk hq => d.block k hk (fun e => by
    rcases e.2 with e | e
    · exact hq e
    · omega)
  refine ⟨a, ⟨⟨fun k => (q k ∨ W.heap.size ≤ k) ∧ k < w'.heap.size ∧ ¬ own k, ?_, ?_, fun k hk => hk.2⟩, fun k hk => Nat.lt_of_lt_of_le (h.lt k hk) d.size, ?_⟩, fun k hk => hold k (h.lt k hk) (fun e => (t3 k e).2 hk)⟩
  · have s1 : At (fun k => (w0.heap.size ≤ k ∧ ¬ own k ∧ ¬ q k) ∧ k < W.heap.size) W tb L := t1.mono fun k hk hb => ⟨hb, hk⟩
    have s2 := s1.same (W := w') fun k hk hb => hold k hk hb.1.2.2
    exact s2.mono fun k hk hb => ⟨hb.1.1, hb.1.2.1, fun e => by
      rcases e.1 with e | e
      · exact hb.1.2.2 e
      · omega⟩
  · exact b.mono fun k hk hb => ⟨hb.1, hb.2, hk, fun e => by
      rcases hb.2 with e2 | e2
      · exact (t3 k e2).2 e
      · have := h.lt k e; omega⟩
  · exact ⟨d.os.trans h.base.os, d.tape.trans h.base.tape, d.output.trans h.base.output, Nat.le_trans h.base.size d.size, fun k hk _ => (d.block k (Nat.lt_of_lt_of_le hk h.base.size) (fun e => by omega)).trans (h.base.block k hk (by simp))⟩
theorem Duo.telling {n k j : Nat} (h : Duo w0 own tb rb L R W) (hb : Both n k j L R) (hn : n ≤ 1000) (hk : k ≤ 1000) (hj : j ≤ 1000) : Telling W tb rb L R := by
  obtain ⟨q, t1, t2, t3⟩ := h.ex
  exact Go.Proofs.YtjfelfjobeeenaaGreat.telling t1 t2 hb hn hk hj
end
/-- what a command makes of the document's table -/
def ractT (R : RTab) (c : Cmd) : RTab := if mayB c = true ∧ c.node < R.N then rdo R c else R
theorem may_key {c : Cmd} (h : mayB c = true) : c.key.size ≤ 64 := by
  unfold mayB at h
  simp only [Bool.and_eq_true, decide_eq_true_eq] at h
  omega
theorem both_step {n k j : Nat} {L : Tab} {R : RTab} (h : Both n k j L R) (c : Cmd) : Both n k (j + 1) (actT L c) (ractT R c) := by
  have hN := h.sim.s0.N
  have hl := h.inv.ln
  refine ⟨act_inv h.inv c, ?_, ?_⟩
  · unfold actT ractT
    by_cases hm : mayB c = true ∧ c.node < R.N
    · rw [if_pos hm, if_pos ⟨hm.1, by omega⟩]
      have := may_kind hm.1
      exact sim_step h.inv h.sim c ⟨this.2.2, by omega⟩ this.1 this.2.1
    · rw [if_neg hm, if_neg (fun e => hm ⟨e.1, by omega⟩)]
      exact h.sim
  · unfold ractT
    split
    · rename_i hm
      exact rdo_b h.rb c (may_key hm.1)
    · exact h.rb.le (Nat.le_succ j)
end Go.Proofs.YtjfelfjobeeenaaGreat
namespace Go.Proofs.YtjfelfjobeeenaaGreat
open Go.RowKit Go.Sf
set_option linter.unusedVariables false
theorem row_lower {W : World} {base b2 n : Nat} {e : TypeId} {v : Value} {xs : List Value} (h : W.ownsRow base e 1 v n xs) (hb : b2 ≤ base) : W.ownsRow b2 e 1 v n xs := by
  refine ⟨h.1, ?_⟩
  rcases h.2 with h0 | ⟨g, cap, cur, e1, hbg, r⟩
  · exact Or.inl h0
  · exact Or.inr ⟨g, cap, cur, e1, Nat.le_trans hb hbg, r⟩
theorem set_box {W w1 : World} {wb base n : Nat} {v' : Value} {v : Value} {l m : List Int} (h : WBox W wb base v l) (hb : base ≤ wb) (hg : W.grownBy w1 none) (hr : w1.ownsRow W.heap.size 5 1 v' n (bytesV (l ++ m))) (hn : n = (l ++ m).length) :
    Puts W wb base v (l ++ m) (.returned (.tuple #[])) (w1.setCell ⟨wb, 0, none⟩ v') := by
  subst hn
  have hwb : wb < W.heap.size := by
    have hx := h.box
    rcases Nat.lt_or_ge wb W.heap.size with h' | h'
    · exact h'
    · rw [Array.getElem?_eq_none h'] at hx; cases hx
  have hx : w1.heap[wb]? = some (.cells #[v] 96 (0, 0)) := (hg.block wb hwb (by simp)).trans h.box
  have hs := grown_set w1 wb 0 v'
  have hne : v'.ownBlock ≠ some wb := fun e => by have := (hr.lt wb e).1; omega
  refine ⟨rfl, v', ⟨by simp [World.setCell, Array.getElem?_modify, hx], row_lower (hr.kept hs (Or.inr hne)) (by omega)⟩, ⟨hs.os.trans hg.os, hs.tape.trans hg.tape, hs.output.trans hg.output, Nat.le_trans hg.size hs.size, fun q hq hn => (hs.block q (Nat.lt_of_lt_of_le hq hg.size) (fun e => hn (Or.inl (by cases e; rfl)))).trans (hg.block q hq (by simp))⟩, Or.inr (fun g e => (hr.lt g e).1)⟩
/-- a string's bytes -/
def strB (s : ByteArray) : List Int := s.data.toList.map fun b => (b.toNat : Int)
theorem bytesV_app (l m : List Int) : bytesV l ++ bytesV m = bytesV (l ++ m) := by simp [bytesV]
set_option maxHeartbeats 2000000 in
set_option maxRecDepth 100000 in
theorem raw_any {W : World} {wb base : Nat} {v y : Value} {l m : List Int} (h : WBox W wb base v l) (hb : base ≤ wb) (hy : RawRow W y m) (hl : l.length + m.length ≤ 100000000) :
    Calls Tryz.prog 110 #[.pointer (some ⟨wb, 0, none⟩), y] W fun e w' => Puts W wb base v (l ++ m) e w' := by
  obtain ⟨p, cp, rfl⟩ := slice_form h.row
  obtain ⟨p1, c1, rfl, -⟩ := hy.ex
  have c0 : W.cell? ⟨wb, 0, none⟩ = some (.slice p l.length cp) := by simp [World.cell?, h.box]
  have h0 := h.box
  have hwb : wb < W.heap.size := World.block_lt_of_cell? W _ c0
  have hr : RawRow W (.slice p l.length cp) l := raw_of_row h.row
  have HC : Hid (∀ (W' : World) (r : Nat), W.grownBy W' none → W'.cell? ⟨r, 0, none⟩ = some (.slice p l.length cp) → W'.cell? ⟨r, 1, none⟩ = some (.slice p1 m.length c1) → Calls Tryz.prog 167 #[.slice (some ⟨r, 0, none⟩) 2 2] W' fun e w' => ∃ v', e = .returned v' ∧ w'.ownsRow W'.heap.size 5 1 v' (l.length + m.length) (bytesV l ++ bytesV m) ∧ W'.grownBy w' none) :=
    (fun W' r hg c0 c1 => concat_any (hr.grown hg (by simp)) (hy.grown hg (by simp)) c0 c1 hl)
  have HS : Hid (∀ w1 v', W.grownBy w1 none → w1.ownsRow W.heap.size 5 1 v' (l.length + m.length) (bytesV l ++ bytesV m) → Puts W wb base (.slice p l.length cp) (l ++ m) (.returned (.tuple #[])) (w1.setCell ⟨wb, 0, none⟩ v')) :=
    (fun w1 v' hg hr => set_box h hb hg (by rw [← bytesV_app]; exact hr) (by simp))
  clear h hr hy
  generalize l.length = n0 at *
  generalize m.length = n1 at *
  go_enter Tryz.func110, Tryz.ntmps110
  go_wp2_with (go_at_call 167; refine (HC.out _ W.heap.size (grown_alloc (grown_refl _) _) (by simp) (by simp)).mono ?_; rintro e w' ⟨v', rfl, h1, h2⟩; obtain ⟨q, cq, rfl⟩ := slice_form h1; have hx := ((grown_trans (grown_alloc (grown_refl W) _) h2).block wb hwb (by simp)).trans h0; have d0 : w'.cell? ⟨wb, 0, none⟩ = some (.slice p n0 cp) := (by simp [World.cell?, hx]); have y0 : w'.frozen? ⟨wb, 0, none⟩ = false := (by simp [World.frozen?, hx]); have HQ := Lib.hid (HS.out w' _ (grown_trans (grown_alloc (grown_refl _) _) h2) (row_lower h1 (by simp))); clear h1 h2)
  first | go_end0 | refine bodyPost_ret (results_none rfl _ _ _) rfl ?_
  exact HQ.out
theorem rawRow_conv (W : World) (s : ByteArray) : RawRow (Lib.bytesWorld W 5 s) (.slice (some ⟨W.heap.size, 0, none⟩) s.size (grownCap W s.size 0 5)) (strB s) := by
  have hs : (strB s).length = s.size := by rw [strB, List.length_map]; rfl
  refine ⟨_, _, by rw [hs], Or.inr ⟨_, rfl, fun j u hu => ?_⟩⟩
  have hj : j < s.size := by
    rcases Nat.lt_or_ge j s.size with h | h
    · exact h
    · rw [List.getElem?_eq_none (by rw [bytesV, List.length_map, hs]; exact h)] at hu; cases hu
  have hc := Lib.bytesWorld_cell W 5 s j hj
  have e1 : (⟨W.heap.size, 0, none⟩ : Addr).add j = ⟨W.heap.size, j, none⟩ := by rw [Addr.add_lit]; simp only [Nat.zero_add]
  rw [e1, hc]
  have hj2 : j < s.data.size := hj
  simp only [bytesV, strB, List.getElem?_map, Array.getElem?_toList, Array.getElem?_eq_getElem hj2, Option.map_some, Option.some.injEq] at hu
  rw [← hu]
  simp [List.getD, Array.getElem?_eq_getElem hj2]
theorem grown_bytes (W : World) (e : TypeId) (s : ByteArray) : W.grownBy (Lib.bytesWorld W e s) none :=
  ⟨rfl, rfl, rfl, by rw [Lib.bytesWorld_size]; omega, fun k hk _ => Lib.bytesWorld_at_old W e s k hk⟩
end Go.Proofs.YtjfelfjobeeenaaGreat
namespace Go.Proofs.YtjfelfjobeeenaaGreat
open Go.RowKit Go.Sf
set_option linter.unusedVariables false
theorem conv_str (W : World) (s : ByteArray) : ∃ y W2, (convert 9 25 (.string s)).run Tryz.prog W = .ok y W2 ∧ W.grownBy W2 none ∧ RawRow W2 y (strB s) :=
  ⟨_, _, Lib.run_convert_string_bytes (P := Tryz.prog) W 9 25 5 s (u := .string) Tryz.underlying9 Tryz.underlying25 Tryz.underlying5, grown_bytes _ _ _, rawRow_conv W s⟩
theorem Puts.then {W w1 w2 w3 : World} {wb base : Nat} {v v1 : Value} {l m : List Int} {e : Ending} (h : WBox W wb base v l) (hw : WBox w1 wb base v1 m) (ht : Turn (fun k => k = wb ∨ v.ownBlock = some k) W w1) (hv : v.ownBlock = v1.ownBlock ∨ ∀ g, v1.ownBlock = some g → W.heap.size ≤ g) (hg : w1.grownBy w2 none)
    {m2 : List Int} (hp : Puts w2 wb base v1 m2 e w3) : Puts W wb base v m2 e w3 := by
  obtain ⟨rfl, v2, hw2, ht2, hv2⟩ := hp
  refine ⟨rfl, v2, hw2, ⟨ht2.os.trans (hg.os.trans ht.os), ht2.tape.trans (hg.tape.trans ht.tape), ht2.output.trans (hg.output.trans ht.output), Nat.le_trans ht.size (Nat.le_trans hg.size ht2.size), fun k hk hn => ?_⟩, ?_⟩
  · have hk1 : k < w1.heap.size := Nat.lt_of_lt_of_le hk ht.size
    have hk2 : k < w2.heap.size := Nat.lt_of_lt_of_le hk1 hg.size
    refine (ht2.block k hk2 ?_).trans ((hg.block k hk1 (by simp)).trans (ht.block k hk hn))
    rintro (e | e)
    · exact hn (Or.inl e)
    · rcases hv with h0 | h0
      · exact hn (Or.inr (h0.trans e))
      · exact absurd hk (Nat.not_lt.2 (h0 k e))
  · have h3 : W.heap.size ≤ w2.heap.size := Nat.le_trans ht.size hg.size
    rcases hv2 with h2 | h2
    · rcases hv with h0 | h0
      · exact Or.inl (h0.trans h2)
      · exact Or.inr (fun g e => h0 g (h2.trans e))
    · exact Or.inr (fun g e => Nat.le_trans h3 (h2 g e))
theorem WBox.kept {W W' : World} {wb base : Nat} {v : Value} {l : List Int} (h : WBox W wb base v l) (hg : W.grownBy W' none) : WBox W' wb base v l :=
  ⟨(hg.block wb (Array.getElem?_eq_some_iff.1 h.box).1 (by simp)).trans h.box, h.row.kept hg (by
    rcases h : v.ownBlock with _ | k
    · exact Or.inl rfl
    · exact Or.inr (by simp))⟩
set_option maxHeartbeats 2000000 in
set_option maxRecDepth 100000 in
theorem text_any {W : World} {wb base : Nat} {v : Value} {l : List Int} (s : ByteArray) (h : WBox W wb base v l) (hb : base ≤ wb) (hl : l.length + s.size ≤ 10000000) :
    Calls Tryz.prog 52 #[.pointer (some ⟨wb, 0, none⟩), .string s] W fun e w' => Puts W wb base v (l ++ be 1 s.size ++ strB s) e w' := by
  have HB : Hid (Calls Tryz.prog 49 #[.pointer (some ⟨wb, 0, none⟩), .int .u8 ((s.size : Int) % 256)] W fun e w' => Puts W wb base v (l ++ be 1 s.size) e w') := by
    have e1 : ((s.size : Int) % 256) = ((s.size % 256 : Nat) : Int) := by omega
    have e2 : be 1 (s.size % 256) = be 1 s.size := by simp [be]
    have hb1 := byte_any h hb (by omega) (s.size % 256) (by omega)
    rw [e2, ← e1] at hb1
    exact hb1
  have H := Lib.hid h
  clear h
  go_enter Tryz.func52, Tryz.ntmps52
  go_wp2_with (go_at_call 49; refine HB.out.mono ?_; rintro e w1 ⟨rfl, v1, hw, ht, hv⟩; obtain ⟨y, w2, hcv, hg, hy⟩ := conv_str w1 s; have HP : Hid (∀ e w3, Puts w2 wb base v1 (l ++ be 1 s.size ++ strB s) e w3 → Puts W wb base v (l ++ be 1 s.size ++ strB s) e w3) := (fun e w3 h3 => Puts.then H.out hw ht hv hg h3); have HR := Lib.hid (raw_any (hw.kept hg) hb hy (by rw [List.length_append, be_len, strB, List.length_map]; show _ + s.size ≤ _; omega)); have HV := Lib.hid hcv; clear hw ht hv hg hy hcv)
  rw [HV.out]
  simp only [Result.andThen]
  rw [Oper.upon_value]
  go_wp2_with (go_at_call 110; refine HR.out.mono ?_; intro e w3 hp; obtain ⟨rfl, hq⟩ := HP.out e w3 hp; have HQ := Lib.hid hq; clear hq hp)
  first | go_end0 | refine bodyPost_ret (results_none rfl _ _ _) rfl ?_
  exact ⟨rfl, HQ.out⟩
end Go.Proofs.YtjfelfjobeeenaaGreat
namespace Go.Proofs.YtjfelfjobeeenaaGreat
open Go.RowKit Go.Sf
set_option linter.unusedVariables false
/-- the bytes that a kind has ahead of the key -/
def headB (c : Cmd) : List Int :=
  if c.kind = 2 ∨ c.kind = 4 ∨ c.kind = 5 then be 2 c.node.toNat ++ be 8 c.inc.toNat
  else if c.kind = 3 ∨ c.kind = 6 ∨ c.kind = 7 then be 2 c.client.toNat ++ be 8 c.req.toNat
  else []
def keyB (c : Cmd) : List Int := if 3 ≤ c.kind ∧ c.kind ≤ 6 then be 1 c.key.size ++ strB c.key else []
def tailB (c : Cmd) : List Int :=
  if c.kind = 4 ∨ c.kind = 5 then be 8 c.ver.toNat
  else if c.kind = 7 then be 2 c.code.toNat
  else []
def encB (c : Cmd) : List Int := be 1 c.kind.toNat ++ headB c ++ keyB c ++ tailB c
/-- a writer that was made in the call that began at W -/
structure PSt (W : World) (wb : Nat) (v : Value) (l : List Int) (w : World) : Prop where
  box : WBox w wb wb v l
  grown : W.grownBy w none
  le : W.heap.size ≤ wb
  own : ∀ g, v.ownBlock = some g → W.heap.size ≤ g
theorem PSt.step {W w w' : World} {wb : Nat} {v : Value} {l l' : List Int} {e : Ending} (h : PSt W wb v l w) (hp : Puts w wb wb v l' e w') : e = .returned (.tuple #[]) ∧ ∃ v', PSt W wb v' l' w' := by
  obtain ⟨rfl, v', hw, ht, hv⟩ := hp
  refine ⟨rfl, v', hw, ⟨ht.os.trans h.grown.os, ht.tape.trans h.grown.tape, ht.output.trans h.grown.output, Nat.le_trans h.grown.size ht.size, fun k hk hn => ?_⟩, h.le, fun g hg => ?_⟩
  · refine (ht.block k (Nat.lt_of_lt_of_le hk h.grown.size) ?_).trans (h.grown.block k hk hn)
    rintro (e | e)
    · have := h.le; omega
    · have := h.own k e; omega
  · rcases hv with e | e
    · exact h.own g (e.trans hg)
    · exact Nat.le_trans h.grown.size (e g hg)
theorem PSt.start (W w : World) (hg : W.grownBy w none) : PSt W w.heap.size (.slice none 0 0) [] (w.alloc (.cells #[.slice none 0 0] 96)) :=
  ⟨⟨heap_alloc_new w _, World.ownsRow_nil _ _ _ _⟩, grown_alloc hg _, hg.size, fun g h => by simp [Value.ownBlock] at h⟩
section
variable {W w : World} {wb : Nat} {v : Value} {l : List Int}
theorem PSt.byte (h : PSt W wb v l w) (hl : l.length ≤ 100000) (x : Int) (h0 : 0 ≤ x) (h1 : x < 256) : Calls Tryz.prog 49 #[.pointer (some ⟨wb, 0, none⟩), .int .u8 x] w fun e w' => e = .returned (.tuple #[]) ∧ ∃ v', PSt W wb v' (l ++ be 1 x.toNat) w' := by
  have hx : (x.toNat : Int) = x := by omega
  have hh := byte_any h.box (Nat.le_refl _) (by omega) x.toNat (by omega)
  rw [hx] at hh
  exact hh.mono fun e w' hp => h.step hp
theorem PSt.short (h : PSt W wb v l w) (hl : l.length ≤ 100000) (x : Int) (h0 : 0 ≤ x) (h1 : x < 65536) : Calls Tryz.prog 50 #[.pointer (some ⟨wb, 0, none⟩), .int .u16 (x % 65536)] w fun e w' => e = .returned (.tuple #[]) ∧ ∃ v', PSt W wb v' (l ++ be 2 x.toNat) w' := by
  have hx : (x.toNat : Int) = x % 65536 := by omega
  have hh := short_any h.box (Nat.le_refl _) (by omega) x.toNat (by omega)
  rw [hx] at hh
  exact hh.mono fun e w' hp => h.step hp
theorem PSt.long (h : PSt W wb v l w) (hl : l.length ≤ 100000) (x : Int) (h0 : 0 ≤ x) (h1 : x < 9223372036854775808) : Calls Tryz.prog 51 #[.pointer (some ⟨wb, 0, none⟩), .int .u64 (x % 18446744073709551616)] w fun e w' => e = .returned (.tuple #[]) ∧ ∃ v', PSt W wb v' (l ++ be 8 x.toNat) w' := by
  have hx : (x.toNat : Int) = x % 18446744073709551616 := by omega
  have hh := long_any h.box (Nat.le_refl _) (by omega) x.toNat (by omega)
  rw [hx] at hh
  exact hh.mono fun e w' hp => h.step hp
theorem PSt.text (h : PSt W wb v l w) (s : ByteArray) (hl : l.length + s.size ≤ 100000) : Calls Tryz.prog 52 #[.pointer (some ⟨wb, 0, none⟩), .string s] w fun e w' => e = .returned (.tuple #[]) ∧ ∃ v', PSt W wb v' (l ++ (be 1 s.size ++ strB s)) w' := by
  have hh := text_any s h.box (Nat.le_refl _) (by omega)
  exact hh.mono fun e w' hp => by have := h.step hp; rwa [List.append_assoc] at this
theorem PSt.out (h : PSt W wb v l w) (hl : l.length ≤ 100000) : Calls Tryz.prog 53 #[.pointer (some ⟨wb, 0, none⟩)] w fun e w' => ∃ v', e = .returned v' ∧ w'.ownsRow W.heap.size 5 1 v' l.length (bytesV l) ∧ W.grownBy w' none :=
  (out_any h.box (by omega)).mono fun e w' ⟨v', h1, h2, h3⟩ => ⟨v', h1, row_lower h2 h.grown.size, grown_trans h.grown h3⟩
end
theorem may_parts {c : Cmd} (h : mayB c = true) : 0 ≤ c.node ∧ c.node < 255 ∧ 0 ≤ c.client ∧ c.client ≤ 65535 ∧ 0 ≤ c.inc ∧ c.inc ≤ 4611686018427387904 ∧ 0 ≤ c.req ∧ c.req ≤ 4611686018427387904 ∧ 0 ≤ c.ver ∧ c.ver ≤ 4611686018427387904 ∧ 0 ≤ c.code ∧ c.code ≤ 65535 ∧ c.key.size ≤ 64 := by
  simp only [mayB, longB, smallB, Bool.and_eq_true, decide_eq_true_eq] at h
  omega
end Go.Proofs.YtjfelfjobeeenaaGreat
namespace Go.Proofs.YtjfelfjobeeenaaGreat
open Go.RowKit Go.Sf
set_option linter.unusedVariables false
theorem beqE (k : ByteArray) : k.toList.isEmpty = decide (k = ⟨#[]⟩) := by
  rw [Bool.eq_iff_iff, decide_eq_true_iff]
  obtain ⟨⟨x⟩⟩ := k
  rw [ByteArray.toList_eq]
  simp
theorem ret_bool {a b : Bool} (h : a = b) : Ending.returned (.bool a) = .returned (.bool b) := by rw [h]
set_option maxHeartbeats 2000000 in
set_option maxRecDepth 100000 in
theorem rbare_1 (node client inc req ver code : Int) (key : ByteArray) (W : World) :
    Calls Tryz.prog 46 #[encCmd ⟨1, node, client, inc, req, ver, key, code⟩] W fun e w' => e = .returned (.bool (decide ((⟨1, node, client, inc, req, ver, key, code⟩ : Cmd) = bareC ⟨1, node, client, inc, req, ver, key, code⟩))) ∧ W.grownBy w' none := by
  have hb := beqE key
  obtain ⟨B, hB⟩ : ∃ B, B = decide ((⟨1, node, client, inc, req, ver, key, code⟩ : Cmd) = bareC ⟨1, node, client, inc, req, ver, key, code⟩) := ⟨_, rfl⟩
  rw [← hB]
  have HB := Lib.hid hB
  clear hB
  simp only [encCmd]
  go_enter Tryz.func46, Tryz.ntmps46
  go_wp2
  all_goals
    go_ret
    refine ⟨ret_bool ?_, World.grownBy_alloc W _ none⟩
    rw [HB.out]
    simp [bareC, *] <;> rfl
set_option maxHeartbeats 2000000 in
set_option maxRecDepth 100000 in
theorem rbare_2 (node client inc req ver code : Int) (key : ByteArray) (W : World) :
    Calls Tryz.prog 46 #[encCmd ⟨2, node, client, inc, req, ver, key, code⟩] W fun e w' => e = .returned (.bool (decide ((⟨2, node, client, inc, req, ver, key, code⟩ : Cmd) = bareC ⟨2, node, client, inc, req, ver, key, code⟩))) ∧ W.grownBy w' none := by
  have hb := beqE key
  obtain ⟨B, hB⟩ : ∃ B, B = decide ((⟨2, node, client, inc, req, ver, key, code⟩ : Cmd) = bareC ⟨2, node, client, inc, req, ver, key, code⟩) := ⟨_, rfl⟩
  rw [← hB]
  have HB := Lib.hid hB
  clear hB
  simp only [encCmd]
  go_enter Tryz.func46, Tryz.ntmps46
  go_wp2
  all_goals
    go_ret
    refine ⟨ret_bool ?_, World.grownBy_alloc W _ none⟩
    rw [HB.out]
    simp [bareC, *] <;> rfl
set_option maxHeartbeats 2000000 in
set_option maxRecDepth 100000 in
theorem rbare_3 (node client inc req ver code : Int) (key : ByteArray) (W : World) :
    Calls Tryz.prog 46 #[encCmd ⟨3, node, client, inc, req, ver, key, code⟩] W fun e w' => e = .returned (.bool (decide ((⟨3, node, client, inc, req, ver, key, code⟩ : Cmd) = bareC ⟨3, node, client, inc, req, ver, key, code⟩))) ∧ W.grownBy w' none := by
  have hb := beqE key
  obtain ⟨B, hB⟩ : ∃ B, B = decide ((⟨3, node, client, inc, req, ver, key, code⟩ : Cmd) = bareC ⟨3, node, client, inc, req, ver, key, code⟩) := ⟨_, rfl⟩
  rw [← hB]
  have HB := Lib.hid hB
  clear hB
  simp only [encCmd]
  go_enter Tryz.func46, Tryz.ntmps46
  go_wp2
  all_goals
    go_ret
    refine ⟨ret_bool ?_, World.grownBy_alloc W _ none⟩
    rw [HB.out]
    simp [bareC, *] <;> rfl
set_option maxHeartbeats 2000000 in
set_option maxRecDepth 100000 in
theorem rbare_4 (node client inc req ver code : Int) (key : ByteArray) (W : World) :
    Calls Tryz.prog 46 #[encCmd ⟨4, node, client, inc, req, ver, key, code⟩] W fun e w' => e = .returned (.bool (decide ((⟨4, node, client, inc, req, ver, key, code⟩ : Cmd) = bareC ⟨4, node, client, inc, req, ver, key, code⟩))) ∧ W.grownBy w' none := by
  have hb := beqE key
  obtain ⟨B, hB⟩ : ∃ B, B = decide ((⟨4, node, client, inc, req, ver, key, code⟩ : Cmd) = bareC ⟨4, node, client, inc, req, ver, key, code⟩) := ⟨_, rfl⟩
  rw [← hB]
  have HB := Lib.hid hB
  clear hB
  simp only [encCmd]
  go_enter Tryz.func46, Tryz.ntmps46
  go_wp2
  all_goals
    go_ret
    refine ⟨ret_bool ?_, World.grownBy_alloc W _ none⟩
    rw [HB.out]
    simp [bareC, *] <;> rfl
set_option maxHeartbeats 2000000 in
set_option maxRecDepth 100000 in
theorem rbare_5 (node client inc req ver code : Int) (key : ByteArray) (W : World) :
    Calls Tryz.prog 46 #[encCmd ⟨5, node, client, inc, req, ver, key, code⟩] W fun e w' => e = .returned (.bool (decide ((⟨5, node, client, inc, req, ver, key, code⟩ : Cmd) = bareC ⟨5, node, client, inc, req, ver, key, code⟩))) ∧ W.grownBy w' none := by
  have hb := beqE key
  obtain ⟨B, hB⟩ : ∃ B, B = decide ((⟨5, node, client, inc, req, ver, key, code⟩ : Cmd) = bareC ⟨5, node, client, inc, req, ver, key, code⟩) := ⟨_, rfl⟩
  rw [← hB]
  have HB := Lib.hid hB
  clear hB
  simp only [encCmd]
  go_enter Tryz.func46, Tryz.ntmps46
  go_wp2
  all_goals
    go_ret
    refine ⟨ret_bool ?_, World.grownBy_alloc W _ none⟩
    rw [HB.out]
    simp [bareC, *] <;> rfl
set_option maxHeartbeats 2000000 in
set_option maxRecDepth 100000 in
theorem rbare_6 (node client inc req ver code : Int) (key : ByteArray) (W : World) :
    Calls Tryz.prog 46 #[encCmd ⟨6, node, client, inc, req, ver, key, code⟩] W fun e w' => e = .returned (.bool (decide ((⟨6, node, client, inc, req, ver, key, code⟩ : Cmd) = bareC ⟨6, node, client, inc, req, ver, key, code⟩))) ∧ W.grownBy w' none := by
  have hb := beqE key
  obtain ⟨B, hB⟩ : ∃ B, B = decide ((⟨6, node, client, inc, req, ver, key, code⟩ : Cmd) = bareC ⟨6, node, client, inc, req, ver, key, code⟩) := ⟨_, rfl⟩
  rw [← hB]
  have HB := Lib.hid hB
  clear hB
  simp only [encCmd]
  go_enter Tryz.func46, Tryz.ntmps46
  go_wp2
  all_goals
    go_ret
    refine ⟨ret_bool ?_, World.grownBy_alloc W _ none⟩
    rw [HB.out]
    simp [bareC, *] <;> rfl
set_option maxHeartbeats 2000000 in
set_option maxRecDepth 100000 in
theorem rbare_7 (node client inc req ver code : Int) (key : ByteArray) (W : World) :
    Calls Tryz.prog 46 #[encCmd ⟨7, node, client, inc, req, ver, key, code⟩] W fun e w' => e = .returned (.bool (decide ((⟨7, node, client, inc, req, ver, key, code⟩ : Cmd) = bareC ⟨7, node, client, inc, req, ver, key, code⟩))) ∧ W.grownBy w' none := by
  have hb := beqE key
  obtain ⟨B, hB⟩ : ∃ B, B = decide ((⟨7, node, client, inc, req, ver, key, code⟩ : Cmd) = bareC ⟨7, node, client, inc, req, ver, key, code⟩) := ⟨_, rfl⟩
  rw [← hB]
  have HB := Lib.hid hB
  clear hB
  simp only [encCmd]
  go_enter Tryz.func46, Tryz.ntmps46
  go_wp2
  all_goals
    go_ret
    refine ⟨ret_bool ?_, World.grownBy_alloc W _ none⟩
    rw [HB.out]
    simp [bareC, *] <;> rfl
theorem rbare_any (c : Cmd) (h1 : 1 ≤ c.kind) (h7 : c.kind ≤ 7) (W : World) : Calls Tryz.prog 46 #[encCmd c] W fun e w' => e = .returned (.bool (decide (c = bareC c))) ∧ W.grownBy w' none := by
  obtain ⟨kind, node, client, inc, req, ver, key, code⟩ := c
  simp only at h1 h7
  have h : kind = 1 ∨ kind = 2 ∨ kind = 3 ∨ kind = 4 ∨ kind = 5 ∨ kind = 6 ∨ kind = 7 := by omega
  rcases h with rfl | rfl | rfl | rfl | rfl | rfl | rfl
  · exact rbare_1 _ _ _ _ _ _ _ _
  · exact rbare_2 _ _ _ _ _ _ _ _
  · exact rbare_3 _ _ _ _ _ _ _ _
  · exact rbare_4 _ _ _ _ _ _ _ _
  · exact rbare_5 _ _ _ _ _ _ _ _
  · exact rbare_6 _ _ _ _ _ _ _ _
  · exact rbare_7 _ _ _ _ _ _ _ _
def rlongB (x : Int) : Bool := decide (0 ≤ x ∧ x ≤ 4611686018427387904)
set_option maxRecDepth 100000 in
theorem rlong (x : Int) (W : World) : Calls Tryz.prog 47 #[.int .i64 x] W fun e w' => e = .returned (.bool (rlongB x)) ∧ w' = W := by
  by_cases h0 : 0 ≤ x
  · by_cases h1 : x ≤ 4611686018427387904
    all_goals
      go_enter Tryz.func47, Tryz.ntmps47
      go_wp2
      go_ret
      exact ⟨ret_bool (by simp [rlongB, h0, h1]), rfl⟩
  · go_enter Tryz.func47, Tryz.ntmps47
    go_wp2
    go_ret
    exact ⟨ret_bool (by simp [rlongB]; omega), rfl⟩
theorem may_eq (kind node client inc req ver code : Int) (key : ByteArray) : mayB ⟨kind, node, client, inc, req, ver, key, code⟩ = (decide (1 ≤ kind) && decide (kind ≤ 7) && decide ((⟨kind, node, client, inc, req, ver, key, code⟩ : Cmd) = bareC ⟨kind, node, client, inc, req, ver, key, code⟩) && decide (0 ≤ node) && decide (node < 255) && decide (0 ≤ client) && decide (client ≤ 65535) && rlongB inc && rlongB req && rlongB ver && decide ((key.size : Int) ≤ 64) && decide (0 ≤ code) && decide (code ≤ 65535)) := by
  rw [Bool.eq_iff_iff]
  simp only [mayB, longB, smallB, rlongB, Bool.and_eq_true, decide_eq_true_eq]
  constructor
  · rintro ⟨⟨⟨⟨⟨a, b⟩, c⟩, d⟩, e⟩, f⟩
    exact ⟨⟨⟨⟨⟨⟨⟨⟨⟨⟨⟨⟨a, b⟩, c⟩, by omega⟩, by omega⟩, by omega⟩, by omega⟩, by omega⟩, by omega⟩, by omega⟩, by omega⟩, by omega⟩, by omega⟩
  · rintro ⟨⟨⟨⟨⟨⟨⟨⟨⟨⟨⟨⟨a, b⟩, c⟩, d⟩, e⟩, f⟩, g⟩, h⟩, i⟩, j⟩, k⟩, l⟩, m⟩
    exact ⟨⟨⟨⟨⟨a, b⟩, c⟩, by omega⟩, by omega⟩, by omega⟩
theorem cells8 {W w : World} {a0 a1 a2 a3 a4 a5 a6 a7 : Value} {t : TypeId} (h : (W.alloc (.cells #[a0, a1, a2, a3, a4, a5, a6, a7] t)).grownBy w none) :
    w.cell? ⟨W.heap.size, 0, none⟩ = some a0 ∧ w.cell? ⟨W.heap.size, 1, none⟩ = some a1 ∧ w.cell? ⟨W.heap.size, 2, none⟩ = some a2 ∧ w.cell? ⟨W.heap.size, 3, none⟩ = some a3 ∧ w.cell? ⟨W.heap.size, 4, none⟩ = some a4 ∧ w.cell? ⟨W.heap.size, 5, none⟩ = some a5 ∧ w.cell? ⟨W.heap.size, 6, none⟩ = some a6 ∧ w.cell? ⟨W.heap.size, 7, none⟩ = some a7 := by
  have e := (h.block W.heap.size (by simp) (by simp)).trans (heap_alloc_new W _)
  refine ⟨?_, ?_, ?_, ?_, ?_, ?_, ?_, ?_⟩ <;> simp [World.cell?, e]
set_option maxHeartbeats 4000000 in
set_option maxRecDepth 100000 in
theorem rmay_any (c : Cmd) (hk : (c.key.size : Int) ≤ 9223372036854775807) (W : World) : Calls Tryz.prog 11 #[encCmd c] W fun e w' => e = .returned (.bool (mayB c)) ∧ W.grownBy w' none := by
  obtain ⟨kind, node, client, inc, req, ver, key, code⟩ := c
  simp only at hk
  have hm := may_eq kind node client inc req ver code key
  have hbare := fun h1 h7 W => rbare_any ⟨kind, node, client, inc, req, ver, key, code⟩ h1 h7 W
  generalize hE : decide ((⟨kind, node, client, inc, req, ver, key, code⟩ : Cmd) = bareC ⟨kind, node, client, inc, req, ver, key, code⟩) = E at hm hbare
  clear hE
  have HB : Hid (1 ≤ kind → kind ≤ 7 → ∀ W, Calls Tryz.prog 46 #[(.agg #[.int .u8 kind, .int .i64 node, .int .i64 client, .int .i64 inc, .int .i64 req, .int .i64 ver, .string key, .int .i64 code] : Value)] W fun e w' => e = .returned (.bool E) ∧ W.grownBy w' none) := hbare
  clear hbare
  have L1 := Lib.hid (rlong inc)
  have L2 := Lib.hid (rlong req)
  have L3 := Lib.hid (rlong ver)
  generalize rlongB inc = B1 at *
  generalize rlongB req = B2 at *
  generalize rlongB ver = B3 at *
  have HM := Lib.hid hm
  clear hm
  simp only [encCmd]
  go_enter Tryz.func11, Tryz.ntmps11
  go_wp2_with (first
    | (go_at_call 46; refine (HB.out (by assumption) (by assumption) _).mono ?_; rintro e w1 ⟨rfl, hg⟩; obtain ⟨d0, d1, d2, d3, d4, d5, d6, d7⟩ := cells8 hg; have HG := Lib.hid hg; clear hg)
    | (go_at_call 47; (first | refine (L1.out _).mono ?_ | refine (L2.out _).mono ?_ | refine (L3.out _).mono ?_); rintro e w2 ⟨rfl, rfl⟩))
  all_goals
    go_ret
    refine ⟨ret_bool ?_, ?_⟩
    · rw [HM.out]; simp [*] <;> intros <;> omega
    · first | exact World.grownBy_alloc W _ none | exact grown_trans (World.grownBy_alloc W _ none) HG.out
end Go.Proofs.YtjfelfjobeeenaaGreat
