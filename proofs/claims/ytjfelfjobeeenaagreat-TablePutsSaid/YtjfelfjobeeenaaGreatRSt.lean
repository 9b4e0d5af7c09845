/- The running state of a law over a table, with blocks of its own; a table's calls at it. Conditions: a table that commands have made. -/
import Derived.Test.YtjfelfjobeeenaaGreatRise
import Derived.Test.YtjfelfjobeeenaaGreatWorks
import Derived.Test.YtjfelfjobeeenaaGreatSort
namespace Go.Proofs.YtjfelfjobeeenaaGreat
open Go.RowKit Go.Sf Go.Shelf
set_option linter.unusedVariables false
theorem mapT_at {K V : Type} {ek : K → Value} {ev : V → Value} {w w' : World} {b : Nat} {m : List (K × V)} (h : MapT w b ek ev m) (e : w'.heap[b]? = w.heap[b]?) : MapT w' b ek ev m := by
  obtain ⟨es, clock, hb, hs, he⟩ := h
  exact ⟨es, clock, e.trans hb, hs, he⟩
theorem TRep.same {w W : World} {tb : Nat} {T : Tab} (h : TRep w tb T) (hs : ∀ b ∈ T.blocks tb, W.heap[b]? = w.heap[b]?) : TRep W tb T where
  cells := (hs _ (by simp [Tab.blocks])).trans h.cells
  lives := (hs _ (by simp [Tab.blocks])).trans h.lives
  calls := mapT_at h.calls (hs _ (by simp [Tab.blocks]))
  values := mapT_at h.values (hs _ (by simp [Tab.blocks]))
  pending := mapT_at h.pending (hs _ (by simp [Tab.blocks]))
  holds := mapT_at h.holds (hs _ (by simp [Tab.blocks]))
  refuses := mapT_at h.refuses (hs _ (by simp [Tab.blocks]))
  hsets := fun x hx => mapT_at (h.hsets x hx) (hs _ (by simp only [Tab.blocks, List.mem_cons, List.mem_append, List.mem_map]; exact Or.inr (Or.inr (Or.inr (Or.inr (Or.inr (Or.inr (Or.inr (Or.inl ⟨x, hx, rfl⟩)))))))))
  rsets := fun x hx => mapT_at (h.rsets x hx) (hs _ (by simp only [Tab.blocks, List.mem_cons, List.mem_append, List.mem_map]; exact Or.inr (Or.inr (Or.inr (Or.inr (Or.inr (Or.inr (Or.inr (Or.inr ⟨x, hx, rfl⟩)))))))))
  nodup := h.nodup
theorem At.same {bs : Nat → Prop} {w W : World} {tb : Nat} {L : Tab} (h : At bs w tb L) (hs : ∀ k, k < w.heap.size → bs k → W.heap[k]? = w.heap[k]?) : At bs W tb L := by
  obtain ⟨T, h1, h2, h3⟩ := h.ex
  exact ⟨T, h1.same fun b hb => hs b (h1.lt b hb) (h3 b hb), h2, h3⟩
/-- a law's state: its table, and blocks of its own -/
structure RSt (w : World) (own : Nat → Prop) (tb : Nat) (L : Tab) (W : World) : Prop where
  tab : At (fun k => w.heap.size ≤ k ∧ ¬ own k) W tb L
  base : w.grownBy W none
  lt : ∀ g, own g → g < W.heap.size
/-- own blocks lie as they lay -/
def Same (own : Nat → Prop) (W W' : World) : Prop := ∀ k, own k → W'.heap[k]? = W.heap[k]?
theorem Same.cell {own : Nat → Prop} {W W' : World} (h : Same own W W') {p : Addr} {v : Value} (ho : own p.block) (hc : W.cell? p = some v) : W'.cell? p = some v :=
  (World.cell?_of_block (h p.block ho)).trans hc
theorem Same.trans {own : Nat → Prop} {A B C : World} (h : Same own A B) (g : Same own B C) : Same own A C := fun k hk => (g k hk).trans (h k hk)
/-- what a command makes of a table, if it may be -/
def actT (L : Tab) (c : Cmd) : Tab := if mayB c = true ∧ c.node < (L.lives.length : Int) then stepT L c else L
theorem may_kind {c : Cmd} (h : mayB c = true) : 1 ≤ c.kind ∧ c.kind ≤ 7 ∧ 0 ≤ c.node := by
  unfold mayB smallB at h
  simp only [Bool.and_eq_true, decide_eq_true_eq] at h
  omega
section
variable {n k : Nat} {L : Tab}
theorem act_inv (h : Inv n k L) (c : Cmd) : Inv n k (actT L c) := by
  unfold actT
  split
  · rename_i hm
    have := may_kind hm.1
    exact inv_step h c ⟨this.2.2, by have := h.ln; omega⟩
  · exact h
theorem act_rise (hk : 1 ≤ k) (h : Inv n k L) (c : Cmd) : Rise k c L (actT L c) := by
  unfold actT
  split
  · rename_i hm
    have := may_kind hm.1
    exact rise_step hk h c ⟨this.2.2, by have := h.ln; omega⟩
  · exact rise_refl h c
theorem act_clean (h : Inv n k L) (hc : Clean L) (c : Cmd) : Clean (actT L c) := by
  unfold actT
  split
  · rename_i hm
    have := may_kind hm.1
    exact clean_step h c ⟨this.2.2, by have := h.ln; omega⟩
  · exact hc
theorem Inv.pend_len (h : Inv n k L) : (L.pending.length : Int) < L.next := by
  have hnd : (L.pending.map fun p => p.1.ver).Nodup := by
    have h1 := h.pnd
    have h2 := h.pu
    clear h
    generalize L.pending = m at *
    induction m with
    | nil => simp
    | cons p r ih =>
      simp only [List.map_cons, List.nodup_cons] at h1 ⊢
      refine ⟨fun hm => ?_, ih h1.2 (fun a ha b hb => h2 a (by simp [ha]) b (by simp [hb]))⟩
      obtain ⟨q, hq, e⟩ := List.mem_map.1 hm
      exact h1.1 (List.mem_map.2 ⟨q, hq, h2 q (by simp [hq]) p (by simp) e⟩)
  have hn := h.nx
  have h3 := nodup_range_len (L.next - 1).toNat ((L.pending.map fun p => p.1.ver - 1)) (by
    have : (L.pending.map fun p => p.1.ver - 1) = (L.pending.map fun p => p.1.ver).map (· - 1) := by rw [List.map_map]; rfl
    rw [this]
    rw [List.nodup_iff_pairwise_ne, List.pairwise_map]
    exact List.Pairwise.imp (fun hab e => hab (by omega)) (List.nodup_iff_pairwise_ne.1 hnd)) (fun x hx => by
      obtain ⟨p, hp, rfl⟩ := List.mem_map.1 hx
      have := h.pv p hp
      omega)
  simp at h3
  omega
theorem Inv.fits (h : Inv n k L) (hn : n ≤ 1000000) (i : ID) : Fits (memH L.holds i) :=
  fits_small ⟨fun x hx => by have := (h.hm.len i).2 x hx; omega, by have := (h.hm.len i).1; omega⟩
theorem Inv.ok (h : Inv n k L) (hn : n ≤ 1000000) (ho : L.offers < 1000000) (hx : L.next < 1000000) : L.Ok :=
  ⟨h.o0, by omega, by have := h.nx; omega, by omega, by rw [h.ln]; omega, fun i => by have := (h.rm.len i).1; omega⟩
end
section
variable {w W W' : World} {own : Nat → Prop} {tb : Nat} {L : Tab}
theorem RSt.grown (h : RSt w own tb L W) (hg : W.grownBy W' none) : RSt w own tb L W' := ⟨h.tab.grown hg, grown_trans h.base hg, fun g hg2 => Nat.lt_of_lt_of_le (h.lt g hg2) hg.size⟩
theorem RSt.kept (h : RSt w own tb L W) (hg : W.grownBy W' none) : Same own W W' := fun k hk => hg.block k (h.lt k hk) (by simp)
theorem RSt.write (h : RSt w own tb L W) {g : Option Nat} (hg : W.grownBy W' g) (ho : ∀ b, g = some b → own b ∧ w.heap.size ≤ b) : RSt w own tb L W' :=
  ⟨h.tab.same fun k hk hb => hg.block k hk (fun e => hb.2 (ho k e.symm).1), grown_own h.base hg (fun b e => (ho b e).2), fun g2 h2 => Nat.lt_of_lt_of_le (h.lt g2 h2) hg.size⟩
theorem RSt.fresh (h : RSt w own tb L W) (hg : W.grownBy W' none) (g : Nat) (hge : W.heap.size ≤ g) (hlt : g < W'.heap.size) : RSt w (fun k => own k ∨ k = g) tb L W' :=
  ⟨(h.tab.mono (fun k hk hb => ⟨hb.1, by rintro (h1 | h1); exact hb.2 h1; omega⟩)).grown hg, grown_trans h.base hg, fun g2 h2 => by
    rcases h2 with h2 | h2
    · exact Nat.lt_of_lt_of_le (h.lt g2 h2) hg.size
    · omega⟩
theorem RSt.less (h : RSt w own tb L W) {own' : Nat → Prop} (hs : ∀ k, own' k → own k) : RSt w own' tb L W :=
  ⟨h.tab.mono (fun k hk hb => ⟨hb.1, fun h2 => hb.2 (hs k h2)⟩), h.base, fun g hg => h.lt g (hs g hg)⟩
theorem RSt.look (h : RSt w own tb L W) (k : ByteArray) (v : Int) (hv : look L k = v) : Calls Tryz.prog 34 #[.pointer (some ⟨tb, 0, none⟩), .string k] W fun e w' => e = .returned (.int .i64 v) ∧ RSt w own tb L w' ∧ W.grownBy w' none := by
  subst hv
  exact (look_at h.tab k).mono fun e w' ⟨a, b⟩ => ⟨a, h.grown b, b⟩
theorem RSt.wanted (h : RSt w own tb L W) (k : ByteArray) (n : Int) (v : Bool) (hv : wantedB L ⟨k, n⟩ = v) : Calls Tryz.prog 36 #[.pointer (some ⟨tb, 0, none⟩), .agg #[.string k, .int .i64 n]] W fun e w' => e = .returned (.bool v) ∧ RSt w own tb L w' ∧ W.grownBy w' none := by
  subst hv
  exact (wanted_at h.tab ⟨k, n⟩).mono fun e w' ⟨a, b⟩ => ⟨a, h.grown b, b⟩
theorem RSt.call (h : RSt w own tb L W) (n : Int) (v : CallT) (hv : callV L n = v) : Calls Tryz.prog 32 #[.pointer (some ⟨tb, 0, none⟩), .int .i64 n] W fun e w' => e = .returned (.agg #[.int .i64 v.req, .int .i64 v.ver, .bool v.done, .int .i64 v.code]) ∧ RSt w own tb L w' ∧ W.grownBy w' none := by
  subst hv
  exact (call_at h.tab n).mono fun e w' ⟨a, b⟩ => ⟨a, h.grown b, b⟩
theorem RSt.next (h : RSt w own tb L W) (v : Int) (hv : L.next = v) : Calls Tryz.prog 31 #[.pointer (some ⟨tb, 0, none⟩)] W fun e w' => e = .returned (.int .i64 v) ∧ RSt w own tb L w' ∧ W.grownBy w' none := by
  subst hv
  exact (next_at h.tab).mono fun e w' ⟨a, b⟩ => ⟨a, h.grown b, b⟩
theorem RSt.life (h : RSt w own tb L W) (n v : Int) (hl : L.lives.length ≤ 1000000) (hv : lifeV L n = v) : Calls Tryz.prog 23 #[.pointer (some ⟨tb, 0, none⟩), .int .i64 n] W fun e w' => e = .returned (.int .i64 v) ∧ RSt w own tb L w' ∧ W.grownBy w' none := by
  subst hv
  exact (life_at h.tab n (by omega)).mono fun e w' ⟨a, b⟩ => ⟨a, h.grown b, b⟩
theorem RSt.holders (h : RSt w own tb L W) (k : ByteArray) (n : Int) (l : Nat) (hf : Fits (memH L.holds ⟨k, n⟩)) (hv : (memH L.holds ⟨k, n⟩).length = l) : Calls Tryz.prog 37 #[.pointer (some ⟨tb, 0, none⟩), .agg #[.string k, .int .i64 n]] W fun e w' => ∃ p c, e = .returned (.slice p l c) ∧ RSt w own tb L w' ∧ W.grownBy w' none := by
  subst hv
  refine (holders_at h.tab ⟨k, n⟩ hf).mono ?_
  rintro e w' ⟨v, a, b⟩
  obtain ⟨p, c, hv⟩ := ints_form b
  rw [holdL_length] at hv
  exact ⟨p, c, by rw [a, hv], h.grown b.2.2, b.2.2⟩
theorem RSt.pending (h : RSt w own tb L W) (hl : L.pending.length ≤ 1000000) : Calls Tryz.prog 33 #[.pointer (some ⟨tb, 0, none⟩)] W fun e w' => ∃ v l, e = .returned v ∧ PendRow w.heap.size w' v L.pending l ∧ (∀ g, v.ownBlock = some g → W.heap.size ≤ g) ∧ RSt w own tb L w' ∧ W.grownBy w' none :=
  (pending_at h.tab hl).mono fun e w' ⟨v, l, a, b, c⟩ => ⟨v, l, a, ⟨idRow_le b.1 h.base.size, b.2⟩, row_base b.1, h.grown c, c⟩
/-- a block of cells of another type is none of a table's -/
theorem not_table {T : Tab} (h : TRep W tb T) {g : Nat} {c : Array Value} {t : TypeId} {fr : Nat × Nat} (hg : W.heap[g]? = some (.cells c t fr)) (h1 : t ≠ 122) (h2 : t ≠ 2) : g ∉ T.blocks tb := by
  have hmap : ∀ {b : Nat} {K V : Type} {ek : K → Value} {ev : V → Value} {m : List (K × V)}, MapT W b ek ev m → g ≠ b := by
    rintro b K V ek ev m ⟨es, clock, hb, _⟩ e
    rw [e, hb] at hg; cases hg
  intro hb
  simp only [Tab.blocks, List.mem_cons, List.mem_append, List.mem_map] at hb
  rcases hb with e | e | e | e | e | e | e | ⟨x, hx, e⟩ | ⟨x, hx, e⟩
  · rw [e, h.cells] at hg; cases hg; exact h1 rfl
  · rw [e, h.lives] at hg; cases hg; exact h2 rfl
  · exact hmap h.calls e
  · exact hmap h.values e
  · exact hmap h.pending e
  · exact hmap h.holds e
  · exact hmap h.refuses e
  · exact hmap (h.hsets x hx) e.symm
  · exact hmap (h.rsets x hx) e.symm
theorem RSt.take (h : RSt w own tb L W) {own' : Nat → Prop} (hs : ∀ g, own' g → own g ∨ ∃ c t fr, W.heap[g]? = some (.cells c t fr) ∧ t ≠ 122 ∧ t ≠ 2) : RSt w own' tb L W := by
  refine ⟨?_, h.base, fun g hg => ?_⟩
  · obtain ⟨T, h1, h2, h3⟩ := h.tab.ex
    refine ⟨T, h1, h2, fun b hb => ⟨(h3 b hb).1, fun ho => ?_⟩⟩
    rcases hs b ho with h4 | ⟨c, t, fr, h4, h5, h6⟩
    · exact (h3 b hb).2 h4
    · exact not_table h1 h4 h5 h6 hb
  · rcases hs g hg with h4 | ⟨c, t, fr, h4, _, _⟩
    · exact h.lt g h4
    · exact (Array.getElem?_eq_some_iff.1 h4).1
theorem own_type {base n : Nat} {e : TypeId} {size : Nat} {v : Value} {xs : List Value} (h : W.ownsRow base e size v n xs) {g : Nat} (hg : v.ownBlock = some g) : ∃ c, W.heap[g]? = some (.cells c e (0, 0)) := by
  rcases h.2 with ⟨rfl, _⟩ | ⟨b, cap, cur, rfl, _, hb, _⟩
  · simp [Value.ownBlock] at hg
  · simp [Value.ownBlock] at hg
    subst hg
    exact ⟨_, hb⟩
theorem own_same {base n : Nat} {e : TypeId} {size : Nat} {v : Value} {xs : List Value} (h : W.ownsRow base e size v n xs) (hs : ∀ g, v.ownBlock = some g → W'.heap[g]? = W.heap[g]?) : W'.ownsRow base e size v n xs := by
  refine ⟨h.1, ?_⟩
  rcases h.2 with hn | ⟨b, cap, cur, rfl, h1, hb, h3⟩
  · exact .inl hn
  · exact .inr ⟨b, cap, cur, rfl, h1, (hs b (by simp [Value.ownBlock])).trans hb, h3⟩
set_option maxRecDepth 100000 in
theorem offered_any {T : Tab} (h : TRep W tb T) : Calls Tryz.prog 35 #[.pointer (some ⟨tb, 0, none⟩)] W fun e w' => e = .returned (.int .i64 T.offers) ∧ W.grownBy w' none := by
  have c1 := h.c1
  clear h
  go_enter Tryz.func35, Tryz.ntmps35
  go_wp2
  go_ret
  exact ⟨rfl, grown_refl _⟩
theorem RSt.offered (h : RSt w own tb L W) (v : Int) (hv : L.offers = v) : Calls Tryz.prog 35 #[.pointer (some ⟨tb, 0, none⟩)] W fun e w' => e = .returned (.int .i64 v) ∧ RSt w own tb L w' ∧ W.grownBy w' none := by
  subst hv
  obtain ⟨T, h1, h2, h3⟩ := h.tab.ex
  have hq := offered_any h1
  have e : T.offers = L.offers := by rw [← h2]; rfl
  rw [e] at hq
  exact hq.mono fun e w' ⟨a, b⟩ => ⟨a, h.grown b, b⟩
theorem do_act {bs : Nat → Prop} {n k : Nat} (h : At bs W tb L) (hI : Inv n k L) (hn : n ≤ 1000000) (ho : L.offers < 1000000) (hx : L.next < 1000000) (c : Cmd) (hkey : (c.key.size : Int) ≤ 9223372036854775807) (hbs : ∀ k, W.heap.size ≤ k → bs k) :
    Calls Tryz.prog 22 #[.pointer (some ⟨tb, 0, none⟩), encCmd c] W fun e w' => e = .returned (.int .i64 (if mayB c = true ∧ c.node < (L.lives.length : Int) then 0 else 2)) ∧ At bs w' tb (actT L c) ∧ Out bs W w' := by
  unfold actT
  by_cases hm : mayB c = true
  · by_cases hc : c.node < (L.lives.length : Int)
    · rw [if_pos ⟨hm, hc⟩, if_pos ⟨hm, hc⟩]
      have := may_kind hm
      exact do_at h c hkey (hI.ok hn ho hx) hm hc this.1 this.2.1 this.2.2 hbs
    · rw [if_neg (fun e => hc e.2), if_neg (fun e => hc e.2)]
      obtain ⟨T, h1, h2, h3⟩ := h.ex
      have e : T.lives.length = L.lives.length := by rw [← h2]; rfl
      have hl := hI.ln
      refine (do_bad2 h1 c hkey (by omega) hm (by omega)).mono ?_
      rintro e w' ⟨a, b⟩
      exact ⟨a, h.grown b, Out.of_grown b _⟩
  · rw [if_neg (fun e => hm e.1), if_neg (fun e => hm e.1)]
    obtain ⟨T, h1, h2, h3⟩ := h.ex
    have e : T.lives.length = L.lives.length := by rw [← h2]; rfl
    have hl := hI.ln
    refine (do_bad1 h1 c hkey (by omega) (by simpa using hm)).mono ?_
    rintro e w' ⟨a, b⟩
    exact ⟨a, h.grown b, Out.of_grown b _⟩
theorem RSt.act {n k : Nat} (h : RSt w own tb L W) (hI : Inv n k L) (hn : n ≤ 1000000) (ho : L.offers < 1000000) (hx : L.next < 1000000) (kind node client inc req ver : Int) (key : ByteArray) (code : Int) (hkey : (key.size : Int) ≤ 9223372036854775807) (r : Int)
    (hr : (if mayB ⟨kind, node, client, inc, req, ver, key, code⟩ = true ∧ node < (L.lives.length : Int) then (0 : Int) else 2) = r) (L' : Tab) (hL : actT L ⟨kind, node, client, inc, req, ver, key, code⟩ = L') :
    Calls Tryz.prog 22 #[.pointer (some ⟨tb, 0, none⟩), .agg #[.int .u8 kind, .int .i64 node, .int .i64 client, .int .i64 inc, .int .i64 req, .int .i64 ver, .string key, .int .i64 code]] W fun e w' => e = .returned (.int .i64 r) ∧ RSt w own tb L' w' ∧ Same own W w' := by
  subst hr hL
  refine (do_act h.tab hI hn ho hx ⟨kind, node, client, inc, req, ver, key, code⟩ hkey (fun k hk => ⟨by have := h.base.size; omega, fun e => by have := h.lt k e; omega⟩)).mono ?_
  rintro e w' ⟨a, b, c⟩
  refine ⟨a, ⟨b, ⟨c.os.trans h.base.os, c.tape.trans h.base.tape, c.output.trans h.base.output, Nat.le_trans h.base.size c.size, fun k hk hn => ?_⟩, fun g hg => Nat.lt_of_lt_of_le (h.lt g hg) c.size⟩, fun k hk => c.block k (h.lt k hk) (fun e => e.2 hk)⟩
  exact (c.block k (Nat.lt_of_lt_of_le hk h.base.size) (fun e => by omega)).trans (h.base.block k hk (by simp))
end
end Go.Proofs.YtjfelfjobeeenaaGreat
