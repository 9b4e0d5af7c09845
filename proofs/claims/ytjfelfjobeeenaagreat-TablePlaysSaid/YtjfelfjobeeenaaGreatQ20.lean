/- The document's order of ids: insertion: the plain law. Conditions: none. The document's table: Less, Held: walked. Conditions: a table that lies in memory. The document's table: Holders: walked. Conditions: a table that lies in memory. The document's sorted: what its loops hold: the plain facts. Conditions: none. sameInts, sameIDs at rows that are the same: walked. Conditions: both rows read as the same list. slices.IndexFunc and slices.DeleteFunc at ids, over a row of the call's own: walked. Conditions: the predicate answers a plain one in whatever world is grown from here, but for the row. slices.DeleteFunc at ids, over a row: walked. Conditions: the predicate answers a plain one wherever these blocks, none of which is the row's, lie as they lay. -/
import Derived.Test.YtjfelfjobeeenaaGreatQ19
import Derived.Test.YtjfelfjobeeenaaGreatQ18
import Derived.Test.YtjfelfjobeeenaaGreatQ10
import Derived.Laws.IdiomCopy
namespace Go.Proofs.YtjfelfjobeeenaaGreat
open Go.RowKit Go.Sf Go.Shelf
set_option linter.unusedVariables false
theorem lt_irr (a : ID) : ltI a a = false := by
  cases h : ltI a a with
  | false => rfl
  | true =>
    rcases (ltI_iff a a).1 h with h | ⟨_, h⟩
    · exact absurd h (List.lt_irrefl _)
    · omega
theorem lt_tri (a b : ID) : ltI a b = true ∨ a = b ∨ ltI b a = true := by
  obtain ⟨ka, va⟩ := a
  obtain ⟨kb, vb⟩ := b
  rcases key_tri ka kb with h | h | h
  · exact Or.inl ((ltI_iff _ _).2 (Or.inl h))
  · subst h
    rcases Int.lt_trichotomy va vb with h | h | h
    · exact Or.inl ((ltI_iff _ _).2 (Or.inr ⟨rfl, h⟩))
    · subst h; exact Or.inr (Or.inl rfl)
    · exact Or.inr (Or.inr ((ltI_iff _ _).2 (Or.inr ⟨rfl, h⟩)))
  · exact Or.inr (Or.inr ((ltI_iff _ _).2 (Or.inl h)))
theorem lt_tr {a b c : ID} (h1 : ltI a b = true) (h2 : ltI b c = true) : ltI a c = true := by
  refine (ltI_iff a c).2 ?_
  rcases (ltI_iff a b).1 h1 with h1 | ⟨e1, h1⟩ <;> rcases (ltI_iff b c).1 h2 with h2 | ⟨e2, h2⟩
  · exact Or.inl (List.lt_trans h1 h2)
  · exact Or.inl (e2 ▸ h1)
  · exact Or.inl (e1 ▸ h2)
  · exact Or.inr ⟨e1.trans e2, by omega⟩
theorem lt_as {a b : ID} (h1 : ltI a b = true) : ltI b a = false := by
  cases h : ltI b a with
  | false => rfl
  | true => rw [← lt_irr a, lt_tr h1 h]
def SortedI (l : List ID) : Prop := l.Pairwise fun a b => ltI a b = true
theorem sorted_ext : ∀ {l1 l2 : List ID}, SortedI l1 → SortedI l2 → (∀ x, x ∈ l1 ↔ x ∈ l2) → l1 = l2
  | [], [], _, _, _ => rfl
  | [], b :: l2, _, _, h => absurd ((h b).2 (by simp)) (by simp)
  | a :: l1, [], _, _, h => absurd ((h a).1 (by simp)) (by simp)
  | a :: l1, b :: l2, h1, h2, h => by
    obtain ⟨p1, q1⟩ := List.pairwise_cons.1 h1
    obtain ⟨p2, q2⟩ := List.pairwise_cons.1 h2
    have hab : a = b := by
      rcases List.mem_cons.1 ((h a).1 (by simp)) with e | e
      · exact e
      · rcases List.mem_cons.1 ((h b).2 (by simp)) with e' | e'
        · exact e'.symm
        · have := lt_as (p2 a e)
          rw [p1 b e'] at this
          cases this
    subst hab
    have : l1 = l2 := sorted_ext q1 q2 fun x => by
      constructor
      · intro hx
        rcases List.mem_cons.1 ((h x).1 (List.mem_cons_of_mem _ hx)) with e | e
        · subst e; have := p1 _ hx; rw [lt_irr] at this; cases this
        · exact e
      · intro hx
        rcases List.mem_cons.1 ((h x).2 (List.mem_cons_of_mem _ hx)) with e | e
        · subst e; have := p2 _ hx; rw [lt_irr] at this; cases this
        · exact e
    rw [this]
theorem sorted_of {l : List ID} (h : InOrder l) (hn : l.Nodup) : SortedI l := by
  refine List.pairwise_iff_getElem.2 fun i j hi hj hij => ?_
  have h1 := h i j hij hj
  rw [getElem!_pos l j hj, getElem!_pos l i hi] at h1
  rcases lt_tri l[i] l[j] with e | e | e
  · exact e
  · have := (List.pairwise_iff_getElem.1 hn) i j hi hj hij
    exact absurd e this
  · rw [e] at h1; cases h1
theorem SortedI.nodup {l : List ID} (h : SortedI l) : l.Nodup := List.Pairwise.imp (fun {a b} hab e => by subst e; rw [lt_irr] at hab; cases hab) h
/-- where x goes -/
def slotI (x : ID) (out : List ID) : Nat → Nat
  | 0 => 0
  | k + 1 => if ltI x (out.getD k ⟨⟨#[]⟩, 0⟩) = true then slotI x out k else k + 1
def insL (out : List ID) (x : ID) : List ID := out.take (slotI x out out.length) ++ x :: out.drop (slotI x out out.length)
/-- the document's sorted -/
def sortL (l : List ID) : List ID := l.foldl insL []
theorem slot_le (x : ID) (out : List ID) : ∀ n, slotI x out n ≤ n
  | 0 => Nat.le_refl _
  | k + 1 => by
    unfold slotI
    split
    · have := slot_le x out k; omega
    · exact Nat.le_refl _
theorem slot_up (x : ID) (out : List ID) : ∀ n, ∀ j, slotI x out n ≤ j → j < n → ltI x (out.getD j ⟨⟨#[]⟩, 0⟩) = true
  | 0, j, _, h => by omega
  | k + 1, j, h1, h2 => by
    unfold slotI at h1
    split at h1
    · rename_i hl
      rcases Nat.lt_or_ge j k with h | h
      · exact slot_up x out k j h1 h
      · obtain rfl : j = k := by omega
        exact hl
    · omega
theorem slot_dn (x : ID) (out : List ID) : ∀ n, slotI x out n = 0 ∨ ltI x (out.getD (slotI x out n - 1) ⟨⟨#[]⟩, 0⟩) = false
  | 0 => Or.inl rfl
  | k + 1 => by
    unfold slotI
    split
    · exact slot_dn x out k
    · rename_i hl
      exact Or.inr (by simpa using hl)
theorem mem_insL (out : List ID) (x y : ID) : y ∈ insL out x ↔ y = x ∨ y ∈ out := by
  have h : y ∈ out ↔ y ∈ out.take (slotI x out out.length) ∨ y ∈ out.drop (slotI x out out.length) := by
    rw [← List.mem_append, List.take_append_drop]
  unfold insL
  rw [List.mem_append, List.mem_cons, h]
  constructor
  · rintro (h | h | h) <;> simp_all
  · rintro (h | h | h) <;> simp_all
theorem len_insL (out : List ID) (x : ID) : (insL out x).length = out.length + 1 := by
  have := slot_le x out out.length
  unfold insL
  rw [List.length_append, List.length_cons, List.length_take, List.length_drop]
  omega
theorem insL_sorted {out : List ID} (h : SortedI out) {x : ID} (hx : x ∉ out) : SortedI (insL out x) := by
  have hk := slot_le x out out.length
  have hup := slot_up x out out.length
  have hdn := slot_dn x out out.length
  unfold insL
  generalize slotI x out out.length = k at *
  have hg : ∀ j (hj : j < out.length), out.getD j ⟨⟨#[]⟩, 0⟩ = out[j] := fun j hj => by simp [List.getD, List.getElem?_eq_getElem hj]
  have hb : ∀ y ∈ out.drop k, ltI x y = true := fun y hy => by
    obtain ⟨i, hi, rfl⟩ := List.getElem_of_mem hy
    rw [List.getElem_drop]
    rw [List.length_drop] at hi
    have := hup (k + i) (by omega) (by omega)
    rwa [hg (k + i) (by omega)] at this
  have ha : ∀ y ∈ out.take k, ltI y x = true := fun y hy => by
    obtain ⟨i, hi, rfl⟩ := List.getElem_of_mem hy
    rw [List.getElem_take]
    rw [List.length_take] at hi
    rcases hdn with h0 | h0
    · omega
    · rw [hg (k - 1) (by omega)] at h0
      have h1 : ltI out[k - 1] x = true := by
        rcases lt_tri out[k - 1] x with e | e | e
        · exact e
        · exact absurd (e ▸ List.getElem_mem (by omega)) hx
        · rw [e] at h0; cases h0
      rcases Nat.lt_or_ge i (k - 1) with hi' | hi'
      · exact lt_tr ((List.pairwise_iff_getElem.1 h) i (k - 1) (by omega) (by omega) hi') h1
      · have : i = k - 1 := by omega
        subst this
        exact h1
  refine List.pairwise_append.2 ⟨h.sublist (List.take_sublist _ _), List.pairwise_cons.2 ⟨hb, h.sublist (List.drop_sublist _ _)⟩, fun a hta b htb => ?_⟩
  rcases List.mem_cons.1 htb with rfl | htb
  · exact ha a hta
  · exact lt_tr (ha a hta) (hb b htb)
theorem sortL_go : ∀ (l out : List ID), SortedI out → l.Nodup → (∀ x ∈ l, x ∉ out) → SortedI (l.foldl insL out) ∧ ∀ y, y ∈ l.foldl insL out ↔ y ∈ l ∨ y ∈ out
  | [], out, h, _, _ => ⟨h, fun y => by simp⟩
  | x :: r, out, h, hn, hd => by
    obtain ⟨h1, h2⟩ := List.nodup_cons.1 hn
    obtain ⟨g1, g2⟩ := sortL_go r (insL out x) (insL_sorted h (hd x (by simp))) h2 (fun y hy => by
      rw [mem_insL]
      rintro (e | e)
      · subst e; exact h1 hy
      · exact hd y (List.mem_cons_of_mem _ hy) e)
    refine ⟨g1, fun y => ?_⟩
    rw [List.foldl_cons, g2, mem_insL, List.mem_cons]
    constructor
    · rintro (h | h | h) <;> simp_all
    · rintro ((h | h) | h) <;> simp_all
theorem sortL_sorted {l : List ID} (h : l.Nodup) : SortedI (sortL l) := (sortL_go l [] List.Pairwise.nil h (by simp)).1
theorem mem_sortL {l : List ID} (h : l.Nodup) (y : ID) : y ∈ sortL l ↔ y ∈ l := by
  rw [show sortL l = l.foldl insL [] from rfl, (sortL_go l [] List.Pairwise.nil h (by simp)).2]
  simp
theorem len_sortL (l : List ID) : (sortL l).length = l.length := by
  have : ∀ (l out : List ID), (l.foldl insL out).length = l.length + out.length := by
    intro l
    induction l with
    | nil => intro out; simp
    | cons x r ih => intro out; rw [List.foldl_cons, ih, len_insL, List.length_cons]; omega
  rw [show sortL l = l.foldl insL [] from rfl, this]; simp
end Go.Proofs.YtjfelfjobeeenaaGreat
namespace Go.Proofs.YtjfelfjobeeenaaGreat
open Go.RowKit Go.Sf Go.Shelf
set_option linter.unusedVariables false
theorem any_hit {α : Type} (f : α → Bool) (l : List α) (k : Nat) (hk : k < l.length) (h : f l[k] = true) : l.any f = true := List.any_eq_true.2 ⟨_, List.getElem_mem hk, h⟩
theorem any_none {α : Type} (f : α → Bool) (l : List α) (k : Nat) (h : NoneB f l k) (hk : l.length ≤ k) : l.any f = false := by
  rw [List.any_eq_false]
  intro x hx
  obtain ⟨j, hj, rfl⟩ := List.getElem_of_mem hx
  simpa using h j hj (by omega)
/-- does a node hold it? -/
def heldB (R : RTab) (i : ID) (n : Int) : Bool := R.holds.any (fun h : RHold => decide (h.id = i) && (decide (h.node = n) && !h.ref))
theorem lt_same (k : ByteArray) (va vb : Int) : ltI ⟨k, va⟩ ⟨k, vb⟩ = decide (va < vb) := by
  have h := ltI_iff ⟨k, va⟩ ⟨k, vb⟩
  simp only [true_and] at h
  have h2 : ¬ k.data.toList < k.data.toList := List.lt_irrefl _
  cases e : ltI ⟨k, va⟩ ⟨k, vb⟩ with
  | true => rw [e] at h; have := h.1 rfl; rcases this with h3 | h3
            · exact absurd h3 h2
            · simp [h3]
  | false => rw [e] at h; have h4 : ¬ va < vb := fun h5 => by have := h.2 (Or.inr h5); cases this
             simpa using h4
section
variable {bs : Nat → Prop} {W : World} {rb : Nat} {R : RTab}
set_option maxHeartbeats 4000000 in
set_option maxRecDepth 100000 in
theorem rheld_any (h : RAt bs W rb R) (i : ID) (n : Int) : Calls Tryz.prog 139 #[.pointer (some ⟨rb, 0, none⟩), encID i, .int .i64 n] W fun e w' => e = .returned (.bool (heldB R i n)) ∧ W.grownBy w' none := by
  obtain ⟨vL, vC, vV, vP, vH, h⟩ := h.mem
  have HV : Hid (heldB R i n = R.holds.any (fun h : RHold => decide (h.id = i) && (decide (h.node = n) && !h.ref))) := (show _ = _ from rfl)
  generalize heldB R i n = res at *
  have HR := Lib.hid (h.grown (World.grownBy_alloc W (.cells #[.string i.key, .int .i64 i.ver] 59) none))
  have HB := Lib.hid (heap_alloc_new W (.cells #[.string i.key, .int .i64 i.ver] 59))
  have HG := Lib.hid (World.grownBy_alloc W (.cells #[.string i.key, .int .i64 i.ver] 59) none)
  clear h
  simp only [encID]
  go_enter Tryz.func139, Tryz.ntmps139
  go_wp2
  generalize W.alloc (.cells #[.string i.key, .int .i64 i.ver] 59) = W2 at *
  go_loopw [7] (fun x wr => ∃ k : Nat, k ≤ R.holds.length ∧ x = .int .i64 k ∧ NoneB (fun h : RHold => decide (h.id = i) && (decide (h.node = n) && !h.ref)) R.holds k ∧ W2.grownBy wr none) (fun x _ => R.holds.length - (intOf x).toNat)
  case atStart => exact ⟨0, Nat.zero_le _, rfl, fun j hj h => by omega, grown_refl _⟩
  case round =>
    obtain ⟨k, hk, rfl, hno, hg2⟩ := hrel
    have HNO := Lib.hid hno
    have hR := HR.out.grown hg2
    obtain ⟨p, cap, hv, hcap, hlc⟩ := hR.holds.form
    have c8 := hR.c8
    rw [hv] at c8
    have bb := (hg2.block W.heap.size (Array.getElem?_eq_some_iff.1 HB.out).1 (by simp)).trans HB.out
    have b0 : wr.cell? ⟨W.heap.size, 0, none⟩ = some (.string i.key) := (cell_block bb 0).trans rfl
    have b1 : wr.cell? ⟨W.heap.size, 1, none⟩ = some (.int .i64 i.ver) := (cell_block bb 1).trans rfl
    clear bb hno
    by_cases hlt : k < R.holds.length
    · obtain ⟨g, cap', hv', hc, hfz⟩ := (hR.holds.at lenH).resolve_left (fun e => by rw [e] at hlt; simp at hlt)
      rw [hv] at hv'
      injection hv' with hv1 hv2 hv3
      subst hv1
      have e0 : wr.cell? ⟨g, k * 5, none⟩ = some (.string R.holds[k].id.key) := hc k hlt 0 _ rfl
      have e1 : wr.cell? ⟨g, k * 5 + 1, none⟩ = some (.int .i64 R.holds[k].id.ver) := hc k hlt 1 _ rfl
      have e2 : wr.cell? ⟨g, k * 5 + 2, none⟩ = some (.int .i64 R.holds[k].node) := hc k hlt 2 _ rfl
      have e4 : wr.cell? ⟨g, k * 5 + 4, none⟩ = some (.bool R.holds[k].ref) := hc k hlt 4 _ rfl
      have HH := Lib.hid hR
      clear hR hv hv2 hv3 hc hfz
      have heq := eql_id R.holds[k].id i
      by_cases hi : R.holds[k].id = i
      · have hd : decide (R.holds[k].id = i) = true := by simpa using hi
        rw [hd] at heq
        by_cases hn : R.holds[k].node = n
        · have hdn : (R.holds[k].node == n) = true := by simpa using hn
          cases hr : R.holds[k].ref with
          | false =>
            rw [hr] at e4
            have HI : Hid ((fun h : RHold => decide (h.id = i) && (decide (h.node = n) && !h.ref)) R.holds[k] = true) := (show _ = _ from by simp [hi, hn, hr])
            have HI2 := Lib.hid hr
            clear hi hd hn hr
            go_wp2
            go_quiet (fail)
            go_wp2
            go_ret
            exact ⟨by rw [HV.out, any_hit _ _ k hlt HI.out]; rfl, grown_trans HG.out (grown_trans hg2 (grown_drewN _ _))⟩
          | true =>
            rw [hr] at e4
            have HI : Hid ((fun h : RHold => decide (h.id = i) && (decide (h.node = n) && !h.ref)) R.holds[k] = false) := (show _ = _ from by simp [hr])
            clear hi hd hn hr
            go_wp2
            go_quiet (fail)
            go_wp2
            go_roundw
            case rel => exact ⟨k + 1, by omega, by go_num, HNO.out.step hlt (by simpa using HI.out), grown_trans hg2 (grown_drewN _ _)⟩
            case measure => simp [intOf]; omega
        · have hdn : (R.holds[k].node == n) = false := by simpa using hn
          have HI : Hid ((fun h : RHold => decide (h.id = i) && (decide (h.node = n) && !h.ref)) R.holds[k] = false) := (show _ = _ from by simp [hn])
          clear hi hd hn
          go_wp2
          go_quiet (fail)
          go_wp2
          go_roundw
          case rel => exact ⟨k + 1, by omega, by go_num, HNO.out.step hlt (by simpa using HI.out), grown_trans hg2 (grown_drewN _ _)⟩
          case measure => simp [intOf]; omega
      · have hd : decide (R.holds[k].id = i) = false := by simpa using hi
        rw [hd] at heq
        have HI : Hid ((fun h : RHold => decide (h.id = i) && (decide (h.node = n) && !h.ref)) R.holds[k] = false) := (show _ = _ from by simp [hi])
        clear hi hd
        go_wp2
        go_quiet (fail)
        go_wp2
        go_roundw
        case rel => exact ⟨k + 1, by omega, by go_num, HNO.out.step hlt (by simpa using HI.out), grown_trans hg2 (grown_drewN _ _)⟩
        case measure => simp [intOf]; omega
    · have HH := Lib.hid hR
      clear hR hv
      go_wp2
      go_ret
      exact ⟨by rw [HV.out, any_none _ _ k HNO.out (by omega)]; rfl, grown_trans HG.out hg2⟩
set_option maxHeartbeats 4000000 in
set_option maxRecDepth 100000 in
theorem rless_any (a b : ID) (W : World) : Calls Tryz.prog 175 #[encID a, encID b] W fun e w' => e = .returned (.bool (ltI a b)) ∧ W.grownBy w' none := by
  obtain ⟨ka, va⟩ := a
  obtain ⟨kb, vb⟩ := b
  obtain ⟨res, HV⟩ : ∃ res, Hid (res = ltI ⟨ka, va⟩ ⟨kb, vb⟩) := ⟨_, rfl⟩
  rw [show ltI ⟨ka, va⟩ ⟨kb, vb⟩ = res from HV.out.symm]
  simp only [encID]
  go_enter Tryz.func175, Tryz.ntmps175
  go_wp2
  all_goals
    go_ret
    refine ⟨?_, grown_alloc (grown_alloc (grown_refl _) _) _⟩
    rw [HV.out]
    have te := toList_eq_iff ka kb
    by_cases hk : ka = kb
    · subst hk; first | (rw [lt_same]; simp; done) | (simp_all [ltI, ordI, cmpB, cmpI]; done) | (rw [lt_same]; simp_all)
    · simp_all [ltI, ordI, cmpB, cmpI]
end
end Go.Proofs.YtjfelfjobeeenaaGreat
namespace Go.Proofs.YtjfelfjobeeenaaGreat
open Go.RowKit Go.Sf Go.Shelf
set_option linter.unusedVariables false
theorem Grows.up {α : Type} {W W2 w : World} {E : TypeId} {sz : Nat} {enc : α → List Value} {v : Value} {l : List α} (h : Grows W2 E sz enc v l w) (hg : W.grownBy W2 none) : Grows W E sz enc v l w :=
  ⟨grown_trans hg h.grown, h.row, fun g hgo => Nat.le_trans hg.size (h.own g hgo)⟩
theorem oneI : ∀ x, ∀ u ∈ cellsI x, u.oneCell' = true := fun x u hu => by
  simp only [cellsI, List.mem_cons, List.not_mem_nil, or_false] at hu
  subst hu; rfl
theorem infoInt : (Tryz.prog.info? 3).map (fun i => (i.zero, i.size, i.bytes)) = some (some (.int .i64 0), 1, 8) := by kernel_rfl
/-- 0 .. n - 1 -/
def intsN (n : Nat) : List Int := (List.range n).map (Int.ofNat ·)
theorem intsN_len (n : Nat) : (intsN n).length = n := by simp [intsN]
theorem intsN_at (n k : Nat) (h : k < (intsN n).length) : (intsN n)[k] = (k : Int) := by simp [intsN]
/-- the nodes that hold it -/
def rholdL (R : RTab) (i : ID) : List Int := (intsN R.N.toNat).filter (heldB R i)
section
variable {bs : Nat → Prop} {W : World} {rb : Nat} {R : RTab}
set_option maxHeartbeats 4000000 in
set_option maxRecDepth 100000 in
theorem rholders_any (h : RAt bs W rb R) (i : ID) (hn0 : 0 ≤ R.N) (hn1 : R.N ≤ 1000) : Calls Tryz.prog 138 #[.pointer (some ⟨rb, 0, none⟩), encID i] W fun e w' => ∃ v, e = .returned v ∧ Grows W 3 1 cellsI v (rholdL R i) w' := by
  obtain ⟨N, hN⟩ := Int.eq_ofNat_of_zero_le hn0
  have hN1 : N ≤ 1000 := by omega
  have HV : Hid (rholdL R i = (intsN N).filter (heldB R i)) := (show _ = _ from by unfold rholdL; rw [hN]; rfl)
  have HNE := Lib.hid hN
  generalize rholdL R i = res at *
  obtain ⟨i0, hi, hz0, hz1, hz2⟩ := info_parts infoInt
  have HR := Lib.hid (h.grown (World.grownBy_alloc W (.cells #[.string i.key, .int .i64 i.ver] 59) none))
  have HB := Lib.hid (heap_alloc_new W (.cells #[.string i.key, .int .i64 i.ver] 59))
  have HG := Lib.hid (World.grownBy_alloc W (.cells #[.string i.key, .int .i64 i.ver] 59) none)
  clear h hn0 hn1 hN
  simp only [encID]
  go_enter Tryz.func138, Tryz.ntmps138
  go_wp2
  generalize W.alloc (.cells #[.string i.key, .int .i64 i.ver] 59) = W2 at *
  go_loopw [5, 6] (fun lv x wr => ∃ k : Nat, k ≤ N ∧ x = .int .i64 k ∧ Grows W2 3 1 cellsI lv (keptF (heldB R i) (intsN N) k) wr) (fun _ x _ => N - (intOf x).toNat)
  case atStart => exact ⟨0, Nat.zero_le _, rfl, by rw [keptF_zero]; exact Grows.start _ _ _ _⟩
  case round =>
    obtain ⟨k, hk, rfl, hgr⟩ := hrel
    have hg2 := hgr.grown
    have hR := HR.out.grown hg2
    have hkl := keptF_len (heldB R i) (intsN N) k
    rw [intsN_len] at hkl
    obtain ⟨pl, cl, rfl, -, -⟩ := hgr.row.form
    have HGR := Lib.hid hgr
    have c0 := hR.c0
    rw [HNE.out] at c0
    have hrb := hR.lt
    have b := (hg2.block W.heap.size (Array.getElem?_eq_some_iff.1 HB.out).1 (by simp)).trans HB.out
    have b0 : wr.cell? ⟨W.heap.size, 0, none⟩ = some (.string i.key) := (cell_block b 0).trans rfl
    have b1 : wr.cell? ⟨W.heap.size, 1, none⟩ = some (.int .i64 i.ver) := (cell_block b 1).trans rfl
    clear b hgr hg2
    by_cases hlt : k < N
    · have HHE : Hid (Calls Tryz.prog 139 #[.pointer (some ⟨rb, 0, none⟩), .agg #[.string i.key, .int .i64 i.ver], .int .i64 (k : Int)] wr fun e w' => e = .returned (.bool (heldB R i (k : Int))) ∧ wr.grownBy w' none) := (show Calls _ _ _ _ _ from rheld_any hR i k)
      have hkn : k < (intsN N).length := by rw [intsN_len]; exact hlt
      clear hR
      cases hh : heldB R i (k : Int) with
      | false =>
        rw [hh] at HHE
        have HK : Hid (keptF (heldB R i) (intsN N) (k + 1) = keptF (heldB R i) (intsN N) k) := (show _ = _ from keptF_no _ _ _ hkn (by rw [intsN_at]; exact hh))
        clear hh
        go_wp2_with (go_at_call 139; refine HHE.out.mono ?_; rintro e w1 ⟨rfl, hg⟩; have HG1 := Lib.hid hg; clear hg)
        go_roundw
        case rel => exact ⟨k + 1, by omega, by go_num, by rw [HK.out]; exact HGR.out.more HG1.out⟩
        case measure => simp [intOf]; omega
      | true =>
        rw [hh] at HHE
        have HK : Hid (keptF (heldB R i) (intsN N) (k + 1) = keptF (heldB R i) (intsN N) k ++ [(k : Int)]) := (show _ = _ from by rw [keptF_yes _ _ _ hkn (by rw [intsN_at]; exact hh), intsN_at])
        clear hh
        generalize keptF (heldB R i) (intsN N) k = q at *
        go_wp2_with (first
          | (go_at_call 139; refine HHE.out.mono ?_; rintro e w1 ⟨rfl, hg⟩; have HG1 := Lib.hid hg; clear hg)
          | (at_builtin; refine wpList_sapp (l := q) (m := [(k : Int)]) _ rfl (.tmp 19) (.tmp 21) 69 rfl lenI oneI i0 _ 8 Tryz.underlying69 hi hz0 hz1 hz2 rfl (by decide) (by decide) rfl ?a1 rfl ?a2 ?a3 _ rfl ?_))
        case a1 => exact (Grows.more (Grows.more HGR.out HG1.out) (grown_alloc (grown_refl _) _)).row
        case a2 => exact yrow_at (k : Int) (heap_alloc_new _ _)
        case a3 => simp only [List.length_cons, List.length_nil]; omega
        intro p' c' w3 ha
        have HA := Lib.hid (Grows.app (Grows.more (Grows.more HGR.out HG1.out) (grown_alloc (grown_refl _) _)) ha)
        clear ha
        go_wp2
        go_roundw
        case rel => exact ⟨k + 1, by omega, by go_num, by rw [HK.out]; exact HA.out⟩
        case measure => simp [intOf]; omega
    · obtain rfl : k = N := by omega
      have HK : Hid (keptF (heldB R i) (intsN k) k = res) := (show _ = _ from by rw [HV.out, keptF_all _ _ _ (by rw [intsN_len]; exact Nat.le_refl _)])
      clear hR
      go_wp2
      go_ret
      exact ⟨_, rfl, by rw [← HK.out]; exact HGR.out.up HG.out⟩
end
end Go.Proofs.YtjfelfjobeeenaaGreat
namespace Go.Proofs.YtjfelfjobeeenaaGreat
open Go.RowKit Go.Sf Go.Shelf
set_option linter.unusedVariables false
/-- what is in order behind k rounds -/
def outL (l : List ID) (k : Nat) : List ID := (l.take k).foldl insL []
theorem outL_zero (l : List ID) : outL l 0 = [] := by simp [outL]
theorem outL_succ (l : List ID) (k : Nat) (hk : k < l.length) : outL l (k + 1) = insL (outL l k) l[k] := by
  unfold outL
  rw [List.take_succ_eq_append_getElem hk, List.foldl_append]
  rfl
theorem fold_len : ∀ (l out : List ID), (l.foldl insL out).length = l.length + out.length
  | [], out => by simp
  | x :: r, out => by rw [List.foldl_cons, fold_len r, len_insL, List.length_cons]; omega
theorem outL_len (l : List ID) (k : Nat) (hk : k ≤ l.length) : (outL l k).length = k := by
  unfold outL
  rw [fold_len, List.length_take, Nat.min_eq_left hk]
  simp
theorem outL_all (l : List ID) (k : Nat) (hk : l.length ≤ k) : outL l k = sortL l := by
  unfold outL sortL
  rw [List.take_of_length_le hk]
theorem lenID : ∀ x, (idCells x).length = 2 := fun _ => rfl
theorem oneID : ∀ x, ∀ u ∈ idCells x, u.oneCell' = true := fun x u hu => by
  simp only [idCells, List.mem_cons, List.not_mem_nil, or_false] at hu
  rcases hu with rfl | rfl <;> rfl
theorem infoRID : (Tryz.prog.info? 59).map (fun i => (i.zero, i.size, i.bytes)) = some (some (.agg #[.string ⟨#[]⟩, .int .i64 0]), 2, 24) := by kernel_rfl
/-- a step down -/
theorem slot_step (x : ID) (out : List ID) (j : Nat) (hj : j < out.length) (h : ltI x out[j] = true) : slotI x out (j + 1) = slotI x out j := by
  conv => lhs; unfold slotI
  rw [if_pos (by simpa [List.getD, List.getElem?_eq_getElem hj] using h)]
/-- the place -/
theorem slot_stop (x : ID) (out : List ID) (j : Nat) (hj : j < out.length) (h : ltI x out[j] = false) : slotI x out (j + 1) = j + 1 := by
  conv => lhs; unfold slotI
  rw [if_neg (by simpa [List.getD, List.getElem?_eq_getElem hj] using h)]
theorem insL_at {out : List ID} {x : ID} {s : Nat} (h : slotI x out out.length = s) : insL out x = out.take s ++ [x] ++ out.drop s := by
  unfold insL
  rw [h, List.append_assoc]
  rfl
end Go.Proofs.YtjfelfjobeeenaaGreat
namespace Go.Proofs.YtjfelfjobeeenaaGreat
open Go.RowKit Go.Sf Go.Shelf
set_option linter.unusedVariables false
/-- reads as these -/
def LRead {α : Type} (W : World) (sz : Nat) (enc : α → List Value) (v : Value) (l : List α) : Prop :=
  ∃ p cap, v = .slice p l.length cap ∧ (l = [] ∨ ∃ g, p = some ⟨g, 0, none⟩ ∧ ∀ i, (hi : i < l.length) → ∀ j u, (enc l[i])[j]? = some u → W.cell? ⟨g, i * sz + j, none⟩ = some u)
theorem SRow.lread {α : Type} {W : World} {E : TypeId} {sz : Nat} {enc : α → List Value} {v : Value} {l : List α} (he : ∀ x, (enc x).length = sz) (h : SRow W E sz enc v l) : LRead W sz enc v l := by
  obtain ⟨p, cap, rfl, -, -⟩ := h.form
  refine ⟨p, cap, rfl, ?_⟩
  rcases h.at he with h0 | ⟨g, c, e, hc, -⟩
  · exact Or.inl h0
  · injection e with e1 e2 e3
    exact Or.inr ⟨g, e1, hc⟩
section
variable {W : World}
set_option maxHeartbeats 4000000 in
set_option maxRecDepth 100000 in
theorem sameInts_any {va vb : Value} {l : List Int} (ha : LRead W 1 cellsI va l) (hb : LRead W 1 cellsI vb l) (hl : l.length ≤ 1000000) : Calls Tryz.prog 151 #[va, vb] W fun e w' => e = .returned (.bool true) ∧ W.grownBy w' none := by
  obtain ⟨pa, ca, rfl, ha⟩ := ha
  obtain ⟨pb, cb, rfl, hb⟩ := hb
  have HA := Lib.hid ha
  have HB := Lib.hid hb
  clear ha hb
  go_enter Tryz.func151, Tryz.ntmps151
  go_wp2
  go_loopw [5] (fun x wr => ∃ k : Nat, k ≤ l.length ∧ x = .int .i64 k ∧ W.grownBy wr none) (fun x _ => l.length - (intOf x).toNat)
  case atStart => exact ⟨0, Nat.zero_le _, rfl, grown_refl _⟩
  case round =>
    obtain ⟨k, hk, rfl, hg⟩ := hrel
    have HG := Lib.hid hg
    by_cases hlt : k < l.length
    · obtain ⟨ga, rfl, ea⟩ := HA.out.resolve_left (fun e => by rw [e] at hlt; simp at hlt)
      obtain ⟨gb, rfl, eb⟩ := HB.out.resolve_left (fun e => by rw [e] at hlt; simp at hlt)
      have fa : wr.cell? ⟨ga, k, none⟩ = some (.int .i64 l[k]) := by
        have := hg.cell (ea k hlt 0 _ rfl) (by simp)
        simpa using this
      have fb : wr.cell? ⟨gb, k, none⟩ = some (.int .i64 l[k]) := by
        have := hg.cell (eb k hlt 0 _ rfl) (by simp)
        simpa using this
      have hd : (l[k] != l[k]) = false := by simp
      clear ea eb hg
      generalize l[k] = z at *
      go_wp2
      go_quiet (fail)
      go_wp2
      go_roundw
      case rel => exact ⟨k + 1, by omega, by go_num, grown_trans HG.out (grown_drewN _ _)⟩
      case measure => simp [intOf]; omega
    · obtain rfl : k = l.length := by omega
      clear hg
      go_wp2
      go_ret
      exact ⟨rfl, HG.out⟩
end
end Go.Proofs.YtjfelfjobeeenaaGreat
namespace Go.Proofs.YtjfelfjobeeenaaGreat
open Go.RowKit Go.Sf Go.Shelf
set_option linter.unusedVariables false
/-- the predicate: it answers f, wherever these blocks lie as they lay -/
def PredI (W : World) (fv : Value) (f : ID → Bool) (bs : Nat → Prop) : Prop :=
  ∃ g cap, fv = .func (.func g) #[] cap ∧ (∀ args w, (callFunc g args).run Tryz.prog w = .ok (.enter g args) w) ∧ ∀ (i : ID) (w : World), (∀ k, bs k → w.heap[k]? = W.heap[k]?) → W.heap.size ≤ w.heap.size → Calls Tryz.prog g (#[encID i] ++ cap) w fun e w' => e = .returned (.bool (f i)) ∧ w.grownBy w' none
section
variable {W : World} {bs : Nat → Prop}
set_option maxHeartbeats 4000000 in
set_option maxRecDepth 100000 in
theorem idxF_any {fv : Value} {f : ID → Bool} (hf : PredI W fv f bs) {v : Value} {l : List ID} (h : LRead W 2 idCells v l) (hl : l.length ≤ 1000000) (hbs : ∀ k, bs k → k < W.heap.size) :
    Calls Tryz.prog 163 #[v, fv] W fun e w' => e = .returned (.int .i64 (firstI f l)) ∧ W.grownBy w' none := by
  obtain ⟨pv, cv, rfl, hv⟩ := h
  obtain ⟨g, cap, rfl, hent, hcall⟩ := hf
  have HV := Lib.hid hv
  have HC := Lib.hid hcall
  have HB := Lib.hid hbs
  clear hv hcall hbs
  go_enter Tryz.func163, Tryz.ntmps163
  go_wp2
  go_loopw [8] (fun x wr => ∃ k : Nat, k ≤ l.length ∧ x = .int .i64 k ∧ NoneB f l k ∧ W.grownBy wr none) (fun x _ => l.length - (intOf x).toNat)
  case atStart => exact ⟨0, Nat.zero_le _, rfl, noneB_zero, grown_refl _⟩
  case round =>
    obtain ⟨k, hk, rfl, hno, hg⟩ := hrel
    have HNO := Lib.hid hno
    have HG := Lib.hid hg
    clear hno
    by_cases hlt : k < l.length
    · obtain ⟨ga, rfl, ea⟩ := HV.out.resolve_left (fun e => by rw [e] at hlt; simp at hlt)
      have fa : wr.cell? ⟨ga, k * 2, none⟩ = some (.string l[k].key) := hg.cell (ea k hlt 0 _ rfl) (by simp)
      have fa1 : wr.cell? ⟨ga, k * 2 + 1, none⟩ = some (.int .i64 l[k].ver) := hg.cell (ea k hlt 1 _ rfl) (by simp)
      have HCL : Hid (Calls Tryz.prog g (#[.agg #[.string l[k].key, .int .i64 l[k].ver]] ++ cap) wr fun e w' => e = .returned (.bool (f l[k])) ∧ wr.grownBy w' none) := (show Calls _ _ _ _ _ from HC.out l[k] wr (fun b hb => HG.out.block b (HB.out b hb) (by simp)) HG.out.size)
      clear ea hg
      cases hp : f l[k] with
      | true =>
        rw [hp] at HCL
        have HH := Lib.hid (firstI_hit HNO.out hlt hp)
        clear hp
        generalize l[k] = z at *
        go_wp2_with (go_at_fn g; refine HCL.out.mono ?_; rintro e w1 ⟨rfl, hg1⟩; have HG1 := Lib.hid hg1; clear hg1)
        go_ret
        exact ⟨by rw [HH.out]; rfl, grown_trans HG.out HG1.out⟩
      | false =>
        rw [hp] at HCL
        have HN := Lib.hid (HNO.out.step hlt hp)
        clear hp
        generalize l[k] = z at *
        go_wp2_with (go_at_fn g; refine HCL.out.mono ?_; rintro e w1 ⟨rfl, hg1⟩; have HG1 := Lib.hid hg1; clear hg1)
        go_roundw
        case rel => exact ⟨k + 1, by omega, by go_num, HN.out, grown_trans HG.out HG1.out⟩
        case measure => simp [intOf]; omega
    · obtain rfl : k = l.length := by omega
      clear hg
      go_wp2
      go_ret
      exact ⟨by rw [firstI_none HNO.out (Nat.le_refl _)]; rfl, HG.out⟩
end
end Go.Proofs.YtjfelfjobeeenaaGreat
namespace Go.Proofs.YtjfelfjobeeenaaGreat
open Go.RowKit Go.Sf Go.Shelf
set_option linter.unusedVariables false
/-- clear(s), s a slice of n > 0 elements of more cells than one -/
theorem run_clear_many {P : Program} (w : World) (t e ty : TypeId) (z : Value) (ht : P.underlying t = some (.slice e)) (hv : ∀ w, (zeroValue e).run P w = .ok z w) (b o n c : Nat) (hn : 0 < n)
    (h1 : ∀ v ∈ (Builtin.zeroCells z.cells n).toList, v.oneCell' = true) (hc : ∀ j, j < n * z.cells.size → (w.cell? ⟨b, o + j, none⟩).isSome = true) (hf : ∀ j, j < n * z.cells.size → w.frozen? ⟨b, o + j, none⟩ = false) :
    (Builtin.clear_ #[t] ty #[.slice (some ⟨b, o, none⟩) n c]).run P w = .ok (.tuple #[]) (w.setCells b o (Builtin.zeroCells z.cells n).toList) := by
  have hl : (Builtin.zeroCells z.cells n).toList.length = n * z.cells.size := by simp [Builtin.zeroCells]
  have hst := run_storeCells_cells (P := P) b o (Builtin.zeroCells z.cells n).toList 0 w (by rw [hl]; simpa using hc) (by rw [hl]; simpa using hf) h1
  simp only [Nat.add_zero] at hst
  obtain ⟨m, rfl⟩ : ∃ m, n = m + 1 := ⟨n - 1, by omega⟩
  simp [Builtin.clear_, run_underlying ht, hv, hst]
theorem grown_setCells (b : Nat) : ∀ (vs : List Value) (o : Nat) (w : World), w.grownBy (w.setCells b o vs) (some b)
  | [], o, w => ⟨rfl, rfl, rfl, Nat.le_refl _, fun _ _ _ => rfl⟩
  | v :: r, o, w => by
    have h := grown_setCells b r (o + 1) (w.setCell ⟨b, o, none⟩ v)
    exact ⟨h.os, h.tape, h.output, Nat.le_trans (by simp [World.setCell]) h.size, fun k hk hn => (h.block k (by simpa [World.setCell] using hk) hn).trans (Below.heap_setCell w _ _ k (fun e => hn (by show some k = some b; rw [e])))⟩
/-- what the second loop holds: j elements looked at, i of them kept at the row's head -/
structure KI (f : ID → Bool) (l : List ID) (j i : Nat) (d : List ID) : Prop where
  len : d.length = l.length
  lt : i < j
  low : d.take i = (l.take j).filter fun x => !f x
  high : ∀ t, i ≤ t → d[t]? = l[t]?
section
variable {f : ID → Bool} {l d : List ID} {i j : Nat}
theorem KI.kept (h : KI f l j i d) : i ≤ d.length → ((l.take j).filter fun x => !f x).length = i := fun hi => by
  rw [← h.low, List.length_take]; omega
theorem KI.start {k : Nat} (hno : NoneB f l k) (hk : k < l.length) (hf : f l[k] = true) : KI f l (k + 1) k l := by
  refine ⟨rfl, Nat.lt_succ_self _, ?_, fun _ _ => rfl⟩
  rw [List.take_succ_eq_append_getElem hk, List.filter_append]
  have h1 : (l.take k).filter (fun x => !f x) = l.take k := by
    rw [List.filter_eq_self]
    intro x hx
    obtain ⟨a, ha, rfl⟩ := List.getElem_of_mem hx
    rw [List.length_take] at ha
    rw [List.getElem_take, hno a (by omega) (by omega)]; rfl
  rw [h1]; simp [hf]
theorem KI.skip (h : KI f l j i d) (hj : j < l.length) (hf : f l[j] = true) : KI f l (j + 1) i d := by
  refine ⟨h.len, by have := h.lt; omega, ?_, h.high⟩
  rw [List.take_succ_eq_append_getElem hj, List.filter_append, h.low]; simp [hf]
theorem KI.keep (h : KI f l j i d) (hj : j < l.length) (hf : f l[j] = false) : KI f l (j + 1) (i + 1) (d.set i l[j]) := by
  have hl := h.len
  have hlt := h.lt
  refine ⟨by rw [List.length_set]; exact hl, by omega, ?_, fun t ht => ?_⟩
  · rw [List.take_succ_eq_append_getElem hj, List.filter_append, ← h.low, List.take_succ_eq_append_getElem (by rw [List.length_set]; omega), List.getElem_set_self, List.take_set, List.set_eq_of_length_le (by rw [List.length_take]; omega)]
    simp [hf]
  · rw [List.getElem?_set_ne (by omega)]
    exact h.high t (by omega)
theorem KI.at (h : KI f l j i d) (hj : j < l.length) : ∃ hd : j < d.length, d[j] = l[j] := by
  have hd : j < d.length := by rw [h.len]; exact hj
  have := h.high j (Nat.le_of_lt h.lt)
  rw [List.getElem?_eq_getElem hd, List.getElem?_eq_getElem hj] at this
  exact ⟨hd, Option.some.inj this⟩
theorem KI.done (h : KI f l l.length i d) : d.take i = l.filter fun x => !f x := by rw [h.low, List.take_length]
theorem filter_none (hno : NoneB f l l.length) : (l.filter fun x => !f x) = l := by
  rw [List.filter_eq_self]
  intro x hx
  obtain ⟨a, ha, rfl⟩ := List.getElem_of_mem hx
  rw [hno a ha ha]; rfl
theorem firstI_neg (h : firstI f l = -1) : NoneB f l l.length := by
  unfold firstI at h
  cases e : l.findIdx? f with
  | some k => rw [e] at h; simp only at h; omega
  | none =>
    intro a ha _
    have := (List.findIdx?_eq_none_iff.1 e) l[a] (List.getElem_mem ha)
    simpa using this
theorem firstI_pos (h : firstI f l ≠ -1) : ∃ k : Nat, firstI f l = k ∧ ∃ hk : k < l.length, f l[k] = true ∧ NoneB f l k := by
  unfold firstI at *
  cases e : l.findIdx? f with
  | none => rw [e] at h; exact absurd rfl h
  | some k =>
    obtain ⟨hk, hf, hno⟩ := List.findIdx?_eq_some_iff_getElem.1 e
    exact ⟨k, rfl, hk, hf, fun a ha hak => by have := hno a hak; simpa using this⟩
end
theorem zeroID (w : World) : (zeroValue 54).run Tryz.prog w = .ok (.agg #[.string ⟨#[]⟩, .int .i64 0]) w := by kernel_rfl
theorem zerosID (n : Nat) : ∀ v ∈ (Builtin.zeroCells (Value.agg #[.string ⟨#[]⟩, .int .i64 0]).cells n).toList, v.oneCell' = true := by
  intro v hv
  simp only [Builtin.zeroCells, Value.cells, Array.toList_map, List.mem_map] at hv
  obtain ⟨a, _, rfl⟩ := hv
  have : a % 2 = 0 ∨ a % 2 = 1 := by omega
  rcases this with h | h <;> simp [h] <;> rfl
/-- the row's first elements, behind clear of the others -/
theorem lread_head {W w : World} {E : TypeId} {g cap i n : Nat} {d : List ID} (h : SRow W E 2 idCells (.slice (some ⟨g, 0, none⟩) n cap) d) (hi : i ≤ d.length) (hw : ∀ k, k < i * 2 → w.cell? ⟨g, k, none⟩ = W.cell? ⟨g, k, none⟩) : LRead w 2 idCells (.slice (some ⟨g, 0, none⟩) i cap) (d.take i) := by
  refine ⟨some ⟨g, 0, none⟩, cap, by rw [List.length_take, Nat.min_eq_left hi], ?_⟩
  rcases h.at lenID with h0 | ⟨g', c', e, hc, -⟩
  · left; rw [h0]; simp
  · injection e with e1 e2 e3
    cases e1
    refine Or.inr ⟨g, rfl, fun a ha j u hu => ?_⟩
    have ha' : a < i := by rw [List.length_take] at ha; omega
    rw [List.getElem_take] at hu
    have hj : j < 2 := by
      have := (List.getElem?_eq_some_iff.1 hu).1
      simpa [idCells] using this
    rw [hw _ (by omega)]
    exact hc a (by omega) j u hu
end Go.Proofs.YtjfelfjobeeenaaGreat
