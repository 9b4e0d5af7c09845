/- What Pending answers: the ids that are pending, in order. Conditions: a table that lies in memory, not too many ids. -/
import Derived.Test.YtjfelfjobeeenaaGreatOrd
import Derived.Test.YtjfelfjobeeenaaGreatIter
import Derived.Test.YtjfelfjobeeenaaGreatLayF
import Derived.Sort.OwnSorted
import Derived.Sort.Walk0
import Derived.Shelf.SlSortCmp.NoneTotal
namespace Go.Proofs.YtjfelfjobeeenaaGreat
open Go.RowKit Go.Sf Go.Shelf Go.Maps Go.Sort Go.Lib
set_option linter.unusedVariables false
instance : Inhabited ID := ⟨⟨⟨#[]⟩, 0⟩⟩
/-- a is ahead of b -/
def ltI (a b : ID) : Bool := decide (ordI a b < 0)
theorem ltI_iff (a b : ID) : ltI a b = true ↔ a.key.data.toList < b.key.data.toList ∨ (a.key = b.key ∧ a.ver < b.ver) := by
  unfold ltI ordI cmpB cmpI
  have e : Op.bytesLess a.key.toList b.key.toList = decide (a.key.data.toList < b.key.data.toList) := by
    rw [bytesLess_eq]
    rw [Lib.toList_data, Lib.toList_data]
  rw [e]
  by_cases h1 : a.key.data.toList < b.key.data.toList
  · simp [h1]
  · by_cases h2 : a.key = b.key
    · simp [h2]
      by_cases h3 : a.ver < b.ver
      · simp [h3]
      · by_cases h4 : b.ver < a.ver <;> simp [h3, h4]
    · simp [h1, h2]
theorem key_ext (a b : ByteArray) (h : a.data.toList = b.data.toList) : a = b := by
  cases a; cases b; simp at h; subst h; rfl
theorem key_tri (a b : ByteArray) : a.data.toList < b.data.toList ∨ a = b ∨ b.data.toList < a.data.toList := by
  rcases Std.lt_trichotomy a.data.toList b.data.toList with h | h | h
  · exact Or.inl h
  · exact Or.inr (Or.inl (key_ext _ _ h))
  · exact Or.inr (Or.inr h)
theorem swoI : SWO (ltOf ordI) where
  irrefl x := by
    have n : ¬ ltI x x = true := by
      rw [ltI_iff]
      rintro (h | ⟨_, h⟩)
      · exact absurd h Std.lt_irrefl
      · omega
    simpa [ltOf, ltI] using n
  trans x y z h1 h2 := by
    have h1 := (ltI_iff x y).1 h1
    have h2 := (ltI_iff y z).1 h2
    refine (ltI_iff x z).2 ?_
    rcases h1 with h1 | ⟨e1, h1⟩ <;> rcases h2 with h2 | ⟨e2, h2⟩
    · exact Or.inl (Std.lt_trans h1 h2)
    · rw [← e2]; exact Or.inl h1
    · rw [e1]; exact Or.inl h2
    · exact Or.inr ⟨e1.trans e2, by omega⟩
  ntrans x y z h1 h2 := by
    have n1 : ¬ ltI x y = true := by unfold ltI; unfold ltOf at h1; rw [h1]; decide
    have n2 : ¬ ltI y z = true := by unfold ltI; unfold ltOf at h2; rw [h2]; decide
    have n3 : ¬ ltI x z = true := by
      rw [ltI_iff] at n1 n2 ⊢
      intro h
      rcases key_tri x.key y.key with a | a | a
      · exact n1 (Or.inl a)
      · rcases key_tri y.key z.key with b | b | b
        · exact n2 (Or.inl b)
        · rcases h with h | ⟨e, h⟩
          · rw [a, b] at h; exact absurd h Std.lt_irrefl
          · by_cases c : x.ver < y.ver
            · exact n1 (Or.inr ⟨a, c⟩)
            · exact n2 (Or.inr ⟨b, by omega⟩)
        · rcases h with h | ⟨e, h⟩
          · rw [a] at h; exact absurd (Std.lt_trans h b) Std.lt_irrefl
          · rw [← e, a] at b; exact absurd b Std.lt_irrefl
      · rcases key_tri y.key z.key with b | b | b
        · exact n2 (Or.inl b)
        · rcases h with h | ⟨e, h⟩
          · rw [b] at a; exact absurd (Std.lt_trans h a) Std.lt_irrefl
          · rw [b, e] at a; exact absurd a Std.lt_irrefl
        · have c := Std.lt_trans b a
          rcases h with h | ⟨e, h⟩
          · exact absurd (Std.lt_trans h c) Std.lt_irrefl
          · rw [e] at c; exact absurd c Std.lt_irrefl
    simpa [ltOf, ltI] using n3
theorem flat_get : ∀ (l : List ID) (t : Nat), t < l.length * 2 → (l.flatMap idCells)[t]? = some ((idCells (l[t / 2]!))[t % 2]!)
  | [], t, h => by simp at h
  | x :: r, 0, h => rfl
  | x :: r, 1, h => rfl
  | x :: r, t + 2, h => by
    have ih := flat_get r t (by simp at h; omega)
    have e1 : (t + 2) / 2 = t / 2 + 1 := by omega
    have e2 : (t + 2) % 2 = t % 2 := by omega
    rw [e1, e2]
    have : (x :: r).flatMap idCells = Value.string x.key :: Value.int .i64 x.ver :: r.flatMap idCells := rfl
    rw [this]
    simpa using ih
theorem flat_len (l : List ID) : (l.flatMap idCells).length = l.length * 2 := by
  induction l with
  | nil => rfl
  | cons x r ih => simp [idCells, ih]; omega
theorem flatK_ids (l : List ID) : flatK idCells 2 l.toArray = (l.flatMap idCells).toArray := by
  apply Array.ext
  · rw [size_flatK, List.size_toArray, List.size_toArray, flat_len]
  · intro t h1 h2
    have h3 : t < l.length * 2 := by simpa using h1
    have h4 := get_flatK idCells 2 l.toArray t (by simpa using h3)
    rw [getElem!_pos _ t h1] at h4
    rw [h4]
    have h5 := flat_get l t h3
    simp only [List.getElem_toArray]
    have h6 : t < (l.flatMap idCells).length := by rw [flat_len]; exact h3
    rw [List.getElem?_eq_getElem h6] at h5
    have h7 := Option.some.inj h5
    rw [h7]
    simp
theorem holdsV {w : World} {g : Nat} {cur : Array Value} {e : TypeId} {xs : List Value} (hb : w.heap[g]? = some (.cells cur e (0, 0))) (ht : cur.toList.take xs.length = xs) : Holds id w g 0 xs.toArray := by
  intro j hj
  have hj' : j < xs.length := by simpa using hj
  refine ⟨?_, by simp [World.frozen?, hb]⟩
  have h1 : (cur.toList.take xs.length)[j]? = xs[j]? := by rw [ht]
  rw [List.getElem?_take_of_lt hj'] at h1
  simp only [World.cell?, hb, Nat.zero_add]
  simp only [Option.isSome_none, Bool.false_eq_true, if_false]
  rw [← Array.getElem?_toList, h1]
  simp [hj']
theorem heap_sortedV {w : World} {g n : Nat} {os : Array Obj} {cur : Array Value} {e : TypeId} {fr : Nat × Nat} (d : Array Value) (hb : w.heap[g]? = some (.cells cur e fr)) :
    (grow (putRow id (Sort.ahead w n) g 0 d) os).heap[g]? = some (.cells (putCells id 0 d cur) e fr) := by
  have hg : g < w.heap.size := (Array.getElem?_eq_some_iff.1 hb).1
  rw [heap_grow_old _ _ (by simpa using hg)]
  simp [putRow, mapBlock, Sort.ahead, Array.getElem?_modify, hb, onCells]
theorem grownBy_sortedV {w : World} {g n : Nat} {os : Array Obj} (d : Array Value) : w.grownBy (grow (putRow id (Sort.ahead w n) g 0 d) os) (some g) := by
  refine ⟨rfl, rfl, rfl, by simp, fun k hk hne => ?_⟩
  rw [heap_grow_old _ _ (by simpa using hk)]
  have : g ≠ k := fun e => hne (by rw [e])
  simp [putRow, mapBlock, Sort.ahead, Array.getElem?_modify, this]
theorem take_putCellsV (cur : Array Value) (xs : List Value) (h : xs.length ≤ cur.size) : (putCells id 0 xs.toArray cur).toList.take xs.length = xs := by
  apply List.ext_getElem?
  intro j
  by_cases hj : j < xs.length
  · rw [List.getElem?_take_of_lt hj, Array.getElem?_toList]
    simp [putCells, hj, show j < cur.size by omega]
  · rw [List.getElem?_take_eq_none (by omega), List.getElem?_eq_none (by omega)]
theorem ownsRow_sortedV {w : World} {base g cap n m : Nat} {e : TypeId} {os : Array Obj} {cur : Array Value} {xs : List Value} {size : Nat} (hl : xs.length = m * size) (hbase : base ≤ g) (hb : w.heap[g]? = some (.cells cur e (0, 0)))
    (h1 : m ≤ cap) (h2 : cap ≤ maxLen) (h3 : cur.size = cap * size) :
    (grow (putRow id (Sort.ahead w n) g 0 xs.toArray) os).ownsRow base e size (.slice (some ⟨g, 0, none⟩) m cap) m xs :=
  ⟨hl, .inr ⟨g, cap, _, rfl, hbase, heap_sortedV _ hb, h1, h2, by simp [putCells, h3], by
    rw [← hl]
    exact take_putCellsV cur xs (by rw [hl, h3]; exact Nat.mul_le_mul_right size h1)⟩⟩
/-- ids in order -/
def InOrder (l : List ID) : Prop := ∀ i j, i < j → j < l.length → ltI l[j]! l[i]! = false
theorem sortF_any (blk cap : Nat) (l : List ID) (w : World) (cur : Array Value) (hb : w.heap[blk]? = some (.cells cur 54 (0, 0))) (ht : cur.toList.take (l.length * 2) = l.flatMap idCells) (hsz : l.length ≤ 1000000) :
    Calls Tryz.prog 141 #[.slice (some ⟨blk, 0, none⟩) l.length cap, .func (.func 80) #[] #[]] w fun e w' =>
      e = .returned (.tuple #[]) ∧ ∃ (l' : List ID) (n : Nat) (os : Array Obj), l'.Perm l ∧ InOrder l' ∧ w' = grow (putRow id (Sort.ahead w n) blk 0 (l'.flatMap idCells).toArray) os := by
  have eg : ∀ args w, (callFunc 80 args).run Tryz.prog w = .ok (.enter 80 args) w := enters_of Tryz.func80 (by kernel_rfl) rfl
  have hH : HoldsK idCells 2 w blk 0 l.toArray := by
    unfold HoldsK
    rw [flatK_ids]
    exact holdsV hb (by rw [flat_len]; exact ht)
  have hblk : blk < w.heap.size := (Array.getElem?_eq_some_iff.1 hb).1
  have hcon := AnyQ.slices_SortFunc Tryz.sortF 2 Tryz.isAgg54 Tryz.sizeOf54 idCells (fun _ => rfl) (fun x v hv => by simp [idCells] at hv; rcases hv with rfl | rfl <;> rfl) ordI swoI 80 #[] blk 0 cap l.toArray w eg
    (fun m os dk _ x y => order_any x y _) hH hblk (by simp; omega)
  refine hcon.mono ?_
  rintro e w' ⟨he, d', n, os, hp, hs, hw⟩
  obtain ⟨p1, p2, p3⟩ := hp
  have hl : d'.toList.length = l.length := by simpa using p1
  refine ⟨he, d'.toList, n, os, ?_, ?_, ?_⟩
  · have q1 : (d'.extract 0 l.toArray.size) = d' := by rw [← p1]; simp
    have q2 : (l.toArray.extract 0 l.toArray.size) = l.toArray := by simp
    rw [q1, q2] at p3
    simpa using p3
  · intro i j hij hj
    have := hs i j (Nat.zero_le _) hij (by simpa [hl] using hj)
    show ltI d'.toList[j]! d'.toList[i]! = false
    rw [Array.getElem!_toList, Array.getElem!_toList]
    exact this
  · rw [hw]
    unfold sortWorldK putRowK
    have := flatK_ids d'.toList
    simp only [Array.toArray_toList] at this
    rw [this]
theorem sortF_none (p : Option Addr) (cap : Nat) (fv : Value) (W : World) : Calls Tryz.prog 141 #[.slice p 0 cap, fv] W fun e w' => e = .returned (.tuple #[]) ∧ w' = W :=
  AnyF.slices_SortFunc_none Tryz.sortF p cap fv W
/-- a row of ids, new, in order, of these -/
def PendRow (base : Nat) (w' : World) (v : Value) (m : List (ID × Pend)) (l : List ID) : Prop := IdRow base w' v l ∧ l.Perm (m.map (·.1)) ∧ InOrder l ∧ (v = .slice none 0 0 ↔ l = [])
theorem idCollect_any (Bm b : Nat) (m : List (ID × Pend)) (w : World) (hBm : Bm < w.heap.size) (hm : w.cell? ⟨Bm, 0, none⟩ = some (.map (some b))) (hown : MapT w b encID encPend m) (hl : m.length ≤ 1000000) :
    Calls Tryz.prog 140 #[.func (.func 142) #[] #[.pointer (some ⟨Bm, 0, none⟩)]] w fun e w' => ∃ (v : Value) (ss : List ID), e = .returned v ∧ ss.Perm (m.map (·.1)) ∧ w'.ownsRow w.heap.size 54 2 v ss.length (ss.flatMap idCells) ∧ (v = .slice none 0 0 ↔ ss = []) ∧ w.grownBy w' none := by
  have h := idCollect Fence.wide 5 trivial trivial rfl (by omega) 142 #[.pointer (some ⟨Bm, 0, none⟩)] trivial (enters_of Tryz.func142 (by kernel_rfl) rfl)
    (fun xs => xs.Perm (m.map (·.1))) m.length hl w (idKeys_stops Fence.wide _ trivial rfl (by omega) Bm b m w hBm hm hown)
  exact (callsIn_wide.1 h).mono fun e w' ⟨v, ss, h1, h2, h3, h4, h5⟩ => ⟨v, ss, h1, h2, h3, h4, below_grown h5⟩
set_option maxHeartbeats 2000000 in
set_option maxRecDepth 100000 in
theorem sortedF_any (Bm b : Nat) (m : List (ID × Pend)) (w : World) (hBm : Bm < w.heap.size) (hm : w.cell? ⟨Bm, 0, none⟩ = some (.map (some b))) (hown : MapT w b encID encPend m) (hl : m.length ≤ 1000000) :
    Calls Tryz.prog 78 #[.func (.func 142) #[] #[.pointer (some ⟨Bm, 0, none⟩)], .func (.func 80) #[] #[]] w
      fun e w' => ∃ v l, e = .returned v ∧ PendRow w.heap.size w' v m l ∧ w.grownBy w' none := by
  have HC := Lib.hid (idCollect_any Bm b m w hBm hm hown hl)
  have hnd := hown.nodup
  clear hm hown
  go_enter Tryz.func78, Tryz.ntmps78
  go_wp2_with (go_at_call 140; refine HC.out.mono ?_; rintro e w1 ⟨v, ss, rfl, hp, hrow, hnil, hg⟩; have HP := Lib.hid (And.intro hp (And.intro hrow (And.intro hnil hg))); clear hp hrow hnil hg)
  obtain ⟨hp, hrow, hnil, hg⟩ := HP.out
  have hlen : ss.length ≤ 1000000 := by rw [hp.length_eq]; simpa using hl
  rcases hrow.2 with ⟨rfl, hz⟩ | ⟨g, cap, cur, rfl, hbase, hgb, r1, r2, r3, r4⟩
  · have hss : ss = [] := List.eq_nil_of_length_eq_zero hz
    subst hss
    go_wp2_with (go_at_call 141; refine (sortF_none none 0 _ _).mono ?_; rintro e w2 ⟨rfl, rfl⟩)
    go_ret
    exact ⟨_, [], rfl, ⟨hrow, hp, fun i j h1 h2 => by simp at h2, by simp⟩, hg⟩
  · have HS := Lib.hid (sortF_any g cap ss w1 cur hgb r4 hlen)
    have HH := Lib.hid (And.intro hbase (And.intro hgb (And.intro r1 (And.intro r2 (And.intro r3 (And.intro hnil (And.intro hg hp)))))))
    clear hbase hgb r1 r2 r3 r4 hnil hg hp hrow HP
    go_wp2_with (go_at_call 141; refine HS.out.mono ?_; rintro e w2 ⟨rfl, l', n, os, hp2, ho2, rfl⟩; have HZ := Lib.hid (And.intro hp2 ho2); clear hp2 ho2)
    go_ret
    obtain ⟨hbase, hgb, r1, r2, r3, hnil, hg, hp⟩ := HH.out
    obtain ⟨hp2, ho2⟩ := HZ.out
    refine ⟨_, l', rfl, ⟨?_, hp2.trans hp, ho2, ?_⟩, grown_own hg (grownBy_sortedV _) (fun k hk => by cases hk; exact hbase)⟩
    · unfold IdRow
      rw [hp2.length_eq]
      exact ownsRow_sortedV (by rw [flat_len, hp2.length_eq]) hbase hgb r1 r2 r3
    · constructor
      · intro h; cases h
      · intro h; subst h
        have : ss = [] := hp2.symm.eq_nil
        have := hnil.2 this
        cases this
section
variable {w : World} {tb : Nat} {T : Tab}
set_option maxHeartbeats 2000000 in
set_option maxRecDepth 100000 in
theorem pending_any (h : TRep w tb T) (hl : T.pending.length ≤ 1000000) :
    Calls Tryz.prog 33 #[.pointer (some ⟨tb, 0, none⟩)] w fun e w' => ∃ v l, e = .returned v ∧ PendRow w.heap.size w' v T.pending l ∧ w.grownBy w' none := by
  have c6 := h.c6
  have HT := Lib.hid h
  have HL := Lib.hid hl
  clear h hl
  go_enter Tryz.func33, Tryz.ntmps33
  go_wp2_with (first
      | (go_at_call 79; refine (keysP_any (some T.pb) _).mono ?_; rintro e w1 ⟨rfl, rfl⟩)
      | (go_at_call 78; have hq := sortedF_any w.heap.size T.pb T.pending (w.alloc (.cells #[.map (some T.pb)] 119)) (by simp [go_sem]) (by simp [go_sem]) ((HT.out.grown (World.grownBy_alloc _ _ _)).pending) HL.out; refine hq.mono ?_; rintro e w2 ⟨v, l, rfl, hv, hg⟩; have HV := Lib.hid (And.intro hv hg); clear hv hg))
  go_ret
  obtain ⟨⟨h1, h2, h3, h4⟩, hg⟩ := HV.out
  exact ⟨v, l, rfl, ⟨idRow_le h1 (by simp), h2, h3, h4⟩, grown_trans (World.grownBy_alloc _ _ _) hg⟩
end
theorem pending_at {bs : Nat → Prop} {w : World} {tb : Nat} {L : Tab} (h : At bs w tb L) (hl : L.pending.length ≤ 1000000) :
    Calls Tryz.prog 33 #[.pointer (some ⟨tb, 0, none⟩)] w fun e w' => ∃ v l, e = .returned v ∧ PendRow w.heap.size w' v L.pending l ∧ w.grownBy w' none := by
  obtain ⟨T, h1, rfl, h3⟩ := h.ex
  have h2 := pending_any h1 hl
  exact h2
end Go.Proofs.YtjfelfjobeeenaaGreat
