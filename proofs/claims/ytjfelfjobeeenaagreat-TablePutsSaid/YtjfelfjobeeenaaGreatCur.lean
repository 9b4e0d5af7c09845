/- What Current answers. Conditions: a table that lies in memory; its keys are strings of the machine, not too many. -/
import Derived.Test.YtjfelfjobeeenaaGreatHold2
import Derived.WalkKit
import Derived.StringKeys
namespace Go.Proofs.YtjfelfjobeeenaaGreat
open Go.RowKit Go.Sf Go.Shelf Go.Maps Go.Sort
set_option linter.unusedVariables false
theorem sortsS (m : Nat) : AnyZ.SortsIn Tryz.prog Tryz.sortedS_ren Fence.wide m :=
  ⟨fun blk off cap ss W hH hblk hsz => callsIn_wide.2 (AnyM.slices_Sort_string Tryz.sortS blk off cap ss W hH hblk hsz),
   fun p cap W => callsIn_wide.2 (AnyM.slices_Sort_string_none Tryz.sortS p cap W)⟩
/-- a map's keys, as an iterator -/
theorem keysS_any (mb : Option Nat) (W : World) : Calls Tryz.prog 102 #[.map mb] W fun e w' =>
    e = .returned (.func (.func 162) #[] #[.pointer (some ⟨W.heap.size, 0, none⟩)]) ∧ w' = W.alloc (.cells #[.map mb] 118) :=
  callsIn_wide.1 (AnyZ.keys_in Tryz.keysS Fence.wide 5 trivial rfl mb W)
theorem strKeys_perm {l : List ByteArray} {E : List (Lit × DataW Unit)} (h : E.Perm (l.map fun s => (Lit.string s.data.toList, (DataW.nil : DataW Unit)))) : (strKeys (.map E)).Perm (l.map fun s => s.data.toList) := by
  have h1 := h.map (fun p => strOf p.1)
  rw [List.map_map] at h1
  exact h1
/-- rows of strings that are new -/
def Strs (w w' : World) (v : Value) (l : List (List UInt8)) : Prop := w'.ownsRow w.heap.size 9 1 v l.length (l.map encStr) ∧ (v = .slice none 0 0 ↔ l = []) ∧ w.grownBy w' none
theorem sortedS_any {W : World} {V : Type} {ev : V → Value} (b : Nat) (m : List (ByteArray × V)) (h : MapT W b Value.string ev m) (hr : ∀ p ∈ m, p.1.size ≤ maxLen) (hl : m.length ≤ 1000000) (Bm : Nat) (hBm : Bm < W.heap.size) (hm : W.cell? ⟨Bm, 0, none⟩ = some (.map (some b))) :
    Calls Tryz.prog 101 #[.func (.func 162) #[] #[.pointer (some ⟨Bm, 0, none⟩)]] W
      fun e w' => ∃ v, e = .returned v ∧ Strs W w' v ((m.map fun p => p.1.data.toList).mergeSort leB) := by
  obtain ⟨E, hown, hE⟩ := MapT.owns (P := Tryz.prog) (k := 9) h (fun s => Lit.string s.data.toList) (fun p hp => WideMaps.keyOf_string_mk Tryz.underlying9 (hr p hp)) (by simp [maxLen]; omega)
  have hE' : E.Perm ((m.map (·.1)).map fun s => (Lit.string s.data.toList, (DataW.nil : DataW Unit))) := by
    rw [List.map_map]; exact hE
  have hkeys := strKeys_perm hE'
  rw [List.map_map] at hkeys
  have hsz : Maps.size (.map E : DataW Unit) = m.length := by
    have := hE'.length_eq
    simpa [Maps.size] using this
  have hbl := hown.lt
  have hseq : SeqGives Fence.wide 2 Tryz.prog 162 #[.pointer (some ⟨Bm, 0, none⟩)] encStr (fun ss => ss.Perm (strKeys (.map E : DataW Unit))) (Maps.size (.map E : DataW Unit)) W :=
    AnyZ.keys_gives (ρ := Tryz.keysS_ren) { Tryz.keysS with } Fence.wide _ trivial rfl (by omega) Bm b _ (.map E) _ hBm hm hown
  have cS := AnyZ.sorted_in Tryz.sortedS Fence.wide 5 trivial trivial trivial trivial rfl (by omega) (sortsS _) (enters_of Tryz.func161 (by kernel_rfl) rfl) 162 #[.pointer (some ⟨Bm, 0, none⟩)] trivial (enters_of Tryz.func162 (by kernel_rfl) rfl) _ _ (by rw [hsz]; simp [maxLen]; omega) (by rw [hsz]; omega) _ hseq
  refine (callsIn_wide.1 cS).mono ?_
  rintro e w' ⟨v, ss, rfl, hS, hrow, hnil, hb⟩
  have hp : ss.Perm (m.map fun p => p.1.data.toList) := hS.trans hkeys
  have hm : ss.mergeSort leB = (m.map fun p => p.1.data.toList).mergeSort leB := mergeSort_of_perm hp
  refine ⟨v, rfl, ?_, ?_, below_grown hb⟩
  · have h1 : ss.length = ((m.map fun p => p.1.data.toList).mergeSort leB).length := by rw [← hm, List.length_mergeSort]
    have hrow' : w'.ownsRow W.heap.size 9 1 v ss.length ((ss.mergeSort leB).map encStr) := hrow
    rw [h1, hm] at hrow'
    exact hrow'
  · rw [hnil, ← hm]
    constructor
    · intro h0; rw [h0]; simp
    · intro h0
      have := congrArg List.length h0
      rw [List.length_mergeSort] at this
      exact List.eq_nil_of_length_eq_zero (by simpa using this)
/-- the keys in order -/
def skeys (T : Tab) : List (List UInt8) := (T.values.map fun p => p.1.data.toList).mergeSort leB
def curAt (T : Tab) (s : List UInt8) : Option ID := if (lookV T ⟨s.toArray⟩).dead = true then none else some ⟨⟨s.toArray⟩, (lookV T ⟨s.toArray⟩).ver⟩
/-- the current ids, by key -/
def curL (T : Tab) : List ID := (skeys T).filterMap (curAt T)
def idCells (i : ID) : List Value := [.string i.key, .int .i64 i.ver]
def IdRow (base : Nat) (w' : World) (v : Value) (l : List ID) : Prop := w'.ownsRow base 54 2 v l.length (l.flatMap idCells)
theorem skeys_length (T : Tab) : (skeys T).length = T.values.length := by simp [skeys]
theorem infoID : (Tryz.prog.info? 54).map (fun i => (i.zero, i.size, i.bytes)) = some (some (.agg #[.string { data := #[] }, .int .i64 0]), 2, 24) := by kernel_rfl
theorem grown_own {w w1 w2 : World} {row : Option Nat} (h : w.grownBy w1 none) (h2 : w1.grownBy w2 row) (hrow : ∀ k, row = some k → w.heap.size ≤ k) : w.grownBy w2 none :=
  ⟨h2.os.trans h.os, h2.tape.trans h.tape, h2.output.trans h.output, Nat.le_trans h.size h2.size, fun k hk _ =>
    (h2.block k (Nat.lt_of_lt_of_le hk h.size) (fun e => by have := hrow k e.symm; omega)).trans (h.block k hk (by simp))⟩
theorem row_base {w : World} {base : Nat} {e : TypeId} {size n : Nat} {v : Value} {xs : List Value} (h : w.ownsRow base e size v n xs) : ∀ k, v.ownBlock = some k → base ≤ k := by
  intro k hk
  rcases h.2 with ⟨rfl, _⟩ | ⟨g, cap, cur, rfl, hb, _⟩
  · simp [Value.ownBlock] at hk
  · simp [Value.ownBlock] at hk; omega
theorem row_form {w : World} {base : Nat} {e : TypeId} {size n : Nat} {v : Value} {xs : List Value} (h : w.ownsRow base e size v n xs) (hn : 0 < n) : ∃ g cap, v = .slice (some ⟨g, 0, none⟩) n cap := by
  rcases h.2 with ⟨_, h0⟩ | ⟨g, cap, cur, hv, _⟩
  · omega
  · exact ⟨g, cap, hv⟩
theorem idRow_le {base base' : Nat} {w : World} {v : Value} {l : List ID} (h : IdRow base w v l) (hb : base' ≤ base) : IdRow base' w v l :=
  ⟨h.1, h.2.imp id fun ⟨g, cap, cur, hv, hb2, rest⟩ => ⟨g, cap, cur, hv, Nat.le_trans hb hb2, rest⟩⟩
def curK (T : Tab) (k : Nat) : List ID := ((skeys T).take k).filterMap (curAt T)
theorem curK_le (T : Tab) (k : Nat) : (curK T k).length ≤ k := by
  unfold curK
  exact Nat.le_trans (List.length_filterMap_le _ _) (by simp; omega)
theorem curK_succ (T : Tab) (k : Nat) (hk : k < (skeys T).length) : curK T (k + 1) = curK T k ++ (curAt T ((skeys T).getD k [])).toList := by
  unfold curK
  rw [List.take_add_one, List.filterMap_append]
  simp only [List.getD_eq_getElem?_getD]
  rw [List.getElem?_eq_getElem hk]
  simp only [Option.getD_some, Option.toList_some, List.filterMap_cons, List.filterMap_nil]
  cases curAt T _ <;> rfl
/-- the round's relation -/
structure CurAt (w0 wr : World) (T : Tab) (v : Value) (k : Nat) : Prop where
  row : IdRow w0.heap.size wr v (curK T k)
  grown : w0.grownBy wr none
theorem CurAt.drop {w0 wr w1 : World} {T : Tab} {v : Value} {k : Nat} (h : CurAt w0 wr T v k) (hk : k < (skeys T).length) (hn : curAt T ((skeys T).getD k []) = none) (hg : wr.grownBy w1 none) : CurAt w0 w1 T v (k + 1) := by
  have e := curK_succ T k hk
  rw [hn] at e
  simp only [Option.toList_none, List.append_nil] at e
  refine ⟨?_, grown_trans h.grown hg⟩
  unfold IdRow
  rw [e]
  exact h.row.kept hg (by cases hv : v.ownBlock <;> simp)
theorem CurAt.keep {w0 wr w1 w2 : World} {T : Tab} {v v' : Value} {k : Nat} {i : ID} (h : CurAt w0 wr T v k) (hk : k < (skeys T).length) (hn : curAt T ((skeys T).getD k []) = some i) (hg : wr.grownBy w1 none)
    (ho : w2.ownsRow w0.heap.size 54 2 v' ((curK T k).length + 1) ((curK T k).flatMap idCells ++ [.string i.key, .int .i64 i.ver])) (hg2 : w1.grownBy w2 v.ownBlock) : CurAt w0 w2 T v' (k + 1) := by
  have e := curK_succ T k hk
  rw [hn] at e
  simp only [Option.toList_some] at e
  refine ⟨?_, grown_own (grown_trans h.grown hg) hg2 (row_base h.row)⟩
  unfold IdRow
  rw [e]
  simp only [List.length_append, List.length_cons, List.length_nil, List.flatMap_append, List.flatMap_cons, List.flatMap_nil, List.append_nil, idCells, Nat.zero_add]
  exact ho
section
variable {w : World} {tb : Nat} {T : Tab}
set_option maxHeartbeats 4000000 in
set_option maxRecDepth 100000 in
theorem current_nil (h : TRep w tb T) (h0 : T.values = []) :
    Calls Tryz.prog 42 #[.pointer (some ⟨tb, 0, none⟩)] w fun e w' => ∃ v, e = .returned v ∧ IdRow w.heap.size w' v (curL T) ∧ w.grownBy w' none := by
  have c5 := h.c5
  have HT := Lib.hid h
  have HR : Hid (∀ p ∈ T.values, p.1.size ≤ maxLen) := (show ∀ p ∈ T.values, _ from by rw [h0]; simp)
  have HL : Hid (T.values.length ≤ 1000000) := (show _ ≤ _ from by rw [h0]; simp)
  have HS : Hid ((T.values.map fun p => p.1.data.toList).mergeSort leB = []) := (show _ = _ from by rw [h0]; simp)
  have HC : Hid (curL T = []) := (show _ = _ from by unfold curL skeys; rw [h0]; simp)
  clear h h0
  go_enter Tryz.func42, Tryz.ntmps42
  go_wp2_with (first
      | (go_at_call 102; refine (keysS_any (some T.vb) _).mono ?_; rintro e w1 ⟨rfl, rfl⟩)
      | (go_at_call 101; have hq := sortedS_any (W := w.alloc (.cells #[.map (some T.vb)] 118)) T.vb T.values ((HT.out.grown (World.grownBy_alloc _ _ _)).values) HR.out HL.out w.heap.size (by simp [go_sem]) (by simp [go_sem]); refine hq.mono ?_; rintro e w2 ⟨v, rfl, hv⟩; obtain rfl := hv.2.1.2 HS.out; have HV := Lib.hid hv.2.2; clear hv))
  go_loopw [3, 16] (fun v i wr => v = .slice none 0 0 ∧ i = .int .i64 0 ∧ wr = w2) (fun _ _ _ => 0)
  case atStart => exact ⟨rfl, rfl, rfl⟩
  case round =>
    obtain ⟨rfl, rfl, rfl⟩ := hrel
    go_wp2
    go_ret
    rw [HC.out]
    exact ⟨_, rfl, World.ownsRow_nil _ _ _ _, grown_trans (World.grownBy_alloc _ _ _) HV.out⟩
set_option maxHeartbeats 4000000 in
set_option maxRecDepth 100000 in
theorem current_some (h : TRep w tb T) (h0 : 0 < T.values.length) (hr : ∀ p ∈ T.values, p.1.size ≤ maxLen) (hl : T.values.length ≤ 1000000) :
    Calls Tryz.prog 42 #[.pointer (some ⟨tb, 0, none⟩)] w fun e w' => ∃ v, e = .returned v ∧ IdRow w.heap.size w' v (curL T) ∧ w.grownBy w' none := by
  have c5 := h.c5
  obtain ⟨i0, hi, hz0, hz1, hz2⟩ := info_parts infoID
  have hsl := skeys_length T
  have HT := Lib.hid h
  have HR := Lib.hid hr
  have HL := Lib.hid hl
  have HN : Hid (0 < (skeys T).length) := (show _ < _ from by rw [hsl]; exact h0)
  have HN2 : Hid ((skeys T).length ≤ 1000000) := (show _ ≤ _ from by rw [hsl]; exact hl)
  have HC : Hid (curL T = curK T (skeys T).length) := (show _ = _ from by unfold curK curL; rw [List.take_length])
  have htb := h.tlt
  clear h hr hl h0 hsl
  go_enter Tryz.func42, Tryz.ntmps42
  go_wp2_with (first
      | (go_at_call 102; refine (keysS_any (some T.vb) _).mono ?_; rintro e w1 ⟨rfl, rfl⟩)
      | (go_at_call 101; have hq := sortedS_any (W := w.alloc (.cells #[.map (some T.vb)] 118)) T.vb T.values ((HT.out.grown (World.grownBy_alloc _ _ _)).values) HR.out HL.out w.heap.size (by simp [go_sem]) (by simp [go_sem]); refine hq.mono ?_; rintro e w2 ⟨v, rfl, hv⟩; change Strs _ _ v (skeys T) at hv; obtain ⟨g, cap, rfl⟩ := row_form hv.1 HN.out; have HV := Lib.hid hv; clear hv))
  generalize hn : (skeys T).length = n at *
  go_loopw [3, 16] (fun v i wr => ∃ k : Nat, k ≤ n ∧ i = .int .i64 k ∧ CurAt w2 wr T v k) (fun _ i _ => n - (intOf i).toNat)
  case atStart => exact ⟨0, Nat.zero_le _, rfl, World.ownsRow_nil _ _ _ _, grown_refl _⟩
  case round =>
    obtain ⟨k, hk, rfl, hat⟩ := hrel
    have hg0 : w.grownBy wr none := grown_trans (grown_trans (World.grownBy_alloc _ _ _) HV.out.2.2) hat.grown
    have hn2 := HN2.out
    have TW := HT.out.grown hg0
    have d5 := TW.c5
    have hv5 := TW.values
    have htw := TW.tlt
    have HG0 := Lib.hid hg0
    clear TW hg0 c5
    rcases Nat.lt_or_ge k n with hlt | hge
    · have hcx : wr.cell? ⟨g, k, none⟩ = some (.string ⟨((skeys T).getD k []).toArray⟩) := by
        have h1 := HV.out.1.cells (g := g) rfl k (.string ⟨((skeys T).getD k []).toArray⟩) (by
          rw [List.getElem?_map, List.getElem?_eq_getElem (by omega)]
          simp [List.getD_eq_getElem?_getD, List.getElem?_eq_getElem (show k < (skeys T).length by omega), encStr])
        have h2 : w2.cell? ⟨g, k, none⟩ = some (.string ⟨((skeys T).getD k []).toArray⟩) := by
          rw [← h1]; congr 1; unfold Addr.add; simp
        exact hat.grown.cell h2 (by simp)
      have hrun := fun W hW => TRep.run_values (T := T) W hW ⟨((skeys T).getD k []).toArray⟩
      have HAT := Lib.hid hat
      have HLE := curK_le T k
      have hca : Hid (curAt T ((skeys T).getD k []) = if (lookV T ⟨((skeys T).getD k []).toArray⟩).dead = true then none else some ⟨⟨((skeys T).getD k []).toArray⟩, (lookV T ⟨((skeys T).getD k []).toArray⟩).ver⟩) := (show _ = _ from rfl)
      have HROW : Hid (∀ W, wr.grownBy W none → W.ownsRow w2.heap.size 54 2 u3 (curK T k).length ((curK T k).flatMap idCells)) := (fun W hg => hat.row.kept hg (by cases hv : u3.ownBlock <;> simp))
      clear hat
      generalize (lookV T ⟨((skeys T).getD k []).toArray⟩).dead = vd at *
      generalize (lookV T ⟨((skeys T).getD k []).toArray⟩).ver = vn at *
      generalize hkey : (⟨((skeys T).getD k []).toArray⟩ : ByteArray) = key at *
      cases vd
      · have HCA : Hid (curAt T ((skeys T).getD k []) = some ⟨key, vn⟩) := (show _ = _ from by rw [hca.out]; simp)
        clear hca
        go_wp2_with (at_builtin; go_loud (refine wpList_append_own _ rfl _ _ 66 rfl w2.heap.size 54 i0 (.agg #[.string { data := #[] }, .int .i64 0]) 2 24 Tryz.underlying66 hi hz0 hz1 hz2 rfl (by decide) _ _ _ rfl (HROW.out _ ?c0) ⟨wr.heap.size + 1, 0, none⟩ 1 1 [.string key, .int .i64 vn] rfl rfl ?c1 ?c2 ?c3 ?c4 ?c5 ?_))
        case c0 => repeat (first | exact grown_refl _ | exact World.grownBy_alloc _ _ _ | refine grown_alloc ?_ _ | refine grown_drew ?_)
        case c1 =>
          intro j u hj
          match j, hj with
          | 0, hj => simp at hj; subst hj; simp [Addr.add, go_sem]
          | 1, hj => simp at hj; subst hj; simp [Addr.add, go_sem]
          | j + 2, hj => simp at hj
        case c2 => intro u hu; simp at hu; rcases hu with rfl | rfl <;> rfl
        case c3 => unfold maxLen; omega
        case c4 => omega
        case c5 => have := HAT.out.grown.size; simp; omega
        intro v' w9 ho hg9 _
        have H9 := Lib.hid (HAT.out.keep (by omega) HCA.out (grown_alloc (grown_alloc (grown_refl _) _) _) ho hg9)
        clear ho hg9
        go_wp2
        go_roundw
        case rel => exact ⟨k + 1, by omega, rfl, H9.out⟩
        case measure => simp [intOf]; omega
      · have HCA : Hid (curAt T ((skeys T).getD k []) = none) := (show _ = _ from by rw [hca.out]; simp)
        clear hca
        go_wp2
        go_roundw
        case rel => exact ⟨k + 1, by omega, rfl, HAT.out.drop (by omega) HCA.out (grown_alloc (grown_refl _) _)⟩
        case measure => simp [intOf]; omega
    · go_wp2
      go_ret
      obtain rfl : k = n := by omega
      rw [HC.out]
      exact ⟨_, rfl, idRow_le hat.row (grown_trans (World.grownBy_alloc w (.cells #[.map (some T.vb)] 118) none) HV.out.2.2).size, HG0.out⟩
theorem current_any (h : TRep w tb T) (hr : ∀ p ∈ T.values, p.1.size ≤ maxLen) (hl : T.values.length ≤ 1000000) :
    Calls Tryz.prog 42 #[.pointer (some ⟨tb, 0, none⟩)] w fun e w' => ∃ v, e = .returned v ∧ IdRow w.heap.size w' v (curL T) ∧ w.grownBy w' none := by
  rcases Nat.eq_zero_or_pos T.values.length with h0 | h0
  · exact current_nil h (List.eq_nil_of_length_eq_zero h0)
  · exact current_some h h0 hr hl
end
end Go.Proofs.YtjfelfjobeeenaaGreat
