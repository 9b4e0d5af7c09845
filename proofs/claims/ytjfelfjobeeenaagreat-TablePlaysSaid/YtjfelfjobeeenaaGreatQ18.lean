/- The document's table: begins, done: the walks. Conditions: a table that lies in memory. The document's Do: blocks of the call's own; a table's numbers. Conditions: none. cmp.Compare, cmp.Or, and how ids are ordered: the walks. Conditions: none. -/
import Derived.Test.YtjfelfjobeeenaaGreatQ17
import Derived.Test.YtjfelfjobeeenaaGreatQ10
import Derived.Shelf.SlSortCmp.WholeK
import Derived.Deep.RegionHeld3
namespace Go.Proofs.YtjfelfjobeeenaaGreat
open Go.RowKit Go.Sf Go.Shelf
set_option linter.unusedVariables false
theorem rcall_at {bs : Nat → Prop} {W : World} {rb : Nat} {R : RTab} (h : RAt bs W rb R) (n : Int) : Calls Tryz.prog 146 #[.pointer (some ⟨rb, 0, none⟩), .int .i64 n] W fun e w' => e = .returned (encRCall n (rcallV R n)) ∧ W.grownBy w' none := by
  obtain ⟨vL, vC, vV, vP, vH, h1, _⟩ := h
  exact rcall_core h1 n
theorem rvalue_at {bs : Nat → Prop} {W : World} {rb : Nat} {R : RTab} (h : RAt bs W rb R) (n : ByteArray) : Calls Tryz.prog 120 #[.pointer (some ⟨rb, 0, none⟩), .string n] W fun e w' => e = .returned (encRVal n (rlookV R n)) ∧ W.grownBy w' none := by
  obtain ⟨vL, vC, vV, vP, vH, h1, _⟩ := h
  exact rvalue_core h1 n
theorem rwanted_at {bs : Nat → Prop} {W : World} {rb : Nat} {R : RTab} (h : RAt bs W rb R) (i : ID) : Calls Tryz.prog 115 #[.pointer (some ⟨rb, 0, none⟩), encID i] W fun e w' => e = .returned (.bool (rwanted R i)) ∧ W.grownBy w' none := by
  obtain ⟨vL, vC, vV, vP, vH, h1, _⟩ := h
  exact rwanted_core h1 i
theorem rpend_at {bs : Nat → Prop} {W : World} {rb : Nat} {R : RTab} (h : RAt bs W rb R) (i : ID) : Calls Tryz.prog 117 #[.pointer (some ⟨rb, 0, none⟩), encID i] W fun e w' => e = .returned (.int .i64 (pendI R i)) ∧ W.grownBy w' none := by
  obtain ⟨vL, vC, vV, vP, vH, h1, _⟩ := h
  exact rpend_core h1 i
theorem rcount_at {bs : Nat → Prop} {W : World} {rb : Nat} {R : RTab} (h : RAt bs W rb R) (i : ID) (b : Bool) : Calls Tryz.prog 118 #[.pointer (some ⟨rb, 0, none⟩), encID i, .bool b] W fun e w' => e = .returned (.int .i64 (rcount R i b)) ∧ W.grownBy w' none := by
  obtain ⟨vL, vC, vV, vP, vH, h1, _⟩ := h
  exact rcount_core h1 i b
theorem turn_after {bs : Nat → Prop} {a b c : World} (h : Turn bs a b) (g : b.grownBy c none) : Turn bs a c :=
  ⟨g.os.trans h.os, g.tape.trans h.tape, g.output.trans h.output, Nat.le_trans h.size g.size, fun k hk hn => (g.block k (Nat.lt_of_lt_of_le hk h.size) (by simp)).trans (h.block k hk hn)⟩
theorem turn_trans {bs : Nat → Prop} {a b c : World} (h : Turn bs a b) (g : Turn bs b c) : Turn bs a c :=
  ⟨g.os.trans h.os, g.tape.trans h.tape, g.output.trans h.output, Nat.le_trans h.size g.size, fun k hk hn => (g.block k (Nat.lt_of_lt_of_le hk h.size) hn).trans (h.block k hk hn)⟩
theorem same_end {bs : Nat → Prop} {W w : World} {rb : Nat} {R : RTab} (h : RAt bs W rb R) (hg : W.grownBy w none) : RAt bs w rb R ∧ Turn bs W w := ⟨h.grown hg, turn_grown hg⟩
section
variable {bs : Nat → Prop} {W : World} {rb : Nat} {R : RTab}
theorem rdone_t {i : ID} {p : Pend} {code : Int} (h : (rcallV R p.client).req = p.req ∧ (rcallV R p.client).ver = i.ver) : rdone R i p code = { R with calls := mput R.calls p.client ⟨(rcallV R p.client).req, (rcallV R p.client).ver, true, code⟩ } := if_pos h
theorem rdone_f {i : ID} {p : Pend} {code : Int} (h : ¬ ((rcallV R p.client).req = p.req ∧ (rcallV R p.client).ver = i.ver)) : rdone R i p code = R := if_neg h
set_option maxHeartbeats 8000000 in
set_option maxRecDepth 100000 in
theorem rdone_any (h : RAt bs W rb R) (hbs : ∀ k, W.heap.size ≤ k → bs k) (i : ID) (p : Pend) (code : Int) (hl : R.calls.length ≤ 100000000) : Calls Tryz.prog 122 #[.pointer (some ⟨rb, 0, none⟩), encRPend i p, .int .i64 code] W fun e w' => e = .returned (.tuple #[]) ∧ RAt bs w' rb (rdone R i p code) ∧ Turn bs W w' := by
  have HC := Lib.hid (fun W' (hg : W.grownBy W' none) => rcall_at (h.grown hg) p.client)
  have HP := Lib.hid (fun W' (hg : W.grownBy W' none) (c : CallT) => rput_call (h.grown hg) (fun k hk => hbs k (Nat.le_trans hg.size hk)) p.client c hl)
  have HA := Lib.hid h
  have ht := fun h => rdone_t (R := R) (i := i) (p := p) (code := code) h
  have hf := fun h => rdone_f (R := R) (i := i) (p := p) (code := code) h
  clear h
  generalize rdone R i p code = R' at *
  generalize rcallV R p.client = v at *
  obtain ⟨vr, vv, vd, vc⟩ := v
  simp only [encRCall, encRPend] at HC HP ⊢
  simp only at ht hf
  by_cases h1 : vr = p.req
  · by_cases h2 : vv = i.ver
    · have HE := Lib.hid (ht ⟨h1, h2⟩)
      have q1 : (vr == p.req) = true := by simpa using h1
      have q2 : (vv == i.ver) = true := by simpa using h2
      clear ht hf h1 h2
      go_enter Tryz.func122, Tryz.ntmps122
      go_wp2_with (first
        | (go_at_call 146; refine (HC.out _ (World.grownBy_alloc _ _ none)).mono ?_; rintro e w1 ⟨rfl, hg⟩; have hx := (hg.block W.heap.size (by simp) (by simp)).trans (heap_alloc_new W _); have b0 := (cell_block hx 0).trans rfl; have b1 := (cell_block hx 1).trans rfl; have b2 := (cell_block hx 2).trans rfl; have b3 := (cell_block hx 3).trans rfl; have hwl := (Array.getElem?_eq_some_iff.1 hx).1; have HG := Lib.hid (grown_trans (World.grownBy_alloc W _ none) hg); clear hg hx)
        | (go_at_call 114; refine (HP.out _ (by repeat (first | exact HG.out | refine grown_alloc ?_ _ | refine grown_drew ?_)) ⟨vr, vv, true, code⟩).mono ?_; rintro e w2 ⟨rfl, hr, ht⟩; have HQ := Lib.hid (And.intro hr ht); clear hr ht))
      first | go_end0 | refine bodyPost_ret (results_none rfl _ _ _) rfl ?_
      refine ⟨rfl, ?_⟩
      rw [HE.out]
      exact ⟨HQ.out.1, turn_then (by repeat (first | exact HG.out | refine grown_alloc ?_ _ | refine grown_drew ?_)) HQ.out.2⟩
    · have HE := Lib.hid (hf fun h => h2 h.2)
      have q1 : (vr == p.req) = true := by simpa using h1
      have q2 : (vv == i.ver) = false := by simpa using h2
      clear ht hf h1 h2
      go_enter Tryz.func122, Tryz.ntmps122
      go_wp2_with (go_at_call 146; refine (HC.out _ (World.grownBy_alloc _ _ none)).mono ?_; rintro e w1 ⟨rfl, hg⟩; have hx := (hg.block W.heap.size (by simp) (by simp)).trans (heap_alloc_new W _); have b0 := (cell_block hx 0).trans rfl; have b1 := (cell_block hx 1).trans rfl; have b2 := (cell_block hx 2).trans rfl; have b3 := (cell_block hx 3).trans rfl; have hwl := (Array.getElem?_eq_some_iff.1 hx).1; have HG := Lib.hid (grown_trans (World.grownBy_alloc W _ none) hg); clear hg hx)
      first | go_end0 | refine bodyPost_ret (results_none rfl _ _ _) rfl ?_
      refine ⟨rfl, ?_⟩
      rw [HE.out]
      refine same_end HA.out ?_
      repeat (first | exact HG.out | refine grown_alloc ?_ _ | refine grown_drew ?_)
  · have HE := Lib.hid (hf fun h => h1 h.1)
    have q1 : (vr == p.req) = false := by simpa using h1
    clear ht hf h1
    go_enter Tryz.func122, Tryz.ntmps122
    go_wp2_with (go_at_call 146; refine (HC.out _ (World.grownBy_alloc _ _ none)).mono ?_; rintro e w1 ⟨rfl, hg⟩; have hx := (hg.block W.heap.size (by simp) (by simp)).trans (heap_alloc_new W _); have b0 := (cell_block hx 0).trans rfl; have b1 := (cell_block hx 1).trans rfl; have b2 := (cell_block hx 2).trans rfl; have b3 := (cell_block hx 3).trans rfl; have hwl := (Array.getElem?_eq_some_iff.1 hx).1; have HG := Lib.hid (grown_trans (World.grownBy_alloc W _ none) hg); clear hg hx)
    first | go_end0 | refine bodyPost_ret (results_none rfl _ _ _) rfl ?_
    refine ⟨rfl, ?_⟩
    rw [HE.out]
    refine same_end HA.out ?_
    repeat (first | exact HG.out | refine grown_alloc ?_ _ | refine grown_drew ?_)
theorem cells8' {W w : World} {a0 a1 a2 a3 a4 a5 a6 a7 : Value} {t : TypeId} (h : (W.alloc (.cells #[a0, a1, a2, a3, a4, a5, a6, a7] t)).grownBy w none) :
    w.cell? ⟨W.heap.size, 0, none⟩ = some a0 ∧ w.cell? ⟨W.heap.size, 1, none⟩ = some a1 ∧ w.cell? ⟨W.heap.size, 2, none⟩ = some a2 ∧ w.cell? ⟨W.heap.size, 3, none⟩ = some a3 ∧ w.cell? ⟨W.heap.size, 4, none⟩ = some a4 ∧ w.cell? ⟨W.heap.size, 5, none⟩ = some a5 ∧ w.cell? ⟨W.heap.size, 6, none⟩ = some a6 ∧ w.cell? ⟨W.heap.size, 7, none⟩ = some a7 := by
  have e := (h.block W.heap.size (by simp) (by simp)).trans (heap_alloc_new W _)
  refine ⟨?_, ?_, ?_, ?_, ?_, ?_, ?_, ?_⟩ <;> simp [World.cell?, e]
/-- what begins leaves -/
def rbegunT (R : RTab) (c : Cmd) : RTab := if rbeginsB R c = true then rbegun R c else R
theorem eraseP_none {α : Type} {f : α → Bool} {l : List α} {k : Nat} (h : NoneB f l k) (hk : l.length ≤ k) : l.eraseP f = l :=
  List.eraseP_of_forall_not fun x hx => by
    obtain ⟨j, hj, rfl⟩ := List.getElem_of_mem hx
    simp [h j hj (Nat.lt_of_lt_of_le hj hk)]
set_option maxHeartbeats 8000000 in
set_option maxRecDepth 100000 in
theorem rbegins_any (h : RAt bs W rb R) (hbs : ∀ k, W.heap.size ≤ k → bs k) (c : Cmd) (hl : R.pends.length ≤ 100000000) : Calls Tryz.prog 113 #[.pointer (some ⟨rb, 0, none⟩), encCmd c] W fun e w' => e = .returned (.bool (rbeginsB R c)) ∧ RAt bs w' rb (rbegunT R c) ∧ Turn bs W w' := by
  have HC := Lib.hid (fun W' (hg : W.grownBy W' none) => rcall_at (h.grown hg) c.client)
  have HE := Lib.hid (fun W' (hg : W.grownBy W' none) k hk => rends_any (h.grown hg) (fun k hk => hbs k (Nat.le_trans hg.size hk)) k hk hl)
  have HA := Lib.hid h
  obtain ⟨vL, vC, vV, vP, vH, hm, hrest⟩ := h
  have HM := Lib.hid hm
  have hB : rbeginsB R c = decide ((rcallV R c.client).req < c.req) := rfl
  have ht : rbeginsB R c = true → rbegunT R c = rbegun R c := fun h => if_pos h
  have hf : rbeginsB R c = false → rbegunT R c = R := fun h => if_neg (by rw [h]; decide)
  obtain ⟨p, cap, rfl, hcap, hlc⟩ := hm.pends.form
  clear hm hrest
  generalize rbegunT R c = R' at *
  generalize rbeginsB R c = B at *
  generalize rcallV R c.client = v at *
  obtain ⟨vr, vv, vd, vc⟩ := v
  simp only [encRCall] at HC
  simp only [encCmd]
  simp only at hB
  by_cases hlt0 : vr < c.req
  · have hd : decide (vr < c.req) = true := by simpa using hlt0
    rw [hd] at hB
    subst hB
    have HT : Hid (R' = rbegun R c) := (show R' = rbegun R c from ht rfl)
    have hnle : ¬ c.req ≤ vr := by omega
    clear ht hf hd
    go_enter Tryz.func113, Tryz.ntmps113
    go_wp2_with (go_at_call 146; refine (HC.out _ (World.grownBy_alloc _ _ none)).mono ?_; rintro e w1 ⟨rfl, hg⟩; obtain ⟨d0, d1, d2, d3, d4, d5, d6, d7⟩ := cells8' hg; have hwl : W.heap.size < w1.heap.size := (by have := hg.size; simp at this; omega); have HG := Lib.hid (grown_trans (World.grownBy_alloc W _ none) hg); clear hg)
    have HG3 : Hid (W.grownBy (w1.alloc (.cells #[.int .i64 c.client, .int .i64 vr, .int .i64 vv, .bool vd, .int .i64 vc] 193)) none) := (show W.grownBy (w1.alloc (.cells #[.int .i64 c.client, .int .i64 vr, .int .i64 vv, .bool vd, .int .i64 vc] 193)) none from grown_alloc HG.out _)
    have D2 : Hid ((w1.alloc (.cells #[.int .i64 c.client, .int .i64 vr, .int .i64 vv, .bool vd, .int .i64 vc] 193)).cell? ⟨W.heap.size, 2, none⟩ = some (.int .i64 c.client)) := (show (w1.alloc (.cells #[.int .i64 c.client, .int .i64 vr, .int .i64 vv, .bool vd, .int .i64 vc] 193)).cell? ⟨W.heap.size, 2, none⟩ = some (.int .i64 c.client) from (World.grownBy_alloc w1 _ none).cell d2 (by simp))
    clear d0 d1 d2 d3 d4 d5 d6 d7
    generalize w1.alloc (.cells #[.int .i64 c.client, .int .i64 vr, .int .i64 vv, .bool vd, .int .i64 vc] 193) = W3 at *
    go_loopw [6] (fun x wr => ∃ k : Nat, k ≤ R.pends.length ∧ x = .int .i64 k ∧ NoneB (fun q : ID × Pend => decide (q.2.client = c.client)) R.pends k ∧ W3.grownBy wr none) (fun x _ => R.pends.length - (intOf x).toNat)
    case atStart => exact ⟨0, Nat.zero_le _, rfl, noneB_zero, grown_refl _⟩
    case round =>
      obtain ⟨k, hk, rfl, hno, hg2⟩ := hrel
      have HG4 := Lib.hid (grown_trans HG3.out hg2)
      have hR := HM.out.grown HG4.out
      have c7 := hR.c7
      have d2 := hg2.cell D2.out (by simp)
      have HNO := Lib.hid hno
      clear hno
      by_cases hlt : k < R.pends.length
      · obtain ⟨g, cap', hv', hc, hfz⟩ := (hR.pends.at lenP).resolve_left (fun e => by rw [e] at hlt; simp at hlt)
        injection hv' with hv1 hv2 hv3
        subst hv1 hv3
        have e2 : wr.cell? ⟨g, k * 4 + 2, none⟩ = some (.int .i64 R.pends[k].2.client) := hc k hlt 2 _ rfl
        clear hR hv2 hc hfz
        by_cases hi : R.pends[k].2.client = c.client
        · have hd : (R.pends[k].2.client == c.client) = true := by rw [hi]; simp
          have HI := Lib.hid hi
          have HLT := Lib.hid hlt
          clear hi
          go_wp2
          go_quiet (fail)
          go_wp2_with (go_at_call 119; refine (HE.out _ (grown_trans HG4.out (grown_drewN _ _)) k HLT.out).mono ?_; rintro e w2 ⟨rfl, hr, ht⟩; have HQ := Lib.hid (And.intro hr ht); clear hr ht)
          go_ret
          refine ⟨rfl, ?_⟩
          rw [HT.out]
          have he : (rbegun R c) = { R with pends := R.pends.eraseIdx k } := by
            unfold rbegun
            rw [eraseP_at (k := k) HNO.out HLT.out (by simpa using HI.out)]
          rw [he]
          exact ⟨HQ.out.1, turn_then (grown_trans HG4.out (grown_drewN _ _)) HQ.out.2⟩
        · have hd : (R.pends[k].2.client == c.client) = false := by simpa using hi
          have HI := Lib.hid hi
          clear hi
          go_wp2
          go_quiet (fail)
          go_wp2
          go_roundw
          case rel => exact ⟨k + 1, by omega, by go_num, HNO.out.step hlt (by simpa using HI.out), grown_trans hg2 (grown_drewN _ _)⟩
          case measure => simp [intOf]; omega
      · have hge : R.pends.length ≤ k := by omega
        have HGE := Lib.hid hge
        clear hR hge
        go_wp2
        go_ret
        refine ⟨rfl, ?_⟩
        rw [HT.out]
        have he : (rbegun R c) = R := by
          unfold rbegun
          rw [eraseP_none HNO.out HGE.out]
        rw [he]
        exact ⟨HA.out.grown HG4.out, turn_grown HG4.out⟩
  · have hd : decide (vr < c.req) = false := by simpa using hlt0
    rw [hd] at hB
    subst hB
    have HT : Hid (R' = R) := (show R' = R from hf rfl)
    have hle : c.req ≤ vr := by omega
    clear ht hf hd hlt0
    go_enter Tryz.func113, Tryz.ntmps113
    go_wp2_with (go_at_call 146; refine (HC.out _ (World.grownBy_alloc _ _ none)).mono ?_; rintro e w1 ⟨rfl, hg⟩; obtain ⟨d0, d1, d2, d3, d4, d5, d6, d7⟩ := cells8' hg; have hwl : W.heap.size < w1.heap.size := (by have := hg.size; simp at this; omega); have HG := Lib.hid (grown_trans (World.grownBy_alloc W _ none) hg); clear hg)
    go_ret
    refine ⟨rfl, ?_⟩
    rw [HT.out]
    refine same_end HA.out ?_
    repeat (first | exact HG.out | refine grown_alloc ?_ _ | refine grown_drew ?_)
end
end Go.Proofs.YtjfelfjobeeenaaGreat
namespace Go.Proofs.YtjfelfjobeeenaaGreat
open Go.RowKit Go.Sf Go.Shelf
set_option linter.unusedVariables false
/-- these blocks, but for those that were made between -/
def fence (bs : Nat → Prop) (W W2 : World) (k : Nat) : Prop := bs k ∧ (k < W.heap.size ∨ W2.heap.size ≤ k)
@[go_sem] theorem fieldRV1 (k : ByteArray) (r1 : Int) (r3 : Bool) (w : World) : (Instr.field 202 (.agg #[.string k, .int .i64 r1, .bool r3]) 1).run Tryz.prog w = .ok (.int .i64 r1) w := by kernel_rfl
section
variable {bs : Nat → Prop} {W W2 w : World} {rb : Nat} {R : RTab}
theorem RAt.fence (h : RAt bs W rb R) (hg : W.grownBy W2 none) : RAt (fence bs W W2) W2 rb R :=
  (h.mono fun k hk hb => ⟨hb, Or.inl hk⟩).grown hg
theorem fence_new (hbs : ∀ k, W.heap.size ≤ k → bs k) (hs : W.heap.size ≤ W2.heap.size) (w : World) (hw : W2.heap.size ≤ w.heap.size) : ∀ k, w.heap.size ≤ k → fence bs W W2 k := fun k hk => ⟨hbs k (by omega), Or.inr (by omega)⟩
theorem fence_end (hg : W.grownBy W2 none) (h : RAt (fence bs W W2) w rb R) (ht : Turn (fence bs W W2) W2 w) : RAt bs w rb R ∧ Turn bs W w :=
  ⟨h.mono fun k _ hk => hk.1, turn_then hg (ht.mono fun k hk => hk.1)⟩
theorem fence_at (ht : Turn (fence bs W W2) W2 w) {b : Nat} {o : Obj} (hb : W2.heap[b]? = some o) (h1 : W.heap.size ≤ b) : w.heap[b]? = some o :=
  (ht.block b (Array.getElem?_eq_some_iff.1 hb).1 (fun hf => by
    have := (Array.getElem?_eq_some_iff.1 hb).1
    rcases hf.2 with h | h <;> omega)).trans hb
/-- the call's boxes -/
theorem boxes {a0 a1 a2 a3 a4 a5 a6 a7 x0 x1 : Value} {t t' : TypeId} (h0 : W2.heap[W.heap.size]? = some (.cells #[a0, a1, a2, a3, a4, a5, a6, a7] t (0, 0))) (h1 : W2.heap[W.heap.size + 1]? = some (.cells #[x0, x1] t' (0, 0))) (ht : Turn (Go.Proofs.YtjfelfjobeeenaaGreat.fence bs W W2) W2 w) :
    (w.cell? ⟨W.heap.size, 0, none⟩ = some a0 ∧ w.cell? ⟨W.heap.size, 1, none⟩ = some a1 ∧ w.cell? ⟨W.heap.size, 2, none⟩ = some a2 ∧ w.cell? ⟨W.heap.size, 3, none⟩ = some a3 ∧ w.cell? ⟨W.heap.size, 4, none⟩ = some a4 ∧ w.cell? ⟨W.heap.size, 5, none⟩ = some a5 ∧ w.cell? ⟨W.heap.size, 6, none⟩ = some a6 ∧ w.cell? ⟨W.heap.size, 7, none⟩ = some a7) ∧
    w.cell? ⟨W.heap.size + 1, 0, none⟩ = some x0 ∧ w.cell? ⟨W.heap.size + 1, 1, none⟩ = some x1 ∧ W.heap.size < w.heap.size ∧ W.heap.size + 1 < w.heap.size := by
  have e0 := fence_at ht h0 (Nat.le_refl _)
  have e1 := fence_at ht h1 (Nat.le_succ _)
  exact ⟨⟨(cell_block e0 0).trans rfl, (cell_block e0 1).trans rfl, (cell_block e0 2).trans rfl, (cell_block e0 3).trans rfl, (cell_block e0 4).trans rfl, (cell_block e0 5).trans rfl, (cell_block e0 6).trans rfl, (cell_block e0 7).trans rfl⟩, (cell_block e1 0).trans rfl, (cell_block e1 1).trans rfl, (Array.getElem?_eq_some_iff.1 e0).1, (Array.getElem?_eq_some_iff.1 e1).1⟩
theorem RAt.setOff (h : RAt bs W rb R) (n : Int) : RAt bs (W.setCell ⟨rb, 2, none⟩ (.int .i64 n)) rb { R with offers := n } ∧ Turn bs W (W.setCell ⟨rb, 2, none⟩ (.int .i64 n)) := by
  obtain ⟨vL, vC, vV, vP, vH, h1, h2, h3⟩ := h
  refine ⟨⟨vL, vC, vV, vP, vH, ⟨(heap_set_eq h1.box _).trans rfl, ?_, ?_, ?_, ?_, ?_⟩, h2, h3⟩, ⟨rfl, rfl, rfl, by simp [World.setCell], fun k hk hn => heap_set_ne W _ _ k (fun e => hn (by rw [e]; exact h2))⟩⟩
  · exact h1.lives.same fun g hg => heap_set_ne W _ _ g (fun e => own_ne h1.lives h1.box (by decide) (by rw [hg]; exact congrArg some e))
  · exact h1.calls.same fun g hg => heap_set_ne W _ _ g (fun e => own_ne h1.calls h1.box (by decide) (by rw [hg]; exact congrArg some e))
  · exact h1.vals.same fun g hg => heap_set_ne W _ _ g (fun e => own_ne h1.vals h1.box (by decide) (by rw [hg]; exact congrArg some e))
  · exact h1.pends.same fun g hg => heap_set_ne W _ _ g (fun e => own_ne h1.pends h1.box (by decide) (by rw [hg]; exact congrArg some e))
  · exact h1.holds.same fun g hg => heap_set_ne W _ _ g (fun e => own_ne h1.holds h1.box (by decide) (by rw [hg]; exact congrArg some e))
theorem RAt.setNext (h : RAt bs W rb R) (n : Int) : RAt bs (W.setCell ⟨rb, 3, none⟩ (.int .i64 n)) rb { R with next := n } ∧ Turn bs W (W.setCell ⟨rb, 3, none⟩ (.int .i64 n)) := by
  obtain ⟨vL, vC, vV, vP, vH, h1, h2, h3⟩ := h
  refine ⟨⟨vL, vC, vV, vP, vH, ⟨(heap_set_eq h1.box _).trans rfl, ?_, ?_, ?_, ?_, ?_⟩, h2, h3⟩, ⟨rfl, rfl, rfl, by simp [World.setCell], fun k hk hn => heap_set_ne W _ _ k (fun e => hn (by rw [e]; exact h2))⟩⟩
  · exact h1.lives.same fun g hg => heap_set_ne W _ _ g (fun e => own_ne h1.lives h1.box (by decide) (by rw [hg]; exact congrArg some e))
  · exact h1.calls.same fun g hg => heap_set_ne W _ _ g (fun e => own_ne h1.calls h1.box (by decide) (by rw [hg]; exact congrArg some e))
  · exact h1.vals.same fun g hg => heap_set_ne W _ _ g (fun e => own_ne h1.vals h1.box (by decide) (by rw [hg]; exact congrArg some e))
  · exact h1.pends.same fun g hg => heap_set_ne W _ _ g (fun e => own_ne h1.pends h1.box (by decide) (by rw [hg]; exact congrArg some e))
  · exact h1.holds.same fun g hg => heap_set_ne W _ _ g (fun e => own_ne h1.holds h1.box (by decide) (by rw [hg]; exact congrArg some e))
theorem RAt.mem (h : RAt bs W rb R) : ∃ vL vC vV vP vH, RMem W rb R vL vC vV vP vH := by
  obtain ⟨vL, vC, vV, vP, vH, h1, _⟩ := h
  exact ⟨vL, vC, vV, vP, vH, h1⟩
theorem RAt.c2 (h : RAt bs W rb R) : W.cell? ⟨rb, 2, none⟩ = some (.int .i64 R.offers) := by obtain ⟨_, _, _, _, _, h1⟩ := h.mem; exact h1.c2
theorem RAt.c3 (h : RAt bs W rb R) : W.cell? ⟨rb, 3, none⟩ = some (.int .i64 R.next) := by obtain ⟨_, _, _, _, _, h1⟩ := h.mem; exact h1.c3
theorem RAt.c0 (h : RAt bs W rb R) : W.cell? ⟨rb, 0, none⟩ = some (.int .i64 R.N) := by obtain ⟨_, _, _, _, _, h1⟩ := h.mem; exact h1.c0
theorem RAt.c1 (h : RAt bs W rb R) : W.cell? ⟨rb, 1, none⟩ = some (.int .i64 R.W) := by obtain ⟨_, _, _, _, _, h1⟩ := h.mem; exact h1.c1
theorem RAt.free (h : RAt bs W rb R) (i : Nat) : W.frozen? ⟨rb, i, none⟩ = false := by obtain ⟨_, _, _, _, _, h1⟩ := h.mem; exact h1.free i
/-- a node's life, where it lies -/
theorem RAt.live (h : RAt bs W rb R) {a : Nat} (ha : a < R.lives.length) : ∃ gL capL, W.cell? ⟨rb, 4, none⟩ = some (.slice (some ⟨gL, 0, none⟩) R.lives.length capL) ∧ W.cell? ⟨gL, a, none⟩ = some (.int .i64 (R.lives.getD a 0)) ∧ W.frozen? ⟨gL, a, none⟩ = false ∧ R.lives.length ≤ capL ∧ capL ≤ 9223372036854775807 := by
  obtain ⟨vL, vC, vV, vP, vH, h1⟩ := h.mem
  obtain ⟨gL, capL, rfl, hc, hf⟩ := (h1.lives.at lenI).resolve_left (fun e => by rw [e] at ha; simp at ha)
  obtain ⟨p2, c2, e2, h3, h4⟩ := h1.lives.form
  injection e2 with _ _ e2
  subst e2
  refine ⟨gL, capL, h1.c4, ?_, hf a, h4, h3⟩
  have := hc a ha 0 _ rfl
  simp only [Nat.mul_one, Nat.add_zero] at this
  rw [this]; simp [List.getD, List.getElem?_eq_getElem ha]
/-- and is another one -/
theorem RAt.setLive (h : RAt bs W rb R) {a : Nat} (ha : a < R.lives.length) : ∃ gL capL, W.cell? ⟨rb, 4, none⟩ = some (.slice (some ⟨gL, 0, none⟩) R.lives.length capL) ∧ W.cell? ⟨gL, a, none⟩ = some (.int .i64 (R.lives.getD a 0)) ∧ W.frozen? ⟨gL, a, none⟩ = false ∧ R.lives.length ≤ capL ∧ capL ≤ 9223372036854775807 ∧ ∀ x : Int, RAt bs (W.setCell ⟨gL, a, none⟩ (.int .i64 x)) rb { R with lives := R.lives.set a x } ∧ Turn bs W (W.setCell ⟨gL, a, none⟩ (.int .i64 x)) := by
  obtain ⟨vL, vC, vV, vP, vH, h1, h2, h3⟩ := h
  obtain ⟨gL, capL, rfl, hc, hf⟩ := (h1.lives.at lenI).resolve_left (fun e => by rw [e] at ha; simp at ha)
  obtain ⟨p2, c2, e2, h4, h5⟩ := h1.lives.form
  injection e2 with _ _ e2
  subst e2
  refine ⟨gL, capL, h1.c4, ?_, hf a, h5, h4, fun x => ?_⟩
  · have := hc a ha 0 _ rfl
    simp only [Nat.mul_one, Nat.add_zero] at this
    rw [this]; simp [List.getD, List.getElem?_eq_getElem ha]
  · obtain ⟨s1, s2⟩ := h1.lives.put lenI x a ha
    simp only [cellsI, List.foldl_cons, List.foldl_nil, Nat.mul_one] at s1 s2
    exact ⟨⟨_, vC, vV, vP, vH, h1.putL s1 s2, h2, h3⟩, turn_some s2 (fun k hk => h3.1 k (by rw [← hk]; rfl))⟩
/-- bounds that the walk asks for -/
structure ROk (R : RTab) : Prop where
  lc : R.calls.length ≤ 10000000
  lv : R.vals.length ≤ 10000000
  lp : R.pends.length ≤ 10000000
  lh : R.holds.length ≤ 10000000
  ll : R.lives.length ≤ 1000000
  nd : ∀ x ∈ R.holds, 0 ≤ x.node ∧ x.node < (R.lives.length : Int)
  nn : R.N = R.lives.length
  o0 : 0 ≤ R.offers
  o1 : R.offers ≤ 4611686018427387904
  x0 : 0 ≤ R.next
  x1 : R.next ≤ 4611686018427387904
  w0 : 0 ≤ R.W
  w1 : R.W ≤ 1000000
/-- the place of the pending one -/
theorem pendI_some (R : RTab) (i : ID) (h : 0 ≤ pendI R i) : ∃ k : Nat, pendI R i = k ∧ ∃ hk : k < R.pends.length, mget R.pends i = some R.pends[k].2 ∧ R.pends[k].1 = i ∧ { R with pends := R.pends.eraseIdx k } = rends R i := by
  unfold pendI firstI at *
  cases e : R.pends.findIdx? fun p => decide (p.1 = i) with
  | none => rw [e] at h; simp at h
  | some k =>
    obtain ⟨hk, hf, hno⟩ := List.findIdx?_eq_some_iff_getElem.1 e
    have hN : NoneB (fun p : ID × Pend => decide (p.1 = i)) R.pends k := fun j hj hjk => by have := hno j hjk; simpa using this
    have hi : R.pends[k].1 = i := by simpa using hf
    refine ⟨k, rfl, hk, mget_hit hN hk hi, hi, ?_⟩
    unfold rends
    rw [eraseP_at (k := k) hN hk hf]
theorem pendI_none (R : RTab) (i : ID) (h : ¬ 0 ≤ pendI R i) : mget R.pends i = none := by
  have := pendI_B R i
  rw [show decide (0 ≤ pendI R i) = false from by simpa using h] at this
  unfold rpendB at this
  cases e : mget R.pends i with
  | none => rfl
  | some _ => rw [e] at this; cases this
/-- a block that is none of these lies as it lay -/
theorem turn_block {F : Nat → Prop} (ht : Turn F W2 w) {b : Nat} {o : Obj} (hb : W2.heap[b]? = some o) (h1 : ¬ F b) : w.heap[b]? = some o :=
  (ht.block b (Array.getElem?_eq_some_iff.1 hb).1 h1).trans hb
theorem rsays_lives (R : RTab) (x : RHold) : (rsays R x).lives = R.lives := rfl
theorem rbegunT_holds (R : RTab) (c : Cmd) : (rbegunT R c).holds = R.holds := by unfold rbegunT rbegun; split <;> rfl
theorem rbegunT_lives (R : RTab) (c : Cmd) : (rbegunT R c).lives = R.lives := by unfold rbegunT rbegun; split <;> rfl
end
end Go.Proofs.YtjfelfjobeeenaaGreat
namespace Go.Proofs.YtjfelfjobeeenaaGreat
open Go.RowKit Go.Sf Go.Shelf Go.Sort Go.Lib
set_option linter.unusedVariables false
def cmpI (a b : Int) : Int := if a < b then -1 else if b < a then 1 else 0
def cmpB (a b : ByteArray) : Int := if Op.bytesLess a.toList b.toList = true then -1 else if a = b then 0 else 1
def ordI (a b : ID) : Int := if cmpB a.key b.key = 0 then cmpI a.ver b.ver else cmpB a.key b.key
set_option maxHeartbeats 1000000 in
theorem cmpI_any (a b : Int) (W : World) : Calls Tryz.prog 126 #[.int .i64 a, .int .i64 b] W fun e w' => e = .returned (.int .i64 (cmpI a b)) ∧ w' = W := by
  by_cases h1 : a < b
  · have hc : cmpI a b = -1 := by unfold cmpI; rw [if_pos h1]
    rw [hc]
    go_enter Tryz.func126, Tryz.ntmps126
    go_wp2
    go_ret
    exact ⟨rfl, rfl⟩
  · by_cases h2 : b < a
    · have hc : cmpI a b = 1 := by unfold cmpI; rw [if_neg h1, if_pos h2]
      rw [hc]
      go_enter Tryz.func126, Tryz.ntmps126
      go_wp2
      go_ret
      exact ⟨rfl, rfl⟩
    · have hc : cmpI a b = 0 := by unfold cmpI; rw [if_neg h1, if_neg h2]
      rw [hc]
      go_enter Tryz.func126, Tryz.ntmps126
      go_wp2
      go_ret
      exact ⟨rfl, rfl⟩
set_option maxHeartbeats 1000000 in
theorem cmpB_any (a b : ByteArray) (W : World) : Calls Tryz.prog 89 #[.string a, .string b] W fun e w' => e = .returned (.int .i64 (cmpB a b)) ∧ w' = W := by
  cases h1 : Op.bytesLess a.toList b.toList with
  | true =>
    have hc : cmpB a b = -1 := by unfold cmpB; rw [if_pos h1]
    rw [hc]
    go_enter Tryz.func89, Tryz.ntmps89
    go_wp2
    go_ret
    exact ⟨rfl, rfl⟩
  | false =>
    cases h2 : (a.toList == b.toList) with
    | true =>
      have e : a = b := by rw [toList_eq_iff] at h2; exact of_decide_eq_true h2
      have hc : cmpB a b = 0 := by unfold cmpB; rw [if_neg (by rw [h1]; decide), if_pos e]
      rw [hc]
      clear e
      go_enter Tryz.func89, Tryz.ntmps89
      go_wp2
      go_ret
      exact ⟨rfl, rfl⟩
    | false =>
      have e : ¬ a = b := by rw [toList_eq_iff] at h2; exact of_decide_eq_false h2
      have hc : cmpB a b = 1 := by unfold cmpB; rw [if_neg (by rw [h1]; decide), if_neg e]
      rw [hc]
      clear e
      go_enter Tryz.func89, Tryz.ntmps89
      go_wp2
      go_ret
      exact ⟨rfl, rfl⟩
set_option maxHeartbeats 1000000 in
theorem or_any (x y : Int) (g : Nat) (W : World) (h0 : W.cell? ⟨g, 0, none⟩ = some (.int .i64 x)) (h1 : W.cell? ⟨g, 1, none⟩ = some (.int .i64 y)) : Calls Tryz.prog 125 #[.slice (some ⟨g, 0, none⟩) 2 2] W fun e w' => e = .returned (.int .i64 (if x = 0 then y else x)) ∧ w' = W := by
  obtain ⟨r, hr⟩ : ∃ r, r = if x = 0 then y else x := ⟨_, rfl⟩
  rw [← hr]
  go_enter Tryz.func125, Tryz.ntmps125
  go_wp2
  go_loopw [5, 8] (fun _ i wr => wr = W ∧ (i = .int .i64 0 ∨ (i = .int .i64 1 ∧ x = 0) ∨ (i = .int .i64 2 ∧ x = 0 ∧ y = 0))) (fun _ i _ => 2 - (intOf i).toNat)
  case atStart => exact ⟨rfl, Or.inl rfl⟩
  case round =>
    obtain ⟨rfl, rfl | ⟨rfl, hx⟩ | ⟨rfl, hx, hy⟩⟩ := hrel
    · by_cases hx : x = 0
      · subst hx
        go_wp2
        go_roundw
        case rel => simp
        case measure => simp [intOf]
      · rw [if_neg hx] at hr
        subst hr
        go_wp2
        go_ret
        exact ⟨rfl, rfl⟩
    · subst hx
      rw [if_pos rfl] at hr
      subst hr
      by_cases hy : r = 0
      · subst hy
        go_wp2
        go_roundw
        case rel => simp
        case measure => simp [intOf]
      · go_wp2
        go_ret
        exact ⟨rfl, rfl⟩
    · subst hx; subst hy
      rw [if_pos rfl] at hr
      subst hr
      go_wp2
      go_ret
      exact ⟨rfl, rfl⟩
set_option maxHeartbeats 2000000 in
set_option maxRecDepth 100000 in
theorem order_any (a b : ID) (W : World) : Calls Tryz.prog 80 #[encID a, encID b] W fun e w' => e = .returned (.int .i64 (ordI a b)) ∧ ∃ q os', w' = grow (W.drewN q) os' := by
  obtain ⟨ak, av⟩ := a
  obtain ⟨bk, bv⟩ := b
  simp only [encID, ordI]
  have HB := fun W => cmpB_any ak bk W
  have HI := fun W => cmpI_any av bv W
  have HO := fun g W => or_any (cmpB ak bk) (cmpI av bv) g W
  generalize cmpB ak bk = x at *
  generalize cmpI av bv = y at *
  generalize (if x = 0 then y else x) = r at *
  go_enter Tryz.func80, Tryz.ntmps80
  go_wp2
  have c0 : ((W.alloc (.cells #[.string ak, .int .i64 av] 54)).alloc (.cells #[.string bk, .int .i64 bv] 54)).cell? ⟨W.heap.size, 0, none⟩ = some (.string ak) := by simp [go_sem]
  have c1 : ((W.alloc (.cells #[.string ak, .int .i64 av] 54)).alloc (.cells #[.string bk, .int .i64 bv] 54)).cell? ⟨W.heap.size, 1, none⟩ = some (.int .i64 av) := by simp [go_sem]
  have c2 : ((W.alloc (.cells #[.string ak, .int .i64 av] 54)).alloc (.cells #[.string bk, .int .i64 bv] 54)).cell? ⟨W.heap.size + 1, 0, none⟩ = some (.string bk) := by simp [go_sem]
  have c3 : ((W.alloc (.cells #[.string ak, .int .i64 av] 54)).alloc (.cells #[.string bk, .int .i64 bv] 54)).cell? ⟨W.heap.size + 1, 1, none⟩ = some (.int .i64 bv) := by simp [go_sem]
  have hg : (W.alloc (.cells #[.string ak, .int .i64 av] 54)).alloc (.cells #[.string bk, .int .i64 bv] 54) = grow (W.drewN 0) #[.cells #[.string ak, .int .i64 av] 54, .cells #[.string bk, .int .i64 bv] 54] := by rw [alloc_eq_grow, alloc_eq_grow, grow_grow]; rfl
  generalize (W.alloc (.cells #[.string ak, .int .i64 av] 54)).alloc (.cells #[.string bk, .int .i64 bv] 54) = W2 at *
  have HG := Lib.hid hg
  clear hg
  go_region_held3 (fun w' => w'.cell? ⟨W.heap.size, 0, none⟩ = some (.string ak) ∧ w'.cell? ⟨W.heap.size, 1, none⟩ = some (.int .i64 av) ∧ w'.cell? ⟨W.heap.size + 1, 0, none⟩ = some (.string bk) ∧ w'.cell? ⟨W.heap.size + 1, 1, none⟩ = some (.int .i64 bv)) (go_keep)
    (first
    | (go_at_call 89; refine (HB _).mono ?_; rintro e w3 ⟨rfl, rfl⟩)
    | (go_at_call 126; refine (HI _).mono ?_; rintro e w3 ⟨rfl, rfl⟩)
    | (go_at_call 125; refine (HO _ _ (by simp [go_sem]) (by simp [go_sem])).mono ?_; rintro e w3 ⟨rfl, rfl⟩))
  all_goals
    go_wp2
    go_ret
    exact ⟨rfl, 1, _, by rw [HG.out, alloc_eq_grow, grow_grow]; rfl⟩
end Go.Proofs.YtjfelfjobeeenaaGreat
