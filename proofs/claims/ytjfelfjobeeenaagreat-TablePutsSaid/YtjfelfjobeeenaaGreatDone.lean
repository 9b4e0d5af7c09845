/- What done does. Conditions: a table that lies in memory. -/
import Derived.Test.YtjfelfjobeeenaaGreatSets
namespace Go.Proofs.YtjfelfjobeeenaaGreat
open Go.RowKit Go.Sf Go.Shelf
set_option linter.unusedVariables false
section
variable {w w1 : World} {tb : Nat} {T : Tab}
def doneCalls (T : Tab) (i : ID) (p : Pend) (code : Int) : List (Int × CallT) :=
  if (callV T p.client).req = p.req ∧ (callV T p.client).ver = i.ver then mput T.calls p.client ⟨(callV T p.client).req, (callV T p.client).ver, true, code⟩ else T.calls
def doneT (T : Tab) (i : ID) (p : Pend) (code : Int) : Tab := { T with calls := doneCalls T i p code, pending := mdel T.pending i }

set_option maxHeartbeats 4000000 in
set_option maxRecDepth 100000 in
theorem done_any (h : TRep w tb T) (i : ID) (p : Pend) (code : Int) :
    Calls Tryz.prog 174 #[.pointer (some ⟨tb, 0, none⟩), encID i, encPend p, .int .i64 code] w fun e w' => e = .returned (.tuple #[]) ∧
      TRep w' tb (doneT T i p code) ∧ Chg w w' (T.blocks tb) := by
  have htb := h.tlt
  have htb1 : tb < w.heap.size + 1 := by omega
  have htb2 : tb < w.heap.size + 1 + 1 := by omega
  have c4 := h.c4
  have c6 := h.c6
  have hc := h.calls
  have hp := h.pending
  have hclt := h.calls.lt
  have hplt := h.pending.lt
  have hcp : T.cb ≠ T.pb := by
    have nd := h.nodup
    simp only [Tab.blocks, List.nodup_cons, List.mem_cons, List.mem_append, List.mem_map, not_or, not_exists, not_and] at nd
    exact nd.2.2.1.2.1
  have HT := Lib.hid h
  clear h
  obtain ⟨k, v⟩ := i
  obtain ⟨pc, pr⟩ := p
  have hrun := fun W hW => TRep.run_calls (T := T) W hW pc
  simp only [encID, encPend]
  have HD : Hid (doneCalls T ⟨k, v⟩ ⟨pc, pr⟩ code = if (callV T pc).req = pr ∧ (callV T pc).ver = v then mput T.calls pc ⟨(callV T pc).req, (callV T pc).ver, true, code⟩ else T.calls) := (show _ = _ from rfl)
  generalize (callV T pc).req = r1 at *
  generalize (callV T pc).ver = r2 at *
  generalize (callV T pc).done = r3 at *
  generalize (callV T pc).code = r4 at *
  by_cases h1 : r1 = pr
  · have d1 : (r1 == pr) = true := by simpa using h1
    by_cases h2 : r2 = v
    · have d2 : (r2 == v) = true := by simpa using h2
      have HD2 : Hid (doneCalls T ⟨k, v⟩ ⟨pc, pr⟩ code = mput T.calls pc ⟨r1, r2, true, code⟩) := (show _ = _ from by rw [HD.out, if_pos ⟨h1, h2⟩])
      clear h1 h2 HD
      go_enter Tryz.func174, Tryz.ntmps174
      go_wp2
      go_region
      go_wp2
      have hg : w.grownBy ((((w.alloc (.cells #[.string k, .int .i64 v] 54)).alloc (.cells #[.int .i64 pc, .int .i64 pr] 130)).alloc (.cells #[.int .i64 r1, .int .i64 r2, .bool true, .int .i64 code] 77)).drew) none := by repeat (first | exact grown_refl _ | exact World.grownBy_alloc _ _ _ | refine grown_alloc ?_ _ | refine grown_drew ?_)
      have x0 : ((((w.alloc (.cells #[.string k, .int .i64 v] 54)).alloc (.cells #[.int .i64 pc, .int .i64 pr] 130)).alloc (.cells #[.int .i64 r1, .int .i64 r2, .bool true, .int .i64 code] 77)).drew).cell? ⟨w.heap.size, 0, none⟩ = some (.string k) := by simp [go_sem]
      have x1 : ((((w.alloc (.cells #[.string k, .int .i64 v] 54)).alloc (.cells #[.int .i64 pc, .int .i64 pr] 130)).alloc (.cells #[.int .i64 r1, .int .i64 r2, .bool true, .int .i64 code] 77)).drew).cell? ⟨w.heap.size, 1, none⟩ = some (.int .i64 v) := by simp [go_sem]
      have y0 : ((((w.alloc (.cells #[.string k, .int .i64 v] 54)).alloc (.cells #[.int .i64 pc, .int .i64 pr] 130)).alloc (.cells #[.int .i64 r1, .int .i64 r2, .bool true, .int .i64 code] 77)).drew).cell? ⟨w.heap.size + 1, 0, none⟩ = some (.int .i64 pc) := by simp [go_sem]
      have z0 : ((((w.alloc (.cells #[.string k, .int .i64 v] 54)).alloc (.cells #[.int .i64 pc, .int .i64 pr] 130)).alloc (.cells #[.int .i64 r1, .int .i64 r2, .bool true, .int .i64 code] 77)).drew).cell? ⟨w.heap.size + 1 + 1, 0, none⟩ = some (.int .i64 r1) := by simp [go_sem]
      have z1 : ((((w.alloc (.cells #[.string k, .int .i64 v] 54)).alloc (.cells #[.int .i64 pc, .int .i64 pr] 130)).alloc (.cells #[.int .i64 r1, .int .i64 r2, .bool true, .int .i64 code] 77)).drew).cell? ⟨w.heap.size + 1 + 1, 1, none⟩ = some (.int .i64 r2) := by simp [go_sem]
      have z2 : ((((w.alloc (.cells #[.string k, .int .i64 v] 54)).alloc (.cells #[.int .i64 pc, .int .i64 pr] 130)).alloc (.cells #[.int .i64 r1, .int .i64 r2, .bool true, .int .i64 code] 77)).drew).cell? ⟨w.heap.size + 1 + 1, 2, none⟩ = some (.bool true) := by simp [go_sem]
      have z3 : ((((w.alloc (.cells #[.string k, .int .i64 v] 54)).alloc (.cells #[.int .i64 pc, .int .i64 pr] 130)).alloc (.cells #[.int .i64 r1, .int .i64 r2, .bool true, .int .i64 code] 77)).drew).cell? ⟨w.heap.size + 1 + 1, 3, none⟩ = some (.int .i64 code) := by simp [go_sem]
      generalize ((((w.alloc (.cells #[.string k, .int .i64 v] 54)).alloc (.cells #[.int .i64 pc, .int .i64 pr] 130)).alloc (.cells #[.int .i64 r1, .int .i64 r2, .bool true, .int .i64 code] 77)).drew) = W3 at *
      have TW := HT.out.grown hg
      have k4 := TW.c4
      have hc2 := TW.calls
      have htb3 := TW.tlt
      have TW' := Lib.hid TW
      clear TW
      go_still_tail 7, (by kernel_rfl)
      go_wp2_with (at_mapUpdate; refine wpList_updateT (ek := Value.int .i64) (ev := encCall) _ rfl _ _ _ 117 rfl keInt Tryz.underlying117 T.cb T.calls rfl ((mapT_drew _).2 hc2) pc ⟨r1, r2, true, code⟩ rfl rfl ?_; intro w3 hm3 hg3 hs3; have u0 : w3.cell? ⟨w.heap.size, 0, none⟩ = some (.string k) := hg3.cell x0 (by simp; omega); have u1 : w3.cell? ⟨w.heap.size, 1, none⟩ = some (.int .i64 v) := hg3.cell x1 (by simp; omega); have TP := (TW'.out.grown (grown_drew (grown_refl _))).upd_calls hm3 hg3; have CH : Chg w w3 (T.blocks tb) := (((Chg.of_grown hg (T.blocks tb)).grown (grown_drew (grown_refl _))).turned hg3 (Or.inl (by simp [Tab.blocks]))); have HCH := Lib.hid CH; have TP0 := Lib.hid TP; clear CH TP hm3 x0 x1 y0 z0 z1 z2 z3)
      have TP := TP0.out
      have hplt2 : T.pb < w3.heap.size := TP.pending.lt
      have k6 := TP.c6
      have hp2 := TP.pending
      have htb4 := TP.tlt
      try simp only at k6 hp2
      have TP' := Lib.hid TP
      clear TP
      go_still_tail 5, (by kernel_rfl)
      go_wp2_with (at_delete; refine wpList_deleteT (ek := encID) (ev := encPend) _ rfl _ _ 119 54 rfl keID Tryz.underlying119 T.pb T.pending rfl ((mapT_drew _).2 hp2) ⟨k, v⟩ rfl ?_; intro w4 hm4 hg4 hs4)
      go_end0
      have T4 := (TP'.out.grown (grown_drew (grown_refl _))).upd_pending hm4 hg4
      refine ⟨rfl, ?_, ?_⟩
      · unfold doneT; rw [HD2.out]; exact T4
      · exact (HCH.out.grown (grown_drew (grown_refl _))).turned hg4 (Or.inl (by simp [Tab.blocks]))
    · have d2 : (r2 == v) = false := by simpa using h2
      have HD2 : Hid (doneCalls T ⟨k, v⟩ ⟨pc, pr⟩ code = T.calls) := (show _ = _ from by rw [HD.out, if_neg (fun e => h2 e.2)])
      clear h1 h2 HD
      go_enter Tryz.func174, Tryz.ntmps174
      go_wp2
      go_region
      go_wp2
      have hg : w.grownBy ((((w.alloc (.cells #[.string k, .int .i64 v] 54)).alloc (.cells #[.int .i64 pc, .int .i64 pr] 130)).alloc (.cells #[.int .i64 r1, .int .i64 r2, .bool r3, .int .i64 r4] 77)).drew) none := by repeat (first | exact grown_refl _ | exact World.grownBy_alloc _ _ _ | refine grown_alloc ?_ _ | refine grown_drew ?_)
      have x0 : ((((w.alloc (.cells #[.string k, .int .i64 v] 54)).alloc (.cells #[.int .i64 pc, .int .i64 pr] 130)).alloc (.cells #[.int .i64 r1, .int .i64 r2, .bool r3, .int .i64 r4] 77)).drew).cell? ⟨w.heap.size, 0, none⟩ = some (.string k) := by simp [go_sem]
      have x1 : ((((w.alloc (.cells #[.string k, .int .i64 v] 54)).alloc (.cells #[.int .i64 pc, .int .i64 pr] 130)).alloc (.cells #[.int .i64 r1, .int .i64 r2, .bool r3, .int .i64 r4] 77)).drew).cell? ⟨w.heap.size, 1, none⟩ = some (.int .i64 v) := by simp [go_sem]
      generalize ((((w.alloc (.cells #[.string k, .int .i64 v] 54)).alloc (.cells #[.int .i64 pc, .int .i64 pr] 130)).alloc (.cells #[.int .i64 r1, .int .i64 r2, .bool r3, .int .i64 r4] 77)).drew) = W3 at *
      have TP := HT.out.grown hg
      have hplt2 : T.pb < W3.heap.size := TP.pending.lt
      have k6 := TP.c6
      have hp2 := TP.pending
      have htb4 := TP.tlt
      try simp only at k6 hp2
      have TP' := Lib.hid TP
      clear TP
      go_still_tail 5, (by kernel_rfl)
      go_wp2_with (at_delete; refine wpList_deleteT (ek := encID) (ev := encPend) _ rfl _ _ 119 54 rfl keID Tryz.underlying119 T.pb T.pending rfl ((mapT_drew _).2 hp2) ⟨k, v⟩ rfl ?_; intro w4 hm4 hg4 hs4)
      go_end0
      have T4 := (TP'.out.grown (grown_drew (grown_refl _))).upd_pending hm4 hg4
      refine ⟨rfl, ?_, ?_⟩
      · unfold doneT; rw [HD2.out]; exact T4
      · exact ((Chg.of_grown hg (T.blocks tb)).grown (grown_drew (grown_refl _))).turned hg4 (Or.inl (by simp [Tab.blocks]))
  · have d1 : (r1 == pr) = false := by simpa using h1
    have HD2 : Hid (doneCalls T ⟨k, v⟩ ⟨pc, pr⟩ code = T.calls) := (show _ = _ from by rw [HD.out, if_neg (fun e => h1 e.1)])
    clear h1 HD
    go_enter Tryz.func174, Tryz.ntmps174
    go_wp2
    go_region
    go_wp2
    have hg : w.grownBy ((((w.alloc (.cells #[.string k, .int .i64 v] 54)).alloc (.cells #[.int .i64 pc, .int .i64 pr] 130)).alloc (.cells #[.int .i64 r1, .int .i64 r2, .bool r3, .int .i64 r4] 77)).drew) none := by repeat (first | exact grown_refl _ | exact World.grownBy_alloc _ _ _ | refine grown_alloc ?_ _ | refine grown_drew ?_)
    have x0 : ((((w.alloc (.cells #[.string k, .int .i64 v] 54)).alloc (.cells #[.int .i64 pc, .int .i64 pr] 130)).alloc (.cells #[.int .i64 r1, .int .i64 r2, .bool r3, .int .i64 r4] 77)).drew).cell? ⟨w.heap.size, 0, none⟩ = some (.string k) := by simp [go_sem]
    have x1 : ((((w.alloc (.cells #[.string k, .int .i64 v] 54)).alloc (.cells #[.int .i64 pc, .int .i64 pr] 130)).alloc (.cells #[.int .i64 r1, .int .i64 r2, .bool r3, .int .i64 r4] 77)).drew).cell? ⟨w.heap.size, 1, none⟩ = some (.int .i64 v) := by simp [go_sem]
    generalize ((((w.alloc (.cells #[.string k, .int .i64 v] 54)).alloc (.cells #[.int .i64 pc, .int .i64 pr] 130)).alloc (.cells #[.int .i64 r1, .int .i64 r2, .bool r3, .int .i64 r4] 77)).drew) = W3 at *
    have TP := HT.out.grown hg
    have hplt2 : T.pb < W3.heap.size := TP.pending.lt
    have k6 := TP.c6
    have hp2 := TP.pending
    have htb4 := TP.tlt
    try simp only at k6 hp2
    have TP' := Lib.hid TP
    clear TP
    go_still_tail 5, (by kernel_rfl)
    go_wp2_with (at_delete; refine wpList_deleteT (ek := encID) (ev := encPend) _ rfl _ _ 119 54 rfl keID Tryz.underlying119 T.pb T.pending rfl ((mapT_drew _).2 hp2) ⟨k, v⟩ rfl ?_; intro w4 hm4 hg4 hs4)
    go_end0
    have T4 := (TP'.out.grown (grown_drew (grown_refl _))).upd_pending hm4 hg4
    refine ⟨rfl, ?_, ?_⟩
    · unfold doneT; rw [HD2.out]; exact T4
    · exact ((Chg.of_grown hg (T.blocks tb)).grown (grown_drew (grown_refl _))).turned hg4 (Or.inl (by simp [Tab.blocks]))
end
end Go.Proofs.YtjfelfjobeeenaaGreat
