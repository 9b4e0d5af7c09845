/- What the table's own writers do: begin, remove, reject, offer. Conditions: a table that lies in memory. -/
import Derived.Test.YtjfelfjobeeenaaGreatOps
namespace Go.Proofs.YtjfelfjobeeenaaGreat
open Go.RowKit Go.Sf Go.Shelf
set_option linter.unusedVariables false
section
variable {w w1 : World} {tb : Nat} {T : Tab}

theorem TRep.upd_next (h : TRep w tb T) (n : Int) : TRep (w.setCell ⟨tb, 2, none⟩ (.int .i64 n)) tb { T with next := n } := by
  have nd := h.nodup
  simp only [Tab.blocks, List.nodup_cons, List.mem_cons, List.mem_append, List.mem_map, not_or, not_exists, not_and] at nd
  have ho : ∀ b, b ≠ tb → (w.setCell ⟨tb, 2, none⟩ (.int .i64 n)).heap[b]? = w.heap[b]? := fun b hb => Below.heap_setCell w _ _ b hb
  exact {
    cells := by
      have := h.cells
      simp only [World.setCell, Array.getElem?_modify, if_true, this]
      simp [Tab.cells]
    lives := (ho T.lb (Ne.symm nd.1.1)).trans h.lives
    calls := h.calls.same (ho T.cb (Ne.symm nd.1.2.1))
    values := h.values.same (ho T.vb (Ne.symm nd.1.2.2.1))
    pending := h.pending.same (ho T.pb (Ne.symm nd.1.2.2.2.1))
    holds := h.holds.same (ho T.hb (Ne.symm nd.1.2.2.2.2.1))
    refuses := h.refuses.same (ho T.rb (Ne.symm nd.1.2.2.2.2.2.1))
    hsets := fun x hx => MapT.same (h.hsets x hx) (ho x.2.blk (nd.1.2.2.2.2.2.2.1 x hx))
    rsets := fun x hx => MapT.same (h.rsets x hx) (ho x.2.blk (nd.1.2.2.2.2.2.2.2 x hx))
    nodup := h.nodup }
theorem TRep.upd_offers (h : TRep w tb T) (n : Int) : TRep (w.setCell ⟨tb, 1, none⟩ (.int .i64 n)) tb { T with offers := n } := by
  have nd := h.nodup
  simp only [Tab.blocks, List.nodup_cons, List.mem_cons, List.mem_append, List.mem_map, not_or, not_exists, not_and] at nd
  have ho : ∀ b, b ≠ tb → (w.setCell ⟨tb, 1, none⟩ (.int .i64 n)).heap[b]? = w.heap[b]? := fun b hb => Below.heap_setCell w _ _ b hb
  exact {
    cells := by
      have := h.cells
      simp only [World.setCell, Array.getElem?_modify, if_true, this]
      simp [Tab.cells]
    lives := (ho T.lb (Ne.symm nd.1.1)).trans h.lives
    calls := h.calls.same (ho T.cb (Ne.symm nd.1.2.1))
    values := h.values.same (ho T.vb (Ne.symm nd.1.2.2.1))
    pending := h.pending.same (ho T.pb (Ne.symm nd.1.2.2.2.1))
    holds := h.holds.same (ho T.hb (Ne.symm nd.1.2.2.2.2.1))
    refuses := h.refuses.same (ho T.rb (Ne.symm nd.1.2.2.2.2.2.1))
    hsets := fun x hx => MapT.same (h.hsets x hx) (ho x.2.blk (nd.1.2.2.2.2.2.2.1 x hx))
    rsets := fun x hx => MapT.same (h.rsets x hx) (ho x.2.blk (nd.1.2.2.2.2.2.2.2 x hx))
    nodup := h.nodup }
theorem Chg.setCell {a b : World} {bs : List Nat} (h : Chg a b bs) (p : Addr) (v : Value) (hr : p.block ∈ bs ∨ a.heap.size ≤ p.block) : Chg a (b.setCell p v) bs :=
  ⟨h.1, h.2.1, h.2.2.1, Nat.le_trans h.2.2.2.1 (by simp [World.setCell]), fun k hk hn => (Below.heap_setCell b p v k (by
    intro e; subst e; rcases hr with hr | hr
    · exact hn hr
    · omega)).trans (h.2.2.2.2 k hk hn)⟩

theorem offer_any (h : TRep w tb T) (c : Cmd) (h0 : 0 ≤ T.offers) (h1 : T.offers < 4611686018427387904) :
    Calls Tryz.prog 129 #[.pointer (some ⟨tb, 0, none⟩), encCmd c] w fun e w' => e = .returned (.tuple #[]) ∧
      TRep w' tb { T with offers := T.offers + 1 } ∧ Chg w w' (T.blocks tb) := by
  have c1 := h.c1
  have f1 := h.free 1
  have htb := h.tlt
  have HT := Lib.hid h
  clear h
  obtain ⟨kind, node, client, inc, req, ver, key, code⟩ := c
  simp only [encCmd]
  generalize hno : T.offers = no at *
  have HN := Lib.hid hno
  clear hno
  go_enter Tryz.func129, Tryz.ntmps129
  go_wp2
  go_end0
  refine ⟨rfl, ?_, ?_⟩
  · exact (HT.out.upd_offers _).grown (World.grownBy_alloc _ _ none)
  · exact ((Chg.refl w (T.blocks tb)).setCell ⟨tb, 1, none⟩ _ (Or.inl (by simp [Tab.blocks]))).grown (World.grownBy_alloc _ _ none)

def beganT (T : Tab) (c : Cmd) : Tab :=
  if beginsB T c = true then { T with pending := mput (dropC T c.client) ⟨c.key, T.next⟩ ⟨c.client, c.req⟩, calls := mput T.calls c.client ⟨c.req, T.next, false, 0⟩, next := T.next + 1 } else T
theorem beganT_t {T : Tab} {c : Cmd} (h : beginsB T c = true) : beganT T c = { T with pending := mput (dropC T c.client) ⟨c.key, T.next⟩ ⟨c.client, c.req⟩, calls := mput T.calls c.client ⟨c.req, T.next, false, 0⟩, next := T.next + 1 } := if_pos h
theorem beganT_f {T : Tab} {c : Cmd} (h : beginsB T c = false) : beganT T c = T := if_neg (by rw [h]; decide)

set_option maxHeartbeats 2000000 in
set_option maxRecDepth 100000 in
theorem begin_any (h : TRep w tb T) (c : Cmd) (h0 : 0 ≤ T.next) (h1 : T.next < 4611686018427387904) :
    Calls Tryz.prog 131 #[.pointer (some ⟨tb, 0, none⟩), encCmd c] w fun e w' => e = .returned (.tuple #[]) ∧
      TRep w' tb (beganT T c) ∧ Chg w w' (T.blocks tb) := by
  have htb := h.tlt
  have HT := Lib.hid h
  clear h
  obtain ⟨kind, node, client, inc, req, ver, key, code⟩ := c
  generalize hW0 : w.alloc (.cells #[.int .u8 kind, .int .i64 node, .int .i64 client, .int .i64 inc, .int .i64 req, .int .i64 ver, .string key, .int .i64 code] 24) = W0
  have hbeg := begins_any (HT.out.grown (World.grownBy_alloc w (.cells #[.int .u8 kind, .int .i64 node, .int .i64 client, .int .i64 inc, .int .i64 req, .int .i64 ver, .string key, .int .i64 code] 24) none)) ⟨kind, node, client, inc, req, ver, key, code⟩
  simp only [encCmd] at hbeg ⊢
  have HBEG := Lib.hid hbeg
  clear hbeg
  clear hW0
  cases hb : beginsB T ⟨kind, node, client, inc, req, ver, key, code⟩
  · have HB := Lib.hid hb
    clear hb
    go_enter Tryz.func131, Tryz.ntmps131
    go_wp2_with (go_at_call 171; refine HBEG.out.mono ?_; rintro e w1 ⟨rfl, hT1, hg1⟩; rw [HB.out])
    refine bodyPost_ret (results_none rfl _ _ _) rfl ?_
    exact ⟨rfl, by rw [beganT_f HB.out]; rw [begunT_f HB.out] at hT1; exact hT1, ((Chg.of_grown (World.grownBy_alloc w _ none) (T.blocks tb)).turned hg1 (Or.inl (by simp [Tab.blocks])))⟩
  · have HB := Lib.hid hb
    clear hb
    go_enter Tryz.func131, Tryz.ntmps131
    go_wp2_with (go_at_call 171; refine HBEG.out.mono ?_; rintro e w1 ⟨rfl, hT1, hg1⟩; rw [HB.out])
    rw [begunT_t HB.out] at hT1
    have htb1 := hT1.tlt
    have k2 := hT1.c2
    have k4 := hT1.c4
    have k6 := hT1.c6
    have hpend := hT1.pending
    have hW : (w.alloc (.cells #[.int .u8 kind, .int .i64 node, .int .i64 client, .int .i64 inc, .int .i64 req, .int .i64 ver, .string key, .int .i64 code] 24)).heap.size = w.heap.size + 1 := by simp
    have hpb : w.heap.size ≠ T.pb := by have := HT.out.pending.lt; omega
    have x2 : w1.cell? ⟨w.heap.size, 2, none⟩ = some (.int .i64 client) := hg1.cell (by simp [go_sem]) (by simpa using hpb)
    have x4 : w1.cell? ⟨w.heap.size, 4, none⟩ = some (.int .i64 req) := hg1.cell (by simp [go_sem]) (by simpa using hpb)
    have x6 : w1.cell? ⟨w.heap.size, 6, none⟩ = some (.string key) := hg1.cell (by simp [go_sem]) (by simpa using hpb)
    have H1 := Lib.hid hT1
    clear hT1 hW
    simp only at k2 k4 k6 hpend
    go_still_tail 16, (by kernel_rfl)
    go_wp2_with (at_mapUpdate; refine wpList_updateT _ rfl _ _ _ 119 rfl keID Tryz.underlying119 T.pb _ rfl ((mapT_drew _).2 hpend) ⟨key, T.next⟩ ⟨client, req⟩ rfl rfl ?_; intro w2 hm2 hg2 hs2)
    have H2 := (H1.out.grown (grown_drew (grown_refl w1))).upd_pending hm2 hg2
    have l2 := H2.c2
    have l4 := H2.c4
    have hcalls := H2.calls
    have y2 : w2.cell? ⟨w.heap.size, 2, none⟩ = some (.int .i64 client) := hg2.cell x2 (by simpa using hpb)
    have y4 : w2.cell? ⟨w.heap.size, 4, none⟩ = some (.int .i64 req) := hg2.cell x4 (by simpa using hpb)
    have htb2 := H2.tlt
    have H2' := Lib.hid H2
    clear H2 hm2 hpend x2 x4 x6 k2 k4 k6
    simp only at l2 l4 hcalls
    go_still_tail 13, (by kernel_rfl)
    go_wp2_with (at_mapUpdate; refine wpList_updateT _ rfl _ _ _ 117 rfl keInt Tryz.underlying117 T.cb _ rfl ((mapT_drew _).2 hcalls) client ⟨req, T.next, false, 0⟩ rfl rfl ?_; intro w3 hm3 hg3 hs3; have H3 := (H2'.out.grown (grown_drew (grown_refl w2))).upd_calls hm3 hg3; have m2 := H3.c2; have fr2 := H3.free 2; simp only at m2; have H3' := Lib.hid H3; clear H3 hm3)
    go_end0
    refine ⟨rfl, ?_, ?_⟩
    · rw [beganT_t HB.out]; exact H3'.out.upd_next _
    · have d1 := (Chg.of_grown (World.grownBy_alloc w _ none) (T.blocks tb)).turned hg1 (Or.inl (by simp [Tab.blocks]))
      have d2 := (d1.grown (grown_drew (grown_refl w1))).turned hg2 (Or.inl (by simp [Tab.blocks]))
      have d3 := (d2.grown (grown_drew (grown_refl w2))).turned hg3 (Or.inl (by simp [Tab.blocks]))
      exact d3.setCell ⟨tb, 2, none⟩ _ (Or.inl (by simp [Tab.blocks]))

def removedT (T : Tab) (c : Cmd) : Tab :=
  if beginsB T c = true then { T with pending := dropC T c.client, values := mput T.values c.key ⟨T.next, true⟩, calls := mput T.calls c.client ⟨c.req, 0, true, 0⟩, next := T.next + 1 } else T
theorem removedT_t {T : Tab} {c : Cmd} (h : beginsB T c = true) : removedT T c = { T with pending := dropC T c.client, values := mput T.values c.key ⟨T.next, true⟩, calls := mput T.calls c.client ⟨c.req, 0, true, 0⟩, next := T.next + 1 } := if_pos h
theorem removedT_f {T : Tab} {c : Cmd} (h : beginsB T c = false) : removedT T c = T := if_neg (by rw [h]; decide)
def rejectedT (T : Tab) (c : Cmd) : Tab :=
  if beginsB T c = true then { T with pending := dropC T c.client, calls := mput T.calls c.client ⟨c.req, 0, true, c.code⟩ } else T
theorem rejectedT_t {T : Tab} {c : Cmd} (h : beginsB T c = true) : rejectedT T c = { T with pending := dropC T c.client, calls := mput T.calls c.client ⟨c.req, 0, true, c.code⟩ } := if_pos h
theorem rejectedT_f {T : Tab} {c : Cmd} (h : beginsB T c = false) : rejectedT T c = T := if_neg (by rw [h]; decide)

set_option maxHeartbeats 2000000 in
set_option maxRecDepth 100000 in
theorem remove_any (h : TRep w tb T) (c : Cmd) (h0 : 0 ≤ T.next) (h1 : T.next < 4611686018427387904) :
    Calls Tryz.prog 134 #[.pointer (some ⟨tb, 0, none⟩), encCmd c] w fun e w' => e = .returned (.tuple #[]) ∧
      TRep w' tb (removedT T c) ∧ Chg w w' (T.blocks tb) := by
  have htb := h.tlt
  have HT := Lib.hid h
  clear h
  obtain ⟨kind, node, client, inc, req, ver, key, code⟩ := c
  generalize hW0 : w.alloc (.cells #[.int .u8 kind, .int .i64 node, .int .i64 client, .int .i64 inc, .int .i64 req, .int .i64 ver, .string key, .int .i64 code] 24) = W0
  have hbeg := begins_any (HT.out.grown (World.grownBy_alloc w (.cells #[.int .u8 kind, .int .i64 node, .int .i64 client, .int .i64 inc, .int .i64 req, .int .i64 ver, .string key, .int .i64 code] 24) none)) ⟨kind, node, client, inc, req, ver, key, code⟩
  simp only [encCmd] at hbeg ⊢
  have HBEG := Lib.hid hbeg
  clear hbeg
  clear hW0
  cases hb : beginsB T ⟨kind, node, client, inc, req, ver, key, code⟩
  · have HB := Lib.hid hb
    clear hb
    go_enter Tryz.func134, Tryz.ntmps134
    go_wp2_with (go_at_call 171; refine HBEG.out.mono ?_; rintro e w1 ⟨rfl, hT1, hg1⟩; rw [HB.out])
    go_end0
    exact ⟨rfl, by rw [removedT_f HB.out]; rw [begunT_f HB.out] at hT1; exact hT1, ((Chg.of_grown (World.grownBy_alloc w _ none) (T.blocks tb)).turned hg1 (Or.inl (by simp [Tab.blocks])))⟩
  · have HB := Lib.hid hb
    clear hb
    go_enter Tryz.func134, Tryz.ntmps134
    go_wp2_with (go_at_call 171; refine HBEG.out.mono ?_; rintro e w1 ⟨rfl, hT1, hg1⟩; rw [HB.out])
    rw [begunT_t HB.out] at hT1
    have htb1 := hT1.tlt
    have k2 := hT1.c2
    have k4 := hT1.c4
    have k6 := hT1.c5
    have hpend := hT1.values
    have hW : (w.alloc (.cells #[.int .u8 kind, .int .i64 node, .int .i64 client, .int .i64 inc, .int .i64 req, .int .i64 ver, .string key, .int .i64 code] 24)).heap.size = w.heap.size + 1 := by simp
    have hpb : w.heap.size ≠ T.pb := by have := HT.out.pending.lt; omega
    have hvb : w.heap.size ≠ T.vb := by have := HT.out.values.lt; omega
    have x2 : w1.cell? ⟨w.heap.size, 2, none⟩ = some (.int .i64 client) := hg1.cell (by simp [go_sem]) (by simpa using hpb)
    have x4 : w1.cell? ⟨w.heap.size, 4, none⟩ = some (.int .i64 req) := hg1.cell (by simp [go_sem]) (by simpa using hpb)
    have x6 : w1.cell? ⟨w.heap.size, 6, none⟩ = some (.string key) := hg1.cell (by simp [go_sem]) (by simpa using hpb)
    have H1 := Lib.hid hT1
    clear hT1 hW
    simp only at k2 k4 k6 hpend
    go_still_tail 11, (by kernel_rfl)
    go_wp2_with (at_mapUpdate; refine wpList_updateT _ rfl _ _ _ 118 rfl keStr Tryz.underlying118 T.vb _ rfl ((mapT_drew _).2 hpend) key ⟨T.next, true⟩ rfl rfl ?_; intro w2 hm2 hg2 hs2)
    have H2 := (H1.out.grown (grown_drew (grown_refl w1))).upd_values hm2 hg2
    have l2 := H2.c2
    have l4 := H2.c4
    have hcalls := H2.calls
    have y2 : w2.cell? ⟨w.heap.size, 2, none⟩ = some (.int .i64 client) := hg2.cell x2 (by simpa using hvb)
    have y4 : w2.cell? ⟨w.heap.size, 4, none⟩ = some (.int .i64 req) := hg2.cell x4 (by simpa using hvb)
    have htb2 := H2.tlt
    have H2' := Lib.hid H2
    clear H2 hm2 hpend x2 x4 x6 k2 k4 k6
    simp only at l2 l4 hcalls
    go_still_tail 9, (by kernel_rfl)
    go_wp2_with (at_mapUpdate; refine wpList_updateT _ rfl _ _ _ 117 rfl keInt Tryz.underlying117 T.cb _ rfl ((mapT_drew _).2 hcalls) client ⟨req, 0, true, 0⟩ rfl rfl ?_; intro w3 hm3 hg3 hs3; have H3 := (H2'.out.grown (grown_drew (grown_refl w2))).upd_calls hm3 hg3; have m2 := H3.c2; have fr2 := H3.free 2; simp only at m2; have H3' := Lib.hid H3; clear H3 hm3)
    go_end0
    refine ⟨rfl, ?_, ?_⟩
    · rw [removedT_t HB.out]; exact H3'.out.upd_next _
    · have d1 := (Chg.of_grown (World.grownBy_alloc w _ none) (T.blocks tb)).turned hg1 (Or.inl (by simp [Tab.blocks]))
      have d2 := (d1.grown (grown_drew (grown_refl w1))).turned hg2 (Or.inl (by simp [Tab.blocks]))
      have d3 := (d2.grown (grown_drew (grown_refl w2))).turned hg3 (Or.inl (by simp [Tab.blocks]))
      exact d3.setCell ⟨tb, 2, none⟩ _ (Or.inl (by simp [Tab.blocks]))

set_option maxHeartbeats 2000000 in
set_option maxRecDepth 100000 in
theorem reject_any (h : TRep w tb T) (c : Cmd) :
    Calls Tryz.prog 135 #[.pointer (some ⟨tb, 0, none⟩), encCmd c] w fun e w' => e = .returned (.tuple #[]) ∧
      TRep w' tb (rejectedT T c) ∧ Chg w w' (T.blocks tb) := by
  have htb := h.tlt
  have HT := Lib.hid h
  clear h
  obtain ⟨kind, node, client, inc, req, ver, key, code⟩ := c
  generalize hW0 : w.alloc (.cells #[.int .u8 kind, .int .i64 node, .int .i64 client, .int .i64 inc, .int .i64 req, .int .i64 ver, .string key, .int .i64 code] 24) = W0
  have hbeg := begins_any (HT.out.grown (World.grownBy_alloc w (.cells #[.int .u8 kind, .int .i64 node, .int .i64 client, .int .i64 inc, .int .i64 req, .int .i64 ver, .string key, .int .i64 code] 24) none)) ⟨kind, node, client, inc, req, ver, key, code⟩
  simp only [encCmd] at hbeg ⊢
  have HBEG := Lib.hid hbeg
  clear hbeg
  clear hW0
  cases hb : beginsB T ⟨kind, node, client, inc, req, ver, key, code⟩
  · have HB := Lib.hid hb
    clear hb
    go_enter Tryz.func135, Tryz.ntmps135
    go_wp2_with (go_at_call 171; refine HBEG.out.mono ?_; rintro e w1 ⟨rfl, hT1, hg1⟩; rw [HB.out])
    go_end0
    exact ⟨rfl, by rw [rejectedT_f HB.out]; rw [begunT_f HB.out] at hT1; exact hT1, ((Chg.of_grown (World.grownBy_alloc w _ none) (T.blocks tb)).turned hg1 (Or.inl (by simp [Tab.blocks])))⟩
  · have HB := Lib.hid hb
    clear hb
    go_enter Tryz.func135, Tryz.ntmps135
    go_wp2_with (go_at_call 171; refine HBEG.out.mono ?_; rintro e w1 ⟨rfl, hT1, hg1⟩; rw [HB.out])
    rw [begunT_t HB.out] at hT1
    have htb1 := hT1.tlt
    have k2 := hT1.c2
    have k4 := hT1.c4
    have k6 := hT1.c6
    have hpend := hT1.pending
    have hW : (w.alloc (.cells #[.int .u8 kind, .int .i64 node, .int .i64 client, .int .i64 inc, .int .i64 req, .int .i64 ver, .string key, .int .i64 code] 24)).heap.size = w.heap.size + 1 := by simp
    have hpb : w.heap.size ≠ T.pb := by have := HT.out.pending.lt; omega
    have x2 : w1.cell? ⟨w.heap.size, 2, none⟩ = some (.int .i64 client) := hg1.cell (by simp [go_sem]) (by simpa using hpb)
    have x4 : w1.cell? ⟨w.heap.size, 4, none⟩ = some (.int .i64 req) := hg1.cell (by simp [go_sem]) (by simpa using hpb)
    have x7 : w1.cell? ⟨w.heap.size, 7, none⟩ = some (.int .i64 code) := hg1.cell (by simp [go_sem]) (by simpa using hpb)
    have x6 : w1.cell? ⟨w.heap.size, 6, none⟩ = some (.string key) := hg1.cell (by simp [go_sem]) (by simpa using hpb)
    have H1 := Lib.hid hT1
    clear hT1 hW
    simp only at k2 k4 k6 hpend
    have hcalls := H1.out.calls
    simp only at hcalls
    go_still_tail 11, (by kernel_rfl)
    go_wp2_with (at_mapUpdate; refine wpList_updateT _ rfl _ _ _ 117 rfl keInt Tryz.underlying117 T.cb _ rfl ((mapT_drew _).2 hcalls) client ⟨req, 0, true, code⟩ rfl rfl ?_; intro w3 hm3 hg3 hs3; have H3 := (H1.out.grown (grown_drew (grown_refl w1))).upd_calls hm3 hg3; have H3' := Lib.hid H3; clear H3 hm3)
    go_end0
    refine ⟨rfl, ?_, ?_⟩
    · rw [rejectedT_t HB.out]; exact H3'.out
    · have d1 := (Chg.of_grown (World.grownBy_alloc w _ none) (T.blocks tb)).turned hg1 (Or.inl (by simp [Tab.blocks]))
      exact (d1.grown (grown_drew (grown_refl w1))).turned hg3 (Or.inl (by simp [Tab.blocks]))

end
end Go.Proofs.YtjfelfjobeeenaaGreat
