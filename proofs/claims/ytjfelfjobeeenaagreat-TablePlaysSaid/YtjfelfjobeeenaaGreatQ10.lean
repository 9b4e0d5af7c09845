/- A table without its blocks' numbers, and what the calls do to it. Conditions: a table that lies in memory. What Missing's closure answers: does a node hold an id? Conditions: a table that lies in memory; the closure's boxes. -/
import Derived.Test.YtjfelfjobeeenaaGreatQ9
import Derived.Test.YtjfelfjobeeenaaGreatQ8
namespace Go.Proofs.YtjfelfjobeeenaaGreat
open Go.RowKit Go.Sf Go.Shelf
set_option linter.unusedVariables false
def nsets (m : List (ID × NSet)) : List (ID × NSet) := m.map fun p => (p.1, ⟨0, p.2.mem⟩)
def Tab.norm (T : Tab) : Tab := { T with holds := nsets T.holds, refuses := nsets T.refuses, lb := 0, cb := 0, vb := 0, pb := 0, hb := 0, rb := 0 }
theorem mget_nsets (m : List (ID × NSet)) (i : ID) : mget (nsets m) i = (mget m i).map fun s => ⟨0, s.mem⟩ := by
  unfold nsets
  induction m with
  | nil => rfl
  | cons p r ih =>
    simp only [List.map_cons, mget]
    by_cases e : p.1 = i
    · rw [if_pos e, if_pos e]; rfl
    · rw [if_neg e, if_neg e]; exact ih
theorem memH_nsets (m : List (ID × NSet)) (i : ID) : memH (nsets m) i = memH m i := by
  unfold memH; rw [mget_nsets]; cases mget m i <;> rfl
theorem smod_nsets (m : List (ID × NSet)) (i : ID) (f : List Int → List Int) : nsets (smod m i f) = smod (nsets m) i f := by
  unfold nsets smod
  rw [List.map_map, List.map_map]
  apply List.map_congr_left
  intro p _
  simp only [Function.comp]
  split <;> rfl
theorem sadd_nsets (m : List (ID × NSet)) (i : ID) (n : Int) (nb : Nat) : nsets (sadd m i n nb) = sadd (nsets m) i n 0 := by
  unfold sadd
  rw [mget_nsets]
  cases h : mget m i with
  | none => simp [nsets]
  | some s => simp only [Option.isSome_some, Option.map_some, if_true]; exact smod_nsets m i _
theorem sdelAll_nsets (m : List (ID × NSet)) (n : Int) : nsets (sdelAll m n) = sdelAll (nsets m) n := by
  unfold nsets sdelAll
  rw [List.map_map, List.map_map]
  rfl
theorem norm_ext {T T' : Tab} (a : T.w = T'.w) (b : T.offers = T'.offers) (c : T.next = T'.next) (d : T.lives = T'.lives) (e : T.calls = T'.calls) (f : T.values = T'.values) (g : T.pending = T'.pending) (i : nsets T.holds = T'.holds) (j : nsets T.refuses = T'.refuses)
    (k : T'.lb = 0) (l : T'.cb = 0) (m : T'.vb = 0) (n : T'.pb = 0) (o : T'.hb = 0) (p : T'.rb = 0) : T.norm = T' := by
  obtain ⟨_, _, _, _, _, _, _, _, _, _, _, _, _, _, _⟩ := T'
  simp only at *
  subst a b c d e f g i j k l m n o p
  rfl
theorem norm_held (T : Tab) (i : ID) (n : Int) (nb : Nat) : (heldT T i n nb).norm = heldT T.norm i n 0 := by
  unfold heldT Tab.norm
  simp only [sadd_nsets, smod_nsets]
theorem norm_refused (T : Tab) (i : ID) (n : Int) (nb : Nat) : (refusedT T i n nb).norm = refusedT T.norm i n 0 := by
  unfold refusedT Tab.norm
  simp only [sadd_nsets, smod_nsets]
theorem norm_ackRest (T : Tab) (c : Cmd) : (ackRest T c).norm = ackRest T.norm c := by
  unfold ackRest
  show _ = (match mget T.pending ⟨c.key, c.ver⟩ with | none => T.norm | some p => if ((memH (nsets T.holds) ⟨c.key, c.ver⟩).length : Int) < T.w then T.norm else if (lookV T c.key).ver < c.ver then { doneT T.norm ⟨c.key, c.ver⟩ p 0 with values := mput T.values c.key ⟨c.ver, false⟩ } else doneT T.norm ⟨c.key, c.ver⟩ p 0)
  cases mget T.pending ⟨c.key, c.ver⟩ with
  | none => rfl
  | some p =>
    simp only [memH_nsets]
    split
    · rfl
    · split <;> rfl
theorem norm_ack (T : Tab) (c : Cmd) (nb : Nat) : (ackT T c nb).norm = ackT T.norm c 0 := by
  unfold ackT
  show _ = if ackB T c = true then _ else _
  split
  · rw [norm_ackRest, norm_held]
  · rfl
theorem norm_refRest (T : Tab) (c : Cmd) : (refRest T c).norm = refRest T.norm c := by
  unfold refRest
  show _ = (match mget T.pending ⟨c.key, c.ver⟩ with | none => T.norm | some p => if (T.lives.length : Int) - (memH (nsets T.refuses) ⟨c.key, c.ver⟩).length < T.w then doneT T.norm ⟨c.key, c.ver⟩ p 181 else T.norm)
  cases mget T.pending ⟨c.key, c.ver⟩ with
  | none => rfl
  | some p =>
    simp only [memH_nsets]
    split <;> rfl
theorem norm_ref (T : Tab) (c : Cmd) (nb : Nat) : (refuseT T c nb).norm = refuseT T.norm c 0 := by
  unfold refuseT
  show _ = if refB T c = true then _ else _
  split
  · rw [norm_refRest, norm_refused]
  · rfl
theorem norm_life (T : Tab) (c : Cmd) : (lifeT T c).norm = lifeT T.norm c := by
  unfold lifeT
  show _ = if lifeB T c = true then _ else _
  split
  · unfold lifeStep Tab.norm
    simp [sdelAll_nsets]
  · rfl
theorem norm_op (T : Tab) (c : Cmd) (nb : Nat) : (opT T c nb).norm = opT T.norm c 0 := by
  unfold opT
  repeat' split
  · rfl
  · exact norm_life T c
  · unfold beganT
    show _ = if beginsB T c = true then _ else _
    split <;> rfl
  · exact norm_ack T c nb
  · exact norm_ref T c nb
  · unfold removedT
    show _ = if beginsB T c = true then _ else _
    split <;> rfl
  · unfold rejectedT
    show _ = if beginsB T c = true then _ else _
    split <;> rfl
theorem norm_clean (T : Tab) : (cleanT T).norm = cleanT T.norm := by
  unfold cleanT Tab.norm nsets
  simp only [List.filter_map]
  rfl
/-- what a command makes of a table -/
def stepT (T : Tab) (c : Cmd) : Tab := doT T c 0
theorem norm_do (T : Tab) (c : Cmd) (nb : Nat) : (doT T c nb).norm = stepT T.norm c := by
  unfold stepT doT
  rw [norm_clean, norm_op]
/-- a table in memory, its blocks among these -/
structure At (bs : Nat → Prop) (w : World) (tb : Nat) (L : Tab) : Prop where
  ex : ∃ T, TRep w tb T ∧ T.norm = L ∧ ∀ b ∈ T.blocks tb, bs b
/-- only these blocks of old ones have turned -/
structure Out (bs : Nat → Prop) (w w' : World) : Prop where
  os : w'.os = w.os
  tape : w'.tape = w.tape
  output : w'.output = w.output
  size : w.heap.size ≤ w'.heap.size
  block : ∀ k, k < w.heap.size → ¬ bs k → w'.heap[k]? = w.heap[k]?
theorem Out.refl (bs : Nat → Prop) (w : World) : Out bs w w := ⟨rfl, rfl, rfl, Nat.le_refl _, fun _ _ _ => rfl⟩
theorem Out.trans {bs : Nat → Prop} {a b c : World} (h : Out bs a b) (g : Out bs b c) : Out bs a c :=
  ⟨g.os.trans h.os, g.tape.trans h.tape, g.output.trans h.output, Nat.le_trans h.size g.size, fun k hk hn => (g.block k (Nat.lt_of_lt_of_le hk h.size) hn).trans (h.block k hk hn)⟩
theorem Out.of_grown {a b : World} (h : a.grownBy b none) (bs : Nat → Prop) : Out bs a b := ⟨h.os, h.tape, h.output, h.size, fun k hk _ => h.block k hk (by simp)⟩
theorem Out.grown {bs : Nat → Prop} {a b c : World} (h : Out bs a b) (g : b.grownBy c none) : Out bs a c := h.trans (Out.of_grown g bs)
theorem Out.to_grown {bs : Nat → Prop} {a b : World} (h : Out bs a b) (hb : ∀ k, k < a.heap.size → ¬ bs k) : a.grownBy b none := ⟨h.os, h.tape, h.output, h.size, fun k hk _ => h.block k hk (hb k hk)⟩
theorem Out.cell {bs : Nat → Prop} {a b : World} (h : Out bs a b) {p : Addr} {v : Value} (hc : a.cell? p = some v) (hn : ¬ bs p.block) : b.cell? p = some v :=
  (World.cell?_of_block (h.block p.block (World.block_lt_of_cell? a p hc) hn)).trans hc
theorem At.grown {bs : Nat → Prop} {w w' : World} {tb : Nat} {L : Tab} (h : At bs w tb L) (hg : w.grownBy w' none) : At bs w' tb L := by
  obtain ⟨T, h1, h2, h3⟩ := h.ex
  exact ⟨T, h1.grown hg, h2, h3⟩
theorem At.lt {bs : Nat → Prop} {w : World} {tb : Nat} {L : Tab} (h : At bs w tb L) : tb < w.heap.size := by
  obtain ⟨T, h1, h2, h3⟩ := h.ex
  exact h1.tlt
section
variable {bs : Nat → Prop} {w : World} {tb : Nat} {L : Tab}
theorem new_at (nodes wi : Int) (N : Nat) (hN : (N : Int) = clampN nodes) (w : World) (hbs : ∀ k, w.heap.size ≤ k → bs k) :
    Calls Tryz.prog 30 #[.int .i64 nodes, .int .i64 wi] w fun e w' => ∃ tb, e = .returned (.pointer (some ⟨tb, 0, none⟩)) ∧ w.heap.size ≤ tb ∧ At bs w' tb (newT N wi 0).norm ∧ w.grownBy w' none := by
  refine (new_any nodes wi N hN w).mono ?_
  rintro e w' ⟨tb, he, hle, hT, hg⟩
  refine ⟨tb, he, hle, ⟨_, hT, rfl, ?_⟩, hg⟩
  intro b hb
  apply hbs
  simp only [Tab.blocks, newT, List.map_nil, List.append_nil, List.mem_cons, List.not_mem_nil, or_false] at hb
  omega
theorem look_at (h : At bs w tb L) (k : ByteArray) : Calls Tryz.prog 34 #[.pointer (some ⟨tb, 0, none⟩), .string k] w fun e w' => e = .returned (.int .i64 (look L k)) ∧ w.grownBy w' none := by
  obtain ⟨T, h1, rfl, h3⟩ := h.ex
  exact look_any h1 k
theorem wanted_at (h : At bs w tb L) (i : ID) : Calls Tryz.prog 36 #[.pointer (some ⟨tb, 0, none⟩), encID i] w fun e w' => e = .returned (.bool (wantedB L i)) ∧ w.grownBy w' none := by
  obtain ⟨T, h1, rfl, h3⟩ := h.ex
  exact wanted_any h1 i
theorem call_at (h : At bs w tb L) (n : Int) : Calls Tryz.prog 32 #[.pointer (some ⟨tb, 0, none⟩), .int .i64 n] w fun e w' => e = .returned (encCall (callV L n)) ∧ w.grownBy w' none := by
  obtain ⟨T, h1, rfl, h3⟩ := h.ex
  exact call_any h1 n
theorem next_at (h : At bs w tb L) : Calls Tryz.prog 31 #[.pointer (some ⟨tb, 0, none⟩)] w fun e w' => e = .returned (.int .i64 L.next) ∧ w.grownBy w' none := by
  obtain ⟨T, h1, rfl, h3⟩ := h.ex
  have h2 := next_any h1
  exact h2
theorem life_at (h : At bs w tb L) (n : Int) (hl : L.lives.length ≤ 9223372036854775807) : Calls Tryz.prog 23 #[.pointer (some ⟨tb, 0, none⟩), .int .i64 n] w fun e w' => e = .returned (.int .i64 (lifeV L n)) ∧ w.grownBy w' none := by
  obtain ⟨T, h1, rfl, h3⟩ := h.ex
  exact life_any h1 n hl
theorem holdL_norm (T : Tab) (i : ID) : holdL T.norm i = holdL T i := by
  unfold holdL
  show (memH (nsets T.holds) i).mergeSort _ = _
  rw [memH_nsets]
theorem holders_at (h : At bs w tb L) (i : ID) (hf : Fits (memH L.holds i)) :
    Calls Tryz.prog 37 #[.pointer (some ⟨tb, 0, none⟩), encID i] w fun e w' => ∃ v, e = .returned v ∧ Ints w w' v (holdL L i) := by
  obtain ⟨T, h1, rfl, h3⟩ := h.ex
  have hf' : Fits (memH T.holds i) := by
    have : memH T.norm.holds i = memH T.holds i := memH_nsets T.holds i
    rw [this] at hf
    exact hf
  refine (holders_any h1 i hf').mono ?_
  rintro e w' ⟨v, he, hv⟩
  exact ⟨v, he, by rw [holdL_norm]; exact hv⟩
theorem current_at (h : At bs w tb L) (hr : ∀ p ∈ L.values, p.1.size ≤ maxLen) (hl : L.values.length ≤ 1000000) :
    Calls Tryz.prog 42 #[.pointer (some ⟨tb, 0, none⟩)] w fun e w' => ∃ v, e = .returned v ∧ IdRow w.heap.size w' v (curL L) ∧ w.grownBy w' none := by
  obtain ⟨T, h1, rfl, h3⟩ := h.ex
  have h2 := current_any h1 hr hl
  exact h2
theorem do_at (h : At bs w tb L) (c : Cmd) (hkey : (c.key.size : Int) ≤ 9223372036854775807) (ok : L.Ok) (hm : mayB c = true) (hn : c.node < (L.lives.length : Int)) (h1 : 1 ≤ c.kind) (h7 : c.kind ≤ 7) (n0 : 0 ≤ c.node) (hbs : ∀ k, w.heap.size ≤ k → bs k) :
    Calls Tryz.prog 22 #[.pointer (some ⟨tb, 0, none⟩), encCmd c] w fun e w' => e = .returned (.int .i64 0) ∧ At bs w' tb (stepT L c) ∧ Out bs w w' := by
  obtain ⟨T, hT, rfl, h3⟩ := h.ex
  have ok' : T.Ok := ⟨ok.o0, ok.o1, ok.n0, ok.n1, ok.ln, fun i => by
    have := ok.rs i
    rw [show memH T.norm.refuses i = memH T.refuses i from memH_nsets T.refuses i] at this
    exact this⟩
  refine (do_ok hT c hkey ok.ln ok' hm hn h1 h7 n0).mono ?_
  rintro e w' ⟨he, nb, hnb, hT', hC⟩
  refine ⟨he, ⟨_, hT', norm_do T c nb, ?_⟩, ⟨hC.1, hC.2.1, hC.2.2.1, hC.2.2.2.1, fun k hk hn => hC.2.2.2.2 k hk (fun hb => hn (h3 k hb))⟩⟩
  intro b hb
  have hsub : b ∈ (opT T c nb).blocks tb := by
    simp only [doT, cleanT, Tab.blocks, List.mem_cons, List.mem_append, List.mem_map, List.mem_filter] at hb ⊢
    rcases hb with h | h | h | h | h | h | h | ⟨x, ⟨hx, _⟩, rfl⟩ | ⟨x, ⟨hx, _⟩, rfl⟩
    · exact Or.inl h
    · exact Or.inr (Or.inl h)
    · exact Or.inr (Or.inr (Or.inl h))
    · exact Or.inr (Or.inr (Or.inr (Or.inl h)))
    · exact Or.inr (Or.inr (Or.inr (Or.inr (Or.inl h))))
    · exact Or.inr (Or.inr (Or.inr (Or.inr (Or.inr (Or.inl h)))))
    · exact Or.inr (Or.inr (Or.inr (Or.inr (Or.inr (Or.inr (Or.inl h))))))
    · exact Or.inr (Or.inr (Or.inr (Or.inr (Or.inr (Or.inr (Or.inr (Or.inl ⟨x, hx, rfl⟩)))))))
    · exact Or.inr (Or.inr (Or.inr (Or.inr (Or.inr (Or.inr (Or.inr (Or.inr ⟨x, hx, rfl⟩)))))))
  rcases (opT_same T c nb).blocks tb b hsub with h | rfl
  · exact h3 b h
  · exact hbs _ hnb
end
end Go.Proofs.YtjfelfjobeeenaaGreat
namespace Go.Proofs.YtjfelfjobeeenaaGreat
open Go.RowKit Go.Sf Go.Shelf
set_option linter.unusedVariables false
def hasB (T : Tab) (n : Int) (i : ID) : Bool := decide (n ∈ memH T.holds i)
def notHas (T : Tab) (n : Int) (i : ID) : Bool := !hasB T n i
theorem mget_unit (l : List Int) (n : Int) : (mget (l.map fun n => (n, ())) n).isSome = decide (n ∈ l) := by
  induction l with
  | nil => simp [mget]
  | cons x r ih =>
    simp only [List.map_cons, mget, List.mem_cons]
    by_cases h : x = n
    · subst h; simp
    · rw [if_neg h]
      have : ¬ n = x := fun e => h e.symm
      rw [ih]; simp [this]
theorem run_hasSet (s : NSet) (n : Int) (W : World) (h : SetT W s) : (Instr.lookup 127 (.map (some s.blk)) (.int .i64 n) true).run Tryz.prog W = .ok (.tuple #[.agg #[], .bool (decide (n ∈ s.mem))]) W := by
  have h1 := MapT.lookup keInt Tryz.underlying127 (zeroUnit W) h n true
  rw [mget_unit] at h1
  refine h1.trans ?_
  cases mget (s.mem.map fun n => (n, ())) n <;> rfl
theorem run_hasNil (n : Int) (W : World) : (Instr.lookup 127 (.map none) (.int .i64 n) true).run Tryz.prog W = .ok (.tuple #[.agg #[], .bool false]) W := by kernel_rfl
section
variable {w : World}
set_option maxRecDepth 100000 in
theorem has_any (s : NSet) (h : SetT w s) (n : Int) : Calls Tryz.prog 104 #[.map (some s.blk), .int .i64 n] w fun e w' => e = .returned (.bool (decide (n ∈ s.mem))) ∧ w.grownBy w' none := by
  have hl := run_hasSet s n w h
  clear h
  generalize decide (n ∈ s.mem) = d at *
  go_enter Tryz.func104, Tryz.ntmps104
  go_wp2
  go_ret
  exact ⟨rfl, World.grownBy_alloc _ _ _⟩
set_option maxRecDepth 100000 in
theorem has_nil (n : Int) : Calls Tryz.prog 104 #[.map none, .int .i64 n] w fun e w' => e = .returned (.bool false) ∧ w.grownBy w' none := by
  have hl := fun W => run_hasNil n W
  go_enter Tryz.func104, Tryz.ntmps104
  go_wp2
  go_ret
  exact ⟨rfl, World.grownBy_alloc _ _ _⟩
variable {tb : Nat} {T : Tab}
set_option maxHeartbeats 4000000 in
set_option maxRecDepth 100000 in
theorem mis1_any (h : TRep w tb T) (i : ID) (n : Int) (b1 b2 : Nat) (h1 : w.cell? ⟨b1, 0, none⟩ = some (.pointer (some ⟨tb, 0, none⟩))) (h2 : w.cell? ⟨b2, 0, none⟩ = some (.int .i64 n)) :
    Calls Tryz.prog 103 #[encID i, .pointer (some ⟨b1, 0, none⟩), .pointer (some ⟨b2, 0, none⟩)] w fun e w' => e = .returned (.bool (hasB T n i)) ∧ w.grownBy w' none := by
  obtain ⟨k, v⟩ := i
  have l1 := cell_lt h1
  have l2 := cell_lt h2
  have htb := h.tlt
  simp only [encID]
  cases hr : mget T.holds ⟨k, v⟩ with
  | none =>
    have hl := run_setsT T.hb T.holds k v none hr
    have HM : Hid (hasB T n ⟨k, v⟩ = false) := (show _ = _ from by unfold hasB memH; rw [hr]; simp)
    have c7 := h.c7
    have hh := h.holds
    simp only [Option.map_none] at hl
    have HN : Hid (∀ W : World, Calls Tryz.prog 104 #[.map none, .int .i64 n] W fun e w' => e = .returned (.bool false) ∧ W.grownBy w' none) := fun W => has_nil n
    clear h
    go_enter Tryz.func103, Tryz.ntmps103
    go_wp2
    refine wp_region_quiet_ext (by kernel_rfl) (by kernel_rfl) ?_
    repeat (any_goals (first | go_big_quiet_step ((go_at_call 104; exact calls_ext (HN.out _))) | quiet_step ((go_at_call 104; exact calls_ext (HN.out _)))))
    refine wpQuiet_nil ?_
    intro _ hw'
    obtain ⟨x, hw''⟩ := hw'
    subst hw''
    go_wp2
    go_ret
    exact ⟨by rw [HM.out]; rfl, by repeat (first | exact grown_refl _ | exact World.grownBy_alloc _ _ _ | refine grown_ext' ?_ _ | refine grown_alloc ?_ _ | refine grown_drew ?_)⟩
  | some s =>
    have hl := run_setsT T.hb T.holds k v (some s) hr
    have HM : Hid (hasB T n ⟨k, v⟩ = decide (n ∈ s.mem)) := (show _ = _ from by unfold hasB memH; rw [hr]; rfl)
    have c7 := h.c7
    have hh := h.holds
    have hs := h.hsets _ (mget_mem hr)
    simp only [Option.map_some] at hl
    have HN : Hid (∀ W : World, w.grownBy W none → Calls Tryz.prog 104 #[.map (some s.blk), .int .i64 n] W fun e w' => e = .returned (.bool (decide (n ∈ s.mem))) ∧ W.grownBy w' none) := fun W hg => has_any s (MapT.kept hs hg (by simp)) n
    clear h hs
    generalize decide (n ∈ s.mem) = d at *
    go_enter Tryz.func103, Tryz.ntmps103
    go_wp2
    refine wp_region_quiet_ext (by kernel_rfl) (by kernel_rfl) ?_
    repeat (any_goals (first | go_big_quiet_step ((go_at_call 104; exact calls_ext (HN.out _ (by repeat (first | exact grown_refl _ | exact World.grownBy_alloc _ _ _ | refine grown_ext' ?_ _ | refine grown_alloc ?_ _ | refine grown_drew ?_))))) | quiet_step ((go_at_call 104; exact calls_ext (HN.out _ (by repeat (first | exact grown_refl _ | exact World.grownBy_alloc _ _ _ | refine grown_ext' ?_ _ | refine grown_alloc ?_ _ | refine grown_drew ?_)))))))
    refine wpQuiet_nil ?_
    intro _ hw'
    obtain ⟨x, hw''⟩ := hw'
    subst hw''
    go_wp2
    go_ret
    exact ⟨by rw [HM.out]; rfl, by repeat (first | exact grown_refl _ | exact World.grownBy_alloc _ _ _ | refine grown_ext' ?_ _ | refine grown_alloc ?_ _ | refine grown_drew ?_)⟩
end
end Go.Proofs.YtjfelfjobeeenaaGreat
