/- TableRises: its states. Conditions: none. -/
import Derived.Test.YtjfelfjobeeenaaGreatLarge
namespace Go.Proofs.YtjfelfjobeeenaaGreat
open Go.RowKit Go.Sf Go.Shelf
set_option linter.unusedVariables false
/-- the state ahead of a command -/
structure Top (w : World) (n k tb : Nat) (L : Tab) (lost : Value) (lostL : List ID) (j : Nat) (W : World) : Prop where
  st : RSt w (fun b => lost.ownBlock = some b) tb L W
  inv : Inv n k L
  cl : Clean L
  of : L.offers ≤ j
  nx : L.next ≤ j + 1
  row : IdRow w.heap.size W lost lostL
  gone : ∀ x ∈ lostL, x.ver < L.next ∧ wantedB L x = false
  len : lostL.length ≤ 100 * j
theorem alloc_kept {X W : World} {c : Array Value} {t : TypeId} (h : (X.alloc (.cells c t)).grownBy W none) : W.heap[X.heap.size]? = some (.cells c t (0, 0)) :=
  (h.block X.heap.size (by simp) (by simp)).trans (World.alloc_heap_new X _)
theorem alloc_kept' {X W : World} {c : Array Value} {t : TypeId} (h : (X.alloc (.cells c t)).drew.grownBy W none) : W.heap[X.heap.size]? = some (.cells c t (0, 0)) :=
  (h.block X.heap.size (by show X.heap.size < (X.alloc (.cells c t)).heap.size; simp) (by simp)).trans (World.alloc_heap_new X _)
theorem alloc_ne' {V X W : World} {o : Obj} {s : Nat} (h : (X.alloc o).drew.grownBy W none) (hx : V.grownBy X none) (hs : V.heap.size = s + 1) : s ≠ X.heap.size ∧ X.heap.size ≠ s ∧ V.heap.size ≤ X.heap.size := by
  have := hx.size
  omega
theorem alloc_ne {V X W : World} {o : Obj} {s : Nat} (h : (X.alloc o).grownBy W none) (hx : V.grownBy X none) (hs : V.heap.size = s + 1) : s ≠ X.heap.size ∧ X.heap.size ≠ s ∧ V.heap.size ≤ X.heap.size := by
  have := hx.size
  omega
theorem kept_block {A B : World} {g : Nat} {o : Obj} (h : A.heap[g]? = some o) (hg : A.grownBy B none) : B.heap[g]? = some o :=
  (hg.block g (Array.getElem?_eq_some_iff.1 h).1 (by simp)).trans h
theorem four {W : World} {g : Nat} {a b c d : Value} {t : TypeId} (h : W.heap[g]? = some (.cells #[a, b, c, d] t (0, 0))) :
    W.cell? ⟨g, 0, none⟩ = some a ∧ W.cell? ⟨g, 1, none⟩ = some b ∧ W.cell? ⟨g, 2, none⟩ = some c ∧ W.cell? ⟨g, 3, none⟩ = some d ∧ W.frozen? ⟨g, 0, none⟩ = false ∧ W.frozen? ⟨g, 1, none⟩ = false ∧ W.frozen? ⟨g, 2, none⟩ = false ∧ W.frozen? ⟨g, 3, none⟩ = false :=
  ⟨(cell_block h 0).trans rfl, (cell_block h 1).trans rfl, (cell_block h 2).trans rfl, (cell_block h 3).trans rfl, free_block h 0, free_block h 1, free_block h 2, free_block h 3⟩
/-- a law's own blocks in a round -/
def ownR (lost : Value) (g1 g2 : Nat) (pv : Value) (b : Nat) : Prop := lost.ownBlock = some b ∨ b = g1 ∨ b = g2 ∨ pv.ownBlock = some b
/-- what they hold -/
structure Bx (w : World) (c : Cmd) (cv : CallT) (lost : Value) (lostL : List ID) (g1 g2 : Nat) (pv : Value) (pl : List ID) (W : World) : Prop where
  c : W.heap[g1]? = some (.cells (cmdCells c).toArray 24 (0, 0))
  call : W.heap[g2]? = some (.cells #[.int .i64 cv.req, .int .i64 cv.ver, .bool cv.done, .int .i64 cv.code] 77 (0, 0))
  pend : IdRow w.heap.size W pv pl
  row : IdRow w.heap.size W lost lostL
  ne : g1 ≠ g2
  ne2 : ∀ g, lost.ownBlock = some g → pv.ownBlock ≠ some g
structure Rd (w : World) (tb : Nat) (L : Tab) (c : Cmd) (cv : CallT) (lost : Value) (lostL : List ID) (g1 g2 : Nat) (pv : Value) (pl : List ID) (W : World) : Prop where
  st : RSt w (ownR lost g1 g2 pv) tb L W
  bx : Bx w c cv lost lostL g1 g2 pv pl W
theorem grown_some {a b : World} (h : a.grownBy b none) (r : Option Nat) : a.grownBy b r := ⟨h.os, h.tape, h.output, h.size, fun k hk _ => h.block k hk (by simp)⟩
theorem set4 {W : World} {g : Nat} {a b c d : Value} {t : TypeId} (h : W.heap[g]? = some (.cells #[a, b, c, d] t (0, 0))) (x0 x1 x2 x3 : Value) :
    ((((W.setCell ⟨g, 0, none⟩ x0).setCell ⟨g, 1, none⟩ x1).setCell ⟨g, 2, none⟩ x2).setCell ⟨g, 3, none⟩ x3).heap[g]? = some (.cells #[x0, x1, x2, x3] t (0, 0)) ∧
    W.grownBy ((((W.setCell ⟨g, 0, none⟩ x0).setCell ⟨g, 1, none⟩ x1).setCell ⟨g, 2, none⟩ x2).setCell ⟨g, 3, none⟩ x3) (some g) := by
  constructor
  · simp [World.setCell, Array.getElem?_modify, h]
  · have e : ∀ (W : World) (o : Nat) (x : Value), W.grownBy (W.setCell ⟨g, o, none⟩ x) (some g) := fun W o x =>
      ⟨rfl, rfl, rfl, by simp [World.setCell], fun k _ hk => Below.heap_setCell _ _ _ k (fun e => hk (by rw [e]))⟩
    have tr : ∀ {A B C : World}, A.grownBy B (some g) → B.grownBy C (some g) → A.grownBy C (some g) := fun h1 h2 =>
      ⟨h2.os.trans h1.os, h2.tape.trans h1.tape, h2.output.trans h1.output, Nat.le_trans h1.size h2.size, fun k hk hn => (h2.block k (Nat.lt_of_lt_of_le hk h1.size) hn).trans (h1.block k hk hn)⟩
    exact tr (tr (tr (e _ _ _) (e _ _ _)) (e _ _ _)) (e _ _ _)
theorem mk_rd {w : World} {n k tb : Nat} {L : Tab} {lost : Value} {lostL : List ID} {j : Nat} {wr W1 w3 w4 : World} {own : Nat → Prop} {c : Cmd} {cv : CallT} {pv : Value} {pl : List ID} {g2 : Nat}
    (htop : Top w n k tb L lost lostL j wr) (h1 : wr.grownBy W1 none ∧ W1.heap[wr.heap.size]? = some (.cells (cmdCells c).toArray 24 (0, 0)) ∧ W1.heap.size = wr.heap.size + 1) (hG : W1.grownBy w3 none) (hS : RSt w own tb L w3)
    (hP : IdRow w.heap.size w3 pv pl) (hpg : ∀ g, pv.ownBlock = some g → W1.heap.size ≤ g) (hk : W1.heap.size ≤ g2) (hz : w3.heap.size ≤ g2 ∨ ∃ cc, w3.heap[g2]? = some (.cells cc 77 (0, 0))) (hg4 : w3.grownBy w4 (some g2))
    (h2 : w4.heap[g2]? = some (.cells #[.int .i64 cv.req, .int .i64 cv.ver, .bool cv.done, .int .i64 cv.code] 77 (0, 0))) : Rd w tb L c cv lost lostL wr.heap.size g2 pv pl w4 := by
  obtain ⟨ha, hb, hc⟩ := h1
  have hlt := hG.size
  have hne : g2 ≠ wr.heap.size := by omega
  have hx3 : ∀ {g : Nat} {cc : Array Value} {t : TypeId}, w3.heap[g]? = some (.cells cc t (0, 0)) → t ≠ 77 → g ≠ g2 := by
    intro g cc t hg ht e
    subst e
    rcases hz with hz | ⟨c2, hz⟩
    · have := (Array.getElem?_eq_some_iff.1 hg).1; omega
    · rw [hg] at hz; cases hz; exact ht rfl
  have hc3 : w3.heap[wr.heap.size]? = some (.cells (cmdCells c).toArray 24 (0, 0)) := kept_block hb hG
  have hc4 : w4.heap[wr.heap.size]? = some (.cells (cmdCells c).toArray 24 (0, 0)) := (hg4.block _ (by omega) (fun e => hne (by cases e; rfl))).trans hc3
  have hrow3 : IdRow w.heap.size w3 lost lostL := own_same htop.row (fun g hg => by
    obtain ⟨cc, hcc⟩ := own_type htop.row hg
    exact (hG.block g (by have := (Array.getElem?_eq_some_iff.1 hcc).1; omega) (by simp)).trans (ha.block g (Array.getElem?_eq_some_iff.1 hcc).1 (by simp)))
  have up : ∀ {v : Value} {l : List ID}, IdRow w.heap.size w3 v l → IdRow w.heap.size w4 v l := fun hr => own_same hr (fun g hg => by
    obtain ⟨cc, hcc⟩ := own_type hr hg
    exact hg4.block g (Array.getElem?_eq_some_iff.1 hcc).1 (fun e => hx3 hcc (by decide) (by cases e; rfl)))
  have hp4 := up hP
  have hr4 := up hrow3
  have hst4 : RSt w (fun _ => False) tb L w4 := by
    have hws := htop.st.base.size
    refine ⟨?_, grown_own hS.base hg4 (fun b e => by cases e; omega), fun _ h => h.elim⟩
    obtain ⟨T, t1, t2, t3⟩ := hS.tab.ex
    refine ⟨T, t1.same (fun b hb => hg4.block b (t1.lt b hb) (fun e => ?_)), t2, fun b hb => ⟨(t3 b hb).1, fun h => h.elim⟩⟩
    have hbl := t1.lt b hb
    have e : b = g2 := by cases e; rfl
    subst e
    rcases hz with hz | ⟨c2, hz⟩
    · omega
    · exact not_table t1 hz (by decide) (by decide) hb
  refine ⟨hst4.take (fun g hg => Or.inr ?_), ⟨hc4, h2, hp4, hr4, fun e => hne e.symm, fun g hg hp => by
    obtain ⟨cc, hcc⟩ := own_type htop.row hg
    have := (Array.getElem?_eq_some_iff.1 hcc).1
    have := hpg g hp
    omega⟩⟩
  rcases hg with hg | rfl | rfl | hg
  · obtain ⟨cc, hcc⟩ := own_type hr4 hg; exact ⟨_, _, _, hcc, by decide, by decide⟩
  · exact ⟨_, _, _, hc4, by decide, by decide⟩
  · exact ⟨_, _, _, h2, by decide, by decide⟩
  · obtain ⟨cc, hcc⟩ := own_type hp4 hg; exact ⟨_, _, _, hcc, by decide, by decide⟩
theorem Bx.same {w : World} {c : Cmd} {cv : CallT} {lost : Value} {lostL : List ID} {g1 g2 : Nat} {pv : Value} {pl : List ID} {W W' : World} (h : Bx w c cv lost lostL g1 g2 pv pl W) (hs : ∀ b, ownR lost g1 g2 pv b → W'.heap[b]? = W.heap[b]?) : Bx w c cv lost lostL g1 g2 pv pl W' :=
  ⟨(hs _ (Or.inr (Or.inl rfl))).trans h.c, (hs _ (Or.inr (Or.inr (Or.inl rfl)))).trans h.call, own_same h.pend (fun g hg => hs g (Or.inr (Or.inr (Or.inr hg)))), own_same h.row (fun g hg => hs g (Or.inl hg)), h.ne, h.ne2⟩
theorem Rd.grown {w : World} {tb : Nat} {L : Tab} {c : Cmd} {cv : CallT} {lost : Value} {lostL : List ID} {g1 g2 : Nat} {pv : Value} {pl : List ID} {W W' : World} (h : Rd w tb L c cv lost lostL g1 g2 pv pl W) (hg : W.grownBy W' none) : Rd w tb L c cv lost lostL g1 g2 pv pl W' :=
  ⟨h.st.grown hg, h.bx.same (h.st.kept hg)⟩
/-- the lives of the first nodes -/
def lvRow (L : Tab) (a : Nat) : List Value := (List.range a).map fun (i : Nat) => Value.int .i64 (lifeV L i)
theorem lvRow_len (L : Tab) (a : Nat) : (lvRow L a).length = a := by simp [lvRow]
theorem lvRow_succ (L : Tab) (a : Nat) : lvRow L (a + 1) = lvRow L a ++ [.int .i64 (lifeV L a)] := by simp [lvRow, List.range_succ]
/-- behind the lives' loop, and behind the command -/
structure Re (w : World) (n tb : Nat) (L0 L : Tab) (c : Cmd) (cv : CallT) (lost : Value) (lostL : List ID) (g1 g2 : Nat) (pv : Value) (pl : List ID) (lv : Value) (W : World) : Prop where
  st : RSt w (fun b => ownR lost g1 g2 pv b ∨ lv.ownBlock = some b) tb L W
  bx : Bx w c cv lost lostL g1 g2 pv pl W
  lv : W.ownsRow w.heap.size 2 1 lv n (lvRow L0 n)
section
variable {w : World} {n tb : Nat} {L0 L L' : Tab} {c : Cmd} {cv : CallT} {lost : Value} {lostL : List ID} {g1 g2 : Nat} {pv : Value} {pl : List ID} {lv : Value} {W W' : World}
theorem mk_re (h : Rd w tb L c cv lost lostL g1 g2 pv pl W) (hg : W.grownBy W' none) (hr : W'.ownsRow W.heap.size 2 1 lv n (lvRow L n)) : Re w n tb L L c cv lost lostL g1 g2 pv pl lv W' := by
  refine ⟨?_, (h.grown hg).bx, ⟨hr.1, hr.2.imp id fun ⟨g, cap, cur, a, b, r⟩ => ⟨g, cap, cur, a, Nat.le_trans h.st.base.size b, r⟩⟩⟩
  rcases hr.2 with ⟨rfl, _⟩ | ⟨g, cap, cur, rfl, hb, hcc, _⟩
  · exact (h.st.grown hg).less (fun b hb => by
      rcases hb with hb | hb
      · exact hb
      · simp [Value.ownBlock] at hb)
  · exact (h.st.fresh hg g hb (Array.getElem?_eq_some_iff.1 hcc).1).less (fun b hb => by
      rcases hb with hb | hb
      · exact Or.inl hb
      · simp [Value.ownBlock] at hb; exact Or.inr hb.symm)
theorem Re.grown (h : Re w n tb L0 L c cv lost lostL g1 g2 pv pl lv W) (hg : W.grownBy W' none) : Re w n tb L0 L c cv lost lostL g1 g2 pv pl lv W' :=
  ⟨h.st.grown hg, h.bx.same (fun b hb => h.st.kept hg b (Or.inl hb)), own_same h.lv (fun g hg2 => h.st.kept hg g (Or.inr hg2))⟩
theorem Re.step (h : Re w n tb L0 L c cv lost lostL g1 g2 pv pl lv W) (hst : RSt w (fun b => ownR lost g1 g2 pv b ∨ lv.ownBlock = some b) tb L' W') (hs : Same (fun b => ownR lost g1 g2 pv b ∨ lv.ownBlock = some b) W W') : Re w n tb L0 L' c cv lost lostL g1 g2 pv pl lv W' :=
  ⟨hst, h.bx.same (fun b hb => hs b (Or.inl hb)), own_same h.lv (fun g hg2 => hs g (Or.inr hg2))⟩
end
theorem infoI64 : (Tryz.prog.info? 2).map (fun i => (i.zero, i.size, i.bytes)) = some (some (.int .i64 0), 1, 8) := by kernel_rfl
section
variable {w : World} {own : Nat → Prop} {tb : Nat} {L : Tab} {W V : World}
theorem RSt.look_ro (h : RSt w own tb L W) (k : ByteArray) (v : Int) (hv : Go.Proofs.YtjfelfjobeeenaaGreat.look L k = v) (hg : W.grownBy V none) : Calls Tryz.prog 34 #[.pointer (some ⟨tb, 0, none⟩), .string k] V fun e w' => e = .returned (.int .i64 v) ∧ V.grownBy w' none :=
  ((h.grown hg).look k v hv).mono fun e w' ⟨a, _, b⟩ => ⟨a, b⟩
theorem RSt.wanted_ro (h : RSt w own tb L W) (k : ByteArray) (n : Int) (v : Bool) (hv : wantedB L ⟨k, n⟩ = v) (hg : W.grownBy V none) : Calls Tryz.prog 36 #[.pointer (some ⟨tb, 0, none⟩), .agg #[.string k, .int .i64 n]] V fun e w' => e = .returned (.bool v) ∧ V.grownBy w' none :=
  ((h.grown hg).wanted k n v hv).mono fun e w' ⟨a, _, b⟩ => ⟨a, b⟩
theorem RSt.life_ro (h : RSt w own tb L W) (n v : Int) (hl : L.lives.length ≤ 1000000) (hv : lifeV L n = v) (hg : W.grownBy V none) : Calls Tryz.prog 23 #[.pointer (some ⟨tb, 0, none⟩), .int .i64 n] V fun e w' => e = .returned (.int .i64 v) ∧ V.grownBy w' none :=
  ((h.grown hg).life n v hl hv).mono fun e w' ⟨a, _, b⟩ => ⟨a, b⟩
theorem RSt.offered_ro (h : RSt w own tb L W) (v : Int) (hv : L.offers = v) (hg : W.grownBy V none) : Calls Tryz.prog 35 #[.pointer (some ⟨tb, 0, none⟩)] V fun e w' => e = .returned (.int .i64 v) ∧ V.grownBy w' none :=
  ((h.grown hg).offered v hv).mono fun e w' ⟨a, _, b⟩ => ⟨a, b⟩
end
theorem row_cell {W : World} {base n : Nat} {v : Value} {l : List ID} (h : IdRow base W v l) {g cap : Nat} (hv : v = .slice (some ⟨g, 0, none⟩) n cap) (q : Nat) (hq : q < l.length) (x : ID) (hx : l[q]! = x) :
    W.cell? ⟨g, q * 2, none⟩ = some (.string x.key) ∧ W.cell? ⟨g, q * 2 + 1, none⟩ = some (.int .i64 x.ver) := by
  have hn : n = l.length := by
    rcases h.2 with ⟨e, h0⟩ | ⟨b, c, cur, e, _⟩
    · rw [hv] at e; cases e
    · rw [hv] at e; cases e; rfl
  subst hn
  have h1 := flat_get l (q * 2) (by omega)
  have h2 := flat_get l (q * 2 + 1) (by omega)
  have e1 : q * 2 / 2 = q := by omega
  have e2 : q * 2 % 2 = 0 := by omega
  have e3 : (q * 2 + 1) / 2 = q := by omega
  have e4 : (q * 2 + 1) % 2 = 1 := by omega
  rw [e1, e2, hx] at h1
  rw [e3, e4, hx] at h2
  rcases h.2 with ⟨e, h0⟩ | ⟨b, c, cur, e, hb, hcc, r1, r2, r3, r4⟩
  · rw [hv] at e; cases e
  · rw [hv] at e
    cases e
    have key : ∀ (i : Nat) (u : Value), (l.flatMap idCells)[i]? = some u → i < l.length * 2 → W.cell? ⟨g, i, none⟩ = some u := by
      intro i u hu hi
      rw [cell_block hcc i, ← Array.getElem?_toList, ← hu, ← r4, List.getElem?_take_of_lt hi]
    exact ⟨key _ _ h1 (by omega), key _ _ h2 (by omega)⟩
/-- what was pending: what is told of it behind the command -/
inductive Told (k : Nat) (L : Tab) (x : ID) : Prop where
  | pend (h1 : wantedB L x = true) (h2 : look L x.key ≠ x.ver)
  | cur (h1 : look L x.key = x.ver) (h2 : k ≤ (memH L.holds x).length)
  | lost (h1 : wantedB L x = false) (h2 : look L x.key ≠ x.ver)
theorem told {n k : Nat} {L L' : Tab} {c : Cmd} (hI : Inv n k L) (hR : Rise k c L L') {x : ID} (hx : x ∈ L.pending.map (·.1)) : Told k L' x ∧ 1 ≤ x.ver ∧ x.ver < L'.next := by
  obtain ⟨p, hp, rfl⟩ := List.mem_map.1 hx
  have hv := hI.pv p hp
  have hn := hR.nx
  refine ⟨?_, hv.1, by omega⟩
  by_cases h : look L' p.1.key = p.1.ver
  · exact .cur h (hR.pend p hp h)
  · cases hw : wantedB L' p.1 with
    | true => exact .pend hw h
    | false => exact .lost hw h
/-- the loop over what was pending -/
structure Pl (w : World) (tb : Nat) (L : Tab) (pv : Value) (pl : List ID) (lost : Value) (lst : List ID) (b : Nat) (W : World) : Prop where
  st : RSt w (fun _ => False) tb L W
  pend : IdRow w.heap.size W pv pl
  row : IdRow w.heap.size W lost lst
  gone : ∀ x ∈ lst, x.ver < L.next ∧ wantedB L x = false
  len : lst.length ≤ b
  ne : ∀ g, lost.ownBlock = some g → pv.ownBlock ≠ some g
theorem Pl.grown {w : World} {tb : Nat} {L : Tab} {pv : Value} {pl : List ID} {lost : Value} {lst : List ID} {b : Nat} {W W' : World} (h : Pl w tb L pv pl lost lst b W) (hg : W.grownBy W' none) : Pl w tb L pv pl lost lst b W' :=
  ⟨h.st.grown hg, h.pend.kept hg (by cases hv : pv.ownBlock <;> simp), h.row.kept hg (by cases hv : lost.ownBlock <;> simp), h.gone, h.len, h.ne⟩
theorem Pl.more {w : World} {tb : Nat} {L : Tab} {pv : Value} {pl : List ID} {lost lost' : Value} {lst : List ID} {b : Nat} {W W' : World} {x : ID} (h : Pl w tb L pv pl lost lst b W)
    (ho : W'.ownsRow w.heap.size 54 2 lost' (lst.length + 1) (lst.flatMap idCells ++ [.string x.key, .int .i64 x.ver])) (hg : W.grownBy W' lost.ownBlock) (hat : lost'.ownBlock = lost.ownBlock ∨ lost'.ownBlock = some W.heap.size) (hx : x.ver < L.next ∧ wantedB L x = false) : Pl w tb L pv pl lost' (lst ++ [x]) (b + 1) W' := by
  have hlr : ∀ g, lost.ownBlock = some g → ∃ c, W.heap[g]? = some (.cells c 54 (0, 0)) := fun g hg => own_type h.row hg
  refine ⟨?_, own_same h.pend (fun g hg2 => hg.block g (by obtain ⟨c, hc⟩ := own_type h.pend hg2; exact (Array.getElem?_eq_some_iff.1 hc).1) (fun e => h.ne g e.symm hg2)), ?_, ?_, by simp; exact h.len, ?_⟩
  · have h1 : RSt w (fun b => lost.ownBlock = some b) tb L W := h.st.take (fun g hg2 => Or.inr (by obtain ⟨c, hc⟩ := hlr g hg2; exact ⟨_, _, _, hc, by decide, by decide⟩))
    exact (h1.write hg (fun b hb => ⟨hb, row_base h.row b hb⟩)).less (fun _ h => h.elim)
  · unfold IdRow
    simpa [List.flatMap_append, idCells] using ho
  · intro y hy
    rcases List.mem_append.1 hy with hy | hy
    · exact h.gone y hy
    · simp only [List.mem_singleton] at hy; subst hy; exact hx
  · intro g hg2 hp
    rcases hat with e | e
    · rw [e] at hg2; exact h.ne g hg2 hp
    · rw [e] at hg2
      cases hg2
      obtain ⟨c, hc⟩ := own_type h.pend hp
      have := (Array.getElem?_eq_some_iff.1 hc).1
      omega
end Go.Proofs.YtjfelfjobeeenaaGreat
