/- slices.Collect over the keys of a map whose keys are ids. Conditions: a map that lies in memory, not too many keys. -/
import Derived.Test.YtjfelfjobeeenaaGreatNorm
import Derived.RangeFuncNested
import Derived.RangeFuncLeaves
import Derived.Shelf.Abstract
import Derived.WalkKit
import Derived.OwnWalkIn
import Derived.TacticsInMore
import Derived.RegionIn
import Derived.LoopNIn
import Derived.LoopIn
import Derived.Maps.OwnIn
import Derived.Maps.AppendAt
namespace Go.Sf
open Go.RowKit Go.MapKept
set_option linter.unusedVariables false
section
variable {P : Program} {K V : Type} [DecidableEq K] {ek : K → Value} {ev : V → Value} (w : World) {F : Fence} {nF : Nat} {ops : Array Oper} {rest : List Oper} {o : Oper} {a : Act} {Q : Exit → Act → World → Prop}
omit [DecidableEq K] in
theorem wpListIn_rangeT (hg : o.guard = none) (x : Operand) (t : TypeId) (hop : o.op = Op.range t x) {kt et : TypeId} (ht : P.underlying t = some (.map kt et)) (b : Nat) (m : List (K × V)) (hx : a.eval x = .map (some b)) (h : MapT w b ek ev m)
    (hK : ∀ w', IterT w' w.heap.size b ek ev m (fun _ => false) → w.grownBy w' none → w'.heap.size = w.heap.size + 1 → wpListIn F nF P ops Q rest (a.put o.dst (.pointer (some ⟨w.heap.size, 0, none⟩))) w') : wpListIn F nF P ops Q (o :: rest) a w := by
  refine wpListIn_plain hg fun K' hK' => ?_
  obtain ⟨w', hrun, r1, r2, r3⟩ := h.range ht
  unfold Oper.wpIn
  refine ⟨by simp [Oper.about, hop], ?_⟩
  rw [Oper.semAt_plain F _ _ (by rw [hop]; intro c hc'; cases hc')]
  simp [execOp, hop, hx, hrun, Result.andThen]
  exact hK' _ _ (hK w' r1 r2 r3)
theorem wpListIn_nextT (hg : o.guard = none) (it : Operand) (hop : o.op = Op.next it false) (inj : ∀ a b, ek a = ek b → a = b) (r b : Nat) (m : List (K × V)) (seen : K → Bool) (hit : a.eval it = .pointer (some ⟨r, 0, none⟩)) (h : IterT w r b ek ev m seen)
    (hDone : AllSeen m seen → wpListIn F nF P ops Q rest (a.put o.dst (.tuple #[.bool false])) w)
    (hMore : ∀ k v w', Came P w w' r b ek ev m seen k v → wpListIn F nF P ops Q rest (a.put o.dst (.tuple #[.bool true, ek k, ev v])) w') : wpListIn F nF P ops Q (o :: rest) a w := by
  refine wpListIn_plain hg fun K' hK' => ?_
  unfold Oper.wpIn
  refine ⟨by simp [Oper.about, hop], ?_⟩
  rw [Oper.semAt_plain F _ _ (by rw [hop]; intro c hc'; cases hc')]
  rcases h.next (P := P) inj o.type with ⟨h0, hrun⟩ | ⟨k, v, w', r1, r2, hrun, r3, r4, r5, r6⟩
  · simp [execOp, hop, hit, hrun, Result.andThen]
    exact hK' _ _ (hDone h0)
  · simp [execOp, hop, hit, hrun, Result.andThen]
    exact hK' _ _ (hMore k v w' ⟨r1, r2, r3, r4, r5, r6⟩)
end
section
variable {K V : Type} {ek : K → Value} {ev : V → Value} {w w' : World} {r b : Nat} {m : List (K × V)} {seen : K → Bool}
theorem IterT.walks (h : IterT w r b ek ev m seen) (hk : KeepsWalks w w') : IterT w' r b ek ev m seen := by
  obtain ⟨es, clock, sn, hb, hs, he, hr, h2⟩ := h
  exact ⟨es, clock, sn, hk.same b _ hb rfl, hs, he, hk.same r _ hr rfl, h2⟩
theorem IterT.walk (h : IterT w r b ek ev m seen) : ∃ o : Obj, w.heap[r]? = some o ∧ o.isWalk = true := by
  obtain ⟨es, clock, sn, hb, hs, he, hr, h2⟩ := h
  exact ⟨_, hr, rfl⟩
theorem MapT.below {n : Nat} (h : MapT w b ek ev m) (hb : b < n) (hw : Below n w w') : MapT w' b ek ev m := by
  obtain ⟨es, clock, h1, hs, he⟩ := h
  exact ⟨es, clock, (hw.block b hb).trans h1, hs, he⟩
end
/-- the keys that have come -/
structure KeysAt {K V : Type} (m : List (K × V)) (seen : K → Bool) (ss : List K) : Prop where
  nodup : ss.Nodup
  sub : ∀ x ∈ ss, x ∈ m.map (·.1)
  iff : ∀ x, seen x = true ↔ x ∈ ss
theorem KeysAt.start {K V : Type} (m : List (K × V)) : KeysAt m (fun _ => false) [] := ⟨by simp, by simp, by simp⟩
theorem KeysAt.step {K V : Type} [DecidableEq K] {m : List (K × V)} {seen : K → Bool} {ss : List K} (h : KeysAt m seen ss) {k : K} {v : V} (hm : (k, v) ∈ m) (hn : seen k = false) : KeysAt m (fun x => seen x || decide (x = k)) (ss ++ [k]) := by
  have hk : ¬ k ∈ ss := fun hk => by have := (h.iff k).2 hk; rw [hn] at this; cases this
  refine ⟨List.nodup_append.2 ⟨h.nodup, by simp, fun x hx y hy e => ?_⟩, fun x hx => ?_, fun x => ?_⟩
  · simp only [List.mem_singleton] at hy; subst hy; subst e; exact hk hx
  · rcases List.mem_append.1 hx with hx | hx
    · exact h.sub x hx
    · simp only [List.mem_singleton] at hx; subst hx; exact List.mem_map.2 ⟨_, hm, rfl⟩
  · simp only [Bool.or_eq_true, decide_eq_true_eq, List.mem_append, List.mem_singleton]
    rw [h.iff]
theorem KeysAt.perm {K V : Type} {m : List (K × V)} {seen : K → Bool} {ss : List K} (h : KeysAt m seen ss) (hnd : (m.map (·.1)).Nodup) (ha : AllSeen m seen) : ss.Perm (m.map (·.1)) :=
  (List.perm_ext_iff_of_nodup h.nodup hnd).2 fun x => ⟨h.sub x, fun hx => by
    obtain ⟨p, hp, rfl⟩ := List.mem_map.1 hx
    exact (h.iff p.1).1 (ha p hp)⟩
theorem KeysAt.lt {K V : Type} [DecidableEq K] {m : List (K × V)} {seen : K → Bool} {ss : List K} (h : KeysAt m seen ss) (hnd : (m.map (·.1)).Nodup) {k : K} {v : V} (hm : (k, v) ∈ m) (hn : seen k = false) : ss.length < m.length := by
  have h2 := h.step hm hn
  have h3 : (ss ++ [k]).length ≤ (m.map (·.1)).length := h2.nodup.length_le_of_subset h2.sub
  simp at h3
  omega
end Go.Sf
namespace Go.Proofs.YtjfelfjobeeenaaGreat
open Go.RowKit Go.Sf Go.Shelf Go.Maps
attribute [local go_sem] Oper.semAt_some
set_option maxRecDepth 100000 in
set_option maxHeartbeats 2000000 in
theorem idKeys1 (F : Fence) (n : Nat) (h10 : F.fn 142) (hro : F.round = none) (hn : 1 ≤ n) (l Bm b : Nat) (m : List (ID × Pend)) (J Jx : List ID → World → Prop)
    (hY : ∀ pre x W, J pre W → pre.length < m.length → YieldAt F (n - 1) Tryz.prog l #[encID x] W fun e W' => (e = .returned (.bool true) ∧ J (pre ++ [x]) W' ∧ KeepsWalks W W') ∨ (e = .returned (.bool false) ∧ Jx (pre ++ [x]) W'))
    (W : World) (hJ : AbidesFrom W.heap.size J) (hm : W.cell? ⟨Bm, 0, none⟩ = some (.map (some b))) (hown : MapT W b encID encPend m) (h0 : J [] W) :
    CallsIn F n Tryz.prog 142 #[.func (.yield l) #[] #[], .pointer (some ⟨Bm, 0, none⟩)] W fun e W' => (∃ v, e = .returned v) ∧ ((∃ xs : List ID, xs.Perm (m.map (·.1)) ∧ J xs W') ∨ (∃ pre : List ID, True ∧ Jx pre W')) := by
  have hnd := hown.nodup
  refine callsIn_of_wp Tryz.func142 rfl h10 ?_ hro
  simp only [Tryz.ntmps142, List.size_toArray, List.length_cons, List.length_nil, Nat.reduceAdd, Nat.reduceSub, Array.replicate_succ, Array.replicate_zero, List.push_toArray, List.append_toArray, List.nil_append, List.cons_append]
  gi_wp2_with (gi_at_range; refine wpListIn_rangeT _ rfl _ _ rfl Tryz.underlying119 b m rfl hown ?_; intro w0 hit hg0 hs0)
  go_frame
  gi_loopw [3] (fun _ wr => ∃ (seen : ID → Bool) (ss : List ID), IterT wr W.heap.size b encID encPend m seen ∧ KeysAt m seen ss ∧ J ss wr) (fun _ wr => leftW wr W.heap.size b)
  case atStart => exact ⟨_, [], hit, KeysAt.start m, hJ [] W w0 none h0 hg0 (fun r e => by cases e)⟩
  case round =>
    obtain ⟨seen, ss, hit, hC, hJs⟩ := hrel
    gi_wp2_with (gi_at_next; refine wpListIn_nextT _ rfl _ rfl encID_inj W.heap.size b m seen rfl hit ?_ ?_)
    · intro hall
      gi_wp2
      go_end0
      exact ⟨⟨_, rfl⟩, .inl ⟨ss, hC.perm hnd hall, hJs⟩⟩
    · rintro ⟨kk, kv⟩ v w2 hc
      have hJ2 := hJ ss wr w2 (some W.heap.size) hJs hc.grown (fun r e => by cases e; exact ⟨Nat.le_refl _, hit.walk⟩)
      have hJ3 := hJ ss w2 (w2.alloc (.cells #[.string kk, .int .i64 kv] 54)) none hJ2 (World.grownBy_alloc _ _ _) (fun r e => by cases e)
      have hlt := hC.lt hnd hc.mem hc.new
      obtain ⟨fn, tmps, assign, body, hy, hR⟩ := hY ss ⟨kk, kv⟩ _ hJ3 hlt
      have hen := hc.entry
      simp only [encID] at hy hen ⊢
      have hit2 := hc.iter
      have hleft := hit2.left
      gi_wp2
      refine hR.mono ?_
      rintro e W3 (⟨rfl, hJ4, hk3⟩ | ⟨rfl, hJx3⟩)
      · have hit3 := (IterT.kept hit2 (World.grownBy_alloc w2 (.cells #[.string kk, .int .i64 kv] 54) none) (by simp) (by simp)).walks hk3
        gi_wp2
        go_roundw
        case rel => exact ⟨_, ss ++ [⟨kk, kv⟩], hit3, hC.step hc.mem hc.new, hJ4⟩
        case measure =>
          rw [hit3.left, hit.left]
          exact leftN_step hc.mem hc.new
      · gi_wp2
        refine bodyPost_ret (results_none rfl _ _ _) rfl ?_
        exact ⟨⟨_, rfl⟩, .inr ⟨_, trivial, hJx3⟩⟩
theorem idKeys_stops (F : Fence) (n : Nat) (h10 : F.fn 142) (hro : F.round = none) (hn : 1 ≤ n) (Bm b : Nat) (m : List (ID × Pend)) (w : World) (hBm : Bm < w.heap.size) (hm : w.cell? ⟨Bm, 0, none⟩ = some (.map (some b))) (hown : MapT w b encID encPend m) :
    SeqStopsK F n Tryz.prog 142 #[.pointer (some ⟨Bm, 0, none⟩)] (fun x : ID => #[encID x]) KeepsWalks (fun xs => xs.Perm (m.map (·.1))) (fun _ => True) m.length w := fun l J Jx W hW hJ _ hY h0 =>
  idKeys1 F n h10 hro hn l Bm b m J Jx hY W hJ ((hW.cell (p := ⟨Bm, 0, none⟩) hBm).trans hm) (hown.below hown.lt hW) h0
theorem id_new (w : World) (x : ID) (t : TypeId) : ∀ j u, (idCells x)[j]? = some u → (w.alloc (.cells #[.string x.key, .int .i64 x.ver] t)).cell? ((⟨w.heap.size, 0, none⟩ : Addr).add j) = some u := by
  intro j u hj
  match j, hj with
  | 0, hj => simp [idCells] at hj; subst hj; simp [Addr.add, go_sem]
  | 1, hj => simp [idCells] at hj; subst hj; simp [Addr.add, go_sem]
  | j + 2, hj => simp [idCells] at hj
set_option maxRecDepth 100000 in
set_option maxHeartbeats 2000000 in
theorem idAppend (F : Fence) (n : Nat) (h11 : F.fn 177) (hro : F.round = none) (hn : 2 ≤ n) (g : Nat) (lb : Array Value) (hFg : F.fn g) (eg : ∀ args w, (callFunc g args).run Tryz.prog w = .ok (.enter g args) w)
    (S : List ID → Prop) (N : Nat) (hN : N ≤ 1000000) (w : World) (hseq : SeqStopsK F (n - 1) Tryz.prog g lb (fun x : ID => #[encID x]) KeepsWalks S (fun _ => True) N w) :
    CallsIn F n Tryz.prog 177 #[.slice none 0 0, .func (.func g) #[] lb] w fun e w' => ∃ (v : Value) (ss : List ID), e = .returned v ∧ S ss ∧ w'.ownsRow w.heap.size 54 2 v ss.length (ss.flatMap idCells) ∧ (v = .slice none 0 0 ↔ ss = []) ∧ Below w.heap.size w w' := by
  have h1 : 1 ≤ n := by omega
  obtain ⟨i0, hi, hz0, hz1, hz2⟩ := info_parts infoID
  refine callsIn_of_wp_marks Tryz.func177 rfl h11 ?_ hro
  simp only [Tryz.ntmps177, List.size_toArray, List.length_cons, List.length_nil, Nat.reduceAdd, Nat.reduceSub, Array.replicate_succ, Array.replicate_zero, List.push_toArray, List.append_toArray, List.nil_append, List.cons_append]
  gi_wp2
  have bS := Boxed.new w 66 (.slice none 0 0)
  have hB0 : Below w.heap.size w (w.alloc (.cells #[.slice none 0 0] 66)) := (Below.refl _ w).alloc (Nat.le_refl _) _
  have hsz : (w.alloc (.cells #[.slice none 0 0] 66)).heap.size = w.heap.size + 1 := by simp
  generalize w.alloc (.cells #[.slice none 0 0] 66) = W0 at *
  refine wpIn_rangeFunc_ownH hro h1 (gf := g) (lb := lb) rfl hFg eg hseq walksK_t walksK_b hB0 (fun _ => rfl)
    (fun pre W => (∃ v, Boxed W w.heap.size 66 v ∧ W.ownsRow w.heap.size 54 2 v pre.length (pre.flatMap idCells) ∧ (v = .slice none 0 0 ↔ pre = [])) ∧ Below w.heap.size w W)
    (fun _ _ _ => False)
    (OwnFrom.and (Own.from (holdsRow_own w.heap.size w.heap.size 66 54 2 (fun pre : List ID => pre.length) (fun pre => pre.flatMap idCells) (fun pre v => v = .slice none 0 0 ↔ pre = [])) _) (ownFrom_below (Nat.le_refl _) (by omega)))
    (fun _ _ _ _ _ hs _ _ => hs)
    ⟨⟨_, bS, World.ownsRow_nil _ _ _ _, by simp⟩, hB0⟩
    (fun x a' W => ∃ Bx, w.heap.size < Bx ∧ W.heap[Bx]? = some (.cells #[.string x.key, .int .i64 x.ver] 54 (0, 0)) ∧ a' = { tmps := #[.slice none 0 0, .func (.func g) #[] lb, .pointer (some ⟨w.heap.size, 0, none⟩), undef, .slice none 0 0, .pointer (some ⟨Bx, 0, none⟩), .func (.func g) #[] lb, encID x, undef, undef, undef, undef, undef], defers := [] })
    (fun x a' _ X Y row hs hg hr => by
      obtain ⟨Bx, h1, h2, h3⟩ := hs
      refine ⟨Bx, h1, (hg.block Bx (Array.getElem?_eq_some_iff.1 h2).1 (fun e => ?_)).trans h2, h3⟩
      obtain ⟨_, o, ho, hc⟩ := hr Bx e.symm
      rw [h2] at ho; cases ho; cases hc)
    ?assign ?body ?done ?stop
  case assign =>
    rintro l pre ⟨xk, xv⟩ W K ⟨⟨v, bS1, hrow, hnil⟩, hB1⟩ hK
    simp only [encID]
    gi_wp2
    exact hK _ _ ((KeepsOthers.alloc _ _).from _) (KeepsWalks.alloc _ _) ⟨⟨v, bS1.alloc _, hrow.alloc _, hnil⟩, hB1.alloc hB1.size _⟩ ⟨W.heap.size, bS1.lt, World.alloc_heap_new W _, rfl⟩
  case body =>
    rintro l pre ⟨xk, xv⟩ a' W hl ⟨r, hr⟩ ⟨⟨v, bS1, hrow, hnil⟩, hB1⟩ ⟨Bx, hBx, bX, rfl⟩ hlt
    have cS := bS1.cell
    have fS := bS1.frozen
    have c0 : W.cell? ⟨Bx, 0, none⟩ = some (.string xk) := (cell_block bX 0).trans rfl
    have c1 : W.cell? ⟨Bx, 1, none⟩ = some (.int .i64 xv) := (cell_block bX 1).trans rfl
    simp only [encID]
    gi_wp2_with (gi_at_builtin; refine wpListIn_append_own _ rfl _ _ 66 rfl w.heap.size 54 i0 (.agg #[.string { data := #[] }, .int .i64 0]) 2 24 Tryz.underlying66 hi hz0 hz1 hz2 rfl (by decide) _ _ _ rfl (hrow.alloc _) ⟨W.heap.size, 0, none⟩ 1 1 (idCells ⟨xk, xv⟩) rfl rfl (id_new W ⟨xk, xv⟩ _) (by simp [idCells, Value.oneCell']) (by unfold maxLen; omega) (by omega) (by have := hB1.size; simp; omega) ?_; intro v' w1 hown' hgrow _; obtain ⟨g', cap', rfl⟩ := ownsRow_succ hown'; obtain ⟨hv1, hv2, hr2, hk2, hb2⟩ := bS1.appended (by decide) hrow hB1.size (Nat.le_refl _) hown' hgrow; have hc1 := hv1.cell; have hf1 := hv1.frozen)
    exact ⟨hk2.from _, hk2.walks, ⟨_, hv2, by simpa [List.flatMap_append] using hr2, by simp⟩, hB1.trans hb2⟩
  case done =>
    rintro D zs W hD hS ⟨⟨v, bS1, hrow, hnil⟩, hB1⟩ hK
    have cS := bS1.cell
    gi_wp2
    refine ⟨by simp, .inl ⟨_, _, rfl, run_takeDeferred hK, ?_⟩⟩
    exact ⟨_, results_tmp rfl _ _ _, v, zs, rfl, hS, ownsRow_putObj hrow _ hK rfl, hnil, hB1.trans (belowK_b (w := w) (Nat.le_refl _) W D _ _ (by omega) hK rfl rfl)⟩
  case stop =>
    rintro D c pre W _ _ h _
    exact h.elim
set_option maxHeartbeats 1000000 in
theorem idCollect (F : Fence) (n : Nat) (h8 : F.fn 140) (h11 : F.fn 177) (hro : F.round = none) (hn : 3 ≤ n) (g : Nat) (lb : Array Value) (hFg : F.fn g) (eg : ∀ args w, (callFunc g args).run Tryz.prog w = .ok (.enter g args) w)
    (S : List ID → Prop) (N : Nat) (hN : N ≤ 1000000) (w : World) (hseq : SeqStopsK F (n - 1 - 1) Tryz.prog g lb (fun x : ID => #[encID x]) KeepsWalks S (fun _ => True) N w) :
    CallsIn F n Tryz.prog 140 #[.func (.func g) #[] lb] w fun e w' => ∃ (v : Value) (ss : List ID), e = .returned v ∧ S ss ∧ w'.ownsRow w.heap.size 54 2 v ss.length (ss.flatMap idCells) ∧ (v = .slice none 0 0 ↔ ss = []) ∧ Below w.heap.size w w' := by
  have h1 : 1 ≤ n := by omega
  refine callsIn_of_wp Tryz.func140 rfl h8 ?_ hro
  simp only [Tryz.ntmps140, List.size_toArray, List.length_cons, List.length_nil, Nat.reduceAdd, Nat.reduceSub, Array.replicate_succ, Array.replicate_zero, List.push_toArray, List.append_toArray, List.nil_append, List.cons_append]
  gi_wp2_with (gi_at_call 177; refine (idAppend F (n - 1) h11 hro (by omega) g lb hFg eg S N hN _ hseq).mono ?_; rintro e w' ⟨v, ss, rfl, hS, hrow, hnil, hb⟩)
  go_ret
  exact ⟨v, ss, rfl, hS, hrow, hnil, hb⟩
/-- maps.Keys of what is pending -/
theorem keysP_any (mb : Option Nat) (W : World) : Calls Tryz.prog 79 #[.map mb] W fun e w' =>
    e = .returned (.func (.func 142) #[] #[.pointer (some ⟨W.heap.size, 0, none⟩)]) ∧ w' = W.alloc (.cells #[.map mb] 119) := by
  have hmf : ∀ (fn : Fn) (first cap : Array Value) (w : World), (Instr.makeFunc fn first cap).run Tryz.prog w = .ok (.func fn first cap) w := fun _ _ _ _ => rfl
  go_enter Tryz.func79, Tryz.ntmps79
  go_wp2
  go_ret
  exact ⟨rfl, rfl⟩
end Go.Proofs.YtjfelfjobeeenaaGreat
