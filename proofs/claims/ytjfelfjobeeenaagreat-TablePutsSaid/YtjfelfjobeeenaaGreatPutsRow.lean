/- TablePuts: whatever its arguments are, it answers true, and they read as they did. Conditions: none. -/
import Derived.Test.YtjfelfjobeeenaaGreatRows
import Derived.Test.YtjfelfjobeeenaaGreatPuts
import Derived.Test.YtjfelfjobeeenaaGreatPost
import Derived.Test.YtjfelfjobeeenaaGreatReads
import Derived.Lib.SmallJoins
namespace Go.Proofs.YtjfelfjobeeenaaGreat.tablePuts
open Go.ChangeShapes Go.WideShapes Go.ChangeAt Go.RowKit Go.Deep Go.Sf Go.Joins
open Go.ChangeMaps (open_string shut_string)
set_option linter.unusedVariables false
theorem own : ownKnob Tryz.prog.godebug = none := by kernel_rfl
set_option maxRecDepth 100000 in
/-- a slice of bytes that came in -/
theorem bytes_of {H : Type} {enc : TypeId × Value → H} {W : World} {base : Nat} {v : Value} {d : DataW H} {p : List MemPlace} (hval : Value.okWide Tryz.prog W .any base 25 v) (h : DataW.Trod enc Tryz.prog W 0 (fun _ => true) true 25 v d p) :
    ∃ l q cap, v = .slice q l.length cap ∧ BRow W.heap.size W v l ∧ BL l ∧ l.length ≤ 9223372036854775807 := by
  obtain ⟨a1, len, cap, rfl⟩ := okWide_slice Tryz.underlying25 hval
  obtain ⟨fuel, hf⟩ := h
  rcases open_ints Tryz.underlying25 Tryz.underlying5 (by kernel_rfl) hf with ⟨hcs, _⟩ | ⟨a, len', cap', zs, hcs, _, hl, hm, hz, _, hcell, hwz⟩
  · simp [Value.cells] at hcs
    obtain ⟨rfl, rfl, rfl⟩ := hcs
    exact ⟨[], none, 0, rfl, ⟨none, 0, rfl, by simp, by omega, Or.inl rfl⟩, fun b hb => by simp at hb, by simp⟩
  · simp [Value.cells] at hcs
    obtain ⟨rfl, rfl, rfl⟩ := hcs
    simp only [if_true] at hz
    unfold maxLen at hm
    have hlen : (zs.take len).length = len := by rw [List.length_take]; omega
    refine ⟨zs.take len, some a, cap, by rw [hlen], ⟨some a, cap, by rw [hlen], by rw [hlen]; exact hl, hm, ?_⟩, fun b hb => ?_, by rw [hlen]; omega⟩
    · rcases Nat.eq_zero_or_pos len with h0 | h0
      · left; subst h0; rfl
      · refine Or.inr ⟨a, rfl, ?_, fun j u hu => ?_⟩
        · have hb := cell_lt (hcell 0 (by omega))
          have : (a.add 0).block = a.block := by unfold Addr.add; split <;> rfl
          rw [this] at hb
          exact hb
        · have hj : j < len := by
            have := (List.getElem?_eq_some_iff.1 hu).1
            simp only [bytesV, List.length_map, hlen] at this
            exact this
          rw [hcell j (by omega), ← hu]
          have hjz : j < zs.length := by omega
          simp [bytesV, hj, List.getD, List.getElem?_take, List.getElem?_eq_getElem hjz]
    · have := hwz b (List.mem_of_mem_take hb)
      have h2 : 0 ≤ b ∧ b ≤ 255 := by simpa [Lit.wf, IntKind.min, IntKind.max, IntKind.signed, IntKind.bits] using this
      omega
theorem trod_struct1 {H : Type} {enc : TypeId × Value → H} {P : Program} {w : World} {base : Nat} {spare : Nat → Bool} {held : Bool} {t : TypeId} {fs : Array Field} {fuel : Nat} {cs : List Value} {x : DataW H × List MemPlace} (he : P.underlying t = some (.struct fs)) (hone : oneCellFields P fs = true) (h : DataW.trod enc P w base spare held fuel t cs = some x) :
    ∃ (xs : List (DataW H × List MemPlace)) (n : Nat), xs.length = fs.size ∧ ∀ (j : Nat) (f : Field), fs[j]? = some f → DataW.trod enc P w base spare held n f.type ((cs.drop j).take 1) = xs[j]? := by
  obtain ⟨xs, n, _, hx, _, hlen, hg⟩ := DataW.trod_struct he h
  refine ⟨xs, n, hlen, fun j f hj => ?_⟩
  obtain ⟨ho, hk⟩ := hone_of hone j f hj
  have := hg j f hj
  rw [ho, hk] at this
  exact this
set_option maxRecDepth 100000 in
/-- a command that came in -/
theorem cmd_of {H : Type} {enc : TypeId × Value → H} {W : World} {base : Nat} {v : Value} {d : DataW H} {p : List MemPlace} (hval : Value.okWide Tryz.prog W .any base 24 v) (h : DataW.Trod enc Tryz.prog W 0 (fun _ => true) true 24 v d p) :
    ∃ c : Cmd, v = encCmd c ∧ (c.key.size : Int) ≤ 9223372036854775807 := by
  obtain ⟨cs, rfl, hsz⟩ := okWide_struct Tryz.underlying24 hval
  obtain ⟨fuel, hf⟩ := h
  obtain ⟨xs, n, hlen, hg⟩ := trod_struct1 Tryz.underlying24 (by kernel_rfl) hf
  obtain ⟨l⟩ := cs
  match l, hsz.trans (show Tryz.prog.cellsOf 24 = 8 by kernel_rfl) with
  | [c0, c1, c2, c3, c4, c5, c6, c7], _ =>
    match xs, hlen with
    | [y0, y1, y2, y3, y4, y5, y6, y7], _ =>
      have t0 : DataW.trod enc Tryz.prog W 0 (fun _ => true) true n 5 [c0] = some y0 := by simpa [Value.cells] using hg 0 _ rfl
      have t1 : DataW.trod enc Tryz.prog W 0 (fun _ => true) true n 3 [c1] = some y1 := by simpa [Value.cells] using hg 1 _ rfl
      have t2 : DataW.trod enc Tryz.prog W 0 (fun _ => true) true n 3 [c2] = some y2 := by simpa [Value.cells] using hg 2 _ rfl
      have t3 : DataW.trod enc Tryz.prog W 0 (fun _ => true) true n 2 [c3] = some y3 := by simpa [Value.cells] using hg 3 _ rfl
      have t4 : DataW.trod enc Tryz.prog W 0 (fun _ => true) true n 2 [c4] = some y4 := by simpa [Value.cells] using hg 4 _ rfl
      have t5 : DataW.trod enc Tryz.prog W 0 (fun _ => true) true n 2 [c5] = some y5 := by simpa [Value.cells] using hg 5 _ rfl
      have t6 : DataW.trod enc Tryz.prog W 0 (fun _ => true) true n 9 [c6] = some y6 := by simpa [Value.cells] using hg 6 _ rfl
      have t7 : DataW.trod enc Tryz.prog W 0 (fun _ => true) true n 22 [c7] = some y7 := by simpa [Value.cells] using hg 7 _ rfl
      obtain ⟨x0, e0, _, _⟩ := DataW.trod_int Tryz.underlying5 t0
      obtain ⟨x1, e1, _, _⟩ := DataW.trod_int Tryz.underlying3 t1
      obtain ⟨x2, e2, _, _⟩ := DataW.trod_int Tryz.underlying3 t2
      obtain ⟨x3, e3, _, _⟩ := DataW.trod_int Tryz.underlying2 t3
      obtain ⟨x4, e4, _, _⟩ := DataW.trod_int Tryz.underlying2 t4
      obtain ⟨x5, e5, _, _⟩ := DataW.trod_int Tryz.underlying2 t5
      obtain ⟨x6, e6, _, hs⟩ := DataW.trod_string Tryz.underlying9 t6
      obtain ⟨x7, e7, _, _⟩ := DataW.trod_int Tryz.underlying22 t7
      simp only [List.cons.injEq, and_true] at e0 e1 e2 e3 e4 e5 e6 e7
      subst e0 e1 e2 e3 e4 e5 e6 e7
      exact ⟨⟨x0, x1, x2, x3, x4, x5, x6, x7⟩, rfl, by unfold maxLen at hs; simp only; omega⟩
set_option maxRecDepth 100000 in
theorem lifted (os : Os) (started : os.Started) (H : Type) (enc : TypeId × Value → H) :
    ReturnsInHanded {} Tryz.checked os 3 .any (Rows.tablePutsSpec.pre6 enc Tryz.prog Tryz.f3 Rows.tablePutsRow.domain false) (Rows.tablePutsSpec.post enc Tryz.prog Tryz.f3 false true false false) := by
  refine returnsInHanded_of_change (C := Tryz.checked) own started (by kernel_rfl) Tryz.func3
    (ChangeSpec.witness6 (enc := enc) (C := Tryz.checked) false ⟨#[], #[.agg #[.int .u8 0, .int .i64 0, .int .i64 0, .int .i64 0, .int .i64 0, .int .i64 0, .string ⟨#[]⟩, .int .i64 0], .slice none 0 0], []⟩ 12 (by kernel_rfl) (by kernel_rfl) (by kernel_rfl) (by kernel_rfl)) ?_
  intro W base args ds gs before hval0 hW _ _
  have hval : ∀ (j : Nat) t v, Tryz.f3.params[j]? = some t → args[j]? = some v → Value.okWide Tryz.prog W .any base t v := hval0
  have hW' := hW
  have hlt : ∀ p ∈ before, p.block < W.heap.size := fun p hp => hW.lt p hp
  obtain ⟨p, q, hA0, hV, rfl, _, _⟩ := hW
  have hA : DataW.TrodAll enc Tryz.prog W 0 (fun _ => true) true Tryz.f3.params.toList args.toList ds p := hA0
  have hAk := hA
  rw [Tryz.params3] at hA hval
  obtain ⟨v0, vs0, d0, ds0, p0, q0, hargs, rfl, rfl, h0, r0⟩ := trodAll_cons hA
  obtain ⟨v1, vs1, d1, ds1, p1, q1, rfl, rfl, rfl, h1, r1⟩ := trodAll_cons r0
  obtain ⟨rfl, rfl, rfl⟩ := trodAll_nil r1
  obtain rfl : args = #[v0, v1] := by cases args; simp_all
  obtain ⟨rfl, rfl⟩ := trodVars_none hV
  obtain ⟨c, rfl, hk⟩ := cmd_of (hval 0 24 v0 rfl rfl) h0
  obtain ⟨l, pb, cb, rfl, hb, hl, hn⟩ := bytes_of (hval 1 25 v1 rfl rfl) h1
  obtain ⟨kind, node, client, inc, req, ver, key, code⟩ := c
  refine (puts_any kind node client inc req ver code key hk pb cb l W hb hl hn).mono fun e W' ⟨he, hg⟩ => ?_
  subst he
  exact ⟨_, rfl, Go.Sf.post_of_grown (pv := []) hW' (fun _ _ _ => (trodAll_cons_mk (shut_bool Tryz.underlying4 _) trodAll_mk0))
    (fun sp hsp => DataW.TrodAll.respare kids full (by rw [Tryz.params3]; decide) (all_carry hg hAk (fun p hp => hlt p (by simpa using hp))) (fun p hp => hsp p (by simpa using hp))) (fun _ _ => rfl) (by simp)
    hg (ok_one (by kernel_rfl) rfl (okWide_bool_mk Tryz.underlying4 _))⟩
theorem proved : Rows.TablePutsSaid :=
  OpenClaim.holds_of_wide 3 Tryz.f3 rfl rfl rfl rfl rfl rfl rfl ⟨rfl, rfl, rfl, rfl, rfl⟩ rfl rfl rfl rfl rfl (by kernel_rfl) Tryz.func3 (by kernel_rfl)
    (of_decide_eq_true (by kernel_rfl)) (by unfold Func.isWrapper; first | (rw [if_pos (by decide +kernel)]; kernel_rfl) | (rw [if_neg (by decide +kernel)]; exact ⟨rfl, rfl⟩))
    (fun os started H enc _ => lifted os started H enc)
#print axioms proved
end Go.Proofs.YtjfelfjobeeenaaGreat.tablePuts
