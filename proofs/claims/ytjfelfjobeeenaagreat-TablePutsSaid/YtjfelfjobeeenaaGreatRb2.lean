/- starfishref25.Bytes at each kind. Conditions: a command that may be. -/
import Derived.Test.YtjfelfjobeeenaaGreatRb
namespace Go.Proofs.YtjfelfjobeeenaaGreat
open Go.RowKit Go.Sf
set_option linter.unusedVariables false
/-- a row of bytes of the call's own -/
structure BSt (W : World) (v : Value) (l : List Int) (w : World) : Prop where
  row : w.ownsRow W.heap.size 5 1 v l.length (bytesV l)
  grown : W.grownBy w none
theorem BSt.grow {W w w' : World} {v : Value} {l : List Int} (h : BSt W v l w) (hg : w.grownBy w' none) : BSt W v l w' :=
  ⟨h.row.kept hg (by
    rcases h : v.ownBlock with _ | k
    · exact Or.inl rfl
    · exact Or.inr (by simp)), grown_trans h.grown hg⟩
theorem BSt.app {W w w' : World} {v v' : Value} {l m : List Int} (h : BSt W v l w) (ho : w'.ownsRow W.heap.size 5 1 v' (l.length + m.length) (bytesV l ++ bytesV m)) (hg : w.grownBy w' v.ownBlock) : BSt W v' (l ++ m) w' :=
  ⟨by rw [List.length_append, ← bytesV_app]; exact ho, grown_row h.grown h.row (Nat.le_refl _) hg⟩
theorem BSt.start (W : World) (x : Int) : BSt W (.slice (some ⟨W.heap.size, 0, none⟩) 1 1) [x] (W.alloc (.cells #[.int .u8 x] 5)) :=
  ⟨⟨rfl, .inr ⟨W.heap.size, 1, #[.int .u8 x], rfl, Nat.le_refl _, heap_alloc_new W _, Nat.le_refl _, by unfold maxLen; omega, rfl, rfl⟩⟩, World.grownBy_alloc W _ none⟩
theorem BSt.start' (W : World) (b : Obj) (x : Int) : BSt (W.alloc b) (.slice (some ⟨W.heap.size + 1, 0, none⟩) 1 1) [x] ((W.alloc b).alloc (.cells #[.int .u8 x] 5)) := by
  have h := BSt.start (W.alloc b) x
  rw [show (W.alloc b).heap.size = W.heap.size + 1 from by simp] at h
  exact h
theorem raw_one (w : World) (x : Int) : RawRow (w.alloc (.cells #[.int .u8 x] 5)) (.slice (some ⟨w.heap.size, 0, none⟩) 1 1) [x] :=
  ⟨_, _, rfl, Or.inr ⟨_, rfl, cell_one_new w (.int .u8 x) _⟩⟩
theorem BSt.cells {W w : World} {v : Value} {l : List Int} {a0 a1 a2 a3 a4 a5 a6 a7 : Value} {t : TypeId} (h : BSt (W.alloc (.cells #[a0, a1, a2, a3, a4, a5, a6, a7] t)) v l w) :
    w.cell? ⟨W.heap.size, 0, none⟩ = some a0 ∧ w.cell? ⟨W.heap.size, 1, none⟩ = some a1 ∧ w.cell? ⟨W.heap.size, 2, none⟩ = some a2 ∧ w.cell? ⟨W.heap.size, 3, none⟩ = some a3 ∧ w.cell? ⟨W.heap.size, 4, none⟩ = some a4 ∧ w.cell? ⟨W.heap.size, 5, none⟩ = some a5 ∧ w.cell? ⟨W.heap.size, 6, none⟩ = some a6 ∧ w.cell? ⟨W.heap.size, 7, none⟩ = some a7 := by
  have e := (h.grown.block W.heap.size (by simp) (by simp)).trans (heap_alloc_new W _)
  refine ⟨?_, ?_, ?_, ?_, ?_, ?_, ?_, ?_⟩ <;> simp [World.cell?, e]
theorem strCells_eq (s : ByteArray) : Lib.strCells s = bytesV (strB s) := by
  simp [Lib.strCells, bytesV, strB, List.map_map]
  try rfl
theorem BSt.appS {W w w' : World} {v v' : Value} {l : List Int} (h : BSt W v l w) (s : ByteArray) (ho : w'.ownsRow W.heap.size 5 1 v' (l.length + s.size) (bytesV l ++ Lib.strCells s)) (hg : w.grownBy w' v.ownBlock) : BSt W v' (l ++ strB s) w' :=
  h.app (by rw [strCells_eq, ← strB_len] at ho; exact ho) hg
theorem bytes02' (x : Int) (k : Nat) (hk0 : 0 < k) (hk : k ≤ 8) (h0 : 0 ≤ x) (h1 : x < 9223372036854775808) (W : World) (kk : Int) (hkk : kk = k) : Calls Tryz.prog 54 #[.int .u64 (x % 18446744073709551616), .int .i64 kk] W fun e w' =>
    ∃ v, e = .returned v ∧ RawRow w' v (be k x.toNat) ∧ W.grownBy w' none := by
  have hx : (x.toNat : Int) = x % 18446744073709551616 := by omega
  have h := bytes02 x.toNat k hk0 hk (by omega) W kk hkk
  rw [hx] at h
  exact h
theorem rb_end {W w' : World} {c : Cmd} {b : Obj} {l : List Int} {v' : Value} (h : BSt (W.alloc b) v' l w') (hl : l = encB c) : ∃ v, Ending.returned v' = .returned v ∧ w'.ownsRow W.heap.size 5 1 v (encB c).length (bytesV (encB c)) ∧ W.grownBy w' none := by
  subst hl
  exact ⟨v', rfl, row_lower h.row (by simp), grown_trans (World.grownBy_alloc W b none) h.grown⟩
theorem be0 (n : Nat) : be 0 n = [] := rfl
set_option maxHeartbeats 1000000 in
set_option maxRecDepth 100000 in
theorem rbytes_1 (node client inc req ver code : Int) (key : ByteArray) (W : World) (hm : mayB ⟨1, node, client, inc, req, ver, key, code⟩ = true) :
    Calls Tryz.prog 14 #[encCmd ⟨1, node, client, inc, req, ver, key, code⟩] W fun e w' => ∃ v, e = .returned v ∧ w'.ownsRow W.heap.size 5 1 v (encB ⟨1, node, client, inc, req, ver, key, code⟩).length (bytesV (encB ⟨1, node, client, inc, req, ver, key, code⟩)) ∧ W.grownBy w' none := by
  have HF : Hid (0 ≤ node ∧ node < 255 ∧ 0 ≤ client ∧ client ≤ 65535 ∧ 0 ≤ inc ∧ inc ≤ 4611686018427387904 ∧ 0 ≤ req ∧ req ≤ 4611686018427387904 ∧ 0 ≤ ver ∧ ver ≤ 4611686018427387904 ∧ 0 ≤ code ∧ code ≤ 65535 ∧ key.size ≤ 64) := (show _ ∧ _ from may_parts hm)
  have hks : ((key.size : Int) % 256) = (key.size : Int) := by have := HF.out; omega
  clear hm
  obtain ⟨i0, hi, hz0, hz1, hz2⟩ := info_parts infoU8
  have P0 := Lib.hid (BSt.start' W (.cells #[.int .u8 1, .int .i64 node, .int .i64 client, .int .i64 inc, .int .i64 req, .int .i64 ver, .string key, .int .i64 code] 29) 1)
  obtain ⟨d0, d1, d2, d3, d4, d5, d6, d7⟩ := P0.out.cells
  simp only [encCmd]
  go_enter Tryz.func14, Tryz.ntmps14
  go_wp2
  go_ret
  refine rb_end P0.out ?_
  simp [encB, headB, keyB, tailB, be_eq, be0]
set_option maxHeartbeats 1000000 in
set_option maxRecDepth 100000 in
theorem rbytes_2 (node client inc req ver code : Int) (key : ByteArray) (W : World) (hm : mayB ⟨2, node, client, inc, req, ver, key, code⟩ = true) :
    Calls Tryz.prog 14 #[encCmd ⟨2, node, client, inc, req, ver, key, code⟩] W fun e w' => ∃ v, e = .returned v ∧ w'.ownsRow W.heap.size 5 1 v (encB ⟨2, node, client, inc, req, ver, key, code⟩).length (bytesV (encB ⟨2, node, client, inc, req, ver, key, code⟩)) ∧ W.grownBy w' none := by
  have HF : Hid (0 ≤ node ∧ node < 255 ∧ 0 ≤ client ∧ client ≤ 65535 ∧ 0 ≤ inc ∧ inc ≤ 4611686018427387904 ∧ 0 ≤ req ∧ req ≤ 4611686018427387904 ∧ 0 ≤ ver ∧ ver ≤ 4611686018427387904 ∧ 0 ≤ code ∧ code ≤ 65535 ∧ key.size ≤ 64) := (show _ ∧ _ from may_parts hm)
  have hks : ((key.size : Int) % 256) = (key.size : Int) := by have := HF.out; omega
  clear hm
  obtain ⟨i0, hi, hz0, hz1, hz2⟩ := info_parts infoU8
  have P0 := Lib.hid (BSt.start' W (.cells #[.int .u8 2, .int .i64 node, .int .i64 client, .int .i64 inc, .int .i64 req, .int .i64 ver, .string key, .int .i64 code] 29) 2)
  obtain ⟨d0, d1, d2, d3, d4, d5, d6, d7⟩ := P0.out.cells
  simp only [encCmd]
  go_enter Tryz.func14, Tryz.ntmps14
  go_wp2_with (first
    | (go_at_call 54; have K := P0.out; refine (bytes02' _ 2 (by omega) (by omega) (by have := HF.out; omega) (by have := HF.out; omega) _ 2 rfl).mono ?_; clear d0 d1 d2 d3 d4 d5 d6 d7; rintro e w1 ⟨y, rfl, hy, hg⟩; have Q0 := Lib.hid (BSt.grow K hg); clear K P0; obtain ⟨d0, d1, d2, d3, d4, d5, d6, d7⟩ := Q0.out.cells; have Y := Lib.hid hy; clear hy hg; simp only [])
    | (at_builtin; have K := Q0.out; refine wpList_raw _ rfl _ _ 25 5 rfl i0 Tryz.underlying25 hi hz0 hz1 hz2 _ _ _ _ rfl K.row _ _ rfl Y.out (by have := HF.out; simp [be_len, strB_len] <;> omega) (by have := K.grown.size; omega) ?_; intro v' w2 ho hg hat; have P1 := Lib.hid (BSt.app K ho hg); clear K Q0 Y ho hg hat; clear d0 d1 d2 d3 d4 d5 d6 d7; obtain ⟨d0, d1, d2, d3, d4, d5, d6, d7⟩ := P1.out.cells)
    | (go_at_call 54; have K := P1.out; refine (bytes02' _ 8 (by omega) (by omega) (by have := HF.out; omega) (by have := HF.out; omega) _ 8 rfl).mono ?_; clear d0 d1 d2 d3 d4 d5 d6 d7; rintro e w1 ⟨y, rfl, hy, hg⟩; have Q1 := Lib.hid (BSt.grow K hg); clear K P1; obtain ⟨d0, d1, d2, d3, d4, d5, d6, d7⟩ := Q1.out.cells; have Y := Lib.hid hy; clear hy hg; simp only [])
    | (at_builtin; have K := Q1.out; refine wpList_raw _ rfl _ _ 25 5 rfl i0 Tryz.underlying25 hi hz0 hz1 hz2 _ _ _ _ rfl K.row _ _ rfl Y.out (by have := HF.out; simp [be_len, strB_len] <;> omega) (by have := K.grown.size; omega) ?_; intro v' w2 ho hg hat; have P2 := Lib.hid (BSt.app K ho hg); clear K Q1 Y ho hg hat; clear d0 d1 d2 d3 d4 d5 d6 d7; obtain ⟨d0, d1, d2, d3, d4, d5, d6, d7⟩ := P2.out.cells))
  go_ret
  refine rb_end P2.out ?_
  simp [encB, headB, keyB, tailB, be_eq, be0]
set_option maxHeartbeats 1000000 in
set_option maxRecDepth 100000 in
theorem rbytes_3 (node client inc req ver code : Int) (key : ByteArray) (W : World) (hm : mayB ⟨3, node, client, inc, req, ver, key, code⟩ = true) :
    Calls Tryz.prog 14 #[encCmd ⟨3, node, client, inc, req, ver, key, code⟩] W fun e w' => ∃ v, e = .returned v ∧ w'.ownsRow W.heap.size 5 1 v (encB ⟨3, node, client, inc, req, ver, key, code⟩).length (bytesV (encB ⟨3, node, client, inc, req, ver, key, code⟩)) ∧ W.grownBy w' none := by
  have HF : Hid (0 ≤ node ∧ node < 255 ∧ 0 ≤ client ∧ client ≤ 65535 ∧ 0 ≤ inc ∧ inc ≤ 4611686018427387904 ∧ 0 ≤ req ∧ req ≤ 4611686018427387904 ∧ 0 ≤ ver ∧ ver ≤ 4611686018427387904 ∧ 0 ≤ code ∧ code ≤ 65535 ∧ key.size ≤ 64) := (show _ ∧ _ from may_parts hm)
  have hks : ((key.size : Int) % 256) = (key.size : Int) := by have := HF.out; omega
  clear hm
  obtain ⟨i0, hi, hz0, hz1, hz2⟩ := info_parts infoU8
  have P0 := Lib.hid (BSt.start' W (.cells #[.int .u8 3, .int .i64 node, .int .i64 client, .int .i64 inc, .int .i64 req, .int .i64 ver, .string key, .int .i64 code] 29) 3)
  obtain ⟨d0, d1, d2, d3, d4, d5, d6, d7⟩ := P0.out.cells
  simp only [encCmd]
  go_enter Tryz.func14, Tryz.ntmps14
  go_wp2_with (first
    | (go_at_call 54; have K := P0.out; refine (bytes02' _ 2 (by omega) (by omega) (by have := HF.out; omega) (by have := HF.out; omega) _ 2 rfl).mono ?_; clear d0 d1 d2 d3 d4 d5 d6 d7; rintro e w1 ⟨y, rfl, hy, hg⟩; have Q0 := Lib.hid (BSt.grow K hg); clear K P0; obtain ⟨d0, d1, d2, d3, d4, d5, d6, d7⟩ := Q0.out.cells; have Y := Lib.hid hy; clear hy hg; simp only [])
    | (at_builtin; have K := Q0.out; refine wpList_raw _ rfl _ _ 25 5 rfl i0 Tryz.underlying25 hi hz0 hz1 hz2 _ _ _ _ rfl K.row _ _ rfl Y.out (by have := HF.out; simp [be_len, strB_len] <;> omega) (by have := K.grown.size; omega) ?_; intro v' w2 ho hg hat; have P1 := Lib.hid (BSt.app K ho hg); clear K Q0 Y ho hg hat; clear d0 d1 d2 d3 d4 d5 d6 d7; obtain ⟨d0, d1, d2, d3, d4, d5, d6, d7⟩ := P1.out.cells)
    | (go_at_call 54; have K := P1.out; refine (bytes02' _ 8 (by omega) (by omega) (by have := HF.out; omega) (by have := HF.out; omega) _ 8 rfl).mono ?_; clear d0 d1 d2 d3 d4 d5 d6 d7; rintro e w1 ⟨y, rfl, hy, hg⟩; have Q1 := Lib.hid (BSt.grow K hg); clear K P1; obtain ⟨d0, d1, d2, d3, d4, d5, d6, d7⟩ := Q1.out.cells; have Y := Lib.hid hy; clear hy hg; simp only [])
    | (at_builtin; have K := Q1.out; refine wpList_raw _ rfl _ _ 25 5 rfl i0 Tryz.underlying25 hi hz0 hz1 hz2 _ _ _ _ rfl K.row _ _ rfl Y.out (by have := HF.out; simp [be_len, strB_len] <;> omega) (by have := K.grown.size; omega) ?_; intro v' w2 ho hg hat; have P2 := Lib.hid (BSt.app K ho hg); clear K Q1 Y ho hg hat; clear d0 d1 d2 d3 d4 d5 d6 d7; obtain ⟨d0, d1, d2, d3, d4, d5, d6, d7⟩ := P2.out.cells)
    | (at_builtin; have K := BSt.grow P2.out (World.grownBy_alloc _ (.cells #[.int .u8 (key.size : Int)] 5) none); refine wpList_raw _ rfl _ _ 25 5 rfl i0 Tryz.underlying25 hi hz0 hz1 hz2 _ _ _ _ rfl K.row _ _ rfl (raw_one _ _) (by have := HF.out; simp [be_len, strB_len] <;> omega) (by have := K.grown.size; omega) ?_; intro v' w2 ho hg hat; have P3 := Lib.hid (BSt.app K ho hg); clear K P2 ho hg hat; clear d0 d1 d2 d3 d4 d5 d6 d7; obtain ⟨d0, d1, d2, d3, d4, d5, d6, d7⟩ := P3.out.cells)
    | (at_builtin; have K := P3.out; refine Lib.wpList_append_own_string _ rfl _ _ 25 9 rfl _ 5 i0 Tryz.underlying25 Tryz.underlying9 hi hz0 hz1 hz2 _ _ _ rfl K.row _ rfl (by have := HF.out; unfold maxLen; simp [be_len, strB_len] <;> omega) (by have := HF.out; simp [be_len, strB_len] <;> omega) (by have := K.grown.size; omega) ?_; intro v' w2 ho hg hat; have P4 := Lib.hid (BSt.appS K key ho hg); clear K P3 ho hg hat; clear d0 d1 d2 d3 d4 d5 d6 d7; obtain ⟨d0, d1, d2, d3, d4, d5, d6, d7⟩ := P4.out.cells))
  go_ret
  refine rb_end P4.out ?_
  have hks' : ((key.size % 256 : Nat) : Int) = (key.size : Int) := by have := HF.out; omega
  simp [encB, headB, keyB, tailB, be_eq, be0, hks']
set_option maxHeartbeats 1000000 in
set_option maxRecDepth 100000 in
theorem rbytes_4 (node client inc req ver code : Int) (key : ByteArray) (W : World) (hm : mayB ⟨4, node, client, inc, req, ver, key, code⟩ = true) :
    Calls Tryz.prog 14 #[encCmd ⟨4, node, client, inc, req, ver, key, code⟩] W fun e w' => ∃ v, e = .returned v ∧ w'.ownsRow W.heap.size 5 1 v (encB ⟨4, node, client, inc, req, ver, key, code⟩).length (bytesV (encB ⟨4, node, client, inc, req, ver, key, code⟩)) ∧ W.grownBy w' none := by
  have HF : Hid (0 ≤ node ∧ node < 255 ∧ 0 ≤ client ∧ client ≤ 65535 ∧ 0 ≤ inc ∧ inc ≤ 4611686018427387904 ∧ 0 ≤ req ∧ req ≤ 4611686018427387904 ∧ 0 ≤ ver ∧ ver ≤ 4611686018427387904 ∧ 0 ≤ code ∧ code ≤ 65535 ∧ key.size ≤ 64) := (show _ ∧ _ from may_parts hm)
  have hks : ((key.size : Int) % 256) = (key.size : Int) := by have := HF.out; omega
  clear hm
  obtain ⟨i0, hi, hz0, hz1, hz2⟩ := info_parts infoU8
  have P0 := Lib.hid (BSt.start' W (.cells #[.int .u8 4, .int .i64 node, .int .i64 client, .int .i64 inc, .int .i64 req, .int .i64 ver, .string key, .int .i64 code] 29) 4)
  obtain ⟨d0, d1, d2, d3, d4, d5, d6, d7⟩ := P0.out.cells
  simp only [encCmd]
  go_enter Tryz.func14, Tryz.ntmps14
  go_wp2_with (first
    | (go_at_call 54; have K := P0.out; refine (bytes02' _ 2 (by omega) (by omega) (by have := HF.out; omega) (by have := HF.out; omega) _ 2 rfl).mono ?_; clear d0 d1 d2 d3 d4 d5 d6 d7; rintro e w1 ⟨y, rfl, hy, hg⟩; have Q0 := Lib.hid (BSt.grow K hg); clear K P0; obtain ⟨d0, d1, d2, d3, d4, d5, d6, d7⟩ := Q0.out.cells; have Y := Lib.hid hy; clear hy hg; simp only [])
    | (at_builtin; have K := Q0.out; refine wpList_raw _ rfl _ _ 25 5 rfl i0 Tryz.underlying25 hi hz0 hz1 hz2 _ _ _ _ rfl K.row _ _ rfl Y.out (by have := HF.out; simp [be_len, strB_len] <;> omega) (by have := K.grown.size; omega) ?_; intro v' w2 ho hg hat; have P1 := Lib.hid (BSt.app K ho hg); clear K Q0 Y ho hg hat; clear d0 d1 d2 d3 d4 d5 d6 d7; obtain ⟨d0, d1, d2, d3, d4, d5, d6, d7⟩ := P1.out.cells)
    | (go_at_call 54; have K := P1.out; refine (bytes02' _ 8 (by omega) (by omega) (by have := HF.out; omega) (by have := HF.out; omega) _ 8 rfl).mono ?_; clear d0 d1 d2 d3 d4 d5 d6 d7; rintro e w1 ⟨y, rfl, hy, hg⟩; have Q1 := Lib.hid (BSt.grow K hg); clear K P1; obtain ⟨d0, d1, d2, d3, d4, d5, d6, d7⟩ := Q1.out.cells; have Y := Lib.hid hy; clear hy hg; simp only [])
    | (at_builtin; have K := Q1.out; refine wpList_raw _ rfl _ _ 25 5 rfl i0 Tryz.underlying25 hi hz0 hz1 hz2 _ _ _ _ rfl K.row _ _ rfl Y.out (by have := HF.out; simp [be_len, strB_len] <;> omega) (by have := K.grown.size; omega) ?_; intro v' w2 ho hg hat; have P2 := Lib.hid (BSt.app K ho hg); clear K Q1 Y ho hg hat; clear d0 d1 d2 d3 d4 d5 d6 d7; obtain ⟨d0, d1, d2, d3, d4, d5, d6, d7⟩ := P2.out.cells)
    | (at_builtin; have K := BSt.grow P2.out (World.grownBy_alloc _ (.cells #[.int .u8 (key.size : Int)] 5) none); refine wpList_raw _ rfl _ _ 25 5 rfl i0 Tryz.underlying25 hi hz0 hz1 hz2 _ _ _ _ rfl K.row _ _ rfl (raw_one _ _) (by have := HF.out; simp [be_len, strB_len] <;> omega) (by have := K.grown.size; omega) ?_; intro v' w2 ho hg hat; have P3 := Lib.hid (BSt.app K ho hg); clear K P2 ho hg hat; clear d0 d1 d2 d3 d4 d5 d6 d7; obtain ⟨d0, d1, d2, d3, d4, d5, d6, d7⟩ := P3.out.cells)
    | (at_builtin; have K := P3.out; refine Lib.wpList_append_own_string _ rfl _ _ 25 9 rfl _ 5 i0 Tryz.underlying25 Tryz.underlying9 hi hz0 hz1 hz2 _ _ _ rfl K.row _ rfl (by have := HF.out; unfold maxLen; simp [be_len, strB_len] <;> omega) (by have := HF.out; simp [be_len, strB_len] <;> omega) (by have := K.grown.size; omega) ?_; intro v' w2 ho hg hat; have P4 := Lib.hid (BSt.appS K key ho hg); clear K P3 ho hg hat; clear d0 d1 d2 d3 d4 d5 d6 d7; obtain ⟨d0, d1, d2, d3, d4, d5, d6, d7⟩ := P4.out.cells)
    | (go_at_call 54; have K := P4.out; refine (bytes02' _ 8 (by omega) (by omega) (by have := HF.out; omega) (by have := HF.out; omega) _ 8 rfl).mono ?_; clear d0 d1 d2 d3 d4 d5 d6 d7; rintro e w1 ⟨y, rfl, hy, hg⟩; have Q4 := Lib.hid (BSt.grow K hg); clear K P4; obtain ⟨d0, d1, d2, d3, d4, d5, d6, d7⟩ := Q4.out.cells; have Y := Lib.hid hy; clear hy hg; simp only [])
    | (at_builtin; have K := Q4.out; refine wpList_raw _ rfl _ _ 25 5 rfl i0 Tryz.underlying25 hi hz0 hz1 hz2 _ _ _ _ rfl K.row _ _ rfl Y.out (by have := HF.out; simp [be_len, strB_len] <;> omega) (by have := K.grown.size; omega) ?_; intro v' w2 ho hg hat; have P5 := Lib.hid (BSt.app K ho hg); clear K Q4 Y ho hg hat; clear d0 d1 d2 d3 d4 d5 d6 d7; obtain ⟨d0, d1, d2, d3, d4, d5, d6, d7⟩ := P5.out.cells))
  go_ret
  refine rb_end P5.out ?_
  have hks' : ((key.size % 256 : Nat) : Int) = (key.size : Int) := by have := HF.out; omega
  simp [encB, headB, keyB, tailB, be_eq, be0, hks']
set_option maxHeartbeats 1000000 in
set_option maxRecDepth 100000 in
theorem rbytes_5 (node client inc req ver code : Int) (key : ByteArray) (W : World) (hm : mayB ⟨5, node, client, inc, req, ver, key, code⟩ = true) :
    Calls Tryz.prog 14 #[encCmd ⟨5, node, client, inc, req, ver, key, code⟩] W fun e w' => ∃ v, e = .returned v ∧ w'.ownsRow W.heap.size 5 1 v (encB ⟨5, node, client, inc, req, ver, key, code⟩).length (bytesV (encB ⟨5, node, client, inc, req, ver, key, code⟩)) ∧ W.grownBy w' none := by
  have HF : Hid (0 ≤ node ∧ node < 255 ∧ 0 ≤ client ∧ client ≤ 65535 ∧ 0 ≤ inc ∧ inc ≤ 4611686018427387904 ∧ 0 ≤ req ∧ req ≤ 4611686018427387904 ∧ 0 ≤ ver ∧ ver ≤ 4611686018427387904 ∧ 0 ≤ code ∧ code ≤ 65535 ∧ key.size ≤ 64) := (show _ ∧ _ from may_parts hm)
  have hks : ((key.size : Int) % 256) = (key.size : Int) := by have := HF.out; omega
  clear hm
  obtain ⟨i0, hi, hz0, hz1, hz2⟩ := info_parts infoU8
  have P0 := Lib.hid (BSt.start' W (.cells #[.int .u8 5, .int .i64 node, .int .i64 client, .int .i64 inc, .int .i64 req, .int .i64 ver, .string key, .int .i64 code] 29) 5)
  obtain ⟨d0, d1, d2, d3, d4, d5, d6, d7⟩ := P0.out.cells
  simp only [encCmd]
  go_enter Tryz.func14, Tryz.ntmps14
  go_wp2_with (first
    | (go_at_call 54; have K := P0.out; refine (bytes02' _ 2 (by omega) (by omega) (by have := HF.out; omega) (by have := HF.out; omega) _ 2 rfl).mono ?_; clear d0 d1 d2 d3 d4 d5 d6 d7; rintro e w1 ⟨y, rfl, hy, hg⟩; have Q0 := Lib.hid (BSt.grow K hg); clear K P0; obtain ⟨d0, d1, d2, d3, d4, d5, d6, d7⟩ := Q0.out.cells; have Y := Lib.hid hy; clear hy hg; simp only [])
    | (at_builtin; have K := Q0.out; refine wpList_raw _ rfl _ _ 25 5 rfl i0 Tryz.underlying25 hi hz0 hz1 hz2 _ _ _ _ rfl K.row _ _ rfl Y.out (by have := HF.out; simp [be_len, strB_len] <;> omega) (by have := K.grown.size; omega) ?_; intro v' w2 ho hg hat; have P1 := Lib.hid (BSt.app K ho hg); clear K Q0 Y ho hg hat; clear d0 d1 d2 d3 d4 d5 d6 d7; obtain ⟨d0, d1, d2, d3, d4, d5, d6, d7⟩ := P1.out.cells)
    | (go_at_call 54; have K := P1.out; refine (bytes02' _ 8 (by omega) (by omega) (by have := HF.out; omega) (by have := HF.out; omega) _ 8 rfl).mono ?_; clear d0 d1 d2 d3 d4 d5 d6 d7; rintro e w1 ⟨y, rfl, hy, hg⟩; have Q1 := Lib.hid (BSt.grow K hg); clear K P1; obtain ⟨d0, d1, d2, d3, d4, d5, d6, d7⟩ := Q1.out.cells; have Y := Lib.hid hy; clear hy hg; simp only [])
    | (at_builtin; have K := Q1.out; refine wpList_raw _ rfl _ _ 25 5 rfl i0 Tryz.underlying25 hi hz0 hz1 hz2 _ _ _ _ rfl K.row _ _ rfl Y.out (by have := HF.out; simp [be_len, strB_len] <;> omega) (by have := K.grown.size; omega) ?_; intro v' w2 ho hg hat; have P2 := Lib.hid (BSt.app K ho hg); clear K Q1 Y ho hg hat; clear d0 d1 d2 d3 d4 d5 d6 d7; obtain ⟨d0, d1, d2, d3, d4, d5, d6, d7⟩ := P2.out.cells)
    | (at_builtin; have K := BSt.grow P2.out (World.grownBy_alloc _ (.cells #[.int .u8 (key.size : Int)] 5) none); refine wpList_raw _ rfl _ _ 25 5 rfl i0 Tryz.underlying25 hi hz0 hz1 hz2 _ _ _ _ rfl K.row _ _ rfl (raw_one _ _) (by have := HF.out; simp [be_len, strB_len] <;> omega) (by have := K.grown.size; omega) ?_; intro v' w2 ho hg hat; have P3 := Lib.hid (BSt.app K ho hg); clear K P2 ho hg hat; clear d0 d1 d2 d3 d4 d5 d6 d7; obtain ⟨d0, d1, d2, d3, d4, d5, d6, d7⟩ := P3.out.cells)
    | (at_builtin; have K := P3.out; refine Lib.wpList_append_own_string _ rfl _ _ 25 9 rfl _ 5 i0 Tryz.underlying25 Tryz.underlying9 hi hz0 hz1 hz2 _ _ _ rfl K.row _ rfl (by have := HF.out; unfold maxLen; simp [be_len, strB_len] <;> omega) (by have := HF.out; simp [be_len, strB_len] <;> omega) (by have := K.grown.size; omega) ?_; intro v' w2 ho hg hat; have P4 := Lib.hid (BSt.appS K key ho hg); clear K P3 ho hg hat; clear d0 d1 d2 d3 d4 d5 d6 d7; obtain ⟨d0, d1, d2, d3, d4, d5, d6, d7⟩ := P4.out.cells)
    | (go_at_call 54; have K := P4.out; refine (bytes02' _ 8 (by omega) (by omega) (by have := HF.out; omega) (by have := HF.out; omega) _ 8 rfl).mono ?_; clear d0 d1 d2 d3 d4 d5 d6 d7; rintro e w1 ⟨y, rfl, hy, hg⟩; have Q4 := Lib.hid (BSt.grow K hg); clear K P4; obtain ⟨d0, d1, d2, d3, d4, d5, d6, d7⟩ := Q4.out.cells; have Y := Lib.hid hy; clear hy hg; simp only [])
    | (at_builtin; have K := Q4.out; refine wpList_raw _ rfl _ _ 25 5 rfl i0 Tryz.underlying25 hi hz0 hz1 hz2 _ _ _ _ rfl K.row _ _ rfl Y.out (by have := HF.out; simp [be_len, strB_len] <;> omega) (by have := K.grown.size; omega) ?_; intro v' w2 ho hg hat; have P5 := Lib.hid (BSt.app K ho hg); clear K Q4 Y ho hg hat; clear d0 d1 d2 d3 d4 d5 d6 d7; obtain ⟨d0, d1, d2, d3, d4, d5, d6, d7⟩ := P5.out.cells))
  go_ret
  refine rb_end P5.out ?_
  have hks' : ((key.size % 256 : Nat) : Int) = (key.size : Int) := by have := HF.out; omega
  simp [encB, headB, keyB, tailB, be_eq, be0, hks']
set_option maxHeartbeats 1000000 in
set_option maxRecDepth 100000 in
theorem rbytes_6 (node client inc req ver code : Int) (key : ByteArray) (W : World) (hm : mayB ⟨6, node, client, inc, req, ver, key, code⟩ = true) :
    Calls Tryz.prog 14 #[encCmd ⟨6, node, client, inc, req, ver, key, code⟩] W fun e w' => ∃ v, e = .returned v ∧ w'.ownsRow W.heap.size 5 1 v (encB ⟨6, node, client, inc, req, ver, key, code⟩).length (bytesV (encB ⟨6, node, client, inc, req, ver, key, code⟩)) ∧ W.grownBy w' none := by
  have HF : Hid (0 ≤ node ∧ node < 255 ∧ 0 ≤ client ∧ client ≤ 65535 ∧ 0 ≤ inc ∧ inc ≤ 4611686018427387904 ∧ 0 ≤ req ∧ req ≤ 4611686018427387904 ∧ 0 ≤ ver ∧ ver ≤ 4611686018427387904 ∧ 0 ≤ code ∧ code ≤ 65535 ∧ key.size ≤ 64) := (show _ ∧ _ from may_parts hm)
  have hks : ((key.size : Int) % 256) = (key.size : Int) := by have := HF.out; omega
  clear hm
  obtain ⟨i0, hi, hz0, hz1, hz2⟩ := info_parts infoU8
  have P0 := Lib.hid (BSt.start' W (.cells #[.int .u8 6, .int .i64 node, .int .i64 client, .int .i64 inc, .int .i64 req, .int .i64 ver, .string key, .int .i64 code] 29) 6)
  obtain ⟨d0, d1, d2, d3, d4, d5, d6, d7⟩ := P0.out.cells
  simp only [encCmd]
  go_enter Tryz.func14, Tryz.ntmps14
  go_wp2_with (first
    | (go_at_call 54; have K := P0.out; refine (bytes02' _ 2 (by omega) (by omega) (by have := HF.out; omega) (by have := HF.out; omega) _ 2 rfl).mono ?_; clear d0 d1 d2 d3 d4 d5 d6 d7; rintro e w1 ⟨y, rfl, hy, hg⟩; have Q0 := Lib.hid (BSt.grow K hg); clear K P0; obtain ⟨d0, d1, d2, d3, d4, d5, d6, d7⟩ := Q0.out.cells; have Y := Lib.hid hy; clear hy hg; simp only [])
    | (at_builtin; have K := Q0.out; refine wpList_raw _ rfl _ _ 25 5 rfl i0 Tryz.underlying25 hi hz0 hz1 hz2 _ _ _ _ rfl K.row _ _ rfl Y.out (by have := HF.out; simp [be_len, strB_len] <;> omega) (by have := K.grown.size; omega) ?_; intro v' w2 ho hg hat; have P1 := Lib.hid (BSt.app K ho hg); clear K Q0 Y ho hg hat; clear d0 d1 d2 d3 d4 d5 d6 d7; obtain ⟨d0, d1, d2, d3, d4, d5, d6, d7⟩ := P1.out.cells)
    | (go_at_call 54; have K := P1.out; refine (bytes02' _ 8 (by omega) (by omega) (by have := HF.out; omega) (by have := HF.out; omega) _ 8 rfl).mono ?_; clear d0 d1 d2 d3 d4 d5 d6 d7; rintro e w1 ⟨y, rfl, hy, hg⟩; have Q1 := Lib.hid (BSt.grow K hg); clear K P1; obtain ⟨d0, d1, d2, d3, d4, d5, d6, d7⟩ := Q1.out.cells; have Y := Lib.hid hy; clear hy hg; simp only [])
    | (at_builtin; have K := Q1.out; refine wpList_raw _ rfl _ _ 25 5 rfl i0 Tryz.underlying25 hi hz0 hz1 hz2 _ _ _ _ rfl K.row _ _ rfl Y.out (by have := HF.out; simp [be_len, strB_len] <;> omega) (by have := K.grown.size; omega) ?_; intro v' w2 ho hg hat; have P2 := Lib.hid (BSt.app K ho hg); clear K Q1 Y ho hg hat; clear d0 d1 d2 d3 d4 d5 d6 d7; obtain ⟨d0, d1, d2, d3, d4, d5, d6, d7⟩ := P2.out.cells)
    | (at_builtin; have K := BSt.grow P2.out (World.grownBy_alloc _ (.cells #[.int .u8 (key.size : Int)] 5) none); refine wpList_raw _ rfl _ _ 25 5 rfl i0 Tryz.underlying25 hi hz0 hz1 hz2 _ _ _ _ rfl K.row _ _ rfl (raw_one _ _) (by have := HF.out; simp [be_len, strB_len] <;> omega) (by have := K.grown.size; omega) ?_; intro v' w2 ho hg hat; have P3 := Lib.hid (BSt.app K ho hg); clear K P2 ho hg hat; clear d0 d1 d2 d3 d4 d5 d6 d7; obtain ⟨d0, d1, d2, d3, d4, d5, d6, d7⟩ := P3.out.cells)
    | (at_builtin; have K := P3.out; refine Lib.wpList_append_own_string _ rfl _ _ 25 9 rfl _ 5 i0 Tryz.underlying25 Tryz.underlying9 hi hz0 hz1 hz2 _ _ _ rfl K.row _ rfl (by have := HF.out; unfold maxLen; simp [be_len, strB_len] <;> omega) (by have := HF.out; simp [be_len, strB_len] <;> omega) (by have := K.grown.size; omega) ?_; intro v' w2 ho hg hat; have P4 := Lib.hid (BSt.appS K key ho hg); clear K P3 ho hg hat; clear d0 d1 d2 d3 d4 d5 d6 d7; obtain ⟨d0, d1, d2, d3, d4, d5, d6, d7⟩ := P4.out.cells))
  go_ret
  refine rb_end P4.out ?_
  have hks' : ((key.size % 256 : Nat) : Int) = (key.size : Int) := by have := HF.out; omega
  simp [encB, headB, keyB, tailB, be_eq, be0, hks']
set_option maxHeartbeats 1000000 in
set_option maxRecDepth 100000 in
theorem rbytes_7 (node client inc req ver code : Int) (key : ByteArray) (W : World) (hm : mayB ⟨7, node, client, inc, req, ver, key, code⟩ = true) :
    Calls Tryz.prog 14 #[encCmd ⟨7, node, client, inc, req, ver, key, code⟩] W fun e w' => ∃ v, e = .returned v ∧ w'.ownsRow W.heap.size 5 1 v (encB ⟨7, node, client, inc, req, ver, key, code⟩).length (bytesV (encB ⟨7, node, client, inc, req, ver, key, code⟩)) ∧ W.grownBy w' none := by
  have HF : Hid (0 ≤ node ∧ node < 255 ∧ 0 ≤ client ∧ client ≤ 65535 ∧ 0 ≤ inc ∧ inc ≤ 4611686018427387904 ∧ 0 ≤ req ∧ req ≤ 4611686018427387904 ∧ 0 ≤ ver ∧ ver ≤ 4611686018427387904 ∧ 0 ≤ code ∧ code ≤ 65535 ∧ key.size ≤ 64) := (show _ ∧ _ from may_parts hm)
  have hks : ((key.size : Int) % 256) = (key.size : Int) := by have := HF.out; omega
  clear hm
  obtain ⟨i0, hi, hz0, hz1, hz2⟩ := info_parts infoU8
  have P0 := Lib.hid (BSt.start' W (.cells #[.int .u8 7, .int .i64 node, .int .i64 client, .int .i64 inc, .int .i64 req, .int .i64 ver, .string key, .int .i64 code] 29) 7)
  obtain ⟨d0, d1, d2, d3, d4, d5, d6, d7⟩ := P0.out.cells
  simp only [encCmd]
  go_enter Tryz.func14, Tryz.ntmps14
  go_wp2_with (first
    | (go_at_call 54; have K := P0.out; refine (bytes02' _ 2 (by omega) (by omega) (by have := HF.out; omega) (by have := HF.out; omega) _ 2 rfl).mono ?_; clear d0 d1 d2 d3 d4 d5 d6 d7; rintro e w1 ⟨y, rfl, hy, hg⟩; have Q0 := Lib.hid (BSt.grow K hg); clear K P0; obtain ⟨d0, d1, d2, d3, d4, d5, d6, d7⟩ := Q0.out.cells; have Y := Lib.hid hy; clear hy hg; simp only [])
    | (at_builtin; have K := Q0.out; refine wpList_raw _ rfl _ _ 25 5 rfl i0 Tryz.underlying25 hi hz0 hz1 hz2 _ _ _ _ rfl K.row _ _ rfl Y.out (by have := HF.out; simp [be_len, strB_len] <;> omega) (by have := K.grown.size; omega) ?_; intro v' w2 ho hg hat; have P1 := Lib.hid (BSt.app K ho hg); clear K Q0 Y ho hg hat; clear d0 d1 d2 d3 d4 d5 d6 d7; obtain ⟨d0, d1, d2, d3, d4, d5, d6, d7⟩ := P1.out.cells)
    | (go_at_call 54; have K := P1.out; refine (bytes02' _ 8 (by omega) (by omega) (by have := HF.out; omega) (by have := HF.out; omega) _ 8 rfl).mono ?_; clear d0 d1 d2 d3 d4 d5 d6 d7; rintro e w1 ⟨y, rfl, hy, hg⟩; have Q1 := Lib.hid (BSt.grow K hg); clear K P1; obtain ⟨d0, d1, d2, d3, d4, d5, d6, d7⟩ := Q1.out.cells; have Y := Lib.hid hy; clear hy hg; simp only [])
    | (at_builtin; have K := Q1.out; refine wpList_raw _ rfl _ _ 25 5 rfl i0 Tryz.underlying25 hi hz0 hz1 hz2 _ _ _ _ rfl K.row _ _ rfl Y.out (by have := HF.out; simp [be_len, strB_len] <;> omega) (by have := K.grown.size; omega) ?_; intro v' w2 ho hg hat; have P2 := Lib.hid (BSt.app K ho hg); clear K Q1 Y ho hg hat; clear d0 d1 d2 d3 d4 d5 d6 d7; obtain ⟨d0, d1, d2, d3, d4, d5, d6, d7⟩ := P2.out.cells)
    | (go_at_call 54; have K := P2.out; refine (bytes02' _ 2 (by omega) (by omega) (by have := HF.out; omega) (by have := HF.out; omega) _ 2 rfl).mono ?_; clear d0 d1 d2 d3 d4 d5 d6 d7; rintro e w1 ⟨y, rfl, hy, hg⟩; have Q2 := Lib.hid (BSt.grow K hg); clear K P2; obtain ⟨d0, d1, d2, d3, d4, d5, d6, d7⟩ := Q2.out.cells; have Y := Lib.hid hy; clear hy hg; simp only [])
    | (at_builtin; have K := Q2.out; refine wpList_raw _ rfl _ _ 25 5 rfl i0 Tryz.underlying25 hi hz0 hz1 hz2 _ _ _ _ rfl K.row _ _ rfl Y.out (by have := HF.out; simp [be_len, strB_len] <;> omega) (by have := K.grown.size; omega) ?_; intro v' w2 ho hg hat; have P3 := Lib.hid (BSt.app K ho hg); clear K Q2 Y ho hg hat; clear d0 d1 d2 d3 d4 d5 d6 d7; obtain ⟨d0, d1, d2, d3, d4, d5, d6, d7⟩ := P3.out.cells))
  go_ret
  refine rb_end P3.out ?_
  simp [encB, headB, keyB, tailB, be_eq, be0]
theorem rbytes_any (c : Cmd) (W : World) (hm : mayB c = true) : Calls Tryz.prog 14 #[encCmd c] W fun e w' => ∃ v, e = .returned v ∧ w'.ownsRow W.heap.size 5 1 v (encB c).length (bytesV (encB c)) ∧ W.grownBy w' none := by
  obtain ⟨⟨k1, k7⟩, -⟩ := may_bare hm
  obtain ⟨kind, node, client, inc, req, ver, key, code⟩ := c
  simp only at k1 k7
  have h : kind = 1 ∨ kind = 2 ∨ kind = 3 ∨ kind = 4 ∨ kind = 5 ∨ kind = 6 ∨ kind = 7 := by omega
  rcases h with rfl | rfl | rfl | rfl | rfl | rfl | rfl
  · exact rbytes_1 _ _ _ _ _ _ _ _ hm
  · exact rbytes_2 _ _ _ _ _ _ _ _ hm
  · exact rbytes_3 _ _ _ _ _ _ _ _ hm
  · exact rbytes_4 _ _ _ _ _ _ _ _ hm
  · exact rbytes_5 _ _ _ _ _ _ _ _ hm
  · exact rbytes_6 _ _ _ _ _ _ _ _ hm
  · exact rbytes_7 _ _ _ _ _ _ _ _ hm
end Go.Proofs.YtjfelfjobeeenaaGreat
