/- table.Put at each kind. Conditions: none. -/
import Derived.Test.YtjfelfjobeeenaaGreatDec
namespace Go.Proofs.YtjfelfjobeeenaaGreat
open Go.RowKit Go.Sf
set_option linter.unusedVariables false
theorem PSt.cells {W w : World} {wb : Nat} {v : Value} {l : List Int} {a0 a1 a2 a3 a4 a5 a6 a7 : Value} {t : TypeId} (h : PSt (W.alloc (.cells #[a0, a1, a2, a3, a4, a5, a6, a7] t)) wb v l w) :
    w.cell? ⟨W.heap.size, 0, none⟩ = some a0 ∧ w.cell? ⟨W.heap.size, 1, none⟩ = some a1 ∧ w.cell? ⟨W.heap.size, 2, none⟩ = some a2 ∧ w.cell? ⟨W.heap.size, 3, none⟩ = some a3 ∧ w.cell? ⟨W.heap.size, 4, none⟩ = some a4 ∧ w.cell? ⟨W.heap.size, 5, none⟩ = some a5 ∧ w.cell? ⟨W.heap.size, 6, none⟩ = some a6 ∧ w.cell? ⟨W.heap.size, 7, none⟩ = some a7 := by
  have e := (h.grown.block W.heap.size (by simp) (by simp)).trans (heap_alloc_new W _)
  refine ⟨?_, ?_, ?_, ?_, ?_, ?_, ?_, ?_⟩ <;> simp [World.cell?, e]
/-- what Put answers -/
def PutPost (W : World) (c : Cmd) (e : Ending) (w' : World) : Prop :=
  ∃ v', e = .returned (.tuple #[v', .int .i64 0]) ∧ w'.ownsRow W.heap.size 5 1 v' (encB c).length (bytesV (encB c)) ∧ W.grownBy w' none
theorem put_end {W w' : World} {c : Cmd} {b : Obj} {l : List Int} {v' : Value} {n : Nat} (h : w'.ownsRow (W.alloc b).heap.size 5 1 v' l.length (bytesV l)) (hg : (W.alloc b).grownBy w' none) (hl : l = encB c) : PutPost W c (.returned (.tuple #[v', .int .i64 0])) w' := by
  subst hl
  exact ⟨v', rfl, row_lower h (by simp), grown_trans (World.grownBy_alloc W b none) hg⟩
set_option maxHeartbeats 4000000 in
set_option maxRecDepth 100000 in
theorem put_1 (node client inc req ver code : Int) (key : ByteArray) (W : World) (hm : mayB ⟨1, node, client, inc, req, ver, key, code⟩ = true) :
    Calls Tryz.prog 13 #[encCmd ⟨1, node, client, inc, req, ver, key, code⟩] W fun e w' => PutPost W ⟨1, node, client, inc, req, ver, key, code⟩ e w' := by
  have HF : Hid (0 ≤ node ∧ node < 255 ∧ 0 ≤ client ∧ client ≤ 65535 ∧ 0 ≤ inc ∧ inc ≤ 4611686018427387904 ∧ 0 ≤ req ∧ req ≤ 4611686018427387904 ∧ 0 ≤ ver ∧ ver ≤ 4611686018427387904 ∧ 0 ≤ code ∧ code ≤ 65535 ∧ key.size ≤ 64) := (show _ ∧ _ from may_parts hm)
  have HM : Hid (∀ W', Calls Tryz.prog 48 #[(.agg #[.int .u8 1, .int .i64 node, .int .i64 client, .int .i64 inc, .int .i64 req, .int .i64 ver, .string key, .int .i64 code] : Value)] W' fun e w' => e = .returned (.bool true) ∧ W'.grownBy w' none) := (fun W' => by
    have h := may_any 1 node client inc req ver code key W' (by have := HF.out; omega)
    rw [hm] at h
    exact h)
  clear hm
  simp only [encCmd]
  go_enter Tryz.func13, Tryz.ntmps13
  go_wp2_with (first
    | (go_at_call 48; refine (HM.out _).mono ?_; rintro e w1 ⟨rfl, hg⟩; obtain ⟨d0, d1, d2, d3, d4, d5, d6, d7⟩ := (PSt.start _ w1 hg).cells; have P := Lib.hid (PSt.start _ w1 hg); clear hg)
    | (go_at_call 49; refine (P.out.byte (by simp) 1 (by omega) (by omega)).mono ?_; clear d0 d1 d2 d3 d4 d5 d6 d7; rintro e w2 ⟨rfl, v1, hp⟩; obtain ⟨d0, d1, d2, d3, d4, d5, d6, d7⟩ := hp.cells; clear P; have P := Lib.hid hp; clear hp)
    | (go_at_call 50; refine (P.out.short (by have := HF.out; simp [be_len, strB_len] <;> omega) _ (by have := HF.out; omega) (by have := HF.out; omega)).mono ?_; clear d0 d1 d2 d3 d4 d5 d6 d7; rintro e w2 ⟨rfl, v1, hp⟩; obtain ⟨d0, d1, d2, d3, d4, d5, d6, d7⟩ := hp.cells; clear P; have P := Lib.hid hp; clear hp)
    | (go_at_call 51; refine (P.out.long (by have := HF.out; simp [be_len, strB_len] <;> omega) _ (by have := HF.out; omega) (by have := HF.out; omega)).mono ?_; clear d0 d1 d2 d3 d4 d5 d6 d7; rintro e w2 ⟨rfl, v1, hp⟩; obtain ⟨d0, d1, d2, d3, d4, d5, d6, d7⟩ := hp.cells; clear P; have P := Lib.hid hp; clear hp)
    | (go_at_call 52; refine (P.out.text _ (by have := HF.out; simp [be_len, strB_len] <;> omega)).mono ?_; clear d0 d1 d2 d3 d4 d5 d6 d7; rintro e w2 ⟨rfl, v1, hp⟩; obtain ⟨d0, d1, d2, d3, d4, d5, d6, d7⟩ := hp.cells; clear P; have P := Lib.hid hp; clear hp)
    | (go_at_call 53; refine (P.out.out (by have := HF.out; simp [be_len, strB_len] <;> omega)).mono ?_; clear d0 d1 d2 d3 d4 d5 d6 d7; rintro e w2 ⟨v', rfl, hp, hq⟩; clear P; have P := Lib.hid hp; have Q := Lib.hid hq; clear hp hq))
  go_ret2
  refine put_end (n := 0) P.out Q.out ?_
  simp [encB, headB, keyB, tailB]
set_option maxHeartbeats 4000000 in
set_option maxRecDepth 100000 in
theorem put_2 (node client inc req ver code : Int) (key : ByteArray) (W : World) (hm : mayB ⟨2, node, client, inc, req, ver, key, code⟩ = true) :
    Calls Tryz.prog 13 #[encCmd ⟨2, node, client, inc, req, ver, key, code⟩] W fun e w' => PutPost W ⟨2, node, client, inc, req, ver, key, code⟩ e w' := by
  have HF : Hid (0 ≤ node ∧ node < 255 ∧ 0 ≤ client ∧ client ≤ 65535 ∧ 0 ≤ inc ∧ inc ≤ 4611686018427387904 ∧ 0 ≤ req ∧ req ≤ 4611686018427387904 ∧ 0 ≤ ver ∧ ver ≤ 4611686018427387904 ∧ 0 ≤ code ∧ code ≤ 65535 ∧ key.size ≤ 64) := (show _ ∧ _ from may_parts hm)
  have HM : Hid (∀ W', Calls Tryz.prog 48 #[(.agg #[.int .u8 2, .int .i64 node, .int .i64 client, .int .i64 inc, .int .i64 req, .int .i64 ver, .string key, .int .i64 code] : Value)] W' fun e w' => e = .returned (.bool true) ∧ W'.grownBy w' none) := (fun W' => by
    have h := may_any 2 node client inc req ver code key W' (by have := HF.out; omega)
    rw [hm] at h
    exact h)
  clear hm
  simp only [encCmd]
  go_enter Tryz.func13, Tryz.ntmps13
  go_wp2_with (first
    | (go_at_call 48; refine (HM.out _).mono ?_; rintro e w1 ⟨rfl, hg⟩; obtain ⟨d0, d1, d2, d3, d4, d5, d6, d7⟩ := (PSt.start _ w1 hg).cells; have P := Lib.hid (PSt.start _ w1 hg); clear hg)
    | (go_at_call 49; refine (P.out.byte (by simp) 2 (by omega) (by omega)).mono ?_; clear d0 d1 d2 d3 d4 d5 d6 d7; rintro e w2 ⟨rfl, v1, hp⟩; obtain ⟨d0, d1, d2, d3, d4, d5, d6, d7⟩ := hp.cells; clear P; have P := Lib.hid hp; clear hp)
    | (go_at_call 50; refine (P.out.short (by have := HF.out; simp [be_len, strB_len] <;> omega) _ (by have := HF.out; omega) (by have := HF.out; omega)).mono ?_; clear d0 d1 d2 d3 d4 d5 d6 d7; rintro e w2 ⟨rfl, v1, hp⟩; obtain ⟨d0, d1, d2, d3, d4, d5, d6, d7⟩ := hp.cells; clear P; have P := Lib.hid hp; clear hp)
    | (go_at_call 51; refine (P.out.long (by have := HF.out; simp [be_len, strB_len] <;> omega) _ (by have := HF.out; omega) (by have := HF.out; omega)).mono ?_; clear d0 d1 d2 d3 d4 d5 d6 d7; rintro e w2 ⟨rfl, v1, hp⟩; obtain ⟨d0, d1, d2, d3, d4, d5, d6, d7⟩ := hp.cells; clear P; have P := Lib.hid hp; clear hp)
    | (go_at_call 52; refine (P.out.text _ (by have := HF.out; simp [be_len, strB_len] <;> omega)).mono ?_; clear d0 d1 d2 d3 d4 d5 d6 d7; rintro e w2 ⟨rfl, v1, hp⟩; obtain ⟨d0, d1, d2, d3, d4, d5, d6, d7⟩ := hp.cells; clear P; have P := Lib.hid hp; clear hp)
    | (go_at_call 53; refine (P.out.out (by have := HF.out; simp [be_len, strB_len] <;> omega)).mono ?_; clear d0 d1 d2 d3 d4 d5 d6 d7; rintro e w2 ⟨v', rfl, hp, hq⟩; clear P; have P := Lib.hid hp; have Q := Lib.hid hq; clear hp hq))
  go_ret2
  refine put_end (n := 0) P.out Q.out ?_
  simp [encB, headB, keyB, tailB]
set_option maxHeartbeats 4000000 in
set_option maxRecDepth 100000 in
theorem put_3 (node client inc req ver code : Int) (key : ByteArray) (W : World) (hm : mayB ⟨3, node, client, inc, req, ver, key, code⟩ = true) :
    Calls Tryz.prog 13 #[encCmd ⟨3, node, client, inc, req, ver, key, code⟩] W fun e w' => PutPost W ⟨3, node, client, inc, req, ver, key, code⟩ e w' := by
  have HF : Hid (0 ≤ node ∧ node < 255 ∧ 0 ≤ client ∧ client ≤ 65535 ∧ 0 ≤ inc ∧ inc ≤ 4611686018427387904 ∧ 0 ≤ req ∧ req ≤ 4611686018427387904 ∧ 0 ≤ ver ∧ ver ≤ 4611686018427387904 ∧ 0 ≤ code ∧ code ≤ 65535 ∧ key.size ≤ 64) := (show _ ∧ _ from may_parts hm)
  have HM : Hid (∀ W', Calls Tryz.prog 48 #[(.agg #[.int .u8 3, .int .i64 node, .int .i64 client, .int .i64 inc, .int .i64 req, .int .i64 ver, .string key, .int .i64 code] : Value)] W' fun e w' => e = .returned (.bool true) ∧ W'.grownBy w' none) := (fun W' => by
    have h := may_any 3 node client inc req ver code key W' (by have := HF.out; omega)
    rw [hm] at h
    exact h)
  clear hm
  simp only [encCmd]
  go_enter Tryz.func13, Tryz.ntmps13
  go_wp2_with (first
    | (go_at_call 48; refine (HM.out _).mono ?_; rintro e w1 ⟨rfl, hg⟩; obtain ⟨d0, d1, d2, d3, d4, d5, d6, d7⟩ := (PSt.start _ w1 hg).cells; have P := Lib.hid (PSt.start _ w1 hg); clear hg)
    | (go_at_call 49; refine (P.out.byte (by simp) 3 (by omega) (by omega)).mono ?_; clear d0 d1 d2 d3 d4 d5 d6 d7; rintro e w2 ⟨rfl, v1, hp⟩; obtain ⟨d0, d1, d2, d3, d4, d5, d6, d7⟩ := hp.cells; clear P; have P := Lib.hid hp; clear hp)
    | (go_at_call 50; refine (P.out.short (by have := HF.out; simp [be_len, strB_len] <;> omega) _ (by have := HF.out; omega) (by have := HF.out; omega)).mono ?_; clear d0 d1 d2 d3 d4 d5 d6 d7; rintro e w2 ⟨rfl, v1, hp⟩; obtain ⟨d0, d1, d2, d3, d4, d5, d6, d7⟩ := hp.cells; clear P; have P := Lib.hid hp; clear hp)
    | (go_at_call 51; refine (P.out.long (by have := HF.out; simp [be_len, strB_len] <;> omega) _ (by have := HF.out; omega) (by have := HF.out; omega)).mono ?_; clear d0 d1 d2 d3 d4 d5 d6 d7; rintro e w2 ⟨rfl, v1, hp⟩; obtain ⟨d0, d1, d2, d3, d4, d5, d6, d7⟩ := hp.cells; clear P; have P := Lib.hid hp; clear hp)
    | (go_at_call 52; refine (P.out.text _ (by have := HF.out; simp [be_len, strB_len] <;> omega)).mono ?_; clear d0 d1 d2 d3 d4 d5 d6 d7; rintro e w2 ⟨rfl, v1, hp⟩; obtain ⟨d0, d1, d2, d3, d4, d5, d6, d7⟩ := hp.cells; clear P; have P := Lib.hid hp; clear hp)
    | (go_at_call 53; refine (P.out.out (by have := HF.out; simp [be_len, strB_len] <;> omega)).mono ?_; clear d0 d1 d2 d3 d4 d5 d6 d7; rintro e w2 ⟨v', rfl, hp, hq⟩; clear P; have P := Lib.hid hp; have Q := Lib.hid hq; clear hp hq))
  go_ret2
  refine put_end (n := 0) P.out Q.out ?_
  simp [encB, headB, keyB, tailB]
set_option maxHeartbeats 4000000 in
set_option maxRecDepth 100000 in
theorem put_4 (node client inc req ver code : Int) (key : ByteArray) (W : World) (hm : mayB ⟨4, node, client, inc, req, ver, key, code⟩ = true) :
    Calls Tryz.prog 13 #[encCmd ⟨4, node, client, inc, req, ver, key, code⟩] W fun e w' => PutPost W ⟨4, node, client, inc, req, ver, key, code⟩ e w' := by
  have HF : Hid (0 ≤ node ∧ node < 255 ∧ 0 ≤ client ∧ client ≤ 65535 ∧ 0 ≤ inc ∧ inc ≤ 4611686018427387904 ∧ 0 ≤ req ∧ req ≤ 4611686018427387904 ∧ 0 ≤ ver ∧ ver ≤ 4611686018427387904 ∧ 0 ≤ code ∧ code ≤ 65535 ∧ key.size ≤ 64) := (show _ ∧ _ from may_parts hm)
  have HM : Hid (∀ W', Calls Tryz.prog 48 #[(.agg #[.int .u8 4, .int .i64 node, .int .i64 client, .int .i64 inc, .int .i64 req, .int .i64 ver, .string key, .int .i64 code] : Value)] W' fun e w' => e = .returned (.bool true) ∧ W'.grownBy w' none) := (fun W' => by
    have h := may_any 4 node client inc req ver code key W' (by have := HF.out; omega)
    rw [hm] at h
    exact h)
  clear hm
  simp only [encCmd]
  go_enter Tryz.func13, Tryz.ntmps13
  go_wp2_with (first
    | (go_at_call 48; refine (HM.out _).mono ?_; rintro e w1 ⟨rfl, hg⟩; obtain ⟨d0, d1, d2, d3, d4, d5, d6, d7⟩ := (PSt.start _ w1 hg).cells; have P := Lib.hid (PSt.start _ w1 hg); clear hg)
    | (go_at_call 49; refine (P.out.byte (by simp) 4 (by omega) (by omega)).mono ?_; clear d0 d1 d2 d3 d4 d5 d6 d7; rintro e w2 ⟨rfl, v1, hp⟩; obtain ⟨d0, d1, d2, d3, d4, d5, d6, d7⟩ := hp.cells; clear P; have P := Lib.hid hp; clear hp)
    | (go_at_call 50; refine (P.out.short (by have := HF.out; simp [be_len, strB_len] <;> omega) _ (by have := HF.out; omega) (by have := HF.out; omega)).mono ?_; clear d0 d1 d2 d3 d4 d5 d6 d7; rintro e w2 ⟨rfl, v1, hp⟩; obtain ⟨d0, d1, d2, d3, d4, d5, d6, d7⟩ := hp.cells; clear P; have P := Lib.hid hp; clear hp)
    | (go_at_call 51; refine (P.out.long (by have := HF.out; simp [be_len, strB_len] <;> omega) _ (by have := HF.out; omega) (by have := HF.out; omega)).mono ?_; clear d0 d1 d2 d3 d4 d5 d6 d7; rintro e w2 ⟨rfl, v1, hp⟩; obtain ⟨d0, d1, d2, d3, d4, d5, d6, d7⟩ := hp.cells; clear P; have P := Lib.hid hp; clear hp)
    | (go_at_call 52; refine (P.out.text _ (by have := HF.out; simp [be_len, strB_len] <;> omega)).mono ?_; clear d0 d1 d2 d3 d4 d5 d6 d7; rintro e w2 ⟨rfl, v1, hp⟩; obtain ⟨d0, d1, d2, d3, d4, d5, d6, d7⟩ := hp.cells; clear P; have P := Lib.hid hp; clear hp)
    | (go_at_call 53; refine (P.out.out (by have := HF.out; simp [be_len, strB_len] <;> omega)).mono ?_; clear d0 d1 d2 d3 d4 d5 d6 d7; rintro e w2 ⟨v', rfl, hp, hq⟩; clear P; have P := Lib.hid hp; have Q := Lib.hid hq; clear hp hq))
  go_ret2
  refine put_end (n := 0) P.out Q.out ?_
  simp [encB, headB, keyB, tailB]
set_option maxHeartbeats 4000000 in
set_option maxRecDepth 100000 in
theorem put_5 (node client inc req ver code : Int) (key : ByteArray) (W : World) (hm : mayB ⟨5, node, client, inc, req, ver, key, code⟩ = true) :
    Calls Tryz.prog 13 #[encCmd ⟨5, node, client, inc, req, ver, key, code⟩] W fun e w' => PutPost W ⟨5, node, client, inc, req, ver, key, code⟩ e w' := by
  have HF : Hid (0 ≤ node ∧ node < 255 ∧ 0 ≤ client ∧ client ≤ 65535 ∧ 0 ≤ inc ∧ inc ≤ 4611686018427387904 ∧ 0 ≤ req ∧ req ≤ 4611686018427387904 ∧ 0 ≤ ver ∧ ver ≤ 4611686018427387904 ∧ 0 ≤ code ∧ code ≤ 65535 ∧ key.size ≤ 64) := (show _ ∧ _ from may_parts hm)
  have HM : Hid (∀ W', Calls Tryz.prog 48 #[(.agg #[.int .u8 5, .int .i64 node, .int .i64 client, .int .i64 inc, .int .i64 req, .int .i64 ver, .string key, .int .i64 code] : Value)] W' fun e w' => e = .returned (.bool true) ∧ W'.grownBy w' none) := (fun W' => by
    have h := may_any 5 node client inc req ver code key W' (by have := HF.out; omega)
    rw [hm] at h
    exact h)
  clear hm
  simp only [encCmd]
  go_enter Tryz.func13, Tryz.ntmps13
  go_wp2_with (first
    | (go_at_call 48; refine (HM.out _).mono ?_; rintro e w1 ⟨rfl, hg⟩; obtain ⟨d0, d1, d2, d3, d4, d5, d6, d7⟩ := (PSt.start _ w1 hg).cells; have P := Lib.hid (PSt.start _ w1 hg); clear hg)
    | (go_at_call 49; refine (P.out.byte (by simp) 5 (by omega) (by omega)).mono ?_; clear d0 d1 d2 d3 d4 d5 d6 d7; rintro e w2 ⟨rfl, v1, hp⟩; obtain ⟨d0, d1, d2, d3, d4, d5, d6, d7⟩ := hp.cells; clear P; have P := Lib.hid hp; clear hp)
    | (go_at_call 50; refine (P.out.short (by have := HF.out; simp [be_len, strB_len] <;> omega) _ (by have := HF.out; omega) (by have := HF.out; omega)).mono ?_; clear d0 d1 d2 d3 d4 d5 d6 d7; rintro e w2 ⟨rfl, v1, hp⟩; obtain ⟨d0, d1, d2, d3, d4, d5, d6, d7⟩ := hp.cells; clear P; have P := Lib.hid hp; clear hp)
    | (go_at_call 51; refine (P.out.long (by have := HF.out; simp [be_len, strB_len] <;> omega) _ (by have := HF.out; omega) (by have := HF.out; omega)).mono ?_; clear d0 d1 d2 d3 d4 d5 d6 d7; rintro e w2 ⟨rfl, v1, hp⟩; obtain ⟨d0, d1, d2, d3, d4, d5, d6, d7⟩ := hp.cells; clear P; have P := Lib.hid hp; clear hp)
    | (go_at_call 52; refine (P.out.text _ (by have := HF.out; simp [be_len, strB_len] <;> omega)).mono ?_; clear d0 d1 d2 d3 d4 d5 d6 d7; rintro e w2 ⟨rfl, v1, hp⟩; obtain ⟨d0, d1, d2, d3, d4, d5, d6, d7⟩ := hp.cells; clear P; have P := Lib.hid hp; clear hp)
    | (go_at_call 53; refine (P.out.out (by have := HF.out; simp [be_len, strB_len] <;> omega)).mono ?_; clear d0 d1 d2 d3 d4 d5 d6 d7; rintro e w2 ⟨v', rfl, hp, hq⟩; clear P; have P := Lib.hid hp; have Q := Lib.hid hq; clear hp hq))
  go_ret2
  refine put_end (n := 0) P.out Q.out ?_
  simp [encB, headB, keyB, tailB]
set_option maxHeartbeats 4000000 in
set_option maxRecDepth 100000 in
theorem put_6 (node client inc req ver code : Int) (key : ByteArray) (W : World) (hm : mayB ⟨6, node, client, inc, req, ver, key, code⟩ = true) :
    Calls Tryz.prog 13 #[encCmd ⟨6, node, client, inc, req, ver, key, code⟩] W fun e w' => PutPost W ⟨6, node, client, inc, req, ver, key, code⟩ e w' := by
  have HF : Hid (0 ≤ node ∧ node < 255 ∧ 0 ≤ client ∧ client ≤ 65535 ∧ 0 ≤ inc ∧ inc ≤ 4611686018427387904 ∧ 0 ≤ req ∧ req ≤ 4611686018427387904 ∧ 0 ≤ ver ∧ ver ≤ 4611686018427387904 ∧ 0 ≤ code ∧ code ≤ 65535 ∧ key.size ≤ 64) := (show _ ∧ _ from may_parts hm)
  have HM : Hid (∀ W', Calls Tryz.prog 48 #[(.agg #[.int .u8 6, .int .i64 node, .int .i64 client, .int .i64 inc, .int .i64 req, .int .i64 ver, .string key, .int .i64 code] : Value)] W' fun e w' => e = .returned (.bool true) ∧ W'.grownBy w' none) := (fun W' => by
    have h := may_any 6 node client inc req ver code key W' (by have := HF.out; omega)
    rw [hm] at h
    exact h)
  clear hm
  simp only [encCmd]
  go_enter Tryz.func13, Tryz.ntmps13
  go_wp2_with (first
    | (go_at_call 48; refine (HM.out _).mono ?_; rintro e w1 ⟨rfl, hg⟩; obtain ⟨d0, d1, d2, d3, d4, d5, d6, d7⟩ := (PSt.start _ w1 hg).cells; have P := Lib.hid (PSt.start _ w1 hg); clear hg)
    | (go_at_call 49; refine (P.out.byte (by simp) 6 (by omega) (by omega)).mono ?_; clear d0 d1 d2 d3 d4 d5 d6 d7; rintro e w2 ⟨rfl, v1, hp⟩; obtain ⟨d0, d1, d2, d3, d4, d5, d6, d7⟩ := hp.cells; clear P; have P := Lib.hid hp; clear hp)
    | (go_at_call 50; refine (P.out.short (by have := HF.out; simp [be_len, strB_len] <;> omega) _ (by have := HF.out; omega) (by have := HF.out; omega)).mono ?_; clear d0 d1 d2 d3 d4 d5 d6 d7; rintro e w2 ⟨rfl, v1, hp⟩; obtain ⟨d0, d1, d2, d3, d4, d5, d6, d7⟩ := hp.cells; clear P; have P := Lib.hid hp; clear hp)
    | (go_at_call 51; refine (P.out.long (by have := HF.out; simp [be_len, strB_len] <;> omega) _ (by have := HF.out; omega) (by have := HF.out; omega)).mono ?_; clear d0 d1 d2 d3 d4 d5 d6 d7; rintro e w2 ⟨rfl, v1, hp⟩; obtain ⟨d0, d1, d2, d3, d4, d5, d6, d7⟩ := hp.cells; clear P; have P := Lib.hid hp; clear hp)
    | (go_at_call 52; refine (P.out.text _ (by have := HF.out; simp [be_len, strB_len] <;> omega)).mono ?_; clear d0 d1 d2 d3 d4 d5 d6 d7; rintro e w2 ⟨rfl, v1, hp⟩; obtain ⟨d0, d1, d2, d3, d4, d5, d6, d7⟩ := hp.cells; clear P; have P := Lib.hid hp; clear hp)
    | (go_at_call 53; refine (P.out.out (by have := HF.out; simp [be_len, strB_len] <;> omega)).mono ?_; clear d0 d1 d2 d3 d4 d5 d6 d7; rintro e w2 ⟨v', rfl, hp, hq⟩; clear P; have P := Lib.hid hp; have Q := Lib.hid hq; clear hp hq))
  go_ret2
  refine put_end (n := 0) P.out Q.out ?_
  simp [encB, headB, keyB, tailB]
set_option maxHeartbeats 4000000 in
set_option maxRecDepth 100000 in
theorem put_7 (node client inc req ver code : Int) (key : ByteArray) (W : World) (hm : mayB ⟨7, node, client, inc, req, ver, key, code⟩ = true) :
    Calls Tryz.prog 13 #[encCmd ⟨7, node, client, inc, req, ver, key, code⟩] W fun e w' => PutPost W ⟨7, node, client, inc, req, ver, key, code⟩ e w' := by
  have HF : Hid (0 ≤ node ∧ node < 255 ∧ 0 ≤ client ∧ client ≤ 65535 ∧ 0 ≤ inc ∧ inc ≤ 4611686018427387904 ∧ 0 ≤ req ∧ req ≤ 4611686018427387904 ∧ 0 ≤ ver ∧ ver ≤ 4611686018427387904 ∧ 0 ≤ code ∧ code ≤ 65535 ∧ key.size ≤ 64) := (show _ ∧ _ from may_parts hm)
  have HM : Hid (∀ W', Calls Tryz.prog 48 #[(.agg #[.int .u8 7, .int .i64 node, .int .i64 client, .int .i64 inc, .int .i64 req, .int .i64 ver, .string key, .int .i64 code] : Value)] W' fun e w' => e = .returned (.bool true) ∧ W'.grownBy w' none) := (fun W' => by
    have h := may_any 7 node client inc req ver code key W' (by have := HF.out; omega)
    rw [hm] at h
    exact h)
  clear hm
  simp only [encCmd]
  go_enter Tryz.func13, Tryz.ntmps13
  go_wp2_with (first
    | (go_at_call 48; refine (HM.out _).mono ?_; rintro e w1 ⟨rfl, hg⟩; obtain ⟨d0, d1, d2, d3, d4, d5, d6, d7⟩ := (PSt.start _ w1 hg).cells; have P := Lib.hid (PSt.start _ w1 hg); clear hg)
    | (go_at_call 49; refine (P.out.byte (by simp) 7 (by omega) (by omega)).mono ?_; clear d0 d1 d2 d3 d4 d5 d6 d7; rintro e w2 ⟨rfl, v1, hp⟩; obtain ⟨d0, d1, d2, d3, d4, d5, d6, d7⟩ := hp.cells; clear P; have P := Lib.hid hp; clear hp)
    | (go_at_call 50; refine (P.out.short (by have := HF.out; simp [be_len, strB_len] <;> omega) _ (by have := HF.out; omega) (by have := HF.out; omega)).mono ?_; clear d0 d1 d2 d3 d4 d5 d6 d7; rintro e w2 ⟨rfl, v1, hp⟩; obtain ⟨d0, d1, d2, d3, d4, d5, d6, d7⟩ := hp.cells; clear P; have P := Lib.hid hp; clear hp)
    | (go_at_call 51; refine (P.out.long (by have := HF.out; simp [be_len, strB_len] <;> omega) _ (by have := HF.out; omega) (by have := HF.out; omega)).mono ?_; clear d0 d1 d2 d3 d4 d5 d6 d7; rintro e w2 ⟨rfl, v1, hp⟩; obtain ⟨d0, d1, d2, d3, d4, d5, d6, d7⟩ := hp.cells; clear P; have P := Lib.hid hp; clear hp)
    | (go_at_call 52; refine (P.out.text _ (by have := HF.out; simp [be_len, strB_len] <;> omega)).mono ?_; clear d0 d1 d2 d3 d4 d5 d6 d7; rintro e w2 ⟨rfl, v1, hp⟩; obtain ⟨d0, d1, d2, d3, d4, d5, d6, d7⟩ := hp.cells; clear P; have P := Lib.hid hp; clear hp)
    | (go_at_call 53; refine (P.out.out (by have := HF.out; simp [be_len, strB_len] <;> omega)).mono ?_; clear d0 d1 d2 d3 d4 d5 d6 d7; rintro e w2 ⟨v', rfl, hp, hq⟩; clear P; have P := Lib.hid hp; have Q := Lib.hid hq; clear hp hq))
  go_ret2
  refine put_end (n := 0) P.out Q.out ?_
  simp [encB, headB, keyB, tailB]
set_option maxRecDepth 100000 in
theorem put_bad (c : Cmd) (hk : (c.key.size : Int) ≤ 9223372036854775807) (W : World) (hm : mayB c = false) :
    Calls Tryz.prog 13 #[encCmd c] W fun e w' => e = .returned (.tuple #[.slice none 0 0, .int .i64 2]) ∧ W.grownBy w' none := by
  obtain ⟨kind, node, client, inc, req, ver, key, code⟩ := c
  have HM : Hid (∀ W', Calls Tryz.prog 48 #[(.agg #[.int .u8 kind, .int .i64 node, .int .i64 client, .int .i64 inc, .int .i64 req, .int .i64 ver, .string key, .int .i64 code] : Value)] W' fun e w' => e = .returned (.bool false) ∧ W'.grownBy w' none) := (fun W' => by
    have h := may_any kind node client inc req ver code key W' hk
    rw [hm] at h
    exact h)
  clear hm
  simp only [encCmd]
  go_enter Tryz.func13, Tryz.ntmps13
  go_wp2_with (go_at_call 48; refine (HM.out _).mono ?_; rintro e w1 ⟨rfl, hg⟩; have P := Lib.hid hg; clear hg)
  go_ret2
  exact ⟨rfl, grown_trans (World.grownBy_alloc W _ none) P.out⟩
theorem put_ok (c : Cmd) (W : World) (hm : mayB c = true) : Calls Tryz.prog 13 #[encCmd c] W fun e w' => PutPost W c e w' := by
  obtain ⟨⟨k1, k7⟩, -⟩ := may_bare hm
  obtain ⟨kind, node, client, inc, req, ver, key, code⟩ := c
  simp only at k1 k7
  have h : kind = 1 ∨ kind = 2 ∨ kind = 3 ∨ kind = 4 ∨ kind = 5 ∨ kind = 6 ∨ kind = 7 := by omega
  rcases h with rfl | rfl | rfl | rfl | rfl | rfl | rfl
  · exact put_1 _ _ _ _ _ _ _ _ hm
  · exact put_2 _ _ _ _ _ _ _ _ hm
  · exact put_3 _ _ _ _ _ _ _ _ hm
  · exact put_4 _ _ _ _ _ _ _ _ hm
  · exact put_5 _ _ _ _ _ _ _ _ hm
  · exact put_6 _ _ _ _ _ _ _ _ hm
  · exact put_7 _ _ _ _ _ _ _ _ hm
end Go.Proofs.YtjfelfjobeeenaaGreat
