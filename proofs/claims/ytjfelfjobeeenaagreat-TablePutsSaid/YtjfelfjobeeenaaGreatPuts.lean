/- TablePuts: the walks. Conditions: as the theorems say. -/
import Derived.Test.YtjfelfjobeeenaaGreatPuts1
import Derived.Deep.RegionHeld3
import Derived.Deep.DeepCutAuto
namespace Go.Proofs.YtjfelfjobeeenaaGreat
open Go.RowKit Go.Sf
set_option linter.unusedVariables false
theorem enc_len {c : Cmd} (h : mayB c = true) : (encB c).length ≤ 200 := by
  obtain ⟨p1, p2, p3, p4, p5, p6, p7, p8, p9, p10, p11, p12, p13⟩ := may_parts h
  have h1 : (headB c).length ≤ 10 := by simp only [headB]; repeat' split
                                        all_goals simp [be_len]
  have h2 : (keyB c).length ≤ 65 := by simp only [keyB]; split <;> simp [be_len, strB_len]; omega
  have h3 : (tailB c).length ≤ 8 := by simp only [tailB]; repeat' split
                                       all_goals simp [be_len]
  simp only [encB, List.length_append, be_len]
  omega
set_option maxHeartbeats 8000000 in
set_option maxRecDepth 100000 in
theorem puts_ys (kind node client inc req ver code : Int) (key : ByteArray) (hm : mayB ⟨kind, node, client, inc, req, ver, key, code⟩ = true) (hk : key.size ≤ 300) (pb : Option Addr) (cb : Nat) (l : List Int) (W : World) (hb : BRow W.heap.size W (.slice pb l.length cb) l) (hl : BL l) (hl4 : l.length ≤ 400) (dk dn dc di dr dv do_ : Int) (dy : ByteArray) (hd : decB l = some ⟨dk, dn, dc, di, dr, dv, dy, do_⟩) :
    Calls Tryz.prog 3 #[(.agg #[.int .u8 kind, .int .i64 node, .int .i64 client, .int .i64 inc, .int .i64 req, .int .i64 ver, .string key, .int .i64 code] : Value), .slice pb l.length cb] W fun e w' => e = .returned (.bool true) ∧ W.grownBy w' none := by
  have HPL : Hid (∀ W', Calls Tryz.prog 12 #[(.agg #[.int .u8 kind, .int .i64 node, .int .i64 client, .int .i64 inc, .int .i64 req, .int .i64 ver, .string key, .int .i64 code] : Value)] W' fun e w' => e = .returned (.agg #[.int .u8 kind, .int .i64 node, .int .i64 client, .int .i64 inc, .int .i64 req, .int .i64 ver, .string key, .int .i64 code] : Value) ∧ W'.grownBy w' none) := (show ∀ _, _ from fun W' => plain_any ⟨kind, node, client, inc, req, ver, key, code⟩ W')
  have HMY : Hid (∀ W', Calls Tryz.prog 11 #[(.agg #[.int .u8 kind, .int .i64 node, .int .i64 client, .int .i64 inc, .int .i64 req, .int .i64 ver, .string key, .int .i64 code] : Value)] W' fun e w' => e = .returned (.bool true) ∧ W'.grownBy w' none) := (show ∀ _, _ from fun W' => by have h := rmay_any ⟨kind, node, client, inc, req, ver, key, code⟩ (by simp only; omega) W'; rw [hm] at h; exact h)
  have HWK := Lib.hid works_any
  have HE0 : Hid (decB (encB ⟨kind, node, client, inc, req, ver, key, code⟩) = some ⟨kind, node, client, inc, req, ver, key, code⟩) := (show decB (encB ⟨kind, node, client, inc, req, ver, key, code⟩) = some ⟨kind, node, client, inc, req, ver, key, code⟩ from dec_enc hm)
  have HE1 : Hid (decB (encB ⟨kind, node, client, inc, req, ver, key, code⟩).dropLast = none) := (show decB (encB ⟨kind, node, client, inc, req, ver, key, code⟩).dropLast = none from dec_less hm)
  have HE2 : Hid (decB (encB ⟨kind, node, client, inc, req, ver, key, code⟩ ++ [0]) = none) := (show decB (encB ⟨kind, node, client, inc, req, ver, key, code⟩ ++ [0]) = none from dec_more hm 0)
  have HEB : Hid (BL (encB ⟨kind, node, client, inc, req, ver, key, code⟩)) := (show BL (encB ⟨kind, node, client, inc, req, ver, key, code⟩) from enc_BL _)
  have HEL : Hid ((encB ⟨kind, node, client, inc, req, ver, key, code⟩).length ≤ 200) := (show (encB ⟨kind, node, client, inc, req, ver, key, code⟩).length ≤ 200 from enc_len hm)
  have HPU : Hid (∀ W', Calls Tryz.prog 13 #[(.agg #[.int .u8 kind, .int .i64 node, .int .i64 client, .int .i64 inc, .int .i64 req, .int .i64 ver, .string key, .int .i64 code] : Value)] W' fun e w' => ∃ v', e = .returned (.tuple #[v', .int .i64 0]) ∧ w'.ownsRow W'.heap.size 5 1 v' (encB ⟨kind, node, client, inc, req, ver, key, code⟩).length (bytesV (encB ⟨kind, node, client, inc, req, ver, key, code⟩)) ∧ W'.grownBy w' none) := (show ∀ _, _ from fun W' => put_ok ⟨kind, node, client, inc, req, ver, key, code⟩ W' hm)
  have HRB : Hid (∀ W', Calls Tryz.prog 14 #[(.agg #[.int .u8 kind, .int .i64 node, .int .i64 client, .int .i64 inc, .int .i64 req, .int .i64 ver, .string key, .int .i64 code] : Value)] W' fun e w' => ∃ v, e = .returned v ∧ w'.ownsRow W'.heap.size 5 1 v (encB ⟨kind, node, client, inc, req, ver, key, code⟩).length (bytesV (encB ⟨kind, node, client, inc, req, ver, key, code⟩)) ∧ W'.grownBy w' none) := (show ∀ _, _ from fun W' => rbytes_any ⟨kind, node, client, inc, req, ver, key, code⟩ W' hm)
  have hne := enc_ne ⟨kind, node, client, inc, req, ver, key, code⟩
  generalize encB ⟨kind, node, client, inc, req, ver, key, code⟩ = E at *
  obtain ⟨m, hEm⟩ : ∃ m, E.length = m + 1 := ⟨E.length - 1, by have : E.length ≠ 0 := fun h => hne (List.eq_nil_of_length_eq_zero h); omega⟩
  rw [hEm] at HPU HRB HEL
  have HEM := Lib.hid hEm
  have hm200 : m ≤ 200 := by have := HEL.out; omega
  clear hne hEm
  have HDM : Hid (mayB ⟨dk, dn, dc, di, dr, dv, dy, do_⟩ = true ∧ encB ⟨dk, dn, dc, di, dr, dv, dy, do_⟩ = l) := (show _ ∧ _ from dec_some hl hd)
  have HPD : Hid (∀ W', Calls Tryz.prog 13 #[(.agg #[.int .u8 dk, .int .i64 dn, .int .i64 dc, .int .i64 di, .int .i64 dr, .int .i64 dv, .string dy, .int .i64 do_] : Value)] W' fun e w' => ∃ v', e = .returned (.tuple #[v', .int .i64 0]) ∧ w'.ownsRow W'.heap.size 5 1 v' l.length (bytesV l) ∧ W'.grownBy w' none) := (show ∀ _, _ from fun W' => by have h := put_ok ⟨dk, dn, dc, di, dr, dv, dy, do_⟩ W' HDM.out.1; unfold PutPost at h; rw [HDM.out.2] at h; exact h)
  clear HDM
  have HB := Lib.hid hb
  have HBL := Lib.hid hl
  have HD := Lib.hid hd
  have hkey : (key.size : Int) ≤ 300 := by omega
  have hn400 : (l.length : Int) ≤ 400 := by omega
  clear hm hb hl hd
  go_enter Tryz.func3, Tryz.ntmps3
  go_upto_region 5 with (first
    | (go_at_call 12; refine (HPL.out _).mono ?_; rintro e w1 ⟨rfl, hg⟩; have HGA := Lib.hid hg; clear hg)
    | (go_at_call 11; refine (HMY.out _).mono ?_; rintro e w2 ⟨rfl, hg⟩; have HGB := Lib.hid (grown_trans HGA.out hg); clear hg; obtain ⟨d0, d1, d2, d3, d4, d5, d6, d7⟩ := cells8 HGB.out)
    | (go_at_call 13; refine (HPU.out _).mono ?_; rintro e w3 ⟨xv, rfl, hrow, hg⟩; obtain ⟨px, cx, rfl⟩ := slice_form hrow; have HX := Lib.hid (brow_of_row (l := E) (by rw [HEM.out]; exact hrow)); have H0 := Lib.hid (grown_trans HGB.out hg); clear hrow hg))
  clear d0 d1 d2 d3 d4 d5 d6 d7
  clear HGA HGB
  go_cut [64] (fun s wx => s = .bool false ∧ w3.grownBy wx none)
  case first =>
    have kS := put_keep H0.out HX.out (grown_refl w3)
    have HGp := Lib.hid (grown_refl w3)
    refine wp_region_held_drew (S := fun w' => w'.cell? ⟨W.heap.size, 0, none⟩ = some (.int .u8 kind) ∧ w'.cell? ⟨W.heap.size, 1, none⟩ = some (.int .i64 node) ∧ w'.cell? ⟨W.heap.size, 2, none⟩ = some (.int .i64 client) ∧ w'.cell? ⟨W.heap.size, 3, none⟩ = some (.int .i64 inc) ∧ w'.cell? ⟨W.heap.size, 4, none⟩ = some (.int .i64 req) ∧ w'.cell? ⟨W.heap.size, 5, none⟩ = some (.int .i64 ver) ∧ w'.cell? ⟨W.heap.size, 6, none⟩ = some (.string key) ∧ w'.cell? ⟨W.heap.size, 7, none⟩ = some (.int .i64 code) ∧ (convert 25 9 (.slice px (m + 1) cx)).run Tryz.prog w' = .ok (.string (ofB E)) w') (by kernel_rfl) (put_keep H0.out HX.out (grown_drew (grown_refl w3))) (fun hHeld => ?_)
    refine wpAnyH_take (i := 0) (oi := { dst := some 36, op := Op.move (Operand.tmp 7), type := 22, pos := "law.go:44", after := #[], guard := none }) (v := ?_) rfl (by kernel_rfl) (by kernel_rfl) (by kernel_rfl) (fun _ _ _ h => h) (Or.inl ⟨by rfl, ?_⟩) hHeld ?_
    rotate_left
    · intro w hSw; (try dsimp only at hSw); go_simp; try with_reducible rfl
    (try simp only [Act.put, List.setIfInBounds_toArray, List.set_cons_zero, List.set_cons_succ])
    refine wpAnyH_take (i := 1) (oi := { dst := some 37, op := Op.binOp BinOp.eql 22 (Operand.tmp 36) (Operand.const (Value.int IntKind.i64 0)) 22, type := 4, pos := "law.go:44", after := #[{ on := 0, ground := Ground.data }], guard := none }) (v := ?_) rfl (by kernel_rfl) (by kernel_rfl) (by kernel_rfl) (fun _ _ _ h => h) (Or.inl ⟨by rfl, ?_⟩) hHeld ?_
    rotate_left
    · intro w hSw; (try dsimp only at hSw); go_simp; try with_reducible rfl
    (try simp only [Act.put, List.setIfInBounds_toArray, List.set_cons_zero, List.set_cons_succ])
    refine wpAnyH_take (i := 2) (oi := { dst := some 38, op := Op.move (Operand.tmp 5), type := 4, pos := "law.go:44", after := #[], guard := none }) (v := ?_) rfl (by kernel_rfl) (by kernel_rfl) (by kernel_rfl) (fun _ _ _ h => h) (Or.inl ⟨by rfl, ?_⟩) hHeld ?_
    rotate_left
    · intro w hSw; (try dsimp only at hSw); go_simp; try with_reducible rfl
    (try simp only [Act.put, List.setIfInBounds_toArray, List.set_cons_zero, List.set_cons_succ])
    refine wpAnyH_take (i := 3) (oi := { dst := some 39, op := Op.binOp BinOp.neq 4 (Operand.tmp 37) (Operand.tmp 38) 4, type := 4, pos := "law.go:44", after := #[{ on := 1, ground := Ground.data }, { on := 2, ground := Ground.data }], guard := none }) (v := ?_) rfl (by kernel_rfl) (by kernel_rfl) (by kernel_rfl) (fun _ _ _ h => h) (Or.inl ⟨by rfl, ?_⟩) hHeld ?_
    rotate_left
    · intro w hSw; (try dsimp only at hSw); go_simp; try with_reducible rfl
    (try simp only [Act.put, List.setIfInBounds_toArray, List.set_cons_zero, List.set_cons_succ])
    refine wpAnyH_take (i := 4) (oi := { dst := some 40, op := Op.move (Operand.tmp 39), type := 4, pos := "law.go:44", after := #[{ on := 3, ground := Ground.data }], guard := none }) (v := ?_) rfl (by kernel_rfl) (by kernel_rfl) (by kernel_rfl) (fun _ _ _ h => h) (Or.inl ⟨by rfl, ?_⟩) hHeld ?_
    rotate_left
    · intro w hSw; (try dsimp only at hSw); go_simp; try with_reducible rfl
    (try simp only [Act.put, List.setIfInBounds_toArray, List.set_cons_zero, List.set_cons_succ])
    refine wpAnyH_take (i := 5) (oi := { dst := some 41, op := Op.move (Operand.tmp 5), type := 4, pos := "law.go:44", after := #[{ on := 4, ground := Ground.guard }], guard := some (4, false) }) (v := ?_) rfl (by kernel_rfl) (by kernel_rfl) (by kernel_rfl) (fun _ _ _ h => h) (Or.inl ⟨by rfl, ?_⟩) hHeld ?_
    rotate_left
    · intro w hSw; (try dsimp only at hSw); go_simp; try with_reducible rfl
    (try simp only [Act.put, List.setIfInBounds_toArray, List.set_cons_zero, List.set_cons_succ])
    refine wpAnyH_take (i := 6) (oi := { dst := some 42, op := Op.unOp UnOp.not 4 (Operand.tmp 41), type := 4, pos := "law.go:44", after := #[{ on := 5, ground := Ground.data }, { on := 4, ground := Ground.guard }], guard := some (4, false) }) (v := ?_) rfl (by kernel_rfl) (by kernel_rfl) (by kernel_rfl) (fun _ _ _ h => h) (Or.inl ⟨by rfl, ?_⟩) hHeld ?_
    rotate_left
    · intro w hSw; (try dsimp only at hSw); go_simp; try with_reducible rfl
    (try simp only [Act.put, List.setIfInBounds_toArray, List.set_cons_zero, List.set_cons_succ])
    refine wpAnyH_take (i := 7) (oi := { dst := some 43, op := Op.move (Operand.tmp 42), type := 4, pos := "law.go:44", after := #[{ on := 6, ground := Ground.data }, { on := 4, ground := Ground.chain }, { on := 4, ground := Ground.guard }], guard := some (4, false) }) (v := ?_) rfl (by kernel_rfl) (by kernel_rfl) (by kernel_rfl) (fun _ _ _ h => h) (Or.inl ⟨by rfl, ?_⟩) hHeld ?_
    rotate_left
    · intro w hSw; (try dsimp only at hSw); go_simp; try with_reducible rfl
    (try simp only [Act.put, List.setIfInBounds_toArray, List.set_cons_zero, List.set_cons_succ])
    refine wpAnyH_take (i := 8) (oi := { dst := some 44, op := Op.move (Operand.tmp 7), type := 22, pos := "law.go:44", after := #[{ on := 7, ground := Ground.guard }], guard := some (7, true) }) (v := undef) rfl (by kernel_rfl) (by kernel_rfl) (by kernel_rfl) (fun _ _ _ h => h) (Or.inr ⟨by rfl, rfl⟩) hHeld ?_
    (try simp only [Act.put, List.setIfInBounds_toArray, List.set_cons_zero, List.set_cons_succ])
    refine wpAnyH_take (i := 9) (oi := { dst := some 45, op := Op.binOp BinOp.neq 22 (Operand.tmp 44) (Operand.const (Value.int IntKind.i64 2)) 22, type := 4, pos := "law.go:44", after := #[{ on := 8, ground := Ground.data }, { on := 7, ground := Ground.guard }], guard := some (7, true) }) (v := undef) rfl (by kernel_rfl) (by kernel_rfl) (by kernel_rfl) (fun _ _ _ h => h) (Or.inr ⟨by rfl, rfl⟩) hHeld ?_
    (try simp only [Act.put, List.setIfInBounds_toArray, List.set_cons_zero, List.set_cons_succ])
    refine wpAnyH_take (i := 10) (oi := { dst := some 46, op := Op.move (Operand.tmp 45), type := 4, pos := "law.go:44", after := #[{ on := 9, ground := Ground.data }, { on := 7, ground := Ground.chain }, { on := 7, ground := Ground.guard }], guard := some (7, true) }) (v := undef) rfl (by kernel_rfl) (by kernel_rfl) (by kernel_rfl) (fun _ _ _ h => h) (Or.inr ⟨by rfl, rfl⟩) hHeld ?_
    (try simp only [Act.put, List.setIfInBounds_toArray, List.set_cons_zero, List.set_cons_succ])
    refine wpAnyH_take (i := 11) (oi := { dst := some 47, op := Op.move (Operand.tmp 6), type := 25, pos := "law.go:44", after := #[{ on := 10, ground := Ground.guard }], guard := some (10, false) }) (v := undef) rfl (by kernel_rfl) (by kernel_rfl) (by kernel_rfl) (fun _ _ _ h => h) (Or.inr ⟨by rfl, rfl⟩) hHeld ?_
    (try simp only [Act.put, List.setIfInBounds_toArray, List.set_cons_zero, List.set_cons_succ])
    refine wpAnyH_take (i := 12) (oi := { dst := some 48, op := Op.call { callee := Callee.builtin Builtin.len, args := #[Operand.tmp 47], argTypes := #[25] }, type := 3, pos := "law.go:44", after := #[{ on := 11, ground := Ground.data }, { on := 10, ground := Ground.guard }], guard := some (10, false) }) (v := undef) rfl (by kernel_rfl) (by kernel_rfl) (by kernel_rfl) (fun _ _ _ h => h) (Or.inr ⟨by rfl, rfl⟩) hHeld ?_
    (try simp only [Act.put, List.setIfInBounds_toArray, List.set_cons_zero, List.set_cons_succ])
    refine wpAnyH_take (i := 13) (oi := { dst := some 49, op := Op.binOp BinOp.gtr 3 (Operand.tmp 48) (Operand.const (Value.int IntKind.i64 0)) 3, type := 4, pos := "law.go:44", after := #[{ on := 12, ground := Ground.data }, { on := 10, ground := Ground.guard }], guard := some (10, false) }) (v := undef) rfl (by kernel_rfl) (by kernel_rfl) (by kernel_rfl) (fun _ _ _ h => h) (Or.inr ⟨by rfl, rfl⟩) hHeld ?_
    (try simp only [Act.put, List.setIfInBounds_toArray, List.set_cons_zero, List.set_cons_succ])
    refine wpAnyH_take (i := 14) (oi := { dst := some 50, op := Op.pick (Operand.tmp 46) (Operand.const (Value.bool true)) (Operand.tmp 49), type := 4, pos := "law.go:44", after := #[{ on := 10, ground := Ground.data }, { on := 13, ground := Ground.data }, { on := 7, ground := Ground.guard }], guard := some (7, true) }) (v := undef) rfl (by kernel_rfl) (by kernel_rfl) (by kernel_rfl) (fun _ _ _ h => h) (Or.inr ⟨by rfl, rfl⟩) hHeld ?_
    (try simp only [Act.put, List.setIfInBounds_toArray, List.set_cons_zero, List.set_cons_succ])
    refine wpAnyH_take (i := 15) (oi := { dst := some 51, op := Op.pick (Operand.tmp 43) (Operand.tmp 50) (Operand.const (Value.bool false)), type := 4, pos := "law.go:44", after := #[{ on := 7, ground := Ground.data }, { on := 14, ground := Ground.data }, { on := 4, ground := Ground.guard }], guard := some (4, false) }) (v := ?_) rfl (by kernel_rfl) (by kernel_rfl) (by kernel_rfl) (fun _ _ _ h => h) (Or.inl ⟨by rfl, ?_⟩) hHeld ?_
    rotate_left
    · intro w hSw; (try dsimp only at hSw); go_simp; try with_reducible rfl
    (try simp only [Act.put, List.setIfInBounds_toArray, List.set_cons_zero, List.set_cons_succ])
    refine wpAnyH_take (i := 16) (oi := { dst := some 52, op := Op.pick (Operand.tmp 40) (Operand.const (Value.bool true)) (Operand.tmp 51), type := 4, pos := "law.go:44", after := #[{ on := 4, ground := Ground.data }, { on := 15, ground := Ground.data }], guard := none }) (v := ?_) rfl (by kernel_rfl) (by kernel_rfl) (by kernel_rfl) (fun _ _ _ h => h) (Or.inl ⟨by rfl, ?_⟩) hHeld ?_
    rotate_left
    · intro w hSw; (try dsimp only at hSw); go_simp; try with_reducible rfl
    (try simp only [Act.put, List.setIfInBounds_toArray, List.set_cons_zero, List.set_cons_succ])
    refine wpAnyH_take (i := 17) (oi := { dst := some 53, op := Op.move (Operand.tmp 52), type := 4, pos := "law.go:44", after := #[{ on := 16, ground := Ground.data }, { on := 10, ground := Ground.chain }], guard := none }) (v := ?_) rfl (by kernel_rfl) (by kernel_rfl) (by kernel_rfl) (fun _ _ _ h => h) (Or.inl ⟨by rfl, ?_⟩) hHeld ?_
    rotate_left
    · intro w hSw; (try dsimp only at hSw); go_simp; try with_reducible rfl
    (try simp only [Act.put, List.setIfInBounds_toArray, List.set_cons_zero, List.set_cons_succ])
    refine wpAnyH_take (i := 18) (oi := { dst := some 54, op := Op.move (Operand.tmp 5), type := 4, pos := "law.go:44", after := #[{ on := 17, ground := Ground.guard }], guard := some (17, false) }) (v := ?_) rfl (by kernel_rfl) (by kernel_rfl) (by kernel_rfl) (fun _ _ _ h => h) (Or.inl ⟨by rfl, ?_⟩) hHeld ?_
    rotate_left
    · intro w hSw; (try dsimp only at hSw); go_simp; try with_reducible rfl
    (try simp only [Act.put, List.setIfInBounds_toArray, List.set_cons_zero, List.set_cons_succ])
    refine wpAnyH_take (i := 19) (oi := { dst := some 55, op := Op.move (Operand.tmp 54), type := 4, pos := "law.go:44", after := #[{ on := 18, ground := Ground.data }, { on := 17, ground := Ground.chain }, { on := 17, ground := Ground.guard }], guard := some (17, false) }) (v := ?_) rfl (by kernel_rfl) (by kernel_rfl) (by kernel_rfl) (fun _ _ _ h => h) (Or.inl ⟨by rfl, ?_⟩) hHeld ?_
    rotate_left
    · intro w hSw; (try dsimp only at hSw); go_simp; try with_reducible rfl
    (try simp only [Act.put, List.setIfInBounds_toArray, List.set_cons_zero, List.set_cons_succ])
    refine wpAnyH_take (i := 20) (oi := { dst := some 56, op := Op.move (Operand.tmp 6), type := 25, pos := "law.go:44", after := #[{ on := 19, ground := Ground.guard }], guard := some (19, true) }) (v := ?_) rfl (by kernel_rfl) (by kernel_rfl) (by kernel_rfl) (fun _ _ _ h => h) (Or.inl ⟨by rfl, ?_⟩) hHeld ?_
    rotate_left
    · intro w hSw; (try dsimp only at hSw); go_simp; try with_reducible rfl
    (try simp only [Act.put, List.setIfInBounds_toArray, List.set_cons_zero, List.set_cons_succ])
    refine wpAnyH_take (i := 21) (oi := { dst := some 57, op := Op.convert 25 9 (Operand.tmp 56), type := 9, pos := "law.go:44", after := #[{ on := 20, ground := Ground.data }, { on := 19, ground := Ground.guard }], guard := some (19, true) }) (v := ?_) rfl (by kernel_rfl) (by kernel_rfl) (by kernel_rfl) (fun _ _ _ h => h) (Or.inl ⟨by rfl, ?_⟩) hHeld ?_
    rotate_left
    · intro w hSw; (try dsimp only at hSw); go_simp; try with_reducible rfl
    (try simp only [Act.put, List.setIfInBounds_toArray, List.set_cons_zero, List.set_cons_succ])
    refine wpAnyH_take (i := 22) (oi := { dst := some 58, op := Op.load 24 (Operand.tmp 2), type := 24, pos := "law.go:44", after := #[{ on := 19, ground := Ground.guard }], guard := some (19, true) }) (v := ?_) rfl (by kernel_rfl) (by kernel_rfl) (by kernel_rfl) (fun _ _ _ h => h) (Or.inl ⟨by rfl, ?_⟩) hHeld ?_
    rotate_left
    · intro w hSw; (try dsimp only at hSw); go_simp; try with_reducible rfl
    (try simp only [Act.put, List.setIfInBounds_toArray, List.set_cons_zero, List.set_cons_succ])
    refine wpAnyH_ready (rs := [23]) (by kernel_rfl) (by simp) ?_
    refine AllReadyH.cons (o := { dst := some 59, op := Op.call { callee := Callee.value (Operand.func 12), args := #[Operand.tmp 58], argTypes := #[24] }, type := 29, pos := "law.go:44", after := #[{ on := 22, ground := Ground.data }, { on := 19, ground := Ground.chain }, { on := 19, ground := Ground.guard }], guard := some (19, true) }) rfl (fun K hK => ?_) AllReadyH.nil
    go_simp
    refine (HPL.out _).mono ?_
    rintro e w4 ⟨rfl, hg⟩
    replace HGp := Lib.hid (grown_trans (grown_trans HGp.out (by repeat (first | exact grown_refl _ | refine grown_alloc ?_ _ | refine grown_drew ?_))) hg)
    clear hg hHeld
    go_wp2_with fail
    refine hK.out _ _ (put_keep H0.out HX.out HGp.out) (fun hHeld => ?_)
    clear hK K
    (try simp only [Act.put, List.setIfInBounds_toArray, List.set_cons_zero, List.set_cons_succ])
    refine wpAnyH_ready (rs := [24]) (by kernel_rfl) (by simp) ?_
    refine AllReadyH.cons (o := { dst := some 60, op := Op.call { callee := Callee.value (Operand.func 14), args := #[Operand.tmp 59], argTypes := #[29] }, type := 25, pos := "law.go:44", after := #[{ on := 23, ground := Ground.data }, { on := 23, ground := Ground.chain }, { on := 19, ground := Ground.guard }], guard := some (19, true) }) rfl (fun K hK => ?_) AllReadyH.nil
    go_simp
    refine (HRB.out _).mono ?_
    rintro e w5 ⟨yv, rfl, hrow, hg⟩
    obtain ⟨py, cy, rfl⟩ := slice_form hrow
    have hcy := conv_bytes (brow_of_row (l := E) (by rw [HEM.out]; exact hrow))
    replace HGp := Lib.hid (grown_trans (grown_trans HGp.out (by repeat (first | exact grown_refl _ | refine grown_alloc ?_ _ | refine grown_drew ?_))) hg)
    clear hrow hg hHeld
    go_wp2_with fail
    refine hK.out _ _ (put_keep H0.out HX.out HGp.out) (fun hHeld => ?_)
    clear hK K
    (try simp only [Act.put, List.setIfInBounds_toArray, List.set_cons_zero, List.set_cons_succ])
    refine wpAnyH_ready (rs := [25]) (by kernel_rfl) (by simp) ?_
    refine AllReadyH.cons (o := { dst := some 61, op := Op.convert 25 9 (Operand.tmp 60), type := 9, pos := "law.go:44", after := #[{ on := 24, ground := Ground.data }, { on := 19, ground := Ground.guard }], guard := some (19, true) }) rfl (fun K hK => ?_) AllReadyH.nil
    go_simp
    refine hK.out _ _ (put_keep H0.out HX.out HGp.out) (fun hHeld => ?_)
    clear hK K
    (try simp only [Act.put, List.setIfInBounds_toArray, List.set_cons_zero, List.set_cons_succ])
    refine wpAnyH_take (i := 26) (oi := { dst := some 62, op := Op.binOp BinOp.neq 9 (Operand.tmp 57) (Operand.tmp 61) 9, type := 4, pos := "law.go:44", after := #[{ on := 21, ground := Ground.data }, { on := 25, ground := Ground.data }, { on := 19, ground := Ground.guard }], guard := some (19, true) }) (v := ?_) rfl (by kernel_rfl) (by kernel_rfl) (by kernel_rfl) (fun _ _ _ h => h) (Or.inl ⟨by rfl, ?_⟩) hHeld ?_
    rotate_left
    · intro w hSw; (try dsimp only at hSw); go_simp; try with_reducible rfl
    (try simp only [Act.put, List.setIfInBounds_toArray, List.set_cons_zero, List.set_cons_succ])
    refine wpAnyH_take (i := 27) (oi := { dst := some 63, op := Op.pick (Operand.tmp 55) (Operand.tmp 62) (Operand.const (Value.bool false)), type := 4, pos := "law.go:44", after := #[{ on := 19, ground := Ground.data }, { on := 26, ground := Ground.data }, { on := 17, ground := Ground.guard }], guard := some (17, false) }) (v := ?_) rfl (by kernel_rfl) (by kernel_rfl) (by kernel_rfl) (fun _ _ _ h => h) (Or.inl ⟨by rfl, ?_⟩) hHeld ?_
    rotate_left
    · intro w hSw; (try dsimp only at hSw); go_simp; try with_reducible rfl
    (try simp only [Act.put, List.setIfInBounds_toArray, List.set_cons_zero, List.set_cons_succ])
    refine wpAnyH_take (i := 28) (oi := { dst := some 64, op := Op.pick (Operand.tmp 53) (Operand.const (Value.bool true)) (Operand.tmp 63), type := 4, pos := "law.go:44", after := #[{ on := 17, ground := Ground.data }, { on := 27, ground := Ground.data }], guard := none }) (v := ?_) rfl (by kernel_rfl) (by kernel_rfl) (by kernel_rfl) (fun _ _ _ h => h) (Or.inl ⟨by rfl, ?_⟩) hHeld ?_
    rotate_left
    · intro w hSw; (try dsimp only at hSw); go_simp; try with_reducible rfl
    (try simp only [Act.put, List.setIfInBounds_toArray, List.set_cons_zero, List.set_cons_succ])
    refine wpAnyH_done (by kernel_rfl) ?_ _
    all_goals
      go_wp2_with fail
      go_meet
      exact ⟨rfl, HGp.out⟩
  case rest =>
    obtain ⟨rfl, hg5⟩ := hcut
    have hmx : (m : Int) + 1 ≤ cx := by obtain ⟨p0, c0, e0, h1, _⟩ := HX.out.ex; have e1 := (Value.slice.injEq _ _ _ _ _ _).mp e0; have := HEM.out; omega
    have HSZ : Hid ((ofB E).size = m + 1) := (show (ofB E).size = m + 1 from by rw [ofB_size, HEM.out])
    have HG1 : Hid (Calls Tryz.prog 15 #[.slice px (m + 1) cx] wc fun e w' => e = .returned (.tuple #[(.agg #[.int .u8 kind, .int .i64 node, .int .i64 client, .int .i64 inc, .int .i64 req, .int .i64 ver, .string key, .int .i64 code] : Value), .int .i64 0]) ∧ wc.grownBy w' none) := (show Calls _ _ _ _ _ from get_of (HX.out.later (Nat.le_refl _) hg5) HEB.out (some ⟨kind, node, client, inc, req, ver, key, code⟩) HE0.out)
    have HC := Lib.hid hg5
    obtain ⟨d0, d1, d2, d3, d4, d5, d6, d7, hcx⟩ := put_keep H0.out HX.out hg5
    clear hg5
    go_upto_region 11 with (go_at_call 15; refine HG1.out.mono ?_; rintro e w6 ⟨rfl, hg⟩; have HG6 := Lib.hid (grown_trans HC.out hg); clear hg)
    clear d0 d1 d2 d3 d4 d5 d6 d7 hcx HG1 HC
    have HA6 := Lib.hid (World.grownBy_alloc w6 (.cells #[.int .u8 kind, .int .i64 node, .int .i64 client, .int .i64 inc, .int .i64 req, .int .i64 ver, .string key, .int .i64 code] 24) none)
    have HB6 := Lib.hid (heap_alloc_new w6 (.cells #[.int .u8 kind, .int .i64 node, .int .i64 client, .int .i64 inc, .int .i64 req, .int .i64 ver, .string key, .int .i64 code] 24))
    generalize w6.alloc (.cells #[.int .u8 kind, .int .i64 node, .int .i64 client, .int .i64 inc, .int .i64 req, .int .i64 ver, .string key, .int .i64 code] 24) = w6a at *
    have HG2 : Hid (Calls Tryz.prog 15 #[.slice px m cx] w6a fun e w' => e = .returned (.tuple #[.agg #[.int .u8 0, .int .i64 0, .int .i64 0, .int .i64 0, .int .i64 0, .int .i64 0, .string ⟨#[]⟩, .int .i64 0], .int .i64 2]) ∧ w6a.grownBy w' none) := (show Calls _ _ _ _ _ from by
      have h1 := HX.out.later (Nat.le_refl _) (grown_trans HG6.out HA6.out)
      have h2 := BRow.front (p := px) (cap := cx) (l := E) (by rw [HEM.out]; exact h1) (n := m) (by rw [HEM.out]; omega)
      refine get_of h2 (HEB.out.take m) none ?_
      have := HE1.out
      rw [List.dropLast_eq_take, HEM.out] at this
      exact this)
    go_upto_region 12 with (go_at_call 15; refine HG2.out.mono ?_; rintro e w7 ⟨rfl, hg⟩; have HG7 := Lib.hid hg; clear hg)
    clear HG2
    have HA7 := Lib.hid (World.grownBy_alloc w7 (.cells #[.int .u8 0, .int .i64 0, .int .i64 0, .int .i64 0, .int .i64 0, .int .i64 0, .string ⟨#[]⟩, .int .i64 0] 24) none)
    generalize w7.alloc (.cells #[.int .u8 0, .int .i64 0, .int .i64 0, .int .i64 0, .int .i64 0, .int .i64 0, .string ⟨#[]⟩, .int .i64 0] 24) = w7a at *
    have hcx := conv_bytes (HX.out.later (Nat.le_refl _) (grown_trans HG6.out (grown_trans HA6.out (grown_trans HG7.out HA7.out))))
    have kc := fun w => Lib.run_convert_string_bytes (P := Tryz.prog) w 9 25 5 (ofB E) (u := .string) Tryz.underlying9 Tryz.underlying25 Tryz.underlying5
    go_upto_region 13 with (first
      | (at_builtin; refine wpList_conv1 w7a (ofB E) (by rw [HSZ.out]; omega) 0 rfl _ _ rfl rfl _ (Lib.bytesWorld_size _ _ _) rfl ?_; intro p8 c8 w8 hg hB; have HG8 := Lib.hid hg; have HB8 := Lib.hid hB; clear hg hB kc hcx)
      | (go_at_call 15; refine (get_of HB8.out (by rw [strB_ofB HEB.out]; exact HEB.out.app (fun b hb => by simp at hb; omega)) none (by rw [strB_ofB HEB.out]; exact HE2.out)).mono ?_; rintro e w9 ⟨rfl, hg⟩; simp only [getV, getE, zeros]; have HG9 := Lib.hid hg; clear hg))
    have HA9 := Lib.hid (World.grownBy_alloc w9 (.cells #[.int .u8 0, .int .i64 0, .int .i64 0, .int .i64 0, .int .i64 0, .int .i64 0, .string ⟨#[]⟩, .int .i64 0] 24) none)
    generalize w9.alloc (.cells #[.int .u8 0, .int .i64 0, .int .i64 0, .int .i64 0, .int .i64 0, .int .i64 0, .string ⟨#[]⟩, .int .i64 0] 24) = w9a at *
    have HW9 : Hid (w6a.grownBy w9a none) := (show w6a.grownBy w9a none from grown_trans HG7.out (grown_trans HA7.out (grown_trans HG8.out (grown_trans HG9.out HA9.out))))
    have HW9' : Hid (w3.grownBy w9a none) := (show w3.grownBy w9a none from grown_trans HG6.out (grown_trans HA6.out HW9.out))
    have B6 := (HW9.out.block w6.heap.size (Array.getElem?_eq_some_iff.1 HB6.out).1 (by simp)).trans HB6.out
    obtain ⟨d0, d1, d2, d3, d4, d5, d6, d7, hcx⟩ := put_keep H0.out HX.out HW9'.out
    have q0 : w9a.cell? ⟨w6.heap.size, 0, none⟩ = some (.int .u8 kind) := (cell_block B6 0).trans rfl
    have q1 : w9a.cell? ⟨w6.heap.size, 1, none⟩ = some (.int .i64 node) := (cell_block B6 1).trans rfl
    have q2 : w9a.cell? ⟨w6.heap.size, 2, none⟩ = some (.int .i64 client) := (cell_block B6 2).trans rfl
    have q3 : w9a.cell? ⟨w6.heap.size, 3, none⟩ = some (.int .i64 inc) := (cell_block B6 3).trans rfl
    have q4 : w9a.cell? ⟨w6.heap.size, 4, none⟩ = some (.int .i64 req) := (cell_block B6 4).trans rfl
    have q5 : w9a.cell? ⟨w6.heap.size, 5, none⟩ = some (.int .i64 ver) := (cell_block B6 5).trans rfl
    have q6 : w9a.cell? ⟨w6.heap.size, 6, none⟩ = some (.string key) := (cell_block B6 6).trans rfl
    have q7 : w9a.cell? ⟨w6.heap.size, 7, none⟩ = some (.int .i64 code) := (cell_block B6 7).trans rfl
    clear B6 hcx
    have hnq : ∀ w, (binOp .neq 24 (.agg #[.int .u8 kind, .int .i64 node, .int .i64 client, .int .i64 inc, .int .i64 req, .int .i64 ver, .string key, .int .i64 code] : Value) (.agg #[.int .u8 kind, .int .i64 node, .int .i64 client, .int .i64 inc, .int .i64 req, .int .i64 ver, .string key, .int .i64 code] : Value)).run Tryz.prog w = .ok (.bool false) w := (fun w => by have := neq_cmd ⟨kind, node, client, inc, req, ver, key, code⟩ ⟨kind, node, client, inc, req, ver, key, code⟩ w; simpa [encCmd] using this)
    go_upto_region 15 with fail
    clear d0 d1 d2 d3 d4 d5 d6 d7 q0 q1 q2 q3 q4 q5 q6 q7 hnq
    have HWB : Hid (W.grownBy w9a none) := (show W.grownBy w9a none from grown_trans (World.grownBy_alloc W _ none) (grown_trans H0.out HW9'.out))
    go_upto_region 18 with (go_at_call 15; refine (get_of (HB.out.later (Nat.le_refl _) HWB.out) HBL.out (some ⟨dk, dn, dc, di, dr, dv, dy, do_⟩) HD.out).mono ?_; rintro e w10 ⟨rfl, hg⟩; simp only [getV, getE, encCmd]; have HG10 := Lib.hid (grown_trans HWB.out hg); clear hg)
    go_upto_region 19 with (go_at_call 13; refine (HPD.out _).mono ?_; rintro e w11 ⟨zv, rfl, hrow, hg⟩; obtain ⟨pz, cz, rfl⟩ := slice_form hrow; have HG11 := Lib.hid (grown_trans HG10.out (grown_trans (World.grownBy_alloc _ _ none) hg)); have HZ := Lib.hid (brow_of_row hrow); clear hrow hg)
    have hcz := conv_bytes HZ.out
    have hcb := conv_bytes (HB.out.later (Nat.le_refl _) HG11.out)
    go_wp2_with (go_at_call 10; refine (HWK.out _).mono ?_; rintro e w12 ⟨rfl, hg⟩; have HG12 := Lib.hid hg; clear hg)
    go_ret
    exact ⟨rfl, grown_trans HG11.out HG12.out⟩
set_option maxHeartbeats 8000000 in
set_option maxRecDepth 100000 in
theorem puts_yn (kind node client inc req ver code : Int) (key : ByteArray) (hm : mayB ⟨kind, node, client, inc, req, ver, key, code⟩ = true) (hk : key.size ≤ 300) (pb : Option Addr) (cb : Nat) (l : List Int) (W : World) (hb : BRow W.heap.size W (.slice pb l.length cb) l) (hl : BL l) (hl4 : l.length ≤ 400) (hd : decB l = none) :
    Calls Tryz.prog 3 #[(.agg #[.int .u8 kind, .int .i64 node, .int .i64 client, .int .i64 inc, .int .i64 req, .int .i64 ver, .string key, .int .i64 code] : Value), .slice pb l.length cb] W fun e w' => e = .returned (.bool true) ∧ W.grownBy w' none := by
  have HPL : Hid (∀ W', Calls Tryz.prog 12 #[(.agg #[.int .u8 kind, .int .i64 node, .int .i64 client, .int .i64 inc, .int .i64 req, .int .i64 ver, .string key, .int .i64 code] : Value)] W' fun e w' => e = .returned (.agg #[.int .u8 kind, .int .i64 node, .int .i64 client, .int .i64 inc, .int .i64 req, .int .i64 ver, .string key, .int .i64 code] : Value) ∧ W'.grownBy w' none) := (show ∀ _, _ from fun W' => plain_any ⟨kind, node, client, inc, req, ver, key, code⟩ W')
  have HMY : Hid (∀ W', Calls Tryz.prog 11 #[(.agg #[.int .u8 kind, .int .i64 node, .int .i64 client, .int .i64 inc, .int .i64 req, .int .i64 ver, .string key, .int .i64 code] : Value)] W' fun e w' => e = .returned (.bool true) ∧ W'.grownBy w' none) := (show ∀ _, _ from fun W' => by have h := rmay_any ⟨kind, node, client, inc, req, ver, key, code⟩ (by simp only; omega) W'; rw [hm] at h; exact h)
  have HWK := Lib.hid works_any
  have HE0 : Hid (decB (encB ⟨kind, node, client, inc, req, ver, key, code⟩) = some ⟨kind, node, client, inc, req, ver, key, code⟩) := (show decB (encB ⟨kind, node, client, inc, req, ver, key, code⟩) = some ⟨kind, node, client, inc, req, ver, key, code⟩ from dec_enc hm)
  have HE1 : Hid (decB (encB ⟨kind, node, client, inc, req, ver, key, code⟩).dropLast = none) := (show decB (encB ⟨kind, node, client, inc, req, ver, key, code⟩).dropLast = none from dec_less hm)
  have HE2 : Hid (decB (encB ⟨kind, node, client, inc, req, ver, key, code⟩ ++ [0]) = none) := (show decB (encB ⟨kind, node, client, inc, req, ver, key, code⟩ ++ [0]) = none from dec_more hm 0)
  have HEB : Hid (BL (encB ⟨kind, node, client, inc, req, ver, key, code⟩)) := (show BL (encB ⟨kind, node, client, inc, req, ver, key, code⟩) from enc_BL _)
  have HEL : Hid ((encB ⟨kind, node, client, inc, req, ver, key, code⟩).length ≤ 200) := (show (encB ⟨kind, node, client, inc, req, ver, key, code⟩).length ≤ 200 from enc_len hm)
  have HPU : Hid (∀ W', Calls Tryz.prog 13 #[(.agg #[.int .u8 kind, .int .i64 node, .int .i64 client, .int .i64 inc, .int .i64 req, .int .i64 ver, .string key, .int .i64 code] : Value)] W' fun e w' => ∃ v', e = .returned (.tuple #[v', .int .i64 0]) ∧ w'.ownsRow W'.heap.size 5 1 v' (encB ⟨kind, node, client, inc, req, ver, key, code⟩).length (bytesV (encB ⟨kind, node, client, inc, req, ver, key, code⟩)) ∧ W'.grownBy w' none) := (show ∀ _, _ from fun W' => put_ok ⟨kind, node, client, inc, req, ver, key, code⟩ W' hm)
  have HRB : Hid (∀ W', Calls Tryz.prog 14 #[(.agg #[.int .u8 kind, .int .i64 node, .int .i64 client, .int .i64 inc, .int .i64 req, .int .i64 ver, .string key, .int .i64 code] : Value)] W' fun e w' => ∃ v, e = .returned v ∧ w'.ownsRow W'.heap.size 5 1 v (encB ⟨kind, node, client, inc, req, ver, key, code⟩).length (bytesV (encB ⟨kind, node, client, inc, req, ver, key, code⟩)) ∧ W'.grownBy w' none) := (show ∀ _, _ from fun W' => rbytes_any ⟨kind, node, client, inc, req, ver, key, code⟩ W' hm)
  have hne := enc_ne ⟨kind, node, client, inc, req, ver, key, code⟩
  generalize encB ⟨kind, node, client, inc, req, ver, key, code⟩ = E at *
  obtain ⟨m, hEm⟩ : ∃ m, E.length = m + 1 := ⟨E.length - 1, by have : E.length ≠ 0 := fun h => hne (List.eq_nil_of_length_eq_zero h); omega⟩
  rw [hEm] at HPU HRB HEL
  have HEM := Lib.hid hEm
  have hm200 : m ≤ 200 := by have := HEL.out; omega
  clear hne hEm
  have HB := Lib.hid hb
  have HBL := Lib.hid hl
  have HD := Lib.hid hd
  have hkey : (key.size : Int) ≤ 300 := by omega
  have hn400 : (l.length : Int) ≤ 400 := by omega
  clear hm hb hl hd
  go_enter Tryz.func3, Tryz.ntmps3
  go_upto_region 5 with (first
    | (go_at_call 12; refine (HPL.out _).mono ?_; rintro e w1 ⟨rfl, hg⟩; have HGA := Lib.hid hg; clear hg)
    | (go_at_call 11; refine (HMY.out _).mono ?_; rintro e w2 ⟨rfl, hg⟩; have HGB := Lib.hid (grown_trans HGA.out hg); clear hg; obtain ⟨d0, d1, d2, d3, d4, d5, d6, d7⟩ := cells8 HGB.out)
    | (go_at_call 13; refine (HPU.out _).mono ?_; rintro e w3 ⟨xv, rfl, hrow, hg⟩; obtain ⟨px, cx, rfl⟩ := slice_form hrow; have HX := Lib.hid (brow_of_row (l := E) (by rw [HEM.out]; exact hrow)); have H0 := Lib.hid (grown_trans HGB.out hg); clear hrow hg))
  clear d0 d1 d2 d3 d4 d5 d6 d7
  clear HGA HGB
  go_cut [64] (fun s wx => s = .bool false ∧ w3.grownBy wx none)
  case first =>
    have kS := put_keep H0.out HX.out (grown_refl w3)
    have HGp := Lib.hid (grown_refl w3)
    refine wp_region_held_drew (S := fun w' => w'.cell? ⟨W.heap.size, 0, none⟩ = some (.int .u8 kind) ∧ w'.cell? ⟨W.heap.size, 1, none⟩ = some (.int .i64 node) ∧ w'.cell? ⟨W.heap.size, 2, none⟩ = some (.int .i64 client) ∧ w'.cell? ⟨W.heap.size, 3, none⟩ = some (.int .i64 inc) ∧ w'.cell? ⟨W.heap.size, 4, none⟩ = some (.int .i64 req) ∧ w'.cell? ⟨W.heap.size, 5, none⟩ = some (.int .i64 ver) ∧ w'.cell? ⟨W.heap.size, 6, none⟩ = some (.string key) ∧ w'.cell? ⟨W.heap.size, 7, none⟩ = some (.int .i64 code) ∧ (convert 25 9 (.slice px (m + 1) cx)).run Tryz.prog w' = .ok (.string (ofB E)) w') (by kernel_rfl) (put_keep H0.out HX.out (grown_drew (grown_refl w3))) (fun hHeld => ?_)
    refine wpAnyH_take (i := 0) (oi := { dst := some 36, op := Op.move (Operand.tmp 7), type := 22, pos := "law.go:44", after := #[], guard := none }) (v := ?_) rfl (by kernel_rfl) (by kernel_rfl) (by kernel_rfl) (fun _ _ _ h => h) (Or.inl ⟨by rfl, ?_⟩) hHeld ?_
    rotate_left
    · intro w hSw; (try dsimp only at hSw); go_simp; try with_reducible rfl
    (try simp only [Act.put, List.setIfInBounds_toArray, List.set_cons_zero, List.set_cons_succ])
    refine wpAnyH_take (i := 1) (oi := { dst := some 37, op := Op.binOp BinOp.eql 22 (Operand.tmp 36) (Operand.const (Value.int IntKind.i64 0)) 22, type := 4, pos := "law.go:44", after := #[{ on := 0, ground := Ground.data }], guard := none }) (v := ?_) rfl (by kernel_rfl) (by kernel_rfl) (by kernel_rfl) (fun _ _ _ h => h) (Or.inl ⟨by rfl, ?_⟩) hHeld ?_
    rotate_left
    · intro w hSw; (try dsimp only at hSw); go_simp; try with_reducible rfl
    (try simp only [Act.put, List.setIfInBounds_toArray, List.set_cons_zero, List.set_cons_succ])
    refine wpAnyH_take (i := 2) (oi := { dst := some 38, op := Op.move (Operand.tmp 5), type := 4, pos := "law.go:44", after := #[], guard := none }) (v := ?_) rfl (by kernel_rfl) (by kernel_rfl) (by kernel_rfl) (fun _ _ _ h => h) (Or.inl ⟨by rfl, ?_⟩) hHeld ?_
    rotate_left
    · intro w hSw; (try dsimp only at hSw); go_simp; try with_reducible rfl
    (try simp only [Act.put, List.setIfInBounds_toArray, List.set_cons_zero, List.set_cons_succ])
    refine wpAnyH_take (i := 3) (oi := { dst := some 39, op := Op.binOp BinOp.neq 4 (Operand.tmp 37) (Operand.tmp 38) 4, type := 4, pos := "law.go:44", after := #[{ on := 1, ground := Ground.data }, { on := 2, ground := Ground.data }], guard := none }) (v := ?_) rfl (by kernel_rfl) (by kernel_rfl) (by kernel_rfl) (fun _ _ _ h => h) (Or.inl ⟨by rfl, ?_⟩) hHeld ?_
    rotate_left
    · intro w hSw; (try dsimp only at hSw); go_simp; try with_reducible rfl
    (try simp only [Act.put, List.setIfInBounds_toArray, List.set_cons_zero, List.set_cons_succ])
    refine wpAnyH_take (i := 4) (oi := { dst := some 40, op := Op.move (Operand.tmp 39), type := 4, pos := "law.go:44", after := #[{ on := 3, ground := Ground.data }], guard := none }) (v := ?_) rfl (by kernel_rfl) (by kernel_rfl) (by kernel_rfl) (fun _ _ _ h => h) (Or.inl ⟨by rfl, ?_⟩) hHeld ?_
    rotate_left
    · intro w hSw; (try dsimp only at hSw); go_simp; try with_reducible rfl
    (try simp only [Act.put, List.setIfInBounds_toArray, List.set_cons_zero, List.set_cons_succ])
    refine wpAnyH_take (i := 5) (oi := { dst := some 41, op := Op.move (Operand.tmp 5), type := 4, pos := "law.go:44", after := #[{ on := 4, ground := Ground.guard }], guard := some (4, false) }) (v := ?_) rfl (by kernel_rfl) (by kernel_rfl) (by kernel_rfl) (fun _ _ _ h => h) (Or.inl ⟨by rfl, ?_⟩) hHeld ?_
    rotate_left
    · intro w hSw; (try dsimp only at hSw); go_simp; try with_reducible rfl
    (try simp only [Act.put, List.setIfInBounds_toArray, List.set_cons_zero, List.set_cons_succ])
    refine wpAnyH_take (i := 6) (oi := { dst := some 42, op := Op.unOp UnOp.not 4 (Operand.tmp 41), type := 4, pos := "law.go:44", after := #[{ on := 5, ground := Ground.data }, { on := 4, ground := Ground.guard }], guard := some (4, false) }) (v := ?_) rfl (by kernel_rfl) (by kernel_rfl) (by kernel_rfl) (fun _ _ _ h => h) (Or.inl ⟨by rfl, ?_⟩) hHeld ?_
    rotate_left
    · intro w hSw; (try dsimp only at hSw); go_simp; try with_reducible rfl
    (try simp only [Act.put, List.setIfInBounds_toArray, List.set_cons_zero, List.set_cons_succ])
    refine wpAnyH_take (i := 7) (oi := { dst := some 43, op := Op.move (Operand.tmp 42), type := 4, pos := "law.go:44", after := #[{ on := 6, ground := Ground.data }, { on := 4, ground := Ground.chain }, { on := 4, ground := Ground.guard }], guard := some (4, false) }) (v := ?_) rfl (by kernel_rfl) (by kernel_rfl) (by kernel_rfl) (fun _ _ _ h => h) (Or.inl ⟨by rfl, ?_⟩) hHeld ?_
    rotate_left
    · intro w hSw; (try dsimp only at hSw); go_simp; try with_reducible rfl
    (try simp only [Act.put, List.setIfInBounds_toArray, List.set_cons_zero, List.set_cons_succ])
    refine wpAnyH_take (i := 8) (oi := { dst := some 44, op := Op.move (Operand.tmp 7), type := 22, pos := "law.go:44", after := #[{ on := 7, ground := Ground.guard }], guard := some (7, true) }) (v := undef) rfl (by kernel_rfl) (by kernel_rfl) (by kernel_rfl) (fun _ _ _ h => h) (Or.inr ⟨by rfl, rfl⟩) hHeld ?_
    (try simp only [Act.put, List.setIfInBounds_toArray, List.set_cons_zero, List.set_cons_succ])
    refine wpAnyH_take (i := 9) (oi := { dst := some 45, op := Op.binOp BinOp.neq 22 (Operand.tmp 44) (Operand.const (Value.int IntKind.i64 2)) 22, type := 4, pos := "law.go:44", after := #[{ on := 8, ground := Ground.data }, { on := 7, ground := Ground.guard }], guard := some (7, true) }) (v := undef) rfl (by kernel_rfl) (by kernel_rfl) (by kernel_rfl) (fun _ _ _ h => h) (Or.inr ⟨by rfl, rfl⟩) hHeld ?_
    (try simp only [Act.put, List.setIfInBounds_toArray, List.set_cons_zero, List.set_cons_succ])
    refine wpAnyH_take (i := 10) (oi := { dst := some 46, op := Op.move (Operand.tmp 45), type := 4, pos := "law.go:44", after := #[{ on := 9, ground := Ground.data }, { on := 7, ground := Ground.chain }, { on := 7, ground := Ground.guard }], guard := some (7, true) }) (v := undef) rfl (by kernel_rfl) (by kernel_rfl) (by kernel_rfl) (fun _ _ _ h => h) (Or.inr ⟨by rfl, rfl⟩) hHeld ?_
    (try simp only [Act.put, List.setIfInBounds_toArray, List.set_cons_zero, List.set_cons_succ])
    refine wpAnyH_take (i := 11) (oi := { dst := some 47, op := Op.move (Operand.tmp 6), type := 25, pos := "law.go:44", after := #[{ on := 10, ground := Ground.guard }], guard := some (10, false) }) (v := undef) rfl (by kernel_rfl) (by kernel_rfl) (by kernel_rfl) (fun _ _ _ h => h) (Or.inr ⟨by rfl, rfl⟩) hHeld ?_
    (try simp only [Act.put, List.setIfInBounds_toArray, List.set_cons_zero, List.set_cons_succ])
    refine wpAnyH_take (i := 12) (oi := { dst := some 48, op := Op.call { callee := Callee.builtin Builtin.len, args := #[Operand.tmp 47], argTypes := #[25] }, type := 3, pos := "law.go:44", after := #[{ on := 11, ground := Ground.data }, { on := 10, ground := Ground.guard }], guard := some (10, false) }) (v := undef) rfl (by kernel_rfl) (by kernel_rfl) (by kernel_rfl) (fun _ _ _ h => h) (Or.inr ⟨by rfl, rfl⟩) hHeld ?_
    (try simp only [Act.put, List.setIfInBounds_toArray, List.set_cons_zero, List.set_cons_succ])
    refine wpAnyH_take (i := 13) (oi := { dst := some 49, op := Op.binOp BinOp.gtr 3 (Operand.tmp 48) (Operand.const (Value.int IntKind.i64 0)) 3, type := 4, pos := "law.go:44", after := #[{ on := 12, ground := Ground.data }, { on := 10, ground := Ground.guard }], guard := some (10, false) }) (v := undef) rfl (by kernel_rfl) (by kernel_rfl) (by kernel_rfl) (fun _ _ _ h => h) (Or.inr ⟨by rfl, rfl⟩) hHeld ?_
    (try simp only [Act.put, List.setIfInBounds_toArray, List.set_cons_zero, List.set_cons_succ])
    refine wpAnyH_take (i := 14) (oi := { dst := some 50, op := Op.pick (Operand.tmp 46) (Operand.const (Value.bool true)) (Operand.tmp 49), type := 4, pos := "law.go:44", after := #[{ on := 10, ground := Ground.data }, { on := 13, ground := Ground.data }, { on := 7, ground := Ground.guard }], guard := some (7, true) }) (v := undef) rfl (by kernel_rfl) (by kernel_rfl) (by kernel_rfl) (fun _ _ _ h => h) (Or.inr ⟨by rfl, rfl⟩) hHeld ?_
    (try simp only [Act.put, List.setIfInBounds_toArray, List.set_cons_zero, List.set_cons_succ])
    refine wpAnyH_take (i := 15) (oi := { dst := some 51, op := Op.pick (Operand.tmp 43) (Operand.tmp 50) (Operand.const (Value.bool false)), type := 4, pos := "law.go:44", after := #[{ on := 7, ground := Ground.data }, { on := 14, ground := Ground.data }, { on := 4, ground := Ground.guard }], guard := some (4, false) }) (v := ?_) rfl (by kernel_rfl) (by kernel_rfl) (by kernel_rfl) (fun _ _ _ h => h) (Or.inl ⟨by rfl, ?_⟩) hHeld ?_
    rotate_left
    · intro w hSw; (try dsimp only at hSw); go_simp; try with_reducible rfl
    (try simp only [Act.put, List.setIfInBounds_toArray, List.set_cons_zero, List.set_cons_succ])
    refine wpAnyH_take (i := 16) (oi := { dst := some 52, op := Op.pick (Operand.tmp 40) (Operand.const (Value.bool true)) (Operand.tmp 51), type := 4, pos := "law.go:44", after := #[{ on := 4, ground := Ground.data }, { on := 15, ground := Ground.data }], guard := none }) (v := ?_) rfl (by kernel_rfl) (by kernel_rfl) (by kernel_rfl) (fun _ _ _ h => h) (Or.inl ⟨by rfl, ?_⟩) hHeld ?_
    rotate_left
    · intro w hSw; (try dsimp only at hSw); go_simp; try with_reducible rfl
    (try simp only [Act.put, List.setIfInBounds_toArray, List.set_cons_zero, List.set_cons_succ])
    refine wpAnyH_take (i := 17) (oi := { dst := some 53, op := Op.move (Operand.tmp 52), type := 4, pos := "law.go:44", after := #[{ on := 16, ground := Ground.data }, { on := 10, ground := Ground.chain }], guard := none }) (v := ?_) rfl (by kernel_rfl) (by kernel_rfl) (by kernel_rfl) (fun _ _ _ h => h) (Or.inl ⟨by rfl, ?_⟩) hHeld ?_
    rotate_left
    · intro w hSw; (try dsimp only at hSw); go_simp; try with_reducible rfl
    (try simp only [Act.put, List.setIfInBounds_toArray, List.set_cons_zero, List.set_cons_succ])
    refine wpAnyH_take (i := 18) (oi := { dst := some 54, op := Op.move (Operand.tmp 5), type := 4, pos := "law.go:44", after := #[{ on := 17, ground := Ground.guard }], guard := some (17, false) }) (v := ?_) rfl (by kernel_rfl) (by kernel_rfl) (by kernel_rfl) (fun _ _ _ h => h) (Or.inl ⟨by rfl, ?_⟩) hHeld ?_
    rotate_left
    · intro w hSw; (try dsimp only at hSw); go_simp; try with_reducible rfl
    (try simp only [Act.put, List.setIfInBounds_toArray, List.set_cons_zero, List.set_cons_succ])
    refine wpAnyH_take (i := 19) (oi := { dst := some 55, op := Op.move (Operand.tmp 54), type := 4, pos := "law.go:44", after := #[{ on := 18, ground := Ground.data }, { on := 17, ground := Ground.chain }, { on := 17, ground := Ground.guard }], guard := some (17, false) }) (v := ?_) rfl (by kernel_rfl) (by kernel_rfl) (by kernel_rfl) (fun _ _ _ h => h) (Or.inl ⟨by rfl, ?_⟩) hHeld ?_
    rotate_left
    · intro w hSw; (try dsimp only at hSw); go_simp; try with_reducible rfl
    (try simp only [Act.put, List.setIfInBounds_toArray, List.set_cons_zero, List.set_cons_succ])
    refine wpAnyH_take (i := 20) (oi := { dst := some 56, op := Op.move (Operand.tmp 6), type := 25, pos := "law.go:44", after := #[{ on := 19, ground := Ground.guard }], guard := some (19, true) }) (v := ?_) rfl (by kernel_rfl) (by kernel_rfl) (by kernel_rfl) (fun _ _ _ h => h) (Or.inl ⟨by rfl, ?_⟩) hHeld ?_
    rotate_left
    · intro w hSw; (try dsimp only at hSw); go_simp; try with_reducible rfl
    (try simp only [Act.put, List.setIfInBounds_toArray, List.set_cons_zero, List.set_cons_succ])
    refine wpAnyH_take (i := 21) (oi := { dst := some 57, op := Op.convert 25 9 (Operand.tmp 56), type := 9, pos := "law.go:44", after := #[{ on := 20, ground := Ground.data }, { on := 19, ground := Ground.guard }], guard := some (19, true) }) (v := ?_) rfl (by kernel_rfl) (by kernel_rfl) (by kernel_rfl) (fun _ _ _ h => h) (Or.inl ⟨by rfl, ?_⟩) hHeld ?_
    rotate_left
    · intro w hSw; (try dsimp only at hSw); go_simp; try with_reducible rfl
    (try simp only [Act.put, List.setIfInBounds_toArray, List.set_cons_zero, List.set_cons_succ])
    refine wpAnyH_take (i := 22) (oi := { dst := some 58, op := Op.load 24 (Operand.tmp 2), type := 24, pos := "law.go:44", after := #[{ on := 19, ground := Ground.guard }], guard := some (19, true) }) (v := ?_) rfl (by kernel_rfl) (by kernel_rfl) (by kernel_rfl) (fun _ _ _ h => h) (Or.inl ⟨by rfl, ?_⟩) hHeld ?_
    rotate_left
    · intro w hSw; (try dsimp only at hSw); go_simp; try with_reducible rfl
    (try simp only [Act.put, List.setIfInBounds_toArray, List.set_cons_zero, List.set_cons_succ])
    refine wpAnyH_ready (rs := [23]) (by kernel_rfl) (by simp) ?_
    refine AllReadyH.cons (o := { dst := some 59, op := Op.call { callee := Callee.value (Operand.func 12), args := #[Operand.tmp 58], argTypes := #[24] }, type := 29, pos := "law.go:44", after := #[{ on := 22, ground := Ground.data }, { on := 19, ground := Ground.chain }, { on := 19, ground := Ground.guard }], guard := some (19, true) }) rfl (fun K hK => ?_) AllReadyH.nil
    go_simp
    refine (HPL.out _).mono ?_
    rintro e w4 ⟨rfl, hg⟩
    replace HGp := Lib.hid (grown_trans (grown_trans HGp.out (by repeat (first | exact grown_refl _ | refine grown_alloc ?_ _ | refine grown_drew ?_))) hg)
    clear hg hHeld
    go_wp2_with fail
    refine hK.out _ _ (put_keep H0.out HX.out HGp.out) (fun hHeld => ?_)
    clear hK K
    (try simp only [Act.put, List.setIfInBounds_toArray, List.set_cons_zero, List.set_cons_succ])
    refine wpAnyH_ready (rs := [24]) (by kernel_rfl) (by simp) ?_
    refine AllReadyH.cons (o := { dst := some 60, op := Op.call { callee := Callee.value (Operand.func 14), args := #[Operand.tmp 59], argTypes := #[29] }, type := 25, pos := "law.go:44", after := #[{ on := 23, ground := Ground.data }, { on := 23, ground := Ground.chain }, { on := 19, ground := Ground.guard }], guard := some (19, true) }) rfl (fun K hK => ?_) AllReadyH.nil
    go_simp
    refine (HRB.out _).mono ?_
    rintro e w5 ⟨yv, rfl, hrow, hg⟩
    obtain ⟨py, cy, rfl⟩ := slice_form hrow
    have hcy := conv_bytes (brow_of_row (l := E) (by rw [HEM.out]; exact hrow))
    replace HGp := Lib.hid (grown_trans (grown_trans HGp.out (by repeat (first | exact grown_refl _ | refine grown_alloc ?_ _ | refine grown_drew ?_))) hg)
    clear hrow hg hHeld
    go_wp2_with fail
    refine hK.out _ _ (put_keep H0.out HX.out HGp.out) (fun hHeld => ?_)
    clear hK K
    (try simp only [Act.put, List.setIfInBounds_toArray, List.set_cons_zero, List.set_cons_succ])
    refine wpAnyH_ready (rs := [25]) (by kernel_rfl) (by simp) ?_
    refine AllReadyH.cons (o := { dst := some 61, op := Op.convert 25 9 (Operand.tmp 60), type := 9, pos := "law.go:44", after := #[{ on := 24, ground := Ground.data }, { on := 19, ground := Ground.guard }], guard := some (19, true) }) rfl (fun K hK => ?_) AllReadyH.nil
    go_simp
    refine hK.out _ _ (put_keep H0.out HX.out HGp.out) (fun hHeld => ?_)
    clear hK K
    (try simp only [Act.put, List.setIfInBounds_toArray, List.set_cons_zero, List.set_cons_succ])
    refine wpAnyH_take (i := 26) (oi := { dst := some 62, op := Op.binOp BinOp.neq 9 (Operand.tmp 57) (Operand.tmp 61) 9, type := 4, pos := "law.go:44", after := #[{ on := 21, ground := Ground.data }, { on := 25, ground := Ground.data }, { on := 19, ground := Ground.guard }], guard := some (19, true) }) (v := ?_) rfl (by kernel_rfl) (by kernel_rfl) (by kernel_rfl) (fun _ _ _ h => h) (Or.inl ⟨by rfl, ?_⟩) hHeld ?_
    rotate_left
    · intro w hSw; (try dsimp only at hSw); go_simp; try with_reducible rfl
    (try simp only [Act.put, List.setIfInBounds_toArray, List.set_cons_zero, List.set_cons_succ])
    refine wpAnyH_take (i := 27) (oi := { dst := some 63, op := Op.pick (Operand.tmp 55) (Operand.tmp 62) (Operand.const (Value.bool false)), type := 4, pos := "law.go:44", after := #[{ on := 19, ground := Ground.data }, { on := 26, ground := Ground.data }, { on := 17, ground := Ground.guard }], guard := some (17, false) }) (v := ?_) rfl (by kernel_rfl) (by kernel_rfl) (by kernel_rfl) (fun _ _ _ h => h) (Or.inl ⟨by rfl, ?_⟩) hHeld ?_
    rotate_left
    · intro w hSw; (try dsimp only at hSw); go_simp; try with_reducible rfl
    (try simp only [Act.put, List.setIfInBounds_toArray, List.set_cons_zero, List.set_cons_succ])
    refine wpAnyH_take (i := 28) (oi := { dst := some 64, op := Op.pick (Operand.tmp 53) (Operand.const (Value.bool true)) (Operand.tmp 63), type := 4, pos := "law.go:44", after := #[{ on := 17, ground := Ground.data }, { on := 27, ground := Ground.data }], guard := none }) (v := ?_) rfl (by kernel_rfl) (by kernel_rfl) (by kernel_rfl) (fun _ _ _ h => h) (Or.inl ⟨by rfl, ?_⟩) hHeld ?_
    rotate_left
    · intro w hSw; (try dsimp only at hSw); go_simp; try with_reducible rfl
    (try simp only [Act.put, List.setIfInBounds_toArray, List.set_cons_zero, List.set_cons_succ])
    refine wpAnyH_done (by kernel_rfl) ?_ _
    all_goals
      go_wp2_with fail
      go_meet
      exact ⟨rfl, HGp.out⟩
  case rest =>
    obtain ⟨rfl, hg5⟩ := hcut
    have hmx : (m : Int) + 1 ≤ cx := by obtain ⟨p0, c0, e0, h1, _⟩ := HX.out.ex; have e1 := (Value.slice.injEq _ _ _ _ _ _).mp e0; have := HEM.out; omega
    have HSZ : Hid ((ofB E).size = m + 1) := (show (ofB E).size = m + 1 from by rw [ofB_size, HEM.out])
    have HG1 : Hid (Calls Tryz.prog 15 #[.slice px (m + 1) cx] wc fun e w' => e = .returned (.tuple #[(.agg #[.int .u8 kind, .int .i64 node, .int .i64 client, .int .i64 inc, .int .i64 req, .int .i64 ver, .string key, .int .i64 code] : Value), .int .i64 0]) ∧ wc.grownBy w' none) := (show Calls _ _ _ _ _ from get_of (HX.out.later (Nat.le_refl _) hg5) HEB.out (some ⟨kind, node, client, inc, req, ver, key, code⟩) HE0.out)
    have HC := Lib.hid hg5
    obtain ⟨d0, d1, d2, d3, d4, d5, d6, d7, hcx⟩ := put_keep H0.out HX.out hg5
    clear hg5
    go_upto_region 11 with (go_at_call 15; refine HG1.out.mono ?_; rintro e w6 ⟨rfl, hg⟩; have HG6 := Lib.hid (grown_trans HC.out hg); clear hg)
    clear d0 d1 d2 d3 d4 d5 d6 d7 hcx HG1 HC
    have HA6 := Lib.hid (World.grownBy_alloc w6 (.cells #[.int .u8 kind, .int .i64 node, .int .i64 client, .int .i64 inc, .int .i64 req, .int .i64 ver, .string key, .int .i64 code] 24) none)
    have HB6 := Lib.hid (heap_alloc_new w6 (.cells #[.int .u8 kind, .int .i64 node, .int .i64 client, .int .i64 inc, .int .i64 req, .int .i64 ver, .string key, .int .i64 code] 24))
    generalize w6.alloc (.cells #[.int .u8 kind, .int .i64 node, .int .i64 client, .int .i64 inc, .int .i64 req, .int .i64 ver, .string key, .int .i64 code] 24) = w6a at *
    have HG2 : Hid (Calls Tryz.prog 15 #[.slice px m cx] w6a fun e w' => e = .returned (.tuple #[.agg #[.int .u8 0, .int .i64 0, .int .i64 0, .int .i64 0, .int .i64 0, .int .i64 0, .string ⟨#[]⟩, .int .i64 0], .int .i64 2]) ∧ w6a.grownBy w' none) := (show Calls _ _ _ _ _ from by
      have h1 := HX.out.later (Nat.le_refl _) (grown_trans HG6.out HA6.out)
      have h2 := BRow.front (p := px) (cap := cx) (l := E) (by rw [HEM.out]; exact h1) (n := m) (by rw [HEM.out]; omega)
      refine get_of h2 (HEB.out.take m) none ?_
      have := HE1.out
      rw [List.dropLast_eq_take, HEM.out] at this
      exact this)
    go_upto_region 12 with (go_at_call 15; refine HG2.out.mono ?_; rintro e w7 ⟨rfl, hg⟩; have HG7 := Lib.hid hg; clear hg)
    clear HG2
    have HA7 := Lib.hid (World.grownBy_alloc w7 (.cells #[.int .u8 0, .int .i64 0, .int .i64 0, .int .i64 0, .int .i64 0, .int .i64 0, .string ⟨#[]⟩, .int .i64 0] 24) none)
    generalize w7.alloc (.cells #[.int .u8 0, .int .i64 0, .int .i64 0, .int .i64 0, .int .i64 0, .int .i64 0, .string ⟨#[]⟩, .int .i64 0] 24) = w7a at *
    have hcx := conv_bytes (HX.out.later (Nat.le_refl _) (grown_trans HG6.out (grown_trans HA6.out (grown_trans HG7.out HA7.out))))
    have kc := fun w => Lib.run_convert_string_bytes (P := Tryz.prog) w 9 25 5 (ofB E) (u := .string) Tryz.underlying9 Tryz.underlying25 Tryz.underlying5
    go_upto_region 13 with (first
      | (at_builtin; refine wpList_conv1 w7a (ofB E) (by rw [HSZ.out]; omega) 0 rfl _ _ rfl rfl _ (Lib.bytesWorld_size _ _ _) rfl ?_; intro p8 c8 w8 hg hB; have HG8 := Lib.hid hg; have HB8 := Lib.hid hB; clear hg hB kc hcx)
      | (go_at_call 15; refine (get_of HB8.out (by rw [strB_ofB HEB.out]; exact HEB.out.app (fun b hb => by simp at hb; omega)) none (by rw [strB_ofB HEB.out]; exact HE2.out)).mono ?_; rintro e w9 ⟨rfl, hg⟩; simp only [getV, getE, zeros]; have HG9 := Lib.hid hg; clear hg))
    have HA9 := Lib.hid (World.grownBy_alloc w9 (.cells #[.int .u8 0, .int .i64 0, .int .i64 0, .int .i64 0, .int .i64 0, .int .i64 0, .string ⟨#[]⟩, .int .i64 0] 24) none)
    generalize w9.alloc (.cells #[.int .u8 0, .int .i64 0, .int .i64 0, .int .i64 0, .int .i64 0, .int .i64 0, .string ⟨#[]⟩, .int .i64 0] 24) = w9a at *
    have HW9 : Hid (w6a.grownBy w9a none) := (show w6a.grownBy w9a none from grown_trans HG7.out (grown_trans HA7.out (grown_trans HG8.out (grown_trans HG9.out HA9.out))))
    have HW9' : Hid (w3.grownBy w9a none) := (show w3.grownBy w9a none from grown_trans HG6.out (grown_trans HA6.out HW9.out))
    have B6 := (HW9.out.block w6.heap.size (Array.getElem?_eq_some_iff.1 HB6.out).1 (by simp)).trans HB6.out
    obtain ⟨d0, d1, d2, d3, d4, d5, d6, d7, hcx⟩ := put_keep H0.out HX.out HW9'.out
    have q0 : w9a.cell? ⟨w6.heap.size, 0, none⟩ = some (.int .u8 kind) := (cell_block B6 0).trans rfl
    have q1 : w9a.cell? ⟨w6.heap.size, 1, none⟩ = some (.int .i64 node) := (cell_block B6 1).trans rfl
    have q2 : w9a.cell? ⟨w6.heap.size, 2, none⟩ = some (.int .i64 client) := (cell_block B6 2).trans rfl
    have q3 : w9a.cell? ⟨w6.heap.size, 3, none⟩ = some (.int .i64 inc) := (cell_block B6 3).trans rfl
    have q4 : w9a.cell? ⟨w6.heap.size, 4, none⟩ = some (.int .i64 req) := (cell_block B6 4).trans rfl
    have q5 : w9a.cell? ⟨w6.heap.size, 5, none⟩ = some (.int .i64 ver) := (cell_block B6 5).trans rfl
    have q6 : w9a.cell? ⟨w6.heap.size, 6, none⟩ = some (.string key) := (cell_block B6 6).trans rfl
    have q7 : w9a.cell? ⟨w6.heap.size, 7, none⟩ = some (.int .i64 code) := (cell_block B6 7).trans rfl
    clear B6 hcx
    have hnq : ∀ w, (binOp .neq 24 (.agg #[.int .u8 kind, .int .i64 node, .int .i64 client, .int .i64 inc, .int .i64 req, .int .i64 ver, .string key, .int .i64 code] : Value) (.agg #[.int .u8 kind, .int .i64 node, .int .i64 client, .int .i64 inc, .int .i64 req, .int .i64 ver, .string key, .int .i64 code] : Value)).run Tryz.prog w = .ok (.bool false) w := (fun w => by have := neq_cmd ⟨kind, node, client, inc, req, ver, key, code⟩ ⟨kind, node, client, inc, req, ver, key, code⟩ w; simpa [encCmd] using this)
    go_upto_region 15 with fail
    clear d0 d1 d2 d3 d4 d5 d6 d7 q0 q1 q2 q3 q4 q5 q6 q7 hnq
    have HWB : Hid (W.grownBy w9a none) := (show W.grownBy w9a none from grown_trans (World.grownBy_alloc W _ none) (grown_trans H0.out HW9'.out))
    go_upto_region 17 with (go_at_call 15; refine (get_of (HB.out.later (Nat.le_refl _) HWB.out) HBL.out none HD.out).mono ?_; rintro e w10 ⟨rfl, hg⟩; simp only [getV, getE, zeros]; have HG10 := Lib.hid (grown_trans HWB.out hg); clear hg)
    have heq : ∀ w, (binOp .eql 24 (.agg #[.int .u8 0, .int .i64 0, .int .i64 0, .int .i64 0, .int .i64 0, .int .i64 0, .string ⟨#[]⟩, .int .i64 0]) (.agg #[.int .u8 0, .int .i64 0, .int .i64 0, .int .i64 0, .int .i64 0, .int .i64 0, .string ⟨#[]⟩, .int .i64 0])).run Tryz.prog w = .ok (.bool true) w := (fun w => by have := eql_cmd ⟨0, 0, 0, 0, 0, 0, ⟨#[]⟩, 0⟩ ⟨0, 0, 0, 0, 0, 0, ⟨#[]⟩, 0⟩ w; simpa [encCmd] using this)
    go_wp2_with (go_at_call 10; refine (HWK.out _).mono ?_; rintro e w12 ⟨rfl, hg⟩; have HG12 := Lib.hid hg; clear hg)
    go_ret
    exact ⟨rfl, grown_trans HG10.out (grown_trans (World.grownBy_alloc _ _ none) HG12.out)⟩
set_option maxHeartbeats 8000000 in
set_option maxRecDepth 100000 in
theorem puts_ns (kind node client inc req ver code : Int) (key : ByteArray) (hm : mayB ⟨kind, node, client, inc, req, ver, key, code⟩ = false) (hk : key.size ≤ 300) (pb : Option Addr) (cb : Nat) (l : List Int) (W : World) (hb : BRow W.heap.size W (.slice pb l.length cb) l) (hl : BL l) (hl4 : l.length ≤ 400) (dk dn dc di dr dv do_ : Int) (dy : ByteArray) (hd : decB l = some ⟨dk, dn, dc, di, dr, dv, dy, do_⟩) :
    Calls Tryz.prog 3 #[(.agg #[.int .u8 kind, .int .i64 node, .int .i64 client, .int .i64 inc, .int .i64 req, .int .i64 ver, .string key, .int .i64 code] : Value), .slice pb l.length cb] W fun e w' => e = .returned (.bool true) ∧ W.grownBy w' none := by
  have HPL : Hid (∀ W', Calls Tryz.prog 12 #[(.agg #[.int .u8 kind, .int .i64 node, .int .i64 client, .int .i64 inc, .int .i64 req, .int .i64 ver, .string key, .int .i64 code] : Value)] W' fun e w' => e = .returned (.agg #[.int .u8 kind, .int .i64 node, .int .i64 client, .int .i64 inc, .int .i64 req, .int .i64 ver, .string key, .int .i64 code] : Value) ∧ W'.grownBy w' none) := (show ∀ _, _ from fun W' => plain_any ⟨kind, node, client, inc, req, ver, key, code⟩ W')
  have HMY : Hid (∀ W', Calls Tryz.prog 11 #[(.agg #[.int .u8 kind, .int .i64 node, .int .i64 client, .int .i64 inc, .int .i64 req, .int .i64 ver, .string key, .int .i64 code] : Value)] W' fun e w' => e = .returned (.bool false) ∧ W'.grownBy w' none) := (show ∀ _, _ from fun W' => by have h := rmay_any ⟨kind, node, client, inc, req, ver, key, code⟩ (by simp only; omega) W'; rw [hm] at h; exact h)
  have HWK := Lib.hid works_any
  have HPU : Hid (∀ W', Calls Tryz.prog 13 #[(.agg #[.int .u8 kind, .int .i64 node, .int .i64 client, .int .i64 inc, .int .i64 req, .int .i64 ver, .string key, .int .i64 code] : Value)] W' fun e w' => e = .returned (.tuple #[.slice none 0 0, .int .i64 2]) ∧ W'.grownBy w' none) := (show ∀ _, _ from fun W' => put_bad ⟨kind, node, client, inc, req, ver, key, code⟩ (by simp only; omega) W' hm)
  have HDM : Hid (mayB ⟨dk, dn, dc, di, dr, dv, dy, do_⟩ = true ∧ encB ⟨dk, dn, dc, di, dr, dv, dy, do_⟩ = l) := (show _ ∧ _ from dec_some hl hd)
  have HPD : Hid (∀ W', Calls Tryz.prog 13 #[(.agg #[.int .u8 dk, .int .i64 dn, .int .i64 dc, .int .i64 di, .int .i64 dr, .int .i64 dv, .string dy, .int .i64 do_] : Value)] W' fun e w' => ∃ v', e = .returned (.tuple #[v', .int .i64 0]) ∧ w'.ownsRow W'.heap.size 5 1 v' l.length (bytesV l) ∧ W'.grownBy w' none) := (show ∀ _, _ from fun W' => by have h := put_ok ⟨dk, dn, dc, di, dr, dv, dy, do_⟩ W' HDM.out.1; unfold PutPost at h; rw [HDM.out.2] at h; exact h)
  clear HDM
  have HB := Lib.hid hb
  have HBL := Lib.hid hl
  have HD := Lib.hid hd
  have hkey : (key.size : Int) ≤ 300 := by omega
  have hn400 : (l.length : Int) ≤ 400 := by omega
  clear hm hb hl hd
  go_enter Tryz.func3, Tryz.ntmps3
  go_upto_region 5 with (first
    | (go_at_call 12; refine (HPL.out _).mono ?_; rintro e w1 ⟨rfl, hg⟩; have HGA := Lib.hid hg; clear hg)
    | (go_at_call 11; refine (HMY.out _).mono ?_; rintro e w2 ⟨rfl, hg⟩; have HGB := Lib.hid (grown_trans HGA.out hg); clear hg; obtain ⟨d0, d1, d2, d3, d4, d5, d6, d7⟩ := cells8 HGB.out)
    | (go_at_call 13; refine (HPU.out _).mono ?_; rintro e w3 ⟨rfl, hg⟩; have H0 := Lib.hid (grown_trans HGB.out hg); clear hg))
  clear d0 d1 d2 d3 d4 d5 d6 d7
  clear HGA HGB
  go_quiet (fail)
  go_upto_region 15 with fail
  have HWB : Hid (W.grownBy (w3.drewN nq) none) := (show W.grownBy (w3.drewN nq) none from grown_trans (World.grownBy_alloc W _ none) (grown_trans H0.out ⟨rfl, rfl, rfl, Nat.le_refl _, fun _ _ _ => rfl⟩))
  generalize w3.drewN nq = w9a at *
  go_upto_region 18 with (go_at_call 15; refine (get_of (HB.out.later (Nat.le_refl _) HWB.out) HBL.out (some ⟨dk, dn, dc, di, dr, dv, dy, do_⟩) HD.out).mono ?_; rintro e w10 ⟨rfl, hg⟩; simp only [getV, getE, encCmd]; have HG10 := Lib.hid (grown_trans HWB.out hg); clear hg)
  go_upto_region 19 with (go_at_call 13; refine (HPD.out _).mono ?_; rintro e w11 ⟨zv, rfl, hrow, hg⟩; obtain ⟨pz, cz, rfl⟩ := slice_form hrow; have HG11 := Lib.hid (grown_trans HG10.out (grown_trans (World.grownBy_alloc _ _ none) hg)); have HZ := Lib.hid (brow_of_row hrow); clear hrow hg)
  have hcz := conv_bytes HZ.out
  have hcb := conv_bytes (HB.out.later (Nat.le_refl _) HG11.out)
  go_wp2_with (go_at_call 10; refine (HWK.out _).mono ?_; rintro e w12 ⟨rfl, hg⟩; have HG12 := Lib.hid hg; clear hg)
  go_ret
  exact ⟨rfl, grown_trans HG11.out HG12.out⟩
set_option maxHeartbeats 8000000 in
set_option maxRecDepth 100000 in
theorem puts_nn (kind node client inc req ver code : Int) (key : ByteArray) (hm : mayB ⟨kind, node, client, inc, req, ver, key, code⟩ = false) (hk : key.size ≤ 300) (pb : Option Addr) (cb : Nat) (l : List Int) (W : World) (hb : BRow W.heap.size W (.slice pb l.length cb) l) (hl : BL l) (hl4 : l.length ≤ 400) (hd : decB l = none) :
    Calls Tryz.prog 3 #[(.agg #[.int .u8 kind, .int .i64 node, .int .i64 client, .int .i64 inc, .int .i64 req, .int .i64 ver, .string key, .int .i64 code] : Value), .slice pb l.length cb] W fun e w' => e = .returned (.bool true) ∧ W.grownBy w' none := by
  have HPL : Hid (∀ W', Calls Tryz.prog 12 #[(.agg #[.int .u8 kind, .int .i64 node, .int .i64 client, .int .i64 inc, .int .i64 req, .int .i64 ver, .string key, .int .i64 code] : Value)] W' fun e w' => e = .returned (.agg #[.int .u8 kind, .int .i64 node, .int .i64 client, .int .i64 inc, .int .i64 req, .int .i64 ver, .string key, .int .i64 code] : Value) ∧ W'.grownBy w' none) := (show ∀ _, _ from fun W' => plain_any ⟨kind, node, client, inc, req, ver, key, code⟩ W')
  have HMY : Hid (∀ W', Calls Tryz.prog 11 #[(.agg #[.int .u8 kind, .int .i64 node, .int .i64 client, .int .i64 inc, .int .i64 req, .int .i64 ver, .string key, .int .i64 code] : Value)] W' fun e w' => e = .returned (.bool false) ∧ W'.grownBy w' none) := (show ∀ _, _ from fun W' => by have h := rmay_any ⟨kind, node, client, inc, req, ver, key, code⟩ (by simp only; omega) W'; rw [hm] at h; exact h)
  have HWK := Lib.hid works_any
  have HPU : Hid (∀ W', Calls Tryz.prog 13 #[(.agg #[.int .u8 kind, .int .i64 node, .int .i64 client, .int .i64 inc, .int .i64 req, .int .i64 ver, .string key, .int .i64 code] : Value)] W' fun e w' => e = .returned (.tuple #[.slice none 0 0, .int .i64 2]) ∧ W'.grownBy w' none) := (show ∀ _, _ from fun W' => put_bad ⟨kind, node, client, inc, req, ver, key, code⟩ (by simp only; omega) W' hm)
  have HB := Lib.hid hb
  have HBL := Lib.hid hl
  have HD := Lib.hid hd
  have hkey : (key.size : Int) ≤ 300 := by omega
  have hn400 : (l.length : Int) ≤ 400 := by omega
  clear hm hb hl hd
  go_enter Tryz.func3, Tryz.ntmps3
  go_upto_region 5 with (first
    | (go_at_call 12; refine (HPL.out _).mono ?_; rintro e w1 ⟨rfl, hg⟩; have HGA := Lib.hid hg; clear hg)
    | (go_at_call 11; refine (HMY.out _).mono ?_; rintro e w2 ⟨rfl, hg⟩; have HGB := Lib.hid (grown_trans HGA.out hg); clear hg; obtain ⟨d0, d1, d2, d3, d4, d5, d6, d7⟩ := cells8 HGB.out)
    | (go_at_call 13; refine (HPU.out _).mono ?_; rintro e w3 ⟨rfl, hg⟩; have H0 := Lib.hid (grown_trans HGB.out hg); clear hg))
  clear d0 d1 d2 d3 d4 d5 d6 d7
  clear HGA HGB
  go_quiet (fail)
  go_upto_region 15 with fail
  have HWB : Hid (W.grownBy (w3.drewN nq) none) := (show W.grownBy (w3.drewN nq) none from grown_trans (World.grownBy_alloc W _ none) (grown_trans H0.out ⟨rfl, rfl, rfl, Nat.le_refl _, fun _ _ _ => rfl⟩))
  generalize w3.drewN nq = w9a at *
  go_upto_region 17 with (go_at_call 15; refine (get_of (HB.out.later (Nat.le_refl _) HWB.out) HBL.out none HD.out).mono ?_; rintro e w10 ⟨rfl, hg⟩; simp only [getV, getE, zeros]; have HG10 := Lib.hid (grown_trans HWB.out hg); clear hg)
  have heq : ∀ w, (binOp .eql 24 (.agg #[.int .u8 0, .int .i64 0, .int .i64 0, .int .i64 0, .int .i64 0, .int .i64 0, .string ⟨#[]⟩, .int .i64 0]) (.agg #[.int .u8 0, .int .i64 0, .int .i64 0, .int .i64 0, .int .i64 0, .int .i64 0, .string ⟨#[]⟩, .int .i64 0])).run Tryz.prog w = .ok (.bool true) w := (fun w => by have := eql_cmd ⟨0, 0, 0, 0, 0, 0, ⟨#[]⟩, 0⟩ ⟨0, 0, 0, 0, 0, 0, ⟨#[]⟩, 0⟩ w; simpa [encCmd] using this)
  go_wp2_with (go_at_call 10; refine (HWK.out _).mono ?_; rintro e w12 ⟨rfl, hg⟩; have HG12 := Lib.hid hg; clear hg)
  go_ret
  exact ⟨rfl, grown_trans HG10.out (grown_trans (World.grownBy_alloc _ _ none) HG12.out)⟩
set_option maxRecDepth 100000 in
theorem puts_big (kind node client inc req ver code : Int) (key : ByteArray) (hk : (key.size : Int) ≤ 9223372036854775807) (pb : Option Addr) (nb cb : Nat) (W : World) (hnb : nb ≤ 9223372036854775807) (hbig : 300 < key.size ∨ 400 < nb) :
    Calls Tryz.prog 3 #[(.agg #[.int .u8 kind, .int .i64 node, .int .i64 client, .int .i64 inc, .int .i64 req, .int .i64 ver, .string key, .int .i64 code] : Value), .slice pb nb cb] W fun e w' => e = .returned (.bool true) ∧ W.grownBy w' none := by
  have HWK := Lib.hid works_any
  have hnb' : (nb : Int) ≤ 9223372036854775807 := by omega
  by_cases h3 : 300 < key.size
  · have h3' : (300 : Int) < key.size := by omega
    clear hbig
    go_enter Tryz.func3, Tryz.ntmps3
    go_wp2_with (go_at_call 10; refine (HWK.out _).mono ?_; rintro e w12 ⟨rfl, hg⟩; have HG12 := Lib.hid hg; clear hg)
    go_ret
    exact ⟨rfl, grown_trans (World.grownBy_alloc _ _ none) HG12.out⟩
  · have h3' : (key.size : Int) ≤ 300 := by omega
    have h4 : (400 : Int) < nb := by omega
    clear hbig h3
    go_enter Tryz.func3, Tryz.ntmps3
    go_wp2_with (go_at_call 10; refine (HWK.out _).mono ?_; rintro e w12 ⟨rfl, hg⟩; have HG12 := Lib.hid hg; clear hg)
    go_ret
    exact ⟨rfl, grown_trans (World.grownBy_alloc _ _ none) HG12.out⟩
theorem puts_any (kind node client inc req ver code : Int) (key : ByteArray) (hk : (key.size : Int) ≤ 9223372036854775807) (pb : Option Addr) (cb : Nat) (l : List Int) (W : World) (hb : BRow W.heap.size W (.slice pb l.length cb) l) (hl : BL l) (hnb : l.length ≤ 9223372036854775807) :
    Calls Tryz.prog 3 #[(.agg #[.int .u8 kind, .int .i64 node, .int .i64 client, .int .i64 inc, .int .i64 req, .int .i64 ver, .string key, .int .i64 code] : Value), .slice pb l.length cb] W fun e w' => e = .returned (.bool true) ∧ W.grownBy w' none := by
  by_cases hbig : 300 < key.size ∨ 400 < l.length
  · exact puts_big kind node client inc req ver code key hk pb l.length cb W hnb hbig
  · cases hd : decB l with
    | none =>
      cases hm : mayB ⟨kind, node, client, inc, req, ver, key, code⟩ with
      | true => exact puts_yn kind node client inc req ver code key hm (by omega) pb cb l W hb hl (by omega) hd
      | false => exact puts_nn kind node client inc req ver code key hm (by omega) pb cb l W hb hl (by omega) hd
    | some d =>
      obtain ⟨dk, dn, dc, di, dr, dv, dy, do_⟩ := d
      cases hm : mayB ⟨kind, node, client, inc, req, ver, key, code⟩ with
      | true => exact puts_ys kind node client inc req ver code key hm (by omega) pb cb l W hb hl (by omega) dk dn dc di dr dv do_ dy hd
      | false => exact puts_ns kind node client inc req ver code key hm (by omega) pb cb l W hb hl (by omega) dk dn dc di dr dv do_ dy hd
end Go.Proofs.YtjfelfjobeeenaaGreat
