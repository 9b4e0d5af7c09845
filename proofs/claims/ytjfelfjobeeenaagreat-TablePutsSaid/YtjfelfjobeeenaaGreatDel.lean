/- maps.DeleteFunc at the table's maps. Conditions: the closure writes nothing that lay. -/
import Derived.Test.YtjfelfjobeeenaaGreatRead2
import Derived.Shelf.Abstract
namespace Go.Proofs.YtjfelfjobeeenaaGreat
open Go.RowKit Go.Sf Go.Shelf
set_option linter.unusedVariables false

set_option maxHeartbeats 4000000 in
theorem delSets (b : Nat) (m : List (ID × NSet)) (f : ID → NSet → Bool) (g : Nat) (cb : Array Value) (w : World) (eg : ∀ args w, (callFunc g args).run Tryz.prog w = .ok (.enter g args) w)
    (hm : MapT w b encID encSet m)
    (hdel : ∀ (W : World) (k : ID) (v : NSet), w.grownBy W (some b) → (k, v) ∈ m → Calls Tryz.prog g (#[encID k, encSet v] ++ cb) W fun e w' => e = .returned (.bool (f k v)) ∧ W.grownBy w' none) :
    Calls Tryz.prog 67 #[.map (some b), .func (.func g) #[] cb] w fun e w' => e = .returned (.tuple #[]) ∧ MapT w' b encID encSet (m.filter fun p => !f p.1 p.2) ∧ w.grownBy w' (some b) := by
  have hnd := hm.nodup
  have HD := Lib.hid hdel
  have HN := Lib.hid hnd
  clear hdel hnd
  go_enter Tryz.func67, Tryz.ntmps67
  go_wp2_with (at_range; refine wpList_rangeT _ rfl _ 120 rfl Tryz.underlying120 b m rfl hm ?_; intro w0 hi0 hg0 hs0)
  go_frame
  go_loopw [8] (fun _ wr => ∃ seen, IterT wr w.heap.size b encID encSet (dfAt m f seen) seen ∧ w.grownBy wr (some b)) (fun _ wr => leftW wr w.heap.size b)
  case atStart => exact ⟨fun _ => false, by rw [dfAt_start]; exact hi0, hg0.but _⟩
  case round =>
    obtain ⟨seen, hi, hgw⟩ := hrel
    go_wp2_with (at_next; refine wpList_nextT _ rfl _ rfl encID_inj w.heap.size b _ seen rfl hi ?_ ?_)
    · intro hall
      go_wp2
      go_end0
      exact ⟨rfl, by rw [← dfAt_end hall]; exact hi.map, hgw⟩
    · intro k v w1 ⟨hmem, hsn, hi1, hg1, hs1, hen⟩
      have hin : (k, v) ∈ m := (List.mem_filter.1 hmem).1
      have hgw1 := hgw.andThen hg1 (fun j hj => by cases hj; exact Or.inl (Nat.le_refl _))
      have hc := HD.out (w1.alloc (.cells #[.string k.key, .int .i64 k.ver] 54)) k v (hgw1.andThen (World.grownBy_alloc w1 _ none) (fun j hj => by cases hj)) hin
      have hst := dfAt_stays (f := f) (seen := seen) HN.out hmem
      have hsk := dfAt_struck (f := f) (seen := seen) HN.out hmem
      have hlt := leftN_step (m := dfAt m f seen) (seen := seen) hmem hsn
      have hle := leftN_del (dfAt m f seen) (fun x => seen x || decide (x = k)) k
      have HK := Lib.hid (And.intro hst (And.intro hsk (And.intro hlt hle)))
      clear hst hsk hlt hle hmem hsn hin
      obtain ⟨kk, kn⟩ := k
      obtain ⟨vb, vs⟩ := v
      simp only [encID, encSet] at hen hc ⊢
      cases hp : f ⟨kk, kn⟩ ⟨vb, vs⟩ <;> rw [hp] at hc
      · go_wp2_with (go_at_fn g; refine hc.mono ?_; rintro e w2 ⟨rfl, hg2⟩)
        have hi2 := hi1.kept (w' := w2) ((World.grownBy_alloc w1 _ none).andThen hg2 (fun j hj => by cases hj)) (by simp) (by simp)
        go_roundw
        case rel => exact ⟨_, by rw [HK.out.1 hp]; exact hi2, hgw1.andThen ((World.grownBy_alloc w1 _ none).andThen hg2 (fun j hj => by cases hj)) (fun j hj => by cases hj)⟩
        case measure => rw [hi2.left, hi.left]; exact HK.out.2.2.1
      · go_wp2_with (first
          | (go_at_fn g; refine hc.mono ?_; rintro e w2 ⟨rfl, hg2⟩; have hi2 := hi1.kept (w' := w2) ((World.grownBy_alloc w1 _ none).andThen hg2 (fun j hj => by cases hj)) (by simp) (by simp); have hx2 : w2.cell? ⟨wr.heap.size, 0, none⟩ = some (.string kk) := (hg2.cell (by rw [← hs1]; simp [go_sem]) (by simp)); have hx3 : w2.cell? ⟨wr.heap.size, 1, none⟩ = some (.int .i64 kn) := (hg2.cell (by rw [← hs1]; simp [go_sem]) (by simp)))
          | (at_delete; refine wpList_deleteIterT _ rfl _ _ 120 54 rfl keID Tryz.underlying120 w.heap.size b _ _ rfl hi2 ⟨kk, kn⟩ rfl ?_; intro w3 hi3 hg3 hs3; go_frame))
        go_roundw
        case rel => exact ⟨_, by rw [HK.out.2.1 hp]; exact hi3, (hgw1.andThen ((World.grownBy_alloc w1 _ none).andThen hg2 (fun j hj => by cases hj)) (fun j hj => by cases hj)).andThen hg3 (fun j hj => by cases hj; exact Or.inr rfl)⟩
        case measure => rw [hi3.left, hi.left]; exact Nat.lt_of_le_of_lt HK.out.2.2.2 HK.out.2.2.1

set_option maxHeartbeats 4000000 in
theorem delPend (b : Nat) (m : List (ID × Pend)) (f : ID → Pend → Bool) (g : Nat) (cb : Array Value) (w : World) (eg : ∀ args w, (callFunc g args).run Tryz.prog w = .ok (.enter g args) w)
    (hm : MapT w b encID encPend m)
    (hdel : ∀ (W : World) (k : ID) (v : Pend), w.grownBy W (some b) → (k, v) ∈ m → Calls Tryz.prog g (#[encID k, encPend v] ++ cb) W fun e w' => e = .returned (.bool (f k v)) ∧ W.grownBy w' none) :
    Calls Tryz.prog 191 #[.map (some b), .func (.func g) #[] cb] w fun e w' => e = .returned (.tuple #[]) ∧ MapT w' b encID encPend (m.filter fun p => !f p.1 p.2) ∧ w.grownBy w' (some b) := by
  have hnd := hm.nodup
  have HD := Lib.hid hdel
  have HN := Lib.hid hnd
  clear hdel hnd
  go_enter Tryz.func191, Tryz.ntmps191
  go_wp2_with (at_range; refine wpList_rangeT _ rfl _ 119 rfl Tryz.underlying119 b m rfl hm ?_; intro w0 hi0 hg0 hs0)
  go_frame
  go_loopw [8] (fun _ wr => ∃ seen, IterT wr w.heap.size b encID encPend (dfAt m f seen) seen ∧ w.grownBy wr (some b)) (fun _ wr => leftW wr w.heap.size b)
  case atStart => exact ⟨fun _ => false, by rw [dfAt_start]; exact hi0, hg0.but _⟩
  case round =>
    obtain ⟨seen, hi, hgw⟩ := hrel
    go_wp2_with (at_next; refine wpList_nextT _ rfl _ rfl encID_inj w.heap.size b _ seen rfl hi ?_ ?_)
    · intro hall
      go_wp2
      go_end0
      exact ⟨rfl, by rw [← dfAt_end hall]; exact hi.map, hgw⟩
    · intro k v w1 ⟨hmem, hsn, hi1, hg1, hs1, hen⟩
      have hin : (k, v) ∈ m := (List.mem_filter.1 hmem).1
      have hgw1 := hgw.andThen hg1 (fun j hj => by cases hj; exact Or.inl (Nat.le_refl _))
      have hc := HD.out ((w1.alloc (.cells #[.string k.key, .int .i64 k.ver] 54)).alloc (.cells #[.int .i64 v.client, .int .i64 v.req] 130)) k v (hgw1.andThen (grown_alloc (World.grownBy_alloc w1 _ none) _) (fun j hj => by cases hj)) hin
      have hst := dfAt_stays (f := f) (seen := seen) HN.out hmem
      have hsk := dfAt_struck (f := f) (seen := seen) HN.out hmem
      have hlt := leftN_step (m := dfAt m f seen) (seen := seen) hmem hsn
      have hle := leftN_del (dfAt m f seen) (fun x => seen x || decide (x = k)) k
      have HK := Lib.hid (And.intro hst (And.intro hsk (And.intro hlt hle)))
      clear hst hsk hlt hle hmem hsn hin
      obtain ⟨kk, kn⟩ := k
      obtain ⟨vc, vr⟩ := v
      simp only [encID, encPend] at hen hc ⊢
      cases hp : f ⟨kk, kn⟩ ⟨vc, vr⟩ <;> rw [hp] at hc
      · go_wp2_with (go_at_fn g; refine hc.mono ?_; rintro e w2 ⟨rfl, hg2⟩)
        have hi2 := hi1.kept (w' := w2) ((grown_alloc (World.grownBy_alloc w1 _ none) _).andThen hg2 (fun j hj => by cases hj)) (by simp) (by simp)
        go_roundw
        case rel => exact ⟨_, by rw [HK.out.1 hp]; exact hi2, hgw1.andThen ((grown_alloc (World.grownBy_alloc w1 _ none) _).andThen hg2 (fun j hj => by cases hj)) (fun j hj => by cases hj)⟩
        case measure => rw [hi2.left, hi.left]; exact HK.out.2.2.1
      · go_wp2_with (first
          | (go_at_fn g; refine hc.mono ?_; rintro e w2 ⟨rfl, hg2⟩; have hi2 := hi1.kept (w' := w2) ((grown_alloc (World.grownBy_alloc w1 _ none) _).andThen hg2 (fun j hj => by cases hj)) (by simp) (by simp); have hx2 : w2.cell? ⟨wr.heap.size, 0, none⟩ = some (.string kk) := (hg2.cell (by rw [← hs1]; simp [go_sem]) (by simp)); have hx3 : w2.cell? ⟨wr.heap.size, 1, none⟩ = some (.int .i64 kn) := (hg2.cell (by rw [← hs1]; simp [go_sem]) (by simp)))
          | (at_delete; refine wpList_deleteIterT _ rfl _ _ 119 54 rfl keID Tryz.underlying119 w.heap.size b _ _ rfl hi2 ⟨kk, kn⟩ rfl ?_; intro w3 hi3 hg3 hs3; go_frame))
        go_roundw
        case rel => exact ⟨_, by rw [HK.out.2.1 hp]; exact hi3, (hgw1.andThen ((grown_alloc (World.grownBy_alloc w1 _ none) _).andThen hg2 (fun j hj => by cases hj)) (fun j hj => by cases hj)).andThen hg3 (fun j hj => by cases hj; exact Or.inr rfl)⟩
        case measure => rw [hi3.left, hi.left]; exact Nat.lt_of_le_of_lt HK.out.2.2.2 HK.out.2.2.1

end Go.Proofs.YtjfelfjobeeenaaGreat
