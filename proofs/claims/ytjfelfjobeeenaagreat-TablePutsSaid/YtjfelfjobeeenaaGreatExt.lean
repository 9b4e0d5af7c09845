/- Worlds that are another one with draws and new blocks: 'ext w x' as an equation; a region that draws its order and whose operations and callees only read, or lay blocks, walked once. Conditions: none. -/
import Derived.Test.YtjfelfjobeeenaaGreatMaps
import Derived.Deep.QuietTactic
import Derived.BigQuiet
namespace Go.Sf
open Go.MapKept Go.RowKit

structure Ext where
  d : Nat
  os : Array Obj
  deriving Inhabited
/-- w with these blocks behind it, so much drawn -/
def ext (w : World) (x : Ext) : World := { w with heap := w.heap ++ x.os, drawn := x.d }

theorem ext_of_grown {w w' : World} (h : w.grownBy w' none) : ∃ x, w' = ext w x := by
  refine ⟨⟨w'.drawn, w'.heap.extract w.heap.size w'.heap.size⟩, ?_⟩
  have e : w'.heap = w.heap ++ w'.heap.extract w.heap.size w'.heap.size := by
    apply Array.ext_getElem?
    intro k
    rw [Array.getElem?_append]
    split
    · rename_i hk; exact h.block k hk (by simp)
    · rename_i hk
      rw [Array.getElem?_extract]
      split
      · congr 1; omega
      · rw [Array.getElem?_eq_none]; have := h.size; omega
  obtain ⟨h1, h2, h3, _, _⟩ := h
  cases w; cases w'
  simp only [ext] at *
  subst h1; subst h2; subst h3
  rw [← e]

section
variable (w : World) (x y : Ext) (a : Addr)
@[go_sem] theorem size_ext : (ext w x).heap.size = w.heap.size + x.os.size := by simp [ext]
theorem heap_ext {k : Nat} (h : k < w.heap.size) : (ext w x).heap[k]? = w.heap[k]? := by simp [ext, Array.getElem?_append, h]
@[go_sem] theorem cell_ext (h : a.block < w.heap.size) : (ext w x).cell? a = w.cell? a := by simp only [World.cell?, heap_ext w x h]
@[go_sem] theorem frozen_ext (h : a.block < w.heap.size) : (ext w x).frozen? a = w.frozen? a := by simp only [World.frozen?, heap_ext w x h]
@[go_sem] theorem drew_ext : (ext w x).drew = ext w ⟨x.d + 1, x.os⟩ := rfl
@[go_sem] theorem ext_drew : ext w.drew x = ext w x := rfl
@[go_sem] theorem ext_ext : ext (ext w x) y = ext w ⟨y.d, x.os ++ y.os⟩ := by simp [ext, Array.append_assoc]
theorem grown_ext : w.grownBy (ext w x) none := ⟨rfl, rfl, rfl, by simp [ext], fun k hk _ => heap_ext w x hk⟩
theorem ext_self : ext w ⟨w.drawn, #[]⟩ = w := by simp [ext]
@[go_sem] theorem mapT_ext {K V : Type} {ek : K → Value} {ev : V → Value} {b : Nat} {m : List (K × V)} (h : MapT w b ek ev m) : MapT (ext w x) b ek ev m := h.kept (grown_ext w x) (by simp)
@[go_sem] theorem mapT_ext1 {K V : Type} {ek : K → Value} {ev : V → Value} {b : Nat} {m : List (K × V)} (o : Obj) (h : MapT w b ek ev m) : MapT (ext (w.alloc o) x) b ek ev m := (h.alloc o).kept (grown_ext _ x) (by simp)
@[go_sem] theorem mapT_ext2 {K V : Type} {ek : K → Value} {ev : V → Value} {b : Nat} {m : List (K × V)} (o o' : Obj) (h : MapT w b ek ev m) : MapT (ext ((w.alloc o).alloc o') x) b ek ev m := ((h.alloc o).alloc o').kept (grown_ext _ x) (by simp)
@[go_sem] theorem mapT_ext1b {K V : Type} {ek : K → Value} {ev : V → Value} {b : Nat} {m : List (K × V)} (o : Obj) (h : MapT w b ek ev m) : MapT ((ext w x).alloc o) b ek ev m := (h.kept (grown_ext _ x) (by simp)).alloc o
end

/-- nothing that lay has turned -/
theorem grown_trans {a b c : World} (h : a.grownBy b none) (k : b.grownBy c none) : a.grownBy c none :=
  ⟨k.os.trans h.os, k.tape.trans h.tape, k.output.trans h.output, Nat.le_trans h.size k.size, fun i hi hn => (k.block i (Nat.lt_of_lt_of_le hi h.size) hn).trans (h.block i hi hn)⟩
theorem grown_refl (w : World) : w.grownBy w none := ⟨rfl, rfl, rfl, Nat.le_refl _, fun _ _ _ => rfl⟩
theorem grown_alloc {a w : World} (h : a.grownBy w none) (o : Obj) : a.grownBy (w.alloc o) none := grown_trans h (World.grownBy_alloc w o none)
theorem grown_drew {a w : World} (h : a.grownBy w none) : a.grownBy w.drew none := grown_trans h ⟨rfl, rfl, rfl, Nat.le_refl _, fun _ _ _ => rfl⟩
theorem grown_ext' {a w : World} (h : a.grownBy w none) (x : Ext) : a.grownBy (ext w x) none := grown_trans h (grown_ext w x)
theorem grown_setCell {a w : World} (h : a.grownBy w none) {p : Addr} (hp : a.heap.size ≤ p.block) (u : Value) : a.grownBy (w.setCell p u) none :=
  ⟨h.os, h.tape, h.output, Nat.le_trans h.size (by simp [World.setCell]), fun k hk hn => (Below.heap_setCell w p u k (by omega)).trans (h.block k hk hn)⟩

theorem wp_region_quiet_ext {P : Program} {id : Nat} {Q : Exit → Act → World → Prop} {a : Act} {w : World} {l : List Oper} (hm : P.follows .mixedOrders = true) (hB : Region.lexB .any l.toArray = true)
    (h : wpQuiet P l.toArray (fun w' => ∃ x : Ext, w' = ext w x) (fun a' => ∀ w', (∃ x : Ext, w' = ext w x) → Q .normal a' w') l a) : (Code.region id l.toArray true).wp P Q a w :=
  wp_region_quiet (C := fun w' => ∃ x : Ext, w' = ext w x) hm hB ⟨⟨w.drawn + 1, #[]⟩, by simp only [ext, Array.append_empty]⟩ (by simpa using h)

/-- a callee's contract, met in such a world -/
theorem calls_ext {P : Program} {f : FuncId} {args : Array Value} {w : World} {x : Ext} {v : Value}
    (h : Calls P f args (ext w x) fun e w' => e = .returned v ∧ (ext w x).grownBy w' none) : Calls P f args (ext w x) fun e w'' => e = .returned v ∧ ∃ y : Ext, w'' = ext w y :=
  h.mono fun _ _ ⟨he, hg⟩ => ⟨he, ext_of_grown (grown_trans (grown_ext w x) hg)⟩
end Go.Sf
