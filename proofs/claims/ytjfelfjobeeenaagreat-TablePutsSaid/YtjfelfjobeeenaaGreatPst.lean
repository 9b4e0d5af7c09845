/- A command's bytes (encB); table.Put's writer as a running state. Conditions: fields in their ranges. -/
import Derived.Test.YtjfelfjobeeenaaGreatPut5
import Derived.Test.YtjfelfjobeeenaaGreatMay
namespace Go.Proofs.YtjfelfjobeeenaaGreat
open Go.RowKit Go.Sf
set_option linter.unusedVariables false
/-- the bytes that a kind has ahead of the key -/
def headB (c : Cmd) : List Int :=
  if c.kind = 2 ∨ c.kind = 4 ∨ c.kind = 5 then be 2 c.node.toNat ++ be 8 c.inc.toNat
  else if c.kind = 3 ∨ c.kind = 6 ∨ c.kind = 7 then be 2 c.client.toNat ++ be 8 c.req.toNat
  else []
def keyB (c : Cmd) : List Int := if 3 ≤ c.kind ∧ c.kind ≤ 6 then be 1 c.key.size ++ strB c.key else []
def tailB (c : Cmd) : List Int :=
  if c.kind = 4 ∨ c.kind = 5 then be 8 c.ver.toNat
  else if c.kind = 7 then be 2 c.code.toNat
  else []
def encB (c : Cmd) : List Int := be 1 c.kind.toNat ++ headB c ++ keyB c ++ tailB c
/-- a writer that was made in the call that began at W -/
structure PSt (W : World) (wb : Nat) (v : Value) (l : List Int) (w : World) : Prop where
  box : WBox w wb wb v l
  grown : W.grownBy w none
  le : W.heap.size ≤ wb
  own : ∀ g, v.ownBlock = some g → W.heap.size ≤ g
theorem PSt.step {W w w' : World} {wb : Nat} {v : Value} {l l' : List Int} {e : Ending} (h : PSt W wb v l w) (hp : Puts w wb wb v l' e w') : e = .returned (.tuple #[]) ∧ ∃ v', PSt W wb v' l' w' := by
  obtain ⟨rfl, v', hw, ht, hv⟩ := hp
  refine ⟨rfl, v', hw, ⟨ht.os.trans h.grown.os, ht.tape.trans h.grown.tape, ht.output.trans h.grown.output, Nat.le_trans h.grown.size ht.size, fun k hk hn => ?_⟩, h.le, fun g hg => ?_⟩
  · refine (ht.block k (Nat.lt_of_lt_of_le hk h.grown.size) ?_).trans (h.grown.block k hk hn)
    rintro (e | e)
    · have := h.le; omega
    · have := h.own k e; omega
  · rcases hv with e | e
    · exact h.own g (e.trans hg)
    · exact Nat.le_trans h.grown.size (e g hg)
theorem PSt.start (W w : World) (hg : W.grownBy w none) : PSt W w.heap.size (.slice none 0 0) [] (w.alloc (.cells #[.slice none 0 0] 96)) :=
  ⟨⟨heap_alloc_new w _, World.ownsRow_nil _ _ _ _⟩, grown_alloc hg _, hg.size, fun g h => by simp [Value.ownBlock] at h⟩
section
variable {W w : World} {wb : Nat} {v : Value} {l : List Int}
theorem PSt.byte (h : PSt W wb v l w) (hl : l.length ≤ 100000) (x : Int) (h0 : 0 ≤ x) (h1 : x < 256) : Calls Tryz.prog 49 #[.pointer (some ⟨wb, 0, none⟩), .int .u8 x] w fun e w' => e = .returned (.tuple #[]) ∧ ∃ v', PSt W wb v' (l ++ be 1 x.toNat) w' := by
  have hx : (x.toNat : Int) = x := by omega
  have hh := byte_any h.box (Nat.le_refl _) (by omega) x.toNat (by omega)
  rw [hx] at hh
  exact hh.mono fun e w' hp => h.step hp
theorem PSt.short (h : PSt W wb v l w) (hl : l.length ≤ 100000) (x : Int) (h0 : 0 ≤ x) (h1 : x < 65536) : Calls Tryz.prog 50 #[.pointer (some ⟨wb, 0, none⟩), .int .u16 (x % 65536)] w fun e w' => e = .returned (.tuple #[]) ∧ ∃ v', PSt W wb v' (l ++ be 2 x.toNat) w' := by
  have hx : (x.toNat : Int) = x % 65536 := by omega
  have hh := short_any h.box (Nat.le_refl _) (by omega) x.toNat (by omega)
  rw [hx] at hh
  exact hh.mono fun e w' hp => h.step hp
theorem PSt.long (h : PSt W wb v l w) (hl : l.length ≤ 100000) (x : Int) (h0 : 0 ≤ x) (h1 : x < 9223372036854775808) : Calls Tryz.prog 51 #[.pointer (some ⟨wb, 0, none⟩), .int .u64 (x % 18446744073709551616)] w fun e w' => e = .returned (.tuple #[]) ∧ ∃ v', PSt W wb v' (l ++ be 8 x.toNat) w' := by
  have hx : (x.toNat : Int) = x % 18446744073709551616 := by omega
  have hh := long_any h.box (Nat.le_refl _) (by omega) x.toNat (by omega)
  rw [hx] at hh
  exact hh.mono fun e w' hp => h.step hp
theorem PSt.text (h : PSt W wb v l w) (s : ByteArray) (hl : l.length + s.size ≤ 100000) : Calls Tryz.prog 52 #[.pointer (some ⟨wb, 0, none⟩), .string s] w fun e w' => e = .returned (.tuple #[]) ∧ ∃ v', PSt W wb v' (l ++ (be 1 s.size ++ strB s)) w' := by
  have hh := text_any s h.box (Nat.le_refl _) (by omega)
  exact hh.mono fun e w' hp => by have := h.step hp; rwa [List.append_assoc] at this
theorem PSt.out (h : PSt W wb v l w) (hl : l.length ≤ 100000) : Calls Tryz.prog 53 #[.pointer (some ⟨wb, 0, none⟩)] w fun e w' => ∃ v', e = .returned v' ∧ w'.ownsRow W.heap.size 5 1 v' l.length (bytesV l) ∧ W.grownBy w' none :=
  (out_any h.box (by omega)).mono fun e w' ⟨v', h1, h2, h3⟩ => ⟨v', h1, row_lower h2 h.grown.size, grown_trans h.grown h3⟩
end
theorem may_parts {c : Cmd} (h : mayB c = true) : 0 ≤ c.node ∧ c.node < 255 ∧ 0 ≤ c.client ∧ c.client ≤ 65535 ∧ 0 ≤ c.inc ∧ c.inc ≤ 4611686018427387904 ∧ 0 ≤ c.req ∧ c.req ≤ 4611686018427387904 ∧ 0 ≤ c.ver ∧ c.ver ≤ 4611686018427387904 ∧ 0 ≤ c.code ∧ c.code ≤ 65535 ∧ c.key.size ≤ 64 := by
  simp only [mayB, longB, smallB, Bool.and_eq_true, decide_eq_true_eq] at h
  omega
end Go.Proofs.YtjfelfjobeeenaaGreat
