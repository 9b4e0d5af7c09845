/- What ack does. Conditions: a table that lies in memory; a node of the table. -/
import Derived.Test.YtjfelfjobeeenaaGreatLife2
namespace Go.Proofs.YtjfelfjobeeenaaGreat
open Go.RowKit Go.Sf Go.Shelf
set_option linter.unusedVariables false

def memH (m : List (ID × NSet)) (i : ID) : List Int := ((mget m i).map (·.mem)).getD []
def heldT (T : Tab) (i : ID) (n : Int) (nb : Nat) : Tab := { T with holds := sadd T.holds i n nb, refuses := smod T.refuses i fun l => sdel l n }
def refusedT (T : Tab) (i : ID) (n : Int) (nb : Nat) : Tab := { T with refuses := sadd T.refuses i n nb, holds := smod T.holds i fun l => sdel l n }
theorem sadd_blk {m : List (ID × NSet)} {i : ID} {n : Int} {nb : Nat} : ∀ x ∈ sadd m i n nb, x.2.blk ∈ m.map (·.2.blk) ∨ x.2.blk = nb := by
  intro x hx
  unfold sadd at hx
  split at hx
  · left; rw [← smod_blks m i (fun l => sput l n)]; exact List.mem_map.2 ⟨x, hx, rfl⟩
  · rcases List.mem_append.1 hx with h | h
    · exact Or.inl (List.mem_map.2 ⟨x, h, rfl⟩)
    · simp only [List.mem_singleton] at h; subst h; exact Or.inr rfl
theorem smod_blk {m : List (ID × NSet)} {i : ID} {f : List Int → List Int} : ∀ x ∈ smod m i f, x.2.blk ∈ m.map (·.2.blk) := by
  intro x hx
  rw [← smod_blks m i f]; exact List.mem_map.2 ⟨x, hx, rfl⟩
section
variable {w w1 : World} {tb : Nat} {T : Tab}
theorem TRep.held (h : TRep w tb T) {i : ID} {n : Int} (m : Moved w w1 T.rb T.hb T.refuses T.holds i n) : ∃ nb, w.heap.size ≤ nb ∧ TRep w1 tb (heldT T i n nb) ∧ Chg w w1 (T.blocks tb) := by
  obtain ⟨⟨nb, hnb, h2⟩, hc⟩ := m
  refine ⟨nb, hnb, h.upd_sets (hc.mono ?_) h2 (fun x hx => ?_) (fun x hx => Or.inl (smod_blk x hx)), hc.mono ?_⟩
  · intro b hb
    simp only [List.mem_cons, List.mem_append] at hb ⊢
    rcases hb with h | h | h
    · exact Or.inl h
    · exact Or.inr (Or.inr (Or.inr h))
    · exact Or.inr (Or.inr (Or.inl h))
  · rcases sadd_blk x hx with h1 | h1
    · exact Or.inl h1
    · exact Or.inr (by omega)
  · intro b hb
    simp only [Tab.blocks, List.mem_cons, List.mem_append] at hb ⊢
    rcases hb with h | h | h <;> simp [h]
theorem TRep.refused (h : TRep w tb T) {i : ID} {n : Int} (m : Moved w w1 T.hb T.rb T.holds T.refuses i n) : ∃ nb, w.heap.size ≤ nb ∧ TRep w1 tb (refusedT T i n nb) ∧ Chg w w1 (T.blocks tb) := by
  obtain ⟨⟨nb, hnb, h2⟩, hc⟩ := m
  refine ⟨nb, hnb, h.upd_sets (hc.mono ?_) h2.swap (fun x hx => Or.inl (smod_blk x hx)) (fun x hx => ?_), hc.mono ?_⟩
  · intro b hb
    simp only [List.mem_cons, List.mem_append] at hb ⊢
    rcases hb with h | h | h
    · exact Or.inr (Or.inl h)
    · exact Or.inr (Or.inr (Or.inl h))
    · exact Or.inr (Or.inr (Or.inr h))
  · rcases sadd_blk x hx with h1 | h1
    · exact Or.inl h1
    · exact Or.inr (by omega)
  · intro b hb
    simp only [Tab.blocks, List.mem_cons, List.mem_append] at hb ⊢
    rcases hb with h | h | h <;> simp [h]

/-- what ack leaves, behind the moving -/
def ackRest (T1 : Tab) (c : Cmd) : Tab :=
  match mget T1.pending ⟨c.key, c.ver⟩ with
  | none => T1
  | some p => if ((memH T1.holds ⟨c.key, c.ver⟩).length : Int) < T1.w then T1 else
      if (lookV T1 c.key).ver < c.ver then { doneT T1 ⟨c.key, c.ver⟩ p 0 with values := mput T1.values c.key ⟨c.ver, false⟩ } else doneT T1 ⟨c.key, c.ver⟩ p 0
def ackB (T : Tab) (c : Cmd) : Bool := nowB T c && wantedB T ⟨c.key, c.ver⟩
def ackT (T : Tab) (c : Cmd) (nb : Nat) : Tab := if ackB T c = true then ackRest (heldT T ⟨c.key, c.ver⟩ c.node nb) c else T
theorem ackT_f {T : Tab} {c : Cmd} (h : ackB T c = false) (nb : Nat) : ackT T c nb = T := if_neg (by rw [h]; decide)
theorem ackT_t {T : Tab} {c : Cmd} (h : ackB T c = true) (nb : Nat) : ackT T c nb = ackRest (heldT T ⟨c.key, c.ver⟩ c.node nb) c := if_pos h

/-- what ack gives -/
def AckPost (w w' : World) (tb : Nat) (T : Tab) (c : Cmd) : Prop := ∃ nb, w.heap.size ≤ nb ∧ TRep w' tb (ackT T c nb) ∧ Chg w w' (T.blocks tb)

set_option maxHeartbeats 4000000 in
set_option maxRecDepth 100000 in
theorem ack_no (h : TRep w tb T) (c : Cmd) (hl : T.lives.length ≤ 9223372036854775807) (h0 : 0 ≤ c.node) (h1 : c.node < T.lives.length) (hno : ackB T c = false) :
    Calls Tryz.prog 132 #[.pointer (some ⟨tb, 0, none⟩), encCmd c] w fun e w' => e = .returned (.tuple #[]) ∧ AckPost w w' tb T c := by
  obtain ⟨kind, node, client, inc, req, ver, key, code⟩ := c
  have HNOW : Hid (∀ W, w.grownBy W none → Calls Tryz.prog 172 #[.pointer (some ⟨tb, 0, none⟩), .agg #[.int .u8 kind, .int .i64 node, .int .i64 client, .int .i64 inc, .int .i64 req, .int .i64 ver, .string key, .int .i64 code]] W fun e w' => e = .returned (.bool (nowB T ⟨kind, node, client, inc, req, ver, key, code⟩)) ∧ W.grownBy w' none) :=
    fun W hg => now_any (h.grown hg) ⟨kind, node, client, inc, req, ver, key, code⟩ hl h0 h1
  have HWANT : Hid (∀ W, w.grownBy W none → Calls Tryz.prog 36 #[.pointer (some ⟨tb, 0, none⟩), .agg #[.string key, .int .i64 ver]] W fun e w' => e = .returned (.bool (wantedB T ⟨key, ver⟩)) ∧ W.grownBy w' none) :=
    fun W hg => wanted_any (h.grown hg) ⟨key, ver⟩
  have HT := Lib.hid h
  have HNO := Lib.hid hno
  clear h hno
  simp only [encCmd]
  cases hnow : nowB T ⟨kind, node, client, inc, req, ver, key, code⟩
  · simp only [hnow] at HNOW
    clear hnow
    go_enter Tryz.func132, Tryz.ntmps132
    go_wp2_with (go_at_call 172; refine (HNOW.out _ (by repeat (first | exact grown_refl _ | exact World.grownBy_alloc _ _ _ | refine grown_ext' ?_ _ | refine grown_alloc ?_ _ | refine grown_drew ?_))).mono ?_; rintro e w1 ⟨rfl, hg1⟩)
    refine bodyPost_ret (results_none rfl _ _ _) rfl ?_
    have hg : w.grownBy w1 none := grown_trans (by repeat (first | exact grown_refl _ | exact World.grownBy_alloc _ _ _ | refine grown_ext' ?_ _ | refine grown_alloc ?_ _ | refine grown_drew ?_)) hg1
    exact ⟨rfl, w.heap.size, Nat.le_refl _, by rw [ackT_f HNO.out]; exact HT.out.grown hg, Chg.of_grown hg _⟩
  · cases hw : wantedB T ⟨key, ver⟩
    · simp only [hnow] at HNOW
      simp only [hw] at HWANT
      clear hnow hw
      go_enter Tryz.func132, Tryz.ntmps132
      go_wp2_with (first
        | (go_at_call 172; refine (HNOW.out _ (by repeat (first | exact grown_refl _ | exact World.grownBy_alloc _ _ _ | refine grown_ext' ?_ _ | refine grown_alloc ?_ _ | refine grown_drew ?_))).mono ?_; rintro e w1 ⟨rfl, hg1⟩; obtain ⟨x1, rfl⟩ := ext_of_grown hg1)
        | (go_at_call 36; refine (HWANT.out _ (by repeat (first | exact grown_refl _ | exact World.grownBy_alloc _ _ _ | refine grown_ext' ?_ _ | refine grown_alloc ?_ _ | refine grown_drew ?_))).mono ?_; rintro e w2 ⟨rfl, hg2⟩))
      refine bodyPost_ret (results_none rfl _ _ _) rfl ?_
      have hg : w.grownBy w2 none := grown_trans (by repeat (first | exact grown_refl _ | exact World.grownBy_alloc _ _ _ | refine grown_ext' ?_ _ | refine grown_alloc ?_ _ | refine grown_drew ?_)) hg2
      exact ⟨rfl, w.heap.size, Nat.le_refl _, by rw [ackT_f HNO.out]; exact HT.out.grown hg, Chg.of_grown hg _⟩
    · have := HNO.out
      simp [ackB, hnow, hw] at this
end
end Go.Proofs.YtjfelfjobeeenaaGreat
