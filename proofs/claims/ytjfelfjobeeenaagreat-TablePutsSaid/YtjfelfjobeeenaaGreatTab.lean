/- The table in memory: which blocks it has, and what they hold. Conditions: none. -/
import Derived.Test.YtjfelfjobeeenaaGreatMay
namespace Go.Proofs.YtjfelfjobeeenaaGreat
open Go.RowKit Go.Sf
set_option linter.unusedVariables false

structure ID where
  key : ByteArray
  ver : Int
  deriving DecidableEq
def encID (i : ID) : Value := .agg #[.string i.key, .int .i64 i.ver]
theorem encID_inj (a b : ID) (h : encID a = encID b) : a = b := by
  cases a; cases b; simp [encID] at h; simp [h]
theorem checkID (em : Bool) (k : ID) (w : World) : (Instr.checkKey em 10000 54 (encID k)).run Tryz.prog w = .ok () w := by
  cases k; kernel_rfl
theorem equalID (a b : ID) (w : World) : (Op.equal 54 (encID a) (encID b)).run Tryz.prog w = .ok (decide (a = b)) w := by
  obtain ⟨k, n⟩ := a
  obtain ⟨k', n'⟩ := b
  simp [Op.equal, Op.maxDepth, encID, go_sem, toList_eq_iff]
  by_cases e1 : k = k' <;> by_cases e2 : n = n' <;> simp [e1, e2]
theorem bytes_beq_self (k : ByteArray) : (k == k) = true := by rw [beq_toListBytes]; simp
theorem sameID (k : ID) : Instr.sameBits 10000 (encID k) (encID k) = true := by
  cases k; simp [encID, Instr.sameBits, bytes_beq_self]
theorem keID : KEnc Tryz.prog 54 encID := kenc_wide (by kernel_rfl) checkID sameID encID_inj equalID
theorem keStr : KEnc Tryz.prog 9 Value.string := kenc_plain Tryz.underlying9 (fun _ => trivial) (fun a b h => by simpa using h)
theorem keInt : KEnc Tryz.prog 3 (Value.int .i64) := kenc_plain Tryz.underlying3 (fun _ => rfl) (fun a b h => by simpa using h)

structure Val where
  ver : Int
  dead : Bool
def encVal (v : Val) : Value := .agg #[.int .i64 v.ver, .bool v.dead]
structure Pend where
  client : Int
  req : Int
def encPend (v : Pend) : Value := .agg #[.int .i64 v.client, .int .i64 v.req]
structure CallT where
  req : Int
  ver : Int
  done : Bool
  code : Int
def encCall (c : CallT) : Value := .agg #[.int .i64 c.req, .int .i64 c.ver, .bool c.done, .int .i64 c.code]
structure NSet where
  blk : Nat
  mem : List Int
def encSet (p : NSet) : Value := .map (some p.blk)
def encUnit (_ : Unit) : Value := .agg #[]

theorem zeroVal (w : World) : (zeroValue 151).run Tryz.prog w = .ok (encVal ⟨0, false⟩) w := by kernel_rfl
theorem zeroPend (w : World) : (zeroValue 130).run Tryz.prog w = .ok (encPend ⟨0, 0⟩) w := by kernel_rfl
theorem zeroCall (w : World) : (zeroValue 77).run Tryz.prog w = .ok (encCall ⟨0, 0, false, 0⟩) w := by kernel_rfl
theorem zeroSet (w : World) : (zeroValue 127).run Tryz.prog w = .ok (.map none) w := by kernel_rfl
theorem zeroUnit (w : World) : (zeroValue 156).run Tryz.prog w = .ok (encUnit ()) w := by kernel_rfl

@[go_sem] theorem fieldCall0 (r1 r2 r4 : Int) (r3 : Bool) (w : World) : (Instr.field 77 (.agg #[.int .i64 r1, .int .i64 r2, .bool r3, .int .i64 r4]) 0).run Tryz.prog w = .ok (.int .i64 r1) w := by kernel_rfl
@[go_sem] theorem fieldVal0 (r1 : Int) (r3 : Bool) (w : World) : (Instr.field 151 (.agg #[.int .i64 r1, .bool r3]) 0).run Tryz.prog w = .ok (.int .i64 r1) w := by kernel_rfl
/-- a set's block, and its members -/
def SetT (w : World) (p : NSet) : Prop := MapT w p.blk (Value.int .i64) encUnit (p.mem.map fun n => (n, ()))

structure Tab where
  w : Int
  offers : Int
  next : Int
  lives : List Int
  calls : List (Int × CallT)
  values : List (ByteArray × Val)
  pending : List (ID × Pend)
  holds : List (ID × NSet)
  refuses : List (ID × NSet)
  lb : Nat
  cb : Nat
  vb : Nat
  pb : Nat
  hb : Nat
  rb : Nat

def Tab.blocks (T : Tab) (tb : Nat) : List Nat := tb :: T.lb :: T.cb :: T.vb :: T.pb :: T.hb :: T.rb :: (T.holds.map (·.2.blk) ++ T.refuses.map (·.2.blk))
def Tab.cells (T : Tab) : Array Value := #[.int .i64 T.w, .int .i64 T.offers, .int .i64 T.next, .slice (some ⟨T.lb, 0, none⟩) T.lives.length T.lives.length, .map (some T.cb), .map (some T.vb), .map (some T.pb), .map (some T.hb), .map (some T.rb)]

structure TRep (w : World) (tb : Nat) (T : Tab) : Prop where
  cells : w.heap[tb]? = some (.cells T.cells 122 (0, 0))
  lives : w.heap[T.lb]? = some (.cells (T.lives.map (Value.int .i64)).toArray 2 (0, 0))
  calls : MapT w T.cb (Value.int .i64) encCall T.calls
  values : MapT w T.vb Value.string encVal T.values
  pending : MapT w T.pb encID encPend T.pending
  holds : MapT w T.hb encID encSet T.holds
  refuses : MapT w T.rb encID encSet T.refuses
  hsets : ∀ x ∈ T.holds, SetT w x.2
  rsets : ∀ x ∈ T.refuses, SetT w x.2
  nodup : (T.blocks tb).Nodup

theorem TRep.lt {w : World} {tb : Nat} {T : Tab} (h : TRep w tb T) : ∀ b ∈ T.blocks tb, b < w.heap.size := by
  intro b hb
  simp only [Tab.blocks, List.mem_cons, List.mem_append, List.mem_map] at hb
  rcases hb with rfl | rfl | rfl | rfl | rfl | rfl | rfl | ⟨x, hx, rfl⟩ | ⟨x, hx, rfl⟩
  · exact (Array.getElem?_eq_some_iff.1 h.cells).1
  · exact (Array.getElem?_eq_some_iff.1 h.lives).1
  · exact h.calls.lt
  · exact h.values.lt
  · exact h.pending.lt
  · exact h.holds.lt
  · exact h.refuses.lt
  · exact MapT.lt (h.hsets x hx)
  · exact MapT.lt (h.rsets x hx)

theorem TRep.grown {w W : World} {tb : Nat} {T : Tab} (h : TRep w tb T) (hg : w.grownBy W none) : TRep W tb T where
  cells := (hg.block _ (h.lt _ (by simp [Tab.blocks])) (by simp)).trans h.cells
  lives := (hg.block _ (h.lt _ (by simp [Tab.blocks])) (by simp)).trans h.lives
  calls := h.calls.kept hg (by simp)
  values := h.values.kept hg (by simp)
  pending := h.pending.kept hg (by simp)
  holds := h.holds.kept hg (by simp)
  refuses := h.refuses.kept hg (by simp)
  hsets := fun x hx => MapT.kept (h.hsets x hx) hg (by simp)
  rsets := fun x hx => MapT.kept (h.rsets x hx) hg (by simp)
  nodup := h.nodup

theorem cell_block {w : World} {b : Nat} {c : Array Value} {t : TypeId} {fr : Nat × Nat} (h : w.heap[b]? = some (.cells c t fr)) (i : Nat) : w.cell? ⟨b, i, none⟩ = c[i]? := by
  simp [World.cell?, h]
theorem free_block {w : World} {b : Nat} {c : Array Value} {t : TypeId} (h : w.heap[b]? = some (.cells c t (0, 0))) (i : Nat) : w.frozen? ⟨b, i, none⟩ = false := by
  simp [World.frozen?, h]

theorem TRep.c0 {w : World} {tb : Nat} {T : Tab} (h : TRep w tb T) : w.cell? ⟨tb, 0, none⟩ = some (.int .i64 T.w) := (cell_block h.cells 0).trans rfl
theorem TRep.c1 {w : World} {tb : Nat} {T : Tab} (h : TRep w tb T) : w.cell? ⟨tb, 1, none⟩ = some (.int .i64 T.offers) := (cell_block h.cells 1).trans rfl
theorem TRep.c2 {w : World} {tb : Nat} {T : Tab} (h : TRep w tb T) : w.cell? ⟨tb, 2, none⟩ = some (.int .i64 T.next) := (cell_block h.cells 2).trans rfl
theorem TRep.c3 {w : World} {tb : Nat} {T : Tab} (h : TRep w tb T) : w.cell? ⟨tb, 3, none⟩ = some (.slice (some ⟨T.lb, 0, none⟩) T.lives.length T.lives.length) := (cell_block h.cells 3).trans rfl
theorem TRep.c4 {w : World} {tb : Nat} {T : Tab} (h : TRep w tb T) : w.cell? ⟨tb, 4, none⟩ = some (.map (some T.cb)) := (cell_block h.cells 4).trans rfl
theorem TRep.c5 {w : World} {tb : Nat} {T : Tab} (h : TRep w tb T) : w.cell? ⟨tb, 5, none⟩ = some (.map (some T.vb)) := (cell_block h.cells 5).trans rfl
theorem TRep.c6 {w : World} {tb : Nat} {T : Tab} (h : TRep w tb T) : w.cell? ⟨tb, 6, none⟩ = some (.map (some T.pb)) := (cell_block h.cells 6).trans rfl
theorem TRep.c7 {w : World} {tb : Nat} {T : Tab} (h : TRep w tb T) : w.cell? ⟨tb, 7, none⟩ = some (.map (some T.hb)) := (cell_block h.cells 7).trans rfl
theorem TRep.c8 {w : World} {tb : Nat} {T : Tab} (h : TRep w tb T) : w.cell? ⟨tb, 8, none⟩ = some (.map (some T.rb)) := (cell_block h.cells 8).trans rfl
theorem TRep.free {w : World} {tb : Nat} {T : Tab} (h : TRep w tb T) (i : Nat) : w.frozen? ⟨tb, i, none⟩ = false := free_block h.cells i
theorem TRep.life {w : World} {tb : Nat} {T : Tab} (h : TRep w tb T) (n : Nat) (hn : n < T.lives.length) : w.cell? ⟨T.lb, n, none⟩ = some (.int .i64 (T.lives.getD n 0)) := by
  rw [cell_block h.lives n]
  simp [hn]
theorem TRep.lfree {w : World} {tb : Nat} {T : Tab} (h : TRep w tb T) (i : Nat) : w.frozen? ⟨T.lb, i, none⟩ = false := free_block h.lives i
theorem TRep.tlt {w : World} {tb : Nat} {T : Tab} (h : TRep w tb T) : tb < w.heap.size := h.lt _ (by simp [Tab.blocks])
theorem TRep.llt {w : World} {tb : Nat} {T : Tab} (h : TRep w tb T) : T.lb < w.heap.size := h.lt _ (by simp [Tab.blocks])

section
variable {w w1 : World} {tb : Nat} {T : Tab}
/-- two blocks of a table are two -/
theorem TRep.upd_pending (h : TRep w tb T) {m : List (ID × Pend)} (hm : MapT w1 T.pb encID encPend m) (hg : w.grownBy w1 (some T.pb)) : TRep w1 tb { T with pending := m } := by
  have nd := h.nodup
  simp only [Tab.blocks, List.nodup_cons, List.mem_cons, List.mem_append, List.mem_map, not_or, not_exists, not_and] at nd
  exact {
    cells := (hg.block _ h.tlt (by simp; omega)).trans h.cells
    lives := (hg.block _ h.llt (by simp; omega)).trans h.lives
    calls := h.calls.kept hg (by simp; omega)
    values := h.values.kept hg (by simp; omega)
    pending := hm
    holds := h.holds.kept hg (by simp; omega)
    refuses := h.refuses.kept hg (by simp; omega)
    hsets := fun x hx => MapT.kept (h.hsets x hx) hg (by have := nd.2.2.2.2.1.2.2.1 x hx; simpa using this)
    rsets := fun x hx => MapT.kept (h.rsets x hx) hg (by have := nd.2.2.2.2.1.2.2.2 x hx; simpa using this)
    nodup := h.nodup }
theorem TRep.upd_calls (h : TRep w tb T) {m : List (Int × CallT)} (hm : MapT w1 T.cb (Value.int .i64) encCall m) (hg : w.grownBy w1 (some T.cb)) : TRep w1 tb { T with calls := m } := by
  have nd := h.nodup
  simp only [Tab.blocks, List.nodup_cons, List.mem_cons, List.mem_append, List.mem_map, not_or, not_exists, not_and] at nd
  exact {
    cells := (hg.block _ h.tlt (by simp; omega)).trans h.cells
    lives := (hg.block _ h.llt (by simp; omega)).trans h.lives
    calls := hm
    values := h.values.kept hg (by simp; omega)
    pending := h.pending.kept hg (by simp; omega)
    holds := h.holds.kept hg (by simp; omega)
    refuses := h.refuses.kept hg (by simp; omega)
    hsets := fun x hx => MapT.kept (h.hsets x hx) hg (by have := nd.2.2.1.2.2.2.2.1 x hx; simpa using this)
    rsets := fun x hx => MapT.kept (h.rsets x hx) hg (by have := nd.2.2.1.2.2.2.2.2 x hx; simpa using this)
    nodup := h.nodup }
theorem TRep.upd_values (h : TRep w tb T) {m : List (ByteArray × Val)} (hm : MapT w1 T.vb Value.string encVal m) (hg : w.grownBy w1 (some T.vb)) : TRep w1 tb { T with values := m } := by
  have nd := h.nodup
  simp only [Tab.blocks, List.nodup_cons, List.mem_cons, List.mem_append, List.mem_map, not_or, not_exists, not_and] at nd
  exact {
    cells := (hg.block _ h.tlt (by simp; omega)).trans h.cells
    lives := (hg.block _ h.llt (by simp; omega)).trans h.lives
    calls := h.calls.kept hg (by simp; omega)
    values := hm
    pending := h.pending.kept hg (by simp; omega)
    holds := h.holds.kept hg (by simp; omega)
    refuses := h.refuses.kept hg (by simp; omega)
    hsets := fun x hx => MapT.kept (h.hsets x hx) hg (by have := nd.2.2.2.1.2.2.2.1 x hx; simpa using this)
    rsets := fun x hx => MapT.kept (h.rsets x hx) hg (by have := nd.2.2.2.1.2.2.2.2 x hx; simpa using this)
    nodup := h.nodup }
end
end Go.Proofs.YtjfelfjobeeenaaGreat
