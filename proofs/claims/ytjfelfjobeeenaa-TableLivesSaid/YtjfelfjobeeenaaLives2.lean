/- TableLives' table, its states in order: the plain law. Conditions: 1 ≤ k ≤ n ≤ 12, a node d < n. -/
import Derived.Test.YtjfelfjobeeenaaLives
namespace Go.Proofs.Ytjfelfjobeeenaa
open Go.RowKit Go.Sf Go.Shelf
set_option linter.unusedVariables false
/-- the lives of the first a nodes set -/
def lvA (n a : Nat) : List Int := (List.range n).map fun i => if i < a then (i : Int) + 1 else 0
def lvD (n d : Nat) : List Int := (lvA n n).set d ((n : Int) + 1)
/-- the numbers below a -/
def rg (a : Nat) : List Int := (List.range a).map fun (i : Nat) => (i : Int)
theorem lvA_length (n a : Nat) : (lvA n a).length = n := by simp [lvA]
theorem lvD_length (n d : Nat) : (lvD n d).length = n := by simp [lvD, lvA]
theorem lvA_zero (n : Nat) : lvA n 0 = List.replicate n 0 := by
  apply List.ext_getElem <;> simp [lvA]
theorem lvA_succ (n a : Nat) (h : a < n) : (lvA n a).set a ((a : Int) + 1) = lvA n (a + 1) := by
  apply List.ext_getElem
  · simp [lvA]
  · intro i h1 h2
    simp only [lvA, List.getElem_set, List.getElem_map, List.getElem_range]
    by_cases e : a = i
    · subst e; simp
    · rw [if_neg e]
      by_cases h3 : i < a
      · rw [if_pos h3, if_pos (by omega)]
      · rw [if_neg h3, if_neg (by omega)]
theorem lvA_get (n a i : Nat) (h : i < n) : (lvA n a).getD i 0 = if i < a then (i : Int) + 1 else 0 := by
  simp [lvA, List.getD_eq_getElem?_getD, h]
theorem lvD_get (n d i : Nat) (hd : d < n) (h : i < n) : (lvD n d).getD i 0 = if i = d then (n : Int) + 1 else (i : Int) + 1 := by
  unfold lvD
  simp only [List.getD_eq_getElem?_getD, List.getElem?_set]
  by_cases e : d = i
  · subst e; simp [lvA, hd]
  · have e2 : ¬ i = d := fun h => e h.symm
    simp [e, e2, lvA, h]
theorem lifeV_get {T : Tab} (a : Nat) (h : a < T.lives.length) : lifeV T a = T.lives.getD a 0 := by
  unfold lifeV
  rw [if_neg (by omega)]
  simp
theorem rg_length (a : Nat) : (rg a).length = a := by simp [rg]
theorem rg_mem (a : Nat) (x : Int) : x ∈ rg a ↔ 0 ≤ x ∧ x < a := by
  unfold rg
  simp only [List.mem_map, List.mem_range]
  constructor
  · rintro ⟨i, h, rfl⟩; omega
  · intro h; exact ⟨x.toNat, by omega, by omega⟩
theorem rg_sput (a : Nat) : sput (rg a) a = rg (a + 1) := by
  unfold sput
  rw [if_neg (by rw [rg_mem]; omega)]
  simp [rg, List.range_succ]
theorem rg_nodup (a : Nat) : (rg a).Nodup := by
  induction a with
  | zero => simp [rg]
  | succ a ih =>
    rw [← rg_sput]
    unfold sput
    have hn : ¬ ((a : Int) ∈ rg a) := by rw [rg_mem]; omega
    rw [if_neg hn]
    rw [List.nodup_append]
    refine ⟨ih, by simp, ?_⟩
    intro x hx y hy
    simp only [List.mem_singleton] at hy
    subst hy
    intro e; subst e; exact hn hx
theorem sdel_len {l : List Int} (h : l.Nodup) (x : Int) : (sdel l x).length = l.length - if x ∈ l then 1 else 0 := by
  unfold sdel
  induction l with
  | nil => simp
  | cons a r ih =>
    simp only [List.nodup_cons] at h
    have ih := ih h.2
    by_cases e : a = x
    · subst e
      have h2 : r.filter (fun y => decide (y ≠ a)) = r := List.filter_eq_self.2 (fun y hy => by simp; intro e; subst e; exact h.1 hy)
      simp only [List.filter_cons, ne_eq, not_true_eq_false, decide_false, Bool.false_eq_true, if_false, List.mem_cons, true_or, if_true, List.length_cons]
      rw [h2]; omega
    · have e2 : ¬ x = a := fun h => e h.symm
      simp only [List.filter_cons, ne_eq, e, not_false_eq_true, decide_true, if_true, List.length_cons, List.mem_cons, e2, false_or]
      rw [ih]
      by_cases hx : x ∈ r
      · have : 0 < r.length := List.length_pos_of_mem hx
        simp [hx]; omega
      · simp [hx]
theorem all_le (n : Nat) : ∀ M : List Int, (∀ i : Nat, i < n → (i : Int) ∈ M) → n ≤ M.length := by
  induction n with
  | zero => intro M _; omega
  | succ n ih =>
    intro M h
    have hn : (n : Int) ∈ M := h n (by omega)
    have h2 := ih (M.erase n) (fun i hi => (List.mem_erase_of_ne (by omega)).2 (h i (by omega)))
    rw [List.length_erase_of_mem hn] at h2
    have : 0 < M.length := List.length_pos_of_mem hn
    omega
theorem sput_len (M : List Int) (a : Int) : (sput M a).length ≤ M.length + 1 := by
  unfold sput; split <;> simp
theorem sput_mem (M : List Int) (a x : Int) : x ∈ sput M a ↔ x ∈ M ∨ x = a := by
  unfold sput
  split
  · constructor
    · exact Or.inl
    · rintro (h | rfl) <;> assumption
  · simp
/-- the states of the first loop -/
def stA (n k a : Nat) : Tab := tl k a 1 (lvA n a) [] [] [] []
theorem stA_new (n k : Nat) (hk : 1 ≤ k) (hn : k ≤ n) : (newT n k 0).norm = stA n k 0 := by
  have : clampW n k = k := by unfold clampW; rw [if_neg (by omega), if_neg (by omega)]
  unfold newT stA tl
  rw [this, lvA_zero]
  rfl
def stB (n k a : Nat) : Tab := tl k ((a : Int) + 1) 1 (lvA n a) [] [] [] []
theorem stA_offer (n k a : Nat) : stepT (stA n k a) ⟨1, 0, 0, 0, 0, 0, ⟨#[]⟩, 0⟩ = stB n k a := step_offer (i := ⟨⟨#[]⟩, 0⟩) (M := []) (Or.inr rfl)
theorem stB_life (n k a : Nat) (h : a < n) : stepT (stB n k a) ⟨2, a, 0, (a : Int) + 1, 0, 0, ⟨#[]⟩, 0⟩ = stA n k (a + 1) := by
  have hL : lifeV (stB n k a) a = 0 := by
    rw [lifeV_get a (by show a < (lvA n a).length; rw [lvA_length]; exact h)]
    show (lvA n a).getD a 0 = 0
    rw [lvA_get n a a h, if_neg (by omega)]
  have hB : lifeB (stB n k a) ⟨2, a, 0, (a : Int) + 1, 0, 0, ⟨#[]⟩, 0⟩ = true := by
    unfold lifeB
    have ho : (stB n k a).offers = (a : Int) + 1 := rfl
    simp only [hL, ho]
    have h1 : ¬ ((a : Int) + 1 ≤ 0) := by omega
    have h2 : ¬ ((a : Int) + 1 < (a : Int) + 1) := by omega
    simp [h1, h2]
  have := step_life (i := ⟨⟨#[]⟩, 0⟩) (M := []) (k := k) (o := (a : Int) + 1) (nx := 1) (lives := lvA n a) (calls := []) (vals := []) (pend := []) a ((a : Int) + 1) hB (Or.inr rfl)
  rw [lvA_succ n a h] at this
  exact this
section
variable {n k a d : Nat} {key : ByteArray}
def stC (n k a : Nat) (key : ByteArray) : Tab := opn k n (lvA n n) key (rg a)
theorem stA_begin : stepT (stA n k n) ⟨3, 0, 1, 0, 1, 0, key, 0⟩ = stC n k 0 key := step_begin
theorem stC_ack (h : a + 1 < k) (hk : k ≤ n) : stepT (stC n k a key) ⟨4, a, 0, (a : Int) + 1, 0, 1, key, 0⟩ = stC n k (a + 1) key := by
  have hL : lifeV (stC n k a key) a = (a : Int) + 1 := by
    rw [lifeV_get a (by show a < (lvA n n).length; rw [lvA_length]; omega)]
    show (lvA n n).getD a 0 = _
    rw [lvA_get n n a (by omega), if_pos (by omega)]
  have hn : nowB (stC n k a key) ⟨4, a, 0, (a : Int) + 1, 0, 1, key, 0⟩ = true := by
    unfold nowB
    simp only [hL]
    simp <;> omega
  have h2 : ((sput (rg a) a).length : Int) < (k : Int) := by rw [rg_sput, rg_length]; omega
  have := opn_ack (k := k) (o := n) (lives := lvA n n) (M := rg a) (key := key) a ((a : Int) + 1) hn h2
  rw [rg_sput] at this
  exact this
def mem0 (k d : Nat) : List Int := sdel (rg (k - 1)) d
def left0 (k d : Nat) : Nat := k - 1 - if d < k - 1 then 1 else 0
theorem mem0_len : (mem0 k d).length = left0 k d := by
  unfold mem0 left0
  rw [sdel_len (rg_nodup _), rg_length]
  have : ((d : Int) ∈ rg (k - 1)) ↔ d < k - 1 := by rw [rg_mem]; omega
  simp only [this]
theorem mem0_mem (x : Int) (h : x ∈ mem0 k d) : 0 ≤ x ∧ x < k := by
  unfold mem0 sdel at h
  have := (rg_mem _ _).1 (List.mem_filter.1 h).1
  omega
def stO (n k : Nat) (key : ByteArray) : Tab := opn k ((n : Int) + 1) (lvA n n) key (rg (k - 1))
def stD (n k d : Nat) (key : ByteArray) (M : List Int) : Tab := opn k ((n : Int) + 1) (lvD n d) key M
theorem stC_offer : stepT (stC n k (k - 1) key) ⟨1, 0, 0, 0, 0, 0, ⟨#[]⟩, 0⟩ = stO n k key := opn_offer
theorem stO_life (h : d < n) : stepT (stO n k key) ⟨2, d, 0, (n : Int) + 1, 0, 0, ⟨#[]⟩, 0⟩ = stD n k d key (mem0 k d) := by
  have hL : lifeV (stO n k key) d = (d : Int) + 1 := by
    rw [lifeV_get d (by show d < (lvA n n).length; rw [lvA_length]; exact h)]
    show (lvA n n).getD d 0 = _
    rw [lvA_get n n d h, if_pos h]
  have hB : lifeB (stO n k key) ⟨2, d, 0, (n : Int) + 1, 0, 0, ⟨#[]⟩, 0⟩ = true := by
    unfold lifeB
    have ho : (stO n k key).offers = (n : Int) + 1 := rfl
    simp only [hL, ho]
    have h1 : ¬ ((n : Int) + 1 ≤ (d : Int) + 1) := by omega
    have h2 : ¬ ((n : Int) + 1 < (n : Int) + 1) := by omega
    simp [h1, h2]
  exact opn_life d ((n : Int) + 1) hB
theorem stD_lifeV (hd : d < n) (h : a < n) (M : List Int) : lifeV (stD n k d key M) a = if a = d then (n : Int) + 1 else (a : Int) + 1 := by
  rw [lifeV_get a (by show a < (lvD n d).length; rw [lvD_length]; exact h)]
  show (lvD n d).getD a 0 = _
  rw [lvD_get n d a hd h]
theorem stD_stale (h : d < n) (M : List Int) : stepT (stD n k d key M) ⟨4, d, 0, (d : Int) + 1, 0, 1, key, 0⟩ = stD n k d key M := by
  refine opn_stale d ((d : Int) + 1) ?_
  have hL := stD_lifeV (k := k) (key := key) h h M
  rw [if_pos rfl] at hL
  change lifeV (opn k ((n : Int) + 1) (lvD n d) key M) d = _ at hL
  unfold nowB
  simp only [hL]
  simp; omega
def stE (n k d : Nat) (key : ByteArray) (M : List Int) : Tab := dne k ((n : Int) + 1) (lvD n d) key M
theorem stD_now (hd : d < n) (h : a < n) (M : List Int) : nowB (stD n k d key M) ⟨4, a, 0, lifeV (stD n k d key M) a, 0, 1, key, 0⟩ = true := by
  unfold nowB
  simp only [stD_lifeV hd h M]
  split <;> simp <;> omega
theorem stD_ack (hd : d < n) (h : a < n) (M : List Int) (hl : (sput M a).length < k) : stepT (stD n k d key M) ⟨4, a, 0, lifeV (stD n k d key M) a, 0, 1, key, 0⟩ = stD n k d key (sput M a) :=
  opn_ack a _ (stD_now hd h M) (by omega)
theorem stD_done (hd : d < n) (h : a < n) (M : List Int) (hl : ¬ (sput M a).length < k) : stepT (stD n k d key M) ⟨4, a, 0, lifeV (stD n k d key M) a, 0, 1, key, 0⟩ = stE n k d key (sput M a) :=
  opn_done a _ (stD_now hd h M) (by omega)
/-- the last loop's table, open or done -/
inductive Fo (n k d : Nat) (key : ByteArray) (j : Nat) : Tab → Prop where
  | opn (M : List Int) (hl : M.length < k) (ha : ∀ i : Nat, i < j → (i : Int) ∈ M) (hm : ∀ x ∈ M, 0 ≤ x ∧ x < 1000000) : Fo n k d key j (stD n k d key M)
  | dne (M : List Int) (hl : M.length = k) (hm : ∀ x ∈ M, 0 ≤ x ∧ x < 1000000) : Fo n k d key j (stE n k d key M)
theorem fo_start (hk : 1 ≤ k) (hk2 : k ≤ 12) : Fo n k d key 0 (stD n k d key (mem0 k d)) :=
  .opn _ (by rw [mem0_len]; unfold left0; omega) (fun i hi => by omega) (fun x hx => by have := mem0_mem x hx; omega)
theorem fo_step (hd : d < n) (h : a < n) (hn : n ≤ 12) {M : List Int} (hl : M.length < k) (ha : ∀ i : Nat, i < a → (i : Int) ∈ M) (hm : ∀ x ∈ M, 0 ≤ x ∧ x < 1000000) : Fo n k d key (a + 1) (stepT (stD n k d key M) ⟨4, a, 0, lifeV (stD n k d key M) a, 0, 1, key, 0⟩) := by
  have hm' : ∀ x ∈ sput M a, 0 ≤ x ∧ x < 1000000 := fun x hx => by
    rcases (sput_mem M a x).1 hx with h1 | rfl
    · exact hm x h1
    · omega
  by_cases h1 : (sput M a).length < k
  · rw [stD_ack hd h M h1]
    refine .opn _ h1 (fun i hi => (sput_mem M a i).2 ?_) hm'
    rcases Nat.lt_or_ge i a with h2 | h2
    · exact Or.inl (ha i h2)
    · exact Or.inr (by omega)
  · rw [stD_done hd h M h1]
    exact .dne _ (by have := sput_len M a; omega) hm'
end
end Go.Proofs.Ytjfelfjobeeenaa
