/- TableLives' table, step by step: the plain law. Conditions: 1 ≤ k ≤ n ≤ 12, a node d < n. -/
import Derived.Test.YtjfelfjobeeenaaWorks
namespace Go.Proofs.Ytjfelfjobeeenaa
open Go.RowKit Go.Sf Go.Shelf
set_option linter.unusedVariables false
/-- the law's table -/
def tl (k o nx : Int) (lives : List Int) (calls : List (Int × CallT)) (vals : List (ByteArray × Val)) (pend : List (ID × Pend)) (holds : List (ID × NSet)) : Tab := ⟨k, o, nx, lives, calls, vals, pend, holds, [], 0, 0, 0, 0, 0, 0⟩
/-- one id's set, if it has members -/
def hs (i : ID) (M : List Int) : List (ID × NSet) := if M = [] then [] else [(i, ⟨0, M⟩)]
theorem hs_mem (i : ID) (M : List Int) : memH (hs i M) i = M := by
  unfold hs memH
  split
  · rename_i h; rw [h]; rfl
  · simp [mget]
theorem hs_sadd (i : ID) (M : List Int) (a : Int) : sadd (hs i M) i a 0 = hs i (sput M a) := by
  unfold hs
  by_cases h : M = []
  · subst h; simp [sadd, mget, sput]
  · have h2 : sput M a ≠ [] := by unfold sput; split <;> simp_all
    rw [if_neg h, if_neg h2]
    simp [sadd, mget, smod]
theorem hs_sdel (i : ID) (M : List Int) (a : Int) : (sdelAll (hs i M) a).filter (fun p => !decide (p.2.mem.length = 0)) = hs i (sdel M a) := by
  unfold hs
  by_cases h : M = []
  · subst h; simp [sdelAll, sdel]
  · rw [if_neg h]
    simp only [sdelAll, List.map_cons, List.map_nil, List.filter_cons, List.filter_nil]
    by_cases h2 : sdel M a = []
    · simp [h2]
    · have h3 : ¬ (sdel M a).length = 0 := fun e => h2 (List.eq_nil_of_length_eq_zero e)
      simp [h2]
section
variable {k o nx : Int} {lives : List Int} {calls : List (Int × CallT)} {vals : List (ByteArray × Val)} {pend : List (ID × Pend)} {i : ID} {M : List Int}
theorem clean_hs (hw : wantedB (tl k o nx lives calls vals pend (hs i M)) i = true ∨ M = []) : cleanT (tl k o nx lives calls vals pend (hs i M)) = tl k o nx lives calls vals pend (hs i M) := by
  unfold cleanT
  have h1 : (tl k o nx lives calls vals pend (hs i M)).refuses = [] := rfl
  have h2 : (hs i M).filter (fun p => !struckH (tl k o nx lives calls vals pend (hs i M)) p.1 p.2) = hs i M := by
    by_cases h : M = []
    · subst h; rfl
    · have hw' : wantedB (tl k o nx lives calls vals pend (hs i M)) i = true := hw.resolve_right h
      have e : hs i M = [(i, ⟨0, M⟩)] := if_neg h
      have hl : ¬ M.length = 0 := fun e => h (List.eq_nil_of_length_eq_zero e)
      generalize tl k o nx lives calls vals pend (hs i M) = T at *
      rw [e]
      simp [struckH, hw', h]
  rw [h1]
  show Tab.mk _ _ _ _ _ _ _ _ _ _ _ _ _ _ _ = _
  have h3 : (tl k o nx lives calls vals pend (hs i M)).holds = hs i M := rfl
  rw [h3, h2]
  rfl
theorem step_offer (hw : wantedB (tl k (o + 1) nx lives calls vals pend (hs i M)) i = true ∨ M = []) : stepT (tl k o nx lives calls vals pend (hs i M)) ⟨1, 0, 0, 0, 0, 0, ⟨#[]⟩, 0⟩ = tl k (o + 1) nx lives calls vals pend (hs i M) := by
  unfold stepT doT
  have : opT (tl k o nx lives calls vals pend (hs i M)) ⟨1, 0, 0, 0, 0, 0, ⟨#[]⟩, 0⟩ 0 = tl k (o + 1) nx lives calls vals pend (hs i M) := rfl
  rw [this]
  exact clean_hs hw
theorem step_life (a : Nat) (inc : Int) (hB : lifeB (tl k o nx lives calls vals pend (hs i M)) ⟨2, a, 0, inc, 0, 0, ⟨#[]⟩, 0⟩ = true) (hw : wantedB (tl k o nx (lives.set a inc) calls vals pend (sdelAll (hs i M) a)) i = true ∨ M = []) :
    stepT (tl k o nx lives calls vals pend (hs i M)) ⟨2, a, 0, inc, 0, 0, ⟨#[]⟩, 0⟩ = tl k o nx (lives.set a inc) calls vals pend (hs i (sdel M a)) := by
  unfold stepT doT
  have : opT (tl k o nx lives calls vals pend (hs i M)) ⟨2, a, 0, inc, 0, 0, ⟨#[]⟩, 0⟩ 0 = tl k o nx (lives.set a inc) calls vals pend (sdelAll (hs i M) a) := by
    show lifeT _ _ = _
    unfold lifeT
    rw [if_pos hB]
    rfl
  rw [this]
  unfold cleanT
  have h2 : (sdelAll (hs i M) a).filter (fun p => !struckH (tl k o nx (lives.set a inc) calls vals pend (sdelAll (hs i M) a)) p.1 p.2) = hs i (sdel M a) := by
    rw [← hs_sdel]
    apply List.filter_congr
    intro p hp
    have : p.1 = i := by
      unfold hs sdelAll at hp
      split at hp
      · simp at hp
      · simp only [List.map_cons, List.map_nil, List.mem_singleton] at hp; rw [hp]
    rcases hw with hw | hM
    · rw [this]
      unfold struckH
      rw [hw]; simp
    · subst hM
      simp [hs, sdelAll] at hp
  have h1 : (tl k o nx (lives.set a inc) calls vals pend (sdelAll (hs i M) a)).refuses = [] := rfl
  have h3 : (tl k o nx (lives.set a inc) calls vals pend (sdelAll (hs i M) a)).holds = sdelAll (hs i M) a := rfl
  rw [h1, h3, h2]
  rfl
theorem step_stale (c : Cmd) (hk : c.kind = 4) (hB : ackB (tl k o nx lives calls vals pend (hs i M)) c = false) (hw : wantedB (tl k o nx lives calls vals pend (hs i M)) i = true ∨ M = []) :
    stepT (tl k o nx lives calls vals pend (hs i M)) c = tl k o nx lives calls vals pend (hs i M) := by
  unfold stepT doT
  have : opT (tl k o nx lives calls vals pend (hs i M)) c 0 = tl k o nx lives calls vals pend (hs i M) := by
    unfold opT
    rw [hk]
    show ackT _ c 0 = _
    unfold ackT
    rw [hB]; rfl
  rw [this]
  exact clean_hs hw
end
section
variable {k o nx : Int} {lives : List Int} {M : List Int} {key : ByteArray}
/-- the law's one write: open, and done -/
def opn (k o : Int) (lives : List Int) (key : ByteArray) (M : List Int) : Tab := tl k o 2 lives [(1, ⟨1, 1, false, 0⟩)] [] [(⟨key, 1⟩, ⟨1, 1⟩)] (hs ⟨key, 1⟩ M)
def dne (k o : Int) (lives : List Int) (key : ByteArray) (M : List Int) : Tab := tl k o 2 lives [(1, ⟨1, 1, true, 0⟩)] [(key, ⟨1, false⟩)] [] (hs ⟨key, 1⟩ M)
theorem opn_wanted : wantedB (opn k o lives key M) ⟨key, 1⟩ = true := by
  simp [wantedB, opn, tl, mget]
theorem opn_look : look (opn k o lives key M) key = 0 := rfl
theorem dne_look : look (dne k o lives key M) key = 1 := by
  simp [look, lookV, dne, tl, mget]
theorem dne_wanted : wantedB (dne k o lives key M) ⟨key, 1⟩ = true := by
  have := dne_look (k := k) (o := o) (lives := lives) (key := key) (M := M)
  simp [wantedB, this]
theorem opn_mem : memH (opn k o lives key M).holds ⟨key, 1⟩ = M := hs_mem _ M
theorem dne_mem : memH (dne k o lives key M).holds ⟨key, 1⟩ = M := hs_mem _ M
theorem dne_call : (callV (dne k o lives key M) 1).req = 1 ∧ (callV (dne k o lives key M) 1).ver = 1 ∧ (callV (dne k o lives key M) 1).done = true ∧ (callV (dne k o lives key M) 1).code = 0 := ⟨rfl, rfl, rfl, rfl⟩
theorem step_begin : stepT (tl k o 1 lives [] [] [] []) ⟨3, 0, 1, 0, 1, 0, key, 0⟩ = opn k o lives key [] := rfl
theorem opn_offer : stepT (opn k o lives key M) ⟨1, 0, 0, 0, 0, 0, ⟨#[]⟩, 0⟩ = opn k (o + 1) lives key M := step_offer (Or.inl opn_wanted)
theorem opn_life (a : Nat) (inc : Int) (hB : lifeB (opn k o lives key M) ⟨2, a, 0, inc, 0, 0, ⟨#[]⟩, 0⟩ = true) : stepT (opn k o lives key M) ⟨2, a, 0, inc, 0, 0, ⟨#[]⟩, 0⟩ = opn k o (lives.set a inc) key (sdel M a) :=
  step_life a inc hB (Or.inl (by simp [wantedB, tl, mget]))
theorem opn_stale (a : Nat) (inc : Int) (h : nowB (opn k o lives key M) ⟨4, a, 0, inc, 0, 1, key, 0⟩ = false) : stepT (opn k o lives key M) ⟨4, a, 0, inc, 0, 1, key, 0⟩ = opn k o lives key M :=
  step_stale _ rfl (by unfold ackB; unfold opn at h; rw [h]; rfl) (Or.inl opn_wanted)
theorem held_opn (a : Nat) : heldT (opn k o lives key M) ⟨key, 1⟩ a 0 = opn k o lives key (sput M a) := by
  unfold heldT opn tl
  simp only [hs_sadd]
  rfl
theorem opn_ack (a : Nat) (inc : Int) (h : nowB (opn k o lives key M) ⟨4, a, 0, inc, 0, 1, key, 0⟩ = true) (hl : ((sput M a).length : Int) < k) : stepT (opn k o lives key M) ⟨4, a, 0, inc, 0, 1, key, 0⟩ = opn k o lives key (sput M a) := by
  unfold stepT doT
  have h1 : opT (opn k o lives key M) ⟨4, a, 0, inc, 0, 1, key, 0⟩ 0 = opn k o lives key (sput M a) := by
    show ackT _ _ 0 = _
    unfold ackT ackB
    rw [h, opn_wanted]
    simp only [Bool.and_self, if_true]
    rw [held_opn]
    unfold ackRest
    have h2 : mget (opn k o lives key (sput M a)).pending ⟨key, 1⟩ = some ⟨1, 1⟩ := if_pos rfl
    have hw : (opn k o lives key (sput M a)).w = k := rfl
    simp only [h2, opn_mem, hw]
    rw [if_pos hl]
  rw [h1]
  exact clean_hs (Or.inl opn_wanted)
theorem opn_done (a : Nat) (inc : Int) (h : nowB (opn k o lives key M) ⟨4, a, 0, inc, 0, 1, key, 0⟩ = true) (hl : ¬ ((sput M a).length : Int) < k) : stepT (opn k o lives key M) ⟨4, a, 0, inc, 0, 1, key, 0⟩ = dne k o lives key (sput M a) := by
  unfold stepT doT
  have h1 : opT (opn k o lives key M) ⟨4, a, 0, inc, 0, 1, key, 0⟩ 0 = dne k o lives key (sput M a) := by
    show ackT _ _ 0 = _
    unfold ackT ackB
    rw [h, opn_wanted]
    simp only [Bool.and_self, if_true]
    rw [held_opn]
    unfold ackRest
    have h2 : mget (opn k o lives key (sput M a)).pending ⟨key, 1⟩ = some ⟨1, 1⟩ := if_pos rfl
    have hw : (opn k o lives key (sput M a)).w = k := rfl
    have h3 : (lookV (opn k o lives key (sput M a)) key).ver < 1 := (by decide : (0 : Int) < 1)
    simp only [h2, opn_mem, hw]
    rw [if_neg hl, if_pos h3]
    have h4 : mdel (opn k o lives key (sput M a)).pending ⟨key, 1⟩ = [] := by simp [mdel, opn, tl]
    have h5 : doneCalls (opn k o lives key (sput M a)) ⟨key, 1⟩ ⟨1, 1⟩ 0 = [(1, ⟨1, 1, true, 0⟩)] := rfl
    unfold doneT
    rw [h4, h5]
    rfl
  rw [h1]
  exact clean_hs (Or.inl dne_wanted)
end
theorem good_of {L : Tab} {c : Cmd} (hr : L.refuses = []) (ho : 0 ≤ L.offers ∧ L.offers < 1000000) (hn : 0 ≤ L.next ∧ L.next < 1000000) (hl : L.lives.length ≤ 1000000) (hb : c = bareC c) (hk : 1 ≤ c.kind ∧ c.kind ≤ 7) (hnode : 0 ≤ c.node ∧ c.node < (L.lives.length : Int) ∧ c.node < 255)
    (h1 : 0 ≤ c.inc ∧ c.inc ≤ 1000000) (h2 : 0 ≤ c.req ∧ c.req ≤ 1000000) (h3 : 0 ≤ c.ver ∧ c.ver ≤ 1000000) (h4 : 0 ≤ c.client ∧ c.client ≤ 65535) (h5 : 0 ≤ c.code ∧ c.code ≤ 65535) (h6 : c.key.size ≤ 64) : goodB L c = true := by
  unfold goodB
  simp only [mayB, longB, smallB, Bool.and_eq_true, decide_eq_true_eq]
  refine ⟨⟨⟨hr, ho.1, by omega, hn.1, by omega, by omega⟩, ⟨⟨⟨⟨⟨hk.1, hk.2⟩, hb⟩, h1.1, by omega, h2.1, by omega, h3.1, by omega⟩, hnode.1, hnode.2.2, h4.1, h4.2, h5.1, h5.2⟩, h6⟩⟩, hnode.2.1, hk.1, hk.2, hnode.1, by omega⟩
end Go.Proofs.Ytjfelfjobeeenaa
