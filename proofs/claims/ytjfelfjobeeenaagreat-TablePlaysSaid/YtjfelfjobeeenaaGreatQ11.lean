/- What any command leaves of a table, and what rises: the plain law. Conditions: a command that may be, of a node that is. -/
import Derived.Test.YtjfelfjobeeenaaGreatQ10
namespace Go.Proofs.YtjfelfjobeeenaaGreat
open Go.RowKit Go.Sf Go.Shelf
set_option linter.unusedVariables false
section
variable {K V : Type} [DecidableEq K]
theorem mget_put (m : List (K × V)) (k k' : K) (v : V) : mget (mput m k v) k' = if k' = k then some v else mget m k' := by
  split
  · rename_i h; subst h; exact mget_mput_same m k' v
  · rename_i h; exact mget_mput_ne m v h
theorem mget_filter {m : List (K × V)} (hn : (m.map (·.1)).Nodup) (f : K × V → Bool) (k : K) : mget (m.filter f) k = (mget m k).bind fun v => if f (k, v) = true then some v else none := by
  induction m with
  | nil => rfl
  | cons p r ih =>
    simp only [List.map_cons, List.nodup_cons] at hn
    obtain ⟨a, v⟩ := p
    by_cases e : a = k
    · subst e
      have hr : mget r a = none := mget_none fun q hq e => hn.1 (List.mem_map.2 ⟨q, hq, e⟩)
      have ih := ih hn.2
      rw [hr] at ih
      simp only [List.filter_cons, mget, if_true, Option.bind_some]
      split
      · rename_i h; simp [mget]
      · rename_i h; rw [ih]; rfl
    · simp only [List.filter_cons, mget, if_neg e]
      split
      · simp only [mget, if_neg e]; exact ih hn.2
      · exact ih hn.2
omit [DecidableEq K] in
theorem nodup_filter {m : List (K × V)} (hn : (m.map (·.1)).Nodup) (f : K × V → Bool) : ((m.filter f).map (·.1)).Nodup :=
  hn.sublist ((List.filter_sublist).map _)
theorem mget_some_iff {m : List (K × V)} {k : K} : (mget m k).isSome = true ↔ ∃ v, (k, v) ∈ m := by
  constructor
  · intro h
    obtain ⟨v, hv⟩ := Option.isSome_iff_exists.1 h
    exact ⟨v, mget_mem hv⟩
  · rintro ⟨v, hv⟩
    cases e : mget m k with
    | some _ => rfl
    | none => exact absurd rfl (mget_none_iff.1 e _ hv)
end
/-- sets of nodes, none twice -/
structure Mems (n : Nat) (m : List (ID × NSet)) : Prop where
  nodup : (m.map (·.1)).Nodup
  mem : ∀ p ∈ m, p.2.mem.Nodup ∧ ∀ x ∈ p.2.mem, 0 ≤ x ∧ x < n
section
variable {n : Nat} {m : List (ID × NSet)}
theorem Mems.filt (h : Mems n m) (f : ID × NSet → Bool) : Mems n (m.filter f) :=
  ⟨nodup_filter h.nodup f, fun p hp => h.mem p (List.mem_filter.1 hp).1⟩
theorem Mems.dels (h : Mems n m) (a : Int) : Mems n (sdelAll m a) := by
  refine ⟨?_, ?_⟩
  · have : (sdelAll m a).map (·.1) = m.map (·.1) := by unfold sdelAll; rw [List.map_map]; rfl
    rw [this]; exact h.nodup
  · intro p hp
    unfold sdelAll at hp
    obtain ⟨q, hq, rfl⟩ := List.mem_map.1 hp
    have := h.mem q hq
    exact ⟨this.1.filter _, fun x hx => this.2 x (List.mem_filter.1 hx).1⟩
theorem Mems.mods (h : Mems n m) (i : ID) (f : List Int → List Int) (hf : ∀ l : List Int, (l.Nodup ∧ ∀ x ∈ l, 0 ≤ x ∧ x < n) → ((f l).Nodup ∧ ∀ x ∈ f l, 0 ≤ x ∧ x < n)) : Mems n (smod m i f) := by
  refine ⟨by rw [smod_keys]; exact h.nodup, ?_⟩
  intro p hp
  unfold smod at hp
  obtain ⟨q, hq, rfl⟩ := List.mem_map.1 hp
  split
  · exact hf _ (h.mem q hq)
  · exact h.mem q hq
theorem sput_ok {n : Nat} (a : Int) (ha : 0 ≤ a ∧ a < n) (l : List Int) (h : l.Nodup ∧ ∀ x ∈ l, 0 ≤ x ∧ x < n) : (sput l a).Nodup ∧ ∀ x ∈ sput l a, 0 ≤ x ∧ x < n := by
  unfold sput
  split
  · exact h
  · rename_i hn
    refine ⟨List.nodup_append.2 ⟨h.1, by simp, fun x hx y hy e => ?_⟩, fun x hx => ?_⟩
    · simp only [List.mem_singleton] at hy; subst hy; subst e; exact hn hx
    · rcases List.mem_append.1 hx with hx | hx
      · exact h.2 x hx
      · simp only [List.mem_singleton] at hx; subst hx; exact ha
theorem sdel_ok {n : Nat} (a : Int) (l : List Int) (h : l.Nodup ∧ ∀ x ∈ l, 0 ≤ x ∧ x < n) : (sdel l a).Nodup ∧ ∀ x ∈ sdel l a, 0 ≤ x ∧ x < n :=
  ⟨h.1.filter _, fun x hx => h.2 x (List.mem_filter.1 hx).1⟩
theorem Mems.adds (h : Mems n m) (i : ID) (a : Int) (ha : 0 ≤ a ∧ a < n) : Mems n (sadd m i a 0) := by
  unfold sadd
  split
  · exact h.mods i _ (sput_ok a ha)
  · rename_i hs
    have hm : mget m i = none := by cases e : mget m i with
      | none => rfl
      | some _ => rw [e] at hs; exact absurd rfl hs
    have hne := mget_none_iff.1 hm
    refine ⟨?_, ?_⟩
    · rw [List.map_append]
      refine List.nodup_append.2 ⟨h.nodup, by simp, fun x hx y hy e => ?_⟩
      simp only [List.map_cons, List.map_nil, List.mem_singleton] at hy
      obtain ⟨q, hq, rfl⟩ := List.mem_map.1 hx
      exact hne q hq (e.trans hy)
    · intro p hp
      rcases List.mem_append.1 hp with hp | hp
      · exact h.mem p hp
      · simp only [List.mem_singleton] at hp; subst hp
        exact ⟨by simp, fun x hx => by simp only [List.mem_singleton] at hx; subst hx; exact ha⟩
theorem nodup_range_len : ∀ (n : Nat) (l : List Int), l.Nodup → (∀ x ∈ l, 0 ≤ x ∧ x < n) → l.length ≤ n := by
  intro n
  induction n with
  | zero =>
    intro l _ h
    cases l with
    | nil => simp
    | cons a r => have := h a (by simp); omega
  | succ n ih =>
    intro l hn h
    have h2 := ih (l.erase (n : Int)) (hn.erase _) (fun x hx => by
      rw [hn.mem_erase_iff] at hx
      have h3 := h x hx.2
      have h4 := hx.1
      omega)
    rw [List.length_erase] at h2
    split at h2 <;> omega
theorem Mems.len (h : Mems n m) (i : ID) : (memH m i).length ≤ n ∧ ∀ x ∈ memH m i, 0 ≤ x ∧ x < n := by
  unfold memH
  cases e : mget m i with
  | none => exact ⟨by simp, by simp⟩
  | some s =>
    have := h.mem _ (mget_mem e)
    exact ⟨nodup_range_len n _ this.1 this.2, this.2⟩
theorem memH_filter (h : Mems n m) (f : ID × NSet → Bool) (i : ID) (hf : ∀ s, mget m i = some s → f (i, s) = true) : memH (m.filter f) i = memH m i := by
  unfold memH
  rw [mget_filter h.nodup]
  cases e : mget m i with
  | none => rfl
  | some s => simp only [Option.bind_some]; rw [if_pos (hf s e)]
theorem memH_filter_none (h : Mems n m) (f : ID × NSet → Bool) (i : ID) (hf : ∀ s, f (i, s) = false) : memH (m.filter f) i = [] := by
  unfold memH
  rw [mget_filter h.nodup]
  cases e : mget m i with
  | none => rfl
  | some s => simp only [Option.bind_some]; rw [if_neg (by rw [hf s]; decide)]; rfl
end
/-- what any commands leave -/
structure Inv (n k : Nat) (T : Tab) : Prop where
  ln : T.lives.length = n
  w : T.w = k
  lo : ∀ x ∈ T.lives, 0 ≤ x ∧ x ≤ T.offers
  o0 : 0 ≤ T.offers
  nx : 1 ≤ T.next
  pnd : (T.pending.map (·.1)).Nodup
  pv : ∀ p ∈ T.pending, 1 ≤ p.1.ver ∧ p.1.ver < T.next
  pu : ∀ p ∈ T.pending, ∀ q ∈ T.pending, p.1.ver = q.1.ver → p.1 = q.1
  vv : ∀ k, (lookV T k).ver < T.next ∧ 0 ≤ (lookV T k).ver
  pl : ∀ p ∈ T.pending, (lookV T p.1.key).ver ≠ p.1.ver
  pc : ∀ p ∈ T.pending, callV T p.2.client = ⟨p.2.req, p.1.ver, false, 0⟩
  hm : Mems n T.holds
  rm : Mems n T.refuses
section
variable {n k : Nat} {T U : Tab}
theorem inv_frame (h : Inv n k T) (hw : U.w = T.w) (hc : U.calls = T.calls) (hv : U.values = T.values) (hp : U.pending = T.pending) (hn : U.next = T.next) (hl : U.lives.length = n) (hlo : ∀ x ∈ U.lives, 0 ≤ x ∧ x ≤ U.offers) (ho : 0 ≤ U.offers) (hm : Mems n U.holds) (rm : Mems n U.refuses) : Inv n k U := by
  refine ⟨hl, hw.trans h.w, hlo, ho, ?_, ?_, ?_, ?_, ?_, ?_, ?_, hm, rm⟩
  · rw [hn]; exact h.nx
  · rw [hp]; exact h.pnd
  · rw [hp, hn]; exact h.pv
  · rw [hp]; exact h.pu
  · intro k; unfold lookV; rw [hv, hn]; exact h.vv k
  · rw [hp]; intro p hp'; unfold lookV; rw [hv]; exact h.pl p hp'
  · rw [hp]; intro p hp'; unfold callV; rw [hc]; exact h.pc p hp'
theorem Inv.look_ne (h : Inv n k T) {p : ID × Pend} (hp : p ∈ T.pending) : look T p.1.key ≠ p.1.ver := by
  unfold look
  have h1 := (h.pv p hp).1
  have h2 := h.pl p hp
  split
  · omega
  · exact h2
theorem Inv.look_le (h : Inv n k T) (s : ByteArray) : look T s ≤ (lookV T s).ver := by
  unfold look
  have := (h.vv s).2
  split <;> omega
theorem Inv.lifeV_le (h : Inv n k T) (a : Int) : 0 ≤ lifeV T a ∧ lifeV T a ≤ T.offers := by
  unfold lifeV
  split
  · exact ⟨Int.le_refl _, h.o0⟩
  · rename_i hr
    have hlt : a.toNat < T.lives.length := by omega
    have : T.lives.getD a.toNat 0 ∈ T.lives := by
      simp only [List.getD_eq_getElem?_getD, List.getElem?_eq_getElem hlt, Option.getD_some]
      exact List.getElem_mem hlt
    exact h.lo _ this
/-- what rises, or stays -/
structure Rise (k : Nat) (c : Cmd) (T U : Tab) : Prop where
  life : ∀ a, lifeV T a ≤ lifeV U a ∧ lifeV U a ≤ U.offers
  nx : T.next ≤ U.next ∧ U.next ≤ T.next + 1
  of : U.offers ≤ T.offers + 1
  req : (callV T c.client).req ≤ (callV U c.client).req
  same : (callV U c.client).req = (callV T c.client).req → (callV T c.client).done = true → callV U c.client = callV T c.client
  new : (callV T c.client).req < (callV U c.client).req → (callV U c.client).done = false → (callV U c.client).ver = T.next
  look : look U c.key = 0 ∨ look T c.key ≤ look U c.key
  pend : ∀ p ∈ T.pending, Go.Proofs.YtjfelfjobeeenaaGreat.look U p.1.key = p.1.ver → k ≤ (memH U.holds p.1).length
  lost : ∀ x : ID, x.ver < T.next → wantedB T x = false → wantedB U x = false
theorem wanted_false {T : Tab} {x : ID} : wantedB T x = false ↔ mget T.pending x = none ∧ (0 < x.ver → Go.Proofs.YtjfelfjobeeenaaGreat.look T x.key ≠ x.ver) := by
  unfold wantedB
  cases mget T.pending x <;> simp
/-- values and calls as they were, nothing new pending -/
theorem rise_frame (h : Inv n k T) (c : Cmd) (hc : U.calls = T.calls) (hv : U.values = T.values) (hp : ∀ x, mget T.pending x = none → mget U.pending x = none) (hn : U.next = T.next) (ho : U.offers ≤ T.offers + 1) (hl : ∀ a, lifeV T a ≤ lifeV U a ∧ lifeV U a ≤ U.offers) : Rise k c T U := by
  have e1 : ∀ s, Go.Proofs.YtjfelfjobeeenaaGreat.look U s = Go.Proofs.YtjfelfjobeeenaaGreat.look T s := fun s => by unfold Go.Proofs.YtjfelfjobeeenaaGreat.look lookV; rw [hv]
  have e2 : ∀ m, callV U m = callV T m := fun m => by unfold callV; rw [hc]
  refine ⟨hl, by rw [hn]; omega, ho, by rw [e2]; exact Int.le_refl _, fun _ _ => e2 _, ?_, Or.inr (by rw [e1]; exact Int.le_refl _), ?_, ?_⟩
  · intro h1; rw [e2] at h1; omega
  · intro p hp' h2; rw [e1] at h2; exact absurd h2 (h.look_ne hp')
  · intro x hx hw
    rw [wanted_false] at hw ⊢
    exact ⟨hp x hw.1, by rw [e1]; exact hw.2⟩
theorem done_pending {i : ID} {p : Pend} {code : Int} (q : ID × Pend) (hq : q ∈ (doneT T i p code).pending) : q ∈ T.pending ∧ q.1 ≠ i := by
  have := List.mem_filter.1 hq
  exact ⟨this.1, by simpa using this.2⟩
theorem done_calls (h : Inv n k T) {i : ID} {p : Pend} (hi : mget T.pending i = some p) (code : Int) (m : Int) : callV (doneT T i p code) m = if m = p.client then ⟨p.req, i.ver, true, code⟩ else callV T m := by
  have hc := h.pc _ (mget_mem hi)
  simp only at hc
  show (mget (doneCalls T i p code) m).getD _ = _
  unfold doneCalls
  rw [hc]
  simp only [and_self, if_true]
  rw [mget_put]
  split <;> rfl
theorem inv_done (h : Inv n k T) {i : ID} {p : Pend} (hi : mget T.pending i = some p) (code : Int) : Inv n k (doneT T i p code) := by
  have hm := mget_mem hi
  refine ⟨h.ln, h.w, h.lo, h.o0, h.nx, nodup_filter h.pnd _, ?_, ?_, h.vv, ?_, ?_, h.hm, h.rm⟩
  · intro q hq; exact h.pv q (done_pending q hq).1
  · intro q hq r hr; exact h.pu q (done_pending q hq).1 r (done_pending r hr).1
  · intro q hq; exact h.pl q (done_pending q hq).1
  · intro q hq
    obtain ⟨h1, h2⟩ := done_pending q hq
    rw [done_calls h hi code]
    have h3 := h.pc q h1
    split
    · rename_i e
      have h4 := h.pc _ hm
      simp only at h4
      rw [e, h4] at h3
      have : i.ver = q.1.ver := by injection h3
      exact absurd (h.pu q h1 _ hm this.symm) h2
    · exact h3
theorem put_lookV (T : Tab) (s : ByteArray) (v : Val) (s' : ByteArray) : lookV { T with values := mput T.values s v } s' = if s' = s then v else lookV T s' := by
  show (mget (mput T.values s v) s').getD _ = _
  rw [mget_put]
  split <;> rfl
theorem inv_put (h : Inv n k T) (s : ByteArray) (v : Val) (hv : v.ver < T.next ∧ 0 ≤ v.ver) (hp : ∀ p ∈ T.pending, p.1.key = s → p.1.ver ≠ v.ver) : Inv n k { T with values := mput T.values s v } := by
  refine ⟨h.ln, h.w, h.lo, h.o0, h.nx, h.pnd, h.pv, h.pu, ?_, ?_, h.pc, h.hm, h.rm⟩
  · intro s'
    rw [put_lookV]
    split
    · exact hv
    · exact h.vv s'
  · intro p hp'
    rw [put_lookV]
    split
    · rename_i e; exact fun e2 => hp p hp' e e2.symm
    · exact h.pl p hp'
theorem mget_mdel {i x : ID} {m : List (ID × Pend)} (h : mget m x = none) : mget (mdel m i) x = none := by
  rw [mget_none_iff] at h ⊢
  intro p hp
  exact h p (List.mem_filter.1 hp).1
theorem drop_mem {c : Int} {q : ID × Pend} (h : q ∈ dropC T c) : q ∈ T.pending ∧ q.2.client ≠ c := by
  have := List.mem_filter.1 h
  exact ⟨this.1, by simpa using this.2⟩
theorem mget_drop {c : Int} {x : ID} (h : mget T.pending x = none) : mget (dropC T c) x = none := by
  rw [mget_none_iff] at h ⊢
  intro p hp
  exact h p (List.mem_filter.1 hp).1
/-- a new call of a client: its pending one is dropped; a put's version -/
theorem inv_began (h : Inv n k T) (c : Cmd) : Inv n k (beganT T c) := by
  unfold beganT
  split
  · have hne : ∀ p ∈ dropC T c.client, p.1 ≠ (⟨c.key, T.next⟩ : ID) := fun p hp e => by
      have := (h.pv p (drop_mem hp).1).2
      rw [e] at this; simp at this
    rw [mput_new hne]
    have hmem : ∀ q, q ∈ dropC T c.client ++ [((⟨c.key, T.next⟩ : ID), (⟨c.client, c.req⟩ : Pend))] → (q ∈ T.pending ∧ q.2.client ≠ c.client) ∨ q = (⟨c.key, T.next⟩, ⟨c.client, c.req⟩) := fun q hq => by
      rcases List.mem_append.1 hq with hq | hq
      · exact Or.inl (drop_mem hq)
      · exact Or.inr (by simpa using hq)
    refine ⟨h.ln, h.w, h.lo, h.o0, by show 1 ≤ T.next + 1; have := h.nx; omega, ?_, ?_, ?_, ?_, ?_, ?_, h.hm, h.rm⟩
    · show ((dropC T c.client ++ [((⟨c.key, T.next⟩ : ID), (⟨c.client, c.req⟩ : Pend))]).map (·.1)).Nodup
      rw [List.map_append]
      refine List.nodup_append.2 ⟨nodup_filter h.pnd _, by simp, fun x hx y hy e => ?_⟩
      simp only [List.map_cons, List.map_nil, List.mem_singleton] at hy
      obtain ⟨q, hq, rfl⟩ := List.mem_map.1 hx
      exact hne q hq (e.trans hy)
    · intro q hq
      show 1 ≤ q.1.ver ∧ q.1.ver < T.next + 1
      rcases hmem q hq with ⟨h1, _⟩ | rfl
      · have := h.pv q h1; omega
      · have := h.nx; simp; omega
    · intro q hq r hr e
      rcases hmem q hq with ⟨h1, _⟩ | rfl <;> rcases hmem r hr with ⟨h2, _⟩ | rfl
      · exact h.pu q h1 r h2 e
      · have := h.pv q h1; simp at e; omega
      · have := h.pv r h2; simp at e; omega
      · rfl
    · intro s
      have := h.vv s
      exact ⟨by show (lookV T s).ver < T.next + 1; omega, this.2⟩
    · intro q hq
      show (lookV T q.1.key).ver ≠ q.1.ver
      rcases hmem q hq with ⟨h1, _⟩ | rfl
      · exact h.pl q h1
      · have := (h.vv c.key).1; simp; omega
    · intro q hq
      show (mget (mput T.calls c.client _) q.2.client).getD _ = _
      rw [mget_put]
      rcases hmem q hq with ⟨h1, h2⟩ | rfl
      · rw [if_neg h2]; exact h.pc q h1
      · simp
  · exact h
theorem inv_drop (h : Inv n k T) (c : Int) (m : List (Int × CallT)) (hm : ∀ a, a ≠ c → mget m a = mget T.calls a) : Inv n k { T with pending := dropC T c, calls := m } := by
  refine ⟨h.ln, h.w, h.lo, h.o0, h.nx, nodup_filter h.pnd _, ?_, ?_, h.vv, ?_, ?_, h.hm, h.rm⟩
  · intro q hq; exact h.pv q (drop_mem hq).1
  · intro q hq r hr; exact h.pu q (drop_mem hq).1 r (drop_mem hr).1
  · intro q hq; exact h.pl q (drop_mem hq).1
  · intro q hq
    show (mget m q.2.client).getD _ = _
    rw [hm _ (drop_mem hq).2]
    exact h.pc q (drop_mem hq).1
theorem inv_next (h : Inv n k T) (x : Int) (hx : T.next ≤ x) : Inv n k { T with next := x } := by
  refine ⟨h.ln, h.w, h.lo, h.o0, by show 1 ≤ x; have := h.nx; omega, h.pnd, ?_, h.pu, ?_, h.pl, h.pc, h.hm, h.rm⟩
  · intro p hp; have := h.pv p hp; exact ⟨this.1, by show p.1.ver < x; omega⟩
  · intro s; have := h.vv s; exact ⟨by show (lookV T s).ver < x; omega, this.2⟩
theorem inv_removed (h : Inv n k T) (c : Cmd) : Inv n k (removedT T c) := by
  unfold removedT
  split
  · have h1 := inv_drop h c.client (mput T.calls c.client ⟨c.req, 0, true, 0⟩) (fun a ha => mget_mput_ne _ _ ha)
    have h2 := inv_next h1 (T.next + 1) (by show T.next ≤ T.next + 1; omega)
    have h3 := inv_put h2 c.key ⟨T.next, true⟩ ⟨by show T.next < T.next + 1; omega, by have := h.nx; show 0 ≤ T.next; omega⟩ (fun p hp _ => by
      have := (h1.pv p hp).2
      have e : ({ T with pending := dropC T c.client, calls := mput T.calls c.client ⟨c.req, 0, true, 0⟩ } : Tab).next = T.next := rfl
      rw [e] at this
      show p.1.ver ≠ T.next; omega)
    exact h3
  · exact h
theorem inv_rejected (h : Inv n k T) (c : Cmd) : Inv n k (rejectedT T c) := by
  unfold rejectedT
  split
  · exact inv_drop h c.client _ (fun a ha => mget_mput_ne _ _ ha)
  · exact h
theorem inv_life (h : Inv n k T) (c : Cmd) (hn : 0 ≤ c.node) : Inv n k (lifeT T c) := by
  unfold lifeT
  split
  · rename_i hB
    unfold lifeB at hB
    simp only [Bool.not_eq_true', Bool.or_eq_false_iff, decide_eq_false_iff_not] at hB
    have h0 := (h.lifeV_le c.node).1
    refine inv_frame (U := lifeStep T c 2) h rfl rfl rfl rfl rfl (by show (T.lives.set _ _).length = n; rw [List.length_set]; exact h.ln) ?_ h.o0 (h.hm.dels _) (h.rm.dels _)
    intro x hx
    rcases List.mem_or_eq_of_mem_set hx with hx | rfl
    · exact h.lo x hx
    · exact ⟨by omega, by show c.inc ≤ T.offers; omega⟩
  · exact h
theorem inv_held (h : Inv n k T) (i : ID) (a : Int) (ha : 0 ≤ a ∧ a < n) : Inv n k (heldT T i a 0) :=
  inv_frame (U := heldT T i a 0) h rfl rfl rfl rfl rfl h.ln h.lo h.o0 (h.hm.adds i a ha) (h.rm.mods i _ (sdel_ok a))
theorem inv_refused (h : Inv n k T) (i : ID) (a : Int) (ha : 0 ≤ a ∧ a < n) : Inv n k (refusedT T i a 0) :=
  inv_frame (U := refusedT T i a 0) h rfl rfl rfl rfl rfl h.ln h.lo h.o0 (h.hm.mods i _ (sdel_ok a)) (h.rm.adds i a ha)
theorem inv_ack (h : Inv n k T) (c : Cmd) (ha : 0 ≤ c.node ∧ c.node < n) : Inv n k (ackT T c 0) := by
  unfold ackT
  split
  · have h1 := inv_held h ⟨c.key, c.ver⟩ c.node ha
    generalize heldT T ⟨c.key, c.ver⟩ c.node 0 = S at *
    unfold ackRest
    split
    · exact h1
    · rename_i p hp
      have h2 := inv_done h1 hp 0
      split
      · exact h1
      · split
        · refine inv_put h2 c.key ⟨c.ver, false⟩ ?_ ?_
          · have := h1.pv _ (mget_mem hp)
            exact ⟨this.2, by simp only at this ⊢; omega⟩
          · intro q hq e e2
            obtain ⟨h3, h4⟩ := done_pending q hq
            apply h4
            obtain ⟨⟨qk, qv⟩, qp⟩ := q
            simp only at e e2 ⊢
            rw [e, e2]
        · exact h2
  · exact h
theorem inv_refuse (h : Inv n k T) (c : Cmd) (ha : 0 ≤ c.node ∧ c.node < n) : Inv n k (refuseT T c 0) := by
  unfold refuseT
  split
  · have h1 := inv_refused h ⟨c.key, c.ver⟩ c.node ha
    generalize refusedT T ⟨c.key, c.ver⟩ c.node 0 = S at *
    unfold refRest
    split
    · exact h1
    · rename_i p hp
      split
      · exact inv_done h1 hp 181
      · exact h1
  · exact h
theorem inv_op (h : Inv n k T) (c : Cmd) (ha : 0 ≤ c.node ∧ c.node < n) : Inv n k (opT T c 0) := by
  unfold opT
  repeat' split
  · exact inv_frame (U := { T with offers := T.offers + 1 }) h rfl rfl rfl rfl rfl h.ln (fun x hx => by have := h.lo x hx; exact ⟨this.1, by show x ≤ T.offers + 1; omega⟩) (by show 0 ≤ T.offers + 1; have := h.o0; omega) h.hm h.rm
  · exact inv_life h c ha.1
  · exact inv_began h c
  · exact inv_ack h c ha
  · exact inv_refuse h c ha
  · exact inv_removed h c
  · exact inv_rejected h c
theorem inv_clean (h : Inv n k T) : Inv n k (cleanT T) := inv_frame (U := cleanT T) h rfl rfl rfl rfl rfl h.ln h.lo h.o0 (h.hm.filt _) (h.rm.filt _)
theorem inv_step (h : Inv n k T) (c : Cmd) (ha : 0 ≤ c.node ∧ c.node < n) : Inv n k (stepT T c) := inv_clean (inv_op h c ha)
theorem done_part (h : Inv n k T) {i : ID} {p : Pend} (hi : mget T.pending i = some p) (code m : Int) (U : Tab) (hU : callV U m = callV (doneT T i p code) m) :
    (callV T m).req ≤ (callV U m).req ∧ ((callV U m).req = (callV T m).req → (callV T m).done = true → callV U m = callV T m) ∧ ((callV T m).req < (callV U m).req → (callV U m).done = false → (callV U m).ver = T.next) := by
  rw [hU, done_calls h hi code m]
  split
  · rename_i e
    have h4 := h.pc _ (mget_mem hi)
    simp only at h4
    rw [e, h4]
    refine ⟨Int.le_refl _, fun _ h => by simp at h, fun h => by simp at h⟩
  · exact ⟨Int.le_refl _, fun _ _ => rfl, fun h => by omega⟩
theorem rise_done (h : Inv n k T) {i : ID} {p : Pend} (hi : mget T.pending i = some p) (code : Int) (c : Cmd) : Rise k c T (doneT T i p code) := by
  obtain ⟨a1, a2, a3⟩ := done_part h hi code c.client _ rfl
  refine ⟨fun a => ⟨Int.le_refl _, (h.lifeV_le a).2⟩, ⟨Int.le_refl _, by show T.next ≤ T.next + 1; omega⟩, by show T.offers ≤ T.offers + 1; omega, a1, a2, a3, Or.inr (Int.le_refl _), fun q hq e => absurd e (h.look_ne hq), ?_⟩
  intro x hx hw
  rw [wanted_false] at hw ⊢
  exact ⟨mget_mdel hw.1, hw.2⟩
theorem put_look (T : Tab) (s : ByteArray) (v : Val) (s' : ByteArray) : Go.Proofs.YtjfelfjobeeenaaGreat.look { T with values := mput T.values s v } s' = if s' = s then (if v.dead = true then 0 else v.ver) else Go.Proofs.YtjfelfjobeeenaaGreat.look T s' := by
  unfold Go.Proofs.YtjfelfjobeeenaaGreat.look
  rw [put_lookV]
  split <;> rfl
theorem rise_done_put (h : Inv n k T) {i : ID} {p : Pend} (hi : mget T.pending i = some p) (c : Cmd) (hk : c.key = i.key) (hc : k ≤ (memH T.holds i).length) (hl : (lookV T i.key).ver < i.ver) : Rise k c T { doneT T i p 0 with values := mput T.values i.key ⟨i.ver, false⟩ } := by
  obtain ⟨a1, a2, a3⟩ := done_part h hi 0 c.client { doneT T i p 0 with values := mput T.values i.key ⟨i.ver, false⟩ } rfl
  have hlk := fun s => put_look (doneT T i p 0) i.key ⟨i.ver, false⟩ s
  change ∀ s, Go.Proofs.YtjfelfjobeeenaaGreat.look { doneT T i p 0 with values := mput T.values i.key ⟨i.ver, false⟩ } s = if s = i.key then i.ver else Go.Proofs.YtjfelfjobeeenaaGreat.look T s at hlk
  have hiv := h.pv _ (mget_mem hi)
  simp only at hiv
  refine ⟨fun a => ⟨Int.le_refl _, (h.lifeV_le a).2⟩, ⟨Int.le_refl _, by show T.next ≤ T.next + 1; omega⟩, by show T.offers ≤ T.offers + 1; omega, a1, a2, a3, Or.inr ?_, ?_, ?_⟩
  · rw [hlk, hk, if_pos rfl]
    have := h.look_le i.key
    omega
  · intro q hq e
    rw [hlk] at e
    split at e
    · rename_i e2
      have : q.1 = i := by
        obtain ⟨⟨qk, qv⟩, qp⟩ := q
        obtain ⟨ik, iv⟩ := i
        simp only at e e2 ⊢
        rw [e, e2]
      rw [this]; exact hc
    · exact absurd e (h.look_ne hq)
  · intro x hx hw
    rw [wanted_false] at hw ⊢
    refine ⟨mget_mdel hw.1, fun hx0 => ?_⟩
    rw [hlk]
    split
    · rename_i e2
      intro e
      have : x = i := by
        obtain ⟨xk, xv⟩ := x
        obtain ⟨ik, iv⟩ := i
        simp only at e e2 ⊢
        rw [e, e2]
      rw [this, hi] at hw
      exact absurd hw.1 (by simp)
    · exact hw.2 hx0
theorem rise_refl (h : Inv n k T) (c : Cmd) : Rise k c T T :=
  rise_frame h c rfl rfl (fun _ h => h) rfl (by omega) (fun a => ⟨Int.le_refl _, (h.lifeV_le a).2⟩)
theorem rise_ack (h : Inv n k T) (c : Cmd) (ha : 0 ≤ c.node ∧ c.node < n) : Rise k c T (ackT T c 0) := by
  unfold ackT
  split
  · have h1 := inv_held h ⟨c.key, c.ver⟩ c.node ha
    have key : Rise k c (heldT T ⟨c.key, c.ver⟩ c.node 0) (ackRest (heldT T ⟨c.key, c.ver⟩ c.node 0) c) := by
      generalize heldT T ⟨c.key, c.ver⟩ c.node 0 = S at *
      unfold ackRest
      split
      · exact rise_refl h1 c
      · rename_i p hp
        split
        · exact rise_refl h1 c
        · rename_i hlen
          split
          · rename_i hl
            have hw := h1.w
            exact rise_done_put h1 hp c rfl (by omega) hl
          · exact rise_done h1 hp 0 c
    exact ⟨key.life, key.nx, key.of, key.req, key.same, key.new, key.look, key.pend, key.lost⟩
  · exact rise_refl h c
theorem rise_refuse (h : Inv n k T) (c : Cmd) (ha : 0 ≤ c.node ∧ c.node < n) : Rise k c T (refuseT T c 0) := by
  unfold refuseT
  split
  · have h1 := inv_refused h ⟨c.key, c.ver⟩ c.node ha
    have key : Rise k c (refusedT T ⟨c.key, c.ver⟩ c.node 0) (refRest (refusedT T ⟨c.key, c.ver⟩ c.node 0) c) := by
      generalize refusedT T ⟨c.key, c.ver⟩ c.node 0 = S at *
      unfold refRest
      split
      · exact rise_refl h1 c
      · rename_i p hp
        split
        · exact rise_done h1 hp 181 c
        · exact rise_refl h1 c
    exact ⟨key.life, key.nx, key.of, key.req, key.same, key.new, key.look, key.pend, key.lost⟩
  · exact rise_refl h c
theorem lifeV_set (T : Tab) (c : Cmd) (hn : 0 ≤ c.node ∧ c.node < (T.lives.length : Int)) (a : Int) : lifeV (lifeStep T c 2) a = if a = c.node then c.inc else lifeV T a := by
  unfold lifeV
  have e : (lifeStep T c 2).lives = T.lives.set c.node.toNat c.inc := rfl
  rw [e, List.length_set]
  by_cases hr : a < 0 ∨ (T.lives.length : Int) ≤ a
  · rw [if_pos hr, if_neg (by omega), if_pos hr]
  · rw [if_neg hr]
    simp only [List.getD_eq_getElem?_getD, List.getElem?_set]
    by_cases e : a = c.node
    · subst e
      simp only [if_true]
      rw [if_pos (by omega)]; rfl
    · rw [if_neg (by omega), if_neg e, if_neg hr]
theorem rise_life (h : Inv n k T) (c : Cmd) (ha : 0 ≤ c.node ∧ c.node < n) : Rise k c T (lifeT T c) := by
  unfold lifeT
  split
  · rename_i hB
    unfold lifeB at hB
    simp only [Bool.not_eq_true', Bool.or_eq_false_iff, decide_eq_false_iff_not] at hB
    refine rise_frame h c rfl rfl (fun _ h => h) rfl (by show T.offers ≤ T.offers + 1; omega) (fun a => ?_)
    have h1 := h.lifeV_le a
    rw [lifeV_set T c (by rw [h.ln]; exact ha) a]
    show _ ∧ _ ≤ T.offers
    split
    · rename_i e; subst e; omega
    · omega
  · exact rise_refl h c
theorem rise_began (h : Inv n k T) (c : Cmd) : Rise k c T (beganT T c) := by
  unfold beganT
  split
  · rename_i hB
    unfold beginsB at hB
    simp only [decide_eq_true_eq] at hB
    have e : callV { T with pending := mput (dropC T c.client) ⟨c.key, T.next⟩ ⟨c.client, c.req⟩, calls := mput T.calls c.client ⟨c.req, T.next, false, 0⟩, next := T.next + 1 } c.client = ⟨c.req, T.next, false, 0⟩ := by
      show (mget (mput T.calls c.client _) c.client).getD _ = _
      rw [mget_put, if_pos rfl]; rfl
    refine ⟨fun a => ⟨Int.le_refl _, (h.lifeV_le a).2⟩, ⟨by show T.next ≤ T.next + 1; omega, Int.le_refl _⟩, by show T.offers ≤ T.offers + 1; omega, ?_, ?_, ?_, Or.inr (Int.le_refl _), fun q hq e => absurd e (h.look_ne hq), ?_⟩
    · rw [e]; show _ ≤ c.req; omega
    · rw [e]; intro h1; simp only at h1; omega
    · rw [e]; intro _ _; rfl
    · intro x hx hw
      rw [wanted_false] at hw ⊢
      refine ⟨?_, hw.2⟩
      show mget (mput (dropC T c.client) _ _) x = none
      rw [mget_put, if_neg (fun e => by rw [e] at hx; simp at hx)]
      exact mget_drop hw.1
  · exact rise_refl h c
theorem rise_removed (h : Inv n k T) (c : Cmd) : Rise k c T (removedT T c) := by
  unfold removedT
  split
  · rename_i hB
    unfold beginsB at hB
    simp only [decide_eq_true_eq] at hB
    have e : callV { T with pending := dropC T c.client, values := mput T.values c.key ⟨T.next, true⟩, calls := mput T.calls c.client ⟨c.req, 0, true, 0⟩, next := T.next + 1 } c.client = ⟨c.req, 0, true, 0⟩ := by
      show (mget (mput T.calls c.client _) c.client).getD _ = _
      rw [mget_put, if_pos rfl]; rfl
    have hlk : ∀ s, Go.Proofs.YtjfelfjobeeenaaGreat.look { T with pending := dropC T c.client, values := mput T.values c.key ⟨T.next, true⟩, calls := mput T.calls c.client ⟨c.req, 0, true, 0⟩, next := T.next + 1 } s = if s = c.key then 0 else Go.Proofs.YtjfelfjobeeenaaGreat.look T s := fun s => put_look T c.key ⟨T.next, true⟩ s
    refine ⟨fun a => ⟨Int.le_refl _, (h.lifeV_le a).2⟩, ⟨by show T.next ≤ T.next + 1; omega, Int.le_refl _⟩, by show T.offers ≤ T.offers + 1; omega, ?_, ?_, ?_, Or.inl (by rw [hlk, if_pos rfl]), ?_, ?_⟩
    · rw [e]; show _ ≤ c.req; omega
    · rw [e]; intro h1; simp only at h1; omega
    · rw [e]; intro _ h2; simp at h2
    · intro q hq e
      rw [hlk] at e
      split at e
      · have := (h.pv q hq).1; omega
      · exact absurd e (h.look_ne hq)
    · intro x hx hw
      rw [wanted_false] at hw ⊢
      refine ⟨mget_drop hw.1, fun hx0 => ?_⟩
      rw [hlk]
      split
      · omega
      · exact hw.2 hx0
  · exact rise_refl h c
theorem rise_rejected (h : Inv n k T) (c : Cmd) : Rise k c T (rejectedT T c) := by
  unfold rejectedT
  split
  · rename_i hB
    unfold beginsB at hB
    simp only [decide_eq_true_eq] at hB
    have e : callV { T with pending := dropC T c.client, calls := mput T.calls c.client ⟨c.req, 0, true, c.code⟩ } c.client = ⟨c.req, 0, true, c.code⟩ := by
      show (mget (mput T.calls c.client _) c.client).getD _ = _
      rw [mget_put, if_pos rfl]; rfl
    refine ⟨fun a => ⟨Int.le_refl _, (h.lifeV_le a).2⟩, ⟨Int.le_refl _, by show T.next ≤ T.next + 1; omega⟩, by show T.offers ≤ T.offers + 1; omega, ?_, ?_, ?_, Or.inr (Int.le_refl _), fun q hq e => absurd e (h.look_ne hq), ?_⟩
    · rw [e]; show _ ≤ c.req; omega
    · rw [e]; intro h1; simp only at h1; omega
    · rw [e]; intro _ h2; simp at h2
    · intro x hx hw
      rw [wanted_false] at hw ⊢
      exact ⟨mget_drop hw.1, hw.2⟩
  · exact rise_refl h c
theorem rise_op (h : Inv n k T) (c : Cmd) (ha : 0 ≤ c.node ∧ c.node < n) : Rise k c T (opT T c 0) := by
  unfold opT
  repeat' split
  · exact rise_frame h c rfl rfl (fun _ h => h) rfl (Int.le_refl _) (fun a => ⟨Int.le_refl _, by have := (h.lifeV_le a).2; show lifeV T a ≤ T.offers + 1; omega⟩)
  · exact rise_life h c ha
  · exact rise_began h c
  · exact rise_ack h c ha
  · exact rise_refuse h c ha
  · exact rise_removed h c
  · exact rise_rejected h c
theorem wanted_look {T : Tab} {x : ID} (h0 : 0 < x.ver) (h : Go.Proofs.YtjfelfjobeeenaaGreat.look T x.key = x.ver) : wantedB T x = true := by
  unfold wantedB; rw [h]; simp [h0]
theorem rise_clean (hk : 1 ≤ k) (hT : Inv n k T) (hU : Inv n k U) {c : Cmd} (h : Rise k c T U) : Rise k c T (cleanT U) := by
  refine ⟨h.life, h.nx, h.of, h.req, h.same, h.new, h.look, ?_, h.lost⟩
  intro p hp e
  have e' : Go.Proofs.YtjfelfjobeeenaaGreat.look U p.1.key = p.1.ver := e
  have h1 := h.pend p hp e'
  have hw : wantedB U p.1 = true := wanted_look (by have := (hT.pv p hp).1; omega) e'
  show k ≤ (memH (U.holds.filter fun p => !struckH U p.1 p.2) p.1).length
  rw [memH_filter hU.hm _ p.1 (fun s hs => ?_)]
  · exact h1
  · unfold memH at h1
    rw [hs] at h1
    simp only [Option.map_some, Option.getD_some] at h1
    simp only [struckH, hw, Bool.not_true, Bool.or_false, Bool.not_eq_true', decide_eq_false_iff_not]
    omega
theorem rise_step (hk : 1 ≤ k) (h : Inv n k T) (c : Cmd) (ha : 0 ≤ c.node ∧ c.node < n) : Rise k c T (stepT T c) := rise_clean hk h (inv_op h c ha) (rise_op h c ha)
/-- what is not wanted, nobody holds -/
def Clean (T : Tab) : Prop := ∀ x, wantedB T x = false → memH T.holds x = []
theorem clean_step (h : Inv n k T) (c : Cmd) (ha : 0 ≤ c.node ∧ c.node < n) : Clean (stepT T c) := by
  intro x hx
  have hU := inv_op h c ha
  have hx' : wantedB (opT T c 0) x = false := hx
  show memH ((opT T c 0).holds.filter fun p => !struckH (opT T c 0) p.1 p.2) x = []
  refine memH_filter_none hU.hm _ x (fun s => ?_)
  simp [struckH, hx']
/-- a new table -/
theorem inv_new (N : Nat) (w : Int) (k : Nat) (hk : clampW N w = k) : Inv N k (newT N w 0).norm := by
  refine ⟨by simp [newT, Tab.norm], hk, ?_, Int.le_refl _, Int.le_refl _, ?_, ?_, ?_, ?_, ?_, ?_, ⟨?_, ?_⟩, ⟨?_, ?_⟩⟩ <;> simp [newT, Tab.norm, nsets, lookV, mget]
end
end Go.Proofs.YtjfelfjobeeenaaGreat
