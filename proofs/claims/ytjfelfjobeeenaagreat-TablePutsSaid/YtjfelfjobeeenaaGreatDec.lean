/- A command's bytes, read back: plain laws, no program. -/
import Derived.Test.YtjfelfjobeeenaaGreatPst
namespace Go.Proofs.YtjfelfjobeeenaaGreat
open Go.RowKit Go.Sf
set_option linter.unusedVariables false
/-- the number that bytes make, the one that counts most ahead -/
def num (l : List Int) : Nat := l.foldl (fun a b => a * 256 + b.toNat) 0
theorem num_snoc (l : List Int) (b : Int) : num (l ++ [b]) = num l * 256 + b.toNat := by simp [num]
/-- bytes -/
def BL (l : List Int) : Prop := ∀ b ∈ l, 0 ≤ b ∧ b < 256
theorem BL.app {l m : List Int} (h : BL l) (h' : BL m) : BL (l ++ m) := fun b hb => by
  rcases List.mem_append.1 hb with h1 | h1
  · exact h b h1
  · exact h' b h1
theorem BL.take {l : List Int} (h : BL l) (n : Nat) : BL (l.take n) := fun b hb => h b (List.mem_of_mem_take hb)
theorem BL.drop {l : List Int} (h : BL l) (n : Nat) : BL (l.drop n) := fun b hb => h b (List.mem_of_mem_drop hb)
theorem be_BL : ∀ (k n : Nat), BL (be k n)
  | 0, _ => fun b hb => by simp [be] at hb
  | k + 1, n => by
    rw [be_eq]
    refine (be_BL k _).app fun b hb => ?_
    have : b = ((n % 256 : Nat) : Int) := by simpa using hb
    omega
theorem num_be : ∀ (k n : Nat), n < 256 ^ k → num (be k n) = n
  | 0, n, h => by
    have : n = 0 := by simpa using h
    subst this; rfl
  | k + 1, n, h => by
    rw [be_eq, num_snoc, num_be k (n / 256) (by rw [Nat.pow_succ] at h; omega)]
    simp only [Int.toNat_natCast]
    omega
theorem be_num : ∀ (n : Nat) (l : List Int), l.length = n → BL l → be n (num l) = l ∧ num l < 256 ^ n
  | 0, l, h, _ => by
    have : l = [] := List.eq_nil_of_length_eq_zero h
    subst this; exact ⟨rfl, by decide⟩
  | n + 1, l, h, hb => by
    rcases List.eq_nil_or_concat l with rfl | ⟨L, b, rfl⟩
    · simp at h
    · simp only [List.concat_eq_append] at *
      have hL : L.length = n := by simpa using h
      obtain ⟨h1, h2⟩ := be_num n L hL (fun x hx => hb x (by simp [hx]))
      obtain ⟨hb0, hb1⟩ := hb b (by simp)
      rw [num_snoc]
      have e1 : (num L * 256 + b.toNat) / 256 = num L := by omega
      have e2 : (num L * 256 + b.toNat) % 256 = b.toNat := by omega
      have e3 : ((b.toNat : Nat) : Int) = b := by omega
      refine ⟨by rw [be_eq, e1, e2, e3, h1], by rw [Nat.pow_succ]; omega⟩
/-- a string of bytes -/
def ofB (l : List Int) : ByteArray := ⟨(l.map fun b => UInt8.ofNat b.toNat).toArray⟩
theorem ofB_strB (s : ByteArray) : ofB (strB s) = s := by
  obtain ⟨⟨l⟩⟩ := s
  have e : (fun b : Int => UInt8.ofNat b.toNat) ∘ (fun b : UInt8 => (b.toNat : Int)) = id := by funext b; simp
  simp [ofB, strB, List.map_map, e]
theorem strB_ofB {l : List Int} (h : BL l) : strB (ofB l) = l := by
  have : ∀ b ∈ l, (fun b : Int => (((UInt8.ofNat b.toNat).toNat : Nat) : Int)) b = b := fun b hb => by
    obtain ⟨h0, h1⟩ := h b hb
    have : (UInt8.ofNat b.toNat).toNat = b.toNat := by
      rw [UInt8.toNat_ofNat']
      omega
    simp only [this]
    omega
  simp only [ofB, strB, List.map_map]
  conv => rhs; rw [← List.map_id l]
  exact List.map_congr_left this
theorem ofB_size (l : List Int) : (ofB l).size = l.length := by simp [ofB, ByteArray.size]
theorem strB_BL (s : ByteArray) : BL (strB s) := fun b hb => by
  obtain ⟨x, _, rfl⟩ := List.mem_map.1 hb
  have := x.toNat_lt
  omega
theorem strB_len (s : ByteArray) : (strB s).length = s.size := by rw [strB, List.length_map]; rfl
/-- a number of so many bytes, and what stands behind it -/
def rd (n : Nat) (l : List Int) : Option (Nat × List Int) := if n ≤ l.length then some (num (l.take n), l.drop n) else none
theorem rd_be (n x : Nat) (t : List Int) (h : x < 256 ^ n) : rd n (be n x ++ t) = some (x, t) := by
  have hl : (be n x).length = n := be_len n x
  have e1 : (be n x ++ t).take n = be n x := List.take_left' hl
  have e2 : (be n x ++ t).drop n = t := List.drop_left' hl
  rw [rd, if_pos (by simp [hl]), e1, e2, num_be n x h]
theorem rd_some {n x : Nat} {l t : List Int} (hb : BL l) (h : rd n l = some (x, t)) : l = be n x ++ t ∧ x < 256 ^ n ∧ BL t := by
  simp only [rd] at h
  split at h
  · next hn =>
    injection h with h; injection h with h1 h2
    obtain ⟨e1, e2⟩ := be_num n (l.take n) (by simp; omega) (hb.take n)
    rw [h1] at e1 e2
    refine ⟨?_, e2, h2 ▸ hb.drop n⟩
    rw [e1, ← h2, List.take_append_drop]
  · cases h
/-- the int64 of a uint64 -/
def s64 (x : Nat) : Int := if x < 9223372036854775808 then x else (x : Int) - 18446744073709551616
/-- a kind's numbers ahead of the key: node, life, client, request -/
def pHead (k : Nat) (l : List Int) : Option ((Int × Int × Int × Int) × List Int) :=
  if k = 2 ∨ k = 4 ∨ k = 5 then (rd 2 l).bind fun p => (rd 8 p.2).bind fun q => some ((p.1, s64 q.1, 0, 0), q.2)
  else if k = 3 ∨ k = 6 ∨ k = 7 then (rd 2 l).bind fun p => (rd 8 p.2).bind fun q => some ((0, 0, p.1, s64 q.1), q.2)
  else some ((0, 0, 0, 0), l)
/-- the bytes of a text -/
def rdT (l : List Int) : Option (ByteArray × List Int) := (rd 1 l).bind fun p => if p.1 ≤ p.2.length then some (ofB (p.2.take p.1), p.2.drop p.1) else none
def pKey (k : Nat) (l : List Int) : Option (ByteArray × List Int) := if 3 ≤ k ∧ k ≤ 6 then rdT l else some (⟨#[]⟩, l)
/-- version, code -/
def pTail (k : Nat) (l : List Int) : Option ((Int × Int) × List Int) :=
  if k = 4 ∨ k = 5 then (rd 8 l).bind fun p => some ((s64 p.1, 0), p.2)
  else if k = 7 then (rd 2 l).bind fun p => some ((0, (p.1 : Int)), p.2)
  else some ((0, 0), l)
def par (l : List Int) : Option (Cmd × List Int) :=
  (rd 1 l).bind fun k => (pHead k.1 k.2).bind fun h => (pKey k.1 h.2).bind fun y => (pTail k.1 y.2).bind fun t =>
    some (⟨k.1, h.1.1, h.1.2.2.1, h.1.2.1, h.1.2.2.2, t.1.1, y.1, t.1.2⟩, t.2)
def decB (l : List Int) : Option Cmd := (par l).bind fun p => if p.2 = [] ∧ mayB p.1 = true then some p.1 else none
theorem rdT_be (s : ByteArray) (t : List Int) (h : s.size < 256) : rdT (be 1 s.size ++ (strB s ++ t)) = some (s, t) := by
  rw [rdT, rd_be 1 _ _ (by omega)]
  have hl := strB_len s
  have e1 : (strB s ++ t).take s.size = strB s := List.take_left' hl
  have e2 : (strB s ++ t).drop s.size = t := List.drop_left' hl
  simp only [Option.bind_some]
  rw [if_pos (by simp [hl]), e1, e2, ofB_strB]
theorem rdT_some {s : ByteArray} {l t : List Int} (hb : BL l) (h : rdT l = some (s, t)) : l = be 1 s.size ++ (strB s ++ t) ∧ s.size < 256 ∧ BL t := by
  simp only [rdT] at h
  cases h1 : rd 1 l with
  | none => rw [h1] at h; cases h
  | some p =>
    obtain ⟨x, r⟩ := p
    rw [h1, Option.bind_some] at h
    obtain ⟨e1, e2, e3⟩ := rd_some hb h1
    split at h
    · next hn =>
      injection h with h; injection h with h2 h3
      have hs : s.size = x := by rw [← h2, ofB_size, List.length_take]; exact Nat.min_eq_left hn
      refine ⟨?_, by omega, h3 ▸ e3.drop x⟩
      rw [e1, hs, ← h2, strB_ofB (e3.take x), ← h3, List.take_append_drop]
    · cases h
theorem s64_nat {i : Int} (h0 : 0 ≤ i) (h1 : i ≤ 4611686018427387904) : s64 i.toNat = i := by
  rw [s64, if_pos (by omega)]; omega
theorem s64_toNat {x : Nat} (hx : x < 256 ^ 8) (h0 : 0 ≤ s64 x) : (s64 x).toNat = x := by
  rw [s64] at h0 ⊢
  split at h0
  · next h => rw [if_pos h]; omega
  · omega
theorem may_bare {c : Cmd} (h : mayB c = true) : (1 ≤ c.kind ∧ c.kind ≤ 7) ∧ c = bareC c := by
  simp only [mayB, Bool.and_eq_true, decide_eq_true_eq] at h
  exact ⟨⟨h.1.1.1.1.1, h.1.1.1.1.2⟩, h.1.1.1.2⟩
theorem par_enc {c : Cmd} (h : mayB c = true) (t : List Int) : par (encB c ++ t) = some (c, t) := by
  obtain ⟨⟨k1, k7⟩, hb⟩ := may_bare h
  obtain ⟨p1, p2, p3, p4, p5, p6, p7, p8, p9, p10, p11, p12, p13⟩ := may_parts h
  clear h
  obtain ⟨kind, node, client, inc, req, ver, key, code⟩ := c
  simp only at k1 k7 p1 p2 p3 p4 p5 p6 p7 p8 p9 p10 p11 p12 p13
  have q1 : s64 inc.toNat = inc := s64_nat p5 p6
  have q2 : s64 req.toNat = req := s64_nat p7 p8
  have q3 : s64 ver.toNat = ver := s64_nat p9 p10
  have hk : kind = 1 ∨ kind = 2 ∨ kind = 3 ∨ kind = 4 ∨ kind = 5 ∨ kind = 6 ∨ kind = 7 := by omega
  have e0 : ∀ (k : Nat) (u : List Int), k < 256 → rd 1 (be 1 k ++ u) = some (k, u) := fun k u hk => rd_be 1 k u (by omega)
  have e2 : ∀ (k : Nat) (u : List Int), k < 65536 → rd 2 (be 2 k ++ u) = some (k, u) := fun k u hk => rd_be 2 k u (by omega)
  have e8 : ∀ (i : Int) (u : List Int), i ≤ 4611686018427387904 → rd 8 (be 8 i.toNat ++ u) = some (i.toNat, u) := fun i u hi => rd_be 8 i.toNat u (by omega)
  have eT : ∀ u, rdT (be 1 key.size ++ (strB key ++ u)) = some (key, u) := fun u => rdT_be key u (by omega)
  have n1 : ((node.toNat : Nat) : Int) = node := by omega
  have n2 : ((client.toNat : Nat) : Int) = client := by omega
  have n3 : ((code.toNat : Nat) : Int) = code := by omega
  rcases hk with rfl | rfl | rfl | rfl | rfl | rfl | rfl <;> simp [bareC] at hb <;>
    simp [par, encB, headB, keyB, tailB, pHead, pKey, pTail, e0, e2, e8, eT, p6, p8, p10, q1, q2, q3, n1, n2, n3, hb, show node.toNat < 65536 by omega, show client.toNat < 65536 by omega, show code.toNat < 65536 by omega, -List.append_eq_nil_iff]
theorem par_some {c : Cmd} {l t : List Int} (hb : BL l) (hm : mayB c = true) (h : par l = some (c, t)) : l = encB c ++ t := by
  obtain ⟨⟨k1, k7⟩, hbare⟩ := may_bare hm
  obtain ⟨p1, p2, p3, p4, p5, p6, p7, p8, p9, p10, p11, p12, p13⟩ := may_parts hm
  clear hm hbare
  simp only [par] at h
  cases h1 : rd 1 l with
  | none => rw [h1] at h; cases h
  | some r =>
    obtain ⟨k, l1⟩ := r
    rw [h1, Option.bind_some] at h
    obtain ⟨a1, a2, a3⟩ := rd_some hb h1
    cases h2 : pHead k l1 with
    | none => simp only [h2] at h; cases h
    | some r =>
      obtain ⟨⟨node, inc, client, req⟩, l2⟩ := r
      simp only [h2, Option.bind_some] at h
      cases h3 : pKey k l2 with
      | none => simp only [h3] at h; cases h
      | some r =>
        obtain ⟨key, l3⟩ := r
        simp only [h3, Option.bind_some] at h
        cases h4 : pTail k l3 with
        | none => simp only [h4] at h; cases h
        | some r =>
          obtain ⟨⟨ver, code⟩, l4⟩ := r
          simp only [h4, Option.bind_some] at h
          injection h with h; injection h with h5 h6
          subst h6
          subst h5
          simp only at k1 k7 p1 p2 p3 p4 p5 p6 p7 p8 p9 p10 p11 p12 p13
          have hk : k = 1 ∨ k = 2 ∨ k = 3 ∨ k = 4 ∨ k = 5 ∨ k = 6 ∨ k = 7 := by omega
          -- head
          have H2 : l1 = headB ⟨k, node, client, inc, req, ver, key, code⟩ ++ l2 ∧ BL l2 := by
            simp only [pHead] at h2
            simp only [headB]
            split at h2
            · next hc =>
              rw [if_pos (by omega)]
              cases g1 : rd 2 l1 with
              | none => rw [g1] at h2; cases h2
              | some r =>
                obtain ⟨x, m1⟩ := r
                rw [g1, Option.bind_some] at h2
                obtain ⟨b1, b2, b3⟩ := rd_some a3 g1
                cases g2 : rd 8 m1 with
                | none => simp only [g2] at h2; cases h2
                | some r =>
                  obtain ⟨y, m2⟩ := r
                  simp only [g2, Option.bind_some] at h2
                  obtain ⟨c1, c2, c3⟩ := rd_some b3 g2
                  injection h2 with h2; injection h2 with h21 h22
                  injection h21 with i1 i2; injection i2 with i2 i3
                  subst h22 i1
                  rw [← i2] at p5 ⊢
                  rw [s64_toNat c2 p5, b1, c1]
                  exact ⟨by simp, c3⟩
            · next hc =>
              rw [if_neg (by omega)]
              split at h2
              · next hc =>
                rw [if_pos (by omega)]
                cases g1 : rd 2 l1 with
                | none => rw [g1] at h2; cases h2
                | some r =>
                  obtain ⟨x, m1⟩ := r
                  rw [g1, Option.bind_some] at h2
                  obtain ⟨b1, b2, b3⟩ := rd_some a3 g1
                  cases g2 : rd 8 m1 with
                  | none => simp only [g2] at h2; cases h2
                  | some r =>
                    obtain ⟨y, m2⟩ := r
                    simp only [g2, Option.bind_some] at h2
                    obtain ⟨c1, c2, c3⟩ := rd_some b3 g2
                    injection h2 with h2; injection h2 with h21 h22
                    injection h21 with i1 i2; injection i2 with i2 i3; injection i3 with i3 i4
                    subst h22 i3
                    rw [← i4] at p7 ⊢
                    rw [s64_toNat c2 p7, b1, c1]
                    exact ⟨by simp, c3⟩
              · next hc =>
                rw [if_neg (by omega)]
                injection h2 with h2; injection h2 with h21 h22
                subst h22
                exact ⟨rfl, a3⟩
          have H3 : l2 = keyB ⟨k, node, client, inc, req, ver, key, code⟩ ++ l3 ∧ BL l3 := by
            simp only [pKey] at h3
            simp only [keyB]
            split at h3
            · next hc =>
              rw [if_pos (by omega)]
              obtain ⟨b1, b2, b3⟩ := rdT_some H2.2 h3
              exact ⟨by rw [b1]; simp, b3⟩
            · next hc =>
              rw [if_neg (by omega)]
              injection h3 with h3; injection h3 with h31 h32
              subst h32
              exact ⟨rfl, H2.2⟩
          have H4 : l3 = tailB ⟨k, node, client, inc, req, ver, key, code⟩ ++ l4 := by
            simp only [pTail] at h4
            simp only [tailB]
            split at h4
            · next hc =>
              rw [if_pos (by omega)]
              cases g1 : rd 8 l3 with
              | none => rw [g1] at h4; cases h4
              | some r =>
                obtain ⟨x, m1⟩ := r
                rw [g1, Option.bind_some] at h4
                obtain ⟨b1, b2, b3⟩ := rd_some H3.2 g1
                injection h4 with h4; injection h4 with h41 h42
                injection h41 with i1 i2
                subst h42
                rw [← i1] at p9 ⊢
                rw [s64_toNat b2 p9, b1]
            · next hc =>
              rw [if_neg (by omega)]
              split at h4
              · next hc =>
                rw [if_pos (by omega)]
                cases g1 : rd 2 l3 with
                | none => rw [g1] at h4; cases h4
                | some r =>
                  obtain ⟨x, m1⟩ := r
                  rw [g1, Option.bind_some] at h4
                  obtain ⟨b1, b2, b3⟩ := rd_some H3.2 g1
                  injection h4 with h4; injection h4 with h41 h42
                  injection h41 with i1 i2
                  subst h42 i2
                  rw [b1]; simp
              · next hc =>
                rw [if_neg (by omega)]
                injection h4 with h4; injection h4 with h41 h42
          rw [a1, H2.1, H3.1, H4, encB]
          simp
/-- what Get answers: a command whose bytes they are, or none -/
theorem dec_enc {c : Cmd} (h : mayB c = true) : decB (encB c) = some c := by
  have := par_enc h []
  rw [List.append_nil] at this
  rw [decB, this]
  simp [h]
theorem dec_more {c : Cmd} (h : mayB c = true) (b : Int) : decB (encB c ++ [b]) = none := by
  rw [decB, par_enc h [b]]
  simp
theorem dec_some {l : List Int} {c : Cmd} (hb : BL l) (h : decB l = some c) : mayB c = true ∧ encB c = l := by
  simp only [decB] at h
  cases h1 : par l with
  | none => rw [h1] at h; cases h
  | some p =>
    obtain ⟨d, t⟩ := p
    rw [h1, Option.bind_some] at h
    split at h
    · next hc =>
      injection h with h
      simp only at hc h
      subst h
      have := par_some hb hc.2 h1
      rw [hc.1, List.append_nil] at this
      exact ⟨hc.2, this.symm⟩
    · cases h
theorem enc_BL (c : Cmd) : BL (encB c) := by
  have h0 : BL [] := fun b hb => by simp at hb
  refine ((((be_BL _ _).app ?_).app ?_).app ?_)
  · simp only [headB]; repeat' split
    all_goals first | exact h0 | exact (be_BL _ _).app (be_BL _ _)
  · simp only [keyB]; split
    · exact (be_BL _ _).app (strB_BL _)
    · exact h0
  · simp only [tailB]; repeat' split
    all_goals first | exact h0 | exact be_BL _ _
theorem enc_ne (c : Cmd) : encB c ≠ [] := by
  intro h
  have := congrArg List.length h
  simp [encB, be_len] at this
theorem dec_less {c : Cmd} (h : mayB c = true) : decB (encB c).dropLast = none := by
  rcases List.eq_nil_or_concat (encB c) with h0 | ⟨L, b, h0⟩
  · exact absurd h0 (enc_ne c)
  · rw [List.concat_eq_append] at h0
    rw [h0, List.dropLast_concat]
    cases h1 : decB L with
    | none => rfl
    | some d =>
      have hb : BL L := fun x hx => enc_BL c x (by rw [h0]; simp [hx])
      obtain ⟨hd, he⟩ := dec_some hb h1
      have e1 := dec_enc h
      rw [h0, ← he, dec_more hd] at e1
      cases e1
end Go.Proofs.YtjfelfjobeeenaaGreat
