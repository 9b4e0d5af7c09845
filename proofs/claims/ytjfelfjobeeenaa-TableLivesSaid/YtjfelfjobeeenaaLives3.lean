/- TableLives answers true: the walk. Conditions: numbers of a byte. -/
import Derived.Test.YtjfelfjobeeenaaLives2
import Derived.Test.YtjfelfjobeeenaaWorks2
namespace Go.Proofs.Ytjfelfjobeeenaa
open Go.RowKit Go.Sf Go.Shelf
set_option linter.unusedVariables false
set_option maxHeartbeats 4000000 in
set_option maxRecDepth 100000 in
theorem lives_long (nd wi wh : Nat) (key : ByteArray) (hn : nd < 256) (hw : wi < 256) (hh : wh < 256) (hk1 : 64 < key.size) (hk2 : (key.size : Int) ≤ 9223372036854775807) (w : World) :
    Calls Try.prog 3 #[.int .u8 nd, .int .u8 wi, .string key, .int .u8 wh] w fun e w' => e = .returned (.bool true) ∧ w.grownBy w' none := by
  have e1 : (nd : Int).tmod 12 = ((nd % 12 : Nat) : Int) := rfl
  have e2 : (wi : Int).tmod 12 = ((wi % 12 : Nat) : Int) := rfl
  have hr1 : nd % 12 < 12 := Nat.mod_lt _ (by omega)
  have hr2 : wi % 12 < 12 := Nat.mod_lt _ (by omega)
  generalize nd % 12 = a at *
  generalize wi % 12 = b at *
  have hk3 : decide ((64 : Int) < (key.size : Int)) = true := by simp; omega
  go_enter Try.func3, Try.ntmps3
  go_wp2_with (go_at_call 4; refine (works_any _).mono ?_; rintro e w1 ⟨rfl, hg⟩)
  go_ret
  exact ⟨rfl, hg⟩
/-- a table and what has turned, ahead of the law's own block -/
structure St0 (w : World) (tb : Nat) (L : Tab) (W : World) : Prop where
  tab : At (fun k => w.heap.size ≤ k) W tb L
  out : Out (fun k => w.heap.size ≤ k) w W
theorem St0.step {w W : World} {tb : Nat} {L : Tab} (h : St0 w tb L W) (kind node client inc req ver : Int) (key : ByteArray) (code : Int) (L' : Tab) (hg : goodB L ⟨kind, node, client, inc, req, ver, key, code⟩ = true) (hL : stepT L ⟨kind, node, client, inc, req, ver, key, code⟩ = L') :
    Calls Try.prog 6 #[.pointer (some ⟨tb, 0, none⟩), .agg #[.int .u8 kind, .int .i64 node, .int .i64 client, .int .i64 inc, .int .i64 req, .int .i64 ver, .string key, .int .i64 code]] W fun e w' => e = .returned (.int .i64 0) ∧ St0 w tb L' w' := by
  subst hL
  refine (do_good h.tab ⟨kind, node, client, inc, req, ver, key, code⟩ hg (fun k hk => by have := h.out.size; omega)).mono ?_
  rintro e w' ⟨a, b, c⟩
  exact ⟨a, b, h.out.trans c⟩
theorem St0.box {w W : World} {tb : Nat} {L : Tab} (h : St0 w tb L W) (o : Obj) : St w W.heap.size tb L (W.alloc o) :=
  ⟨(h.tab.mono (fun k hk h2 => ⟨h2, by omega⟩)).grown (World.grownBy_alloc _ _ _),
   ⟨h.out.os, h.out.tape, h.out.output, by have := h.out.size; simp; omega, fun k hk _ => ((World.grownBy_alloc W o none).block k (Nat.lt_of_lt_of_le hk h.out.size) (by simp)).trans (h.out.block k hk (by omega))⟩, by simp⟩
section
variable {n k a d : Nat} {key : ByteArray} {M : List Int}
theorem good_offerA (hn : n ≤ 12) (ha : a ≤ n) (h1 : 1 ≤ n) : goodB (stA n k a) ⟨1, 0, 0, 0, 0, 0, ⟨#[]⟩, 0⟩ = true :=
  good_of rfl ⟨by show (0 : Int) ≤ a; omega, by show (a : Int) < _; omega⟩ ⟨by show (0 : Int) ≤ 1; omega, by show (1 : Int) < _; omega⟩ (by show (lvA n a).length ≤ _; rw [lvA_length]; omega) rfl (by simp) ⟨by simp, by show (0 : Int) < ((lvA n a).length : Int); rw [lvA_length]; omega, by simp⟩ (by simp) (by simp) (by simp) (by simp) (by simp) (by decide)
theorem good_lifeB (hn : n ≤ 12) (ha : a < n) : goodB (stB n k a) ⟨2, a, 0, (a : Int) + 1, 0, 0, ⟨#[]⟩, 0⟩ = true :=
  good_of rfl ⟨by show (0 : Int) ≤ (a : Int) + 1; omega, by show (a : Int) + 1 < _; omega⟩ ⟨by show (0 : Int) ≤ 1; omega, by show (1 : Int) < _; omega⟩ (by show (lvA n a).length ≤ _; rw [lvA_length]; omega) rfl (by simp) ⟨by simp, by show (a : Int) < ((lvA n a).length : Int); rw [lvA_length]; omega, by show (a : Int) < 255; omega⟩ ⟨by show (0 : Int) ≤ (a : Int) + 1; omega, by show (a : Int) + 1 ≤ _; omega⟩ (by simp) (by simp) (by simp) (by simp) (by simp only; decide)
theorem good_begin (hn : n ≤ 12) (h1 : 1 ≤ n) (hk : key.size ≤ 64) : goodB (stA n k n) ⟨3, 0, 1, 0, 1, 0, key, 0⟩ = true :=
  good_of rfl ⟨by show (0 : Int) ≤ n; omega, by show (n : Int) < _; omega⟩ ⟨by show (0 : Int) ≤ 1; omega, by show (1 : Int) < _; omega⟩ (by show (lvA n n).length ≤ _; rw [lvA_length]; omega) rfl (by simp) ⟨by simp, by show (0 : Int) < ((lvA n n).length : Int); rw [lvA_length]; omega, by simp⟩ (by simp) (by simp) (by simp) (by simp) (by simp) hk
/-- what may be done to the open table -/
theorem good_opn {o : Int} {lives : List Int} {c : Cmd} (ho : 0 ≤ o ∧ o < 1000000) (hl : lives.length ≤ 1000000) (hb : c = bareC c) (hkd : 1 ≤ c.kind ∧ c.kind ≤ 7) (hnode : 0 ≤ c.node ∧ c.node < (lives.length : Int) ∧ c.node < 255)
    (h1 : 0 ≤ c.inc ∧ c.inc ≤ 1000000) (h2 : 0 ≤ c.req ∧ c.req ≤ 1000000) (h3 : 0 ≤ c.ver ∧ c.ver ≤ 1000000) (h4 : 0 ≤ c.client ∧ c.client ≤ 65535) (h5 : 0 ≤ c.code ∧ c.code ≤ 65535) (h6 : c.key.size ≤ 64) : goodB (opn k o lives key M) c = true :=
  good_of rfl ho ⟨by show (0 : Int) ≤ 2; omega, by show (2 : Int) < _; omega⟩ hl hb hkd hnode h1 h2 h3 h4 h5 h6
theorem good_offerC (hn : n ≤ 12) (h1 : 1 ≤ n) : goodB (stC n k a key) ⟨1, 0, 0, 0, 0, 0, ⟨#[]⟩, 0⟩ = true :=
  good_opn ⟨by omega, by omega⟩ (by rw [lvA_length]; omega) rfl (by simp) ⟨by simp, by rw [lvA_length]; show (0 : Int) < _; omega, by simp⟩ (by simp) (by simp) (by simp) (by simp) (by simp) (by simp only; decide)
theorem good_lifeO (hn : n ≤ 12) (hd : d < n) : goodB (stO n k key) ⟨2, d, 0, (n : Int) + 1, 0, 0, ⟨#[]⟩, 0⟩ = true :=
  good_opn ⟨by omega, by omega⟩ (by rw [lvA_length]; omega) rfl (by simp) ⟨by show (0 : Int) ≤ d; omega, by rw [lvA_length]; show (d : Int) < _; omega, by show (d : Int) < _; omega⟩ ⟨by show (0 : Int) ≤ (n : Int) + 1; omega, by show (n : Int) + 1 ≤ _; omega⟩ (by simp) (by simp) (by simp) (by simp) (by simp only; decide)
theorem good_ackD {inc : Int} (hn : n ≤ 12) (ha : a < n) (hi : 0 ≤ inc ∧ inc ≤ 1000000) (hk : key.size ≤ 64) : goodB (stD n k d key M) ⟨4, a, 0, inc, 0, 1, key, 0⟩ = true :=
  good_opn ⟨by omega, by omega⟩ (by rw [lvD_length]; omega) rfl (by simp) ⟨by show (0 : Int) ≤ a; omega, by rw [lvD_length]; show (a : Int) < _; omega, by show (a : Int) < _; omega⟩ hi (by simp) (by simp) (by simp) (by simp) hk
theorem good_ackC (hn : n ≤ 12) (ha : a < n) (hk : key.size ≤ 64) : goodB (stC n k a key) ⟨4, a, 0, (a : Int) + 1, 0, 1, key, 0⟩ = true :=
  good_opn ⟨by omega, by omega⟩ (by rw [lvA_length]; omega) rfl (by simp) ⟨by show (0 : Int) ≤ a; omega, by rw [lvA_length]; show (a : Int) < _; omega, by show (a : Int) < _; omega⟩ ⟨by show (0 : Int) ≤ (a : Int) + 1; omega, by show (a : Int) + 1 ≤ _; omega⟩ (by simp) (by simp) (by simp) (by simp) hk
end
set_option maxHeartbeats 4000000 in
set_option maxRecDepth 100000 in
theorem lives_short (nd wi wh : Nat) (key : ByteArray) (hn : nd < 256) (hw : wi < 256) (hh : wh < 256) (hk1 : key.size ≤ 64) (w : World) :
    Calls Try.prog 3 #[.int .u8 nd, .int .u8 wi, .string key, .int .u8 wh] w fun e w' => e = .returned (.bool true) ∧ w.grownBy w' none := by
  have e1 : (nd : Int).tmod 12 = ((nd % 12 : Nat) : Int) := rfl
  have e2 : (wi : Int).tmod 12 = ((wi % 12 : Nat) : Int) := rfl
  have hr1 : nd % 12 < 12 := Nat.mod_lt _ (by omega)
  have hr2 : wi % 12 < 12 := Nat.mod_lt _ (by omega)
  generalize nd % 12 = a at *
  generalize wi % 12 = b at *
  obtain ⟨n, hna⟩ : ∃ n, n = 1 + a := ⟨_, rfl⟩
  have e4 : (1 : Int) + (a : Int) = (n : Int) := by omega
  have hm := Nat.mod_lt b (show 0 < n by omega)
  have e5 : (b : Int) % (n : Int) = ((b % n : Nat) : Int) := rfl
  generalize b % n = m at *
  obtain ⟨k, hkm⟩ : ∃ k, k = 1 + m := ⟨_, rfl⟩
  have e6 : (1 : Int) + (m : Int) = (k : Int) := by omega
  have hn12 : n ≤ 12 := by omega
  have hn1 : 1 ≤ n := by omega
  have hkn : k ≤ n := by omega
  have hk0 : 1 ≤ k := by omega
  have hk3 : decide ((64 : Int) < (key.size : Int)) = false := by simp; omega
  have HB : Hid (n ≤ 12 ∧ 1 ≤ n ∧ k ≤ n ∧ 1 ≤ k) := ⟨hn12, hn1, hkn, hk0⟩
  have HNW : Hid (∀ W, Calls Try.prog 5 #[.int .i64 n, .int .i64 k] W fun e w' => ∃ tb, e = .returned (.pointer (some ⟨tb, 0, none⟩)) ∧ W.heap.size ≤ tb ∧ At (fun k => W.heap.size ≤ k) w' tb (stA n k 0) ∧ W.grownBy w' none) := (fun W => by
    have := new_at (bs := fun k => W.heap.size ≤ k) n k n (by unfold clampN; rw [if_neg (by omega), if_neg (by omega)]) W (fun _ h => h)
    rw [stA_new n k hk0 hkn] at this
    exact this)
  have E4 := Lib.hid e4
  have E6 : Hid (wrap64 (1 + (b : Int) % (n : Int)) = (k : Int)) := (show _ = _ from by rw [e5, e6]; unfold wrap64; omega)
  clear hna hkm hm e4 e5 e6
  go_enter Try.func3, Try.ntmps3
  clear hn12 hn1 hkn hk0
  go_wp2_with (go_at_call 5; rw [E4.out, E6.out]; go_loud (refine (HNW.out w).mono ?_; rintro e w1 ⟨tb, rfl, hle, hA, hg⟩; have HA := Lib.hid hA; have HG := Lib.hid hg; clear hA hg))
  have HA0 : Hid (St0 w tb (stA n k 0) w1) := (show St0 _ _ _ _ from ⟨HA.out, Out.of_grown HG.out _⟩)
  clear HA HG HNW E4 E6
  obtain ⟨hn12, hn1, hkn, hk0⟩ := HB.out
  go_loopw [12] (fun i wr => ∃ j : Nat, j ≤ n ∧ i = .int .i64 j ∧ St0 w tb (stA n k j) wr) (fun i _ => n - (intOf i).toNat)
  case atStart => exact ⟨0, Nat.zero_le _, rfl, HA0.out⟩
  case round =>
    obtain ⟨j, hj, rfl, hat⟩ := hrel
    have HAT := Lib.hid hat
    clear hat HA0
    rcases Nat.lt_or_ge j n with hlt | hge
    · go_wp2_with (go_at_call 6; first
        | (refine (HAT.out.step 1 0 0 0 0 0 ⟨#[]⟩ 0 (stB n k j) (good_offerA hn12 hj hn1) (stA_offer n k j)).mono ?_; rintro e w3 ⟨rfl, hq⟩; have HBT := Lib.hid hq; clear hq HAT)
        | (refine (HBT.out.step 2 j 0 ((j : Int) + 1) 0 0 ⟨#[]⟩ 0 (stA n k (j + 1)) (good_lifeB hn12 hlt) (stB_life n k j hlt)).mono ?_; rintro e w3 ⟨rfl, hq⟩; have HCT := Lib.hid hq; clear hq HBT))
      go_roundw
      case rel => exact ⟨j + 1, by omega, rfl, HCT.out⟩
      case measure => simp [intOf]; omega
    · obtain rfl : j = n := by omega
      have HK := Lib.hid hk1
      go_wp2_with (first
        | (go_at_call 6; refine (HAT.out.step 3 0 1 0 1 0 key 0 (stC j k 0 key) (good_begin hn12 hn1 HK.out) stA_begin).mono ?_; rintro e w3 ⟨rfl, hq⟩; have HCT := Lib.hid hq; clear hq HAT)
        | (go_at_call 7; refine (id_any key 1 _).mono ?_; rintro e w4 ⟨rfl, hg⟩; have HC0 := Lib.hid (⟨HCT.out.tab.grown hg, HCT.out.out.grown hg⟩ : St0 _ _ _ _); clear hg HCT; simp only [encID]))
      have hst := HC0.out.box (.cells #[.string key, .int .i64 1] 30)
      have x0 : (w4.alloc (.cells #[.string key, .int .i64 1] 30)).cell? ⟨w4.heap.size, 0, none⟩ = some (.string key) := by simp [go_sem]
      have x1 : (w4.alloc (.cells #[.string key, .int .i64 1] 30)).cell? ⟨w4.heap.size, 1, none⟩ = some (.int .i64 1) := by simp [go_sem]
      have hwg : w.heap.size ≤ w4.heap.size := HC0.out.out.size
      generalize w4.alloc (.cells #[.string key, .int .i64 1] 30) = W5 at *
      generalize w4.heap.size = g at *
      have HS0 := Lib.hid hst
      have HX := Lib.hid (And.intro x0 x1)
      clear hst x0 x1 HC0
      go_loopw [14] (fun i wr => ∃ c : Nat, c + 1 ≤ k ∧ i = .int .i64 c ∧ St w g tb (stC j k c key) wr ∧ Out (fun b => w.heap.size ≤ b ∧ b ≠ g) W5 wr) (fun i _ => k - (intOf i).toNat)
      case atStart => exact ⟨0, by omega, rfl, HS0.out, Out.refl _ _⟩
      case round =>
        obtain ⟨c, hc, rfl, hat, hout⟩ := hrel
        have HAC := Lib.hid hat
        have HOC := Lib.hid hout
        clear hat hout HS0
        rcases Nat.lt_or_ge (c + 1) k with hlt | hge
        · go_wp2_with (go_at_call 6; refine (HAC.out.step hwg 4 c 0 ((c : Int) + 1) 0 1 key 0 (stC j k (c + 1) key) (good_ackC hn12 (by omega) HK.out) (stC_ack hlt hkn)).mono ?_; rintro e w6 ⟨rfl, hq, ho⟩; have HAD := Lib.hid hq; have HOD := Lib.hid ho; clear hq ho)
          go_roundw
          case rel => exact ⟨c + 1, by omega, rfl, HAD.out, HOC.out.trans HOD.out⟩
          case measure => simp [intOf]; omega
        · obtain rfl : c = k - 1 := by omega
          have hx := HX.out
          have x0 := HOC.out.cell hx.1 (fun h => h.2 rfl)
          have x1 := HOC.out.cell hx.2 (fun h => h.2 rfl)
          clear hx HX HOC
          have hrl : ((k - 1 : Nat) : Int) = (k : Int) - 1 := by omega
          have HF : Hid (Fits (memH (stC j k (k - 1) key).holds ⟨key, 1⟩) ∧ (memH (stC j k (k - 1) key).holds ⟨key, 1⟩).length = k - 1) := (by
            have e : memH (stC j k (k - 1) key).holds ⟨key, 1⟩ = rg (k - 1) := opn_mem
            rw [e]
            exact ⟨fits_small ⟨fun x hx => by have := (rg_mem _ _).1 hx; omega, by rw [rg_length]; omega⟩, rg_length _⟩)
          have hkl : ((k - 1 : Nat) : Int) ≤ 12 := by omega
          have hmod := Nat.mod_lt wh (show 0 < j by omega)
          have e7 : (wh : Int) % (j : Int) = ((wh % j : Nat) : Int) := rfl
          generalize wh % j = d at *
          have HLN := Lib.hid (mem0_len (k := k) (d := d))
          have hdec : (decide ((d : Int) < (k : Int) - 1) = true ∧ ((left0 k d : Nat) : Int) = (k : Int) - 1 - 1) ∨ (decide ((d : Int) < (k : Int) - 1) = false ∧ ((left0 k d : Nat) : Int) = (k : Int) - 1) := by
            unfold left0
            by_cases h : d < k - 1
            · left; rw [if_pos h]; exact ⟨by simp; omega, by omega⟩
            · right; rw [if_neg h]; exact ⟨by simp; omega, by omega⟩
          have HFD : Hid (∀ M, Fits M → Fits (memH (stD j k d key M).holds ⟨key, 1⟩)) := (fun M h => by rw [show memH (stD j k d key M).holds ⟨key, 1⟩ = M from opn_mem]; exact h)
          have HM0 : Hid (Fits (mem0 k d)) := (show Fits _ from fits_small ⟨fun x hx => by have := mem0_mem x hx; omega, by rw [mem0_len]; unfold left0; omega⟩)
          have SO := Lib.hid (stC_offer (n := j) (k := k) (key := key))
          have SL := Lib.hid (stO_life (n := j) (k := k) (d := d) (key := key) hmod)
          have SS := Lib.hid (stD_stale (n := j) (k := k) (d := d) (key := key) hmod (mem0 k d))
          have HLF := Lib.hid (stD_lifeV (k := k) (key := key) (d := d) (n := j) hmod hmod (mem0 k d))
          generalize left0 k d = lf at *
          generalize hlc : k - 1 = lc at *
          go_wp2_with (first
            | (go_at_call 8; go_loud (refine (HAC.out.holders key 1 lc HF.out.1 HF.out.2).mono ?_; rintro e w6 ⟨p, q, rfl, hq, hg⟩; replace HAC := Lib.hid hq; replace x0 := hg.cell x0 (by simp); replace x1 := hg.cell x1 (by simp); clear hq hg))
            | (go_at_call 9; go_loud (refine (HAC.out.look key 0 rfl).mono ?_; rintro e w6 ⟨rfl, hq, hg⟩; replace HAC := Lib.hid hq; replace x0 := hg.cell x0 (by simp); replace x1 := hg.cell x1 (by simp); clear hq hg)))
          rcases hdec with ⟨hdk, hlf⟩ | ⟨hdk, hlf⟩
          all_goals
            go_wp2_with (first
              | (go_at_call 6; first
                | (refine (HAC.out.step hwg 1 0 0 0 0 0 ⟨#[]⟩ 0 (stO j k key) (good_offerC hn12 hn1) SO.out).mono ?_; rintro e w6 ⟨rfl, hq, ho⟩; have HAO := Lib.hid hq; replace x0 := ho.cell x0 (fun h => h.2 rfl); replace x1 := ho.cell x1 (fun h => h.2 rfl); clear hq ho HAC)
                | (refine (HAO.out.step hwg 2 d 0 ((j : Int) + 1) 0 0 ⟨#[]⟩ 0 (stD j k d key (mem0 k d)) (good_lifeO hn12 hmod) SL.out).mono ?_; rintro e w6 ⟨rfl, hq, ho⟩; have HAD := Lib.hid hq; replace x0 := ho.cell x0 (fun h => h.2 rfl); replace x1 := ho.cell x1 (fun h => h.2 rfl); clear hq ho HAO)))
            have HML : Hid ((memH (stD j k d key (mem0 k d)).holds ⟨key, 1⟩).length = lf) := (show _ = _ from by rw [show memH (stD j k d key (mem0 k d)).holds ⟨key, 1⟩ = mem0 k d from opn_mem]; exact HLN.out)
            have HLV : Hid (lifeV (stD j k d key (mem0 k d)) d = (j : Int) + 1) := (show _ = _ from by rw [HLF.out]; simp)
            have HLL : Hid ((stD j k d key (mem0 k d)).lives.length ≤ 9223372036854775807) := (show _ ≤ _ from by show (lvD j d).length ≤ _; rw [lvD_length]; omega)
            go_wp2_with (first
              | (go_at_call 8; refine (HAD.out.holders key 1 lf (HFD.out _ HM0.out) HML.out).mono ?_; rintro e w6 ⟨p, q, rfl, hq, hg⟩; replace HAD := Lib.hid hq; replace x0 := hg.cell x0 (by simp); replace x1 := hg.cell x1 (by simp); clear hq hg)
              | (go_at_call 10; refine (HAD.out.life d ((j : Int) + 1) HLL.out HLV.out).mono ?_; rintro e w6 ⟨rfl, hq, hg⟩; replace HAD := Lib.hid hq; replace x0 := hg.cell x0 (by simp); replace x1 := hg.cell x1 (by simp); clear hq hg)
              | (go_at_call 9; refine (HAD.out.look key 0 rfl).mono ?_; rintro e w6 ⟨rfl, hq, hg⟩; replace HAD := Lib.hid hq; replace x0 := hg.cell x0 (by simp); replace x1 := hg.cell x1 (by simp); clear hq hg)
              | (go_at_call 6; refine (HAD.out.step hwg 4 d 0 ((d : Int) + 1) 0 1 key 0 (stD j k d key (mem0 k d)) (good_ackD hn12 hmod ⟨by omega, by omega⟩ HK.out) SS.out).mono ?_; rintro e w6 ⟨rfl, hq, ho⟩; replace HAD := Lib.hid hq; replace x0 := ho.cell x0 (fun h => h.2 rfl); replace x1 := ho.cell x1 (fun h => h.2 rfl); clear hq ho))
            have HF0 : Hid (Fo j k d key 0 (stD j k d key (mem0 k d))) := fo_start hk0 (by omega)
            have HX := Lib.hid (And.intro x0 x1)
            clear HML HLV HLL HLF HFD HM0 SO SL SS HLN HF x0 x1
            go_loopw [17] (fun i wr => ∃ (c : Nat) (L : Tab), c ≤ j ∧ i = .int .i64 c ∧ Fo j k d key c L ∧ St w g tb L wr ∧ wr.cell? ⟨g, 0, none⟩ = some (.string key) ∧ wr.cell? ⟨g, 1, none⟩ = some (.int .i64 1)) (fun i _ => j - (intOf i).toNat)
            case atStart => exact ⟨0, _, by omega, rfl, HF0.out, HAD.out, HX.out.1, HX.out.2⟩
            case round =>
              obtain ⟨c, L, hc, rfl, hfo, hst, x0, x1⟩ := hrel
              clear HF0 HX HAD
              cases hfo with
              | opn M hl ha hm =>
                have hcj : c < j := by have := all_le c M ha; omega
                have HST := Lib.hid hst
                have HSTEP := Lib.hid (fo_step (k := k) (key := key) hmod hcj hn12 hl ha hm)
                have HLL : Hid ((stD j k d key M).lives.length ≤ 9223372036854775807) := (show _ ≤ _ from by show (lvD j d).length ≤ _; rw [lvD_length]; omega)
                have HV : Hid (0 ≤ lifeV (stD j k d key M) c ∧ lifeV (stD j k d key M) c ≤ 1000000) := (show _ ∧ _ from by rw [stD_lifeV hmod hcj M]; split <;> omega)
                have HGD := Lib.hid (good_ackD (k := k) (d := d) (M := M) (key := key) (inc := lifeV (stD j k d key M) c) hn12 hcj HV.out HK.out)
                obtain ⟨v, hvv⟩ : ∃ v, lifeV (stD j k d key M) c = v := ⟨_, rfl⟩
                rw [hvv] at HSTEP HV HGD
                have HLV := Lib.hid hvv
                clear hst ha hm hvv
                go_wp2_with (first
                  | (go_at_call 9; refine (HST.out.look key 0 rfl).mono ?_; rintro e w7 ⟨rfl, hq, hg⟩; replace HST := Lib.hid hq; replace x0 := hg.cell x0 (by simp); replace x1 := hg.cell x1 (by simp); clear hq hg)
                  | (go_at_call 10; refine (HST.out.life c v HLL.out HLV.out).mono ?_; rintro e w7 ⟨rfl, hq, hg⟩; replace HST := Lib.hid hq; replace x0 := hg.cell x0 (by simp); replace x1 := hg.cell x1 (by simp); clear hq hg)
                  | (go_at_call 6; refine (HST.out.step hwg 4 c 0 v 0 1 key 0 _ HGD.out rfl).mono ?_; rintro e w7 ⟨rfl, hq, ho⟩; have HDN := Lib.hid hq; replace x0 := ho.cell x0 (fun h => h.2 rfl); replace x1 := ho.cell x1 (fun h => h.2 rfl); clear hq ho))
                go_roundw
                case rel => exact ⟨c + 1, _, by omega, rfl, HSTEP.out, HDN.out, x0, x1⟩
                case measure => simp [intOf]; omega
              | dne M hl hm =>
                have HST := Lib.hid hst
                have HLK : Hid (look (stE j k d key M) key = 1) := dne_look
                have HCL := Lib.hid (dne_call (k := k) (o := (j : Int) + 1) (lives := lvD j d) (key := key) (M := M))
                have HMM : Hid (memH (stE j k d key M).holds ⟨key, 1⟩ = M) := dne_mem
                have HMF : Hid (Fits (memH (stE j k d key M).holds ⟨key, 1⟩)) := (show Fits _ from by rw [HMM.out]; exact fits_small ⟨hm, by omega⟩)
                have HML : Hid ((memH (stE j k d key M).holds ⟨key, 1⟩).length = k) := (show _ = _ from by rw [HMM.out]; exact hl)
                clear hst hm hl
                rcases Nat.lt_or_ge c j with hcj | hcj
                all_goals
                  go_wp2_with (first
                    | (go_at_call 9; refine (HST.out.look key 1 HLK.out).mono ?_; rintro e w7 ⟨rfl, hq, hg⟩; replace HST := Lib.hid hq; replace x0 := hg.cell x0 (by simp); replace x1 := hg.cell x1 (by simp); clear hq hg)
                    | (go_at_call 8; refine (HST.out.holders key 1 k HMF.out HML.out).mono ?_; rintro e w7 ⟨p, q, rfl, hq, hg⟩; replace HST := Lib.hid hq; replace x0 := hg.cell x0 (by simp); replace x1 := hg.cell x1 (by simp); clear hq hg)
                    | (go_at_call 11; refine (HST.out.call 1 1 1 true 0 HCL.out).mono ?_; rintro e w7 ⟨rfl, hq, hg⟩; replace HST := Lib.hid hq; replace x0 := hg.cell x0 (by simp); replace x1 := hg.cell x1 (by simp); clear hq hg)
                    | (go_at_call 4; refine (works_any _).mono ?_; rintro e w7 ⟨rfl, hg⟩; replace HST := Lib.hid (HST.out.grown hg); clear hg))
                  go_ret
                  exact ⟨rfl, HST.out.base⟩
end Go.Proofs.Ytjfelfjobeeenaa
