/- part.may: the walk. Conditions: none, or as the theorems say. -/
import Derived.Test.YtbcbhlfjgobejaaGreatI12
import Derived.BigQuiet
set_option linter.unusedSimpArgs false
set_option linter.unusedVariables false
namespace Go.Proofs.YtbcbhlfjgobejaaGreat
set_option maxHeartbeats 200000000
open Go.RowKit Go.Sf
def Zs (k:Int) (index count bl:Nat):Bool:=
 if k<1 then false else if 4611686018427387904<k then false else if count<1 then false else if 570<count then false else if count≤index then false else if 230<bl then false
 else if index+1=count then decide (index*230+bl≤131072∧zt (index*230+bl)=count) else decide (bl=230)
theorem zfv (p:Prt):Zs p.k p.index p.count p.b.length=true↔Jm p:=by
 unfold Zs
 constructor
 ·intro h
  repeat' split at h
  all_goals first|(cases h;done)|skip
  ·rename_i h1 h2 h3 h4 h5 h6 h7
   have h8:=of_decide_eq_true h
   exact⟨by omega,by omega,by omega,by omega,by omega,by omega,fun e=>absurd h7 e,fun _=>h8⟩
  ·rename_i h1 h2 h3 h4 h5 h6 h7
   have h8:=of_decide_eq_true h
   exact⟨by omega,by omega,by omega,by omega,by omega,by omega,fun _=>h8,fun e=>absurd e h7⟩
 ·intro h
  have h1:=h.k1;have h2:=h.k2;have h3:=h.c1;have h4:=h.c2;have h5:=h.i1;have h6:=h.l1;rw[if_neg (by omega),if_neg (by omega),if_neg (by omega),if_neg (by omega),if_neg (by omega),if_neg (by omega)]
  by_cases h7:p.index+1=p.count
  ·rw[if_pos h7];exact decide_eq_true (h.last h7)
  ·rw[if_neg h7];exact decide_eq_true (h.full h7)
theorem zmx (W:World):Calls Tryz.prog 15 #[.int .i64 131072] W fun e w'=>e = .returned (.int .i64 570)∧W.grownBy w' none:=
 (zdq 131072 (by omega) W).mono fun e w' ⟨h1,h2⟩=>⟨by rw[h1];rfl,by subst h2;exact zm _⟩
theorem zf3 (n:Nat) (hn:n<4611686018427387904) (W:World):Calls Tryz.prog 15 #[.int .i64 n] W fun e w'=>e = .returned (.int .i64 (zt n))∧w'=W:=
 (zdq n (by omega) W).mono fun e w' ⟨h1,h2⟩=>⟨by rw[h1,if_neg (by omega),Int.toNat_natCast],h2⟩
set_option maxRecDepth 100000 in
theorem pmay {W:World} (k:Int) (index count bl:Nat) (pb:Option Addr) (cb:Nat) (hk0 : -9223372036854775808≤k) (hk1:k<9223372036854775808) (hi:index<65536) (hc:count<65536) (hl:bl<65536) :
  Calls Tryz.prog 168 #[.agg #[.int .i64 k,.int .i64 index,.int .i64 count,.slice pb bl cb]] W fun e w'=>e = .returned (.bool (Zs k index count bl))∧W.grownBy w' none:=by
 have HP:Hid (∀W,Calls Tryz.prog 15 #[.int .i64 131072] W fun e w'=>e = .returned (.int .i64 570)∧W.grownBy w' none):=(fun W=>zmx W)
 have hw0:W.heap.size<(W.alloc (.cells #[.int .i64 k,.int .i64 index,.int .i64 count,.slice pb bl cb] 138)).heap.size:=by simp
 have HG:Hid (W.grownBy (W.alloc (.cells #[.int .i64 k,.int .i64 index,.int .i64 count,.slice pb bl cb] 138)) none):=(zg _ _ _);have hb:=heap_alloc_new W (.cells #[.int .i64 k,.int .i64 index,.int .i64 count,.slice pb bl cb] 138);have d0:=(zh hb 0).trans (show _=some (Value.int .i64 k) from rfl)
 have d1:=(zh hb 1).trans (show _=some (Value.int .i64 index) from rfl)
 have d2:=(zh hb 2).trans (show _=some (Value.int .i64 count) from rfl)
 have d3:=(zh hb 3).trans (show _=some (Value.slice pb bl cb) from rfl)
 clear hb
 by_cases hA:k<1
 ·have hres:Zs k index count bl=false:=by unfold Zs;repeat (first|rfl|rw[if_pos (by omega)]|rw[if_neg (by omega)])
  rw[hres];clear hres
  go_enter Tryz.func168,Tryz.ntmps168
  go_upto_region 2 with fail
  generalize W.alloc (.cells #[.int .i64 k,.int .i64 index,.int .i64 count,.slice pb bl cb] 138)=W1 at *;refine yd (by kernel_rfl) (by kernel_rfl) ?_
  repeat (any_goals (first|go_big_quiet_step ((go_at_call 15;exact yq (HP.out _)))|quiet_step ((go_at_call 15;exact yq (HP.out _)))))
  refine wpQuiet_nil ?_;intro _ hw';obtain⟨x,hw''⟩:=hw';subst hw'';go_wp2
  go_ret
  exact⟨rfl,un HG.out _⟩
 ·skip
  by_cases hB:4611686018427387904<k
  ·have hres:Zs k index count bl=false:=by unfold Zs;repeat (first|rfl|rw[if_pos (by omega)]|rw[if_neg (by omega)])
   rw[hres];clear hres
   go_enter Tryz.func168,Tryz.ntmps168
   go_upto_region 2 with fail
   generalize W.alloc (.cells #[.int .i64 k,.int .i64 index,.int .i64 count,.slice pb bl cb] 138)=W1 at *;refine yd (by kernel_rfl) (by kernel_rfl) ?_
   repeat (any_goals (first|go_big_quiet_step ((go_at_call 15;exact yq (HP.out _)))|quiet_step ((go_at_call 15;exact yq (HP.out _)))))
   refine wpQuiet_nil ?_;intro _ hw';obtain⟨x,hw''⟩:=hw';subst hw'';go_wp2
   go_ret
   exact⟨rfl,un HG.out _⟩
  ·skip
   by_cases hC:(count:Int)<1
   ·have hres:Zs k index count bl=false:=by unfold Zs;repeat (first|rfl|rw[if_pos (by omega)]|rw[if_neg (by omega)])
    rw[hres];clear hres
    go_enter Tryz.func168,Tryz.ntmps168
    go_upto_region 2 with fail
    generalize W.alloc (.cells #[.int .i64 k,.int .i64 index,.int .i64 count,.slice pb bl cb] 138)=W1 at *;refine yd (by kernel_rfl) (by kernel_rfl) ?_
    repeat (any_goals (first|go_big_quiet_step ((go_at_call 15;exact yq (HP.out _)))|quiet_step ((go_at_call 15;exact yq (HP.out _)))))
    refine wpQuiet_nil ?_;intro _ hw';obtain⟨x,hw''⟩:=hw';subst hw'';go_wp2
    go_ret
    exact⟨rfl,un HG.out _⟩
   ·skip
    by_cases hD:570<(count:Int)
    ·have hres:Zs k index count bl=false:=by unfold Zs;repeat (first|rfl|rw[if_pos (by omega)]|rw[if_neg (by omega)])
     rw[hres];clear hres
     go_enter Tryz.func168,Tryz.ntmps168
     go_upto_region 2 with fail
     generalize W.alloc (.cells #[.int .i64 k,.int .i64 index,.int .i64 count,.slice pb bl cb] 138)=W1 at *;refine yd (by kernel_rfl) (by kernel_rfl) ?_
     repeat (any_goals (first|go_big_quiet_step ((go_at_call 15;exact yq (HP.out _)))|quiet_step ((go_at_call 15;exact yq (HP.out _)))))
     refine wpQuiet_nil ?_;intro _ hw';obtain⟨x,hw''⟩:=hw';subst hw'';go_wp2
     go_ret
     exact⟨rfl,un HG.out _⟩
    ·skip
     by_cases hE:(count:Int)≤index
     ·have hres:Zs k index count bl=false:=by unfold Zs;repeat (first|rfl|rw[if_pos (by omega)]|rw[if_neg (by omega)])
      rw[hres];clear hres
      go_enter Tryz.func168,Tryz.ntmps168
      go_upto_region 2 with fail
      generalize W.alloc (.cells #[.int .i64 k,.int .i64 index,.int .i64 count,.slice pb bl cb] 138)=W1 at *;refine yd (by kernel_rfl) (by kernel_rfl) ?_
      repeat (any_goals (first|go_big_quiet_step ((go_at_call 15;exact yq (HP.out _)))|quiet_step ((go_at_call 15;exact yq (HP.out _)))))
      refine wpQuiet_nil ?_;intro _ hw';obtain⟨x,hw''⟩:=hw';subst hw'';go_wp2
      go_ret
      exact⟨rfl,un HG.out _⟩
     ·skip
      by_cases hF:230<(bl:Int)
      ·have hres:Zs k index count bl=false:=by unfold Zs;repeat (first|rfl|rw[if_pos (by omega)]|rw[if_neg (by omega)])
       rw[hres];clear hres
       go_enter Tryz.func168,Tryz.ntmps168
       go_upto_region 2 with fail
       generalize W.alloc (.cells #[.int .i64 k,.int .i64 index,.int .i64 count,.slice pb bl cb] 138)=W1 at *;refine yd (by kernel_rfl) (by kernel_rfl) ?_
       repeat (any_goals (first|go_big_quiet_step ((go_at_call 15;exact yq (HP.out _)))|quiet_step ((go_at_call 15;exact yq (HP.out _)))))
       refine wpQuiet_nil ?_;intro _ hw';obtain⟨x,hw''⟩:=hw';subst hw'';go_wp2
       go_ret
       exact⟨rfl,un HG.out _⟩
      ·skip
       by_cases hL:(index:Int)+1=count
       ·by_cases hN:(index:Int)*230+bl≤131072
        ·have hres:Zs k index count bl=decide (zt (index*230+bl)=count):=by
          unfold Zs;rw[if_neg (by omega),if_neg (by omega),if_neg (by omega),if_neg (by omega),if_neg (by omega),if_neg (by omega),if_pos (by omega)]
          simp only[show index*230+bl≤131072 from by omega,true_and]
         have HP7:Hid (∀W,Calls Tryz.prog 15 #[.int .i64 ((index:Int)*230+bl)] W fun e w'=>e = .returned (.int .i64 (zt (index*230+bl)))∧W.grownBy w' none):=(fun W=>by
          have h:=zf3 (index*230+bl) (by omega) W
          have e:((index*230+bl:Nat):Int)=(index:Int)*230+bl:=by omega
          rw[e] at h
          exact h.mono fun e w' ⟨h1,h2⟩=>⟨h1,by subst h2;exact zm _⟩)
         rw[hres];clear hres;generalize zt (index*230+bl)=pn at *
         skip
         go_enter Tryz.func168,Tryz.ntmps168
         go_upto_region 2 with fail
         generalize W.alloc (.cells #[.int .i64 k,.int .i64 index,.int .i64 count,.slice pb bl cb] 138)=W1 at *;refine yd (by kernel_rfl) (by kernel_rfl) ?_
         repeat (any_goals (first|go_big_quiet_step ((go_at_call 15;exact yq (HP.out _)))|quiet_step ((go_at_call 15;exact yq (HP.out _)))))
         refine wpQuiet_nil ?_;intro _ hw';obtain⟨x,hw''⟩:=hw';subst hw'';generalize hW2:ext W1 x=W2 at *;have hz0:∀i,W2.cell? ⟨W.heap.size,i,none⟩=W1.cell? ⟨W.heap.size,i,none⟩:=fun i=>by rw[←hW2];exact zbj _ _ _ hw0
         have HG2:Hid (W.grownBy W2 none):=(show World.grownBy _ _ _ from by rw[←hW2];exact un HG.out _)
         have hw2:W.heap.size<W2.heap.size:=by rw[←hW2];simp[ext];omega
         clear hW2;have q0:=(hz0 0).trans d0;have q1:=(hz0 1).trans d1;have q2:=(hz0 2).trans d2;have q3:=(hz0 3).trans d3;clear hz0 d0 d1 d2 d3 HG hw0
         go_upto_region 7 with fail
         refine yd (by kernel_rfl) (by kernel_rfl) ?_
         repeat (any_goals (first|go_big_quiet_step ((go_at_call 15;exact yq (HP7.out _)))|quiet_step ((go_at_call 15;exact yq (HP7.out _)))))
         refine wpQuiet_nil ?_;intro _ hw';obtain⟨x2,hw''⟩:=hw';subst hw'';go_wp2
         go_ret
         refine⟨congrArg (fun z=>Ending.returned (Value.bool z)) ?_,un HG2.out _⟩
         first|rfl|(rw[Bool.eq_iff_iff];simp <;> omega)
        ·have hres:Zs k index count bl=false:=by
          unfold Zs;rw[if_neg (by omega),if_neg (by omega),if_neg (by omega),if_neg (by omega),if_neg (by omega),if_neg (by omega),if_pos (by omega)]
          exact decide_eq_false (fun h=>hN (by omega))
         rw[hres];clear hres
         skip
         go_enter Tryz.func168,Tryz.ntmps168
         go_upto_region 2 with fail
         generalize W.alloc (.cells #[.int .i64 k,.int .i64 index,.int .i64 count,.slice pb bl cb] 138)=W1 at *;refine yd (by kernel_rfl) (by kernel_rfl) ?_
         repeat (any_goals (first|go_big_quiet_step ((go_at_call 15;exact yq (HP.out _)))|quiet_step ((go_at_call 15;exact yq (HP.out _)))))
         refine wpQuiet_nil ?_;intro _ hw';obtain⟨x,hw''⟩:=hw';subst hw'';generalize hW2:ext W1 x=W2 at *;have hz0:∀i,W2.cell? ⟨W.heap.size,i,none⟩=W1.cell? ⟨W.heap.size,i,none⟩:=fun i=>by rw[←hW2];exact zbj _ _ _ hw0
         have HG2:Hid (W.grownBy W2 none):=(show World.grownBy _ _ _ from by rw[←hW2];exact un HG.out _)
         have hw2:W.heap.size<W2.heap.size:=by rw[←hW2];simp[ext];omega
         clear hW2;have q0:=(hz0 0).trans d0;have q1:=(hz0 1).trans d1;have q2:=(hz0 2).trans d2;have q3:=(hz0 3).trans d3;clear hz0 d0 d1 d2 d3 HG hw0
         go_upto_region 7 with fail
         refine yd (by kernel_rfl) (by kernel_rfl) ?_
         repeat (any_goals (first|go_big_quiet_step ((go_at_call 15;exact yq (HP.out _)))|quiet_step ((go_at_call 15;exact yq (HP.out _)))))
         refine wpQuiet_nil ?_;intro _ hw';obtain⟨x2,hw''⟩:=hw';subst hw'';go_wp2
         go_ret
         exact⟨rfl,un HG2.out _⟩
       ·have hres:Zs k index count bl=decide (bl=230):=by
         unfold Zs;rw[if_neg (by omega),if_neg (by omega),if_neg (by omega),if_neg (by omega),if_neg (by omega),if_neg (by omega),if_neg (by omega)]
        rw[hres];have hLb:((index:Int)+1 == count)=false:=beq_eq_false_iff_ne.2 hL;clear hres
        skip
        go_enter Tryz.func168,Tryz.ntmps168
        go_upto_region 2 with fail
        generalize W.alloc (.cells #[.int .i64 k,.int .i64 index,.int .i64 count,.slice pb bl cb] 138)=W1 at *;refine yd (by kernel_rfl) (by kernel_rfl) ?_
        repeat (any_goals (first|go_big_quiet_step ((go_at_call 15;exact yq (HP.out _)))|quiet_step ((go_at_call 15;exact yq (HP.out _)))))
        refine wpQuiet_nil ?_;intro _ hw';obtain⟨x,hw''⟩:=hw';subst hw'';generalize hW2:ext W1 x=W2 at *;have hz0:∀i,W2.cell? ⟨W.heap.size,i,none⟩=W1.cell? ⟨W.heap.size,i,none⟩:=fun i=>by rw[←hW2];exact zbj _ _ _ hw0
        have HG2:Hid (W.grownBy W2 none):=(show World.grownBy _ _ _ from by rw[←hW2];exact un HG.out _)
        clear hW2;have q0:=(hz0 0).trans d0;have q1:=(hz0 1).trans d1;have q2:=(hz0 2).trans d2;have q3:=(hz0 3).trans d3;clear hz0 d0 d1 d2 d3 HG hw0;go_wp2
        go_ret
        refine⟨congrArg (fun z=>Ending.returned (Value.bool z)) ?_,HG2.out⟩
        first|rfl|(rw[Bool.eq_iff_iff];simp <;> omega)
end Go.Proofs.YtbcbhlfjgobejaaGreat
