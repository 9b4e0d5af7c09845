/- DERIVED: THE SHELF's CONTRACTS AT THIS DUMP, IN PLAIN WORDS (tools/lay-plain.mjs out of 'YtjfelfjobeeenaaGreatLayBX.lean', which tools/lay-shelf.mjs wrote): THE SAME DECLARATIONS UNDER THE SAME NAMES: 'import', 'namespace', 'open', 'def', 'theorem' AND NOTHING ELSE: no command of the shelf's: FOR A HAND-IN. Each laying: the table of numbers ('.._ren') and one theorem, a field a fact of the dump's own or the kernel's comparison; each contract: ONE APPLICATION. slices.SortedFunc over the keys of a map of numbers, of strings: the walks. Conditions: a map that lies in memory, not too many keys, all of the machine. slices.SortedFunc over the keys of a map of sets, by id: the walks. Conditions: a map that lies in memory, not too many keys. -/
import Derived.Shelf.SlIterI.Nil
import Derived.Shelf.SlLaysF
import Derived.Ground.GgzProg
import Derived.Ground.SlsfProg
import Derived.Shelf.SlGeneric
import Derived.Test.YtjfelfjobeeenaaGreatProg
import Derived.Test.YtjfelfjobeeenaaGreatP19
import Derived.Shelf.SlSortCmp.Whole1
namespace Go.Proofs
set_option linter.unusedVariables false
set_option linter.unusedSimpArgs false
open Go.Shelf
def Tryz.keysC_ren:Go.Shelf.Ren:=⟨fun|7=>154|10=>184|n=>n,fun|23=>117|26=>3|3=>77|28=>154|0=>0|27=>153|33=>177|4=>4|n=>n,fun|n=>n⟩
theorem Tryz.keysC:Go.Proofs.SlLaysZI.n7 Tryz.prog Tryz.keysC_ren:={
 mixed:=by kernel_rfl
 f7:=⟨Tryz.f154.name,by decide,Tryz.func154.trans (congrArg some (by kernel_rfl))⟩
 f10:=⟨Tryz.f184.name,by decide,Tryz.func184.trans (congrArg some (by kernel_rfl))⟩
 t0:=Tryz.underlying0
 a0:=Tryz.isAgg0
 z0:=Tryz.sizeOf0
 v0:=Tryz.zeroValue0
 t4:=Tryz.underlying4
 a4:=Tryz.isAgg4
 z4:=Tryz.sizeOf4
 v4:=Tryz.zeroValue4
 t23:=Tryz.underlying117
 a23:=Tryz.isAgg117
 z23:=Tryz.sizeOf117
 v23:=Tryz.zeroValue117
 t26:=Tryz.underlying3
 a26:=Tryz.isAgg3
 z26:=Tryz.sizeOf3
 v26:=Tryz.zeroValue3
 t27:=Tryz.underlying153
 a27:=Tryz.isAgg153
 z27:=Tryz.sizeOf153
 v27:=Tryz.zeroValue153
 t28:=Tryz.underlying154
 a28:=Tryz.isAgg154
 z28:=Tryz.sizeOf154
 v28:=Tryz.zeroValue154
 t33:=Tryz.underlying177
 a33:=Tryz.isAgg177
 z33:=Tryz.sizeOf177
 v33:=Tryz.zeroValue177 }
def Tryz.sortFI_ren:Go.Shelf.Ren:=⟨fun|6=>183|15=>179|14=>213|28=>201|29=>202|20=>233|21=>234|22=>235|23=>236|24=>237|25=>238|26=>239|27=>240|46=>254|47=>226|48=>227|49=>255|50=>256|57=>261|n=>n,fun|22=>69|24=>3|25=>159|3=>3|39=>188|0=>0|53=>224|55=>101|4=>4|46=>262|45=>261|50=>266|5=>5|9=>9|66=>283|70=>287|76=>303|77=>304|n=>n,fun|n=>n⟩
theorem Tryz.sortFI:Go.Proofs.SlLaysF.n6 Tryz.prog Tryz.sortFI_ren:={
 mixed:=by kernel_rfl
 f6:=⟨Tryz.f183.name,by decide,Tryz.func183.trans (congrArg some (by kernel_rfl))⟩
 f14:=⟨Tryz.f213.name,by decide,Tryz.func213.trans (congrArg some (by kernel_rfl))⟩
 f15:=Tryz.func179.trans (congrArg some (by kernel_rfl))
 f20:=⟨Tryz.f233.name,by decide,Tryz.func233.trans (congrArg some (by kernel_rfl))⟩
 f21:=⟨Tryz.f234.name,by decide,Tryz.func234.trans (congrArg some (by kernel_rfl))⟩
 f22:=⟨Tryz.f235.name,by decide,Tryz.func235.trans (congrArg some (by kernel_rfl))⟩
 f23:=⟨Tryz.f236.name,by decide,Tryz.func236.trans (congrArg some (by kernel_rfl))⟩
 f24:=⟨Tryz.f237.name,by decide,Tryz.func237.trans (congrArg some (by kernel_rfl))⟩
 f25:=⟨Tryz.f238.name,by decide,Tryz.func238.trans (congrArg some (by kernel_rfl))⟩
 f26:=⟨Tryz.f239.name,by decide,Tryz.func239.trans (congrArg some (by kernel_rfl))⟩
 f27:=⟨Tryz.f240.name,by decide,Tryz.func240.trans (congrArg some (by kernel_rfl))⟩
 f28:=Tryz.func201.trans (congrArg some (by kernel_rfl))
 f29:=Tryz.func202.trans (congrArg some (by kernel_rfl))
 f46:=⟨Tryz.f254.name,by decide,Tryz.func254.trans (congrArg some (by kernel_rfl))⟩
 f47:=Tryz.func226.trans (congrArg some (by kernel_rfl))
 f48:=Tryz.func227.trans (congrArg some (by kernel_rfl))
 f49:=⟨Tryz.f255.name,by decide,Tryz.func255.trans (congrArg some (by kernel_rfl))⟩
 f50:=⟨Tryz.f256.name,by decide,Tryz.func256.trans (congrArg some (by kernel_rfl))⟩
 f57:=⟨Tryz.f261.name,by decide,Tryz.func261.trans (congrArg some (by kernel_rfl))⟩
 t0:=Tryz.underlying0
 a0:=Tryz.isAgg0
 z0:=Tryz.sizeOf0
 v0:=Tryz.zeroValue0
 t3:=Tryz.underlying3
 a3:=Tryz.isAgg3
 z3:=Tryz.sizeOf3
 v3:=Tryz.zeroValue3
 t4:=Tryz.underlying4
 a4:=Tryz.isAgg4
 z4:=Tryz.sizeOf4
 v4:=Tryz.zeroValue4
 t5:=Tryz.underlying5
 a5:=Tryz.isAgg5
 z5:=Tryz.sizeOf5
 v5:=Tryz.zeroValue5
 t9:=Tryz.underlying9
 a9:=Tryz.isAgg9
 z9:=Tryz.sizeOf9
 v9:=Tryz.zeroValue9
 t22:=Tryz.underlying69
 a22:=Tryz.isAgg69
 z22:=Tryz.sizeOf69
 v22:=Tryz.zeroValue69
 a24:=Tryz.isAgg3
 z24:=Tryz.sizeOf3
 t25:=Tryz.underlying159
 a25:=Tryz.isAgg159
 z25:=Tryz.sizeOf159
 v25:=Tryz.zeroValue159
 t39:=Tryz.underlying188
 a39:=Tryz.isAgg188
 z39:=Tryz.sizeOf188
 v39:=Tryz.zeroValue188
 t45:=Tryz.underlying261
 a45:=Tryz.isAgg261
 z45:=Tryz.sizeOf261
 v45:=Tryz.zeroValue261
 t46:=Tryz.underlying262
 a46:=Tryz.isAgg262
 z46:=Tryz.sizeOf262
 v46:=Tryz.zeroValue262
 t50:=Tryz.underlying266
 a50:=Tryz.isAgg266
 z50:=Tryz.sizeOf266
 v50:=Tryz.zeroValue266
 t53:=Tryz.underlying224
 a53:=Tryz.isAgg224
 z53:=Tryz.sizeOf224
 v53:=Tryz.zeroValue224
 t55:=Tryz.underlying101
 a55:=Tryz.isAgg101
 z55:=Tryz.sizeOf101
 v55:=Tryz.zeroValue101
 t66:=Tryz.underlying283
 a66:=Tryz.isAgg283
 z66:=Tryz.sizeOf283
 v66:=Tryz.zeroValue283
 t70:=Tryz.underlying287
 a70:=Tryz.isAgg287
 z70:=Tryz.sizeOf287
 v70:=Tryz.zeroValue287
 t76:=Tryz.underlying303
 a76:=Tryz.isAgg303
 z76:=Tryz.sizeOf303
 v76:=Tryz.zeroValue303
 t77:=Tryz.underlying304
 a77:=Tryz.isAgg304
 z77:=Tryz.sizeOf304
 v77:=Tryz.zeroValue304 }
def Tryz.sortFS_ren:Go.Shelf.Ren:=⟨fun|6=>185|15=>179|14=>214|28=>201|29=>202|20=>241|21=>242|22=>243|23=>244|24=>245|25=>246|26=>247|27=>248|46=>257|47=>226|48=>227|49=>258|50=>259|57=>262|n=>n,fun|22=>172|24=>9|25=>162|3=>3|39=>188|0=>0|53=>224|55=>101|4=>4|46=>262|45=>261|50=>266|5=>5|9=>9|66=>283|70=>287|76=>303|77=>304|n=>n,fun|n=>n⟩
theorem Tryz.sortFS:Go.Proofs.SlLaysF.n6 Tryz.prog Tryz.sortFS_ren:={
 mixed:=by kernel_rfl
 f6:=⟨Tryz.f185.name,by decide,Tryz.func185.trans (congrArg some (by kernel_rfl))⟩
 f14:=⟨Tryz.f214.name,by decide,Tryz.func214.trans (congrArg some (by kernel_rfl))⟩
 f15:=Tryz.func179.trans (congrArg some (by kernel_rfl))
 f20:=⟨Tryz.f241.name,by decide,Tryz.func241.trans (congrArg some (by kernel_rfl))⟩
 f21:=⟨Tryz.f242.name,by decide,Tryz.func242.trans (congrArg some (by kernel_rfl))⟩
 f22:=⟨Tryz.f243.name,by decide,Tryz.func243.trans (congrArg some (by kernel_rfl))⟩
 f23:=⟨Tryz.f244.name,by decide,Tryz.func244.trans (congrArg some (by kernel_rfl))⟩
 f24:=⟨Tryz.f245.name,by decide,Tryz.func245.trans (congrArg some (by kernel_rfl))⟩
 f25:=⟨Tryz.f246.name,by decide,Tryz.func246.trans (congrArg some (by kernel_rfl))⟩
 f26:=⟨Tryz.f247.name,by decide,Tryz.func247.trans (congrArg some (by kernel_rfl))⟩
 f27:=⟨Tryz.f248.name,by decide,Tryz.func248.trans (congrArg some (by kernel_rfl))⟩
 f28:=Tryz.func201.trans (congrArg some (by kernel_rfl))
 f29:=Tryz.func202.trans (congrArg some (by kernel_rfl))
 f46:=⟨Tryz.f257.name,by decide,Tryz.func257.trans (congrArg some (by kernel_rfl))⟩
 f47:=Tryz.func226.trans (congrArg some (by kernel_rfl))
 f48:=Tryz.func227.trans (congrArg some (by kernel_rfl))
 f49:=⟨Tryz.f258.name,by decide,Tryz.func258.trans (congrArg some (by kernel_rfl))⟩
 f50:=⟨Tryz.f259.name,by decide,Tryz.func259.trans (congrArg some (by kernel_rfl))⟩
 f57:=⟨Tryz.f262.name,by decide,Tryz.func262.trans (congrArg some (by kernel_rfl))⟩
 t0:=Tryz.underlying0
 a0:=Tryz.isAgg0
 z0:=Tryz.sizeOf0
 v0:=Tryz.zeroValue0
 t3:=Tryz.underlying3
 a3:=Tryz.isAgg3
 z3:=Tryz.sizeOf3
 v3:=Tryz.zeroValue3
 t4:=Tryz.underlying4
 a4:=Tryz.isAgg4
 z4:=Tryz.sizeOf4
 v4:=Tryz.zeroValue4
 t5:=Tryz.underlying5
 a5:=Tryz.isAgg5
 z5:=Tryz.sizeOf5
 v5:=Tryz.zeroValue5
 t9:=Tryz.underlying9
 a9:=Tryz.isAgg9
 z9:=Tryz.sizeOf9
 v9:=Tryz.zeroValue9
 t22:=Tryz.underlying172
 a22:=Tryz.isAgg172
 z22:=Tryz.sizeOf172
 v22:=Tryz.zeroValue172
 a24:=Tryz.isAgg9
 z24:=Tryz.sizeOf9
 t25:=Tryz.underlying162
 a25:=Tryz.isAgg162
 z25:=Tryz.sizeOf162
 v25:=Tryz.zeroValue162
 t39:=Tryz.underlying188
 a39:=Tryz.isAgg188
 z39:=Tryz.sizeOf188
 v39:=Tryz.zeroValue188
 t45:=Tryz.underlying261
 a45:=Tryz.isAgg261
 z45:=Tryz.sizeOf261
 v45:=Tryz.zeroValue261
 t46:=Tryz.underlying262
 a46:=Tryz.isAgg262
 z46:=Tryz.sizeOf262
 v46:=Tryz.zeroValue262
 t50:=Tryz.underlying266
 a50:=Tryz.isAgg266
 z50:=Tryz.sizeOf266
 v50:=Tryz.zeroValue266
 t53:=Tryz.underlying224
 a53:=Tryz.isAgg224
 z53:=Tryz.sizeOf224
 v53:=Tryz.zeroValue224
 t55:=Tryz.underlying101
 a55:=Tryz.isAgg101
 z55:=Tryz.sizeOf101
 v55:=Tryz.zeroValue101
 t66:=Tryz.underlying283
 a66:=Tryz.isAgg283
 z66:=Tryz.sizeOf283
 v66:=Tryz.zeroValue283
 t70:=Tryz.underlying287
 a70:=Tryz.isAgg287
 z70:=Tryz.sizeOf287
 v70:=Tryz.zeroValue287
 t76:=Tryz.underlying303
 a76:=Tryz.isAgg303
 z76:=Tryz.sizeOf303
 v76:=Tryz.zeroValue303
 t77:=Tryz.underlying304
 a77:=Tryz.isAgg304
 z77:=Tryz.sizeOf304
 v77:=Tryz.zeroValue304 }
end Go.Proofs
namespace Go.Proofs.YtjfelfjobeeenaaGreat
open Go.RowKit Go.Sf Go.Shelf Go.Maps Go.Sort Go.Lib
set_option maxHeartbeats 1000000 in
theorem cmpN_any (a b:Int) (W:World):Calls Tryz.prog 85 #[.int .i64 a,.int .i64 b] W fun e w'=>e = .returned (.int .i64 (cmpI a b))∧w'=W:=by
 by_cases h1:a<b
 ·have hc:cmpI a b = -1:=by unfold cmpI;rw[if_pos h1]
  rw[hc]
  go_enter Tryz.func85,Tryz.ntmps85
  go_wp2
  go_ret
  exact⟨rfl,rfl⟩
 ·by_cases h2:b<a
  ·have hc:cmpI a b=1:=by unfold cmpI;rw[if_neg h1,if_pos h2]
   rw[hc]
   go_enter Tryz.func85,Tryz.ntmps85
   go_wp2
   go_ret
   exact⟨rfl,rfl⟩
  ·have hc:cmpI a b=0:=by unfold cmpI;rw[if_neg h1,if_neg h2]
   rw[hc]
   go_enter Tryz.func85,Tryz.ntmps85
   go_wp2
   go_ret
   exact⟨rfl,rfl⟩
theorem ltN (a b:Int):ltOf cmpI a b=decide (a<b):=by
 unfold ltOf cmpI
 by_cases h:a<b
 ·simp[h]
 ·by_cases h2:b<a <;> simp[h,h2]
theorem swoN:SWO (ltOf cmpI) where
 irrefl x:=by rw[ltN];simp
 trans x y z h1 h2:=by rw[ltN] at *;simp at *;omega
 ntrans x y z h1 h2:=by rw[ltN] at *;simp at *;omega
def cmpS (a b:List UInt8):Int:=cmpB ⟨a.toArray⟩ ⟨b.toArray⟩
theorem ltS (a b:List UInt8):ltOf cmpS a b=decide (a<b):=by
 have h:=ltI_iff ⟨⟨a.toArray⟩,0⟩ ⟨⟨b.toArray⟩,0⟩
 have e:ltI ⟨⟨a.toArray⟩,0⟩ ⟨⟨b.toArray⟩,0⟩=ltOf cmpS a b:=by
  unfold ltI ltOf ordI cmpS
  by_cases h0:cmpB ⟨a.toArray⟩ ⟨b.toArray⟩=0
  ·simp only[h0,if_true];simp[cmpI]
  ·simp only[h0,if_false]
 rw[e] at h
 cases hx:ltOf cmpS a b with
 | true=>
  rcases h.1 hx with h2|⟨_,h2⟩
  ·exact(decide_eq_true (by simpa using h2)).symm
  ·exact absurd h2 (Int.lt_irrefl 0)
 | false=>
  refine(decide_eq_false fun h2=>?_).symm
  have:=h.2 (Or.inl (by simpa using h2))
  rw[hx] at this;cases this
theorem swoS:SWO (ltOf cmpS) where
 irrefl x:=by rw[ltS];exact decide_eq_false Std.lt_irrefl
 trans x y z h1 h2:=by
  rw[ltS] at *
  simp only[decide_eq_true_eq] at *
  exact Std.lt_trans h1 h2
 ntrans x y z h1 h2:=by
  rw[ltS] at *
  simp only[decide_eq_false_iff_not] at *
  intro h
  rcases Std.lt_trichotomy x y with a|a|a
  ·exact h1 a
  ·subst a;exact h2 h
  ·rcases Std.lt_trichotomy y z with b|b|b
   ·exact h2 b
   ·subst b;exact h1 h
   ·exact Std.lt_irrefl (Std.lt_trans (Std.lt_trans h b) a)
def ikeys {V:Type} (m:List (Int × V)):List Int:=(m.map (·.1)).mergeSort fun x y=>decide (x≤y)
def bkeys {V:Type} (m:List (ByteArray × V)):List (List UInt8):=(m.map fun p=>p.1.data.toList).mergeSort leB
theorem cmpfN:(fun x y:Int=>!(ltOf cmpI) y x)=fun x y=>decide (x≤y):=by
 funext x y
 rw[ltN]
 by_cases h:y<x
 ·simp[h]
 ·simp[h];omega
theorem cmpfS:(fun x y:List UInt8=>!(ltOf cmpS) y x)=leB:=by
 funext x y
 rw[ltS]
 unfold leB
 by_cases h:y<x
 ·rw[decide_eq_true h,decide_eq_false (fun h2:x≤y=>h2 h)];rfl
 ·rw[decide_eq_false h,decide_eq_true (show x≤y from h)];rfl
theorem keysC_any (mb:Option Nat) (W:World):Calls Tryz.prog 154 #[.map mb] W fun e w'=>
  e = .returned (.func (.func 184) #[] #[.pointer (some ⟨W.heap.size,0,none⟩)])∧w'=W.alloc (.cells #[.map mb] 117):=
 callsIn_wide.1 (AnyZI.keys_in Tryz.keysC Fence.wide 5 trivial rfl mb W)
section
variable {w : World} {V : Type} {ev : V → Value}
theorem lit_keys {m:List (Int × V)} {E:List (Lit × DataW Unit)} (h:E.Perm (m.map fun p=>(Lit.int .i64 p.1,(DataW.nil:DataW Unit)))):(intKeys (.map E)).Perm (m.map (·.1)):=by
 have h1:=h.map (fun p=>(match p.1 with | .int _ x=>x|_=>0:Int))
 rw[List.map_map] at h1
 exact h1
set_option maxHeartbeats 2000000 in
set_option maxRecDepth 100000 in
theorem sortedN_any (Bm b:Nat) (m:List (Int × V)) (hBm:Bm<w.heap.size) (hm:w.cell? ⟨Bm,0,none⟩=some (.map (some b))) (hown:MapT w b (Value.int .i64) ev m) (hr:∀p∈m,(Lit.int .i64 p.1).wf=true) (hl:m.length≤1000000) :
  Calls Tryz.prog 153 #[.func (.func 184) #[] #[.pointer (some ⟨Bm,0,none⟩)],.func (.func 85) #[] #[]] w
   fun e w'=>∃v,e = .returned v∧w'.ownsRow w.heap.size 3 1 v (ikeys m).length ((ikeys m).map (Value.int .i64))∧w.grownBy w' none:=by
 obtain⟨E,howns,hE⟩:=MapT.owns (P:=Tryz.prog) (k:=3) hown (fun n=>Lit.int .i64 n) (fun p hp=>keyOf_int_mk Tryz.underlying3 (hr p hp)) (by simp[maxLen];omega)
 have hkeys:=lit_keys hE
 have hsz:Maps.size (.map E:DataW Unit)=m.length:=by
  have:=hE.length_eq
  simpa[Maps.size] using this
 have hbl:=howns.lt
 have hseq:SeqGives Fence.wide 3 Tryz.prog 184 #[.pointer (some ⟨Bm,0,none⟩)] encZ (fun ss=>ss.Perm (intKeys (.map E:DataW Unit))) (Maps.size (.map E:DataW Unit)) w:=
  AnyZI.keys_gives (ρ:=Tryz.keysC_ren) { Tryz.keysC with } Fence.wide _ trivial rfl (by omega) Bm b _ (.map E) _ hBm hm howns
 have HC:Hid (Calls Tryz.prog 143 #[.func (.func 184) #[] #[.pointer (some ⟨Bm,0,none⟩)]] w fun e w'=>∃(v:Value) (ss:List Int),e = .returned v∧ss.Perm (intKeys (.map E:DataW Unit))∧w'.ownsRow w.heap.size 3 1 v ss.length (ss.map encZ)∧(v = .slice none 0 0↔ss = [])∧RowKit.Below w.heap.size w w'):=(callsIn_wide.1 (AnyZI.collect_in (ρ:=Tryz.sortedI_ren) { Tryz.sortedI with } Fence.wide 5 trivial trivial rfl (by omega) 184 #[.pointer (some ⟨Bm,0,none⟩)] trivial (enters_of Tryz.func184 (by kernel_rfl) rfl) _ _ (by rw[hsz];simp[maxLen];omega) (by rw[hsz];omega) _ hseq))
 have eg:∀args w,(callFunc 85 args).run Tryz.prog w = .ok (.enter 85 args) w:=enters_of Tryz.func85 (by kernel_rfl) rfl
 have HK:=Lib.hid hkeys
 clear hown hE hseq hkeys howns hm
 go_enter Tryz.func153,Tryz.ntmps153
 go_wp2_with (go_at_call 143;refine HC.out.mono ?_;rintro e w1 ⟨v,ss,rfl,hp,hrow,hnil,hb⟩;have HP:=Lib.hid (And.intro hp (And.intro hrow hb));clear hp hrow hnil hb)
 obtain⟨hp,hrow,hb⟩:=HP.out
 have hpm:ss.Perm (m.map (·.1)):=hp.trans HK.out
 have hlen:ss.length≤1000000:=by rw[hpm.length_eq];simpa using hl
 have hms:(ss.mergeSort fun x y=>decide (x≤y))=ikeys m:=mergeSort_of_perm_i hpm
 have hil:(ikeys m).length=ss.length:=by rw[←hms,List.length_mergeSort]
 rcases hrow.2 with ⟨rfl,hz⟩|⟨g,cap,cur,rfl,hbase,hgb,r1,r2,r3,r4⟩
 ·have hss:ss = []:=List.eq_nil_of_length_eq_zero hz
  subst hss
  have HE:Hid (ikeys m = []):=(show _=_ from List.eq_nil_of_length_eq_zero (by rw[hil];rfl))
  have HB:=Lib.hid hb
  clear hb hp hpm hms hil hrow HP HK hlen
  go_wp2_with (go_at_call 183;refine(AnyF.slices_SortFunc_none (ρ:=Tryz.sortFI_ren) { Tryz.sortFI with } none 0 _ _).mono ?_;rintro e w2 ⟨rfl,rfl⟩)
  go_ret
  rw[HE.out]
  exact⟨_,rfl,World.ownsRow_nil _ _ _ _,below_grown HB.out⟩
 ·have hH:Holds (Value.int .i64) w1 g 0 ss.toArray:=holds_of_block_i hgb (by simpa using r4)
  have hgl:g<w1.heap.size:=(Array.getElem?_eq_some_iff.1 hgb).1
  have hS:=Any.slices_SortFunc_total (ρ:=Tryz.sortFI_ren) Tryz.sortFI (Value.int .i64) (fun _=>rfl) cmpI swoN 85 #[] g 0 cap ss.toArray w1 eg (fun mm os dk hd x y=>(cmpN_any x y _).mono fun e w' ⟨h1,h2⟩=>⟨h1,0,#[],by rw[h2,grow_empty];rfl⟩) hH hgl (by simp;omega) (fun x y h1 h2=>by rw[ltN] at h1 h2;simp at h1 h2;omega)
  rw[cmpfN] at hS
  simp only[List.size_toArray] at hS
  rw[hms] at hS
  have HS:=Lib.hid hS
  have HH:=Lib.hid (And.intro hbase (And.intro hgb (And.intro r1 (And.intro r2 (And.intro r3 (And.intro hb hil))))))
  clear hS hH hgl hb hp hpm hms hil hrow HP HK hgb r1 r2 r3 r4 hbase hlen
  go_wp2_with (go_at_call 183;refine HS.out.mono ?_;rintro e w2 ⟨rfl,n,os,rfl⟩)
  go_ret
  obtain⟨hbase,hgb,r1,r2,r3,hb,hil⟩:=HH.out
  refine⟨_,rfl,?_,?_⟩
  ·rw[hil]
   exact ownsRow_sorted_i hil hbase hgb r1 r2 r3
  ·exact grown_own (below_grown hb) (grownBy_sorted_i _) (fun k hk=>by cases hk;exact hbase)
theorem strk_perm {m:List (ByteArray × V)} {E:List (Lit × DataW Unit)} (h:E.Perm (m.map fun p=>(Lit.string p.1.data.toList,(DataW.nil:DataW Unit)))):(strKeys (.map E)).Perm (m.map fun p=>p.1.data.toList):=by
 have h1:=h.map (fun p=>strOf p.1)
 rw[List.map_map] at h1
 exact h1
set_option maxHeartbeats 2000000 in
set_option maxRecDepth 100000 in
theorem sortedB_any (Bm b:Nat) (m:List (ByteArray × V)) (hBm:Bm<w.heap.size) (hm:w.cell? ⟨Bm,0,none⟩=some (.map (some b))) (hown:MapT w b Value.string ev m) (hr:∀p∈m,p.1.size≤maxLen) (hl:m.length≤1000000) :
  Calls Tryz.prog 156 #[.func (.func 162) #[] #[.pointer (some ⟨Bm,0,none⟩)],.func (.func 89) #[] #[]] w
   fun e w'=>∃v,e = .returned v∧w'.ownsRow w.heap.size 9 1 v (bkeys m).length ((bkeys m).map encStr)∧w.grownBy w' none:=by
 obtain⟨E,howns,hE⟩:=MapT.owns (P:=Tryz.prog) (k:=9) hown (fun s=>Lit.string s.data.toList) (fun p hp=>WideMaps.keyOf_string_mk Tryz.underlying9 (hr p hp)) (by simp[maxLen];omega)
 have hkeys:=strk_perm hE
 have hsz:Maps.size (.map E:DataW Unit)=m.length:=by
  have:=hE.length_eq
  simpa[Maps.size] using this
 have hbl:=howns.lt
 have hseq:SeqGives Fence.wide 3 Tryz.prog 162 #[.pointer (some ⟨Bm,0,none⟩)] encStr (fun ss=>ss.Perm (strKeys (.map E:DataW Unit))) (Maps.size (.map E:DataW Unit)) w:=
  AnyZ.keys_gives (ρ:=Tryz.keysS_ren) { Tryz.keysS with } Fence.wide _ trivial rfl (by omega) Bm b _ (.map E) _ hBm hm howns
 have HC:Hid (Calls Tryz.prog 160 #[.func (.func 162) #[] #[.pointer (some ⟨Bm,0,none⟩)]] w fun e w'=>∃(v:Value) (ss:List (List UInt8)),e = .returned v∧ss.Perm (strKeys (.map E:DataW Unit))∧w'.ownsRow w.heap.size 9 1 v ss.length (ss.map encStr)∧(v = .slice none 0 0↔ss = [])∧RowKit.Below w.heap.size w w'):=(callsIn_wide.1 (AnyZ.collect_in (ρ:=Tryz.sortedS_ren) { Tryz.sortedS with } Fence.wide 5 trivial trivial rfl (by omega) 162 #[.pointer (some ⟨Bm,0,none⟩)] trivial (enters_of Tryz.func162 (by kernel_rfl) rfl) _ _ (by rw[hsz];simp[maxLen];omega) (by rw[hsz];omega) _ hseq))
 have eg:∀args w,(callFunc 89 args).run Tryz.prog w = .ok (.enter 89 args) w:=enters_of Tryz.func89 (by kernel_rfl) rfl
 have HK:=Lib.hid hkeys
 clear hown hE hseq hkeys howns hm
 go_enter Tryz.func156,Tryz.ntmps156
 go_wp2_with (go_at_call 160;refine HC.out.mono ?_;rintro e w1 ⟨v,ss,rfl,hp,hrow,hnil,hb⟩;have HP:=Lib.hid (And.intro hp (And.intro hrow hb));clear hp hrow hnil hb)
 obtain⟨hp,hrow,hb⟩:=HP.out
 have hpm:ss.Perm (m.map fun p=>p.1.data.toList):=hp.trans HK.out
 have hlen:ss.length≤1000000:=by rw[hpm.length_eq];simpa using hl
 have hms:ss.mergeSort leB=bkeys m:=mergeSort_of_perm hpm
 have hil:(bkeys m).length=ss.length:=by rw[←hms,List.length_mergeSort]
 rcases hrow.2 with ⟨rfl,hz⟩|⟨g,cap,cur,rfl,hbase,hgb,r1,r2,r3,r4⟩
 ·have hss:ss = []:=List.eq_nil_of_length_eq_zero hz
  subst hss
  have HE:Hid (bkeys m = []):=(show _=_ from List.eq_nil_of_length_eq_zero (by rw[hil];rfl))
  have HB:=Lib.hid hb
  clear hb hp hpm hms hil hrow HP HK hlen
  go_wp2_with (go_at_call 185;refine(AnyF.slices_SortFunc_none (ρ:=Tryz.sortFS_ren) { Tryz.sortFS with } none 0 _ _).mono ?_;rintro e w2 ⟨rfl,rfl⟩)
  go_ret
  rw[HE.out]
  exact⟨_,rfl,World.ownsRow_nil _ _ _ _,below_grown HB.out⟩
 ·have hH:Holds encStr w1 g 0 ss.toArray:=holds_of_block hgb (by simpa using r4)
  have hgl:g<w1.heap.size:=(Array.getElem?_eq_some_iff.1 hgb).1
  have hS:=Any.slices_SortFunc_total (ρ:=Tryz.sortFS_ren) Tryz.sortFS encStr (fun _=>rfl) cmpS swoS 89 #[] g 0 cap ss.toArray w1 eg (fun mm os dk hd x y=>(cmpB_any ⟨x.toArray⟩ ⟨y.toArray⟩ _).mono fun e w' ⟨h1,h2⟩=>⟨h1,0,#[],by rw[h2,grow_empty];rfl⟩) hH hgl (by simp;omega) (fun x y h1 h2=>by rw[ltS] at h1 h2;simp only[decide_eq_false_iff_not] at h1 h2;rcases Std.lt_trichotomy x y with a|a|a;exact absurd a h1;exact a;exact absurd a h2)
  rw[cmpfS] at hS
  simp only[List.size_toArray] at hS
  rw[hms] at hS
  have HS:=Lib.hid hS
  have HH:=Lib.hid (And.intro hbase (And.intro hgb (And.intro r1 (And.intro r2 (And.intro r3 (And.intro hb hil))))))
  clear hS hH hgl hb hp hpm hms hil hrow HP HK hgb r1 r2 r3 r4 hbase hlen
  go_wp2_with (go_at_call 185;refine HS.out.mono ?_;rintro e w2 ⟨rfl,n,os,rfl⟩)
  go_ret
  obtain⟨hbase,hgb,r1,r2,r3,hb,hil⟩:=HH.out
  refine⟨_,rfl,?_,?_⟩
  ·rw[hil]
   exact ownsRow_sorted hil hbase hgb r1 r2 r3
  ·exact grown_own (below_grown hb) (grownBy_sorted _) (fun k hk=>by cases hk;exact hbase)
end
section
attribute [local go_sem] Oper.semAt_some
set_option maxRecDepth 100000 in
set_option maxHeartbeats 2000000 in
theorem idKeys1H (F:Fence) (n:Nat) (h10:F.fn 186) (hro:F.round=none) (hn:1≤n) (l Bm b:Nat) (m:List (ID × NSet)) (J Jx:List ID→World→Prop)
  (hY:∀pre x W,J pre W→pre.length<m.length→YieldAt F (n-1) Tryz.prog l #[encID x] W fun e W'=>(e = .returned (.bool true)∧J (pre ++ [x]) W'∧KeepsWalks W W')∨(e = .returned (.bool false)∧Jx (pre ++ [x]) W'))
  (W:World) (hJ:AbidesFrom W.heap.size J) (hm:W.cell? ⟨Bm,0,none⟩=some (.map (some b))) (hown:MapT W b encID encSet m) (h0:J [] W) :
  CallsIn F n Tryz.prog 186 #[.func (.yield l) #[] #[],.pointer (some ⟨Bm,0,none⟩)] W fun e W'=>(∃v,e = .returned v)∧((∃xs:List ID,xs.Perm (m.map (·.1))∧J xs W')∨(∃pre:List ID,True∧Jx pre W')):=by
 have hnd:=hown.nodup
 refine callsIn_of_wp Tryz.func186 rfl h10 ?_ hro
 simp only[Tryz.ntmps186,List.size_toArray,List.length_cons,List.length_nil,Nat.reduceAdd,Nat.reduceSub,Array.replicate_succ,Array.replicate_zero,List.push_toArray,List.append_toArray,List.nil_append,List.cons_append]
 gi_wp2_with (gi_at_range;refine wpListIn_rangeT _ rfl _ _ rfl Tryz.underlying120 b m rfl hown ?_;intro w0 hit hg0 hs0)
 go_frame
 gi_loopw [3] (fun _ wr=>∃(seen:ID→Bool) (ss:List ID),IterT wr W.heap.size b encID encSet m seen∧KeysAt m seen ss∧J ss wr) (fun _ wr=>leftW wr W.heap.size b)
 case atStart=>exact⟨_,[],hit,KeysAt.start m,hJ [] W w0 none h0 hg0 (fun r e=>by cases e)⟩
 case round=>
  obtain⟨seen,ss,hit,hC,hJs⟩:=hrel
  gi_wp2_with (gi_at_next;refine wpListIn_nextT _ rfl _ rfl encID_inj W.heap.size b m seen rfl hit ?_ ?_)
  ·intro hall
   gi_wp2
   go_end0
   exact⟨⟨_,rfl⟩,.inl ⟨ss,hC.perm hnd hall,hJs⟩⟩
  ·rintro⟨kk,kv⟩ v w2 hc
   have hJ2:=hJ ss wr w2 (some W.heap.size) hJs hc.grown (fun r e=>by cases e;exact⟨Nat.le_refl _,hit.walk⟩)
   have hJ3:=hJ ss w2 (w2.alloc (.cells #[.string kk,.int .i64 kv] 54)) none hJ2 (World.grownBy_alloc _ _ _) (fun r e=>by cases e)
   have hlt:=hC.lt hnd hc.mem hc.new
   obtain⟨fn,tmps,assign,body,hy,hR⟩:=hY ss ⟨kk,kv⟩ _ hJ3 hlt
   have hen:=hc.entry
   simp only[encID] at hy hen ⊢
   have hit2:=hc.iter
   have hleft:=hit2.left
   gi_wp2
   refine hR.mono ?_
   rintro e W3 (⟨rfl,hJ4,hk3⟩|⟨rfl,hJx3⟩)
   ·have hit3:=(IterT.kept hit2 (World.grownBy_alloc w2 (.cells #[.string kk,.int .i64 kv] 54) none) (by simp) (by simp)).walks hk3
    gi_wp2
    go_roundw
    case rel=>exact⟨_,ss ++ [⟨kk,kv⟩],hit3,hC.step hc.mem hc.new,hJ4⟩
    case measure=>
     rw[hit3.left,hit.left]
     exact leftN_step hc.mem hc.new
   ·gi_wp2
    refine bodyPost_ret (results_none rfl _ _ _) rfl ?_
    exact⟨⟨_,rfl⟩,.inr ⟨_,trivial,hJx3⟩⟩
theorem idKeys_stopsH (F:Fence) (n:Nat) (h10:F.fn 186) (hro:F.round=none) (hn:1≤n) (Bm b:Nat) (m:List (ID × NSet)) (w:World) (hBm:Bm<w.heap.size) (hm:w.cell? ⟨Bm,0,none⟩=some (.map (some b))) (hown:MapT w b encID encSet m) :
  SeqStopsK F n Tryz.prog 186 #[.pointer (some ⟨Bm,0,none⟩)] (fun x:ID=>#[encID x]) KeepsWalks (fun xs=>xs.Perm (m.map (·.1))) (fun _=>True) m.length w:=fun l J Jx W hW hJ _ hY h0=>
 idKeys1H F n h10 hro hn l Bm b m J Jx hY W hJ ((hW.cell (p:=⟨Bm,0,none⟩) hBm).trans hm) (hown.below hown.lt hW) h0
theorem keysPH_any (mb:Option Nat) (W:World):Calls Tryz.prog 158 #[.map mb] W fun e w'=>
  e = .returned (.func (.func 186) #[] #[.pointer (some ⟨W.heap.size,0,none⟩)])∧w'=W.alloc (.cells #[.map mb] 120):=by
 have hmf:∀(fn:Fn) (first cap:Array Value) (w:World),(Instr.makeFunc fn first cap).run Tryz.prog w = .ok (.func fn first cap) w:=fun _ _ _ _=>rfl
 go_enter Tryz.func158,Tryz.ntmps158
 go_wp2
 go_ret
 exact⟨rfl,rfl⟩
end
def HoldRow (base:Nat) (w':World) (v:Value) (m:List (ID × NSet)) (l:List ID):Prop:=IdRow base w' v l∧l.Perm (m.map (·.1))∧InOrder l∧(v = .slice none 0 0↔l = [])
theorem idCollectH_any (Bm b:Nat) (m:List (ID × NSet)) (w:World) (hBm:Bm<w.heap.size) (hm:w.cell? ⟨Bm,0,none⟩=some (.map (some b))) (hown:MapT w b encID encSet m) (hl:m.length≤1000000) :
  Calls Tryz.prog 140 #[.func (.func 186) #[] #[.pointer (some ⟨Bm,0,none⟩)]] w fun e w'=>∃(v:Value) (ss:List ID),e = .returned v∧ss.Perm (m.map (·.1))∧w'.ownsRow w.heap.size 54 2 v ss.length (ss.flatMap idCells)∧(v = .slice none 0 0↔ss = [])∧w.grownBy w' none:=by
 have h:=idCollect Fence.wide 5 trivial trivial rfl (by omega) 186 #[.pointer (some ⟨Bm,0,none⟩)] trivial (enters_of Tryz.func186 (by kernel_rfl) rfl)
  (fun xs=>xs.Perm (m.map (·.1))) m.length hl w (idKeys_stopsH Fence.wide _ trivial rfl (by omega) Bm b m w hBm hm hown)
 exact(callsIn_wide.1 h).mono fun e w' ⟨v,ss,h1,h2,h3,h4,h5⟩=>⟨v,ss,h1,h2,h3,h4,below_grown h5⟩
set_option maxHeartbeats 2000000 in
set_option maxRecDepth 100000 in
theorem sortedFH_any (Bm b:Nat) (m:List (ID × NSet)) (w:World) (hBm:Bm<w.heap.size) (hm:w.cell? ⟨Bm,0,none⟩=some (.map (some b))) (hown:MapT w b encID encSet m) (hl:m.length≤1000000) :
  Calls Tryz.prog 78 #[.func (.func 186) #[] #[.pointer (some ⟨Bm,0,none⟩)],.func (.func 80) #[] #[]] w
   fun e w'=>∃v l,e = .returned v∧HoldRow w.heap.size w' v m l∧w.grownBy w' none:=by
 have HC:=Lib.hid (idCollectH_any Bm b m w hBm hm hown hl)
 have hnd:=hown.nodup
 clear hm hown
 go_enter Tryz.func78,Tryz.ntmps78
 go_wp2_with (go_at_call 140;refine HC.out.mono ?_;rintro e w1 ⟨v,ss,rfl,hp,hrow,hnil,hg⟩;have HP:=Lib.hid (And.intro hp (And.intro hrow (And.intro hnil hg)));clear hp hrow hnil hg)
 obtain⟨hp,hrow,hnil,hg⟩:=HP.out
 have hlen:ss.length≤1000000:=by rw[hp.length_eq];simpa using hl
 rcases hrow.2 with ⟨rfl,hz⟩|⟨g,cap,cur,rfl,hbase,hgb,r1,r2,r3,r4⟩
 ·have hss:ss = []:=List.eq_nil_of_length_eq_zero hz
  subst hss
  go_wp2_with (go_at_call 141;refine(sortF_none none 0 _ _).mono ?_;rintro e w2 ⟨rfl,rfl⟩)
  go_ret
  exact⟨_,[],rfl,⟨hrow,hp,fun i j h1 h2=>by simp at h2,by simp⟩,hg⟩
 ·have HS:=Lib.hid (sortF_any g cap ss w1 cur hgb r4 hlen)
  have HH:=Lib.hid (And.intro hbase (And.intro hgb (And.intro r1 (And.intro r2 (And.intro r3 (And.intro hnil (And.intro hg hp)))))))
  clear hbase hgb r1 r2 r3 r4 hnil hg hp hrow HP
  go_wp2_with (go_at_call 141;refine HS.out.mono ?_;rintro e w2 ⟨rfl,l',n,os,hp2,ho2,rfl⟩;have HZ:=Lib.hid (And.intro hp2 ho2);clear hp2 ho2)
  go_ret
  obtain⟨hbase,hgb,r1,r2,r3,hnil,hg,hp⟩:=HH.out
  obtain⟨hp2,ho2⟩:=HZ.out
  refine⟨_,l',rfl,⟨?_,hp2.trans hp,ho2,?_⟩,grown_own hg (grownBy_sortedV _) (fun k hk=>by cases hk;exact hbase)⟩
  ·unfold IdRow
   rw[hp2.length_eq]
   exact ownsRow_sortedV (by rw[flat_len,hp2.length_eq]) hbase hgb r1 r2 r3
  ·constructor
   ·intro h;cases h
   ·intro h;subst h
    have:ss = []:=hp2.symm.eq_nil
    have:=hnil.2 this
    cases this
end Go.Proofs.YtjfelfjobeeenaaGreat
