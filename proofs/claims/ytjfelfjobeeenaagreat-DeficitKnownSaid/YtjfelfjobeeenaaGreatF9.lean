/- DERIVED: THE SHELF's CONTRACTS AT THIS DUMP, IN PLAIN WORDS (tools/lay-plain.mjs out of 'YtjfelfjobeeenaaGreatLayX.lean', which tools/lay-shelf.mjs wrote): THE SAME DECLARATIONS UNDER THE SAME NAMES: 'import', 'namespace', 'open', 'def', 'theorem' AND NOTHING ELSE: no command of the shelf's: FOR A HAND-IN. Each laying: the table of numbers ('.._ren') and one theorem, a field a fact of the dump's own or the kernel's comparison; each contract: ONE APPLICATION. What Holders answers. Conditions: a table that lies in memory, nodes within range. What Holders answers. Conditions: a table that lies in memory, nodes within range. What Current answers. Conditions: a table that lies in memory; its keys are strings of the machine, not too many. -/
import Derived.Shelf.SlIterI.Nil
import Derived.Shelf.SlIter.Nil
import Derived.Shelf.SortM.Plain
import Derived.Shelf.SortM.SortNone
import Derived.Ground.GgzProg
import Derived.Ground.SlgmProg
import Derived.Shelf.SlGeneric
import Derived.Test.YtjfelfjobeeenaaGreatProg
import Derived.Test.YtjfelfjobeeenaaGreatF8
import Derived.WalkKit
import Derived.StringKeys
set_option linter.unusedSimpArgs false
set_option linter.unusedVariables false
namespace Go.Proofs
open Go.Shelf
def Tryz.keysI_ren:Go.Shelf.Ren:=⟨fun|7=>82|10=>145|n=>n,fun|23=>127|26=>3|3=>156|28=>154|0=>0|27=>153|33=>177|4=>4|n=>n,fun|n=>n⟩
theorem Tryz.keysI:Go.Proofs.SlLaysZI.n7 Tryz.prog Tryz.keysI_ren:={
 mixed:=by kernel_rfl
 f7:=⟨Tryz.f82.name,by decide,Tryz.func82.trans (congrArg some (by kernel_rfl))⟩
 f10:=⟨Tryz.f145.name,by decide,Tryz.func145.trans (congrArg some (by kernel_rfl))⟩
 t0:=Tryz.underlying0
 a0:=Tryz.isAgg0
 z0:=Tryz.sizeOf0
 v0:=Tryz.zeroValue0
 t4:=Tryz.underlying4
 a4:=Tryz.isAgg4
 z4:=Tryz.sizeOf4
 v4:=Tryz.zeroValue4
 t23:=Tryz.underlying127
 a23:=Tryz.isAgg127
 z23:=Tryz.sizeOf127
 v23:=Tryz.zeroValue127
 t26:=Tryz.underlying3
 a26:=Tryz.isAgg3
 z26:=Tryz.sizeOf3
 v26:=Tryz.zeroValue3
 t27:=Tryz.underlying153
 a27:=Tryz.isAgg153
 z27:=Tryz.sizeOf153
 v27:=Tryz.zeroValue153
 t28:=Tryz.underlying154
 a28:=Tryz.isAgg154
 z28:=Tryz.sizeOf154
 v28:=Tryz.zeroValue154
 t33:=Tryz.underlying177
 a33:=Tryz.isAgg177
 z33:=Tryz.sizeOf177
 v33:=Tryz.zeroValue177 }
def Tryz.sortedI_ren:Go.Shelf.Ren:=⟨fun|6=>81|8=>143|9=>144|11=>180|13=>179|12=>181|23=>201|24=>202|14=>203|15=>204|16=>205|17=>206|18=>207|19=>208|20=>209|21=>210|22=>211|25=>230|26=>226|27=>227|28=>231|29=>232|30=>155|31=>253|n=>n,fun|26=>3|28=>154|24=>69|0=>0|3=>3|37=>188|48=>224|50=>101|4=>4|40=>262|39=>261|45=>266|5=>5|9=>9|51=>283|55=>287|57=>303|58=>304|33=>177|n=>n,fun|n=>n⟩
theorem Tryz.sortedI:Go.Proofs.SlLaysZI.n6 Tryz.prog Tryz.sortedI_ren:={
 mixed:=by kernel_rfl
 f6:=⟨Tryz.f81.name,by decide,Tryz.func81.trans (congrArg some (by kernel_rfl))⟩
 f8:=⟨Tryz.f143.name,by decide,Tryz.func143.trans (congrArg some (by kernel_rfl))⟩
 f11:=⟨Tryz.f180.name,by decide,Tryz.func180.trans (congrArg some (by kernel_rfl))⟩
 t0:=Tryz.underlying0
 a0:=Tryz.isAgg0
 z0:=Tryz.sizeOf0
 v0:=Tryz.zeroValue0
 t24:=Tryz.underlying69
 a24:=Tryz.isAgg69
 z24:=Tryz.sizeOf69
 v24:=Tryz.zeroValue69
 t26:=Tryz.underlying3
 a26:=Tryz.isAgg3
 z26:=Tryz.sizeOf3
 v26:=Tryz.zeroValue3
 t28:=Tryz.underlying154
 a28:=Tryz.isAgg154
 z28:=Tryz.sizeOf154
 v28:=Tryz.zeroValue154
 i26:=by kernel_rfl }
def Tryz.sortI_ren:Go.Shelf.Ren:=⟨fun|5=>144|8=>179|7=>181|19=>201|20=>202|10=>203|11=>204|12=>205|13=>206|14=>207|15=>208|16=>209|17=>210|18=>211|30=>230|31=>226|32=>227|33=>231|34=>232|35=>155|40=>253|n=>n,fun|23=>69|25=>3|3=>3|32=>188|22=>69|0=>0|44=>224|46=>101|4=>4|36=>262|35=>261|41=>266|5=>5|9=>9|53=>283|57=>287|63=>303|64=>304|n=>n,fun|n=>n⟩
theorem Tryz.sortI:Go.Proofs.SlLaysM.n5 Tryz.prog Tryz.sortI_ren:={
 mixed:=by kernel_rfl
 f5:=⟨Tryz.f144.name,by decide,Tryz.func144.trans (congrArg some (by kernel_rfl))⟩
 f7:=⟨Tryz.f181.name,by decide,Tryz.func181.trans (congrArg some (by kernel_rfl))⟩
 f8:=Tryz.func179.trans (congrArg some (by kernel_rfl))
 f10:=⟨Tryz.f203.name,by decide,Tryz.func203.trans (congrArg some (by kernel_rfl))⟩
 f11:=⟨Tryz.f204.name,by decide,Tryz.func204.trans (congrArg some (by kernel_rfl))⟩
 f12:=⟨Tryz.f205.name,by decide,Tryz.func205.trans (congrArg some (by kernel_rfl))⟩
 f13:=⟨Tryz.f206.name,by decide,Tryz.func206.trans (congrArg some (by kernel_rfl))⟩
 f14:=⟨Tryz.f207.name,by decide,Tryz.func207.trans (congrArg some (by kernel_rfl))⟩
 f15:=⟨Tryz.f208.name,by decide,Tryz.func208.trans (congrArg some (by kernel_rfl))⟩
 f16:=⟨Tryz.f209.name,by decide,Tryz.func209.trans (congrArg some (by kernel_rfl))⟩
 f17:=⟨Tryz.f210.name,by decide,Tryz.func210.trans (congrArg some (by kernel_rfl))⟩
 f18:=⟨Tryz.f211.name,by decide,Tryz.func211.trans (congrArg some (by kernel_rfl))⟩
 f19:=Tryz.func201.trans (congrArg some (by kernel_rfl))
 f20:=Tryz.func202.trans (congrArg some (by kernel_rfl))
 f30:=⟨Tryz.f230.name,by decide,Tryz.func230.trans (congrArg some (by kernel_rfl))⟩
 f31:=Tryz.func226.trans (congrArg some (by kernel_rfl))
 f32:=Tryz.func227.trans (congrArg some (by kernel_rfl))
 f33:=⟨Tryz.f231.name,by decide,Tryz.func231.trans (congrArg some (by kernel_rfl))⟩
 f34:=⟨Tryz.f232.name,by decide,Tryz.func232.trans (congrArg some (by kernel_rfl))⟩
 f35:=⟨Tryz.f155.name,by decide,Tryz.func155.trans (congrArg some (by kernel_rfl))⟩
 f40:=⟨Tryz.f253.name,by decide,Tryz.func253.trans (congrArg some (by kernel_rfl))⟩
 t0:=Tryz.underlying0
 a0:=Tryz.isAgg0
 z0:=Tryz.sizeOf0
 v0:=Tryz.zeroValue0
 t3:=Tryz.underlying3
 a3:=Tryz.isAgg3
 z3:=Tryz.sizeOf3
 v3:=Tryz.zeroValue3
 t4:=Tryz.underlying4
 a4:=Tryz.isAgg4
 z4:=Tryz.sizeOf4
 v4:=Tryz.zeroValue4
 t5:=Tryz.underlying5
 a5:=Tryz.isAgg5
 z5:=Tryz.sizeOf5
 v5:=Tryz.zeroValue5
 t9:=Tryz.underlying9
 a9:=Tryz.isAgg9
 z9:=Tryz.sizeOf9
 v9:=Tryz.zeroValue9
 t22:=Tryz.underlying69
 a22:=Tryz.isAgg69
 z22:=Tryz.sizeOf69
 v22:=Tryz.zeroValue69
 t23:=Tryz.underlying69
 a23:=Tryz.isAgg69
 z23:=Tryz.sizeOf69
 v23:=Tryz.zeroValue69
 t25:=Tryz.underlying3
 a25:=Tryz.isAgg3
 z25:=Tryz.sizeOf3
 v25:=Tryz.zeroValue3
 t32:=Tryz.underlying188
 a32:=Tryz.isAgg188
 z32:=Tryz.sizeOf188
 v32:=Tryz.zeroValue188
 t35:=Tryz.underlying261
 a35:=Tryz.isAgg261
 z35:=Tryz.sizeOf261
 v35:=Tryz.zeroValue261
 t36:=Tryz.underlying262
 a36:=Tryz.isAgg262
 z36:=Tryz.sizeOf262
 v36:=Tryz.zeroValue262
 t41:=Tryz.underlying266
 a41:=Tryz.isAgg266
 z41:=Tryz.sizeOf266
 v41:=Tryz.zeroValue266
 t44:=Tryz.underlying224
 a44:=Tryz.isAgg224
 z44:=Tryz.sizeOf224
 v44:=Tryz.zeroValue224
 t46:=Tryz.underlying101
 a46:=Tryz.isAgg101
 z46:=Tryz.sizeOf101
 v46:=Tryz.zeroValue101
 t53:=Tryz.underlying283
 a53:=Tryz.isAgg283
 z53:=Tryz.sizeOf283
 v53:=Tryz.zeroValue283
 t57:=Tryz.underlying287
 a57:=Tryz.isAgg287
 z57:=Tryz.sizeOf287
 v57:=Tryz.zeroValue287
 t63:=Tryz.underlying303
 a63:=Tryz.isAgg303
 z63:=Tryz.sizeOf303
 v63:=Tryz.zeroValue303
 t64:=Tryz.underlying304
 a64:=Tryz.isAgg304
 z64:=Tryz.sizeOf304
 v64:=Tryz.zeroValue304 }
def Tryz.keysS_ren:Go.Shelf.Ren:=⟨fun|7=>102|10=>162|n=>n,fun|23=>118|26=>9|3=>151|28=>175|0=>0|27=>174|33=>228|4=>4|n=>n,fun|n=>n⟩
theorem Tryz.keysS:Go.Proofs.SlLaysZ.n7 Tryz.prog Tryz.keysS_ren:={
 mixed:=by kernel_rfl
 f7:=⟨Tryz.f102.name,by decide,Tryz.func102.trans (congrArg some (by kernel_rfl))⟩
 f10:=⟨Tryz.f162.name,by decide,Tryz.func162.trans (congrArg some (by kernel_rfl))⟩
 t0:=Tryz.underlying0
 a0:=Tryz.isAgg0
 z0:=Tryz.sizeOf0
 v0:=Tryz.zeroValue0
 t4:=Tryz.underlying4
 a4:=Tryz.isAgg4
 z4:=Tryz.sizeOf4
 v4:=Tryz.zeroValue4
 t23:=Tryz.underlying118
 a23:=Tryz.isAgg118
 z23:=Tryz.sizeOf118
 v23:=Tryz.zeroValue118
 t26:=Tryz.underlying9
 a26:=Tryz.isAgg9
 z26:=Tryz.sizeOf9
 v26:=Tryz.zeroValue9
 t27:=Tryz.underlying174
 a27:=Tryz.isAgg174
 z27:=Tryz.sizeOf174
 v27:=Tryz.zeroValue174
 t28:=Tryz.underlying175
 a28:=Tryz.isAgg175
 z28:=Tryz.sizeOf175
 v28:=Tryz.zeroValue175
 t33:=Tryz.underlying228
 a33:=Tryz.isAgg228
 z33:=Tryz.sizeOf228
 v33:=Tryz.zeroValue228 }
def Tryz.sortedS_ren:Go.Shelf.Ren:=⟨fun|6=>101|8=>160|9=>161|11=>187|13=>179|12=>188|23=>201|24=>202|14=>215|15=>216|16=>217|17=>218|18=>219|19=>220|20=>221|21=>222|22=>223|25=>249|26=>226|27=>227|28=>250|29=>251|30=>157|31=>260|n=>n,fun|26=>9|28=>175|24=>172|0=>0|3=>3|37=>188|48=>224|50=>101|4=>4|40=>262|39=>261|45=>266|5=>5|9=>9|51=>283|55=>287|57=>303|58=>304|33=>228|n=>n,fun|n=>n⟩
theorem Tryz.sortedS:Go.Proofs.SlLaysZ.n6 Tryz.prog Tryz.sortedS_ren:={
 mixed:=by kernel_rfl
 f6:=⟨Tryz.f101.name,by decide,Tryz.func101.trans (congrArg some (by kernel_rfl))⟩
 f8:=⟨Tryz.f160.name,by decide,Tryz.func160.trans (congrArg some (by kernel_rfl))⟩
 f11:=⟨Tryz.f187.name,by decide,Tryz.func187.trans (congrArg some (by kernel_rfl))⟩
 t0:=Tryz.underlying0
 a0:=Tryz.isAgg0
 z0:=Tryz.sizeOf0
 v0:=Tryz.zeroValue0
 t24:=Tryz.underlying172
 a24:=Tryz.isAgg172
 z24:=Tryz.sizeOf172
 v24:=Tryz.zeroValue172
 t26:=Tryz.underlying9
 a26:=Tryz.isAgg9
 z26:=Tryz.sizeOf9
 v26:=Tryz.zeroValue9
 t28:=Tryz.underlying175
 a28:=Tryz.isAgg175
 z28:=Tryz.sizeOf175
 v28:=Tryz.zeroValue175
 i26:=by kernel_rfl }
def Tryz.sortS_ren:Go.Shelf.Ren:=⟨fun|6=>161|8=>179|9=>188|19=>201|20=>202|21=>215|22=>216|23=>217|24=>218|25=>219|26=>220|27=>221|28=>222|29=>223|36=>249|31=>226|32=>227|37=>250|38=>251|39=>157|41=>260|n=>n,fun|27=>172|29=>9|3=>3|32=>188|26=>172|0=>0|44=>224|46=>101|4=>4|36=>262|35=>261|41=>266|5=>5|9=>9|53=>283|57=>287|63=>303|64=>304|n=>n,fun|n=>n⟩
theorem Tryz.sortS:Go.Proofs.SlLaysM.n6 Tryz.prog Tryz.sortS_ren:={
 mixed:=by kernel_rfl
 f6:=⟨Tryz.f161.name,by decide,Tryz.func161.trans (congrArg some (by kernel_rfl))⟩
 f8:=Tryz.func179.trans (congrArg some (by kernel_rfl))
 f9:=⟨Tryz.f188.name,by decide,Tryz.func188.trans (congrArg some (by kernel_rfl))⟩
 f19:=Tryz.func201.trans (congrArg some (by kernel_rfl))
 f20:=Tryz.func202.trans (congrArg some (by kernel_rfl))
 f21:=⟨Tryz.f215.name,by decide,Tryz.func215.trans (congrArg some (by kernel_rfl))⟩
 f22:=⟨Tryz.f216.name,by decide,Tryz.func216.trans (congrArg some (by kernel_rfl))⟩
 f23:=⟨Tryz.f217.name,by decide,Tryz.func217.trans (congrArg some (by kernel_rfl))⟩
 f24:=⟨Tryz.f218.name,by decide,Tryz.func218.trans (congrArg some (by kernel_rfl))⟩
 f25:=⟨Tryz.f219.name,by decide,Tryz.func219.trans (congrArg some (by kernel_rfl))⟩
 f26:=⟨Tryz.f220.name,by decide,Tryz.func220.trans (congrArg some (by kernel_rfl))⟩
 f27:=⟨Tryz.f221.name,by decide,Tryz.func221.trans (congrArg some (by kernel_rfl))⟩
 f28:=⟨Tryz.f222.name,by decide,Tryz.func222.trans (congrArg some (by kernel_rfl))⟩
 f29:=⟨Tryz.f223.name,by decide,Tryz.func223.trans (congrArg some (by kernel_rfl))⟩
 f31:=Tryz.func226.trans (congrArg some (by kernel_rfl))
 f32:=Tryz.func227.trans (congrArg some (by kernel_rfl))
 f36:=⟨Tryz.f249.name,by decide,Tryz.func249.trans (congrArg some (by kernel_rfl))⟩
 f37:=⟨Tryz.f250.name,by decide,Tryz.func250.trans (congrArg some (by kernel_rfl))⟩
 f38:=⟨Tryz.f251.name,by decide,Tryz.func251.trans (congrArg some (by kernel_rfl))⟩
 f39:=⟨Tryz.f157.name,by decide,Tryz.func157.trans (congrArg some (by kernel_rfl))⟩
 f41:=⟨Tryz.f260.name,by decide,Tryz.func260.trans (congrArg some (by kernel_rfl))⟩
 t0:=Tryz.underlying0
 a0:=Tryz.isAgg0
 z0:=Tryz.sizeOf0
 v0:=Tryz.zeroValue0
 t3:=Tryz.underlying3
 a3:=Tryz.isAgg3
 z3:=Tryz.sizeOf3
 v3:=Tryz.zeroValue3
 t4:=Tryz.underlying4
 a4:=Tryz.isAgg4
 z4:=Tryz.sizeOf4
 v4:=Tryz.zeroValue4
 t5:=Tryz.underlying5
 a5:=Tryz.isAgg5
 z5:=Tryz.sizeOf5
 v5:=Tryz.zeroValue5
 t9:=Tryz.underlying9
 a9:=Tryz.isAgg9
 z9:=Tryz.sizeOf9
 v9:=Tryz.zeroValue9
 t26:=Tryz.underlying172
 a26:=Tryz.isAgg172
 z26:=Tryz.sizeOf172
 v26:=Tryz.zeroValue172
 t27:=Tryz.underlying172
 a27:=Tryz.isAgg172
 z27:=Tryz.sizeOf172
 v27:=Tryz.zeroValue172
 t29:=Tryz.underlying9
 a29:=Tryz.isAgg9
 z29:=Tryz.sizeOf9
 v29:=Tryz.zeroValue9
 t32:=Tryz.underlying188
 a32:=Tryz.isAgg188
 z32:=Tryz.sizeOf188
 v32:=Tryz.zeroValue188
 t35:=Tryz.underlying261
 a35:=Tryz.isAgg261
 z35:=Tryz.sizeOf261
 v35:=Tryz.zeroValue261
 t36:=Tryz.underlying262
 a36:=Tryz.isAgg262
 z36:=Tryz.sizeOf262
 v36:=Tryz.zeroValue262
 t41:=Tryz.underlying266
 a41:=Tryz.isAgg266
 z41:=Tryz.sizeOf266
 v41:=Tryz.zeroValue266
 t44:=Tryz.underlying224
 a44:=Tryz.isAgg224
 z44:=Tryz.sizeOf224
 v44:=Tryz.zeroValue224
 t46:=Tryz.underlying101
 a46:=Tryz.isAgg101
 z46:=Tryz.sizeOf101
 v46:=Tryz.zeroValue101
 t53:=Tryz.underlying283
 a53:=Tryz.isAgg283
 z53:=Tryz.sizeOf283
 v53:=Tryz.zeroValue283
 t57:=Tryz.underlying287
 a57:=Tryz.isAgg287
 z57:=Tryz.sizeOf287
 v57:=Tryz.zeroValue287
 t63:=Tryz.underlying303
 a63:=Tryz.isAgg303
 z63:=Tryz.sizeOf303
 v63:=Tryz.zeroValue303
 t64:=Tryz.underlying304
 a64:=Tryz.isAgg304
 z64:=Tryz.sizeOf304
 v64:=Tryz.zeroValue304 }
end Go.Proofs
namespace Go.Proofs.YtjfelfjobeeenaaGreat
open Go.RowKit Go.Sf Go.Shelf Go.Maps Go.Sort
theorem sortsI (m:Nat):AnyZI.SortsIn Tryz.prog Tryz.sortedI_ren Fence.wide m:=
 ⟨fun blk off cap ss W hH hblk hsz=>callsIn_wide.2 (AnyM.slices_Sort_int Tryz.sortI blk off cap ss W hH hblk hsz),
 fun p cap W=>callsIn_wide.2 (AnyM.slices_Sort_int_none Tryz.sortI p cap W)⟩
theorem below_grown {w w':World} (h:Below w.heap.size w w'):w.grownBy w' none:=⟨h.os,h.tape,h.output,h.size,fun k hk _=>h.block k hk⟩
theorem keysI_any (mb:Option Nat) (W:World):Calls Tryz.prog 82 #[.map mb] W fun e w'=>
  e = .returned (.func (.func 145) #[] #[.pointer (some ⟨W.heap.size,0,none⟩)])∧w'=W.alloc (.cells #[.map mb] 127):=
 callsIn_wide.1 (AnyZI.keys_in Tryz.keysI Fence.wide 5 trivial rfl mb W)
theorem intKeys_perm {l:List Int} {E:List (Lit × DataW Unit)} (h:E.Perm (l.map fun n=>(Lit.int .i64 n,(DataW.nil:DataW Unit)))):(intKeys (.map E)).Perm l:=by
 have h1:=h.map (fun p=>(match p.1 with | .int _ x=>x|_=>0:Int))
 have h2:(l.map fun n=>(Lit.int .i64 n,(DataW.nil:DataW Unit))).map (fun p=>(match p.1 with | .int _ x=>x|_=>0:Int))=l:=by
  rw[List.map_map];simp[Function.comp_def]
 rw[h2] at h1
 exact h1
def Ints (w w':World) (v:Value) (l:List Int):Prop:=w'.ownsRow w.heap.size 3 1 v l.length (l.map (Value.int .i64))∧(v = .slice none 0 0↔l = [])∧w.grownBy w' none
theorem sortedI_any {W:World} (s:NSet) (h:SetT W s) (hr:∀n∈s.mem,(Lit.int .i64 n).wf=true) (hl:s.mem.length≤1000000) (Bm:Nat) (hBm:Bm<W.heap.size) (hm:W.cell? ⟨Bm,0,none⟩=some (.map (some s.blk))) :
  Calls Tryz.prog 81 #[.func (.func 145) #[] #[.pointer (some ⟨Bm,0,none⟩)]] W
   fun e w'=>∃v,e = .returned v∧Ints W w' v (s.mem.mergeSort fun x y=>decide (x≤y)):=by
 obtain⟨E,hown,hE⟩:=MapT.owns (P:=Tryz.prog) (k:=3) h (fun n=>Lit.int .i64 n) (fun p hp=>by
  obtain⟨n,hn,rfl⟩:=List.mem_map.1 hp
  exact keyOf_int_mk Tryz.underlying3 (hr n hn)) (by simp[maxLen];omega)
 have hE':E.Perm (s.mem.map fun n=>(Lit.int .i64 n,(DataW.nil:DataW Unit))):=by
  rw[List.map_map] at hE;exact hE
 have hkeys:=intKeys_perm hE'
 have hsz:Maps.size (.map E:DataW Unit)=s.mem.length:=by
  have:=hE'.length_eq
  simpa[Maps.size] using this
 have hbl:=hown.lt
 have hseq:SeqGives Fence.wide 2 Tryz.prog 145 #[.pointer (some ⟨Bm,0,none⟩)] encZ (fun ss=>ss.Perm (intKeys (.map E:DataW Unit))) (Maps.size (.map E:DataW Unit)) W:=
  AnyZI.keys_gives (ρ:=Tryz.keysI_ren) { Tryz.keysI with } Fence.wide _ trivial rfl (by omega) Bm s.blk _ (.map E) _ hBm hm hown
 have cS:=AnyZI.sorted_in Tryz.sortedI Fence.wide 5 trivial trivial trivial trivial rfl (by omega) (sortsI _) (enters_of Tryz.func144 (by kernel_rfl) rfl) 145 #[.pointer (some ⟨Bm,0,none⟩)] trivial (enters_of Tryz.func145 (by kernel_rfl) rfl) _ _ (by rw[hsz];simp[maxLen];omega) (by rw[hsz];omega) _ hseq
 refine(callsIn_wide.1 cS).mono ?_
 rintro e w' ⟨v,ss,rfl,hS,hrow,hnil,hb⟩
 have hp:ss.Perm s.mem:=hS.trans hkeys
 have hm:(ss.mergeSort fun x y=>decide (x≤y))=(s.mem.mergeSort fun x y=>decide (x≤y)):=mergeSort_of_perm_i hp
 refine⟨v,rfl,?_,?_,below_grown hb⟩
 ·have h1:ss.length=(s.mem.mergeSort fun x y=>decide (x≤y)).length:=by rw[←hm,List.length_mergeSort]
  rw[h1,hm] at hrow
  exact hrow
 ·rw[hnil,←hm]
  constructor
  ·intro h0;rw[h0];simp
  ·intro h0
   have:=congrArg List.length h0
   rw[List.length_mergeSort] at this
   exact List.eq_nil_of_length_eq_zero (by simpa using this)
theorem sortedI_nil (W:World) (Bm:Nat) (hBm:Bm<W.heap.size) (hm:W.cell? ⟨Bm,0,none⟩=some (.map none)) :
  Calls Tryz.prog 81 #[.func (.func 145) #[] #[.pointer (some ⟨Bm,0,none⟩)]] W fun e w'=>∃v,e = .returned v∧Ints W w' v []:=by
 have hseq:SeqGives Fence.wide 2 Tryz.prog 145 #[.pointer (some ⟨Bm,0,none⟩)] encZ (fun ss:List Int=>ss = []) 0 W:=
  AnyZI.keys_gives_nil (ρ:=Tryz.keysI_ren) { Tryz.keysI with } Fence.wide _ trivial rfl Bm _ hBm hm
 have cS:=AnyZI.sorted_in Tryz.sortedI Fence.wide 5 trivial trivial trivial trivial rfl (by omega) (sortsI _) (enters_of Tryz.func144 (by kernel_rfl) rfl) 145 #[.pointer (some ⟨Bm,0,none⟩)] trivial (enters_of Tryz.func145 (by kernel_rfl) rfl) _ 0 (Nat.zero_le _) (by omega) _ hseq
 refine(callsIn_wide.1 cS).mono ?_
 rintro e w' ⟨v,ss,rfl,rfl,hrow,hnil,hb⟩
 simp only[List.mergeSort_nil] at hrow
 exact⟨v,rfl,hrow,hnil,below_grown hb⟩
def holdL (T:Tab) (i:ID):List Int:=(memH T.holds i).mergeSort fun x y=>decide (x≤y)
def Fits (l:List Int):Prop:=(∀n∈l,(Lit.int .i64 n).wf=true)∧l.length≤1000000
theorem ints_up {w0 w w':World} {v:Value} {l:List Int} (h:Ints w w' v l) (hg:w0.grownBy w none):Ints w0 w' v l:=
 ⟨⟨h.1.1,h.1.2.imp id fun ⟨g,cap,cur,hv,hb,rest⟩=>⟨g,cap,cur,hv,Nat.le_trans hg.size hb,rest⟩⟩,h.2.1,grown_trans hg h.2.2⟩
section
variable {w : World} {tb : Nat} {T : Tab}
set_option maxHeartbeats 4000000 in
set_option maxRecDepth 100000 in
theorem holders_any (h:TRep w tb T) (i:ID) (hf:Fits (memH T.holds i)) :
  Calls Tryz.prog 37 #[.pointer (some ⟨tb,0,none⟩),encID i] w fun e w'=>∃v,e = .returned v∧Ints w w' v (holdL T i):=by
 obtain⟨k,n⟩:=i
 have c7:=h.c7
 have hh:=h.holds
 have htb:=h.tlt
 simp only[encID]
 cases hr:mget T.holds ⟨k,n⟩ with
 | none=>
  have hl:=run_setsT T.hb T.holds k n none hr
  have HM:Hid (holdL T ⟨k,n⟩ = []):=(show _=_ from by unfold holdL memH;rw[hr];simp)
  have HT:=Lib.hid h
  clear h hf
  simp only[Option.map_none] at hl
  go_enter Tryz.func37,Tryz.ntmps37
  go_wp2
  have hg:w.grownBy (w.alloc (.cells #[.string k,.int .i64 n] 54)) none:=World.grownBy_alloc _ _ _
  have x0:(w.alloc (.cells #[.string k,.int .i64 n] 54)).cell? ⟨w.heap.size,0,none⟩=some (.string k):=by simp[go_sem]
  have x1:(w.alloc (.cells #[.string k,.int .i64 n] 54)).cell? ⟨w.heap.size,1,none⟩=some (.int .i64 n):=by simp[go_sem]
  generalize w.alloc (.cells #[.string k,.int .i64 n] 54)=W1 at *
  have T1:=HT.out.grown hg
  have d7:=T1.c7
  have hh1:=T1.holds
  have HT1:=Lib.hid T1
  have HG:=Lib.hid hg
  clear T1 hg c7 hh
  go_still_tail 6,(by kernel_rfl)
  go_wp2_with (first
   | (go_at_call 82;refine(keysI_any none _).mono ?_;rintro e w1 ⟨rfl,rfl⟩)
   | (go_at_call 81;have hq:=sortedI_nil (W1.alloc (.cells #[.map none] 127)).drew W1.heap.size (by simp[go_sem]) (by simp[go_sem]);refine hq.mono ?_;rintro e w2 ⟨v,rfl,hv⟩))
  go_ret
  rw[HM.out]
  refine⟨v,rfl,ints_up hv ?_⟩
  repeat (first|exact HG.out|exact grown_refl _|exact World.grownBy_alloc _ _ _|refine grown_ext' ?_ _|refine grown_alloc ?_ _|refine grown_drew ?_)
 | some s=>
  have hl:=run_setsT T.hb T.holds k n (some s) hr
  have HM:Hid (holdL T ⟨k,n⟩=s.mem.mergeSort fun x y=>decide (x≤y)):=(show _=_ from by unfold holdL memH;rw[hr];rfl)
  have hs:=h.hsets _ (mget_mem hr)
  have hf':Fits s.mem:=by unfold memH at hf;rw[hr] at hf;exact hf
  have HS:Hid (∀W,w.grownBy W none→SetT W s):=fun W hg=>MapT.kept hs hg (by simp)
  have HF:=Lib.hid hf'
  have HT:=Lib.hid h
  clear h hf hf' hs
  simp only[Option.map_some] at hl
  go_enter Tryz.func37,Tryz.ntmps37
  go_wp2
  have hg:w.grownBy (w.alloc (.cells #[.string k,.int .i64 n] 54)) none:=World.grownBy_alloc _ _ _
  have x0:(w.alloc (.cells #[.string k,.int .i64 n] 54)).cell? ⟨w.heap.size,0,none⟩=some (.string k):=by simp[go_sem]
  have x1:(w.alloc (.cells #[.string k,.int .i64 n] 54)).cell? ⟨w.heap.size,1,none⟩=some (.int .i64 n):=by simp[go_sem]
  generalize w.alloc (.cells #[.string k,.int .i64 n] 54)=W1 at *
  have T1:=HT.out.grown hg
  have d7:=T1.c7
  have hh1:=T1.holds
  have HT1:=Lib.hid T1
  have HG:=Lib.hid hg
  clear T1 hg c7 hh
  go_still_tail 6,(by kernel_rfl)
  go_wp2_with (first
   | (go_at_call 82;refine(keysI_any (some s.blk) _).mono ?_;rintro e w1 ⟨rfl,rfl⟩)
   | (go_at_call 81;have hq:=sortedI_any (W:=(W1.alloc (.cells #[.map (some s.blk)] 127)).drew) s (HS.out _ (by repeat (first|exact HG.out|exact grown_refl _|exact World.grownBy_alloc _ _ _|refine grown_ext' ?_ _|refine grown_alloc ?_ _|refine grown_drew ?_))) HF.out.1 HF.out.2 W1.heap.size (by simp[go_sem]) (by simp[go_sem]);refine hq.mono ?_;rintro e w2 ⟨v,rfl,hv⟩))
  go_ret
  rw[HM.out]
  refine⟨v,rfl,ints_up hv ?_⟩
  repeat (first|exact HG.out|exact grown_refl _|exact World.grownBy_alloc _ _ _|refine grown_ext' ?_ _|refine grown_alloc ?_ _|refine grown_drew ?_)
end
theorem sortsS (m:Nat):AnyZ.SortsIn Tryz.prog Tryz.sortedS_ren Fence.wide m:=
 ⟨fun blk off cap ss W hH hblk hsz=>callsIn_wide.2 (AnyM.slices_Sort_string Tryz.sortS blk off cap ss W hH hblk hsz),
 fun p cap W=>callsIn_wide.2 (AnyM.slices_Sort_string_none Tryz.sortS p cap W)⟩
theorem keysS_any (mb:Option Nat) (W:World):Calls Tryz.prog 102 #[.map mb] W fun e w'=>
  e = .returned (.func (.func 162) #[] #[.pointer (some ⟨W.heap.size,0,none⟩)])∧w'=W.alloc (.cells #[.map mb] 118):=
 callsIn_wide.1 (AnyZ.keys_in Tryz.keysS Fence.wide 5 trivial rfl mb W)
theorem strKeys_perm {l:List ByteArray} {E:List (Lit × DataW Unit)} (h:E.Perm (l.map fun s=>(Lit.string s.data.toList,(DataW.nil:DataW Unit)))):(strKeys (.map E)).Perm (l.map fun s=>s.data.toList):=by
 have h1:=h.map (fun p=>strOf p.1)
 rw[List.map_map] at h1
 exact h1
def Strs (w w':World) (v:Value) (l:List (List UInt8)):Prop:=w'.ownsRow w.heap.size 9 1 v l.length (l.map encStr)∧(v = .slice none 0 0↔l = [])∧w.grownBy w' none
theorem sortedS_any {W:World} {V:Type} {ev:V→Value} (b:Nat) (m:List (ByteArray × V)) (h:MapT W b Value.string ev m) (hr:∀p∈m,p.1.size≤maxLen) (hl:m.length≤1000000) (Bm:Nat) (hBm:Bm<W.heap.size) (hm:W.cell? ⟨Bm,0,none⟩=some (.map (some b))) :
  Calls Tryz.prog 101 #[.func (.func 162) #[] #[.pointer (some ⟨Bm,0,none⟩)]] W
   fun e w'=>∃v,e = .returned v∧Strs W w' v ((m.map fun p=>p.1.data.toList).mergeSort leB):=by
 obtain⟨E,hown,hE⟩:=MapT.owns (P:=Tryz.prog) (k:=9) h (fun s=>Lit.string s.data.toList) (fun p hp=>WideMaps.keyOf_string_mk Tryz.underlying9 (hr p hp)) (by simp[maxLen];omega)
 have hE':E.Perm ((m.map (·.1)).map fun s=>(Lit.string s.data.toList,(DataW.nil:DataW Unit))):=by
  rw[List.map_map];exact hE
 have hkeys:=strKeys_perm hE'
 rw[List.map_map] at hkeys
 have hsz:Maps.size (.map E:DataW Unit)=m.length:=by
  have:=hE'.length_eq
  simpa[Maps.size] using this
 have hbl:=hown.lt
 have hseq:SeqGives Fence.wide 2 Tryz.prog 162 #[.pointer (some ⟨Bm,0,none⟩)] encStr (fun ss=>ss.Perm (strKeys (.map E:DataW Unit))) (Maps.size (.map E:DataW Unit)) W:=
  AnyZ.keys_gives (ρ:=Tryz.keysS_ren) { Tryz.keysS with } Fence.wide _ trivial rfl (by omega) Bm b _ (.map E) _ hBm hm hown
 have cS:=AnyZ.sorted_in Tryz.sortedS Fence.wide 5 trivial trivial trivial trivial rfl (by omega) (sortsS _) (enters_of Tryz.func161 (by kernel_rfl) rfl) 162 #[.pointer (some ⟨Bm,0,none⟩)] trivial (enters_of Tryz.func162 (by kernel_rfl) rfl) _ _ (by rw[hsz];simp[maxLen];omega) (by rw[hsz];omega) _ hseq
 refine(callsIn_wide.1 cS).mono ?_
 rintro e w' ⟨v,ss,rfl,hS,hrow,hnil,hb⟩
 have hp:ss.Perm (m.map fun p=>p.1.data.toList):=hS.trans hkeys
 have hm:ss.mergeSort leB=(m.map fun p=>p.1.data.toList).mergeSort leB:=mergeSort_of_perm hp
 refine⟨v,rfl,?_,?_,below_grown hb⟩
 ·have h1:ss.length=((m.map fun p=>p.1.data.toList).mergeSort leB).length:=by rw[←hm,List.length_mergeSort]
  have hrow':w'.ownsRow W.heap.size 9 1 v ss.length ((ss.mergeSort leB).map encStr):=hrow
  rw[h1,hm] at hrow'
  exact hrow'
 ·rw[hnil,←hm]
  constructor
  ·intro h0;rw[h0];simp
  ·intro h0
   have:=congrArg List.length h0
   rw[List.length_mergeSort] at this
   exact List.eq_nil_of_length_eq_zero (by simpa using this)
def skeys (T:Tab):List (List UInt8):=(T.values.map fun p=>p.1.data.toList).mergeSort leB
def curAt (T:Tab) (s:List UInt8):Option ID:=if (lookV T ⟨s.toArray⟩).dead=true then none else some ⟨⟨s.toArray⟩,(lookV T ⟨s.toArray⟩).ver⟩
def curL (T:Tab):List ID:=(skeys T).filterMap (curAt T)
def idCells (i:ID):List Value:=[.string i.key,.int .i64 i.ver]
def IdRow (base:Nat) (w':World) (v:Value) (l:List ID):Prop:=w'.ownsRow base 54 2 v l.length (l.flatMap idCells)
theorem skeys_length (T:Tab):(skeys T).length=T.values.length:=by simp[skeys]
theorem infoID:(Tryz.prog.info? 54).map (fun i=>(i.zero,i.size,i.bytes))=some (some (.agg #[.string { data:=#[] },.int .i64 0]),2,24):=by kernel_rfl
theorem grown_own {w w1 w2:World} {row:Option Nat} (h:w.grownBy w1 none) (h2:w1.grownBy w2 row) (hrow:∀k,row=some k→w.heap.size≤k):w.grownBy w2 none:=
 ⟨h2.os.trans h.os,h2.tape.trans h.tape,h2.output.trans h.output,Nat.le_trans h.size h2.size,fun k hk _=>
  (h2.block k (Nat.lt_of_lt_of_le hk h.size) (fun e=>by have:=hrow k e.symm;omega)).trans (h.block k hk (by simp))⟩
theorem row_base {w:World} {base:Nat} {e:TypeId} {size n:Nat} {v:Value} {xs:List Value} (h:w.ownsRow base e size v n xs):∀k,v.ownBlock=some k→base≤k:=by
 intro k hk
 rcases h.2 with ⟨rfl,_⟩|⟨g,cap,cur,rfl,hb,_⟩
 ·simp[Value.ownBlock] at hk
 ·simp[Value.ownBlock] at hk;omega
theorem row_form {w:World} {base:Nat} {e:TypeId} {size n:Nat} {v:Value} {xs:List Value} (h:w.ownsRow base e size v n xs) (hn:0<n):∃g cap,v = .slice (some ⟨g,0,none⟩) n cap:=by
 rcases h.2 with ⟨_,h0⟩|⟨g,cap,cur,hv,_⟩
 ·omega
 ·exact⟨g,cap,hv⟩
theorem idRow_le {base base':Nat} {w:World} {v:Value} {l:List ID} (h:IdRow base w v l) (hb:base'≤base):IdRow base' w v l:=
 ⟨h.1,h.2.imp id fun ⟨g,cap,cur,hv,hb2,rest⟩=>⟨g,cap,cur,hv,Nat.le_trans hb hb2,rest⟩⟩
def curK (T:Tab) (k:Nat):List ID:=((skeys T).take k).filterMap (curAt T)
theorem curK_le (T:Tab) (k:Nat):(curK T k).length≤k:=by
 unfold curK
 exact Nat.le_trans (List.length_filterMap_le _ _) (by simp;omega)
theorem curK_succ (T:Tab) (k:Nat) (hk:k<(skeys T).length):curK T (k+1)=curK T k++(curAt T ((skeys T).getD k [])).toList:=by
 unfold curK
 rw[List.take_add_one,List.filterMap_append]
 simp only[List.getD_eq_getElem?_getD]
 rw[List.getElem?_eq_getElem hk]
 simp only[Option.getD_some,Option.toList_some,List.filterMap_cons,List.filterMap_nil]
 cases curAt T _ <;> rfl
structure CurAt (w0 wr:World) (T:Tab) (v:Value) (k:Nat):Prop where
 row:IdRow w0.heap.size wr v (curK T k)
 grown:w0.grownBy wr none
theorem CurAt.drop {w0 wr w1:World} {T:Tab} {v:Value} {k:Nat} (h:CurAt w0 wr T v k) (hk:k<(skeys T).length) (hn:curAt T ((skeys T).getD k [])=none) (hg:wr.grownBy w1 none):CurAt w0 w1 T v (k+1):=by
 have e:=curK_succ T k hk
 rw[hn] at e
 simp only[Option.toList_none,List.append_nil] at e
 refine⟨?_,grown_trans h.grown hg⟩
 unfold IdRow
 rw[e]
 exact h.row.kept hg (by cases hv:v.ownBlock <;> simp)
theorem CurAt.keep {w0 wr w1 w2:World} {T:Tab} {v v':Value} {k:Nat} {i:ID} (h:CurAt w0 wr T v k) (hk:k<(skeys T).length) (hn:curAt T ((skeys T).getD k [])=some i) (hg:wr.grownBy w1 none)
  (ho:w2.ownsRow w0.heap.size 54 2 v' ((curK T k).length+1) ((curK T k).flatMap idCells ++ [.string i.key,.int .i64 i.ver])) (hg2:w1.grownBy w2 v.ownBlock):CurAt w0 w2 T v' (k+1):=by
 have e:=curK_succ T k hk
 rw[hn] at e
 simp only[Option.toList_some] at e
 refine⟨?_,grown_own (grown_trans h.grown hg) hg2 (row_base h.row)⟩
 unfold IdRow
 rw[e]
 simp only[List.length_append,List.length_cons,List.length_nil,List.flatMap_append,List.flatMap_cons,List.flatMap_nil,List.append_nil,idCells,Nat.zero_add]
 exact ho
section
variable {w : World} {tb : Nat} {T : Tab}
set_option maxHeartbeats 4000000 in
set_option maxRecDepth 100000 in
theorem current_nil (h:TRep w tb T) (h0:T.values = []) :
  Calls Tryz.prog 42 #[.pointer (some ⟨tb,0,none⟩)] w fun e w'=>∃v,e = .returned v∧IdRow w.heap.size w' v (curL T)∧w.grownBy w' none:=by
 have c5:=h.c5
 have HT:=Lib.hid h
 have HR:Hid (∀p∈T.values,p.1.size≤maxLen):=(show ∀p∈T.values,_ from by rw[h0];simp)
 have HL:Hid (T.values.length≤1000000):=(show _≤_ from by rw[h0];simp)
 have HS:Hid ((T.values.map fun p=>p.1.data.toList).mergeSort leB = []):=(show _=_ from by rw[h0];simp)
 have HC:Hid (curL T = []):=(show _=_ from by unfold curL skeys;rw[h0];simp)
 clear h h0
 go_enter Tryz.func42,Tryz.ntmps42
 go_wp2_with (first
   | (go_at_call 102;refine(keysS_any (some T.vb) _).mono ?_;rintro e w1 ⟨rfl,rfl⟩)
   | (go_at_call 101;have hq:=sortedS_any (W:=w.alloc (.cells #[.map (some T.vb)] 118)) T.vb T.values ((HT.out.grown (World.grownBy_alloc _ _ _)).values) HR.out HL.out w.heap.size (by simp[go_sem]) (by simp[go_sem]);refine hq.mono ?_;rintro e w2 ⟨v,rfl,hv⟩;obtain rfl:=hv.2.1.2 HS.out;have HV:=Lib.hid hv.2.2;clear hv))
 go_loopw [3,16] (fun v i wr=>v = .slice none 0 0∧i = .int .i64 0∧wr=w2) (fun _ _ _=>0)
 case atStart=>exact⟨rfl,rfl,rfl⟩
 case round=>
  obtain⟨rfl,rfl,rfl⟩:=hrel
  go_wp2
  go_ret
  rw[HC.out]
  exact⟨_,rfl,World.ownsRow_nil _ _ _ _,grown_trans (World.grownBy_alloc _ _ _) HV.out⟩
set_option maxHeartbeats 4000000 in
set_option maxRecDepth 100000 in
theorem current_some (h:TRep w tb T) (h0:0<T.values.length) (hr:∀p∈T.values,p.1.size≤maxLen) (hl:T.values.length≤1000000) :
  Calls Tryz.prog 42 #[.pointer (some ⟨tb,0,none⟩)] w fun e w'=>∃v,e = .returned v∧IdRow w.heap.size w' v (curL T)∧w.grownBy w' none:=by
 have c5:=h.c5
 obtain⟨i0,hi,hz0,hz1,hz2⟩:=info_parts infoID
 have hsl:=skeys_length T
 have HT:=Lib.hid h
 have HR:=Lib.hid hr
 have HL:=Lib.hid hl
 have HN:Hid (0<(skeys T).length):=(show _<_ from by rw[hsl];exact h0)
 have HN2:Hid ((skeys T).length≤1000000):=(show _≤_ from by rw[hsl];exact hl)
 have HC:Hid (curL T=curK T (skeys T).length):=(show _=_ from by unfold curK curL;rw[List.take_length])
 have htb:=h.tlt
 clear h hr hl h0 hsl
 go_enter Tryz.func42,Tryz.ntmps42
 go_wp2_with (first
   | (go_at_call 102;refine(keysS_any (some T.vb) _).mono ?_;rintro e w1 ⟨rfl,rfl⟩)
   | (go_at_call 101;have hq:=sortedS_any (W:=w.alloc (.cells #[.map (some T.vb)] 118)) T.vb T.values ((HT.out.grown (World.grownBy_alloc _ _ _)).values) HR.out HL.out w.heap.size (by simp[go_sem]) (by simp[go_sem]);refine hq.mono ?_;rintro e w2 ⟨v,rfl,hv⟩;change Strs _ _ v (skeys T) at hv;obtain⟨g,cap,rfl⟩:=row_form hv.1 HN.out;have HV:=Lib.hid hv;clear hv))
 generalize hn:(skeys T).length=n at *
 go_loopw [3,16] (fun v i wr=>∃k:Nat,k≤n∧i = .int .i64 k∧CurAt w2 wr T v k) (fun _ i _=>n-(intOf i).toNat)
 case atStart=>exact⟨0,Nat.zero_le _,rfl,World.ownsRow_nil _ _ _ _,grown_refl _⟩
 case round=>
  obtain⟨k,hk,rfl,hat⟩:=hrel
  have hg0:w.grownBy wr none:=grown_trans (grown_trans (World.grownBy_alloc _ _ _) HV.out.2.2) hat.grown
  have hn2:=HN2.out
  have TW:=HT.out.grown hg0
  have d5:=TW.c5
  have hv5:=TW.values
  have htw:=TW.tlt
  have HG0:=Lib.hid hg0
  clear TW hg0 c5
  rcases Nat.lt_or_ge k n with hlt|hge
  ·have hcx:wr.cell? ⟨g,k,none⟩=some (.string ⟨((skeys T).getD k []).toArray⟩):=by
    have h1:=HV.out.1.cells (g:=g) rfl k (.string ⟨((skeys T).getD k []).toArray⟩) (by
     rw[List.getElem?_map,List.getElem?_eq_getElem (by omega)]
     simp[List.getD_eq_getElem?_getD,List.getElem?_eq_getElem (show k<(skeys T).length by omega),encStr])
    have h2:w2.cell? ⟨g,k,none⟩=some (.string ⟨((skeys T).getD k []).toArray⟩):=by
     rw[←h1];congr 1;unfold Addr.add;simp
    exact hat.grown.cell h2 (by simp)
   have hrun:=fun W hW=>TRep.run_values (T:=T) W hW ⟨((skeys T).getD k []).toArray⟩
   have HAT:=Lib.hid hat
   have HLE:=curK_le T k
   have hca:Hid (curAt T ((skeys T).getD k [])=if (lookV T ⟨((skeys T).getD k []).toArray⟩).dead=true then none else some ⟨⟨((skeys T).getD k []).toArray⟩,(lookV T ⟨((skeys T).getD k []).toArray⟩).ver⟩):=(show _=_ from rfl)
   have HROW:Hid (∀W,wr.grownBy W none→W.ownsRow w2.heap.size 54 2 u3 (curK T k).length ((curK T k).flatMap idCells)):=(fun W hg=>hat.row.kept hg (by cases hv:u3.ownBlock <;> simp))
   clear hat
   generalize (lookV T ⟨((skeys T).getD k []).toArray⟩).dead=vd at *
   generalize (lookV T ⟨((skeys T).getD k []).toArray⟩).ver=vn at *
   generalize hkey:(⟨((skeys T).getD k []).toArray⟩:ByteArray)=key at *
   cases vd
   ·have HCA:Hid (curAt T ((skeys T).getD k [])=some ⟨key,vn⟩):=(show _=_ from by rw[hca.out];simp)
    clear hca
    go_wp2_with (at_builtin;go_loud (refine wpList_append_own _ rfl _ _ 66 rfl w2.heap.size 54 i0 (.agg #[.string { data:=#[] },.int .i64 0]) 2 24 Tryz.underlying66 hi hz0 hz1 hz2 rfl (by decide) _ _ _ rfl (HROW.out _ ?c0) ⟨wr.heap.size+1,0,none⟩ 1 1 [.string key,.int .i64 vn] rfl rfl ?c1 ?c2 ?c3 ?c4 ?c5 ?_))
    case c0=>repeat (first|exact grown_refl _|exact World.grownBy_alloc _ _ _|refine grown_alloc ?_ _|refine grown_drew ?_)
    case c1=>
     intro j u hj
     match j,hj with
     | 0,hj=>simp at hj;subst hj;simp[Addr.add,go_sem]
     | 1,hj=>simp at hj;subst hj;simp[Addr.add,go_sem]
     | j+2,hj=>simp at hj
    case c2=>intro u hu;simp at hu;rcases hu with rfl|rfl <;> rfl
    case c3=>unfold maxLen;omega
    case c4=>omega
    case c5=>have:=HAT.out.grown.size;simp;omega
    intro v' w9 ho hg9 _
    have H9:=Lib.hid (HAT.out.keep (by omega) HCA.out (grown_alloc (grown_alloc (grown_refl _) _) _) ho hg9)
    clear ho hg9
    go_wp2
    go_roundw
    case rel=>exact⟨k+1,by omega,rfl,H9.out⟩
    case measure=>simp[intOf];omega
   ·have HCA:Hid (curAt T ((skeys T).getD k [])=none):=(show _=_ from by rw[hca.out];simp)
    clear hca
    go_wp2
    go_roundw
    case rel=>exact⟨k+1,by omega,rfl,HAT.out.drop (by omega) HCA.out (grown_alloc (grown_refl _) _)⟩
    case measure=>simp[intOf];omega
  ·go_wp2
   go_ret
   obtain rfl:k=n:=by omega
   rw[HC.out]
   exact⟨_,rfl,idRow_le hat.row (grown_trans (World.grownBy_alloc w (.cells #[.map (some T.vb)] 118) none) HV.out.2.2).size,HG0.out⟩
theorem current_any (h:TRep w tb T) (hr:∀p∈T.values,p.1.size≤maxLen) (hl:T.values.length≤1000000) :
  Calls Tryz.prog 42 #[.pointer (some ⟨tb,0,none⟩)] w fun e w'=>∃v,e = .returned v∧IdRow w.heap.size w' v (curL T)∧w.grownBy w' none:=by
 rcases Nat.eq_zero_or_pos T.values.length with h0|h0
 ·exact current_nil h (List.eq_nil_of_length_eq_zero h0)
 ·exact current_some h h0 hr hl
end
end Go.Proofs.YtjfelfjobeeenaaGreat
