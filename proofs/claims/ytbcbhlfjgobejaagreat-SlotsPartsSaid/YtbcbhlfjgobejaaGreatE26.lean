/- Bytes told as a string. Conditions: as the theorems say. The chapter's example: walked. Conditions: none. The number of parts, of any int: the program's and the document's walked. Conditions: the argument is an int. SlotsParts: walked. Conditions: the argument is an int. A law that leaves all old memory alone: its row's last step. Conditions: none. -/
import Derived.Test.YtbcbhlfjgobejaaGreatE25
import Derived.Lib.SlBytesConst
import Derived.Test.YtbcbhlfjgobejaaGreatRows
import Derived.WalkKit
import Derived.ProofKit
import Derived.OpenShut
set_option linter.unusedSimpArgs false
set_option linter.unusedVariables false
namespace Go.Proofs.YtbcbhlfjgobejaaGreat
open Go.RowKit Go.Sf
theorem push_list (l:List Int) (s:ByteArray):l.foldl (fun r n=>r.push (UInt8.ofNat n.toNat)) s=⟨s.data++(l.map fun b=>UInt8.ofNat b.toNat).toArray⟩:=by
 induction l generalizing s with
 | nil=>simp
 | cons n l ih=>
  rw[List.foldl_cons,ih]
  simp[ByteArray.push]
theorem conv_row {rb:Nat→Prop} {w:World} {v:Value} {l:List Int} (h:RowP rb w v (bytesV l)):(convert 32 9 v).run Tryz.prog w = .ok (.string (ofB l)) w:=by
 obtain⟨p,cap,rfl,-,-,hc⟩:=h
 rw[run_convert_bytes_string w _ _ 5 p _ cap Tryz.underlying32 Tryz.underlying5 Tryz.underlying9]
 rw[bytesV_len]
 cases p with
 | none=>
  have h0:l = []:=by
   rcases hc with h0|⟨a,h1,_⟩
   ·simpa[bytesV] using h0
   ·cases h1
  subst h0
  simp[Conv.bytesToString,ofB]
  rfl
 | some a=>
  have hl:(loadCells a l.length).run Tryz.prog w = .ok (l.map (Value.int .u8)).toArray w:=by
   have:=run_loadCells_list (P:=Tryz.prog) w a (l.map (Value.int .u8)) (fun j v hj=>by
    rcases hc with h0|⟨a',h1,_,h2⟩
    ·simp[bytesV] at h0;subst h0;simp at hj
    ·cases h1;exact h2 j v (by simpa[bytesV] using hj))
   simpa using this
  rw[run_bytesToString w a l.length cap l hl,push_list]
  simp[ofB,ByteArray.empty,ByteArray.emptyWithCapacity]
  rfl
theorem rowP_alloc2 {w:World} {b:List Int} {T:TypeId} {cap:Nat} (fz:Nat × Nat) (hb:b.length≤cap) (hc:cap≤9223372036854775807) (lo:Nat) (hlo:lo≤w.heap.size):RowP (fun k=>lo≤k∧k<(w.alloc (.cells (bytesV b).toArray T fz)).heap.size) (w.alloc (.cells (bytesV b).toArray T fz)) (.slice (some ⟨w.heap.size,0,none⟩) b.length cap) (bytesV b):=by
 refine⟨some ⟨w.heap.size,0,none⟩,cap,by rw[bytesV_len],by rw[bytesV_len];exact hb,hc,Or.inr ⟨_,rfl,⟨hlo,by simp⟩,fun j u hu=>?_⟩⟩
 rw[addr_at]
 exact(cell_block (heap_alloc_new w _) j).trans (by simpa using hu)
theorem NewRow.rowP {W w:World} {v:Value} {l:List Int} (h:NewRow W w v l) (hl:l.length≤9223372036854775807):RowP (fun k=>W.heap.size≤k∧k<w.heap.size) w v (bytesV l):=by
 rcases h.2 with ⟨rfl,h0⟩|⟨g,cap,cur,rfl,hg,hh,h1,h2,h3,h4⟩
 ·have:l = []:=List.length_eq_zero_iff.mp h0
  subst this
  exact⟨none,0,rfl,by simp[bytesV],by omega,Or.inl rfl⟩
 ·refine⟨some ⟨g,0,none⟩,cap,by rw[bytesV_len],by rw[bytesV_len];exact h1,h2,Or.inr ⟨_,rfl,⟨hg,?_⟩,fun j u hu=>?_⟩⟩
  ·rcases Nat.lt_or_ge g w.heap.size with h|h
   ·exact h
   ·rw[Array.getElem?_eq_none h] at hh;cases hh
  ·rw[addr_at]
   refine(cell_block hh j).trans ?_
   have hj:j<(bytesV l).length:=by
    rcases Nat.lt_or_ge j (bytesV l).length with h|h
    ·exact h
    ·rw[List.getElem?_eq_none h] at hu;cases hu
   rw[←h4,List.getElem?_take,if_pos (by rw[bytesV_len] at hj;omega)] at hu
   simpa using hu
def z500:List Int:=List.replicate 500 0
theorem z500_len:z500.length=500:=List.length_replicate
theorem z_BL (n:Nat):BL (List.replicate n 0):=fun b hb=>by have:=List.eq_of_mem_replicate hb;omega
structure Ex9 (d1 d2 d3 d4:Dk):Prop where
 n:d1.n=4∧d2.n=4∧d3.n=4∧d4.n=4
 late:d1.late = []∧d2.late = []∧d3.late = []∧d4.late = []
 p1:(S0 4).put [97,98]=(⟨d1,[(1,([97,98],[0]))],[true,false,false,false],2,0⟩,1,0)
 p2:Sto.put ⟨d1,[(1,([97,98],[0]))],[true,false,false,false],2,0⟩ z500=(⟨d2,[(1,([97,98],[0])),(2,(z500,[1,2,3]))],[true,true,true,true],3,0⟩,2,0)
 p3:Sto.put ⟨d2,[(1,([97,98],[0])),(2,(z500,[1,2,3]))],[true,true,true,true],3,0⟩ []=(⟨d2,[(1,([97,98],[0])),(2,(z500,[1,2,3]))],[true,true,true,true],3,0⟩,0,181)
 r:Sto.rem ⟨d2,[(1,([97,98],[0])),(2,(z500,[1,2,3]))],[true,true,true,true],3,0⟩ 2=(⟨d3,[(1,([97,98],[0]))],[true,false,false,false],3,0⟩,0)
 p4:Sto.put ⟨d3,[(1,([97,98],[0]))],[true,false,false,false],3,0⟩ []=(⟨d4,[(1,([97,98],[0])),(3,([],[1]))],[true,true,false,false],4,0⟩,3,0)
theorem ex9:∃d1 d2 d3 d4,Ex9 d1 d2 d3 d4:=by
 obtain⟨d1,s1,n1,l1,e1⟩:=put_ok (S:=S0 4) (steady_new 4) rfl (by decide) rfl (b:=[97,98]) (by decide) (by decide)
 have n1:d1.n=4:=n1
 obtain⟨d2,s2,n2,l2,e2⟩:=put_ok (S:=⟨d1,[(1,([97,98],[0]))],[true,false,false,false],2,0⟩) s1 rfl (by show(2:Int)≤_;decide) n1.symm (b:=z500) (by rw[z500_len];decide) (by
  have:partsN z500.length=3:=by rw[z500_len];rfl
  rw[this];show(freeP [true,false,false,false] 3 4).length=3;decide)
 have n2:d2.n=4:=n2.trans n1
 obtain⟨d3,s3,n3,l3,e3⟩:=rem_ok (S:=⟨d2,[(1,([97,98],[0])),(2,(z500,[1,2,3]))],[true,true,true,true],3,0⟩) s2 rfl (k:=2) (r:=(z500,[1,2,3])) rfl (by show 1<d2.n;omega)
 have n3:d3.n=4:=n3.trans n2
 obtain⟨d4,s4,n4,l4,e4⟩:=put_ok (S:=⟨d3,[(1,([97,98],[0]))],[true,false,false,false],3,0⟩) s3 rfl (by show(3:Int)≤_;decide) n3.symm (b:=[]) (by decide) (by show(freeP [true,false,false,false] 1 4).length=1;decide)
 have n4:d4.n=4:=n4.trans n3
 refine⟨d1,d2,d3,d4,⟨⟨n1,n2,n3,n4⟩,⟨l1,l2,l3,l4⟩,?_,?_,?_,?_,?_⟩⟩
 ·rw[e1];rfl
 ·rw[e2]
  have:partsN z500.length=3:=by rw[z500_len];rfl
  rw[this];rfl
 ·exact put_full rfl (by show(3:Int)≤_;decide) (by decide) (by show(freeP [true,true,true,true] 1 4).length<1;decide)
 ·rw[e3];rfl
 ·rw[e4];rfl
set_option maxRecDepth 100000 in
set_option maxHeartbeats 8000000 in
theorem works9_any (W:World):Calls Tryz.prog 17 #[] W fun e w'=>e = .returned (.bool true)∧W.grownBy w' none:=by
 have HN:=Lib.hid (dnew 4 W)
 obtain⟨d1,d2,d3,d4,HEX⟩:=ex9
 have HE:=Lib.hid HEX
 clear HEX
 have hmk:∀w:World,(Instr.makeSlice 32 (.int .i64 500) (.int .i64 500)).run Tryz.prog w=_:=run_mkBytes 500 (by omega)
 have hcv:=fun (w:World) (C:Array Value) (n c:Nat)=>Lib.run_convert_bytes_const (P:=Tryz.prog) w 32 5 C n c Tryz.underlying32 Tryz.underlying5
 go_enter Tryz.func17,Tryz.ntmps17
 go_upto_region 4 with (first
  | (go_at_call 19;refine HN.out.mono ?_;rintro e w1 ⟨db,rfl,hg1,-,hd1⟩;have HOP:=Lib.hid (open_new (W:=W) 4 hg1 hd1);clear hg1 hd1)
  | (go_at_call 18;refine HOP.out.mono ?_;rintro e w2 ⟨st,rfl,hst⟩;have HS:=Lib.hid hst;clear hst HOP))
 have HP1:Hid (∀w,w2.grownBy w none→∀v,RowP (fun k=>w2.heap.size≤k∧k<w.heap.size) w v (bytesV [97,98])→Calls Tryz.prog 20 #[.pointer (some ⟨st,0,none⟩),v] w fun e w'=>e = .returned (.tuple #[.int .i64 1,.int .i64 0])∧StSt W st ⟨d1,[(1,([97,98],[0]))],[true,false,false,false],2,0⟩ w'):=(show ∀w,_→∀v,_→Calls _ _ _ _ _ from fun w hg v hv=>by
  have:=HS.out.put hg hv (fun b hb=>by simp at hb;omega) (by decide) (by decide)
  rw[HE.out.p1] at this
  exact this)
 go_upto_region 5 with (go_at_call 20;refine(HP1.out _ (World.grownBy_alloc _ _ none) _ (rowP_alloc2 (b:=[97,98]) (cap:=2) _ (by decide) (by decide) _ (Nat.le_refl _))).mono ?_;rintro e w3 ⟨rfl,hst⟩;have HS1:=Lib.hid hst;clear hst)
 have HP2:Hid (∀w,w3.grownBy w none→∀v,RowP (fun k=>w3.heap.size≤k∧k<w.heap.size) w v (bytesV z500)→Calls Tryz.prog 20 #[.pointer (some ⟨st,0,none⟩),v] w fun e w'=>e = .returned (.tuple #[.int .i64 2,.int .i64 0])∧StSt W st ⟨d2,[(1,([97,98],[0])),(2,(z500,[1,2,3]))],[true,true,true,true],3,0⟩ w'):=(show ∀w,_→∀v,_→Calls _ _ _ _ _ from fun w hg v hv=>by
  have:=HS1.out.put hg hv (z_BL 500) (by rw[z500_len];decide) (by rw[HE.out.late.1];decide)
  rw[HE.out.p2] at this
  exact this)
 go_upto_region 6 with (go_at_call 20;refine(HP2.out _ (World.grownBy_alloc _ _ none) _ (rowP_alloc (b:=List.replicate 500 0) (cap:=500) (by rw[List.length_replicate];exact Nat.le_refl _) (by decide) _ (Nat.le_refl _))).mono ?_;rintro e w4 ⟨rfl,hst⟩;have HS2:=Lib.hid hst;clear hst)
 go_upto_region 7 with (go_at_call 22;refine HS2.out.free.mono ?_;rintro e w5 ⟨rfl,h5⟩;obtain rfl:w4=w5:=h5.symm)
 have HP3:Hid (∀w,w4.grownBy w none→∀v,RowP (fun k=>w4.heap.size≤k∧k<w.heap.size) w v (bytesV [])→Calls Tryz.prog 20 #[.pointer (some ⟨st,0,none⟩),v] w fun e w'=>e = .returned (.tuple #[.int .i64 0,.int .i64 181])∧StSt W st ⟨d2,[(1,([97,98],[0])),(2,(z500,[1,2,3]))],[true,true,true,true],3,0⟩ w'):=(show ∀w,_→∀v,_→Calls _ _ _ _ _ from fun w hg v hv=>by
  have:=HS2.out.put hg hv (fun b hb=>by simp at hb) (by decide) (by rw[HE.out.late.2.1];decide)
  rw[HE.out.p3] at this
  exact this)
 go_upto_region 8 with (go_at_call 20;refine(HP3.out _ (grown_refl _) _ (rowP_nil _ _)).mono ?_;rintro e w5 ⟨rfl,hst⟩;have HS3:=Lib.hid hst;clear hst)
 have HR4:Hid (Calls Tryz.prog 30 #[.pointer (some ⟨st,0,none⟩),.int .i64 2] w5 fun e w'=>e = .returned (.int .i64 0)∧StSt W st ⟨d3,[(1,([97,98],[0]))],[true,false,false,false],3,0⟩ w'):=(show Calls _ _ _ _ _ from by
  have:=HS3.out.rem 2 (by rw[HE.out.late.2.1];decide)
  rw[HE.out.r] at this
  exact this)
 go_upto_region 9 with (go_at_call 30;refine HR4.out.mono ?_;rintro e w6 ⟨rfl,hst⟩;have HS4:=Lib.hid hst;clear hst)
 go_upto_region 10 with (go_at_call 22;refine HS4.out.free.mono ?_;rintro e w7 ⟨rfl,h5⟩;obtain rfl:w6=w7:=h5.symm)
 have HP5:Hid (∀w,w6.grownBy w none→∀v,RowP (fun k=>w6.heap.size≤k∧k<w.heap.size) w v (bytesV [])→Calls Tryz.prog 20 #[.pointer (some ⟨st,0,none⟩),v] w fun e w'=>e = .returned (.tuple #[.int .i64 3,.int .i64 0])∧StSt W st ⟨d4,[(1,([97,98],[0])),(3,([],[1]))],[true,true,false,false],4,0⟩ w'):=(show ∀w,_→∀v,_→Calls _ _ _ _ _ from fun w hg v hv=>by
  have:=HS4.out.put hg hv (fun b hb=>by simp at hb) (by decide) (by rw[HE.out.late.2.2.1];decide)
  rw[HE.out.p4] at this
  exact this)
 go_upto_region 11 with (go_at_call 20;refine(HP5.out _ (grown_refl _) _ (rowP_nil _ _)).mono ?_;rintro e w7 ⟨rfl,hst⟩;have HS5:=Lib.hid hst;clear hst)
 have HG6:Hid (Calls Tryz.prog 21 #[.pointer (some ⟨st,0,none⟩),.int .i64 1] w7 fun e w'=>w7.grownBy w' none∧∃p c,e = .returned (.tuple #[.slice p 2 c,.bool true])∧NewRow w7 w' (.slice p 2 c) [97,98]):=(show Calls _ _ _ _ _ from by
  refine(HS5.out.get 1).mono ?_
  rintro e w' ⟨hg,v,rfl,⟨h0,-⟩|⟨r,h0,hr⟩⟩
  ·simp[mget] at h0
  ·simp[mget] at h0
   subst h0
   obtain⟨p,c,rfl⟩:∃p c,v = .slice p 2 c:=by
    rcases hr.2 with ⟨e,h0⟩|⟨g,c,cur,e,_⟩
    ·simp at h0
    ·exact⟨_,_,e⟩
   exact⟨hg,p,c,rfl,hr⟩)
 go_upto_region 12 with (go_at_call 21;refine HG6.out.mono ?_;rintro e w8 ⟨hg,p,c,rfl,hr⟩;have HG8:=Lib.hid hg;have HR8:=Lib.hid hr;clear hg hr)
 have hcz:(convert 32 9 (.slice p 2 c)).run Tryz.prog w8 = .ok (.string (ofB [97,98])) w8:=conv_row (HR8.out.rowP (by decide))
 have hez:((ofB [97,98]).toList == [97,98])=true:=by
  have e : ofB [97, 98] = "ab".toUTF8 := by rfl
  decide +kernel
 go_wp2
 go_ret
 exact⟨rfl,grown_trans HS5.out.gr HG8.out⟩
theorem quo_nat2 (m:Nat) (h:m<9223372036854775808):IntKind.i64.wrap ((m:Int).tdiv ((230:Nat):Int))=((m / 230:Nat):Int):=by
 have e:((m:Int).tdiv ((230:Nat):Int))=((m / 230:Nat):Int):=rfl
 rw[e,IntKind.wrap_i64]
 omega
set_option maxHeartbeats 1000000 in
set_option maxRecDepth 100000 in
theorem parts_all (n:Int) (h1:n<9223372036854775808) (W:World):Calls Tryz.prog 15 #[.int .i64 n] W fun e w'=>e = .returned (.int .i64 (if n<0 then 0 else (partsN n.toNat:Int)))∧w'=W:=by
 by_cases h0:n<0
 ·go_enter Tryz.func15,Tryz.ntmps15
  go_wp2
  go_ret
  exact⟨by simp,rfl⟩
 ·simp only[h0,if_false]
  obtain⟨m,rfl⟩:∃m:Nat,n=(m:Int):=⟨n.toNat,by omega⟩
  simp only[Int.toNat_natCast]
  have hq:=quo_nat2 m (by omega)
  have hr:=rem_nat m 230
  have HE:Hid ((m / 230=0→m%230=0→partsN m=1)∧(1≤m%230→partsN m=m / 230+1)∧(m%230=0→1≤m / 230→partsN m=m / 230)):=(show _∧_∧_ from by unfold partsN;omega)
  have hql:m / 230<4611686018427387904:=by omega
  have hrl:m%230<230:=Nat.mod_lt _ (by omega)
  generalize m / 230=q at *
  generalize m%230=r at *
  have HQ:=Lib.hid hq
  have HR:=Lib.hid hr
  generalize partsN m=pm at *
  clear hq hr h1
  go_enter Tryz.func15,Tryz.ntmps15
  go_wp2_with (first
   | (refine wpList_quo _ rfl _ _ _ _ rfl (m:Int) (230:Nat) (q:Int) rfl rfl (by decide) HQ.out ?_)
   | (refine wpList_rem _ rfl _ _ _ _ rfl (m:Int) (230:Nat) (r:Int) rfl rfl (by decide) HR.out ?_))
  all_goals go_ret
  all_goals (refine⟨congrArg (fun z=>Ending.returned (Value.int .i64 z)) ?_,rfl⟩;have:=HE.out;first|omega|(split <;> omega))
set_option maxHeartbeats 1000000 in
set_option maxRecDepth 100000 in
theorem rparts_all (n:Int) (h1:n<9223372036854775808) (W:World):Calls Tryz.prog 16 #[.int .i64 n] W fun e w'=>e = .returned (.int .i64 (if n<0 then 0 else (partsN n.toNat:Int)))∧w'=W:=by
 by_cases h0:n<0
 ·go_enter Tryz.func16,Tryz.ntmps16
  go_wp2
  go_ret
  exact⟨by simp,rfl⟩
 ·simp only[h0,if_false]
  obtain⟨m,rfl⟩:∃m:Nat,n=(m:Int):=⟨n.toNat,by omega⟩
  simp only[Int.toNat_natCast]
  have hq:=quo_nat2 m (by omega)
  have hr:=rem_nat m 230
  have HE:Hid ((m / 230=0→m%230=0→partsN m=1)∧(1≤m%230→partsN m=m / 230+1)∧(m%230=0→1≤m / 230→partsN m=m / 230)):=(show _∧_∧_ from by unfold partsN;omega)
  have hql:m / 230<4611686018427387904:=by omega
  have hrl:m%230<230:=Nat.mod_lt _ (by omega)
  generalize m / 230=q at *
  generalize m%230=r at *
  have HQ:=Lib.hid hq
  have HR:=Lib.hid hr
  generalize partsN m=pm at *
  clear hq hr h1
  by_cases hr1:1≤r
  ·have hr2:((0:Int)<(r:Int))=True:=by simp;omega
   go_enter Tryz.func16,Tryz.ntmps16
   go_wp2_with (first
    | (refine wpList_quo _ rfl _ _ _ _ rfl (m:Int) (230:Nat) (q:Int) rfl rfl (by decide) HQ.out ?_)
    | (refine wpList_rem _ rfl _ _ _ _ rfl (m:Int) (230:Nat) (r:Int) rfl rfl (by decide) HR.out ?_))
   all_goals go_ret
   all_goals (refine⟨congrArg (fun z=>Ending.returned (Value.int .i64 z)) ?_,rfl⟩;have:=HE.out;first|omega|(split <;> omega))
  ·obtain rfl:r=0:=by omega
   go_enter Tryz.func16,Tryz.ntmps16
   go_wp2_with (first
    | (refine wpList_quo _ rfl _ _ _ _ rfl (m:Int) (230:Nat) (q:Int) rfl rfl (by decide) HQ.out ?_)
    | (refine wpList_rem _ rfl _ _ _ _ rfl (m:Int) (230:Nat) (0:Int) rfl rfl (by decide) HR.out ?_))
   all_goals go_ret
   all_goals (refine⟨congrArg (fun z=>Ending.returned (Value.int .i64 z)) ?_,rfl⟩;obtain⟨x1,-,x3⟩:=HE.out;rcases Nat.eq_zero_or_pos q with hz|hz)
   ·have:=x1 hz (by trivial);omega
   ·have:=x3 (by trivial) hz;omega
structure Ex19 (n:Nat) (d1:Dk) (S1:Sto):Prop where
 d:S1.d=d1
 late:d1.late = []
 p:(S0 20).put (List.replicate n 0)=(S1,1,0)
 g:∃bl,mget S1.recs 1=some (List.replicate n 0,bl)
 f:freeN S1.taken=20-partsN n∧partsN n≤14
theorem ex19 (n:Nat) (h:n≤3000):∃d1 S1,Ex19 n d1 S1:=by
 have hp:partsN n≤14∧1≤partsN n:=by unfold partsN;omega
 have hl:(List.replicate n (0:Int)).length=n:=List.length_replicate
 have e0:∀p:Fin 15,(freeP (List.replicate 20 false) p 20).length=p∧freeN (setT (List.replicate 20 false) (freeP (List.replicate 20 false) p 20) true)=20-p:=by decide
 have e1:=e0 ⟨partsN n,by omega⟩
 obtain⟨d1,s1,n1,l1,e⟩:=put_ok (S:=S0 20) (steady_new 20) rfl (by decide) rfl (b:=List.replicate n 0) (by rw[hl];omega) (by rw[hl];exact e1.1)
 refine⟨d1,_,rfl,l1,e,⟨_,rfl⟩,?_,hp.1⟩
 rw[hl]
 exact e1.2
theorem get_new {W w:World} {st:Nat} {S:Sto} {b:List Int} {bl:List Nat} {k:Int} (h:StSt W st S w) (hm:mget S.recs k=some (b,bl)):Calls Tryz.prog 21 #[.pointer (some ⟨st,0,none⟩),.int .i64 k] w fun e w'=>w.grownBy w' none∧∃p c,e = .returned (.tuple #[.slice p b.length c,.bool true])∧NewRow w w' (.slice p b.length c) b:=by
 refine(h.get k).mono ?_
 rintro e w' ⟨hg,v,rfl,⟨h0,-⟩|⟨r,h0,hr⟩⟩
 ·rw[hm] at h0;cases h0
 ·rw[hm] at h0
  cases h0
  rw[hm]
  rcases hr.2 with ⟨rfl,h0⟩|⟨g,c,cur,rfl,_⟩
  ·have h0:b.length=0:=h0
   refine⟨hg,none,0,?_,?_⟩
   ·rw[h0];rfl
   ·rw[h0];exact hr
  ·exact⟨hg,_,_,rfl,hr⟩
set_option maxRecDepth 100000 in
set_option maxHeartbeats 8000000 in
theorem sparts_far (n:Int) (h1:n<9223372036854775808) (hf:n<0∨3000<n) (W:World):Calls Tryz.prog 3 #[.int .i64 n] W fun e w'=>e = .returned (.bool true)∧W.grownBy w' none:=by
 have HP:=Lib.hid (parts_all n h1)
 have HR:=Lib.hid (rparts_all n h1)
 have HW:=Lib.hid works9_any
 generalize (if n<0 then 0 else (partsN n.toNat:Int))=pm at HP HR
 rcases hf with hf|hf
 ·go_enter Tryz.func3,Tryz.ntmps3
  go_wp2_with (first
   | (go_at_call 15;refine(HP.out _).mono ?_;rintro e w1 ⟨rfl,h5⟩;obtain rfl:W=w1:=h5.symm)
   | (go_at_call 16;refine(HR.out _).mono ?_;rintro e w1 ⟨rfl,h5⟩;obtain rfl:W=w1:=h5.symm)
   | (go_at_call 17;refine(HW.out _).mono ?_;rintro e w1 ⟨rfl,hg⟩;have HG:=Lib.hid hg;clear hg))
  go_ret
  exact⟨rfl,HG.out⟩
 ·have hn:¬n<0:=by omega
  go_enter Tryz.func3,Tryz.ntmps3
  go_wp2_with (first
   | (go_at_call 15;refine(HP.out _).mono ?_;rintro e w1 ⟨rfl,h5⟩;obtain rfl:W=w1:=h5.symm)
   | (go_at_call 16;refine(HR.out _).mono ?_;rintro e w1 ⟨rfl,h5⟩;obtain rfl:W=w1:=h5.symm)
   | (go_at_call 17;refine(HW.out _).mono ?_;rintro e w1 ⟨rfl,hg⟩;have HG:=Lib.hid hg;clear hg))
  go_ret
  exact⟨rfl,HG.out⟩
set_option maxRecDepth 100000 in
set_option maxHeartbeats 8000000 in
theorem sparts_near (n:Nat) (hn:n≤3000) (W:World):Calls Tryz.prog 3 #[.int .i64 (n:Int)] W fun e w'=>e = .returned (.bool true)∧W.grownBy w' none:=by
 have hpa:=parts_all (n:Int) (by omega)
 have hra:=rparts_all (n:Int) (by omega)
 rw[if_neg (by omega),Int.toNat_natCast] at hpa hra
 have HP:=Lib.hid hpa
 have HR:=Lib.hid hra
 clear hpa hra
 have HW:=Lib.hid works9_any
 have HN:=Lib.hid (dnew 20 W)
 obtain⟨d1,S1,HEX⟩:=ex19 n hn
 have hmk:=run_mkBytes n (by omega)
 have hfn:=HEX.f
 have HE:=Lib.hid HEX
 clear HEX
 have hn0:¬(n:Int)<0:=by omega
 have hn3:¬(3000:Int)<(n:Int):=by omega
 generalize partsN n=pm at HP HR hfn
 go_enter Tryz.func3,Tryz.ntmps3
 go_upto_region 8 with (first
  | (go_at_call 15;refine(HP.out _).mono ?_;rintro e w1 ⟨rfl,h5⟩;obtain rfl:W=w1:=h5.symm)
  | (go_at_call 16;refine(HR.out _).mono ?_;rintro e w1 ⟨rfl,h5⟩;obtain rfl:W=w1:=h5.symm)
  | (go_at_call 19;refine HN.out.mono ?_;rintro e w1 ⟨db,rfl,hg1,-,hd1⟩;have HOP:=Lib.hid (open_new (W:=W) 20 hg1 hd1);clear hg1 hd1)
  | (go_at_call 18;refine HOP.out.mono ?_;rintro e w2 ⟨st,rfl,hst⟩;have HS:=Lib.hid hst;clear hst HOP))
 have HP1:Hid (∀w,w2.grownBy w none→∀v,RowP (fun k=>w2.heap.size≤k∧k<w.heap.size) w v (bytesV (List.replicate n 0))→Calls Tryz.prog 20 #[.pointer (some ⟨st,0,none⟩),v] w fun e w'=>e = .returned (.tuple #[.int .i64 1,.int .i64 0])∧StSt W st S1 w'):=(show ∀w,_→∀v,_→Calls _ _ _ _ _ from fun w hg v hv=>by
  have:=HS.out.put hg hv (z_BL n) (by rw[List.length_replicate];omega) (by decide)
  rw[HE.out.p] at this
  exact this)
 have HRP:Hid (RowP (fun k=>w2.heap.size≤k∧k<(w2.alloc (.cells (bytesV (List.replicate n 0)).toArray 5)).heap.size) (w2.alloc (.cells (bytesV (List.replicate n 0)).toArray 5)) (.slice (some ⟨w2.heap.size,0,none⟩) n n) (bytesV (List.replicate n 0))):=(show RowP _ _ _ _ from by
  have:=rowP_alloc (w:=w2) (b:=List.replicate n 0) (T:=5) (cap:=n) (by rw[List.length_replicate];exact Nat.le_refl _) (by omega) w2.heap.size (Nat.le_refl _)
  rw[List.length_replicate] at this
  exact this)
 go_upto_region 9 with (go_at_call 20;refine(HP1.out _ (World.grownBy_alloc _ _ none) _ HRP.out).mono ?_;rintro e w3 ⟨rfl,hst⟩;have HS1:=Lib.hid hst;clear hst)
 obtain⟨bl,hbl⟩:=HE.out.g
 have hgn:=get_new HS1.out hbl
 rw[List.length_replicate] at hgn
 have HG4:=Lib.hid hgn
 clear hgn hbl
 go_upto_region 10 with (go_at_call 21;refine HG4.out.mono ?_;rintro e w4 ⟨hg,p,c,rfl,hr⟩;have HG8:=Lib.hid hg;clear hg hr)
 have hfr:=(HS1.out.grown HG8.out).free
 have hcast:((20-pm:Nat):Int)=20-(pm:Int):=by omega
 rw[hfn.1,hcast] at hfr
 have HFR:=Lib.hid hfr
 have hw20:IntKind.i64.wrap (20-(pm:Int))=20-(pm:Int):=by rw[IntKind.wrap_i64];omega
 clear hfr hcast
 go_wp2_with (first
  | (go_at_call 15;refine(HP.out _).mono ?_;rintro e w5 ⟨rfl,h5⟩;obtain rfl:w4=w5:=h5.symm)
  | (go_at_call 22;refine HFR.out.mono ?_;rintro e w5 ⟨rfl,h5⟩;obtain rfl:w4=w5:=h5.symm)
  | (go_at_call 17;refine(HW.out _).mono ?_;rintro e w5 ⟨rfl,hg⟩;have HG9:=Lib.hid hg;clear hg))
 go_ret
 exact⟨rfl,grown_trans HS1.out.gr (grown_trans HG8.out HG9.out)⟩
end Go.Proofs.YtbcbhlfjgobejaaGreat
namespace Go.Sf
open Go.ChangeShapes Go.WideShapes Go.ChangeAt Go.RowKit
variable {P : Program} {H : Type} {enc : TypeId × Value → H}
theorem post_of_grown {f:Func} {s:ChangeSpec} {apart fresh handsOn again:Bool} {W W':World} {args:Array Value} {v:Value} {ds gs:List (DataW H)} {before pa pv:List MemPlace}
  (hW:DataW.Whole enc P f.params.toList s.vars apart W args.toList ds gs before)
  (hres:∀(b:Nat) (sp:Nat→Bool) (hd:Bool),DataW.TrodAll enc P W' b sp hd f.resultTypes.toList (v.resultList f.resultTypes.size) (s.fn H (ds++gs)).results [])
  (hargs:∀sp:Nat→Bool,(∀p∈before,sp p.block=true)→DataW.TrodAll enc P W' 0 sp true f.params.toList args.toList (s.fn H (ds++gs)).args pa)
  (hvars:∀sp:Nat→Bool,(∀p∈before,sp p.block=true)→DataW.TrodVars enc P W' sp s.vars (s.fn H (ds++gs)).vars pv)
  (hps:before=pa++pv) (hg:W.grownBy W' none)
  (hok:∀(j:Nat) (t:TypeId) (r:Value),f.resultTypes[j]? = some t→(v.resultList f.resultTypes.size)[j]? = some r→Value.okWide P W' .any 0 t r) :
  s.post enc P f apart fresh handsOn again W args v W':=by
 have hold:∀p∈before,(fun b=>decide (b<W.heap.size)) p.block=true:=fun p hp=>by simpa using hW.lt p hp
 have hlt:∀p∈before,p.block<W.heap.size:=fun p hp=>hW.lt p hp
 refine⟨ds,gs,before,[],pa,pv,hW,hres _ _ _,hargs _ hold,hvars _ hold,⟨hg.os,hg.output,fun i hi=>by rw[hg.block i hi (by simp)];exact(World.keptBut_refl W (fun p=>p∈before∧(p∈[]∨p∈pa∨p∈pv))).2.2 i hi⟩,fun _=>?_⟩
 obtain⟨_,_,_,_,_,hz,hn⟩:=hW
 refine⟨hok,_,_,([]++pa)++pv,⟨[]++pa,pv,trodAll_append (hargs _ (fun _ _=>rfl)) (hres _ _ _),hvars _ (fun _ _=>rfl),rfl,?_,?_⟩,?_⟩
 ·intro b off hp
  have hp':MemPlace.cell b off∈before:=by rw[hps];simpa using hp
  rw[World.frozen?_of_block (a:=⟨b,off,none⟩) (hg.block b (hlt _ hp') (by simp))]
  exact hz b off hp'
 ·intro ha
  have:=hn ha
  rw[hps] at this
  simpa using this
 ·intro p hp _
  rw[hps]
  simpa using hp
end Go.Sf
