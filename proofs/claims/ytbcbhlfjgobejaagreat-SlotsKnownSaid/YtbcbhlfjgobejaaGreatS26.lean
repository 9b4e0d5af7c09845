/- A store that is nil, and slots.Open of nil. Conditions: none, or as the theorems say. -/
import Derived.Test.YtbcbhlfjgobejaaGreatS25
import Derived.WalkKit
import Derived.Lib.SlBytesConst
import Derived.Test.YtbcbhlfjgobejaaGreatS13
import Derived.Test.YtbcbhlfjgobejaaGreatS17
import Derived.Maps.AppendAt
import Derived.Deep.RegionLaw
import Derived.StillTailTactics
set_option linter.unusedSimpArgs false
set_option linter.unusedVariables false
namespace Go.Proofs.YtbcbhlfjgobejaaGreat
set_option maxHeartbeats 200000000
open Go.RowKit Go.Sf
set_option maxRecDepth 100000
set_option maxHeartbeats 4000000
variable {a:Act} {ops:Array Oper} {Q:Exit→Act→World→Prop} {b l:List Int} {g:Nat} {r:Option Nat} {α:Type} {v:Value} {W w:World}
theorem zpn (W:World):Calls Tryz.prog 18 #[.pointer none] W λe w'=>e = .returned (.tuple #[.pointer none,.int .i64 1])∧W.grownBy w' none:=by
 go_enter Tryz.func18,Tryz.ntmps18
 go_wp2;refine bodyPost_ret (Qf rfl _ _ (W.heap.size+1) (W.heap.size+2) none 1 (by simp) (by simp) ?_ ?_) rfl ?_
 ·exact(zcl W _ _ _).2.1
 ·exact(zcl W _ _ _).2.2
 ·refine⟨rfl,?_⟩
  repeat (first|exact zi _|refine zp ?_ _|refine yi ?_ (by simp;try omega) _)
theorem put_nil (W:World):Calls Tryz.prog 20 #[.pointer none,.slice none 0 0] W λe w'=>e = .returned (.tuple #[.int .i64 0,.int .i64 1])∧w'=W:=by
 go_enter Tryz.func20,Tryz.ntmps20
 go_wp2
 go_ret2
 exact⟨rfl,rfl⟩
theorem get_nil (W:World):Calls Tryz.prog 21 #[.pointer none,.int .i64 1] W λe w'=>e = .returned (.tuple #[.slice none 0 0,.bool false])∧w'=W:=by
 go_enter Tryz.func21,Tryz.ntmps21
 go_wp2
 go_ret2
 exact⟨rfl,rfl⟩
theorem rem_nil (W:World):Calls Tryz.prog 30 #[.pointer none,.int .i64 1] W λe w'=>e = .returned (.int .i64 1)∧w'=W:=by
 go_enter Tryz.func30,Tryz.ntmps30
 go_wp2
 go_ret
 exact⟨rfl,rfl⟩
theorem zif (W:World):Calls Tryz.prog 26 #[.pointer none] W λe w'=>e = .returned (.slice none 0 0)∧w'=W:=by
 go_enter Tryz.func26,Tryz.ntmps26
 go_wp2
 go_ret
 exact⟨rfl,rfl⟩
theorem zph (W:World):Calls Tryz.prog 29 #[.pointer none] W λe w'=>e = .returned (.int .i64 0)∧w'=W:=by
 go_enter Tryz.func29,Tryz.ntmps29
 go_wp2
 go_ret
 exact⟨rfl,rfl⟩
theorem zoy (W:World):Calls Tryz.prog 22 #[.pointer none] W λe w'=>e = .returned (.int .i64 0)∧w'=W:=by
 go_enter Tryz.func22,Tryz.ntmps22
 go_wp2
 go_ret
 exact⟨rfl,rfl⟩
theorem zj2 (W:World):Calls Tryz.prog 46 #[.pointer none] W λe w'=>e = .returned (.int .i64 1)∧w'=W:=by
 go_enter Tryz.func46,Tryz.ntmps46
 go_wp2
 go_ret
 exact⟨rfl,rfl⟩
theorem Jv {rb:Nat→Prop} (h:xw rb w v (zg l)):(convert 32 9 v).run Tryz.prog w = .ok (.string (ofB l)) w:=by
 obtain⟨p,cap,rfl,-,-,hc⟩:=h;rw[run_convert_bytes_string w _ _ 5 p _ cap Tryz.underlying32 Tryz.underlying5 Tryz.underlying9];rw[zu]
 cases p with
 | none=>
  have h0:l = []:=by
   rcases hc with h0|⟨a,h1,_⟩
   ·simpa[zg] using h0
   ·cases h1
  subst h0;simp[Conv.bytesToString,ofB]
  rfl
 | some a=>
  have hl:(loadCells a l.length).run Tryz.prog w = .ok (l.map (Value.int .u8)).toArray w:=by
   have:=run_loadCells_list (P:=Tryz.prog) w a (l.map (Value.int .u8)) (λj v hj=>by
    rcases hc with h0|⟨a',h1,_,h2⟩
    ·simp[zg] at h0;subst h0;simp at hj
    ·cases h1;exact h2 j v (by simpa[zg] using hj))
   simpa using this
  rw[run_bytesToString w a l.length cap l hl,zfy];simp[ofB,ByteArray.empty,ByteArray.emptyWithCapacity]
  rfl
theorem Va {T:TypeId} {cap:Nat} (fz:Nat × Nat) (hb:b.length≤cap) (hc:cap≤9223372036854775807) (lo:Nat) (hlo:lo≤w.heap.size):xw (λk=>lo≤k∧k<(w.alloc (.cells (zg b).toArray T fz)).heap.size) (w.alloc (.cells (zg b).toArray T fz)) (.slice (some ⟨w.heap.size,0,none⟩) b.length cap) (zg b):=by
 refine⟨some ⟨w.heap.size,0,none⟩,cap,by rw[zu],by rw[zu];exact hb,hc,Or.inr ⟨_,rfl,⟨hlo,by simp⟩,λj u hu=>?_⟩⟩
 rw[ut]
 exact(zf (heap_alloc_new w _) j).trans (by simpa using hu)
theorem jx.rowP (h:jx W w v l) (hl:l.length≤9223372036854775807):xw (λk=>W.heap.size≤k∧k<w.heap.size) w v (zg l):=by
 rcases h.2 with ⟨rfl,h0⟩|⟨g,cap,cur,rfl,hg,hh,h1,h2,h3,h4⟩
 ·have:l = []:=List.length_eq_zero_iff.mp h0
  subst this
  exact⟨none,0,rfl,by simp[zg],by omega,Or.inl rfl⟩
 ·refine⟨some ⟨g,0,none⟩,cap,by rw[zu],by rw[zu];exact h1,h2,Or.inr ⟨_,rfl,⟨hg,?_⟩,λj u hu=>?_⟩⟩
  ·rcases Nat.lt_or_ge g w.heap.size with h|h
   ·exact h
   ·rw[Array.getElem?_eq_none h] at hh;cases hh
  ·rw[ut]
   refine(zf hh j).trans ?_;have hj:j<(zg l).length:=by
    rcases Nat.lt_or_ge j (zg l).length with h|h
    ·exact h
    ·rw[List.getElem?_eq_none h] at hu;cases hu
   rw[←h4,List.getElem?_take,if_pos (by rw[zu] at hj;omega)] at hu
   simpa using hu
def zba:List Int:=List.replicate 500 0
theorem zbb:zba.length=500:=List.length_replicate
theorem z_BL (n:Nat):BL (List.replicate n 0):=λb hb=>by have:=List.eq_of_mem_replicate hb;omega
structure Ex9 (d1 d2 d3 d4:Dk):Prop where
 n:d1.n=4∧d2.n=4∧d3.n=4∧d4.n=4
 late:d1.late = []∧d2.late = []∧d3.late = []∧d4.late = []
 p1:(S0 4).put [97,98]=(⟨d1,[(1,([97,98],[0]))],[true,false,false,false],2,0⟩,1,0)
 p2:Sto.put ⟨d1,[(1,([97,98],[0]))],[true,false,false,false],2,0⟩ zba=(⟨d2,[(1,([97,98],[0])),(2,(zba,[1,2,3]))],[true,true,true,true],3,0⟩,2,0)
 p3:Sto.put ⟨d2,[(1,([97,98],[0])),(2,(zba,[1,2,3]))],[true,true,true,true],3,0⟩ []=(⟨d2,[(1,([97,98],[0])),(2,(zba,[1,2,3]))],[true,true,true,true],3,0⟩,0,181)
 r:Sto.rem ⟨d2,[(1,([97,98],[0])),(2,(zba,[1,2,3]))],[true,true,true,true],3,0⟩ 2=(⟨d3,[(1,([97,98],[0]))],[true,false,false,false],3,0⟩,0)
 p4:Sto.put ⟨d3,[(1,([97,98],[0]))],[true,false,false,false],3,0⟩ []=(⟨d4,[(1,([97,98],[0])),(3,([],[1]))],[true,true,false,false],4,0⟩,3,0)
theorem ex9:∃d1 d2 d3 d4,Ex9 d1 d2 d3 d4:=by
 obtain⟨d1,s1,n1,l1,e1⟩:=zed (S:=S0 4) (Zz 4) rfl (by decide) rfl (b:=[97,98]) (by decide) (by decide)
 have n1:d1.n=4:=n1;obtain⟨d2,s2,n2,l2,e2⟩:=zed (S:=⟨d1,[(1,([97,98],[0]))],[true,false,false,false],2,0⟩) s1 rfl (by show(2:Int)≤_;decide) n1.symm (b:=zba) (by rw[zbb];decide) (by
  have:zk zba.length=3:=by rw[zbb];rfl
  rw[this];show(yj [true,false,false,false] 3 4).length=3;decide)
 have n2:d2.n=4:=n2.trans n1;obtain⟨d3,s3,n3,l3,e3⟩:=rem_ok (S:=⟨d2,[(1,([97,98],[0])),(2,(zba,[1,2,3]))],[true,true,true,true],3,0⟩) s2 rfl (k:=2) (r:=(zba,[1,2,3])) rfl (by show 1<d2.n;omega)
 have n3:d3.n=4:=n3.trans n2;obtain⟨d4,s4,n4,l4,e4⟩:=zed (S:=⟨d3,[(1,([97,98],[0]))],[true,false,false,false],3,0⟩) s3 rfl (by show(3:Int)≤_;decide) n3.symm (b:=[]) (by decide) (by show(yj [true,false,false,false] 1 4).length=1;decide)
 have n4:d4.n=4:=n4.trans n3;refine⟨d1,d2,d3,d4,⟨⟨n1,n2,n3,n4⟩,⟨l1,l2,l3,l4⟩,?_,?_,?_,?_,?_⟩⟩
 ·rw[e1];rfl
 ·rw[e2]
  have:zk zba.length=3:=by rw[zbb];rfl
  rw[this];rfl
 ·exact zpt rfl (by show(3:Int)≤_;decide) (by decide) (by show(yj [true,true,true,true] 1 4).length<1;decide)
 ·rw[e3];rfl
 ·rw[e4];rfl
set_option maxRecDepth 100000 in
theorem Ya (W:World):Calls Tryz.prog 17 #[] W λe w'=>e = .returned (.bool true)∧W.grownBy w' none:=by
 have HN:=zd (dnew 4 W);obtain⟨d1,d2,d3,d4,HEX⟩:=ex9;have HE:=zd HEX;clear HEX;have hmk:∀w:World,(Instr.makeSlice 32 (.int .i64 500) (.int .i64 500)).run Tryz.prog w=_:=Vc 500 (by omega)
 have hcv:=λ(w:World) (C:Array Value) (n c:Nat)=>Lib.run_convert_bytes_const (P:=Tryz.prog) w 32 5 C n c Tryz.underlying32 Tryz.underlying5
 go_enter Tryz.func17,Tryz.ntmps17
 go_upto_region 4 with (first
  | (go_at_call 19;refine HN.out.mono ?_;rintro e w1 ⟨db,rfl,hg1,-,hd1⟩;have HOP:=zd (zd6 (W:=W) 4 hg1 hd1);clear hg1 hd1)
  | (go_at_call 18;refine HOP.out.mono ?_;rintro e w2 ⟨st,rfl,hst⟩;have HS:=zd hst;clear hst HOP))
 have HP1:Hid (∀w,w2.grownBy w none→∀v,xw (λk=>w2.heap.size≤k∧k<w.heap.size) w v (zg [97,98])→Calls Tryz.prog 20 #[.pointer (some ⟨st,0,none⟩),v] w λe w'=>e = .returned (.tuple #[.int .i64 1,.int .i64 0])∧Zp W st ⟨d1,[(1,([97,98],[0]))],[true,false,false,false],2,0⟩ w'):=(show ∀w,_→∀v,_→Calls _ _ _ _ _ from λw hg v hv=>by
  have:=HS.out.put hg hv (λb hb=>by simp at hb;omega) (by decide) (by decide)
  rw[HE.out.p1] at this
  exact this)
 go_upto_region 5 with (go_at_call 20;refine(HP1.out _ (ze _ _ none) _ (Va (b:=[97,98]) (cap:=2) _ (by decide) (by decide) _ (Nat.le_refl _))).mono ?_;rintro e w3 ⟨rfl,hst⟩;have HS1:=zd hst;clear hst)
 have HP2:Hid (∀w,w3.grownBy w none→∀v,xw (λk=>w3.heap.size≤k∧k<w.heap.size) w v (zg zba)→Calls Tryz.prog 20 #[.pointer (some ⟨st,0,none⟩),v] w λe w'=>e = .returned (.tuple #[.int .i64 2,.int .i64 0])∧Zp W st ⟨d2,[(1,([97,98],[0])),(2,(zba,[1,2,3]))],[true,true,true,true],3,0⟩ w'):=(show ∀w,_→∀v,_→Calls _ _ _ _ _ from λw hg v hv=>by
  have:=HS1.out.put hg hv (z_BL 500) (by rw[zbb];decide) (by rw[HE.out.late.1];decide)
  rw[HE.out.p2] at this
  exact this)
 go_upto_region 6 with (go_at_call 20;refine(HP2.out _ (ze _ _ none) _ (Zy (b:=List.replicate 500 0) (cap:=500) (by rw[List.length_replicate];exact Nat.le_refl _) (by decide) _ (Nat.le_refl _))).mono ?_;rintro e w4 ⟨rfl,hst⟩;have HS2:=zd hst;clear hst)
 go_upto_region 7 with (go_at_call 22;refine HS2.out.free.mono ?_;rintro e w5 ⟨rfl,h5⟩;obtain rfl:w4=w5:=h5.symm)
 have HP3:Hid (∀w,w4.grownBy w none→∀v,xw (λk=>w4.heap.size≤k∧k<w.heap.size) w v (zg [])→Calls Tryz.prog 20 #[.pointer (some ⟨st,0,none⟩),v] w λe w'=>e = .returned (.tuple #[.int .i64 0,.int .i64 181])∧Zp W st ⟨d2,[(1,([97,98],[0])),(2,(zba,[1,2,3]))],[true,true,true,true],3,0⟩ w'):=(show ∀w,_→∀v,_→Calls _ _ _ _ _ from λw hg v hv=>by
  have:=HS2.out.put hg hv (λb hb=>by simp at hb) (by decide) (by rw[HE.out.late.2.1];decide)
  rw[HE.out.p3] at this
  exact this)
 go_upto_region 8 with (go_at_call 20;refine(HP3.out _ (zi _) _ (zi2 _ _)).mono ?_;rintro e w5 ⟨rfl,hst⟩;have HS3:=zd hst;clear hst)
 have HR4:Hid (Calls Tryz.prog 30 #[.pointer (some ⟨st,0,none⟩),.int .i64 2] w5 λe w'=>e = .returned (.int .i64 0)∧Zp W st ⟨d3,[(1,([97,98],[0]))],[true,false,false,false],3,0⟩ w'):=(show Calls _ _ _ _ _ from by
  have:=HS3.out.rem 2 (by rw[HE.out.late.2.1];decide)
  rw[HE.out.r] at this
  exact this)
 go_upto_region 9 with (go_at_call 30;refine HR4.out.mono ?_;rintro e w6 ⟨rfl,hst⟩;have HS4:=zd hst;clear hst)
 go_upto_region 10 with (go_at_call 22;refine HS4.out.free.mono ?_;rintro e w7 ⟨rfl,h5⟩;obtain rfl:w6=w7:=h5.symm)
 have HP5:Hid (∀w,w6.grownBy w none→∀v,xw (λk=>w6.heap.size≤k∧k<w.heap.size) w v (zg [])→Calls Tryz.prog 20 #[.pointer (some ⟨st,0,none⟩),v] w λe w'=>e = .returned (.tuple #[.int .i64 3,.int .i64 0])∧Zp W st ⟨d4,[(1,([97,98],[0])),(3,([],[1]))],[true,true,false,false],4,0⟩ w'):=(show ∀w,_→∀v,_→Calls _ _ _ _ _ from λw hg v hv=>by
  have:=HS4.out.put hg hv (λb hb=>by simp at hb) (by decide) (by rw[HE.out.late.2.2.1];decide)
  rw[HE.out.p4] at this
  exact this)
 go_upto_region 11 with (go_at_call 20;refine(HP5.out _ (zi _) _ (zi2 _ _)).mono ?_;rintro e w7 ⟨rfl,hst⟩;have HS5:=zd hst;clear hst)
 have HG6:Hid (Calls Tryz.prog 21 #[.pointer (some ⟨st,0,none⟩),.int .i64 1] w7 λe w'=>w7.grownBy w' none∧∃p c,e = .returned (.tuple #[.slice p 2 c,.bool true])∧jx w7 w' (.slice p 2 c) [97,98]):=(show Calls _ _ _ _ _ from by
  refine(HS5.out.get 1).mono ?_;rintro e w' ⟨hg,v,rfl,⟨h0,-⟩|⟨r,h0,hr⟩⟩
  ·simp[zw] at h0
  ·simp[zw] at h0
   subst h0;obtain⟨p,c,rfl⟩:∃p c,v = .slice p 2 c:=by
    rcases hr.2 with ⟨e,h0⟩|⟨g,c,cur,e,_⟩
    ·simp at h0
    ·exact⟨_,_,e⟩
   exact⟨hg,p,c,rfl,hr⟩)
 go_upto_region 12 with (go_at_call 21;refine HG6.out.mono ?_;rintro e w8 ⟨hg,p,c,rfl,hr⟩;have HG8:=zd hg;have HR8:=zd hr;clear hg hr)
 have hcz:(convert 32 9 (.slice p 2 c)).run Tryz.prog w8 = .ok (.string (ofB [97,98])) w8:=Jv (HR8.out.rowP (by decide))
 have hez:((ofB [97,98]).toList == [97,98])=true:=by
  have e : ofB [97, 98] = "ab".toUTF8 := by rfl
  decide +kernel
 go_wp2
 go_ret
 exact⟨rfl,zh HS5.out.gr HG8.out⟩
theorem ziz (m:Nat) (h:m<9223372036854775808):IntKind.i64.wrap ((m:Int).tdiv ((230:Nat):Int))=((m / 230:Nat):Int):=by
 have e:((m:Int).tdiv ((230:Nat):Int))=((m / 230:Nat):Int):=rfl;rw[e,IntKind.wrap_i64];omega
set_option maxRecDepth 100000 in
theorem zbo (n:Int) (h1:n<9223372036854775808) (W:World):Calls Tryz.prog 15 #[.int .i64 n] W λe w'=>e = .returned (.int .i64 (if n<0 then 0 else (zk n.toNat:Int)))∧w'=W:=by
 by_cases h0:n<0
 ·go_enter Tryz.func15,Tryz.ntmps15
  go_wp2
  go_ret
  exact⟨by simp,rfl⟩
 ·simp only[h0,if_false]
  obtain⟨m,rfl⟩:∃m:Nat,n=(m:Int):=⟨n.toNat,by omega⟩
  simp only[Int.toNat_natCast];have hq:=ziz m (by omega)
  have hr:=zhb m 230;have HE:Hid ((m / 230=0→m%230=0→zk m=1)∧(1≤m%230→zk m=m / 230+1)∧(m%230=0→1≤m / 230→zk m=m / 230)):=(show _∧_∧_ from by unfold zk;omega)
  have hql:m / 230<4611686018427387904:=by omega
  have hrl:m%230<230:=Nat.mod_lt _ (by omega)
  generalize m / 230=q at *;generalize m%230=r at *;have HQ:=zd hq;have HR:=zd hr;generalize zk m=pm at *;clear hq hr h1
  go_enter Tryz.func15,Tryz.ntmps15
  go_wp2_with (first
   | (refine Ui _ rfl _ _ _ _ rfl (m:Int) (230:Nat) (q:Int) rfl rfl (by decide) HQ.out ?_)
   | (refine Xq _ rfl _ _ _ _ rfl (m:Int) (230:Nat) (r:Int) rfl rfl (by decide) HR.out ?_))
  all_goals go_ret
  all_goals (refine⟨congrArg (λz=>Ending.returned (Value.int .i64 z)) ?_,rfl⟩;have:=HE.out;first|omega|(split <;> omega))
set_option maxRecDepth 100000 in
theorem Ud (n:Int) (h1:n<9223372036854775808) (W:World):Calls Tryz.prog 16 #[.int .i64 n] W λe w'=>e = .returned (.int .i64 (if n<0 then 0 else (zk n.toNat:Int)))∧w'=W:=by
 by_cases h0:n<0
 ·go_enter Tryz.func16,Tryz.ntmps16
  go_wp2
  go_ret
  exact⟨by simp,rfl⟩
 ·simp only[h0,if_false]
  obtain⟨m,rfl⟩:∃m:Nat,n=(m:Int):=⟨n.toNat,by omega⟩
  simp only[Int.toNat_natCast];have hq:=ziz m (by omega)
  have hr:=zhb m 230;have HE:Hid ((m / 230=0→m%230=0→zk m=1)∧(1≤m%230→zk m=m / 230+1)∧(m%230=0→1≤m / 230→zk m=m / 230)):=(show _∧_∧_ from by unfold zk;omega)
  have hql:m / 230<4611686018427387904:=by omega
  have hrl:m%230<230:=Nat.mod_lt _ (by omega)
  generalize m / 230=q at *;generalize m%230=r at *;have HQ:=zd hq;have HR:=zd hr;generalize zk m=pm at *;clear hq hr h1
  by_cases hr1:1≤r
  ·have hr2:((0:Int)<(r:Int))=True:=by simp;omega
   go_enter Tryz.func16,Tryz.ntmps16
   go_wp2_with (first
    | (refine Ui _ rfl _ _ _ _ rfl (m:Int) (230:Nat) (q:Int) rfl rfl (by decide) HQ.out ?_)
    | (refine Xq _ rfl _ _ _ _ rfl (m:Int) (230:Nat) (r:Int) rfl rfl (by decide) HR.out ?_))
   all_goals go_ret
   all_goals (refine⟨congrArg (λz=>Ending.returned (Value.int .i64 z)) ?_,rfl⟩;have:=HE.out;first|omega|(split <;> omega))
  ·obtain rfl:r=0:=by omega
   go_enter Tryz.func16,Tryz.ntmps16
   go_wp2_with (first
    | (refine Ui _ rfl _ _ _ _ rfl (m:Int) (230:Nat) (q:Int) rfl rfl (by decide) HQ.out ?_)
    | (refine Xq _ rfl _ _ _ _ rfl (m:Int) (230:Nat) (0:Int) rfl rfl (by decide) HR.out ?_))
   all_goals go_ret
   all_goals (refine⟨congrArg (λz=>Ending.returned (Value.int .i64 z)) ?_,rfl⟩;obtain⟨x1,-,x3⟩:=HE.out;rcases Nat.eq_zero_or_pos q with hz|hz)
   ·have:=x1 hz (by trivial);omega
   ·have:=x3 (by trivial) hz;omega
structure Ex19 (n:Nat) (d1:Dk) (S1:Sto):Prop where
 d:S1.d=d1
 late:d1.late = []
 p:(S0 20).put (List.replicate n 0)=(S1,1,0)
 g:∃bl,zw S1.recs 1=some (List.replicate n 0,bl)
 f:freeN S1.taken=20-zk n∧zk n≤14
theorem ex19 (n:Nat) (h:n≤3000):∃d1 S1,Ex19 n d1 S1:=by
 have hp:zk n≤14∧1≤zk n:=by unfold zk;omega
 have hl:(List.replicate n (0:Int)).length=n:=List.length_replicate;have e0:∀p:Fin 15,(yj (List.replicate 20 false) p 20).length=p∧freeN (qa (List.replicate 20 false) (yj (List.replicate 20 false) p 20) true)=20-p:=by decide
 have e1:=e0 ⟨zk n,by omega⟩
 obtain⟨d1,s1,n1,l1,e⟩:=zed (S:=S0 20) (Zz 20) rfl (by decide) rfl (b:=List.replicate n 0) (by rw[hl];omega) (by rw[hl];exact e1.1)
 refine⟨d1,_,rfl,l1,e,⟨_,rfl⟩,?_,hp.1⟩;rw[hl]
 exact e1.2
theorem zgu {st:Nat} {S:Sto} {bl:List Nat} {k:Int} (h:Zp W st S w) (hm:zw S.recs k=some (b,bl)):Calls Tryz.prog 21 #[.pointer (some ⟨st,0,none⟩),.int .i64 k] w λe w'=>w.grownBy w' none∧∃p c,e = .returned (.tuple #[.slice p b.length c,.bool true])∧jx w w' (.slice p b.length c) b:=by
 refine(h.get k).mono ?_;rintro e w' ⟨hg,v,rfl,⟨h0,-⟩|⟨r,h0,hr⟩⟩
 ·rw[hm] at h0;cases h0
 ·rw[hm] at h0
  cases h0
  rw[hm]
  rcases hr.2 with ⟨rfl,h0⟩|⟨g,c,cur,rfl,_⟩
  ·have h0:b.length=0:=h0
   refine⟨hg,none,0,?_,?_⟩
   ·rw[h0];rfl
   ·rw[h0];exact hr
  ·exact⟨hg,_,_,rfl,hr⟩
set_option maxRecDepth 100000 in
theorem zk6 (n:Int) (h1:n<9223372036854775808) (hf:n<0∨3000<n) (W:World):Calls Tryz.prog 3 #[.int .i64 n] W λe w'=>e = .returned (.bool true)∧W.grownBy w' none:=by
 have HP:=zd (zbo n h1);have HR:=zd (Ud n h1);have HW:=zd Ya;generalize (if n<0 then 0 else (zk n.toNat:Int))=pm at HP HR
 rcases hf with hf|hf
 ·go_enter Tryz.func3,Tryz.ntmps3
  go_wp2_with (first
   | (go_at_call 15;refine(HP.out _).mono ?_;rintro e w1 ⟨rfl,h5⟩;obtain rfl:W=w1:=h5.symm)
   | (go_at_call 16;refine(HR.out _).mono ?_;rintro e w1 ⟨rfl,h5⟩;obtain rfl:W=w1:=h5.symm)
   | (go_at_call 17;refine(HW.out _).mono ?_;rintro e w1 ⟨rfl,hg⟩;have HG:=zd hg;clear hg))
  go_ret
  exact⟨rfl,HG.out⟩
 ·have hn:¬n<0:=by omega
  go_enter Tryz.func3,Tryz.ntmps3
  go_wp2_with (first
   | (go_at_call 15;refine(HP.out _).mono ?_;rintro e w1 ⟨rfl,h5⟩;obtain rfl:W=w1:=h5.symm)
   | (go_at_call 16;refine(HR.out _).mono ?_;rintro e w1 ⟨rfl,h5⟩;obtain rfl:W=w1:=h5.symm)
   | (go_at_call 17;refine(HW.out _).mono ?_;rintro e w1 ⟨rfl,hg⟩;have HG:=zd hg;clear hg))
  go_ret
  exact⟨rfl,HG.out⟩
set_option maxRecDepth 100000 in
theorem zji (n:Nat) (hn:n≤3000) (W:World):Calls Tryz.prog 3 #[.int .i64 (n:Int)] W λe w'=>e = .returned (.bool true)∧W.grownBy w' none:=by
 have hpa:=zbo (n:Int) (by omega)
 have hra:=Ud (n:Int) (by omega)
 rw[if_neg (by omega),Int.toNat_natCast] at hpa hra
 have HP:=zd hpa;have HR:=zd hra;clear hpa hra;have HW:=zd Ya;have HN:=zd (dnew 20 W);obtain⟨d1,S1,HEX⟩:=ex19 n hn;have hmk:=Vc n (by omega)
 have hfn:=HEX.f;have HE:=zd HEX;clear HEX;have hn0:¬(n:Int)<0:=by omega
 have hn3:¬(3000:Int)<(n:Int):=by omega
 generalize zk n=pm at HP HR hfn
 go_enter Tryz.func3,Tryz.ntmps3
 go_upto_region 8 with (first
  | (go_at_call 15;refine(HP.out _).mono ?_;rintro e w1 ⟨rfl,h5⟩;obtain rfl:W=w1:=h5.symm)
  | (go_at_call 16;refine(HR.out _).mono ?_;rintro e w1 ⟨rfl,h5⟩;obtain rfl:W=w1:=h5.symm)
  | (go_at_call 19;refine HN.out.mono ?_;rintro e w1 ⟨db,rfl,hg1,-,hd1⟩;have HOP:=zd (zd6 (W:=W) 20 hg1 hd1);clear hg1 hd1)
  | (go_at_call 18;refine HOP.out.mono ?_;rintro e w2 ⟨st,rfl,hst⟩;have HS:=zd hst;clear hst HOP))
 have HP1:Hid (∀w,w2.grownBy w none→∀v,xw (λk=>w2.heap.size≤k∧k<w.heap.size) w v (zg (List.replicate n 0))→Calls Tryz.prog 20 #[.pointer (some ⟨st,0,none⟩),v] w λe w'=>e = .returned (.tuple #[.int .i64 1,.int .i64 0])∧Zp W st S1 w'):=(show ∀w,_→∀v,_→Calls _ _ _ _ _ from λw hg v hv=>by
  have:=HS.out.put hg hv (z_BL n) (by rw[List.length_replicate];omega) (by decide)
  rw[HE.out.p] at this
  exact this)
 have HRP:Hid (xw (λk=>w2.heap.size≤k∧k<(w2.alloc (.cells (zg (List.replicate n 0)).toArray 5)).heap.size) (w2.alloc (.cells (zg (List.replicate n 0)).toArray 5)) (.slice (some ⟨w2.heap.size,0,none⟩) n n) (zg (List.replicate n 0))):=(show xw _ _ _ _ from by
  have:=Zy (w:=w2) (b:=List.replicate n 0) (T:=5) (cap:=n) (by rw[List.length_replicate];exact Nat.le_refl _) (by omega) w2.heap.size (Nat.le_refl _)
  rw[List.length_replicate] at this
  exact this)
 go_upto_region 9 with (go_at_call 20;refine(HP1.out _ (ze _ _ none) _ HRP.out).mono ?_;rintro e w3 ⟨rfl,hst⟩;have HS1:=zd hst;clear hst)
 obtain⟨bl,hbl⟩:=HE.out.g;have hgn:=zgu HS1.out hbl;rw[List.length_replicate] at hgn;have HG4:=zd hgn;clear hgn hbl
 go_upto_region 10 with (go_at_call 21;refine HG4.out.mono ?_;rintro e w4 ⟨hg,p,c,rfl,hr⟩;have HG8:=zd hg;clear hg hr)
 have hfr:=(HS1.out.grown HG8.out).free;have hcast:((20-pm:Nat):Int)=20-(pm:Int):=by omega
 rw[hfn.1,hcast] at hfr;have HFR:=zd hfr;have hw20:IntKind.i64.wrap (20-(pm:Int))=20-(pm:Int):=by rw[IntKind.wrap_i64];omega
 clear hfr hcast
 go_wp2_with (first
  | (go_at_call 15;refine(HP.out _).mono ?_;rintro e w5 ⟨rfl,h5⟩;obtain rfl:w4=w5:=h5.symm)
  | (go_at_call 22;refine HFR.out.mono ?_;rintro e w5 ⟨rfl,h5⟩;obtain rfl:w4=w5:=h5.symm)
  | (go_at_call 17;refine(HW.out _).mono ?_;rintro e w5 ⟨rfl,hg⟩;have HG9:=zd hg;clear hg))
 go_ret
 exact⟨rfl,zh HS1.out.gr (zh HG8.out HG9.out)⟩
open Go.RowKit Go.Sf Go.Shelf
theorem Jy (enc:α→List Value) (sz:Nat) (he:∀x,(enc x).length=sz):∀(l:List α) (i j:Nat) (hi:i<l.length),j<sz→(l.flatMap enc)[i*sz+j]? = (enc l[i])[j]?
 | [],i,j,hi,_=>by simp at hi
 | x :: r,0,j,hi,hj=>by
  simp only[List.flatMap_cons,Nat.zero_mul,Nat.zero_add,List.getElem_cons_zero];rw[List.getElem?_append_left (by rw[he];exact hj)]
 | x :: r,i+1,j,hi,hj=>by
  simp only[List.flatMap_cons,List.getElem_cons_succ];rw[List.getElem?_append_right (by rw[he,Nat.succ_mul];omega),he]
  have e:(i+1)*sz+j-sz=i*sz+j:=by rw[Nat.succ_mul];omega
  rw[e]
  exact Jy enc sz he r i j (by simpa using hi) hj
theorem Xc (enc:α→List Value) (sz:Nat) (he:∀x,(enc x).length=sz):∀(l:List α),(l.flatMap enc).length=l.length*sz
 | []=>by simp
 | x :: r=>by simp only[List.flatMap_cons,List.length_append,he,Xc enc sz he r,List.length_cons,Nat.succ_mul];omega
theorem xp {w1 w2:World} (h1:W.grownBy w1 none) (h2:w1.grownBy w2 r) (hr:∀b,r=some b→W.heap.size≤b):W.grownBy w2 none:=
 ⟨h2.os.trans h1.os,h2.tape.trans h1.tape,h2.output.trans h1.output,Nat.le_trans h1.size h2.size,λk hk _=>(h2.block k (Nat.lt_of_lt_of_le hk h1.size) (λe=>by have:=hr k e.symm;omega)).trans (h1.block k hk (by simp))⟩
def yl {α:Type} (W:World) (E:TypeId) (sz:Nat) (enc:α→List Value) (v:Value) (l:List α):Prop:=W.ownsRow 0 E sz v l.length (l.flatMap enc)
section
variable {α : Type} {W W' : World} {E : TypeId} {sz : Nat} {enc : α → List Value} {v : Value} {l : List α}
theorem yl.form (h:yl W E sz enc v l):∃p cap,v = .slice p l.length cap∧cap≤9223372036854775807∧l.length≤cap:=by
 rcases h.2 with ⟨e1,h0⟩|⟨b,c,cur,e1,_,_,r1,r2,_⟩
 ·exact⟨none,0,by rw[e1,h0],by omega,by omega⟩
 ·exact⟨_,_,e1,by unfold maxLen at r2;omega,r1⟩
theorem yl.at (he:∀x,(enc x).length=sz) (h:yl W E sz enc v l):l = []∨∃g cap,v = .slice (some ⟨g,0,none⟩) l.length cap∧(∀i,(hi:i<l.length)→∀j u,(enc l[i])[j]? = some u→W.cell? ⟨g,i*sz+j,none⟩=some u)∧∀i,W.frozen? ⟨g,i,none⟩=false:=by
 rcases h.2 with ⟨e1,h0⟩|⟨b,c,cur,e1,_,hb,r1,r2,r3,r4⟩
 ·exact Or.inl (List.eq_nil_of_length_eq_zero h0)
 ·refine Or.inr ⟨b,c,e1,λi hi j u hu=>?_,λi=>by simp[World.frozen?,hb]⟩
  have hj:j<sz:=by
   have:=(List.getElem?_eq_some_iff.1 hu).1;rw[he] at this
   exact this
  have h2:=h;unfold yl at h2;rw[e1] at h2;have hlt:i*sz+j<l.length*sz:=by
   have:(i+1)*sz≤l.length*sz:=Nat.mul_le_mul_right _ hi;rw[Nat.succ_mul] at this;omega
  rw[h2.cellAt _ hlt,Jy enc sz he l i j hi hj]
  exact hu
theorem yl.same (h:yl W E sz enc v l) (hs:∀g,v.ownBlock=some g→W'.heap[g]? = W.heap[g]?):yl W' E sz enc v l:=by
 refine⟨h.1,?_⟩
 rcases h.2 with hn|⟨b,cap,cur,rfl,h1,hb,h3⟩
 ·exact .inl hn
 ·exact .inr ⟨b,cap,cur,rfl,h1,(hs b (by simp[Value.ownBlock])).trans hb,h3⟩
theorem yl.lt (h:yl W E sz enc v l) (hg:v.ownBlock=some g):g<W.heap.size:=(World.ownsRow.lt h g hg).2
theorem yl.kind (h:yl W E sz enc v l) (hg:v.ownBlock=some g):∃c,W.heap[g]? = some (.cells c E (0,0)):=by
 rcases h.2 with ⟨rfl,_⟩|⟨b,cap,cur,rfl,_,hb,_⟩
 ·simp[Value.ownBlock] at hg
 ·simp[Value.ownBlock] at hg
  subst hg
  exact⟨_,hb⟩
theorem yl.grown (h:yl W E sz enc v l) (hg:W.grownBy W' r) (hr:∀g,v.ownBlock=some g→r≠some g):yl W' E sz enc v l:=
 h.same λg hg2=>hg.block g (h.lt hg2) (λe=>hr g hg2 e.symm)
end
theorem ji {α:Type} {E E':TypeId} {sz:Nat} {enc:α→List Value} {l:List α} (h:yl W E sz enc v l) {c:Array Value} {fr:Nat × Nat} (hg:W.heap[g]? = some (.cells c E' fr)) (hne:E≠E'):v.ownBlock≠some g:=by
 intro e;obtain⟨c',h2⟩:=h.kind e;rw[hg] at h2
 cases h2
 exact hne rfl
def Zh {α:Type} (W:World) (enc:α→List Value) (y:Value) (m:List α):Prop:=∃p cap,y = .slice p m.length cap∧(m = []∨∃a,p=some a∧∀j u,(m.flatMap enc)[j]? = some u→W.cell? (a.add j)=some u)
def Yg {α:Type} (W:World) (E:TypeId) (sz:Nat) (enc:α→List Value) (v:Value) (l:List α) (v':Value) (w':World):Prop:=
 yl w' E sz enc v' l∧W.grownBy w' v.ownBlock∧(v'.ownBlock=v.ownBlock∨v'.ownBlock=some W.heap.size)
section
variable {α : Type} {P : Program} {W : World} {E : TypeId} {sz : Nat} {enc : α → List Value} {v y : Value} {l m : List α}
theorem zi8 (he:∀x,(enc x).length=sz) (h1c:∀x,∀u∈enc x,u.oneCell'=true) (t ty:TypeId) (i:TypeInfo) (z:Value) (bytes:Nat) (ht:P.underlying t=some (.slice E)) (hi:P.info? E=some i) (hz:i.zero=some z)
 (hsize:i.size=sz) (hby:i.bytes=bytes) (hzs:z.cells.size=sz) (hsz:0<sz) (hb:bytes≤1000) (h:yl W E sz enc v l) (hy:Zh W enc y m) (hl:l.length+m.length≤1000000000) :
  ∃v' w',(Builtin.append_ #[t,t] ty #[v,y]).run P W = .ok v' w'∧Yg W E sz enc v (l++m) v' w':=by
 obtain⟨p,cap,rfl,hc⟩:=hy
 cases p with
 | none=>
  have hm:m = []:=by
   rcases hc with h0|⟨a,ha,_⟩
   ·exact h0
   ·cases ha
  subst hm;have e0:(Builtin.append_ #[t,t] ty #[v,.slice none 0 cap]).run P W = .ok v W:=by
   rcases h.2 with ⟨rfl,h0⟩|⟨g,c,cur,rfl,_,_,hnc,_⟩
   ·simp[Builtin.append_,run_underlying ht,sizeOf,typeInfo,hi,Builtin.lenOf,Builtin.firstCells,h0]
   ·simp[Builtin.append_,run_underlying ht,sizeOf,typeInfo,hi,Builtin.lenOf,Builtin.firstCells,hnc,storeCells]
  exact⟨v,W,e0,by rw[List.append_nil];exact h,⟨rfl,rfl,rfl,Nat.le_refl _,λ_ _ _=>rfl⟩,Or.inl rfl⟩
 | some a=>
  have hnews:∀j u,(m.flatMap enc)[j]? = some u→W.cell? (a.add j)=some u:=by
   rcases hc with h0|⟨a',ha,hc⟩
   ·subst h0;intro j u hu;simp at hu
   ·cases ha;exact hc
  have hbm:(l.length+m.length)*bytes≤140737488355328:=Nat.le_trans (Nat.mul_le_mul_left _ hb) (by omega)
  obtain⟨v',w',hr,h2,h3,h4,h5⟩:=run_append_own_at (P:=P) W 0 t ty E i z sz bytes ht hi hz hsize hby hzs hsz v l.length (l.flatMap enc) h a m.length cap (m.flatMap enc) (Xc enc sz he m) hnews (λu hu=>by
   obtain⟨x,_,hx⟩:=List.mem_flatMap.1 hu
   exact h1c x u hx) (by unfold maxLen;omega) hbm (Nat.zero_le _)
  refine⟨v',w',hr,?_,h3,h5⟩;unfold yl;rw[List.length_append,List.flatMap_append]
  exact h2
theorem xn (w:World) {rest:List Oper} {o:Oper} (hgd:o.guard=none) (s x:Operand) (t:TypeId) (hop:o.op = .call { callee:=.builtin .append,args:=#[s,x],argTypes:=#[t,t] })
 (he:∀x,(enc x).length=sz) (h1c:∀x,∀u∈enc x,u.oneCell'=true) (i:TypeInfo) (z:Value) (bytes:Nat) (ht:P.underlying t=some (.slice E)) (hi:P.info? E=some i) (hz:i.zero=some z)
 (hsize:i.size=sz) (hby:i.bytes=bytes) (hzs:z.cells.size=sz) (hsz:0<sz) (hb:bytes≤1000) (hs:a.eval s=v) (h:yl w E sz enc v l) (hx:a.eval x=y) (hy:Zh w enc y m) (hl:l.length+m.length≤1000000000) (n:Nat) (hn:l.length+m.length=n)
 (hK:∀p' cap' w',Yg w E sz enc v (l++m) (.slice p' n cap') w'→wpList P ops Q rest (a.put o.dst (.slice p' n cap')) w'):wpList P ops Q (o :: rest) a w:=by
 obtain⟨v',w',hr,h1⟩:=zi8 (P:=P) he h1c t o.type i z bytes ht hi hz hsize hby hzs hsz hb h hy hl;obtain⟨p',cap',rfl,-,-⟩:=h1.1.form;rw[List.length_append,hn] at hr h1
 exact Go.Lib.wpList_append_run w hgd s x t t hop v y hs hx _ _ hr (hK p' cap' w' h1)
theorem Zf {o:Oper} {K:Act→World→Prop} {F:Prop} (hgd:o.guard=none) (s x:Operand) (t:TypeId) (hop:o.op=Op.call { callee:=Callee.builtin Builtin.append,args:=#[s,x],argTypes:=#[t,t] })
 (he:∀x,(enc x).length=sz) (h1c:∀x,∀u∈enc x,u.oneCell'=true) (i:TypeInfo) (z:Value) (bytes:Nat) (ht:P.underlying t=some (.slice E)) (hi:P.info? E=some i) (hz:i.zero=some z)
 (hsize:i.size=sz) (hby:i.bytes=bytes) (hzs:z.cells.size=sz) (hsz:0<sz) (hb:bytes≤1000) (hs:a.eval s=v) (h:yl w E sz enc v l) (hx:a.eval x=y) (hy:Zh w enc y m) (hl:l.length+m.length≤1000000000) (n:Nat) (hn:l.length+m.length=n)
 (hK:∀p' cap' w',Yg w E sz enc v (l++m) (.slice p' n cap') w'→K (a.put o.dst (.slice p' n cap')) w'):if Region.wanted o (yielded ops a.tmps)=true then Oper.wp P o a w K Q else F:=by
 have hw:Region.wanted o (yielded ops a.tmps)=true:=by simp[Region.wanted,hgd]
 rw[if_pos hw];obtain⟨v',w',hr,h1⟩:=zi8 (P:=P) he h1c t o.type i z bytes ht hi hz hsize hby hzs hsz hb h hy hl;obtain⟨p',cap',rfl,-,-⟩:=h1.1.form;rw[List.length_append,hn] at hr h1
 exact Go.Lib.wp_append_run w s x t t hop v y hs hx _ _ hr (hK p' cap' w' h1)
end
end Go.Proofs.YtbcbhlfjgobejaaGreat
