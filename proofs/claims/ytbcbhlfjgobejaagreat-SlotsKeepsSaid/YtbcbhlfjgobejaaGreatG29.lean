/- Bytes told as a string. Conditions: as the theorems say. The chapter's example: walked. Conditions: none. The number of parts, of any int: the program's and the document's walked. Conditions: the argument is an int. starfishref02.Bytes: the walk. Conditions: at most 8 bytes. starfishref01.Sum, bit by bit, is the program's check: the walk. Conditions: a row of bytes in memory. starfishref01.Sum: the walk. Conditions: a row of bytes in memory. starfishref19.Block is the block of a part: the walk. Conditions: numbers in their ranges, at most 230 bytes. SlotsParts: walked. Conditions: the argument is an int. What an opening finds on a disk of one block, of which only the first bytes were written. Plain laws. Conditions: as the theorems say. SlotsKeeps: a store on a disk that may fail; what calls and openings leave. Plain laws. Conditions: as the theorems say. -/
import Derived.Test.YtbcbhlfjgobejaaGreatG28
import Derived.Lib.SlBytesConst
import Derived.Lib.AppendStr
import Derived.Deep.OwnRows
import Derived.Laws.OwnMore
import Derived.Test.YtbcbhlfjgobejaaGreatG19
set_option linter.unusedSimpArgs false
set_option linter.unusedVariables false
namespace Go.Proofs.YtbcbhlfjgobejaaGreat
open Go.RowKit Go.Sf
theorem conv_row {rb:Nat→Prop} {w:World} {v:Value} {l:List Int} (h:RowP rb w v (bytesV l)):(convert 32 9 v).run Tryz.prog w = .ok (.string (ofB l)) w:=by
 obtain⟨p,cap,rfl,-,-,hc⟩:=h
 rw[run_convert_bytes_string w _ _ 5 p _ cap Tryz.underlying32 Tryz.underlying5 Tryz.underlying9]
 rw[bytesV_len]
 cases p with
 | none=>
  have h0:l = []:=by
   rcases hc with h0|⟨a,h1,_⟩
   ·simpa[bytesV] using h0
   ·cases h1
  subst h0
  simp[Conv.bytesToString,ofB]
  rfl
 | some a=>
  have hl:(loadCells a l.length).run Tryz.prog w = .ok (l.map (Value.int .u8)).toArray w:=by
   have:=run_loadCells_list (P:=Tryz.prog) w a (l.map (Value.int .u8)) (fun j v hj=>by
    rcases hc with h0|⟨a',h1,_,h2⟩
    ·simp[bytesV] at h0;subst h0;simp at hj
    ·cases h1;exact h2 j v (by simpa[bytesV] using hj))
   simpa using this
  rw[run_bytesToString w a l.length cap l hl,push_list]
  simp[ofB,ByteArray.empty,ByteArray.emptyWithCapacity]
  rfl
theorem rowP_alloc2 {w:World} {b:List Int} {T:TypeId} {cap:Nat} (fz:Nat × Nat) (hb:b.length≤cap) (hc:cap≤9223372036854775807) (lo:Nat) (hlo:lo≤w.heap.size):RowP (fun k=>lo≤k∧k<(w.alloc (.cells (bytesV b).toArray T fz)).heap.size) (w.alloc (.cells (bytesV b).toArray T fz)) (.slice (some ⟨w.heap.size,0,none⟩) b.length cap) (bytesV b):=by
 refine⟨some ⟨w.heap.size,0,none⟩,cap,by rw[bytesV_len],by rw[bytesV_len];exact hb,hc,Or.inr ⟨_,rfl,⟨hlo,by simp⟩,fun j u hu=>?_⟩⟩
 rw[addr_at]
 exact(cell_block (heap_alloc_new w _) j).trans (by simpa using hu)
theorem NewRow.rowP {W w:World} {v:Value} {l:List Int} (h:NewRow W w v l) (hl:l.length≤9223372036854775807):RowP (fun k=>W.heap.size≤k∧k<w.heap.size) w v (bytesV l):=by
 rcases h.2 with ⟨rfl,h0⟩|⟨g,cap,cur,rfl,hg,hh,h1,h2,h3,h4⟩
 ·have:l = []:=List.length_eq_zero_iff.mp h0
  subst this
  exact⟨none,0,rfl,by simp[bytesV],by omega,Or.inl rfl⟩
 ·refine⟨some ⟨g,0,none⟩,cap,by rw[bytesV_len],by rw[bytesV_len];exact h1,h2,Or.inr ⟨_,rfl,⟨hg,?_⟩,fun j u hu=>?_⟩⟩
  ·rcases Nat.lt_or_ge g w.heap.size with h|h
   ·exact h
   ·rw[Array.getElem?_eq_none h] at hh;cases hh
  ·rw[addr_at]
   refine(cell_block hh j).trans ?_
   have hj:j<(bytesV l).length:=by
    rcases Nat.lt_or_ge j (bytesV l).length with h|h
    ·exact h
    ·rw[List.getElem?_eq_none h] at hu;cases hu
   rw[←h4,List.getElem?_take,if_pos (by rw[bytesV_len] at hj;omega)] at hu
   simpa using hu
def z500:List Int:=List.replicate 500 0
theorem z500_len:z500.length=500:=List.length_replicate
theorem z_BL (n:Nat):BL (List.replicate n 0):=fun b hb=>by have:=List.eq_of_mem_replicate hb;omega
structure Ex9 (d1 d2 d3 d4:Dk):Prop where
 n:d1.n=4∧d2.n=4∧d3.n=4∧d4.n=4
 late:d1.late = []∧d2.late = []∧d3.late = []∧d4.late = []
 p1:(S0 4).put [97,98]=(⟨d1,[(1,([97,98],[0]))],[true,false,false,false],2,0⟩,1,0)
 p2:Sto.put ⟨d1,[(1,([97,98],[0]))],[true,false,false,false],2,0⟩ z500=(⟨d2,[(1,([97,98],[0])),(2,(z500,[1,2,3]))],[true,true,true,true],3,0⟩,2,0)
 p3:Sto.put ⟨d2,[(1,([97,98],[0])),(2,(z500,[1,2,3]))],[true,true,true,true],3,0⟩ []=(⟨d2,[(1,([97,98],[0])),(2,(z500,[1,2,3]))],[true,true,true,true],3,0⟩,0,181)
 r:Sto.rem ⟨d2,[(1,([97,98],[0])),(2,(z500,[1,2,3]))],[true,true,true,true],3,0⟩ 2=(⟨d3,[(1,([97,98],[0]))],[true,false,false,false],3,0⟩,0)
 p4:Sto.put ⟨d3,[(1,([97,98],[0]))],[true,false,false,false],3,0⟩ []=(⟨d4,[(1,([97,98],[0])),(3,([],[1]))],[true,true,false,false],4,0⟩,3,0)
theorem ex9:∃d1 d2 d3 d4,Ex9 d1 d2 d3 d4:=by
 obtain⟨d1,s1,n1,l1,e1⟩:=put_ok (S:=S0 4) (steady_new 4) rfl (by decide) rfl (b:=[97,98]) (by decide) (by decide)
 have n1:d1.n=4:=n1
 obtain⟨d2,s2,n2,l2,e2⟩:=put_ok (S:=⟨d1,[(1,([97,98],[0]))],[true,false,false,false],2,0⟩) s1 rfl (by show(2:Int)≤_;decide) n1.symm (b:=z500) (by rw[z500_len];decide) (by
  have:partsN z500.length=3:=by rw[z500_len];rfl
  rw[this];show(freeP [true,false,false,false] 3 4).length=3;decide)
 have n2:d2.n=4:=n2.trans n1
 obtain⟨d3,s3,n3,l3,e3⟩:=rem_ok (S:=⟨d2,[(1,([97,98],[0])),(2,(z500,[1,2,3]))],[true,true,true,true],3,0⟩) s2 rfl (k:=2) (r:=(z500,[1,2,3])) rfl (by show 1<d2.n;omega)
 have n3:d3.n=4:=n3.trans n2
 obtain⟨d4,s4,n4,l4,e4⟩:=put_ok (S:=⟨d3,[(1,([97,98],[0]))],[true,false,false,false],3,0⟩) s3 rfl (by show(3:Int)≤_;decide) n3.symm (b:=[]) (by decide) (by show(freeP [true,false,false,false] 1 4).length=1;decide)
 have n4:d4.n=4:=n4.trans n3
 refine⟨d1,d2,d3,d4,⟨⟨n1,n2,n3,n4⟩,⟨l1,l2,l3,l4⟩,?_,?_,?_,?_,?_⟩⟩
 ·rw[e1];rfl
 ·rw[e2]
  have:partsN z500.length=3:=by rw[z500_len];rfl
  rw[this];rfl
 ·exact put_full rfl (by show(3:Int)≤_;decide) (by decide) (by show(freeP [true,true,true,true] 1 4).length<1;decide)
 ·rw[e3];rfl
 ·rw[e4];rfl
set_option maxRecDepth 100000 in
set_option maxHeartbeats 8000000 in
theorem works9_any (W:World):Calls Tryz.prog 17 #[] W fun e w'=>e = .returned (.bool true)∧W.grownBy w' none:=by
 have HN:=Lib.hid (dnew 4 W)
 obtain⟨d1,d2,d3,d4,HEX⟩:=ex9
 have HE:=Lib.hid HEX
 clear HEX
 have hmk:∀w:World,(Instr.makeSlice 32 (.int .i64 500) (.int .i64 500)).run Tryz.prog w=_:=run_mkBytes 500 (by omega)
 have hcv:=fun (w:World) (C:Array Value) (n c:Nat)=>Lib.run_convert_bytes_const (P:=Tryz.prog) w 32 5 C n c Tryz.underlying32 Tryz.underlying5
 go_enter Tryz.func17,Tryz.ntmps17
 go_upto_region 4 with (first
  | (go_at_call 19;refine HN.out.mono ?_;rintro e w1 ⟨db,rfl,hg1,-,hd1⟩;have HOP:=Lib.hid (open_new (W:=W) 4 hg1 hd1);clear hg1 hd1)
  | (go_at_call 18;refine HOP.out.mono ?_;rintro e w2 ⟨st,rfl,hst⟩;have HS:=Lib.hid hst;clear hst HOP))
 have HP1:Hid (∀w,w2.grownBy w none→∀v,RowP (fun k=>w2.heap.size≤k∧k<w.heap.size) w v (bytesV [97,98])→Calls Tryz.prog 20 #[.pointer (some ⟨st,0,none⟩),v] w fun e w'=>e = .returned (.tuple #[.int .i64 1,.int .i64 0])∧StSt W st ⟨d1,[(1,([97,98],[0]))],[true,false,false,false],2,0⟩ w'):=(show ∀w,_→∀v,_→Calls _ _ _ _ _ from fun w hg v hv=>by
  have:=HS.out.put hg hv (fun b hb=>by simp at hb;omega) (by decide) (by decide)
  rw[HE.out.p1] at this
  exact this)
 go_upto_region 5 with (go_at_call 20;refine(HP1.out _ (World.grownBy_alloc _ _ none) _ (rowP_alloc2 (b:=[97,98]) (cap:=2) _ (by decide) (by decide) _ (Nat.le_refl _))).mono ?_;rintro e w3 ⟨rfl,hst⟩;have HS1:=Lib.hid hst;clear hst)
 have HP2:Hid (∀w,w3.grownBy w none→∀v,RowP (fun k=>w3.heap.size≤k∧k<w.heap.size) w v (bytesV z500)→Calls Tryz.prog 20 #[.pointer (some ⟨st,0,none⟩),v] w fun e w'=>e = .returned (.tuple #[.int .i64 2,.int .i64 0])∧StSt W st ⟨d2,[(1,([97,98],[0])),(2,(z500,[1,2,3]))],[true,true,true,true],3,0⟩ w'):=(show ∀w,_→∀v,_→Calls _ _ _ _ _ from fun w hg v hv=>by
  have:=HS1.out.put hg hv (z_BL 500) (by rw[z500_len];decide) (by rw[HE.out.late.1];decide)
  rw[HE.out.p2] at this
  exact this)
 go_upto_region 6 with (go_at_call 20;refine(HP2.out _ (World.grownBy_alloc _ _ none) _ (rowP_alloc (b:=List.replicate 500 0) (cap:=500) (by rw[List.length_replicate];exact Nat.le_refl _) (by decide) _ (Nat.le_refl _))).mono ?_;rintro e w4 ⟨rfl,hst⟩;have HS2:=Lib.hid hst;clear hst)
 go_upto_region 7 with (go_at_call 22;refine HS2.out.free.mono ?_;rintro e w5 ⟨rfl,h5⟩;obtain rfl:w4=w5:=h5.symm)
 have HP3:Hid (∀w,w4.grownBy w none→∀v,RowP (fun k=>w4.heap.size≤k∧k<w.heap.size) w v (bytesV [])→Calls Tryz.prog 20 #[.pointer (some ⟨st,0,none⟩),v] w fun e w'=>e = .returned (.tuple #[.int .i64 0,.int .i64 181])∧StSt W st ⟨d2,[(1,([97,98],[0])),(2,(z500,[1,2,3]))],[true,true,true,true],3,0⟩ w'):=(show ∀w,_→∀v,_→Calls _ _ _ _ _ from fun w hg v hv=>by
  have:=HS2.out.put hg hv (fun b hb=>by simp at hb) (by decide) (by rw[HE.out.late.2.1];decide)
  rw[HE.out.p3] at this
  exact this)
 go_upto_region 8 with (go_at_call 20;refine(HP3.out _ (grown_refl _) _ (rowP_nil _ _)).mono ?_;rintro e w5 ⟨rfl,hst⟩;have HS3:=Lib.hid hst;clear hst)
 have HR4:Hid (Calls Tryz.prog 30 #[.pointer (some ⟨st,0,none⟩),.int .i64 2] w5 fun e w'=>e = .returned (.int .i64 0)∧StSt W st ⟨d3,[(1,([97,98],[0]))],[true,false,false,false],3,0⟩ w'):=(show Calls _ _ _ _ _ from by
  have:=HS3.out.rem 2 (by rw[HE.out.late.2.1];decide)
  rw[HE.out.r] at this
  exact this)
 go_upto_region 9 with (go_at_call 30;refine HR4.out.mono ?_;rintro e w6 ⟨rfl,hst⟩;have HS4:=Lib.hid hst;clear hst)
 go_upto_region 10 with (go_at_call 22;refine HS4.out.free.mono ?_;rintro e w7 ⟨rfl,h5⟩;obtain rfl:w6=w7:=h5.symm)
 have HP5:Hid (∀w,w6.grownBy w none→∀v,RowP (fun k=>w6.heap.size≤k∧k<w.heap.size) w v (bytesV [])→Calls Tryz.prog 20 #[.pointer (some ⟨st,0,none⟩),v] w fun e w'=>e = .returned (.tuple #[.int .i64 3,.int .i64 0])∧StSt W st ⟨d4,[(1,([97,98],[0])),(3,([],[1]))],[true,true,false,false],4,0⟩ w'):=(show ∀w,_→∀v,_→Calls _ _ _ _ _ from fun w hg v hv=>by
  have:=HS4.out.put hg hv (fun b hb=>by simp at hb) (by decide) (by rw[HE.out.late.2.2.1];decide)
  rw[HE.out.p4] at this
  exact this)
 go_upto_region 11 with (go_at_call 20;refine(HP5.out _ (grown_refl _) _ (rowP_nil _ _)).mono ?_;rintro e w7 ⟨rfl,hst⟩;have HS5:=Lib.hid hst;clear hst)
 have HG6:Hid (Calls Tryz.prog 21 #[.pointer (some ⟨st,0,none⟩),.int .i64 1] w7 fun e w'=>w7.grownBy w' none∧∃p c,e = .returned (.tuple #[.slice p 2 c,.bool true])∧NewRow w7 w' (.slice p 2 c) [97,98]):=(show Calls _ _ _ _ _ from by
  refine(HS5.out.get 1).mono ?_
  rintro e w' ⟨hg,v,rfl,⟨h0,-⟩|⟨r,h0,hr⟩⟩
  ·simp[mget] at h0
  ·simp[mget] at h0
   subst h0
   obtain⟨p,c,rfl⟩:∃p c,v = .slice p 2 c:=by
    rcases hr.2 with ⟨e,h0⟩|⟨g,c,cur,e,_⟩
    ·simp at h0
    ·exact⟨_,_,e⟩
   exact⟨hg,p,c,rfl,hr⟩)
 go_upto_region 12 with (go_at_call 21;refine HG6.out.mono ?_;rintro e w8 ⟨hg,p,c,rfl,hr⟩;have HG8:=Lib.hid hg;have HR8:=Lib.hid hr;clear hg hr)
 have hcz:(convert 32 9 (.slice p 2 c)).run Tryz.prog w8 = .ok (.string (ofB [97,98])) w8:=conv_row (HR8.out.rowP (by decide))
 have hez:((ofB [97,98]).toList == [97,98])=true:=by
  have e : ofB [97, 98] = "ab".toUTF8 := by rfl
  decide +kernel
 go_wp2
 go_ret
 exact⟨rfl,grown_trans HS5.out.gr HG8.out⟩
@[go_sem] theorem u32_geq31 (t:TypeId) (x:BitVec 32):binOp .geq t (u32V x) (.int .u32 2147483648)=pure (.bool x.msb):=by
 unfold u32V
 rw[binOp_geq]
 congr 2
 rw[BitVec.msb_eq_decide]
 have e:((x.toNat:Int)≥2147483648)=(2 ^ (32-1)≤x.toNat):=by
  apply propext
  omega
 simp only[e]
@[go_sem] theorem u32_mul2 (t:TypeId) (x:BitVec 32):binOp .mul t (u32V x) (.int .u32 2)=pure (u32V (x <<< 1)):=by
 unfold u32V
 rw[binOp_mul]
 have h:Op.intArith .mul .u32 (x.toNat:Int) 2=pure (.int .u32 (IntKind.u32.wrap ((x.toNat:Int)*2))):=rfl
 rw[h,BitVec.toNat_shiftLeft,Nat.shiftLeft_eq,IntKind.wrap_u32]
 simp
@[go_sem] theorem u32_addc (t:TypeId) (x:BitVec 32) (n:Int):binOp .add t (u32V x) (.int .u32 n)=pure (u32V (x+BitVec.ofInt 32 n)):=by
 unfold u32V
 rw[binOp_add]
 have h:Op.intArith .add .u32 (x.toNat:Int) n=pure (.int .u32 (IntKind.u32.wrap ((x.toNat:Int)+n))):=rfl
 rw[h,BitVec.toNat_add,IntKind.wrap_u32,BitVec.toNat_ofInt]
 congr 2
 omega
@[go_sem] theorem u8_shr (t:TypeId) (x:BitVec 8) (yk:IntKind) (n:Int) (h:0≤n) (h2:n<8):binOp .shr t (u8V x) (.int yk n)=pure (u8V (x >>> n.toNat)):=by
 unfold u8V
 rw[binOp_shr,shift_shr_any _ _ _ _ h]
 have e:min n.toNat IntKind.u8.bits=n.toNat:=by simp[IntKind.bits];omega
 rw[e,BitVec.toNat_ushiftRight,Nat.shiftRight_eq_div_pow]
 simp
@[go_sem] theorem u8_and (t:TypeId) (x:BitVec 8) (n:Int):binOp .and t (u8V x) (.int .u8 n)=pure (u8V (x &&& BitVec.ofInt 8 n)):=by
 unfold u8V
 rw[binOp_and]
 have h:Op.intBits .and .u8 (x.toNat:Int) n=pure (.int .u8 (IntKind.u8.wrap ((BitVec.ofInt 8 (x.toNat:Int) &&& BitVec.ofInt 8 n).toNat:Int))):=rfl
 have e:BitVec.ofInt 8 (x.toNat:Int)=x:=by simp
 rw[h,e,IntKind.wrap_u8]
 have:=(x &&& BitVec.ofInt 8 n).isLt
 congr 2
 omega
@[go_sem] theorem u8_eql (t:TypeId) (x:BitVec 8) (n:Int) (h:0≤n) (h2:n<256):binOp .eql t (u8V x) (.int .u8 n)=pure (.bool (x == BitVec.ofInt 8 n)):=by
 unfold u8V
 rw[binOp_eql]
 congr 2
 rw[Bool.eq_iff_iff,beq_iff_eq,beq_iff_eq]
 constructor
 ·intro h;rw[←h];simp
 ·rintro rfl
  rw[BitVec.toNat_ofInt]
  omega
@[go_sem] theorem u8_guard (t:TypeId) (x y:Operand) (a:BitVec 8) (n:Int):eqGuard .eql t x y (u8V a) (.int .u8 n)=pure ():=rfl
@[go_sem] theorem u32_shr31 (t:TypeId) (x:BitVec 32) (yk:IntKind) (m:Nat) (h:m<32):binOp .shr t (u32V x) (.int yk (31-(m:Int)))=pure (u32V (x >>> (31-m))):=by
 rw[u32_shr _ _ _ _ (by omega) (by omega)]
 congr 3
 omega
open Go.Sf
theorem recs_of {d:Dk} {ks:List Key19} (hk:KeysOf d ks) {f:Nat→List Int} {all:List (Int × List Int)} {blk:Int→List Nat} {next:Int} (g:Good crcB f d.n all blk next) (hs:∀i,i<d.n→saidP crcB (bk d.now i)=saidP crcB (f i)):(openS d ks).recs=all.map fun q=>(q.1,(q.2,blk q.1)):=by
 have e:=scan_same (C:=crcB) (N:=d.n) (f:=f) (g:=bk d.now) hs d.n (Nat.le_refl _)
 have hk1:=hk.1
 rw[e] at hk1
 unfold openS
 rw[pickSto_recs,e]
 exact good_pick g hk1 hk.2
theorem Steady.opn {d:Dk} (h:Steady d):∀n,n≤d.n→(opnD d n).2.1=0∧Steady (opnD d n).1∧(opnD d n).1.n=d.n
 | 0,_=>⟨rfl,h,rfl⟩
 | n+1,hn=>by
  obtain⟨h1,h2,h3⟩:=Steady.opn h n (by omega)
  by_cases hc:(saidP crcB (bk d.now n)).isSome=true∨bk d.now n=zeroB
  ·rw[opnD_clean h1 hc]
   exact⟨h1,h2,h3⟩
  ·have hc1:(saidP crcB (bk d.now n)).isSome=false:=by
    cases e:(saidP crcB (bk d.now n)).isSome
    ·rfl
    ·exact absurd (Or.inl e) hc
   rw[opnD_scrub h1 hc1 (fun e=>hc (Or.inr e))]
   obtain⟨e1,e2,e3,-⟩:=h2.wrote (i:=n) (b:=[]) (by omega) (by simp)
   exact⟨e1,e2,e3.trans h3⟩
theorem Steady.opened {d:Dk} (h:Steady d):d.opened.2=0:=by
 obtain⟨h1,h2,h3⟩:=Steady.opn h d.n (Nat.le_refl _)
 unfold Dk.opened
 rw[if_neg (by simp[h1])]
 split
 ·exact h2.sync.1
 ·rfl
theorem steady_now {d:Dk} (h:Steady d):d.synced.now=d.now:=by
 unfold Dk.synced
 simp only[h.1,h.step,Bool.false_eq_true,if_false,if_true]
 rfl
theorem write_spec {d:Dk} (ho:d.off=false) {i:Nat} (hi:i<d.n) {x:List Int} (hx:x.length≤256) :
  (d.writeV i x=0∧(d.written i x).off=false∧(d.written i x).late=d.late ++ [((i:Int),padB x)]∧(d.written i x).now=mput d.now (i:Int) (padB x)∧(d.written i x).st=d.st∧(d.written i x).n=d.n)∨
  (d.writeV i x=180∧(d.written i x).off=true∧(d.written i x).late=d.late ++ [((i:Int),padB x)]∧(d.written i x).st=d.st∧(d.written i x).n=d.n):=by
 have hm:d.mayE (i:Int) x.length=0:=by
  unfold Dk.mayE
  rw[if_neg (by simp[ho]),if_neg (by omega),if_neg (by omega)]
 cases hs:d.stepB
 ·right
  have e1:d.writeV i x=180:=by unfold Dk.writeV;simp[hm,hs]
  have e2:d.written i x=(d.lay i (padB x)).gone:=by unfold Dk.written;simp[hm,hs]
  rw[e1,e2]
  exact⟨rfl,rfl,rfl,rfl,rfl⟩
 ·left
  have e1:d.writeV i x=0:=by unfold Dk.writeV;simp[hm,hs]
  have e2:d.written i x=(d.lay i (padB x)).went:=by unfold Dk.written;simp[hm,hs]
  rw[e1,e2]
  exact⟨rfl,ho,rfl,rfl,rfl,rfl⟩
theorem sync_spec {d:Dk} (ho:d.off=false) :
  (d.syncV=0∧d.synced.off=false∧d.synced.late = []∧d.synced.now=d.now∧d.synced.st=d.now∧d.synced.n=d.n)∨
  (d.syncV=180∧d.synced.off=true∧d.synced.late=d.late∧d.synced.st=d.st∧d.synced.n=d.n):=by
 cases hs:d.stepB
 ·right
  have e1:d.syncV=180:=by unfold Dk.syncV;simp[ho,hs]
  have e2:d.synced=d.gone:=by unfold Dk.synced;simp[ho,hs]
  rw[e1,e2]
  exact⟨rfl,rfl,rfl,rfl,rfl⟩
 ·left
  have e1:d.syncV=0:=by unfold Dk.syncV;simp[ho,hs]
  have e2:d.synced=d.went.settled:=by unfold Dk.synced;simp[ho,hs]
  rw[e1,e2]
  exact⟨rfl,ho,rfl,rfl,rfl,rfl⟩
theorem padB_full {x:List Int} (h:x.length=256):padB x=x:=by unfold padB;rw[h];simp
theorem writes_spec:∀(ws:List (Nat × List Int)) (d:Dk),d.off=false→(∀w∈ws,w.1<d.n∧w.2.length=256)→
  ((d.writes ws).2=0∧(d.writes ws).1.off=false∧(d.writes ws).1.late=d.late++lates ws∧(d.writes ws).1.now=ws.foldl (fun m w=>mput m (w.1:Int) w.2) d.now∧(d.writes ws).1.st=d.st∧(d.writes ws).1.n=d.n)∨
  ((d.writes ws).2=180∧(d.writes ws).1.off=true∧(∃m,(d.writes ws).1.late=d.late++lates (ws.take m))∧(d.writes ws).1.st=d.st∧(d.writes ws).1.n=d.n)
 | [],d,ho,_=>Or.inl ⟨rfl,ho,by simp[Dk.writes,lates],rfl,rfl,rfl⟩
 | w :: r,d,ho,hw=>by
  obtain⟨a1,a2⟩:=hw w (by simp)
  have hp:=padB_full a2
  unfold Dk.writes
  rcases write_spec ho a1 (x:=w.2) (by omega) with ⟨e1,e2,e3,e4,e5,e6⟩|⟨e1,e2,e3,e5,e6⟩
  ·rw[if_pos e1]
   rw[hp] at e3 e4
   rcases writes_spec r (d.written w.1 w.2) e2 (fun w' hw'=>by rw[e6];exact hw w' (List.mem_cons_of_mem _ hw')) with ⟨i1,i2,i3,i4,i5,i6⟩|⟨i1,i2,⟨m,i3⟩,i5,i6⟩
   ·left
    refine⟨i1,i2,?_,?_,i5.trans e5,i6.trans e6⟩
    ·rw[i3,e3];simp[lates]
    ·rw[i4,e4];rfl
   ·right
    refine⟨i1,i2,⟨m+1,?_⟩,i5.trans e5,i6.trans e6⟩
    rw[i3,e3];simp[lates]
  ·rw[if_neg (by rw[e1];decide)]
   rw[hp] at e3
   exact Or.inr ⟨e1,e2,⟨1,by rw[e3];simp[lates]⟩,e5,e6⟩
theorem bk_puts_out {i:Nat}:∀(ws:List (Nat × List Int)) (m:List (Int × List Int)),(∀w∈ws,w.1≠i)→bk (ws.foldl (fun m w=>mput m (w.1:Int) w.2) m) i=bk m i
 | [],m,_=>rfl
 | w :: r,m,h=>by
  show bk (r.foldl _ (mput m (w.1:Int) w.2)) i=_
  rw[bk_puts_out r _ (fun w' hw'=>h w' (List.mem_cons_of_mem _ hw')),bk_put_ne _ _ (fun e=>h w (by simp) e.symm)]
theorem bk_puts_in:∀(ws:List (Nat × List Int)) (m:List (Int × List Int)),(ws.map (·.1)).Nodup→∀(t:Nat) w,ws[t]? = some w→bk (ws.foldl (fun m w=>mput m (w.1:Int) w.2) m) w.1=w.2
 | [],m,_,t,w,h=>by simp at h
 | w0 :: r,m,hn,t,w,h=>by
  rw[List.map_cons,List.nodup_cons] at hn
  show bk (r.foldl _ (mput m (w0.1:Int) w0.2)) w.1=_
  cases t with
  | zero=>
   obtain rfl:w0=w:=by simpa using h
   rw[bk_puts_out r _ (fun w' hw' e=>hn.1 (List.mem_map.2 ⟨w',hw',e⟩)),bk_put_same]
  | succ t=>exact bk_puts_in r _ hn.2 t w (by simpa using h)
structure KInv (S:Sto) (all:List (Int × List Int)) (blk:Int→List Nat):Prop where
 good:Good crcB (bk S.d.now) S.d.n all blk S.next
 st:∀i,i<S.d.n→bk S.d.st i=bk S.d.now i
 late:S.d.late = []
 off:S.d.off=false
 brk:S.broken=0
 recs:S.recs=all.map fun q=>(q.1,(q.2,blk q.1))
 tl:S.taken.length=S.d.n
 tak:∀q∈all,∀i∈blk q.1,S.taken[i]? = some true
theorem setT_same {x:Bool}:∀(bl:List Nat) (t:List Bool) (i:Nat),t[i]? = some x→(setT t bl x)[i]? = some x
 | [],t,i,h=>h
 | j :: r,t,i,h=>by
  show(setT (t.set j x) r x)[i]? = _
  refine setT_same r _ i ?_
  rw[List.getElem?_set]
  split
  ·rename_i e
   subst e
   rw[if_pos (List.getElem?_eq_some_iff.1 h).1]
  ·exact h
theorem setT_in {x:Bool}:∀(bl:List Nat) (t:List Bool) (i:Nat),i∈bl→i<t.length→(setT t bl x)[i]? = some x
 | [],t,i,h,_=>by simp at h
 | j :: r,t,i,h,hl=>by
  show(setT (t.set j x) r x)[i]? = _
  rcases List.mem_cons.1 h with rfl|h
  ·refine setT_same r _ i ?_
   rw[List.getElem?_set,if_pos rfl,if_pos hl]
  ·exact setT_in r _ i h (by rw[List.length_set];exact hl)
theorem setT_out {x:Bool}:∀(bl:List Nat) (t:List Bool) (i:Nat),i ∉ bl→(setT t bl x)[i]? = t[i]?
 | [],t,i,_=>rfl
 | j :: r,t,i,h=>by
  show(setT (t.set j x) r x)[i]? = _
  rw[setT_out r _ i (fun e=>h (List.mem_cons_of_mem _ e)),List.getElem?_set,if_neg (fun e=>h (by simp[e]))]
theorem mget_none_iff2 {V:Type} {m:List (Int × V)} {k:Int} (h:∀p∈m,p.1≠k):mget m k=none:=mget_none h
theorem pick_taken (rows:List (Key19 × RowM)):∀(ks:List Key19) (S:Sto),(∀r∈S.recs,∀i∈r.2.2,i<S.taken.length→S.taken[i]? = some true)→(∀r∈(pickSto rows ks S).recs,∀i∈r.2.2,i<(pickSto rows ks S).taken.length→(pickSto rows ks S).taken[i]? = some true)∧(pickSto rows ks S).taken.length=S.taken.length
 | [],S,h=>⟨h,rfl⟩
 | K :: t,S,h=>by
  have hs:(∀r∈(pickOne rows S K).recs,∀i∈r.2.2,i<(pickOne rows S K).taken.length→(pickOne rows S K).taken[i]? = some true)∧(pickOne rows S K).taken.length=S.taken.length:=by
   unfold pickOne
   cases mget rows K with
   | none=>exact⟨h,rfl⟩
   | some r=>
    simp only
    split
    ·exact⟨h,rfl⟩
    ·refine⟨fun q hq i hi hl=>?_,setT_len _ _ _⟩
     have hl':i<S.taken.length:=by rw[show(S.kept K.k (rowBytes r) (rowBlocks r)).taken.length=S.taken.length from setT_len _ _ _] at hl;exact hl
     rename_i hc
     have hno:mget S.recs K.k=none:=by
      cases e:mget S.recs K.k with
      | none=>rfl
      | some z=>exact absurd (Or.inl (by rw[e];rfl)) hc
     have hrec:(S.kept K.k (rowBytes r) (rowBlocks r)).recs=S.recs ++ [(K.k,(rowBytes r,rowBlocks r))]:=mget_app_none hno _
     rw[hrec] at hq
     rcases List.mem_append.1 hq with hq|hq
     ·exact setT_same _ _ i (h q hq i hi hl')
     ·obtain rfl:q=(K.k,(rowBytes r,rowBlocks r)):=by simpa using hq
      exact setT_in _ _ i hi hl'
  have ih:=pick_taken rows t (pickOne rows S K) hs.1
  exact⟨ih.1,ih.2.trans hs.2⟩
theorem opnD_same {d:Dk}:∀n,(opnD d n).2.1=0→(opnD d n).2.2=false→(opnD d n).1=d
 | 0,_,_=>rfl
 | n+1,h,hf=>by
  by_cases h0:(opnD d n).2.1=0
  ·by_cases hc:(saidP crcB (bk d.now n)).isSome=true∨bk d.now n=zeroB
   ·rw[opnD_clean h0 hc] at h hf ⊢
    exact opnD_same n h hf
   ·have hc1:(saidP crcB (bk d.now n)).isSome=false:=by
     cases e:(saidP crcB (bk d.now n)).isSome
     ·rfl
     ·exact absurd (Or.inl e) hc
    rw[opnD_scrub h0 hc1 (fun e=>hc (Or.inr e))] at hf
    cases hf
  ·rw[opnD_stop h0] at h
   exact absurd h h0
theorem opened_disk {d:Dk} (h:Steady d) (hl:d.late = []) (hst:∀i,i<d.n→bk d.st i=bk d.now i) :
  Steady d.opened.1∧d.opened.1.n=d.n∧d.opened.1.late = []∧(∀i,i<d.n→bk d.opened.1.st i=bk d.opened.1.now i)∧∀i,i<d.n→bk d.opened.1.now i=scrub crcB (bk d.now i):=by
 obtain⟨h1,h2,h3⟩:=Steady.opn h d.n (Nat.le_refl _)
 have ok:=opn_ok h.1 d.n (Nat.le_refl _) h1
 unfold Dk.opened
 rw[if_neg (by simp[h1])]
 cases hf:(opnD d d.n).2.2
 ·have e:=opnD_same d.n h1 hf
  simp only[Bool.false_eq_true,if_false]
  have hm:=ok.met
  rw[e] at hm ⊢
  exact⟨h,rfl,hl,hst,hm⟩
 ·simp only[if_true]
  obtain⟨s1,s2,s3,s4⟩:=h2.sync
  refine⟨s2,s3.trans h3,s4,fun i hi=>?_,fun i hi=>?_⟩
  ·rcases sync_spec h2.1 with ⟨_,_,_,a,b,_⟩|⟨a,_⟩
   ·rw[a,b]
   ·rw[s1] at a;cases a
  ·rw[steady_now h2]
   exact ok.met i hi
theorem kopen {d:Dk} (h:Steady d) (hl:d.late = []) (hst:∀i,i<d.n→bk d.st i=bk d.now i) {all:List (Int × List Int)} {blk:Int→List Nat} {next:Int} (g:Good crcB (fun i=>scrub crcB (bk d.now i)) d.n all blk next) {ks:List Key19} (hk:KeysOf d ks):KInv (openS d ks) all blk∧(openS d ks).next≤next∧(openS d ks).d.n=d.n:=by
 obtain⟨o1,o2,o3,o4,o5⟩:=opened_disk h hl hst
 have hs:∀i,i<d.n→saidP crcB (bk d.now i)=saidP crcB ((fun i=>scrub crcB (bk d.now i)) i):=fun i _=>(said_scrub _).symm
 have hr:=recs_of hk g hs
 have e:=scan_same (C:=crcB) (N:=d.n) (f:=fun i=>scrub crcB (bk d.now i)) (g:=bk d.now) hs d.n (Nat.le_refl _)
 obtain⟨g1,g2⟩:=g.opened
 rw[←e] at g1 g2
 obtain⟨p1,p2,p3⟩:=pickSto_d (scanN crcB (bk d.now) d.n).rows ks ⟨d.opened.1,[],List.replicate d.n false,(scanN crcB (bk d.now) d.n).next,0⟩
 obtain⟨t1,t2⟩:=pick_taken (scanN crcB (bk d.now) d.n).rows ks ⟨d.opened.1,[],List.replicate d.n false,(scanN crcB (bk d.now) d.n).next,0⟩ (by simp)
 have t2':(openS d ks).taken.length=d.n:=t2.trans List.length_replicate
 have p1':(openS d ks).d=d.opened.1:=p1
 have p2':(openS d ks).next=(scanN crcB (bk d.now) d.n).next:=p2
 refine⟨⟨?_,?_,?_,?_,p3,hr,?_,?_⟩,?_,?_⟩
 ·rw[p1',p2',o2]
  exact g1.same fun i hi=>o5 i hi
 ·rw[p1',o2];exact o4
 ·rw[p1'];exact o3
 ·rw[p1'];exact o1.1
 ·rw[t2',p1',o2]
 ·intro q hq i hi
  have hm:(q.1,(q.2,blk q.1))∈(openS d ks).recs:=by rw[hr];exact List.mem_map.2 ⟨q,hq,rfl⟩
  exact t1 _ hm i hi (by rw[show(pickSto _ ks _).taken.length=d.n from t2'];exact g.blt q hq i hi)
 ·rw[p2'];exact g2
 ·rw[p1'];exact o2
structure KBad (d:Dk) (n:Nat) (now all:List (Int × List Int)) (next:Int):Prop where
 off:d.off=true
 nn:d.n=n
 late:d.late.length≤600
 on:∀fates,Steady (d.on fates)∧(d.on fates).late = []∧(d.on fates).n=n
 open_:∀fates ks,KeysOf (d.on fates) ks→∃al blk,(al=all∨al=now)∧KInv (openS (d.on fates) ks) al blk∧(openS (d.on fates) ks).next≤next∧(openS (d.on fates) ks).d.n=n
theorem on_spec {d:Dk} (ho:d.off=true) (fates:List Int):Steady (d.on fates)∧(d.on fates).late = []∧(d.on fates).n=d.n∧(d.on fates).now=mixes fates 0 d.late d.st∧(d.on fates).st=mixes fates 0 d.late d.st:=by
 unfold Dk.on
 rw[if_pos ho]
 exact⟨⟨rfl,rfl⟩,rfl,rfl,rfl,rfl⟩
theorem kbad {d:Dk} {n:Nat} {now all:List (Int × List Int)} {next:Int} (ho:d.off=true) (hn:d.n=n) (hl:d.late.length≤600)
  (h:∀fates,∃al blk,(al=all∨al=now)∧Good crcB (fun i=>scrub crcB (bk (mixes fates 0 d.late d.st) i)) n al blk next):KBad d n now all next:=by
 refine⟨ho,hn,hl,fun fates=>?_,fun fates ks hk=>?_⟩
 ·obtain⟨a,b,c,-⟩:=on_spec ho fates
  exact⟨a,b,c.trans hn⟩
 ·obtain⟨a,b,c,e,f⟩:=on_spec ho fates
  obtain⟨al,blk,h1,g⟩:=h fates
  obtain⟨k1,k2,k3⟩:=kopen a b (fun i _=>by rw[e,f]) (all:=al) (blk:=blk) (next:=next) (by rw[e,c,hn];exact g) hk
  exact⟨al,blk,h1,k1,k2,k3.trans (c.trans hn)⟩
end Go.Proofs.YtbcbhlfjgobejaaGreat
