/- A round of Open's loop, the block being clean and no part: the walk. A round of Open's loop, the block being no part, and not clean: the walk. Conditions: room for late writes. -/
import Derived.Test.YtbcbhlfjgobejaaGreatD22
set_option linter.unusedSimpArgs false
set_option linter.unusedVariables false
namespace Go.Proofs.YtbcbhlfjgobejaaGreat
open Go.RowKit Go.Sf
attribute [local go_sem] Oper.semAt_some run_store_func
section
variable {own : Nat → Prop} {W0 W : World} {db : Nat} {d : Dk} {B : Nat} {L : OLoc} {i l B8 : Nat} {x : List Int} {fv u22 u23 u24 u25 u26 u27 u28 u29 u30 u31 u32 u33 u34 u35 u36 u40 u41 u42 u43 u44 u45 u46 u47 u48 u49 u50 u51 u52 u53 u54 u55 u56 u57 u58 u59 u60 u61 u62 u63 u64 u65 u66 u67 u68 u69 u70 u71 u72 u73 u74 u75 u76 u77 u78 u79 u80 u81 u82 u83 u84 u85 u86 u87 u88 u89 u90 u91 u92 u93 u94 u95 u96 u97 u98 u99 u100 u101 u102 u103 u104 u105 u106 u107 u108 u109 u110 u111 u112 u113 u114 u115 u116 u117 u118 u119 u120 u121 u122 u123 u124 u125 u126 u127 u128 u129 u130 u131 u132 u133 u134 u135 u136 u137 u138 u139 u140 u141 u142 u143 u144 u145 u146 u147 u148 u149 u150 u151 u152 u153 u154 u155 u156 u157 u158 u159 u160 : Value}
theorem num_shut (B:Nat) (I:Nat→World→Prop) (Ix:Code→World→Prop) (i:Nat) (W:World):¬LetsOut (numPost B I Ix i W):=fun ⟨_,_,h⟩=>h
set_option maxRecDepth 100000 in
set_option maxHeartbeats 4000000 in
theorem obody_clean (hI:OI own W0 db d B L i W) (hi:i<d.n) (hx:bk d.now i=x) (hx1:x.length=256) (hx2:BL x) (h8:W.heap[B8]? = some (.cells (bytesV x).toArray 136 (0,0))) (hB8:B+2≤B8) (hs:saidP crcB x=none) (hz:x=zeroB) :
  oBody.wpIn (Fence.wide.inRound l) 3 Tryz.prog (numPost B (OI own W0 db d B L) (OX own W0 db d B L) i W) { tmps:=#[.pointer (some ⟨db,0,none⟩),.pointer (some ⟨L.bd,0,none⟩),.pointer (some ⟨L.b2,0,none⟩),.pointer (some ⟨L.b3,0,none⟩),.pointer (some ⟨L.b4,0,none⟩),.pointer (some ⟨L.b5,0,none⟩),.pointer (some ⟨L.b6,0,none⟩),.int .i64 (i:Int),.pointer (some ⟨B8,0,none⟩),undef,undef,undef,undef,undef,undef,undef,undef,undef,undef,undef,undef,undef,u22,u23,u24,u25,u26,u27,u28,u29,u30,u31,u32,u33,u34,u35,u36,fv,.int .i64 (i:Int),.agg (bytesV x).toArray,u40,u41,u42,u43,u44,u45,u46,u47,u48,u49,u50,u51,u52,u53,u54,u55,u56,u57,u58,u59,u60,u61,u62,u63,u64,u65,u66,u67,u68,u69,u70,u71,u72,u73,u74,u75,u76,u77,u78,u79,u80,u81,u82,u83,u84,u85,u86,u87,u88,u89,u90,u91,u92,u93,u94,u95,u96,u97,u98,u99,u100,u101,u102,u103,u104,u105,u106,u107,u108,u109,u110,u111,u112,u113,u114,u115,u116,u117,u118,u119,u120,u121,u122,u123,u124,u125,u126,u127,u128,u129,u130,u131,u132,u133,u134,u135,u136,u137,u138,u139,u140,u141,u142,u143,u144,u145,u146,u147,u148,u149,u150,u151,u152,u153,u154,u155,u156,u157,u158,u159,u160],defers:=[] } W:=by
 have HL:=num_shut B (OI own W0 db d B L) (OX own W0 db d B L) i W
 have HS:=Lib.hid (psaid (W:=W) x hx1 hx2)
 unfold SaidPost at HS
 rw[hs] at HS
 have HX1:=Lib.hid hx1
 have H8:=Lib.hid h8
 have HI:=Lib.hid hI
 have HXE:=Lib.hid hx
 have HSN:=Lib.hid hs
 have HZ:=Lib.hid hz
 have HIN:=Lib.hid hi
 have HB8:=Lib.hid hB8
 have HLL:=Lib.hid HL
 clear hx1 hx2 h8 hI hx hs hz hi hB8 HL
 generalize hPP:numPost B (OI own W0 db d B L) (OX own W0 db d B L) i W=PP at *
 have HPP:=Lib.hid hPP
 clear hPP
 delta oBody
 dsimp only[Tryz.f18]
 refine wpIn_block (wpIn_seq_k (fun K1 hK1=>wpRound_lit (by kernel_rfl) (fun ⟨a,w,h⟩=>HLL.out ⟨a,w,h⟩) ?_))
 go_wp2_with (first
  | (refine wpList_load_row rfl 136 _ rfl B8 rfl 136 (bytesV x).toArray (0,0) _ H8.out Tryz.underlying136 rfl (blkI136 HX1.out) ?_)
  | (go_at_call 84;refine HS.out.mono ?_;rintro e W1 ⟨hg,k',i',c',v,rfl,⟨pv,nv,cv,rfl⟩,-⟩;have HG:=Lib.hid hg;clear hg))
 refine wpIn_seq_k (fun K2 hK2=>wpIn_seq_k (fun K3 hK3=>wpRound_lit (by kernel_rfl) (fun ⟨a,w,h⟩=>HLL.out ⟨a,w,h⟩) ?_))
 have HZL:Hid (zeroB.length=256):=(show _=_ from zeroB_len)
 have H9:Hid (∀w',W1.grownBy w' none→w'.heap[B8]? = some (.cells (bytesV x).toArray 136 (0,0))):=(show ∀w',_→_ from fun w' hg=>((grown_trans HG.out hg).block B8 (Array.getElem?_eq_some_iff.1 H8.out).1 (by simp)).trans H8.out)
 go_wp2_with (first
  | (refine wpList_runG (by kernel_rfl) (exec_loadRow _ 136 rfl B8 136 (bytesV x).toArray (0,0) _ rfl (H9.out _ (by repeat (first|exact grown_refl _|refine grown_alloc ?_ _))) Tryz.underlying136 rfl (blkI136 HX1.out)) ?_)
  | (refine wpList_runG (by kernel_rfl) (exec_build136 rfl) ?_)
  | (refine wpList_runG (by kernel_rfl) (exec_neq136 _ _ _ rfl rfl rfl HX1.out HZL.out false (by rw[HZ.out];simp)) ?_))
 gi_wp2_with fail
 rw[←HPP.out]
 exact⟨HI.out.two (grown_alloc HG.out _),(HI.out.clean HIN.out (by rw[HXE.out];exact HSN.out) (by rw[HXE.out];exact HZ.out)).grown (grown_alloc HG.out _)⟩
end
attribute [local go_sem] Oper.semAt_some run_store_func
section
variable {own : Nat → Prop} {W0 W : World} {db : Nat} {d : Dk} {B : Nat} {L : OLoc} {i l B8 : Nat} {x : List Int} {fv u22 u23 u24 u25 u26 u27 u28 u29 u30 u31 u32 u33 u34 u35 u36 u40 u41 u42 u43 u44 u45 u46 u47 u48 u49 u50 u51 u52 u53 u54 u55 u56 u57 u58 u59 u60 u61 u62 u63 u64 u65 u66 u67 u68 u69 u70 u71 u72 u73 u74 u75 u76 u77 u78 u79 u80 u81 u82 u83 u84 u85 u86 u87 u88 u89 u90 u91 u92 u93 u94 u95 u96 u97 u98 u99 u100 u101 u102 u103 u104 u105 u106 u107 u108 u109 u110 u111 u112 u113 u114 u115 u116 u117 u118 u119 u120 u121 u122 u123 u124 u125 u126 u127 u128 u129 u130 u131 u132 u133 u134 u135 u136 u137 u138 u139 u140 u141 u142 u143 u144 u145 u146 u147 u148 u149 u150 u151 u152 u153 u154 u155 u156 u157 u158 u159 u160 : Value}
theorem ox_made {W2 W3:World} {P:Nat→Prop} {loc:Key19→Nat × Nat × Nat} {rp:Nat→Prop} {rows:List (Key19 × RowM)} {next:Int} {scr:Bool} {dk dk':Dk} (hI:OI own W0 db d B L i W) (hn:opnD d (i+1)=(dk',180,true)) (hi:i<d.n) (hM:OM own db d.n B L P loc rp rows next scr dk W2) (ht2:Turn (fun k=>¬own k) W0 W2)
  (hd:DRep P W3 db dk') (ht3:Turn (fun k=>¬P k) W2 W3) (h2:W3.heap[L.b2]? = some (.cells #[.pointer none] 24 (0,0))) (h3:W3.heap[L.b3]? = some (.cells #[.int .i64 0] 25 (0,0))) (hown:∀k,own k→∀j∈L.all,k≠j) (hg:W.grownBy W2 none) :
  KeepsTwo B W ((W3.setCell ⟨L.b2,0,none⟩ (.pointer none)).setCell ⟨L.b3,0,none⟩ (.int .i64 180))∧OX own W0 db d B L .ret ((W3.setCell ⟨L.b2,0,none⟩ (.pointer none)).setCell ⟨L.b3,0,none⟩ (.int .i64 180)):=by
 have m2:=L.mems.2.1
 have m3:=L.mems.2.2.1
 have q2:=hM.lP _ m2
 have q3:=hM.lP _ m3
 have n23:L.b2≠L.b3:=nd_ne hM.nd 1 2 rfl rfl (by decide)
 have t1:=(turn_set W3 L.b2 0 (.pointer none)).mono (cs:=fun k=>k=L.b2∨k=L.b3) (fun k hk=>Or.inl hk)
 have t2:=(turn_set (W3.setCell ⟨L.b2,0,none⟩ (.pointer none)) L.b3 0 (.int .i64 180)).mono (cs:=fun k=>k=L.b2∨k=L.b3) (fun k hk=>Or.inr hk)
 have tt:=t1.trans t2
 have hk:=hI.two hg
 have hz:=hM.sz
 have hz3:=ht3.size
 have he:opnD d d.n=(dk',180,true):=by rw[opnD_till (n:=i+1) (by rw[hn];simp) d.n hi,hn]
 refine⟨⟨Nat.le_trans hk.1 (Nat.le_trans ht3.size tt.size),?_,?_⟩,rfl,by rw[he];simp,(ht2.trans (ht3.mono fun k hk ho=>hk (hM.ownP k ho))).trans (tt.mono fun k hk ho=>?_),⟨P,?_,hM.ownP,hM.pB⟩,⟨?_,q2.2⟩,⟨?_,q3.2⟩⟩
 ·rw[tt.block B (by omega) (by omega),ht3.block B (by omega) (fun e=>e hM.pB.1),hk.2.1]
 ·rw[tt.block (B+1) (by omega) (by omega),ht3.block (B+1) (by omega) (fun e=>e hM.pB.2),hk.2.2]
 ·rcases hk with e|e
  ·exact hown k ho _ m2 e
  ·exact hown k ho _ m3 e
 ·rw[he]
  exact hd.turn (tt.mono fun k hk=>by
   rcases hk with e|e
   ·rw[e];exact q2.1
   ·rw[e];exact q3.1)
 ·simp[World.setCell,Array.getElem?_modify,h2,Ne.symm n23,n23]
 ·rw[he];simp[World.setCell,Array.getElem?_modify,h3,Ne.symm n23,n23]
set_option maxRecDepth 100000 in
set_option maxHeartbeats 4000000 in
theorem obody_scrub (hI:OI own W0 db d B L i W) (hi:i<d.n) (hx:bk d.now i=x) (hx1:x.length=256) (hx2:BL x) (h8:W.heap[B8]? = some (.cells (bytesV x).toArray 136 (0,0))) (hB8:B+2≤B8) (hs:saidP crcB x=none) (hz:x≠zeroB) (hoff:d.off=false) (hlate:d.late.length+d.n<1000000) (hown:∀k,own k→∀j∈L.all,k≠j) :
  oBody.wpIn (Fence.wide.inRound l) 3 Tryz.prog (numPost B (OI own W0 db d B L) (OX own W0 db d B L) i W) { tmps:=#[.pointer (some ⟨db,0,none⟩),.pointer (some ⟨L.bd,0,none⟩),.pointer (some ⟨L.b2,0,none⟩),.pointer (some ⟨L.b3,0,none⟩),.pointer (some ⟨L.b4,0,none⟩),.pointer (some ⟨L.b5,0,none⟩),.pointer (some ⟨L.b6,0,none⟩),.int .i64 (i:Int),.pointer (some ⟨B8,0,none⟩),undef,undef,undef,undef,undef,undef,undef,undef,undef,undef,undef,undef,undef,u22,u23,u24,u25,u26,u27,u28,u29,u30,u31,u32,u33,u34,u35,u36,fv,.int .i64 (i:Int),.agg (bytesV x).toArray,u40,u41,u42,u43,u44,u45,u46,u47,u48,u49,u50,u51,u52,u53,u54,u55,u56,u57,u58,u59,u60,u61,u62,u63,u64,u65,u66,u67,u68,u69,u70,u71,u72,u73,u74,u75,u76,u77,u78,u79,u80,u81,u82,u83,u84,u85,u86,u87,u88,u89,u90,u91,u92,u93,u94,u95,u96,u97,u98,u99,u100,u101,u102,u103,u104,u105,u106,u107,u108,u109,u110,u111,u112,u113,u114,u115,u116,u117,u118,u119,u120,u121,u122,u123,u124,u125,u126,u127,u128,u129,u130,u131,u132,u133,u134,u135,u136,u137,u138,u139,u140,u141,u142,u143,u144,u145,u146,u147,u148,u149,u150,u151,u152,u153,u154,u155,u156,u157,u158,u159,u160],defers:=[] } W:=by
 have HL:=num_shut B (OI own W0 db d B L) (OX own W0 db d B L) i W
 have HS:=Lib.hid (psaid (W:=W) x hx1 hx2)
 unfold SaidPost at HS
 rw[hs] at HS
 have HX1:=Lib.hid hx1
 have H8:=Lib.hid h8
 have HI:=Lib.hid hI
 have HXE:=Lib.hid hx
 have HSN:=Lib.hid hs
 have HZ:=Lib.hid hz
 have HLA:=Lib.hid hlate
 have HOF:=Lib.hid hoff
 have HOW:=Lib.hid hown
 have HIN:=Lib.hid hi
 have HB8:=Lib.hid hB8
 have HLL:=Lib.hid HL
 clear hx1 hx2 h8 hI hx hs hz hi hB8 HL hlate hoff hown
 generalize hPP:numPost B (OI own W0 db d B L) (OX own W0 db d B L) i W=PP at *
 have HPP:=Lib.hid hPP
 clear hPP
 delta oBody
 dsimp only[Tryz.f18]
 refine wpIn_block (wpIn_seq_k (fun K1 hK1=>wpRound_lit (by kernel_rfl) (fun ⟨a,w,h⟩=>HLL.out ⟨a,w,h⟩) ?_))
 go_wp2_with (first
  | (refine wpList_load_row rfl 136 _ rfl B8 rfl 136 (bytesV x).toArray (0,0) _ H8.out Tryz.underlying136 rfl (blkI136 HX1.out) ?_)
  | (go_at_call 84;refine HS.out.mono ?_;rintro e W1 ⟨hg,k',i',c',v,rfl,⟨pv,nv,cv,rfl⟩,-⟩;have HG:=Lib.hid hg;clear hg))
 refine wpIn_seq_k (fun K2 hK2=>wpIn_seq_k (fun K3 hK3=>wpRound_lit (by kernel_rfl) (fun ⟨a,w,h⟩=>HLL.out ⟨a,w,h⟩) ?_))
 have HZL:Hid (zeroB.length=256):=(show _=_ from zeroB_len)
 have H9:Hid (∀w',W1.grownBy w' none→w'.heap[B8]? = some (.cells (bytesV x).toArray 136 (0,0))):=(show ∀w',_→_ from fun w' hg=>((grown_trans HG.out hg).block B8 (Array.getElem?_eq_some_iff.1 H8.out).1 (by simp)).trans H8.out)
 go_wp2_with (first
  | (refine wpList_runG (by kernel_rfl) (exec_loadRow _ 136 rfl B8 136 (bytesV x).toArray (0,0) _ rfl (H9.out _ (by repeat (first|exact grown_refl _|refine grown_alloc ?_ _))) Tryz.underlying136 rfl (blkI136 HX1.out)) ?_)
  | (refine wpList_runG (by kernel_rfl) (exec_build136 rfl) ?_)
  | (refine wpList_runG (by kernel_rfl) (exec_neq136 _ _ _ rfl rfl rfl HX1.out HZL.out true (by simp[HZ.out])) ?_))
 have HG2:Hid (W.grownBy (W1.alloc (.cells #[.int .i64 k',.int .i64 i',.int .i64 c',.slice pv nv cv] 138)) none):=(show W.grownBy _ none from grown_alloc HG.out _)
 generalize W1.alloc (.cells #[.int .i64 k',.int .i64 i',.int .i64 c',.slice pv nv cv] 138)=W2 at *
 clear HG H9 HS H8
 have hI2:=HI.out.grown HG2.out
 obtain⟨h0,h1,h2,P,loc,rp,hM⟩:=hI2
 have ho:=opn_ok HOF.out i h0 h1
 obtain⟨z1,z2,z3⟩:=written_zero ho.off (i:=i) (by rw[ho.nn];exact HIN.out)
 have hnext:=opnD_scrub h1 (by rw[HXE.out,HSN.out];rfl) (by rw[HXE.out];exact HZ.out)
 have HWR:=Lib.hid (dwrite hM.disk (i:Int) (v:=.slice none 0 0) (b:=[]) ⟨none,0,rfl,Or.inl rfl⟩ (fun _ h=>by simp at h) (by have:=ho.late;have:=HLA.out;have:=HIN.out;omega))
 have cd:W2.cell? ⟨L.bd,0,none⟩=some (.pointer (some ⟨db,0,none⟩)):=(cell_block hM.bd 0).trans rfl
 have HM:=Lib.hid hM
 have HNX:=Lib.hid hnext
 have HO:=Lib.hid ho
 have HT2:=Lib.hid h2
 have HH1:=Lib.hid h1
 have hmf:∀(fn:Fn) (first cap:Array Value) (w:World),(Instr.makeFunc fn first cap).run Tryz.prog w = .ok (.func fn first cap) w:=fun _ _ _ _=>rfl
 have fT:Fence.wide.fn 24:=trivial
 clear hM hnext ho h2 h1 z1
 rw[z2] at HWR HNX
 cases hb:(opnD d i).1.stepB with
 | false=>
  rw[hb] at HWR z3 HNX
  simp only[Bool.false_eq_true,if_false] at HWR z3 HNX
  clear z2 z3 hb
  have n23:L.b2≠L.b3:=nd_ne HM.out.nd 1 2 rfl rfl (by decide)
  have n32:L.b3≠L.b2:=Ne.symm n23
  gi_wp2_with (first
   | (gi_at_call 24;refine(callsIn_wide.2 HWR.out).mono ?_;rintro e W3 ⟨rfl,hd3,ht3⟩;have HD3:=Lib.hid hd3;have HT3:=Lib.hid ht3;have b2:=(HT3.out.block _ (HM.out.P_lt (HM.out.lP _ L.mems.2.1).1) (fun e=>e (HM.out.lP _ L.mems.2.1).1)).trans HM.out.b2;have b3:=(HT3.out.block _ (HM.out.P_lt (HM.out.lP _ L.mems.2.2.1).1) (fun e=>e (HM.out.lP _ L.mems.2.2.1).1)).trans HM.out.b3;have k2:W3.cell? ⟨L.b2,0,none⟩=some (.pointer none):=(cell_block b2 0).trans rfl;have k3:W3.cell? ⟨L.b3,0,none⟩=some (.int .i64 0):=(cell_block b3 0).trans rfl;have f2:=free_block b2 0;have f3:=free_block b3 0;have HB2:=Lib.hid b2;have HB3:=Lib.hid b3;clear hd3 ht3 b2 b3))
  rw[←HPP.out]
  exact ox_made HI.out HNX.out HIN.out HM.out HT2.out HD3.out HT3.out HB2.out HB3.out HOW.out HG2.out
 | true=>
  rw[hb] at HWR z3 HNX
  simp only[if_true] at HWR z3 HNX
  have HDN:Hid (((opnD d i).1.written (i:Int) []).n=d.n):=(show _=_ from by rw[z3];exact HO.out.nn)
  clear z2 z3 hb
  gi_wp2_with (first
   | (gi_at_call 24;refine(callsIn_wide.2 HWR.out).mono ?_;rintro e W3 ⟨rfl,hd3,ht3⟩;have HD3:=Lib.hid hd3;have HT3:=Lib.hid ht3;have b6:=(HT3.out.block _ (HM.out.P_lt (HM.out.lP _ L.mems.2.2.2.2.2.1).1) (fun e=>e (HM.out.lP _ L.mems.2.2.2.2.2.1).1)).trans HM.out.b6;have bd:=(HT3.out.block _ (HM.out.P_lt (HM.out.lP _ L.mems.1).1) (fun e=>e (HM.out.lP _ L.mems.1).1)).trans HM.out.bd;have k6:W3.cell? ⟨L.b6,0,none⟩=some (scrubV db (opnD d i).2.2):=(cell_block b6 0).trans rfl;have f6:=free_block b6 0;have kd:W3.cell? ⟨L.bd,0,none⟩=some (.pointer (some ⟨db,0,none⟩)):=(cell_block bd 0).trans rfl;clear hd3 ht3 b6 bd))
  rw[←HPP.out]
  exact⟨two_scrub (HI.out.two HG2.out) HM.out HT3.out _,OI.scrub HIN.out (by rw[HXE.out];exact HSN.out) HNX.out HM.out HT2.out HD3.out HDN.out HT3.out HOW.out⟩
end
end Go.Proofs.YtbcbhlfjgobejaaGreat
