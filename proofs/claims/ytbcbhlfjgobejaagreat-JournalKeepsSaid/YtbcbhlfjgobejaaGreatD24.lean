/- A round of Open's loop that meets a part: the walk. Conditions: none beyond the loop's. -/
import Derived.Test.YtbcbhlfjgobejaaGreatD23
set_option linter.unusedSimpArgs false
set_option linter.unusedVariables false
namespace Go.Proofs.YtbcbhlfjgobejaaGreat
open Go.RowKit Go.Sf
attribute [local go_sem] Oper.semAt_some run_store_func
section
variable {own : Nat → Prop} {W0 W : World} {db : Nat} {d : Dk} {B : Nat} {L : OLoc} {i l B8 : Nat} {x : List Int} {fv u22 u23 u24 u25 u26 u27 u28 u29 u30 u31 u32 u33 u34 u35 u36 u40 u41 u42 u43 u44 u45 u46 u47 u48 u49 u50 u51 u52 u53 u54 u55 u56 u57 u58 u59 u60 u61 u62 u63 u64 u65 u66 u67 u68 u69 u70 u71 u72 u73 u74 u75 u76 u77 u78 u79 u80 u81 u82 u83 u84 u85 u86 u87 u88 u89 u90 u91 u92 u93 u94 u95 u96 u97 u98 u99 u100 u101 u102 u103 u104 u105 u106 u107 u108 u109 u110 u111 u112 u113 u114 u115 u116 u117 u118 u119 u120 u121 u122 u123 u124 u125 u126 u127 u128 u129 u130 u131 u132 u133 u134 u135 u136 u137 u138 u139 u140 u141 u142 u143 u144 u145 u146 u147 u148 u149 u150 u151 u152 u153 u154 u155 u156 u157 u158 u159 u160 : Value}
theorem rw5_new {W4 w5 w6:World} {B9 B12 pb ab tb:Nat} {p:Prt} {rows:List (Key19 × RowM)} {v:Value} {P4:Nat→Prop} {loc:Key19→Nat × Nat × Nat} {rp4:Nat→Prop} {nx:Int} {cs:List (Nat × Value × List Int)} (hM:OM own db d.n B L P4 loc rp4 rows nx (opnD d i).2.2 (opnD d i).1 W4) (p9:P4 B9) (p12:P4 B12) (hrow:mget rows ⟨p.k,p.count⟩=none) (hv:RowP rp4 W4 v (bytesV p.b)) (htw:KeepsTwo B W W4) (htu:Turn (fun k=>¬own k) W0 W4)
  (h9:W4.heap[B9]? = some (.cells #[.int .i64 p.k,.int .i64 (p.index:Int),.int .i64 (p.count:Int),v] 138 (0,0))) (h12:W4.heap[B12]? = some (.cells #[.int .i64 p.k,.int .i64 (p.count:Int)] 142 (0,0))) (hg:W4.grownBy w5 none)
  (hn:W4.heap.size≤pb∧W4.heap.size≤ab∧W4.heap.size≤tb∧pb≠ab∧pb≠tb∧ab≠tb∧RwAt w5 (fun _=>False) pb ab tb cs (rowNew p.count))
  (hm:MapT w6 L.mr encK encRw (mput (rows.map fun q=>(q.1,(loc q.1).1)) ⟨p.k,p.count⟩ pb)) (hg2:w5.grownBy w6 (some L.mr)) (hlo:L.mr<B∧B+2≤B9∧B+2≤B12∧L.b5≠L.mr) (how:∀k,own k→∀j∈L.all,k≠j) :
  Rw5 own W0 W db d B L i B9 B12 p rows v (fun k=>P4 k∨(W4.heap.size≤k∧k<w5.heap.size)) (fun K'=>if K'=⟨p.k,p.count⟩ then (pb,ab,tb) else loc K') rp4 (rows ++ [(⟨p.k,p.count⟩,rowNew p.count)]) (rowNew p.count) nx w6:=by
 obtain⟨l1,l2,l3,n1,n2,n3,hr⟩:=hn
 have hne:=mget_none_iff.1 hrow
 have hput:rows ++ [(⟨p.k,p.count⟩,rowNew p.count)]=mput rows ⟨p.k,p.count⟩ (rowNew p.count):=(mput_new hne _).symm
 have hz:=hM.sz
 have keep:∀k,k<W4.heap.size→k≠L.mr→w6.heap[k]? = W4.heap[k]?:=fun k hk hkm=>(hg2.block k (Nat.lt_of_lt_of_le hk hg.size) (fun e=>hkm (by injection e))).trans (hg.block k hk (by simp))
 have l9:=hM.P_lt p9
 have l12:=hM.P_lt p12
 refine⟨hM.addRow hrow hg hr ⟨n1,n2,n3⟩ ⟨l1,l2,l3⟩ hm hg2,Or.inl p9,Or.inl p12,?_,fun r=>?_,by rw[hrow];rfl,by simp[rowNew],hv.turn fun k hk=>keep k (hM.rlt k hk) (by have:=(hM.rows.parts k hk).2;omega),⟨Nat.le_trans htw.1 (Nat.le_trans hg.size hg2.size),(keep B (by omega) (by omega)).trans htw.2.1,(keep (B+1) (by omega) (by omega)).trans htw.2.2⟩,?_,(keep B9 l9 (by omega)).trans h9,(keep B12 l12 (by omega)).trans h12⟩
 ·rw[hput,mget_mput_same]
 ·rw[hput,mput_mput]
 ·refine htu.trans ⟨hg2.os.trans hg.os,hg2.tape.trans hg.tape,hg2.output.trans hg.output,Nat.le_trans hg.size hg2.size,fun k hk ho=>keep k hk (fun e=>ho fun hk2=>how k hk2 _ L.mems.2.2.2.2.2.2.2.2.2.2 e)⟩
set_option maxRecDepth 100000 in
set_option maxHeartbeats 8000000 in
theorem obody_part {p:Prt} (hI:OI own W0 db d B L i W) (hi:i<d.n) (hx:bk d.now i=x) (hx1:x.length=256) (hx2:BL x) (h8:W.heap[B8]? = some (.cells (bytesV x).toArray 136 (0,0))) (hs:saidP crcB x=some p) (hown:∀k,own k→∀j∈L.all,k≠j) (how2:∀k,own k→k<B) :
  oBody.wpIn (Fence.wide.inRound l) 3 Tryz.prog (numPost B (OI own W0 db d B L) (OX own W0 db d B L) i W) { tmps:=#[.pointer (some ⟨db,0,none⟩),.pointer (some ⟨L.bd,0,none⟩),.pointer (some ⟨L.b2,0,none⟩),.pointer (some ⟨L.b3,0,none⟩),.pointer (some ⟨L.b4,0,none⟩),.pointer (some ⟨L.b5,0,none⟩),.pointer (some ⟨L.b6,0,none⟩),.int .i64 (i:Int),.pointer (some ⟨B8,0,none⟩),undef,undef,undef,undef,undef,undef,undef,undef,undef,undef,undef,undef,undef,u22,u23,u24,u25,u26,u27,u28,u29,u30,u31,u32,u33,u34,u35,u36,fv,.int .i64 (i:Int),.agg (bytesV x).toArray,u40,u41,u42,u43,u44,u45,u46,u47,u48,u49,u50,u51,u52,u53,u54,u55,u56,u57,u58,u59,u60,u61,u62,u63,u64,u65,u66,u67,u68,u69,u70,u71,u72,u73,u74,u75,u76,u77,u78,u79,u80,u81,u82,u83,u84,u85,u86,u87,u88,u89,u90,u91,u92,u93,u94,u95,u96,u97,u98,u99,u100,u101,u102,u103,u104,u105,u106,u107,u108,u109,u110,u111,u112,u113,u114,u115,u116,u117,u118,u119,u120,u121,u122,u123,u124,u125,u126,u127,u128,u129,u130,u131,u132,u133,u134,u135,u136,u137,u138,u139,u140,u141,u142,u143,u144,u145,u146,u147,u148,u149,u150,u151,u152,u153,u154,u155,u156,u157,u158,u159,u160],defers:=[] } W:=by
 have HL:=num_shut B (OI own W0 db d B L) (OX own W0 db d B L) i W
 have HS:=Lib.hid (psaid (W:=W) x hx1 hx2)
 unfold SaidPost at HS
 rw[hs] at HS
 have HX1:=Lib.hid hx1
 have H8:=Lib.hid h8
 have HI:=Lib.hid hI
 have HXE:=Lib.hid hx
 have HSN:=Lib.hid hs
 have HIN:=Lib.hid hi
 have HOW:=Lib.hid hown
 have HO2:=Lib.hid how2
 have HLL:=Lib.hid HL
 have HNP:Hid (∀c a w,¬numPost B (OI own W0 db d B L) (OX own W0 db d B L) i W (.panic c) a w):=(show ∀c a w,¬_ from fun _ _ _ h=>h)
 have HMP:=Lib.hid (said_some hs).1
 clear hx1 hx2 h8 hI hx hs hi HL hown how2
 generalize hPP:numPost B (OI own W0 db d B L) (OX own W0 db d B L) i W=PP at *
 have HPP:=Lib.hid hPP
 clear hPP
 delta oBody
 dsimp only[Tryz.f18]
 refine wpIn_block (wpIn_seq_k (fun K1 hK1=>wpRound_lit (by kernel_rfl) (fun ⟨a,w,h⟩=>HLL.out ⟨a,w,h⟩) ?_))
 go_wp2_with (first
  | (refine wpList_load_row rfl 136 _ rfl B8 rfl 136 (bytesV x).toArray (0,0) _ H8.out Tryz.underlying136 rfl (blkI136 HX1.out) ?_)
  | (go_at_call 84;refine HS.out.mono ?_;rintro e W1 ⟨hg,k',i',c',v,rfl,⟨pv,nv,cv,rfl⟩,hrow⟩;obtain⟨rfl,rfl,rfl,hr9⟩:=hrow p rfl;have HG:=Lib.hid hg;have HROW:=Lib.hid hr9;clear hg hr9 hrow))
 -- the part is in its box
 have HG2:Hid (W.grownBy (W1.alloc (.cells #[.int .i64 p.k,.int .i64 (p.index:Int),.int .i64 (p.count:Int),.slice pv nv cv] 138)) none):=(show W.grownBy _ none from grown_alloc HG.out _)
 have hb9:=heap_alloc_new W1 (.cells #[.int .i64 p.k,.int .i64 (p.index:Int),.int .i64 (p.count:Int),.slice pv nv cv] 138)
 have HB9:Hid (W.heap.size≤W1.heap.size∧W1.heap.size<(W1.alloc (.cells #[.int .i64 p.k,.int .i64 (p.index:Int),.int .i64 (p.count:Int),.slice pv nv cv] 138)).heap.size):=(show _∧_ from ⟨HG.out.size,by simp⟩)
 have HRW:Hid ((∀k,(Value.slice pv nv cv).ownBlock=some k→W.heap.size≤k∧k<(W1.alloc (.cells #[.int .i64 p.k,.int .i64 (p.index:Int),.int .i64 (p.count:Int),.slice pv nv cv] 138)).heap.size)∧RowP (fun k=>(Value.slice pv nv cv).ownBlock=some k) (W1.alloc (.cells #[.int .i64 p.k,.int .i64 (p.index:Int),.int .i64 (p.count:Int),.slice pv nv cv] 138)) (.slice pv nv cv) (bytesV p.b)):=(show _∧_ from by
  have hr:=HROW.out
  rw[←bytesV_len p.b] at hr
  obtain⟨r1,r2⟩:=row_own hr
  exact⟨fun k hk=>⟨(r2 k hk).1,by have:=(r2 k hk).2;simp;omega⟩,r1.turn fun k hk=>(World.grownBy_alloc W1 _ none).block k (r2 k hk).2 (by simp)⟩)
 generalize W1.heap.size=B9 at *
 generalize W1.alloc (.cells #[.int .i64 p.k,.int .i64 (p.index:Int),.int .i64 (p.count:Int),.slice pv nv cv] 138)=W2 at *
 have HB9C:=Lib.hid hb9
 clear hb9 HG HROW HS H8
 obtain⟨h0,h1,h2,P,loc,rp,hM⟩:=HI.out
 have HM2:=Lib.hid (hM.part HRW.out.1 HG2.out)
 have HBS:=Lib.hid hM.sz
 have HH:=Lib.hid (And.intro h0 (And.intro h1 h2))
 have HNX:Hid (1≤(scanN crcB (bk d.now) i).next∧(scanN crcB (bk d.now) i).next≤4611686018427387905):=(show _∧_ from ⟨(scan_ok (C:=crcB) (bk d.now) i).nx,scan_next_k (Int.le_refl _) i⟩)
 have HH1:=Lib.hid h1
 clear hM h0 h1 h2
 -- ok: nothing is scrubbed
 gi_wp2_with fail
 -- the number behind all
 have m4:W2.cell? ⟨L.b4,0,none⟩=some (.pointer (some ⟨L.st,0,none⟩)):=(cell_block HM2.out.b4 0).trans rfl
 have m3:W2.cell? ⟨L.st,3,none⟩=some (.int .i64 (scanN crcB (bk d.now) i).next):=(cell_block HM2.out.st 3).trans rfl
 have g3:W2.frozen? ⟨L.st,3,none⟩=false:=free_block HM2.out.st 3
 have m9:W2.cell? ⟨B9,0,none⟩=some (.int .i64 p.k):=(cell_block HB9C.out 0).trans rfl
 have hk1:=HMP.out.k1
 have hk2:=HMP.out.k2
 generalize hnx:(scanN crcB (bk d.now) i).next=nx at *
 have HNE:=Lib.hid hnx
 clear hnx
 refine wpRound_still_tail 11 (by kernel_rfl) (by kernel_rfl) (by kernel_rfl) (fun ⟨a,w,h⟩=>HLL.out ⟨a,w,h⟩) ?_
 simp only[List.take_succ_cons,List.take_zero,List.drop_succ_cons,List.drop_zero]
 repeat still_step
 refine wpStill_nil ?_
 change wpList _ _ _ _ _ W2.drew
 go_wp2_with fail
 have hb9':=((grown_drew (grown_refl _)).block B9 (by rw[show(W2.setCell ⟨L.st,3,none⟩ (.int .i64 (max nx (p.k+1)))).heap.size=W2.heap.size by simp[World.setCell]];exact HB9.out.2) (by simp):(W2.setCell ⟨L.st,3,none⟩ (.int .i64 (max nx (p.k+1)))).drew.heap[B9]? = _).trans (((turn_set W2 L.st 3 (.int .i64 (max nx (p.k+1)))).block B9 HB9.out.2 (by have:=(HM2.out.lP _ L.mems.2.2.2.2.2.2.2.1).2;have:=HBS.out;have:=HB9.out.1;omega)).trans HB9C.out)
 have HM3:=Lib.hid ((HM2.out.setNext (max nx (p.k+1))).grown (grown_drew (grown_refl _)))
 have HT23:Hid (Turn (fun k=>k=L.st) W2 (W2.setCell ⟨L.st,3,none⟩ (.int .i64 (max nx (p.k+1)))).drew):=(show Turn _ _ _ from (turn_set W2 L.st 3 _).trans ⟨rfl,rfl,rfl,Nat.le_refl _,fun _ _ _=>rfl⟩)
 clear m4 m3 g3 m9
 -- the key's box
 generalize (W2.setCell ⟨L.st,3,none⟩ (.int .i64 (max nx (p.k+1)))).drew=W3 at *
 have m90:W3.cell? ⟨B9,0,none⟩=some (.int .i64 p.k):=(cell_block hb9' 0).trans rfl
 have m92:W3.cell? ⟨B9,2,none⟩=some (.int .i64 (p.count:Int)):=(cell_block hb9' 2).trans rfl
 refine wpIn_seq_k (fun K5 hK5=>wpRound_lit (by kernel_rfl) (fun ⟨a,w,h⟩=>HLL.out ⟨a,w,h⟩) ?_)
 go_wp2_with fail
 have hb12:=heap_alloc_new W3 (.cells #[.int .i64 p.k,.int .i64 (p.count:Int)] 142)
 have HR4:Hid (∃P4:Nat→Prop,OM own db d.n B L P4 loc (fun k=>rp k∨(Value.slice pv nv cv).ownBlock=some k) (scanN crcB (bk d.now) i).rows (max nx (p.k+1)) (opnD d i).2.2 (opnD d i).1 (W3.alloc (.cells #[.int .i64 p.k,.int .i64 (p.count:Int)] 142))∧P4 B9∧P4 W3.heap.size∧RowP (fun k=>rp k∨(Value.slice pv nv cv).ownBlock=some k) (W3.alloc (.cells #[.int .i64 p.k,.int .i64 (p.count:Int)] 142)) (.slice pv nv cv) (bytesV p.b)∧KeepsTwo B W (W3.alloc (.cells #[.int .i64 p.k,.int .i64 (p.count:Int)] 142))∧Turn (fun k=>¬own k) W0 (W3.alloc (.cells #[.int .i64 p.k,.int .i64 (p.count:Int)] 142))∧(W3.alloc (.cells #[.int .i64 p.k,.int .i64 (p.count:Int)] 142)).heap[B9]? = some (.cells #[.int .i64 p.k,.int .i64 (p.index:Int),.int .i64 (p.count:Int),.slice pv nv cv] 138 (0,0))):=(show ∃_,_ from by
  have hga:=World.grownBy_alloc W3 (.cells #[.int .i64 p.k,.int .i64 (p.count:Int)] 142) none
  have t24:Turn (fun k=>k=L.st) W2 (W3.alloc (.cells #[.int .i64 p.k,.int .i64 (p.count:Int)] 142)):=HT23.out.trans ⟨hga.os,hga.tape,hga.output,hga.size,fun k hk _=>hga.block k hk (by simp)⟩
  have hst:=(HM2.out.lP _ L.mems.2.2.2.2.2.2.2.1).2
  have hbs:=HBS.out
  have hw2:=HG2.out.size
  refine⟨_,HM3.out.widen hga,Or.inl (Or.inr HB9.out),Or.inr ⟨Nat.le_refl _,by simp⟩,?_,?_,?_,(hga.block B9 (Array.getElem?_eq_some_iff.1 hb9').1 (by simp)).trans hb9'⟩
  ·refine RowP.mono (RowP.turn HRW.out.2 fun k hk=>?_) fun k hk=>Or.inr hk
   have:=HRW.out.1 k hk
   exact t24.block k this.2 (by omega)
  ·have h0:=HI.out.two HG2.out
   refine⟨Nat.le_trans h0.1 t24.size,?_,?_⟩
   ·rw[t24.block B (by omega) (by omega),h0.2.1]
   ·rw[t24.block (B+1) (by omega) (by omega),h0.2.2]
  ·refine(HH.out.2.2.trans ?_).trans (t24.mono fun k hk ho=>HOW.out k ho _ L.mems.2.2.2.2.2.2.2.1 hk)
   exact⟨HG2.out.os,HG2.out.tape,HG2.out.output,HG2.out.size,fun k hk _=>HG2.out.block k hk (by simp)⟩)
 generalize hB12:W3.heap.size=B12 at *
 generalize W3.alloc (.cells #[.int .i64 p.k,.int .i64 (p.count:Int)] 142)=W4 at *
 obtain⟨P4,hM4,hp9,hp12,hrv,htw,htu,h94⟩:=HR4.out
 generalize (fun k=>rp k∨(Value.slice pv nv cv).ownBlock=some k)=rp4 at *
 have HM4:=Lib.hid hM4
 have HS4:=Lib.hid (And.intro hp9 (And.intro hp12 (And.intro hrv (And.intro htw htu))))
 have HB12C:=Lib.hid hb12
 have H94:=Lib.hid h94
 have HC:=Lib.hid HMP.out.c2
 have HIX:=Lib.hid HMP.out.i1
 have HLEN:Hid (((mget (scanN crcB (bk d.now) i).rows ⟨p.k,p.count⟩).getD (rowNew p.count)).there.length=p.count):=(show _=_ from by
  cases e:mget (scanN crcB (bk d.now) i).rows ⟨p.k,p.count⟩ with
  | none=>simp[rowNew]
  | some r=>exact((scan_ok (C:=crcB) (bk d.now) i).row _ r e).l2)
 have HSC:=Lib.hid (scan_part (C:=crcB) (f:=bk d.now) (n:=i) (p:=p) (by rw[HXE.out];exact HSN.out))
 rw[HNE.out] at HSC
 generalize (scanN crcB (bk d.now) i).rows=rows at *
 have k5:W4.cell? ⟨L.b5,0,none⟩=some (.map (some L.mr)):=(cell_block HM4.out.b5 0).trans rfl
 have k120:W4.cell? ⟨B12,0,none⟩=some (.int .i64 p.k):=(cell_block hb12 0).trans rfl
 have k121:W4.cell? ⟨B12,1,none⟩=some (.int .i64 (p.count:Int)):=(cell_block hb12 1).trans rfl
 have k92:W4.cell? ⟨B9,2,none⟩=some (.int .i64 (p.count:Int)):=(cell_block h94 2).trans rfl
 have NLO:Hid (L.mr<B∧B+2≤B9∧B+2≤B12∧L.b5≠L.mr):=(show _∧_ from ⟨(HM2.out.lP _ L.mems.2.2.2.2.2.2.2.2.2.2).2,by have:=HBS.out;have:=HB9.out.1;omega,by have:=HBS.out;have:=HG2.out.size;have:=HT23.out.size;omega,nd_ne HM2.out.nd 4 10 rfl rfl (by decide)⟩)
 clear hM4 hp9 hp12 hrv htw htu h94 hb12 HR4 hb9' m90 m92 HM3 HM2 HRW HB9 HBS HG2 HI HH hB12 HB9C HT23 hk1 hk2 HMP HX1
 refine wpIn_seq_k (fun K6 hK6=>?_)
 cases hrow:mget rows ⟨p.k,p.count⟩ with
 | some r5=>
  have HV:Hid (((mget rows ⟨p.k,p.count⟩).map fun _=>encRw (loc ⟨p.k,p.count⟩).1).getD (.pointer none) = .pointer (some ⟨(loc ⟨p.k,p.count⟩).1,0,none⟩)):=(show _=_ from by rw[hrow];rfl)
  have HR5:Hid (Rw5 own W0 W db d B L i B9 B12 p rows (.slice pv nv cv) P4 loc rp4 rows r5 (max nx (p.k+1)) W4):=(show Rw5 _ _ _ _ _ _ _ _ _ _ _ _ _ _ _ _ _ _ _ _ from ⟨HM4.out,HS4.out.1,HS4.out.2.1,hrow,fun _=>rfl,by rw[hrow];rfl,by have:=HLEN.out;rw[hrow] at this;exact this,HS4.out.2.2.1,HS4.out.2.2.2.1,HS4.out.2.2.2.2,H94.out,HB12C.out⟩)
  clear hrow HLEN
  refine wpIn_seq_k (fun K7 hK7=>wpRound_lit (by kernel_rfl) (fun ⟨a,w,h⟩=>HLL.out ⟨a,w,h⟩) ?_)
  go_wp2_with (refine wpList_runG (by kernel_rfl) (exec_lookG _ _ _ rfl rfl rfl (rows_look HM4.out.rows ⟨p.k,p.count⟩ HV.out)) ?_)
  gi_wp2_with fail
  obtain⟨W5,hW5⟩:∃X:World,X=W4:=⟨_,rfl⟩
  rw[←hW5] at HR5 ⊢
  obtain⟨loc5,hl5⟩:∃X,X=loc:=⟨_,rfl⟩
  rw[←hl5] at HR5
  clear hW5 hl5 HV HM4 HS4 HB12C H94 k5 k120 k121 k92
  have y5:W5.cell? ⟨L.b5,0,none⟩=some (.map (some L.mr)):=(cell_block HR5.out.om.b5 0).trans rfl
  have y120:W5.cell? ⟨B12,0,none⟩=some (.int .i64 p.k):=(cell_block HR5.out.h12 0).trans rfl
  have y121:W5.cell? ⟨B12,1,none⟩=some (.int .i64 (p.count:Int)):=(cell_block HR5.out.h12 1).trans rfl
  have y91:W5.cell? ⟨B9,1,none⟩=some (.int .i64 (p.index:Int)):=(cell_block HR5.out.h9 1).trans rfl
  have y93:W5.cell? ⟨B9,3,none⟩=some (.slice pv nv cv):=(cell_block HR5.out.h9 3).trans rfl
  obtain⟨cs5,hrw5⟩:=(HR5.out.om.grown (grown_drew (grown_refl W5))).rows.row _ _ HR5.out.get
  have HST:=Lib.hid (rset hrw5 (j:=p.index) (i:=i) (v:=.slice pv nv cv) (b:=p.b) (by rw[HR5.out.len];exact HIX.out) (HR5.out.rv.turn fun _ _=>rfl) (fun k hk=>⟨fun e=>(HR5.out.om.rows.free _ _ HR5.out.get _ (Or.inr (Or.inl rfl))).1 (e ▸ hk),fun e=>(HR5.out.om.rows.free _ _ HR5.out.get _ (Or.inr (Or.inr rfl))).1 (e ▸ hk),HR5.out.om.rlt k hk⟩) (HR5.out.om.rows.ne _ _ HR5.out.get))
  have HV5:=Lib.hid (rows_look (HR5.out.om.grown (grown_drew (grown_refl W5))).rows ⟨p.k,p.count⟩ (v:=.pointer (some ⟨(loc5 ⟨p.k,p.count⟩).1,0,none⟩)) (by rw[HR5.out.get];rfl))
  clear hrw5
  refine wpRound_still_tail 9 (by kernel_rfl) (by kernel_rfl) (by kernel_rfl) (fun ⟨a,w,h⟩=>HLL.out ⟨a,w,h⟩) ?_
  simp only[List.take_succ_cons,List.take_zero,List.drop_succ_cons,List.drop_zero]
  repeat (first|(refine wpStill_run (by kernel_rfl) (exec_lookG _ _ _ rfl rfl rfl HV5.out) ?_)|still_step)
  refine wpStill_nil ?_
  change wpList _ _ _ _ _ W5.drew
  go_wp2_with (go_at_call 86;refine HST.out.mono ?_;rintro e W7 ⟨rfl,hrw7,ht7⟩;have HRW7:=Lib.hid hrw7;have HT7:=Lib.hid ht7;clear hrw7 ht7)
  rw[←HPP.out]
  obtain⟨cs7,hrw7⟩:=HRW7.out
  exact HR5.out.fin HIN.out HH1.out (by rw[HXE.out];exact HSN.out) HSC.out hrw7 HT7.out HO2.out
 | none=>
  have HV:Hid (((mget rows ⟨p.k,p.count⟩).map fun _=>encRw (loc ⟨p.k,p.count⟩).1).getD (.pointer none) = .pointer none):=(show _=_ from by rw[hrow];rfl)
  refine wpIn_seq_k (fun K7 hK7=>wpRound_lit (by kernel_rfl) (fun ⟨a,w,h⟩=>HLL.out ⟨a,w,h⟩) ?_)
  go_wp2_with (refine wpList_runG (by kernel_rfl) (exec_lookG _ _ _ rfl rfl rfl (rows_look HM4.out.rows ⟨p.k,p.count⟩ HV.out)) ?_)
  gi_wp2_with fail
  refine wpRound_held_drew (S:=fun w':World=>w'.cell? ⟨L.b5,0,none⟩=some (.map (some L.mr))∧w'.cell? ⟨B12,0,none⟩=some (.int .i64 p.k)∧w'.cell? ⟨B12,1,none⟩=some (.int .i64 (p.count:Int))∧w'.cell? ⟨B9,2,none⟩=some (.int .i64 (p.count:Int))) (by kernel_rfl) (by kernel_rfl) (fun ⟨a,w,h⟩=>HLL.out ⟨a,w,h⟩) ⟨k5,k120,k121,k92⟩ (fun hHeld=>?_)
  refine wpAnyH_take (i := 0) (oi := { dst := some 82, op := Op.load 133 (Operand.tmp 5), type := 133, pos := "slots.go:169", after := #[], guard := none }) (v := ?_) rfl (by kernel_rfl) (by kernel_rfl) (by kernel_rfl) (fun c a w h => (HNP.out c _ _ h).elim) (Or.inl ⟨by rfl, ?_⟩) hHeld ?_
  rotate_left
  ·intro w hSw;(try dsimp only at hSw);obtain⟨s1,s2,s3,s4⟩:=hSw;go_simp;try with_reducible rfl
  (try simp only[Act.put,List.setIfInBounds_toArray,List.set_cons_zero,List.set_cons_succ])
  refine wpAnyH_take (i := 1) (oi := { dst := some 83, op := Op.load 142 (Operand.tmp 12), type := 142, pos := "slots.go:169", after := #[], guard := none }) (v := ?_) rfl (by kernel_rfl) (by kernel_rfl) (by kernel_rfl) (fun c a w h => (HNP.out c _ _ h).elim) (Or.inl ⟨by rfl, ?_⟩) hHeld ?_
  rotate_left
  ·intro w hSw;(try dsimp only at hSw);obtain⟨s1,s2,s3,s4⟩:=hSw;go_simp;try with_reducible rfl
  (try simp only[Act.put,List.setIfInBounds_toArray,List.set_cons_zero,List.set_cons_succ])
  refine wpAnyH_take (i := 2) (oi := { dst := some 84, op := Op.fieldAddr 138 (Operand.tmp 9) 2, type := 0, pos := "slots.go:169", after := #[], guard := none }) (v := ?_) rfl (by kernel_rfl) (by kernel_rfl) (by kernel_rfl) (fun c a w h => (HNP.out c _ _ h).elim) (Or.inl ⟨by rfl, ?_⟩) hHeld ?_
  rotate_left
  ·intro w hSw;(try dsimp only at hSw);obtain⟨s1,s2,s3,s4⟩:=hSw;go_simp;try with_reducible rfl
  (try simp only[Act.put,List.setIfInBounds_toArray,List.set_cons_zero,List.set_cons_succ])
  refine wpAnyH_take (i := 3) (oi := { dst := some 85, op := Op.load 3 (Operand.tmp 84), type := 3, pos := "slots.go:169", after := #[{ on := 2, ground := Ground.data }], guard := none }) (v := ?_) rfl (by kernel_rfl) (by kernel_rfl) (by kernel_rfl) (fun c a w h => (HNP.out c _ _ h).elim) (Or.inl ⟨by rfl, ?_⟩) hHeld ?_
  rotate_left
  ·intro w hSw;(try dsimp only at hSw);obtain⟨s1,s2,s3,s4⟩:=hSw;go_simp;try with_reducible rfl
  (try simp only[Act.put,List.setIfInBounds_toArray,List.set_cons_zero,List.set_cons_succ])
  refine wpAnyH_ready (rs:=[4]) (by kernel_rfl) (by simp) ?_
  refine AllReadyH.cons (o := { dst := some 86, op := Op.call { callee := Callee.value (Operand.func 85), args := #[Operand.tmp 85], argTypes := #[3] }, type := 143, pos := "slots.go:169", after := #[{ on := 3, ground := Ground.data }], guard := none }) rfl (fun K hK => ?_) AllReadyH.nil
  go_simp
  go_at_call 85
  refine(rowof (W:=W4.drew) p.count HC.out).mono ?_
  rintro e w5 ⟨hg,pb,ab,tb,cs,rfl,l1,l2,l3,n1,n2,n3,hrw⟩
  have HG5:=Lib.hid hg
  have HRN:=Lib.hid (And.intro l1 (And.intro l2 (And.intro l3 (And.intro n1 (And.intro n2 (And.intro n3 hrw))))))
  clear hg l1 l2 l3 n1 n2 n3 hrw
  refine hK.out _ _ ⟨HG5.out.cell hHeld.1 (by simp),HG5.out.cell hHeld.2.1 (by simp),HG5.out.cell hHeld.2.2.1 (by simp),HG5.out.cell hHeld.2.2.2 (by simp)⟩ (fun hHeld=>?_)
  clear hK K
  (try simp only[Act.put,List.setIfInBounds_toArray,List.set_cons_zero,List.set_cons_succ])
  refine wpAnyH_ready (rs:=[5]) (by kernel_rfl) (by simp) ?_
  refine AllReadyH.cons (o := { dst := none, op := Op.mapUpdate 133 (Operand.tmp 82) (Operand.tmp 83) (Operand.tmp 86), type := 0, pos := "slots.go:169", after := #[{ on := 0, ground := Ground.data }, { on := 1, ground := Ground.data }, { on := 4, ground := Ground.data }, { on := 4, ground := Ground.chain }, { on := 0, ground := Ground.phase }, { on := 1, ground := Ground.phase }, { on := 2, ground := Ground.phase }, { on := 3, ground := Ground.phase }, { on := 4, ground := Ground.phase }], guard := none }) rfl (fun K hK => ?_) AllReadyH.nil
  obtain⟨w6,hr6,hm6,hg6,-⟩:=MapT.update (P:=Tryz.prog) keK Tryz.underlying133 (HM4.out.rows.map.kept (grown_trans (grown_drew (grown_refl W4)) HG5.out) (by simp)) ⟨p.k,p.count⟩ pb
  refine step_skip rfl (exec_update _ _ _ rfl rfl rfl rfl hr6) ?_
  have HM6:=Lib.hid hm6
  have HG6:=Lib.hid hg6
  clear hr6 hm6 hg6
  have hd1:=NLO.out.1
  have hd2:=NLO.out.2.1
  have hd3:=NLO.out.2.2.1
  have hd4:=NLO.out.2.2.2
  refine hK.out _ _ ⟨HG6.out.cell hHeld.1 (by simp;omega),HG6.out.cell hHeld.2.1 (by simp;omega),HG6.out.cell hHeld.2.2.1 (by simp;omega),HG6.out.cell hHeld.2.2.2 (by simp;omega)⟩ (fun hHeld=>?_)
  clear hK K
  (try simp only[Act.put,List.setIfInBounds_toArray,List.set_cons_zero,List.set_cons_succ])
  refine wpAnyH_done (by kernel_rfl) ?_ _
  have HR5:Hid (Rw5 own W0 W db d B L i B9 B12 p rows (.slice pv nv cv) (fun k=>P4 k∨(W4.heap.size≤k∧k<w5.heap.size)) (fun K'=>if K'=⟨p.k,p.count⟩ then (pb,ab,tb) else loc K') rp4 (rows ++ [(⟨p.k,p.count⟩,rowNew p.count)]) (rowNew p.count) (max nx (p.k+1)) w6):=(show Rw5 _ _ _ _ _ _ _ _ _ _ _ _ _ _ _ _ _ _ _ _ from rw5_new HM4.out HS4.out.1 HS4.out.2.1 hrow HS4.out.2.2.1 HS4.out.2.2.2.1 HS4.out.2.2.2.2 H94.out HB12C.out (grown_trans (grown_drew (grown_refl W4)) HG5.out) HRN.out HM6.out HG6.out NLO.out HOW.out)
  generalize (fun K'=>if K'=(⟨p.k,p.count⟩:Key19) then (pb,ab,tb) else loc K')=loc5 at *
  generalize (rows ++ [((⟨p.k,p.count⟩:Key19),rowNew p.count)])=rows5 at *
  generalize (fun k=>P4 k∨(W4.heap.size≤k∧k<w5.heap.size))=P5 at *
  obtain⟨W5,hW5⟩:∃X:World,X=w6:=⟨_,rfl⟩
  rw[←hW5] at HR5 ⊢
  clear hW5 HM6 HG6 HRN HG5 hHeld hd1 hd2 hd3 hd4
  go_wp2_with fail
  have y5:W5.cell? ⟨L.b5,0,none⟩=some (.map (some L.mr)):=(cell_block HR5.out.om.b5 0).trans rfl
  have y120:W5.cell? ⟨B12,0,none⟩=some (.int .i64 p.k):=(cell_block HR5.out.h12 0).trans rfl
  have y121:W5.cell? ⟨B12,1,none⟩=some (.int .i64 (p.count:Int)):=(cell_block HR5.out.h12 1).trans rfl
  have y91:W5.cell? ⟨B9,1,none⟩=some (.int .i64 (p.index:Int)):=(cell_block HR5.out.h9 1).trans rfl
  have y93:W5.cell? ⟨B9,3,none⟩=some (.slice pv nv cv):=(cell_block HR5.out.h9 3).trans rfl
  obtain⟨cs5,hrw5⟩:=(HR5.out.om.grown (grown_drew (grown_refl W5))).rows.row _ _ HR5.out.get
  have HST:=Lib.hid (rset hrw5 (j:=p.index) (i:=i) (v:=.slice pv nv cv) (b:=p.b) (by rw[HR5.out.len];exact HIX.out) (HR5.out.rv.turn fun _ _=>rfl) (fun k hk=>⟨fun e=>(HR5.out.om.rows.free _ _ HR5.out.get _ (Or.inr (Or.inl rfl))).1 (e ▸ hk),fun e=>(HR5.out.om.rows.free _ _ HR5.out.get _ (Or.inr (Or.inr rfl))).1 (e ▸ hk),HR5.out.om.rlt k hk⟩) (HR5.out.om.rows.ne _ _ HR5.out.get))
  have HV5:=Lib.hid (rows_look (HR5.out.om.grown (grown_drew (grown_refl W5))).rows ⟨p.k,p.count⟩ (v:=.pointer (some ⟨(loc5 ⟨p.k,p.count⟩).1,0,none⟩)) (by rw[HR5.out.get];rfl))
  clear hrw5
  refine wpRound_still_tail 9 (by kernel_rfl) (by kernel_rfl) (by kernel_rfl) (fun ⟨a,w,h⟩=>HLL.out ⟨a,w,h⟩) ?_
  simp only[List.take_succ_cons,List.take_zero,List.drop_succ_cons,List.drop_zero]
  repeat (first|(refine wpStill_run (by kernel_rfl) (exec_lookG _ _ _ rfl rfl rfl HV5.out) ?_)|still_step)
  refine wpStill_nil ?_
  change wpList _ _ _ _ _ W5.drew
  go_wp2_with (go_at_call 86;refine HST.out.mono ?_;rintro e W7 ⟨rfl,hrw7,ht7⟩;have HRW7:=Lib.hid hrw7;have HT7:=Lib.hid ht7;clear hrw7 ht7)
  rw[←HPP.out]
  obtain⟨cs7,hrw7⟩:=HRW7.out
  exact HR5.out.fin HIN.out HH1.out (by rw[HXE.out];exact HSN.out) HSC.out hrw7 HT7.out HO2.out
end
end Go.Proofs.YtbcbhlfjgobejaaGreat
