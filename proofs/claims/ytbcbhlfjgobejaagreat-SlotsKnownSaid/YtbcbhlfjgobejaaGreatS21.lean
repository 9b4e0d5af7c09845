/- A round of Open's loop, the block being no part, and not clean: the walk. Conditions: none, or as the theorems say. -/
import Derived.Test.YtbcbhlfjgobejaaGreatS20
import Derived.Test.YtbcbhlfjgobejaaGreatS1
set_option linter.unusedSimpArgs false
set_option linter.unusedVariables false
namespace Go.Proofs.YtbcbhlfjgobejaaGreat
set_option maxHeartbeats 200000000
open Go.RowKit Go.Sf
attribute [local go_sem] Oper.semAt_some Zn
section
variable {own : Nat → Prop} {W0 W : World} {db : Nat} {d : Dk} {B : Nat} {L : Yh} {i l B8 : Nat} {x : List Int} {fv u22 u23 u24 u25 u26 u27 u28 u29 u30 u31 u32 u33 u34 u35 u36 u40 u41 u42 u43 u44 u45 u46 u47 u48 u49 u50 u51 u52 u53 u54 u55 u56 u57 u58 u59 u60 u61 u62 u63 u64 u65 u66 u67 u68 u69 u70 u71 u72 u73 u74 u75 u76 u77 u78 u79 u80 u81 u82 u83 u84 u85 u86 u87 u88 u89 u90 u91 u92 u93 u94 u95 u96 u97 u98 u99 u100 u101 u102 u103 u104 u105 u106 u107 u108 u109 u110 u111 u112 u113 u114 u115 u116 u117 u118 u119 u120 u121 u122 u123 u124 u125 u126 u127 u128 u129 u130 u131 u132 u133 u134 u135 u136 u137 u138 u139 u140 u141 u142 u143 u144 u145 u146 u147 u148 u149 u150 u151 u152 u153 u154 u155 u156 u157 u158 u159 u160 : Value}
theorem ox_made {W2 W3:World} {P:Nat→Prop} {loc:zt→Nat × Nat × Nat} {rp:Nat→Prop} {rows:List (zt × xr)} {next:Int} {scr:Bool} {dk dk':Dk} (hI:OI own W0 db d B L i W) (hn:opnD d (i+1)=(dk',180,true)) (hi:i<d.n) (hM:OM own db d.n B L P loc rp rows next scr dk W2) (ht2:zm (λk=>¬own k) W0 W2)
 (hd:vk P W3 db dk') (ht3:zm (λk=>¬P k) W2 W3) (h2:W3.heap[L.b2]? = some (.cells #[.pointer none] 24 (0,0))) (h3:W3.heap[L.b3]? = some (.cells #[.int .i64 0] 25 (0,0))) (hown:∀k,own k→∀j∈L.all,k≠j) (hg:W.grownBy W2 none) :
  uy B W ((W3.setCell ⟨L.b2,0,none⟩ (.pointer none)).setCell ⟨L.b3,0,none⟩ (.int .i64 180))∧OX own W0 db d B L .ret ((W3.setCell ⟨L.b2,0,none⟩ (.pointer none)).setCell ⟨L.b3,0,none⟩ (.int .i64 180)):=by
 have m2:=L.mems.2.1;have m3:=L.mems.2.2.1;have q2:=hM.lP _ m2;have q3:=hM.lP _ m3;have n23:L.b2≠L.b3:=xu hM.nd 1 2 rfl rfl (by decide)
 have t1:=(yh W3 L.b2 0 (.pointer none)).mono (cs:=λk=>k=L.b2∨k=L.b3) (λk hk=>Or.inl hk)
 have t2:=(yh (W3.setCell ⟨L.b2,0,none⟩ (.pointer none)) L.b3 0 (.int .i64 180)).mono (cs:=λk=>k=L.b2∨k=L.b3) (λk hk=>Or.inr hk)
 have tt:=t1.trans t2;have hk:=hI.two hg;have hz:=hM.sz;have hz3:=ht3.size;have he:opnD d d.n=(dk',180,true):=by rw[zft (n:=i+1) (by rw[hn];simp) d.n hi,hn]
 refine⟨⟨Nat.le_trans hk.1 (Nat.le_trans ht3.size tt.size),?_,?_⟩,rfl,by rw[he];simp,(ht2.trans (ht3.mono λk hk ho=>hk (hM.ownP k ho))).trans (tt.mono λk hk ho=>?_),⟨P,?_,hM.ownP,hM.pB⟩,⟨?_,q2.2⟩,⟨?_,q3.2⟩⟩
 ·rw[tt.block B (by omega) (by omega),ht3.block B (by omega) (λe=>e hM.pB.1),hk.2.1]
 ·rw[tt.block (B+1) (by omega) (by omega),ht3.block (B+1) (by omega) (λe=>e hM.pB.2),hk.2.2]
 ·rcases hk with e|e
  ·exact hown k ho _ m2 e
  ·exact hown k ho _ m3 e
 ·rw[he]
  exact hd.turn (tt.mono λk hk=>by
   rcases hk with e|e
   ·rw[e];exact q2.1
   ·rw[e];exact q3.1)
 ·simp[World.setCell,Array.getElem?_modify,h2,Ne.symm n23,n23]
 ·rw[he];simp[World.setCell,Array.getElem?_modify,h3,Ne.symm n23,n23]
set_option maxRecDepth 100000 in
theorem zih (hI:OI own W0 db d B L i W) (hi:i<d.n) (hx:bk d.now i=x) (hx1:x.length=256) (hx2:BL x) (h8:W.heap[B8]? = some (.cells (zg x).toArray 136 (0,0))) (hB8:B+2≤B8) (hs:saidP zo x=none) (hz:x≠zr) (hoff:d.off=false) (hlate:d.late.length+d.n<1000000) (hown:∀k,own k→∀j∈L.all,k≠j) :
  oBody.wpIn (Fence.wide.inRound l) 3 Tryz.prog (Yx B (OI own W0 db d B L) (OX own W0 db d B L) i W) { tmps:=#[.pointer (some ⟨db,0,none⟩),.pointer (some ⟨L.bd,0,none⟩),.pointer (some ⟨L.b2,0,none⟩),.pointer (some ⟨L.b3,0,none⟩),.pointer (some ⟨L.b4,0,none⟩),.pointer (some ⟨L.b5,0,none⟩),.pointer (some ⟨L.b6,0,none⟩),.int .i64 (i:Int),.pointer (some ⟨B8,0,none⟩),undef,undef,undef,undef,undef,undef,undef,undef,undef,undef,undef,undef,undef,u22,u23,u24,u25,u26,u27,u28,u29,u30,u31,u32,u33,u34,u35,u36,fv,.int .i64 (i:Int),.agg (zg x).toArray,u40,u41,u42,u43,u44,u45,u46,u47,u48,u49,u50,u51,u52,u53,u54,u55,u56,u57,u58,u59,u60,u61,u62,u63,u64,u65,u66,u67,u68,u69,u70,u71,u72,u73,u74,u75,u76,u77,u78,u79,u80,u81,u82,u83,u84,u85,u86,u87,u88,u89,u90,u91,u92,u93,u94,u95,u96,u97,u98,u99,u100,u101,u102,u103,u104,u105,u106,u107,u108,u109,u110,u111,u112,u113,u114,u115,u116,u117,u118,u119,u120,u121,u122,u123,u124,u125,u126,u127,u128,u129,u130,u131,u132,u133,u134,u135,u136,u137,u138,u139,u140,u141,u142,u143,u144,u145,u146,u147,u148,u149,u150,u151,u152,u153,u154,u155,u156,u157,u158,u159,u160],defers:=[] } W:=by
 have HL:=zd4 B (OI own W0 db d B L) (OX own W0 db d B L) i W;have HS:=zd (psaid (W:=W) x hx1 hx2);unfold Us at HS;rw[hs] at HS;have HX1:=zd hx1;have H8:=zd h8;have HI:=zd hI;have HXE:=zd hx;have HSN:=zd hs;have HZ:=zd hz;have HLA:=zd hlate;have HOF:=zd hoff;have HOW:=zd hown;have HIN:=zd hi;have HB8:=zd hB8;have HLL:=zd HL;clear hx1 hx2 h8 hI hx hs hz hi hB8 HL hlate hoff hown;generalize hPP:Yx B (OI own W0 db d B L) (OX own W0 db d B L) i W=PP at *;have HPP:=zd hPP;clear hPP
 delta oBody
 dsimp only[Tryz.f18];refine wpIn_block (wpIn_seq_k (λK1 hK1=>uo (by kernel_rfl) (λ⟨a,w,h⟩=>HLL.out ⟨a,w,h⟩) ?_))
 go_wp2_with (first
  | (refine wpList_load_row rfl 136 _ rfl B8 rfl 136 (zg x).toArray (0,0) _ H8.out Tryz.underlying136 rfl (Zi HX1.out) ?_)
  | (go_at_call 84;refine HS.out.mono ?_;rintro e W1 ⟨hg,k',i',c',v,rfl,⟨pv,nv,cv,rfl⟩,-⟩;have HG:=zd hg;clear hg))
 refine wpIn_seq_k (λK2 hK2=>wpIn_seq_k (λK3 hK3=>uo (by kernel_rfl) (λ⟨a,w,h⟩=>HLL.out ⟨a,w,h⟩) ?_))
 have HZL:Hid (zr.length=256):=(show _=_ from xt)
 have H9:Hid (∀w',W1.grownBy w' none→w'.heap[B8]? = some (.cells (zg x).toArray 136 (0,0))):=(show ∀w',_→_ from λw' hg=>((zh HG.out hg).block B8 (Array.getElem?_eq_some_iff.1 H8.out).1 (by simp)).trans H8.out)
 go_wp2_with (first
  | (refine ud (by kernel_rfl) (Vw _ 136 rfl B8 136 (zg x).toArray (0,0) _ rfl (H9.out _ (by repeat (first|exact zi _|refine zp ?_ _))) Tryz.underlying136 rfl (Zi HX1.out)) ?_)
  | (refine ud (by kernel_rfl) (Je rfl) ?_)
  | (refine ud (by kernel_rfl) (zb5 _ _ _ rfl rfl rfl HX1.out HZL.out true (by simp[HZ.out])) ?_))
 have HG2:Hid (W.grownBy (W1.alloc (.cells #[.int .i64 k',.int .i64 i',.int .i64 c',.slice pv nv cv] 138)) none):=(show W.grownBy _ none from zp HG.out _)
 generalize W1.alloc (.cells #[.int .i64 k',.int .i64 i',.int .i64 c',.slice pv nv cv] 138)=W2 at *;clear HG H9 HS H8;have hI2:=HI.out.grown HG2.out;obtain⟨h0,h1,h2,P,loc,rp,hM⟩:=hI2;have ho:=zd9 HOF.out i h0 h1;obtain⟨z1,z2,z3⟩:=za7 ho.off (i:=i) (by rw[ho.nn];exact HIN.out)
 have hnext:=Ub h1 (by rw[HXE.out,HSN.out];rfl) (by rw[HXE.out];exact HZ.out)
 have HWR:=zd (dwrite hM.disk (i:Int) (v:=.slice none 0 0) (b:=[]) ⟨none,0,rfl,Or.inl rfl⟩ (λ_ h=>by simp at h) (by have:=ho.late;have:=HLA.out;have:=HIN.out;omega))
 have cd:W2.cell? ⟨L.bd,0,none⟩=some (.pointer (some ⟨db,0,none⟩)):=(zf hM.bd 0).trans rfl;have HM:=zd hM;have HNX:=zd hnext;have HO:=zd ho;have HT2:=zd h2;have HH1:=zd h1;have hmf:∀(fn:Fn) (first cap:Array Value) (w:World),(Instr.makeFunc fn first cap).run Tryz.prog w = .ok (.func fn first cap) w:=λ_ _ _ _=>rfl
 have fT:Fence.wide.fn 24:=trivial;clear hM hnext ho h2 h1 z1;rw[z2] at HWR HNX
 cases hb:(opnD d i).1.stepB with
 | false=>
  rw[hb] at HWR z3 HNX;simp only[Bool.false_eq_true,if_false] at HWR z3 HNX;clear z2 z3 hb;have n23:L.b2≠L.b3:=xu HM.out.nd 1 2 rfl rfl (by decide)
  have n32:L.b3≠L.b2:=Ne.symm n23
  gi_wp2_with (first
   | (gi_at_call 24;refine(callsIn_wide.2 HWR.out).mono ?_;rintro e W3 ⟨rfl,hd3,ht3⟩;have HD3:=zd hd3;have HT3:=zd ht3;have b2:=(HT3.out.block _ (HM.out.P_lt (HM.out.lP _ L.mems.2.1).1) (λe=>e (HM.out.lP _ L.mems.2.1).1)).trans HM.out.b2;have b3:=(HT3.out.block _ (HM.out.P_lt (HM.out.lP _ L.mems.2.2.1).1) (λe=>e (HM.out.lP _ L.mems.2.2.1).1)).trans HM.out.b3;have k2:W3.cell? ⟨L.b2,0,none⟩=some (.pointer none):=(zf b2 0).trans rfl;have k3:W3.cell? ⟨L.b3,0,none⟩=some (.int .i64 0):=(zf b3 0).trans rfl;have f2:=xf b2 0;have f3:=xf b3 0;have HB2:=zd b2;have HB3:=zd b3;clear hd3 ht3 b2 b3))
  rw[←HPP.out]
  exact ox_made HI.out HNX.out HIN.out HM.out HT2.out HD3.out HT3.out HB2.out HB3.out HOW.out HG2.out
 | true=>
  rw[hb] at HWR z3 HNX;simp only[if_true] at HWR z3 HNX;have HDN:Hid (((opnD d i).1.written (i:Int) []).n=d.n):=(show _=_ from by rw[z3];exact HO.out.nn)
  clear z2 z3 hb
  gi_wp2_with (first
   | (gi_at_call 24;refine(callsIn_wide.2 HWR.out).mono ?_;rintro e W3 ⟨rfl,hd3,ht3⟩;have HD3:=zd hd3;have HT3:=zd ht3;have b6:=(HT3.out.block _ (HM.out.P_lt (HM.out.lP _ L.mems.2.2.2.2.2.1).1) (λe=>e (HM.out.lP _ L.mems.2.2.2.2.2.1).1)).trans HM.out.b6;have bd:=(HT3.out.block _ (HM.out.P_lt (HM.out.lP _ L.mems.1).1) (λe=>e (HM.out.lP _ L.mems.1).1)).trans HM.out.bd;have k6:W3.cell? ⟨L.b6,0,none⟩=some (Uf db (opnD d i).2.2):=(zf b6 0).trans rfl;have f6:=xf b6 0;have kd:W3.cell? ⟨L.bd,0,none⟩=some (.pointer (some ⟨db,0,none⟩)):=(zf bd 0).trans rfl;clear hd3 ht3 b6 bd))
  rw[←HPP.out]
  exact⟨zn6 (HI.out.two HG2.out) HM.out HT3.out _,OI.scrub HIN.out (by rw[HXE.out];exact HSN.out) HNX.out HM.out HT2.out HD3.out HDN.out HT3.out HOW.out⟩
end
attribute [local go_sem] Oper.semAt_some Zn
section
variable {own : Nat → Prop} {W0 W : World} {db : Nat} {d : Dk} {B : Nat} {L : Yh} {i l B8 : Nat} {x : List Int} {fv u22 u23 u24 u25 u26 u27 u28 u29 u30 u31 u32 u33 u34 u35 u36 u40 u41 u42 u43 u44 u45 u46 u47 u48 u49 u50 u51 u52 u53 u54 u55 u56 u57 u58 u59 u60 u61 u62 u63 u64 u65 u66 u67 u68 u69 u70 u71 u72 u73 u74 u75 u76 u77 u78 u79 u80 u81 u82 u83 u84 u85 u86 u87 u88 u89 u90 u91 u92 u93 u94 u95 u96 u97 u98 u99 u100 u101 u102 u103 u104 u105 u106 u107 u108 u109 u110 u111 u112 u113 u114 u115 u116 u117 u118 u119 u120 u121 u122 u123 u124 u125 u126 u127 u128 u129 u130 u131 u132 u133 u134 u135 u136 u137 u138 u139 u140 u141 u142 u143 u144 u145 u146 u147 u148 u149 u150 u151 u152 u153 u154 u155 u156 u157 u158 u159 u160 : Value}
theorem rw5_new {W4 w5 w6:World} {B9 B12 pb ab tb:Nat} {p:Prt} {rows:List (zt × xr)} {v:Value} {P4:Nat→Prop} {loc:zt→Nat × Nat × Nat} {rp4:Nat→Prop} {nx:Int} {cs:List (Nat × Value × List Int)} (hM:OM own db d.n B L P4 loc rp4 rows nx (opnD d i).2.2 (opnD d i).1 W4) (p9:P4 B9) (p12:P4 B12) (hrow:zw rows ⟨p.k,p.count⟩=none) (hv:xw rp4 W4 v (zg p.b)) (htw:uy B W W4) (htu:zm (λk=>¬own k) W0 W4)
  (h9:W4.heap[B9]? = some (.cells #[.int .i64 p.k,.int .i64 (p.index:Int),.int .i64 (p.count:Int),v] 138 (0,0))) (h12:W4.heap[B12]? = some (.cells #[.int .i64 p.k,.int .i64 (p.count:Int)] 142 (0,0))) (hg:W4.grownBy w5 none)
  (hn:W4.heap.size≤pb∧W4.heap.size≤ab∧W4.heap.size≤tb∧pb≠ab∧pb≠tb∧ab≠tb∧Ys w5 (λ_=>False) pb ab tb cs (uc p.count))
  (hm:yg w6 L.mr jr Ul (yo (rows.map λq=>(q.1,(loc q.1).1)) ⟨p.k,p.count⟩ pb)) (hg2:w5.grownBy w6 (some L.mr)) (hlo:L.mr<B∧B+2≤B9∧B+2≤B12∧L.b5≠L.mr) (how:∀k,own k→∀j∈L.all,k≠j) :
  Rw5 own W0 W db d B L i B9 B12 p rows v (λk=>P4 k∨(W4.heap.size≤k∧k<w5.heap.size)) (λK'=>if K'=⟨p.k,p.count⟩ then (pb,ab,tb) else loc K') rp4 (rows ++ [(⟨p.k,p.count⟩,uc p.count)]) (uc p.count) nx w6:=by
 obtain⟨l1,l2,l3,n1,n2,n3,hr⟩:=hn;have hne:=uz.1 hrow;have hput:rows ++ [(⟨p.k,p.count⟩,uc p.count)]=yo rows ⟨p.k,p.count⟩ (uc p.count):=(Yo hne _).symm;have hz:=hM.sz;have keep:∀k,k<W4.heap.size→k≠L.mr→w6.heap[k]? = W4.heap[k]?:=λk hk hkm=>(hg2.block k (Nat.lt_of_lt_of_le hk hg.size) (λe=>hkm (by injection e))).trans (hg.block k hk (by simp))
 have l9:=hM.P_lt p9;have l12:=hM.P_lt p12;refine⟨hM.addRow hrow hg hr ⟨n1,n2,n3⟩ ⟨l1,l2,l3⟩ hm hg2,Or.inl p9,Or.inl p12,?_,λr=>?_,by rw[hrow];rfl,by simp[uc],hv.turn λk hk=>keep k (hM.rlt k hk) (by have:=(hM.rows.parts k hk).2;omega),⟨Nat.le_trans htw.1 (Nat.le_trans hg.size hg2.size),(keep B (by omega) (by omega)).trans htw.2.1,(keep (B+1) (by omega) (by omega)).trans htw.2.2⟩,?_,(keep B9 l9 (by omega)).trans h9,(keep B12 l12 (by omega)).trans h12⟩
 ·rw[hput,ub]
 ·rw[hput,zmz]
 ·refine htu.trans ⟨hg2.os.trans hg.os,hg2.tape.trans hg.tape,hg2.output.trans hg.output,Nat.le_trans hg.size hg2.size,λk hk ho=>keep k hk (λe=>ho λhk2=>how k hk2 _ L.mems.2.2.2.2.2.2.2.2.2.2 e)⟩
set_option maxRecDepth 100000 in
theorem zkm {p:Prt} (hI:OI own W0 db d B L i W) (hi:i<d.n) (hx:bk d.now i=x) (hx1:x.length=256) (hx2:BL x) (h8:W.heap[B8]? = some (.cells (zg x).toArray 136 (0,0))) (hs:saidP zo x=some p) (hown:∀k,own k→∀j∈L.all,k≠j) (how2:∀k,own k→k<B) :
  oBody.wpIn (Fence.wide.inRound l) 3 Tryz.prog (Yx B (OI own W0 db d B L) (OX own W0 db d B L) i W) { tmps:=#[.pointer (some ⟨db,0,none⟩),.pointer (some ⟨L.bd,0,none⟩),.pointer (some ⟨L.b2,0,none⟩),.pointer (some ⟨L.b3,0,none⟩),.pointer (some ⟨L.b4,0,none⟩),.pointer (some ⟨L.b5,0,none⟩),.pointer (some ⟨L.b6,0,none⟩),.int .i64 (i:Int),.pointer (some ⟨B8,0,none⟩),undef,undef,undef,undef,undef,undef,undef,undef,undef,undef,undef,undef,undef,u22,u23,u24,u25,u26,u27,u28,u29,u30,u31,u32,u33,u34,u35,u36,fv,.int .i64 (i:Int),.agg (zg x).toArray,u40,u41,u42,u43,u44,u45,u46,u47,u48,u49,u50,u51,u52,u53,u54,u55,u56,u57,u58,u59,u60,u61,u62,u63,u64,u65,u66,u67,u68,u69,u70,u71,u72,u73,u74,u75,u76,u77,u78,u79,u80,u81,u82,u83,u84,u85,u86,u87,u88,u89,u90,u91,u92,u93,u94,u95,u96,u97,u98,u99,u100,u101,u102,u103,u104,u105,u106,u107,u108,u109,u110,u111,u112,u113,u114,u115,u116,u117,u118,u119,u120,u121,u122,u123,u124,u125,u126,u127,u128,u129,u130,u131,u132,u133,u134,u135,u136,u137,u138,u139,u140,u141,u142,u143,u144,u145,u146,u147,u148,u149,u150,u151,u152,u153,u154,u155,u156,u157,u158,u159,u160],defers:=[] } W:=by
 have HL:=zd4 B (OI own W0 db d B L) (OX own W0 db d B L) i W;have HS:=zd (psaid (W:=W) x hx1 hx2);unfold Us at HS;rw[hs] at HS;have HX1:=zd hx1;have H8:=zd h8;have HI:=zd hI;have HXE:=zd hx;have HSN:=zd hs;have HIN:=zd hi;have HOW:=zd hown;have HO2:=zd how2;have HLL:=zd HL;have HNP:Hid (∀c a w,¬Yx B (OI own W0 db d B L) (OX own W0 db d B L) i W (.panic c) a w):=(show ∀c a w,¬_ from λ_ _ _ h=>h)
 have HMP:=zd (yr hs).1;clear hx1 hx2 h8 hI hx hs hi HL hown how2;generalize hPP:Yx B (OI own W0 db d B L) (OX own W0 db d B L) i W=PP at *;have HPP:=zd hPP;clear hPP
 delta oBody
 dsimp only[Tryz.f18];refine wpIn_block (wpIn_seq_k (λK1 hK1=>uo (by kernel_rfl) (λ⟨a,w,h⟩=>HLL.out ⟨a,w,h⟩) ?_))
 go_wp2_with (first
  | (refine wpList_load_row rfl 136 _ rfl B8 rfl 136 (zg x).toArray (0,0) _ H8.out Tryz.underlying136 rfl (Zi HX1.out) ?_)
  | (go_at_call 84;refine HS.out.mono ?_;rintro e W1 ⟨hg,k',i',c',v,rfl,⟨pv,nv,cv,rfl⟩,hrow⟩;obtain⟨rfl,rfl,rfl,hr9⟩:=hrow p rfl;have HG:=zd hg;have HROW:=zd hr9;clear hg hr9 hrow))
 -- the part is in its box
 have HG2:Hid (W.grownBy (W1.alloc (.cells #[.int .i64 p.k,.int .i64 (p.index:Int),.int .i64 (p.count:Int),.slice pv nv cv] 138)) none):=(show W.grownBy _ none from zp HG.out _)
 have hb9:=heap_alloc_new W1 (.cells #[.int .i64 p.k,.int .i64 (p.index:Int),.int .i64 (p.count:Int),.slice pv nv cv] 138);have HB9:Hid (W.heap.size≤W1.heap.size∧W1.heap.size<(W1.alloc (.cells #[.int .i64 p.k,.int .i64 (p.index:Int),.int .i64 (p.count:Int),.slice pv nv cv] 138)).heap.size):=(show _∧_ from ⟨HG.out.size,by simp⟩)
 have HRW:Hid ((∀k,(Value.slice pv nv cv).ownBlock=some k→W.heap.size≤k∧k<(W1.alloc (.cells #[.int .i64 p.k,.int .i64 (p.index:Int),.int .i64 (p.count:Int),.slice pv nv cv] 138)).heap.size)∧xw (λk=>(Value.slice pv nv cv).ownBlock=some k) (W1.alloc (.cells #[.int .i64 p.k,.int .i64 (p.index:Int),.int .i64 (p.count:Int),.slice pv nv cv] 138)) (.slice pv nv cv) (zg p.b)):=(show _∧_ from by
  have hr:=HROW.out;rw[←zu p.b] at hr;obtain⟨r1,r2⟩:=zc4 hr
  exact⟨λk hk=>⟨(r2 k hk).1,by have:=(r2 k hk).2;simp;omega⟩,r1.turn λk hk=>(ze W1 _ none).block k (r2 k hk).2 (by simp)⟩)
 generalize W1.heap.size=B9 at *;generalize W1.alloc (.cells #[.int .i64 p.k,.int .i64 (p.index:Int),.int .i64 (p.count:Int),.slice pv nv cv] 138)=W2 at *;have HB9C:=zd hb9;clear hb9 HG HROW HS H8;obtain⟨h0,h1,h2,P,loc,rp,hM⟩:=HI.out;have HM2:=zd (hM.part HRW.out.1 HG2.out);have HBS:=zd hM.sz;have HH:=zd (And.intro h0 (And.intro h1 h2));have HNX:Hid (1≤(scanN zo (bk d.now) i).next∧(scanN zo (bk d.now) i).next≤4611686018427387905):=(show _∧_ from ⟨(qv (C:=zo) (bk d.now) i).nx,zck (Int.le_refl _) i⟩)
 have HH1:=zd h1;clear hM h0 h1 h2
 -- ok: nothing is scrubbed
 gi_wp2_with fail
 -- the number behind all
 have m4:W2.cell? ⟨L.b4,0,none⟩=some (.pointer (some ⟨L.st,0,none⟩)):=(zf HM2.out.b4 0).trans rfl;have m3:W2.cell? ⟨L.st,3,none⟩=some (.int .i64 (scanN zo (bk d.now) i).next):=(zf HM2.out.st 3).trans rfl;have g3:W2.frozen? ⟨L.st,3,none⟩=false:=xf HM2.out.st 3;have m9:W2.cell? ⟨B9,0,none⟩=some (.int .i64 p.k):=(zf HB9C.out 0).trans rfl;have hk1:=HMP.out.k1;have hk2:=HMP.out.k2;generalize hnx:(scanN zo (bk d.now) i).next=nx at *;have HNE:=zd hnx;clear hnx;refine Zb 11 (by kernel_rfl) (by kernel_rfl) (by kernel_rfl) (λ⟨a,w,h⟩=>HLL.out ⟨a,w,h⟩) ?_
 simp only[List.take_succ_cons,List.take_zero,List.drop_succ_cons,List.drop_zero]
 repeat still_step
 refine wpStill_nil ?_
 change wpList _ _ _ _ _ W2.drew
 go_wp2_with fail
 have hb9':=((zj (zi _)).block B9 (by rw[show(W2.setCell ⟨L.st,3,none⟩ (.int .i64 (max nx (p.k+1)))).heap.size=W2.heap.size by simp[World.setCell]];exact HB9.out.2) (by simp):(W2.setCell ⟨L.st,3,none⟩ (.int .i64 (max nx (p.k+1)))).drew.heap[B9]? = _).trans (((yh W2 L.st 3 (.int .i64 (max nx (p.k+1)))).block B9 HB9.out.2 (by have:=(HM2.out.lP _ L.mems.2.2.2.2.2.2.2.1).2;have:=HBS.out;have:=HB9.out.1;omega)).trans HB9C.out)
 have HM3:=zd ((HM2.out.setNext (max nx (p.k+1))).grown (zj (zi _)));have HT23:Hid (zm (λk=>k=L.st) W2 (W2.setCell ⟨L.st,3,none⟩ (.int .i64 (max nx (p.k+1)))).drew):=(show zm _ _ _ from (yh W2 L.st 3 _).trans ⟨rfl,rfl,rfl,Nat.le_refl _,λ_ _ _=>rfl⟩)
 clear m4 m3 g3 m9
 -- the key's box
 generalize (W2.setCell ⟨L.st,3,none⟩ (.int .i64 (max nx (p.k+1)))).drew=W3 at *;have m90:W3.cell? ⟨B9,0,none⟩=some (.int .i64 p.k):=(zf hb9' 0).trans rfl;have m92:W3.cell? ⟨B9,2,none⟩=some (.int .i64 (p.count:Int)):=(zf hb9' 2).trans rfl;refine wpIn_seq_k (λK5 hK5=>uo (by kernel_rfl) (λ⟨a,w,h⟩=>HLL.out ⟨a,w,h⟩) ?_)
 go_wp2_with fail
 have hb12:=heap_alloc_new W3 (.cells #[.int .i64 p.k,.int .i64 (p.count:Int)] 142);have HR4:Hid (∃P4:Nat→Prop,OM own db d.n B L P4 loc (λk=>rp k∨(Value.slice pv nv cv).ownBlock=some k) (scanN zo (bk d.now) i).rows (max nx (p.k+1)) (opnD d i).2.2 (opnD d i).1 (W3.alloc (.cells #[.int .i64 p.k,.int .i64 (p.count:Int)] 142))∧P4 B9∧P4 W3.heap.size∧xw (λk=>rp k∨(Value.slice pv nv cv).ownBlock=some k) (W3.alloc (.cells #[.int .i64 p.k,.int .i64 (p.count:Int)] 142)) (.slice pv nv cv) (zg p.b)∧uy B W (W3.alloc (.cells #[.int .i64 p.k,.int .i64 (p.count:Int)] 142))∧zm (λk=>¬own k) W0 (W3.alloc (.cells #[.int .i64 p.k,.int .i64 (p.count:Int)] 142))∧(W3.alloc (.cells #[.int .i64 p.k,.int .i64 (p.count:Int)] 142)).heap[B9]? = some (.cells #[.int .i64 p.k,.int .i64 (p.index:Int),.int .i64 (p.count:Int),.slice pv nv cv] 138 (0,0))):=(show ∃_,_ from by
  have hga:=ze W3 (.cells #[.int .i64 p.k,.int .i64 (p.count:Int)] 142) none;have t24:zm (λk=>k=L.st) W2 (W3.alloc (.cells #[.int .i64 p.k,.int .i64 (p.count:Int)] 142)):=HT23.out.trans ⟨hga.os,hga.tape,hga.output,hga.size,λk hk _=>hga.block k hk (by simp)⟩
  have hst:=(HM2.out.lP _ L.mems.2.2.2.2.2.2.2.1).2;have hbs:=HBS.out;have hw2:=HG2.out.size;refine⟨_,HM3.out.widen hga,Or.inl (Or.inr HB9.out),Or.inr ⟨Nat.le_refl _,by simp⟩,?_,?_,?_,(hga.block B9 (Array.getElem?_eq_some_iff.1 hb9').1 (by simp)).trans hb9'⟩
  ·refine xw.mono (xw.turn HRW.out.2 λk hk=>?_) λk hk=>Or.inr hk
   have:=HRW.out.1 k hk
   exact t24.block k this.2 (by omega)
  ·have h0:=HI.out.two HG2.out
   refine⟨Nat.le_trans h0.1 t24.size,?_,?_⟩
   ·rw[t24.block B (by omega) (by omega),h0.2.1]
   ·rw[t24.block (B+1) (by omega) (by omega),h0.2.2]
  ·refine(HH.out.2.2.trans ?_).trans (t24.mono λk hk ho=>HOW.out k ho _ L.mems.2.2.2.2.2.2.2.1 hk)
   exact⟨HG2.out.os,HG2.out.tape,HG2.out.output,HG2.out.size,λk hk _=>HG2.out.block k hk (by simp)⟩)
 generalize hB12:W3.heap.size=B12 at *;generalize W3.alloc (.cells #[.int .i64 p.k,.int .i64 (p.count:Int)] 142)=W4 at *;obtain⟨P4,hM4,hp9,hp12,hrv,htw,htu,h94⟩:=HR4.out;generalize (λk=>rp k∨(Value.slice pv nv cv).ownBlock=some k)=rp4 at *
 have HM4:=zd hM4;have HS4:=zd (And.intro hp9 (And.intro hp12 (And.intro hrv (And.intro htw htu))));have HB12C:=zd hb12;have H94:=zd h94;have HC:=zd HMP.out.c2;have HIX:=zd HMP.out.i1;have HLEN:Hid (((zw (scanN zo (bk d.now) i).rows ⟨p.k,p.count⟩).getD (uc p.count)).there.length=p.count):=(show _=_ from by
  cases e:zw (scanN zo (bk d.now) i).rows ⟨p.k,p.count⟩ with
  | none=>simp[uc]
  | some r=>exact((qv (C:=zo) (bk d.now) i).row _ r e).l2)
 have HSC:=zd (znr (C:=zo) (f:=bk d.now) (n:=i) (p:=p) (by rw[HXE.out];exact HSN.out))
 rw[HNE.out] at HSC;generalize (scanN zo (bk d.now) i).rows=rows at *;have k5:W4.cell? ⟨L.b5,0,none⟩=some (.map (some L.mr)):=(zf HM4.out.b5 0).trans rfl;have k120:W4.cell? ⟨B12,0,none⟩=some (.int .i64 p.k):=(zf hb12 0).trans rfl;have k121:W4.cell? ⟨B12,1,none⟩=some (.int .i64 (p.count:Int)):=(zf hb12 1).trans rfl;have k92:W4.cell? ⟨B9,2,none⟩=some (.int .i64 (p.count:Int)):=(zf h94 2).trans rfl;have NLO:Hid (L.mr<B∧B+2≤B9∧B+2≤B12∧L.b5≠L.mr):=(show _∧_ from ⟨(HM2.out.lP _ L.mems.2.2.2.2.2.2.2.2.2.2).2,by have:=HBS.out;have:=HB9.out.1;omega,by have:=HBS.out;have:=HG2.out.size;have:=HT23.out.size;omega,xu HM2.out.nd 4 10 rfl rfl (by decide)⟩)
 clear hM4 hp9 hp12 hrv htw htu h94 hb12 HR4 hb9' m90 m92 HM3 HM2 HRW HB9 HBS HG2 HI HH hB12 HB9C HT23 hk1 hk2 HMP HX1;refine wpIn_seq_k (λK6 hK6=>?_)
 cases hrow:zw rows ⟨p.k,p.count⟩ with
 | some r5=>
  have HV:Hid (((zw rows ⟨p.k,p.count⟩).map λ_=>Ul (loc ⟨p.k,p.count⟩).1).getD (.pointer none) = .pointer (some ⟨(loc ⟨p.k,p.count⟩).1,0,none⟩)):=(show _=_ from by rw[hrow];rfl)
  have HR5:Hid (Rw5 own W0 W db d B L i B9 B12 p rows (.slice pv nv cv) P4 loc rp4 rows r5 (max nx (p.k+1)) W4):=(show Rw5 _ _ _ _ _ _ _ _ _ _ _ _ _ _ _ _ _ _ _ _ from ⟨HM4.out,HS4.out.1,HS4.out.2.1,hrow,λ_=>rfl,by rw[hrow];rfl,by have:=HLEN.out;rw[hrow] at this;exact this,HS4.out.2.2.1,HS4.out.2.2.2.1,HS4.out.2.2.2.2,H94.out,HB12C.out⟩)
  clear hrow HLEN;refine wpIn_seq_k (λK7 hK7=>uo (by kernel_rfl) (λ⟨a,w,h⟩=>HLL.out ⟨a,w,h⟩) ?_)
  go_wp2_with (refine ud (by kernel_rfl) (jf _ _ _ rfl rfl rfl (Xg HM4.out.rows ⟨p.k,p.count⟩ HV.out)) ?_)
  gi_wp2_with fail
  obtain⟨W5,hW5⟩:∃X:World,X=W4:=⟨_,rfl⟩;rw[←hW5] at HR5 ⊢;obtain⟨loc5,hl5⟩:∃X,X=loc:=⟨_,rfl⟩;rw[←hl5] at HR5;clear hW5 hl5 HV HM4 HS4 HB12C H94 k5 k120 k121 k92;have y5:W5.cell? ⟨L.b5,0,none⟩=some (.map (some L.mr)):=(zf HR5.out.om.b5 0).trans rfl;have y120:W5.cell? ⟨B12,0,none⟩=some (.int .i64 p.k):=(zf HR5.out.h12 0).trans rfl;have y121:W5.cell? ⟨B12,1,none⟩=some (.int .i64 (p.count:Int)):=(zf HR5.out.h12 1).trans rfl;have y91:W5.cell? ⟨B9,1,none⟩=some (.int .i64 (p.index:Int)):=(zf HR5.out.h9 1).trans rfl;have y93:W5.cell? ⟨B9,3,none⟩=some (.slice pv nv cv):=(zf HR5.out.h9 3).trans rfl;obtain⟨cs5,hrw5⟩:=(HR5.out.om.grown (zj (zi W5))).rows.row _ _ HR5.out.get;have HST:=zd (rset hrw5 (j:=p.index) (i:=i) (v:=.slice pv nv cv) (b:=p.b) (by rw[HR5.out.len];exact HIX.out) (HR5.out.rv.turn λ_ _=>rfl) (λk hk=>⟨λe=>(HR5.out.om.rows.free _ _ HR5.out.get _ (Or.inr (Or.inl rfl))).1 (e ▸ hk),λe=>(HR5.out.om.rows.free _ _ HR5.out.get _ (Or.inr (Or.inr rfl))).1 (e ▸ hk),HR5.out.om.rlt k hk⟩) (HR5.out.om.rows.ne _ _ HR5.out.get))
  have HV5:=zd (Xg (HR5.out.om.grown (zj (zi W5))).rows ⟨p.k,p.count⟩ (v:=.pointer (some ⟨(loc5 ⟨p.k,p.count⟩).1,0,none⟩)) (by rw[HR5.out.get];rfl))
  clear hrw5;refine Zb 9 (by kernel_rfl) (by kernel_rfl) (by kernel_rfl) (λ⟨a,w,h⟩=>HLL.out ⟨a,w,h⟩) ?_
  simp only[List.take_succ_cons,List.take_zero,List.drop_succ_cons,List.drop_zero]
  repeat (first|(refine zcm (by kernel_rfl) (jf _ _ _ rfl rfl rfl HV5.out) ?_)|still_step)
  refine wpStill_nil ?_
  change wpList _ _ _ _ _ W5.drew
  go_wp2_with (go_at_call 86;refine HST.out.mono ?_;rintro e W7 ⟨rfl,hrw7,ht7⟩;have HRW7:=zd hrw7;have HT7:=zd ht7;clear hrw7 ht7)
  rw[←HPP.out];obtain⟨cs7,hrw7⟩:=HRW7.out
  exact HR5.out.fin HIN.out HH1.out (by rw[HXE.out];exact HSN.out) HSC.out hrw7 HT7.out HO2.out
 | none=>
  have HV:Hid (((zw rows ⟨p.k,p.count⟩).map λ_=>Ul (loc ⟨p.k,p.count⟩).1).getD (.pointer none) = .pointer none):=(show _=_ from by rw[hrow];rfl)
  refine wpIn_seq_k (λK7 hK7=>uo (by kernel_rfl) (λ⟨a,w,h⟩=>HLL.out ⟨a,w,h⟩) ?_)
  go_wp2_with (refine ud (by kernel_rfl) (jf _ _ _ rfl rfl rfl (Xg HM4.out.rows ⟨p.k,p.count⟩ HV.out)) ?_)
  gi_wp2_with fail
  refine za3 (S:=λw':World=>w'.cell? ⟨L.b5,0,none⟩=some (.map (some L.mr))∧w'.cell? ⟨B12,0,none⟩=some (.int .i64 p.k)∧w'.cell? ⟨B12,1,none⟩=some (.int .i64 (p.count:Int))∧w'.cell? ⟨B9,2,none⟩=some (.int .i64 (p.count:Int))) (by kernel_rfl) (by kernel_rfl) (λ⟨a,w,h⟩=>HLL.out ⟨a,w,h⟩) ⟨k5,k120,k121,k92⟩ (λhHeld=>?_)
  refine wpAnyH_take (i := 0) (oi := { dst := some 82, op := Op.load 133 (Operand.tmp 5), type := 133, pos := "slots.go:169", after := #[], guard := none }) (v := ?_) rfl (by kernel_rfl) (by kernel_rfl) (by kernel_rfl) (fun c a w h => (HNP.out c _ _ h).elim) (Or.inl ⟨by rfl, ?_⟩) hHeld ?_
  rotate_left
  ·intro w hSw;(try dsimp only at hSw);obtain⟨s1,s2,s3,s4⟩:=hSw;go_simp;try with_reducible rfl
  (try simp only[Act.put,List.setIfInBounds_toArray,List.set_cons_zero,List.set_cons_succ])
  refine wpAnyH_take (i := 1) (oi := { dst := some 83, op := Op.load 142 (Operand.tmp 12), type := 142, pos := "slots.go:169", after := #[], guard := none }) (v := ?_) rfl (by kernel_rfl) (by kernel_rfl) (by kernel_rfl) (fun c a w h => (HNP.out c _ _ h).elim) (Or.inl ⟨by rfl, ?_⟩) hHeld ?_
  rotate_left
  ·intro w hSw;(try dsimp only at hSw);obtain⟨s1,s2,s3,s4⟩:=hSw;go_simp;try with_reducible rfl
  (try simp only[Act.put,List.setIfInBounds_toArray,List.set_cons_zero,List.set_cons_succ])
  refine wpAnyH_take (i := 2) (oi := { dst := some 84, op := Op.fieldAddr 138 (Operand.tmp 9) 2, type := 0, pos := "slots.go:169", after := #[], guard := none }) (v := ?_) rfl (by kernel_rfl) (by kernel_rfl) (by kernel_rfl) (fun c a w h => (HNP.out c _ _ h).elim) (Or.inl ⟨by rfl, ?_⟩) hHeld ?_
  rotate_left
  ·intro w hSw;(try dsimp only at hSw);obtain⟨s1,s2,s3,s4⟩:=hSw;go_simp;try with_reducible rfl
  (try simp only[Act.put,List.setIfInBounds_toArray,List.set_cons_zero,List.set_cons_succ])
  refine wpAnyH_take (i := 3) (oi := { dst := some 85, op := Op.load 3 (Operand.tmp 84), type := 3, pos := "slots.go:169", after := #[{ on := 2, ground := Ground.data }], guard := none }) (v := ?_) rfl (by kernel_rfl) (by kernel_rfl) (by kernel_rfl) (fun c a w h => (HNP.out c _ _ h).elim) (Or.inl ⟨by rfl, ?_⟩) hHeld ?_
  rotate_left
  ·intro w hSw;(try dsimp only at hSw);obtain⟨s1,s2,s3,s4⟩:=hSw;go_simp;try with_reducible rfl
  refine qO 4 λK hK=>?_
  go_simp
  go_at_call 85
  refine(rowof (W:=W4.drew) p.count HC.out).mono ?_;rintro e w5 ⟨hg,pb,ab,tb,cs,rfl,l1,l2,l3,n1,n2,n3,hrw⟩;have HG5:=zd hg;have HRN:=zd (And.intro l1 (And.intro l2 (And.intro l3 (And.intro n1 (And.intro n2 (And.intro n3 hrw))))));clear hg l1 l2 l3 n1 n2 n3 hrw;refine hK.out _ _ ⟨HG5.out.cell hHeld.1 (by simp),HG5.out.cell hHeld.2.1 (by simp),HG5.out.cell hHeld.2.2.1 (by simp),HG5.out.cell hHeld.2.2.2 (by simp)⟩ (λhHeld=>?_)
  clear hK K;refine qO 5 λK hK=>?_
  obtain⟨w6,hr6,hm6,hg6,-⟩:=yg.update (P:=Tryz.prog) keK Tryz.underlying133 (HM4.out.rows.map.kept (zh (zj (zi W4)) HG5.out) (by simp)) ⟨p.k,p.count⟩ pb
  refine uq rfl (Xw _ _ _ rfl rfl rfl rfl hr6) ?_;have HM6:=zd hm6;have HG6:=zd hg6;clear hr6 hm6 hg6;have hd1:=NLO.out.1;have hd2:=NLO.out.2.1;have hd3:=NLO.out.2.2.1;have hd4:=NLO.out.2.2.2;refine hK.out _ _ ⟨HG6.out.cell hHeld.1 (by simp;omega),HG6.out.cell hHeld.2.1 (by simp;omega),HG6.out.cell hHeld.2.2.1 (by simp;omega),HG6.out.cell hHeld.2.2.2 (by simp;omega)⟩ (λhHeld=>?_)
  clear hK K;refine qD ?_;have HR5:Hid (Rw5 own W0 W db d B L i B9 B12 p rows (.slice pv nv cv) (λk=>P4 k∨(W4.heap.size≤k∧k<w5.heap.size)) (λK'=>if K'=⟨p.k,p.count⟩ then (pb,ab,tb) else loc K') rp4 (rows ++ [(⟨p.k,p.count⟩,uc p.count)]) (uc p.count) (max nx (p.k+1)) w6):=(show Rw5 _ _ _ _ _ _ _ _ _ _ _ _ _ _ _ _ _ _ _ _ from rw5_new HM4.out HS4.out.1 HS4.out.2.1 hrow HS4.out.2.2.1 HS4.out.2.2.2.1 HS4.out.2.2.2.2 H94.out HB12C.out (zh (zj (zi W4)) HG5.out) HRN.out HM6.out HG6.out NLO.out HOW.out)
  generalize (λK'=>if K'=(⟨p.k,p.count⟩:zt) then (pb,ab,tb) else loc K')=loc5 at *
  generalize (rows ++ [((⟨p.k,p.count⟩:zt),uc p.count)])=rows5 at *;generalize (λk=>P4 k∨(W4.heap.size≤k∧k<w5.heap.size))=P5 at *
  obtain⟨W5,hW5⟩:∃X:World,X=w6:=⟨_,rfl⟩;rw[←hW5] at HR5 ⊢;clear hW5 HM6 HG6 HRN HG5 hHeld hd1 hd2 hd3 hd4
  go_wp2_with fail
  have y5:W5.cell? ⟨L.b5,0,none⟩=some (.map (some L.mr)):=(zf HR5.out.om.b5 0).trans rfl;have y120:W5.cell? ⟨B12,0,none⟩=some (.int .i64 p.k):=(zf HR5.out.h12 0).trans rfl;have y121:W5.cell? ⟨B12,1,none⟩=some (.int .i64 (p.count:Int)):=(zf HR5.out.h12 1).trans rfl;have y91:W5.cell? ⟨B9,1,none⟩=some (.int .i64 (p.index:Int)):=(zf HR5.out.h9 1).trans rfl;have y93:W5.cell? ⟨B9,3,none⟩=some (.slice pv nv cv):=(zf HR5.out.h9 3).trans rfl;obtain⟨cs5,hrw5⟩:=(HR5.out.om.grown (zj (zi W5))).rows.row _ _ HR5.out.get;have HST:=zd (rset hrw5 (j:=p.index) (i:=i) (v:=.slice pv nv cv) (b:=p.b) (by rw[HR5.out.len];exact HIX.out) (HR5.out.rv.turn λ_ _=>rfl) (λk hk=>⟨λe=>(HR5.out.om.rows.free _ _ HR5.out.get _ (Or.inr (Or.inl rfl))).1 (e ▸ hk),λe=>(HR5.out.om.rows.free _ _ HR5.out.get _ (Or.inr (Or.inr rfl))).1 (e ▸ hk),HR5.out.om.rlt k hk⟩) (HR5.out.om.rows.ne _ _ HR5.out.get))
  have HV5:=zd (Xg (HR5.out.om.grown (zj (zi W5))).rows ⟨p.k,p.count⟩ (v:=.pointer (some ⟨(loc5 ⟨p.k,p.count⟩).1,0,none⟩)) (by rw[HR5.out.get];rfl))
  clear hrw5;refine Zb 9 (by kernel_rfl) (by kernel_rfl) (by kernel_rfl) (λ⟨a,w,h⟩=>HLL.out ⟨a,w,h⟩) ?_
  simp only[List.take_succ_cons,List.take_zero,List.drop_succ_cons,List.drop_zero]
  repeat (first|(refine zcm (by kernel_rfl) (jf _ _ _ rfl rfl rfl HV5.out) ?_)|still_step)
  refine wpStill_nil ?_
  change wpList _ _ _ _ _ W5.drew
  go_wp2_with (go_at_call 86;refine HST.out.mono ?_;rintro e W7 ⟨rfl,hrw7,ht7⟩;have HRW7:=zd hrw7;have HT7:=zd ht7;clear hrw7 ht7)
  rw[←HPP.out];obtain⟨cs7,hrw7⟩:=HRW7.out
  exact HR5.out.fin HIN.out HH1.out (by rw[HXE.out];exact HSN.out) HSC.out hrw7 HT7.out HO2.out
end
end Go.Proofs.YtbcbhlfjgobejaaGreat
namespace Go
section
variable {P : Program} {md : Region.Mode} {ops : Array Oper} {Q : Exit → Act → World → Prop} {S : World → Prop} {ty : TypeId} {pl : String} {af : Array Edge} {fuel : Nat} {listed L : Array Bool} {a b : Act} {w : World} {op : Op} {g : Option (Nat × Bool)} {d : Nat} {D : Option Nat}
theorem sT {v:Value} (i:Nat) (h:wpAnyH P md ops Q S fuel (L.setIfInBounds i true) (b.put (some d) v) w) (hr:(Region.ready md ops listed).contains i=true:=by decide +kernel) (hi:ops[i]? = some ⟨some d,op,ty,pl,af,g⟩:=by rfl)
 (hb:a=b:=by(try simp only[Act.put,za,zb,zc]);with_reducible rfl) (hL:listed=L:=by(try simp only[Act.put,za,zb,zc]);with_reducible rfl)
 (hs:Region.noSelect ops=true:=by kernel_rfl) (hf:Region.free md ops listed i=true:=by kernel_rfl) (hg:Region.wanted ⟨some d,op,ty,pl,af,g⟩ (yielded ops b.tmps)=true:=by rfl)
 (he:∀w,S w→(execOp b.eval ⟨some d,op,ty,pl,af,g⟩).run P w = .ok (.value v) w:=by intro w h;(try dsimp only at h);go_simp;try with_reducible rfl)
 (hS:S w:=by assumption) (hQ:∀c (a:Act) w,Q (.panic c) (a.put (some d) v) w→Q (.panic c) a w:=by exact λ_ _ _ h=>h):wpAnyH P md ops Q S (fuel+1) listed a w:=by
 subst hb hL
 exact wpAnyH_take hi hs hf hr hQ (Or.inl ⟨hg,he⟩) hS h
theorem sR (rs:List Nat) (h:AllReadyH P md ops Q S fuel L b w rs) (hr:Region.ready md ops listed=rs:=by decide +kernel) (hb:a=b:=by(try simp only[Act.put,za,zb,zc]);with_reducible rfl) (hL:listed=L:=by(try simp only[Act.put,za,zb,zc]);with_reducible rfl) (hne:rs≠[]:=by simp):wpAnyH P md ops Q S (fuel+1) listed a w:=by
 subst hb hL
 exact wpAnyH_ready hr hne h
theorem sD (h:Q .normal b w) (hr:Region.ready md ops listed = []:=by decide +kernel) (hb:a=b:=by(try simp only[Act.put,za,zb,zc]);with_reducible rfl) (hL:listed=L:=by(try simp only[Act.put,za,zb,zc]);with_reducible rfl):wpAnyH P md ops Q S fuel listed a w:=by
 subst hb hL
 exact wpAnyH_done hr h _
end
end Go
