/- Behind Open's loop: what was scrubbed is synced; then as Oar: the walk. Conditions: none, or as the theorems say. -/
import Derived.Test.YtbcbhlfjgobejaaGreatS24
import Derived.Test.YtbcbhlfjgobejaaGreatS20
import Derived.Test.YtbcbhlfjgobejaaGreatS21
import Derived.Test.YtbcbhlfjgobejaaGreatS16
import Derived.Test.YtbcbhlfjgobejaaGreatS17
set_option linter.unusedSimpArgs false
set_option linter.unusedVariables false
namespace Go.Proofs.YtbcbhlfjgobejaaGreat
set_option maxHeartbeats 200000000
open Go.RowKit Go.Sf
variable {d:Dk} {b:List Int} {db st:Nat} {own:Nat→Prop} {S:Sto} {W w w' w1:World}
noncomputable def oAfter:Code:=match (Tryz.f18).body with
 | some (.seq _ (.seq _ (.seq _ (.seq _ (.seq _ (.seq _ c))))))=>c
 | _=>.skip
theorem zmh {P:Nat→Prop} {W0 X:World} {B:Nat} {L:Yh} {dk:Dk} {tmps:Array Value} (hd:vk P X db dk) (ho:d.opened=(dk,180)) (hown:∀k,own k→P k) (p2:P L.b2∧P L.b3∧P B) (hB:X.heap[B]? = some (.deferred (some []))) (ht:zm (λk=>¬own k) W0 X) (hn:L.b2≠L.b3∧L.b2<B∧L.b3<B) (hoB:∀k,own k→k<B∧k≠L.b2∧k≠L.b3)
 (h2:X.heap[L.b2]? = some (.cells #[.pointer none] 24 (0,0))) (h3:X.heap[L.b3]? = some (.cells #[.int .i64 0] 25 (0,0))) (hp:tmps.getD 2 undef = .pointer (some ⟨L.b2,0,none⟩)) (hq:tmps.getD 3 undef = .pointer (some ⟨L.b3,0,none⟩)) :
  bodyPostM Fence.wide 5 Tryz.prog Tryz.f18 (Yw own W0 db d) .ret { tmps:=tmps,defers:=[{ target:=.collected B,args:=#[] }] } ((X.setCell ⟨L.b2,0,none⟩ (.pointer none)).setCell ⟨L.b3,0,none⟩ (.int .i64 180)):=by
 obtain⟨n1,n2,n3⟩:=hn;have t1:=(yh X L.b2 0 (.pointer none)).mono (cs:=λk=>k=L.b2∨k=L.b3) (λk hk=>Or.inl hk)
 have t2:=(yh (X.setCell ⟨L.b2,0,none⟩ (.pointer none)) L.b3 0 (.int .i64 180)).mono (cs:=λk=>k=L.b2∨k=L.b3) (λk hk=>Or.inr hk)
 have tt:=t1.trans t2;have hBlt:=(Array.getElem?_eq_some_iff.1 hB).1;refine Jm ((tt.block B hBlt (by omega)).trans hB) hp hq (a:=L.b2) (b:=L.b3) (v0:=none) (v1:=180) ?_ ?_ λo=>⟨?_,Or.inl ⟨by rw[ho];simp,by rw[ho],?_⟩⟩
 ·simp[World.setCell,Array.getElem?_modify,h2,n1,Ne.symm n1]
 ·simp[World.setCell,Array.getElem?_modify,h3,n1,Ne.symm n1]
 ·refine(ht.trans (tt.mono λk hk ho=>?_)).trans ((jv _ B o).mono λk hk ho=>by have:=(hoB k ho).1;omega)
  rcases hk with e|e
  ·exact(hoB k ho).2.1 e
  ·exact(hoB k ho).2.2 e
 ·rw[ho]
  exact(hd.turn ((tt.mono (cs:=P) λk hk=>by
   rcases hk with e|e
   ·rw[e];exact p2.1
   ·rw[e];exact p2.2.1).trans ((jv _ B o).mono λk hk=>by rw[hk];exact p2.2.2))).less hown
section
variable {own : Nat → Prop} {W0 X : World} {db B : Nat} {d : Dk} {L : Yh} {u22 u23 u24 u25 u26 u27 u28 u29 u30 u31 u32 u33 u34 u35 u36 u37 u38 u39 u40 u41 u42 u43 u44 u45 u46 u47 u48 u49 u50 u51 u52 u53 u54 u55 u56 u57 u58 u59 u60 u61 u62 u63 u64 u65 u66 u67 u68 u69 u70 u71 u72 u73 u74 u75 u76 u77 u78 u79 u80 u81 u82 u83 u84 u85 u86 u87 u88 u89 u90 u91 u92 u93 u94 u95 u96 u97 u98 u99 u100 u101 u102 u103 u104 u105 u106 u107 u108 u109 u110 u111 u112 u113 u114 u115 u116 u117 u118 u119 u120 u121 u122 u123 u124 u125 u126 u127 u128 u129 u130 u131 u132 u133 u134 u135 u136 u137 u138 u139 u140 u141 u142 u143 u144 u145 u146 u147 u148 u149 u150 u151 u152 u153 u154 u155 u156 u157 u158 u159 u160 : Value}
set_option maxRecDepth 100000 in
theorem oafter (hI:OI own W0 db d B L d.n X) (hoff:d.off=false) (hB:X.heap[B]? = some (.deferred (some []))) (hown:∀k,own k→k<B∧∀j∈L.all,k≠j) (hbl:∀j,BL (bk d.now j)) (hn:d.n≤4096) :
  oAfter.wp Tryz.prog (bodyPostM Fence.wide 5 Tryz.prog Tryz.f18 (Yw own W0 db d)) { tmps:=#[.pointer (some ⟨db,0,none⟩),.pointer (some ⟨L.bd,0,none⟩),.pointer (some ⟨L.b2,0,none⟩),.pointer (some ⟨L.b3,0,none⟩),.pointer (some ⟨L.b4,0,none⟩),.pointer (some ⟨L.b5,0,none⟩),.pointer (some ⟨L.b6,0,none⟩),undef,undef,undef,undef,undef,undef,undef,undef,undef,undef,undef,undef,undef,undef,undef,u22,u23,u24,u25,u26,u27,u28,u29,u30,u31,u32,u33,u34,u35,u36,u37,u38,u39,u40,u41,u42,u43,u44,u45,u46,u47,u48,u49,u50,u51,u52,u53,u54,u55,u56,u57,u58,u59,u60,u61,u62,u63,u64,u65,u66,u67,u68,u69,u70,u71,u72,u73,u74,u75,u76,u77,u78,u79,u80,u81,u82,u83,u84,u85,u86,u87,u88,u89,u90,u91,u92,u93,u94,u95,u96,u97,u98,u99,u100,u101,u102,u103,u104,u105,u106,u107,u108,u109,u110,u111,u112,u113,u114,u115,u116,u117,u118,u119,u120,u121,u122,u123,u124,u125,u126,u127,u128,u129,u130,u131,u132,u133,u134,u135,u136,u137,u138,u139,u140,u141,u142,u143,u144,u145,u146,u147,u148,u149,u150,u151,u152,u153,u154,u155,u156,u157,u158,u159,u160],defers:=[{ target:=.collected B,args:=#[] }] } X:=by
 obtain⟨h0,h1,h2,P,loc,rp,hM⟩:=hI;have ho:=zd9 hoff d.n (Nat.le_refl _) h1;have k6:X.cell? ⟨L.b6,0,none⟩=some (Uf db (opnD d d.n).2.2):=(zf hM.b6 0).trans rfl;have HSY:=zd (dsync hM.disk);have HS1:=zd (sopen1 X);have HM:=zd hM;have HB:=zd hB;have HT:=zd h2;have HOW:=zd hown;have HBL:=zd hbl;have HNN:=zd hn;have hop:d.opened=(if (opnD d d.n).2.2=true then ((opnD d d.n).1.synced,(opnD d d.n).1.syncV) else ((opnD d d.n).1,0)):=by
  unfold Dk.opened;rw[if_neg (by simp[h1])]
 have hsv:(opnD d d.n).1.syncV=if (opnD d d.n).1.stepB=true then 0 else 180:=by
  unfold Dk.syncV;rw[if_neg (by simp[ho.off])]
 have hsn:(opnD d d.n).1.synced.n=d.n:=by
  unfold Dk.synced;rw[if_neg (by simp[ho.off])]
  split <;> exact ho.nn
 have HOP:=zd hop;have HSV:=zd hsv;have HSN:=zd hsn;clear hM hB h2 hown hbl hn hop hsv hsn ho h1;generalize hPP:bodyPostM Fence.wide 5 Tryz.prog Tryz.f18 (Yw own W0 db d)=PP at *;have HPP:=zd hPP;clear hPP
 delta oAfter
 dsimp only[Tryz.f18];refine wp_seq_k (λK1 hK1=>?_)
 have HK1:=zd hK1;clear hK1
 cases hs:(opnD d d.n).2.2 with
 | false=>
  rw[hs] at k6 HOP;unfold Uf at k6;simp only[Bool.false_eq_true,if_false] at k6 HOP
  go_wp2_with (go_at_call 82;refine HS1.out.mono ?_;rintro e w1 ⟨rfl,h5⟩;obtain rfl:X=w1:=h5.symm)
  refine HK1.out _ _ ?_;rw[←HPP.out]
  exact zlq (by rw[HOP.out];exact HM.out) (by rw[HOP.out]) HB.out HT.out HOW.out HBL.out HNN.out
 | true=>
  rw[hs] at k6 HOP;unfold Uf at k6;simp only[if_true] at k6 HOP
  cases hb:(opnD d d.n).1.stepB with
  | true=>
   rw[hb] at HSV;simp only[if_true] at HSV;rw[HSV.out] at HSY HOP
   go_wp2_with (go_at_call 25;refine HSY.out.mono ?_;rintro e w1 ⟨rfl,hd1,ht1⟩;have HD1:=zd hd1;have HT1:=zd ht1;clear hd1 ht1)
   refine HK1.out _ _ ?_;rw[←HPP.out]
   exact zlq (by rw[HOP.out];exact HM.out.wrote HD1.out HSN.out HT1.out) (by rw[HOP.out]) ((HT1.out.block B (HM.out.P_lt HM.out.pB.1) (λe=>e HM.out.pB.1)).trans HB.out) (HT.out.trans (HT1.out.mono λk hk ho=>hk (HM.out.ownP k ho))) HOW.out HBL.out HNN.out
  | false=>
   rw[hb] at HSV;simp only[Bool.false_eq_true,if_false] at HSV;rw[HSV.out] at HSY HOP;have n23:L.b2≠L.b3:=xu HM.out.nd 1 2 rfl rfl (by decide)
   have n32:=Ne.symm n23
   go_wp2_with (go_at_call 25;refine HSY.out.mono ?_;rintro e w1 ⟨rfl,hd1,ht1⟩;have HD1:=zd hd1;have HT1:=zd ht1;have b2:=(HT1.out.block _ (HM.out.P_lt (HM.out.lP _ L.mems.2.1).1) (λe=>e (HM.out.lP _ L.mems.2.1).1)).trans HM.out.b2;have b3:=(HT1.out.block _ (HM.out.P_lt (HM.out.lP _ L.mems.2.2.1).1) (λe=>e (HM.out.lP _ L.mems.2.2.1).1)).trans HM.out.b3;have k2:w1.cell? ⟨L.b2,0,none⟩=some (.pointer none):=(zf b2 0).trans rfl;have k3:w1.cell? ⟨L.b3,0,none⟩=some (.int .i64 0):=(zf b3 0).trans rfl;have f2:=xf b2 0;have f3:=xf b3 0;have HB2:=zd b2;have HB3:=zd b3;clear hd1 ht1 b2 b3)
   rw[←HPP.out]
   exact zmh HD1.out HOP.out HM.out.ownP ⟨(HM.out.lP _ L.mems.2.1).1,(HM.out.lP _ L.mems.2.2.1).1,HM.out.pB.1⟩ ((HT1.out.block B (HM.out.P_lt HM.out.pB.1) (λe=>e HM.out.pB.1)).trans HB.out) (HT.out.trans (HT1.out.mono λk hk ho=>hk (HM.out.ownP k ho))) ⟨n23,(HM.out.lP _ L.mems.2.1).2,(HM.out.lP _ L.mems.2.2.1).2⟩ (λk hk=>⟨(HOW.out k hk).1,(HOW.out k hk).2 _ L.mems.2.1,(HOW.out k hk).2 _ L.mems.2.2.1⟩) HB2.out HB3.out rfl rfl
end
attribute [local go_sem] Oper.semAt_some Zn
structure Zt (own:Nat→Prop) (W w:World) (db N st mb tb b4:Nat) (d:Dk):Prop where
 gr:W.grownBy w none
 eS:w.heap[st]? = some (.cells #[.pointer (some ⟨db,0,none⟩),.map (some mb),.slice (some ⟨tb,0,none⟩) N N,.int .i64 1,.int .i64 0] 132 (0,0))
 eM:w.heap[mb]? = some (.map #[] 0)
 eT:w.heap[tb]? = some (.cells (ul (List.replicate N false)).toArray 4 (0,0))
 e4:w.heap[b4]? = some (.cells #[.pointer (some ⟨st,0,none⟩)] 24 (0,0))
 lo:W.heap.size≤st∧W.heap.size≤mb∧W.heap.size≤tb∧W.heap.size≤b4
 nd:[b4,st,mb,tb].Nodup
theorem zcl (w:World) (o0 o1 o2:Obj):(((w.alloc o0).alloc o1).alloc o2).heap[w.heap.size]? = some o0∧(((w.alloc o0).alloc o1).alloc o2).heap[w.heap.size+1]? = some o1∧(((w.alloc o0).alloc o1).alloc o2).heap[w.heap.size+2]? = some o2:=by
 have h1:=World.alloc_heap_new (w.alloc o0) o1;have h2:=World.alloc_heap_new ((w.alloc o0).alloc o1) o2;simp only[World.size_alloc] at h1 h2;refine⟨?_,?_,h2⟩
 ·rw[Below.heap_alloc _ _ _ (by simp only[World.size_alloc];omega),Below.heap_alloc _ _ _ (by simp only[World.size_alloc];omega)]
  exact World.alloc_heap_new w o0
 ·rw[Below.heap_alloc _ _ _ (by simp only[World.size_alloc];omega)]
  exact h1
theorem zpk {W3 wc w7:World} {mb tb b4:Nat} (h:vk own W db d)
 (h3:W3.heap[W.heap.size]? = some (.cells #[.pointer (some ⟨db,0,none⟩)] 28 (0,0))∧W3.heap[W.heap.size+1]? = some (.cells #[.pointer none] 24 (0,0))∧W3.heap[W.heap.size+2]? = some (.cells #[.int .i64 0] 25 (0,0))∧W.grownBy W3 none∧W3.heap.size=W.heap.size+3)
 (hm:Zt own W3 wc db d.n st mb tb b4 d)
 (h7:w7.heap[wc.heap.size]? = some (.map #[] 0)∧w7.heap[wc.heap.size+1]? = some (.cells #[.map (some wc.heap.size)] 133 (0,0))∧w7.heap[wc.heap.size+2]? = some (.cells #[.func (.func 82) #[] #[]] 39 (0,0))∧wc.grownBy w7 none∧w7.heap.size=wc.heap.size+3) :
  W.grownBy (w7.alloc (.cells #[.pointer (some ⟨db,0,none⟩)] 28)) none∧(∀j∈Yh.all ⟨W.heap.size,W.heap.size+1,W.heap.size+1+1,b4,wc.heap.size+1,wc.heap.size+1+1,w7.heap.size,st,mb,tb,wc.heap.size⟩,W.heap.size≤j∧j<(w7.alloc (.cells #[.pointer (some ⟨db,0,none⟩)] 28)).heap.size)∧
  ∀W1,(w7.alloc (.cells #[.pointer (some ⟨db,0,none⟩)] 28)).grownBy W1 none→W1.heap.size=(w7.alloc (.cells #[.pointer (some ⟨db,0,none⟩)] 28)).heap.size+2→OI own W db d (w7.alloc (.cells #[.pointer (some ⟨db,0,none⟩)] 28)).heap.size ⟨W.heap.size,W.heap.size+1,W.heap.size+1+1,b4,wc.heap.size+1,wc.heap.size+1+1,w7.heap.size,st,mb,tb,wc.heap.size⟩ 0 W1:=by
 obtain⟨a1,a2,a3,a4,a5⟩:=h3;obtain⟨c1,c2,c3,c4,c5⟩:=h7;have g8:=ze w7 (.cells #[.pointer (some ⟨db,0,none⟩)] 28) none;have gW8:W.grownBy (w7.alloc (.cells #[.pointer (some ⟨db,0,none⟩)] 28)) none:=zh (zh (zh a4 hm.gr) c4) g8;have hx:=heap_alloc_new w7 (.cells #[.pointer (some ⟨db,0,none⟩)] 28);have hz8:(w7.alloc (.cells #[.pointer (some ⟨db,0,none⟩)] 28)).heap.size=w7.heap.size+1:=by simp
 obtain⟨lo1,lo2,lo3,lo4⟩:=hm.lo;have l1:=(Array.getElem?_eq_some_iff.1 hm.eS).1;have l2:=(Array.getElem?_eq_some_iff.1 hm.eM).1;have l3:=(Array.getElem?_eq_some_iff.1 hm.eT).1;have l4:=(Array.getElem?_eq_some_iff.1 hm.e4).1;have zc:=hm.gr.size;have hlo:∀j∈Yh.all ⟨W.heap.size,W.heap.size+1,W.heap.size+1+1,b4,wc.heap.size+1,wc.heap.size+1+1,w7.heap.size,st,mb,tb,wc.heap.size⟩,W.heap.size≤j∧j<(w7.alloc (.cells #[.pointer (some ⟨db,0,none⟩)] 28)).heap.size:=λj hj=>by
  simp only[Yh.all,List.mem_cons,List.not_mem_nil,or_false] at hj
  rcases hj with rfl|rfl|rfl|rfl|rfl|rfl|rfl|rfl|rfl|rfl|rfl <;> omega
 refine⟨gW8,hlo,λW1 hg hz=>⟨Nat.zero_le _,rfl,?_,λk=>own k∨(W.heap.size≤k∧k<W1.heap.size),λ_=>(0,0,0),λ_=>False,?_⟩⟩
 ·have:=zh gW8 hg
  exact⟨this.os,this.tape,this.output,this.size,λk hk _=>this.block k hk (by simp)⟩
 ·have gW1:=zh gW8 hg
  have k3:∀k o,W3.heap[k]? = some o→W1.heap[k]? = some o:=λk o hk=>((zh (zh (zh hm.gr c4) g8) hg).block k (Array.getElem?_eq_some_iff.1 hk).1 (by simp)).trans hk
  have kc:∀k o,wc.heap[k]? = some o→W1.heap[k]? = some o:=λk o hk=>((zh (zh c4 g8) hg).block k (Array.getElem?_eq_some_iff.1 hk).1 (by simp)).trans hk
  have k7:∀k o,w7.heap[k]? = some o→W1.heap[k]? = some o:=λk o hk=>((zh g8 hg).block k (Array.getElem?_eq_some_iff.1 hk).1 (by simp)).trans hk
  have hnd:=hm.nd;have b1:W.heap.size≤(w7.alloc (.cells #[.pointer (some ⟨db,0,none⟩)] 28)).heap.size:=gW8.size;have b2:(w7.alloc (.cells #[.pointer (some ⟨db,0,none⟩)] 28)).heap.size+1<W1.heap.size:=by rw[hz];omega
  have b3:W.heap.size≤wc.heap.size∧wc.heap.size<W1.heap.size:=⟨by omega,by rw[hz,hz8];omega⟩
  refine⟨h.more gW1 (λk hk=>hk.imp id λe=>e.1) (λk hk=>?_),λk hk=>Or.inl hk,λk hk=>?_,⟨Or.inr ⟨b1,by omega⟩,Or.inr ⟨Nat.le_succ_of_le b1,b2⟩⟩,?_,k3 _ _ a1,k3 _ _ a2,k3 _ _ a3,kc _ _ hm.e4,k7 _ _ c2,k7 _ _ c3,(hg.block w7.heap.size (by omega) (by simp)).trans hx,kc _ _ hm.eS,kc _ _ hm.eM,kc _ _ hm.eT,⟨?_,λK r hr=>by simp[scanN,zw] at hr,λK r hr=>by simp[scanN,zw] at hr,λK r K' r' hr=>by simp[scanN,zw] at hr,λK r hr=>by simp[scanN,zw] at hr,λk hk=>hk.elim,Or.inr b3,by show wc.heap.size<_;omega⟩,λk hk=>hk.elim,by omega,rfl⟩
  ·rcases hk with e|e
   ·have:=h.own_lt e;have:=gW1.size;omega
   ·exact e.2
  ·have:=hlo k hk
   exact⟨Or.inr ⟨this.1,by omega⟩,this.2⟩
  ·simp only[List.nodup_cons,List.mem_cons,List.not_mem_nil,or_false,not_or] at hnd
   simp only[Yh.all,List.nodup_cons,List.mem_cons,List.not_mem_nil,or_false,not_or];refine⟨⟨?_,?_,?_,?_,?_,?_,?_,?_,?_,?_⟩,⟨?_,?_,?_,?_,?_,?_,?_,?_,?_⟩,⟨?_,?_,?_,?_,?_,?_,?_,?_⟩,⟨?_,?_,?_,?_,?_,?_,?_⟩,⟨?_,?_,?_,?_,?_,?_⟩,⟨?_,?_,?_,?_,?_⟩,⟨?_,?_,?_,?_⟩,⟨?_,?_,?_⟩,⟨?_,?_⟩,?_,?_⟩
   all_goals first|exact hnd.1.1|exact hnd.1.2.1|exact hnd.1.2.2|exact hnd.2.1.1|exact hnd.2.1.2|exact hnd.2.2.1|(clear hnd;omega)|trivial
  ·exact⟨#[],0,k7 _ _ c1,MapKept.stamped_empty 0,rfl⟩
theorem four_at (w:World) (o0 o1 o2 o3:Obj):((((w.alloc o0).alloc o1).alloc o2).alloc o3).drew.heap[w.heap.size]? = some o0∧((((w.alloc o0).alloc o1).alloc o2).alloc o3).drew.heap[w.heap.size+1]? = some o1∧((((w.alloc o0).alloc o1).alloc o2).alloc o3).drew.heap[w.heap.size+1+1]? = some o2∧((((w.alloc o0).alloc o1).alloc o2).alloc o3).drew.heap[w.heap.size+1+1+1]? = some o3∧w.grownBy ((((w.alloc o0).alloc o1).alloc o2).alloc o3).drew none:=by
 obtain⟨h0,h1,h2⟩:=zcl w o0 o1 o2;have h3:=World.alloc_heap_new (((w.alloc o0).alloc o1).alloc o2) o3;simp only[World.size_alloc] at h3;have keep:∀k,k<w.heap.size+3→((((w.alloc o0).alloc o1).alloc o2).alloc o3).heap[k]? = (((w.alloc o0).alloc o1).alloc o2).heap[k]?:=λk hk=>Below.heap_alloc _ _ _ (by simp only[World.size_alloc];omega)
 refine⟨(keep _ (by omega)).trans h0,(keep _ (by omega)).trans h1,(keep _ (by omega)).trans h2,h3,?_⟩
 repeat (first|exact zi _|refine zp ?_ _|refine zj ?_)
set_option maxRecDepth 100000 in
theorem sopenIn (h:vk own W db d) (hoff:d.off=false) (hlate:d.late.length+d.n<1000000) :
  CallsIn Fence.wide 5 Tryz.prog 18 #[.pointer (some ⟨db,0,none⟩)] W (Yw own W db d):=by
 have hmm:=@run_makeMap Tryz.prog;have HB:Hid (∀W',W.grownBy W' none→Calls Tryz.prog 81 #[.pointer (some ⟨db,0,none⟩)] W' λe w'=>e = .returned (.int .i64 d.n)∧w'=W'):=(show ∀W',_→Calls _ _ _ _ _ from λW' hg=>zgp (h.kept hg))
 have HO:Hid (∀W',W.grownBy W' none→Calls Tryz.prog 33 #[.pointer (some ⟨db,0,none⟩)] W' λe w'=>e = .returned (.bool false)∧w'=W'):=(show ∀W',_→Calls _ _ _ _ _ from λW' hg=>by have:=doff (h.kept hg);rw[hoff] at this;exact this)
 have hn:d.n≤4096:=by obtain⟨sb,nb,lv,hd⟩:=h.ex;exact hd.n
 have HD:=zd h;clear h;refine callsIn_of_wp_marks Tryz.func18 rfl trivial ?_ rfl;refine wpIn_wide.2 ?_;generalize hN:d.n=N at *;simp only[Tryz.ntmps18,List.size_toArray,List.length_cons,List.length_nil,Nat.reduceAdd,Nat.reduceSub,Array.replicate_succ,Array.replicate_zero,List.push_toArray,List.append_toArray,List.nil_append,List.cons_append]
 go_upto_region 5 with (go_at_call 33;refine(HO.out _ (by repeat (first|exact zi _|refine zp ?_ _))).mono ?_;rintro e w1 ⟨rfl,rfl⟩)
 obtain⟨kd,k2,k3⟩:=zcl W (.cells #[.pointer (some ⟨db,0,none⟩)] 28) (.cells #[.pointer none] 24) (.cells #[.int .i64 0] 25);have hgW:W.grownBy (((W.alloc (.cells #[.pointer (some ⟨db,0,none⟩)] 28)).alloc (.cells #[.pointer none] 24)).alloc (.cells #[.int .i64 0] 25)) none:=(by repeat (first|exact zi _|refine zp ?_ _))
 have hzW:(((W.alloc (.cells #[.pointer (some ⟨db,0,none⟩)] 28)).alloc (.cells #[.pointer none] 24)).alloc (.cells #[.int .i64 0] 25)).heap.size=W.heap.size+3:=by simp
 generalize ((W.alloc (.cells #[.pointer (some ⟨db,0,none⟩)] 28)).alloc (.cells #[.pointer none] 24)).alloc (.cells #[.int .i64 0] 25)=W3 at *;have HB3:Hid (∀W',W3.grownBy W' none→Calls Tryz.prog 81 #[.pointer (some ⟨db,0,none⟩)] W' λe w'=>e = .returned (.int .i64 N)∧w'=W'):=(show ∀W',_→Calls _ _ _ _ _ from λW' hg=>HB.out W' (zh hgW hg))
 have hbd:W3.cell? ⟨W.heap.size,0,none⟩=some (.pointer (some ⟨db,0,none⟩)):=(zf kd 0).trans rfl;have HKD:=zd (And.intro kd (And.intro k2 (And.intro k3 (And.intro hgW hzW))));have HHN:=zd hN;clear kd k2 k3 hgW hzW HB HO hN
 go_cut [4] from 22 (λp wx=>∃st mb tb b4,p = .pointer (some ⟨b4,0,none⟩)∧Hid (Zt own W3 wx db N st mb tb b4 d))
 case first=>
  --F0
  have hmk:=Vb N hn
  go_region_held3 (λw'=>w'.cell? ⟨W.heap.size,0,none⟩=some (.pointer (some ⟨db,0,none⟩))∧True) (first|with_reducible exact⟨hbd,trivial⟩|(refine⟨(show W3.grownBy _ none from ?_).cell hbd (by simp),trivial⟩;repeat (first|exact zi _|refine zp ?_ _|refine zj ?_|refine yi ?_ (by simp;try omega) _)))
   (first
    | (go_at_call 81;refine(HB3.out _ (by repeat (first|exact zi _|refine zp ?_ _|refine zj ?_))).mono ?_;rintro e w3 ⟨rfl,rfl⟩)
    | (refine ui rfl (Vm _ _ rfl rfl rfl (Vb N hn _)) ?_))
  all_goals (go_wp2_with fail;go_meet)
  all_goals
   obtain⟨k0,k1,k2,k3,kg⟩:=four_at W3 _ _ _ _
   first
    | exact⟨_,_,_,_,rfl,(show Zt _ _ _ _ _ _ _ _ _ _ from Zt.mk kg k3 k0 k1 k2 ⟨by omega,by omega,by omega,by omega⟩ (by simp;try omega))⟩
    | exact⟨_,_,_,_,rfl,(show Zt _ _ _ _ _ _ _ _ _ _ from Zt.mk kg k3 k0 k2 k1 ⟨by omega,by omega,by omega,by omega⟩ (by simp;try omega))⟩
    | exact⟨_,_,_,_,rfl,(show Zt _ _ _ _ _ _ _ _ _ _ from Zt.mk kg k3 k1 k0 k2 ⟨by omega,by omega,by omega,by omega⟩ (by simp;try omega))⟩
    | exact⟨_,_,_,_,rfl,(show Zt _ _ _ _ _ _ _ _ _ _ from Zt.mk kg k3 k1 k2 k0 ⟨by omega,by omega,by omega,by omega⟩ (by simp;try omega))⟩
    | exact⟨_,_,_,_,rfl,(show Zt _ _ _ _ _ _ _ _ _ _ from Zt.mk kg k3 k2 k0 k1 ⟨by omega,by omega,by omega,by omega⟩ (by simp;try omega))⟩
    | exact⟨_,_,_,_,rfl,(show Zt _ _ _ _ _ _ _ _ _ _ from Zt.mk kg k3 k2 k1 k0 ⟨by omega,by omega,by omega,by omega⟩ (by simp;try omega))⟩
    | exact⟨_,_,_,_,rfl,(show Zt _ _ _ _ _ _ _ _ _ _ from Zt.mk kg k2 k0 k1 k3 ⟨by omega,by omega,by omega,by omega⟩ (by simp;try omega))⟩
    | exact⟨_,_,_,_,rfl,(show Zt _ _ _ _ _ _ _ _ _ _ from Zt.mk kg k2 k1 k0 k3 ⟨by omega,by omega,by omega,by omega⟩ (by simp;try omega))⟩
  --F1
 case rest=>
  obtain⟨st,mb,tb,b4,rfl,hM⟩:=hcut;have HM:=zd hM.out;have hbd4:wc.cell? ⟨W.heap.size,0,none⟩=some (.pointer (some ⟨db,0,none⟩)):=HM.out.gr.cell hbd (by simp)
  clear hM hbd HB3
  go_upto_region 8 with fail
  obtain⟨q0,q1,q2⟩:=zcl wc (.map #[] 0) (.cells #[.map (some wc.heap.size)] 133) (.cells #[.func (.func 82) #[] #[]] 39);have hg7:wc.grownBy (((wc.alloc (.map #[] 0)).alloc (.cells #[.map (some wc.heap.size)] 133)).alloc (.cells #[.func (.func 82) #[] #[]] 39)) none:=(by repeat (first|exact zi _|refine zp ?_ _))
  have hz7:(((wc.alloc (.map #[] 0)).alloc (.cells #[.map (some wc.heap.size)] 133)).alloc (.cells #[.func (.func 82) #[] #[]] 39)).heap.size=wc.heap.size+3:=by simp
  generalize ((wc.alloc (.map #[] 0)).alloc (.cells #[.map (some wc.heap.size)] 133)).alloc (.cells #[.func (.func 82) #[] #[]] 39)=w7 at *;have hbd7:w7.cell? ⟨W.heap.size,0,none⟩=some (.pointer (some ⟨db,0,none⟩)):=hg7.cell hbd4 (by simp)
  have HQ7:=zd (And.intro q0 (And.intro q1 (And.intro q2 (And.intro hg7 hz7))));clear q0 q1 q2 hg7 hz7 hbd4
  go_wp2_with (go_at_call 83;refine(sblocks _ _).mono ?_;rintro e w1 ⟨rfl,rfl⟩)
  obtain⟨L,hL⟩:∃L:Yh,L=⟨W.heap.size,W.heap.size+1,W.heap.size+1+1,b4,wc.heap.size+1,wc.heap.size+1+1,w7.heap.size,st,mb,tb,wc.heap.size⟩:=⟨_,rfl⟩;have HLE:=zd hL;obtain rfl:=HHN.out;have HST:=zd (zpk HD.out HKD.out HM.out HQ7.out);rw[←hL] at HST;obtain⟨w8,hw8⟩:∃X:World,X=w7.alloc (.cells #[.pointer (some ⟨db,0,none⟩)] 28):=⟨_,rfl⟩;rw[←hw8] at HST ⊢;have HLT:Hid (∀k,own k→k<w8.heap.size∧∀j∈L.all,k≠j):=(show ∀k,_→_ from λk hk=>⟨by have:=HD.out.own_lt hk;have:=HST.out.1.size;omega,λj hj=>by have:=HD.out.own_lt hk;have:=(HST.out.2.1 j hj).1;omega⟩)
  have HBK:Hid (∀j,(bk d.now j).length=256∧BL (bk d.now j)):=(show ∀j,_ from λj=>by
   obtain⟨sb,nb,lv,hd⟩:=HD.out.ex
   exact bk_ok hd.bnow j)
  refine(wpIn_wide (n:=5)).1 (ze1 (F:=Fence.wide) (n:=5) rfl (by omega) (gf:=162) (lb:=#[.pointer (some ⟨w7.heap.size,0,none⟩)]) rfl trivial (enters_of Tryz.func162 (by kernel_rfl) rfl) (f:=blkV (bk d.now)) (λ_=>rfl) (N:=d.n) (Need:=zcv (λ_=>False) db w7.heap.size d.n (bk d.now)) (λW1 _ _=>zme (λ_=>False) db w7.heap.size d.n hn (bk d.now) (λj=>(HBK.out j).1) W1)
   (OI own W db d w8.heap.size L) (OX own W db d w8.heap.size L) (λi X Y h hg=>h.grown hg) (λi X r r' h _=>h.loop (λk hk=>(HLT.out k hk).1) _) (λc X r r' h _=>h.loop (λk hk=>(HLT.out k hk).1) _) (λi X h=>by have:=h.need hoff;rw[hL] at this;exact this)
   (λW1 hg hz=>HST.out.2.2 W1 hg hz)
   (λi a' X=>∃B8,w8.heap.size+2≤B8∧X.heap[B8]? = some (.cells (zg (bk d.now i)).toArray 136 (0,0))∧a' = { tmps:=#[.pointer (some ⟨db,0,none⟩),.pointer (some ⟨W.heap.size,0,none⟩),.pointer (some ⟨W.heap.size+1,0,none⟩),.pointer (some ⟨W.heap.size+1+1,0,none⟩),.pointer (some ⟨b4,0,none⟩),.pointer (some ⟨wc.heap.size+1,0,none⟩),.pointer (some ⟨wc.heap.size+1+1,0,none⟩),.int .i64 (i:Int),.pointer (some ⟨B8,0,none⟩),undef,undef,undef,undef,undef,undef,undef,undef,undef,undef,undef,undef,undef,u22,u23,u24,u25,u26,u27,u28,u29,u30,u31,u32,u33,u34,.map (some wc.heap.size),.pointer (some ⟨db,0,none⟩),.func (.func 162) #[] #[.pointer (some ⟨w7.heap.size,0,none⟩)],.int .i64 (i:Int),.agg (zg (bk d.now i)).toArray,u40,u41,u42,u43,u44,u45,u46,u47,u48,u49,u50,u51,u52,u53,u54,u55,u56,u57,u58,u59,u60,u61,u62,u63,u64,u65,u66,u67,u68,u69,u70,u71,u72,u73,u74,u75,u76,u77,u78,u79,u80,u81,u82,u83,u84,u85,u86,u87,u88,u89,u90,u91,u92,u93,u94,u95,u96,u97,u98,u99,u100,u101,u102,u103,u104,u105,u106,u107,u108,u109,u110,u111,u112,u113,u114,u115,u116,u117,u118,u119,u120,u121,u122,u123,u124,u125,u126,u127,u128,u129,u130,u131,u132,u133,u134,u135,u136,u137,u138,u139,u140,u141,u142,u143,u144,u145,u146,u147,u148,u149,u150,u151,u152,u153,u154,u155,u156,u157,u158,u159,u160],defers:=[] })
   (λi a' X r r' h _=>by
    obtain⟨B8,g1,g2,g3⟩:=h
    exact⟨B8,g1,(World.putObj_heap_other (by omega)).trans g2,g3⟩)
   ?assign ?body ?done ?stop)
  case assign=>
   intro l i X K hz hI hi hK;have hb:=HBK.out i;have HXL:=zd hb.1;have HKK:=zd hK;have HII:=zd hI;have HZZ:=zd hz;clear hb hK hI hz hi;simp only[blkV];generalize bk d.now i=x at *;refine wpIn_seq_k (λK1 hK1=>uo (by kernel_rfl) (λ⟨_,_,h⟩=>h) ?_)
   go_wp2_with fail
   refine uo (by kernel_rfl) (λ⟨_,_,h⟩=>h) ?_
   go_wp2_with (first
    | (refine un rfl 136 rfl (vm zr) zew (zg zr).toArray rfl ?_)
    | (refine uf rfl 136 _ _ rfl _ (zg x).toArray _ rfl rfl (Zi HXL.out) (blkE xt HXL.out) (blkA _) ?_))
   exact HKK.out _ _ (HII.out.two (ze _ _ none)) (HII.out.grown (ze _ _ none)) ⟨X.heap.size,HZZ.out,heap_alloc_new _ _,rfl⟩
  case body=>
   rintro l i a' X hz hI ⟨B8,hB8,h8,rfl⟩ hi;obtain⟨hx1,hx2⟩:=HBK.out i;have hso:=λk hk=>(HLT.out k hk).2
   rw[hL] at hI hso ⊢
   cases e:saidP zo (bk d.now i) with
   | none=>
    by_cases hzb:bk d.now i=zr
    ·exact zig hI hi rfl hx1 hx2 h8 hB8 e hzb
    ·exact zih hI hi rfl hx1 hx2 h8 hB8 e hzb hoff hlate hso
   | some p=>exact zkm hI hi rfl hx1 hx2 h8 e hso (λk hk=>(HLT.out k hk).1)
  case done=>
   intro X hI hK
   rename_i K1 hK1
   have hso:=λk hk=>HLT.out k hk
   rw[hL] at hI hso;simp only[Exit.inBlock,Exit.then];refine hK1 _ _ ?_
   exact oafter hI hoff hK hso (λj=>(HBK.out j).2) hn
  case stop=>
   intro c X hX hK;obtain rfl:=hX.ret;refine wpIn_ret ?_;simp only[Exit.inBlock,Exit.then];rw[hL] at hX
   exact zn1 hX hK (λk hk=>(HLT.out k hk).1) rfl rfl
theorem zl5 (h:vk own W db d) (hoff:d.off=false) (hlate:d.late.length+d.n<1000000):Calls Tryz.prog 18 #[.pointer (some ⟨db,0,none⟩)] W (Yw own W db d):=
 callsIn_wide.1 (sopenIn h hoff hlate)
open Go.Sf
def xd (d:Dk):Prop:=d.off=false∧d.well = -1
theorem xd.step (h:xd d):d.stepB=true:=by unfold Dk.stepB;rw[h.2];rfl
theorem xd.went (h:xd d):xd d.went:=⟨h.1,by show max (-1) (d.well-1) = -1;rw[h.2];rfl⟩
theorem xd.wrote (h:xd d) {i:Nat} (hi:i<d.n) (hb:b.length≤256):d.writeV i b=0∧xd (d.written i b)∧(d.written i b).n=d.n∧(d.written i b).late.length=d.late.length+1∧(d.written i b).now=yo d.now (i:Int) (vf b)∧(d.written i b).st=d.st:=by
 have hm:d.mayE (i:Int) b.length=0:=by
  unfold Dk.mayE;rw[if_neg (by simp[h.1]),if_neg (by omega),if_neg (by omega)]
 have e1:d.writeV i b=0:=by unfold Dk.writeV;simp[hm,h.step]
 have e2:d.written i b=(d.lay i (vf b)).went:=by unfold Dk.written;simp[hm,h.step]
 rw[e1,e2]
 exact⟨rfl,xd.went (d:=d.lay i (vf b)) ⟨h.1,h.2⟩,rfl,by simp[Dk.went,Dk.lay],rfl,rfl⟩
theorem xd.writes:∀{ws:List (Nat × List Int)} {d:Dk},xd d→(∀w∈ws,w.1<d.n∧w.2.length≤256)→(d.writes ws).2=0∧xd (d.writes ws).1∧(d.writes ws).1.n=d.n∧(d.writes ws).1.late.length=d.late.length+ws.length
 | [],d,h,_=>⟨rfl,h,rfl,rfl⟩
 | w :: r,d,h,hw=>by
  obtain⟨a1,a2⟩:=hw w (by simp)
  obtain⟨e1,e2,e3,e4,-,-⟩:=h.wrote a1 a2;have ih:=xd.writes (ws:=r) e2 (λw' hw'=>by
   have:=hw w' (List.mem_cons_of_mem _ hw');rw[e3];exact this)
  unfold Dk.writes;rw[if_pos e1];refine⟨ih.1,ih.2.1,ih.2.2.1.trans e3,?_⟩;rw[ih.2.2.2,e4];simp;omega
theorem xd.sync (h:xd d):d.syncV=0∧xd d.synced∧d.synced.n=d.n∧d.synced.late = []:=by
 have e1:d.syncV=0:=by unfold Dk.syncV;simp[h.1,h.step]
 have e2:d.synced=d.went.settled:=by unfold Dk.synced;simp[h.1,h.step]
 rw[e1,e2]
 exact⟨rfl,⟨h.went.1,h.went.2⟩,rfl,rfl⟩
theorem Zz (n:Int):xd (Dk.new n):=⟨rfl,rfl⟩
theorem znq (C:List Int→Nat):saidP C zr=none:=qn (by simp[zr])
theorem zan (h:∀i,bk d.now i=zr):∀n,opnD d n=(d,0,false)∧scanN zo (bk d.now) n=⟨[],1⟩
 | 0=>⟨rfl,rfl⟩
 | n+1=>by
  obtain⟨h1,h2⟩:=zan h n;refine⟨?_,?_⟩
  ·rw[Za (by rw[h1]) (Or.inr (h n)),h1]
  ·rw[Vs (by rw[h n];exact znq _),h2]
theorem zcf (h:∀i,bk d.now i=zr):d.opened=(d,0):=by
 unfold Dk.opened;rw[(zan h d.n).1];simp
theorem Jn (h:∀i,bk d.now i=zr) {ks:List zt} (hk:jc d ks):openS d ks=⟨d,[],List.replicate d.n false,1,0⟩:=by
 have h0:ks = []:=by
  cases ks with
  | nil=>rfl
  | cons K t=>
   obtain⟨r,hr⟩:=(hk.1 K).1 (by simp)
   rw[(zan h d.n).2] at hr;simp[zw] at hr
 subst h0;unfold openS;rw[zcf h,(zan h d.n).2]
 rfl
theorem zgm (n:Int) (i:Nat):bk (Dk.new n).now i=zr:=rfl
theorem zhu (b:List Int) (j:Nat):(xy b j).length≤230:=by rw[Qm];omega
theorem zed (hd:xd S.d) (hb:S.broken=0) (hn:S.next≤4611686018427387904) (ht:S.taken.length=S.d.n) (hl:b.length≤131072) (hf:(yj S.taken (zk b.length) S.taken.length).length=zk b.length) :
  ∃d',xd d'∧d'.n=S.d.n∧d'.late = []∧S.put b=((Sto.kept { S with d:=d' } S.next b (yj S.taken (zk b.length) S.taken.length)).next1,S.next,0):=by
 have hw:∀w∈vd zo S.next b (yj S.taken (zk b.length) S.taken.length),w.1<S.d.n∧w.2.length≤256:=λw hw=>by
  unfold vd at hw;obtain⟨j,hj,rfl⟩:=List.mem_map.1 hw;have hj:=List.mem_range.1 hj;refine⟨?_,by rw[js (by exact zhu b j)];omega⟩
  simp only;rw[List.getD_eq_getElem?_getD,List.getElem?_eq_getElem hj];have:=(zdl (List.getElem_mem hj)).1;simp only[Option.getD_some];omega
 obtain⟨e1,e2,e3,e4⟩:=hd.writes hw;obtain⟨g1,g2,g3,g4⟩:=e2.sync;refine⟨_,g2,g3.trans e3,g4,?_⟩;unfold Sto.put;rw[if_neg (by simp[hb]),if_neg (by omega),if_neg (by omega),if_neg (by simp[e1]),if_neg (by simp[g1])]
theorem zpt (hb:S.broken=0) (hn:S.next≤4611686018427387904) (hl:b.length≤131072) (hf:(yj S.taken (zk b.length) S.taken.length).length<zk b.length):S.put b=(S,0,181):=by
 unfold Sto.put;rw[if_neg (by simp[hb]),if_neg (by omega),if_pos hf]
theorem rem_ok (hd:xd S.d) (hb:S.broken=0) {k:Int} {r:List Int × List Nat} (hk:zw S.recs k=some r) (hi:r.2.headD 0<S.d.n):∃d',xd d'∧d'.n=S.d.n∧d'.late = []∧S.rem k=({ S with d:=d',recs:=jq S.recs k,taken:=qa S.taken r.2 false },0):=by
 obtain⟨e1,e2,e3,e4,-,-⟩:=hd.wrote (b:=[]) hi (by simp)
 obtain⟨g1,g2,g3,g4⟩:=e2.sync;refine⟨_,g2,g3.trans e3,g4,?_⟩;unfold Sto.rem;rw[if_neg (by simp[hb]),hk]
 simp only;rw[if_neg (λh=>h e1),if_neg (λh=>h g1)]
def Zp (W:World) (st:Nat) (S:Sto) (w:World):Prop:=∃(own:Nat→Prop) (db:Nat),(∀k,k<W.heap.size→own k)∧Jk own w st db S∧W.grownBy w none
theorem xa (h:W.grownBy w none) (ho:∀k,k<W.heap.size→own k) (ht:zm (λk=>¬own k) w w'):W.grownBy w' none:=
 ⟨ht.os.trans h.os,ht.tape.trans h.tape,ht.output.trans h.output,Nat.le_trans h.size ht.size,λk hk _=>(ht.block k (Nat.lt_of_lt_of_le hk h.size) (λe=>e (ho k hk))).trans (h.block k hk (by simp))⟩
def S0 (n:Int):Sto:=⟨Dk.new n,[],List.replicate (Dk.new n).n false,1,0⟩
theorem zd6 (n:Int) (hg:W.grownBy w1 none) (hd:∀own:Nat→Prop,(∀k,own k→k<W.heap.size)→vk own w1 db (Dk.new n)) :
  Calls Tryz.prog 18 #[.pointer (some ⟨db,0,none⟩)] w1 λe w'=>∃st,e = .returned (.tuple #[.pointer (some ⟨st,0,none⟩),.int .i64 0])∧Zp W st (S0 n) w':=by
 have h:=hd (λk=>k<W.heap.size) (λk hk=>hk)
 have hl:(Dk.new n).late.length+(Dk.new n).n<1000000:=by
  show 0+(min 4096 (max 0 n)).toNat<1000000
  omega
 refine(zl5 h rfl hl).mono ?_;rintro e w' ⟨ht,hp⟩;have hz:=zcf (d:=Dk.new n) (zgm n);rw[hz] at hp
 rcases hp with ⟨h1,_⟩|⟨_,st,ks,rfl,hk,hs⟩
 ·exact absurd rfl h1
 ·rw[Jn (zgm n) hk] at hs
  exact⟨st,rfl,_,db,λk hk=>hk,hs,xa hg (λk hk=>hk) ht⟩
theorem Zp.grown (h:Zp W st S w) (hg:w.grownBy w' none):Zp W st S w':=by
 obtain⟨own,db,h1,h2,h3⟩:=h
 exact⟨own,db,h1,h2.kept hg,zh h3 hg⟩
theorem Zp.gr (h:Zp W st S w):W.grownBy w none:=by
 obtain⟨own,db,h1,h2,h3⟩:=h
 exact h3
theorem Zp.put (h:Zp W st S w1) (hg:w1.grownBy w none) {v:Value} (hv:xw (λk=>w1.heap.size≤k∧k<w.heap.size) w v (zg b)) (hbb:BL b) (hl:b.length≤100000000) (hf:S.d.late.length+600<1000000) :
  Calls Tryz.prog 20 #[.pointer (some ⟨st,0,none⟩),v] w λe w'=>e = .returned (.tuple #[.int .i64 (S.put b).2.1,.int .i64 (S.put b).2.2])∧Zp W st (S.put b).1 w':=by
 obtain⟨own,db,h1,⟨mb,tb,rv,rb,hs⟩,h3⟩:=h;have hs2:=hs.owns hg (own':=λk=>own k∨(w1.heap.size≤k∧k<w.heap.size)) (λk hk=>hk.imp id λe=>e.1) (λk hk=>by
  rcases hk with e|e
  ·exact Nat.lt_of_lt_of_le (hs.own_lt e) hg.size
  ·exact e.2)
 refine(sput hs2 (hv.mono λk hk=>Or.inr hk) hbb hl hf).mono ?_
 rintro e w' ⟨rfl,hr,ht⟩
 exact⟨rfl,_,db,λk hk=>Or.inl (h1 k hk),hr,xa (zh h3 hg) (λk hk=>Or.inl (h1 k hk)) ht⟩
theorem Zp.rem (h:Zp W st S w) (k:Int) (hf:S.d.late.length<1000000):Calls Tryz.prog 30 #[.pointer (some ⟨st,0,none⟩),.int .i64 k] w λe w'=>e = .returned (.int .i64 (S.rem k).2)∧Zp W st (S.rem k).1 w':=by
 obtain⟨own,db,h1,⟨mb,tb,rv,rb,hs⟩,h3⟩:=h;refine(zl6 hs k hf).mono ?_;rintro e w' ⟨rfl,hr,ht⟩
 exact⟨rfl,own,db,h1,⟨_,_,_,_,hr⟩,xa h3 h1 ht⟩
theorem Zp.get (h:Zp W st S w) (k:Int):Calls Tryz.prog 21 #[.pointer (some ⟨st,0,none⟩),.int .i64 k] w λe w'=>w.grownBy w' none∧∃v,e = .returned (.tuple #[v,.bool (zw S.recs k).isSome])∧((zw S.recs k=none∧v = .slice none 0 0)∨∃r,zw S.recs k=some r∧jx w w' v r.1):=by
 obtain⟨own,db,h1,⟨mb,tb,rv,rb,hs⟩,h3⟩:=h
 exact sget hs k
theorem Zp.free (h:Zp W st S w):Calls Tryz.prog 22 #[.pointer (some ⟨st,0,none⟩)] w λe w'=>e = .returned (.int .i64 (freeN S.taken))∧w'=w:=by
 obtain⟨own,db,h1,⟨mb,tb,rv,rb,hs⟩,h3⟩:=h
 exact sfree hs
theorem Zy {T:TypeId} {cap:Nat} (hb:b.length≤cap) (hc:cap≤9223372036854775807) (lo:Nat) (hlo:lo≤w.heap.size):xw (λk=>lo≤k∧k<(w.alloc (.cells (zg b).toArray T)).heap.size) (w.alloc (.cells (zg b).toArray T)) (.slice (some ⟨w.heap.size,0,none⟩) b.length cap) (zg b):=by
 refine⟨some ⟨w.heap.size,0,none⟩,cap,by rw[zu],by rw[zu];exact hb,hc,Or.inr ⟨_,rfl,⟨hlo,by simp⟩,λj u hu=>?_⟩⟩
 rw[ut]
 exact(zf (heap_alloc_new w _) j).trans (by simpa using hu)
theorem zi2 (rb:Nat→Prop) (w:World):xw rb w (.slice none 0 0) (zg []):=⟨none,0,rfl,by simp[zg],by omega,Or.inl rfl⟩
end Go.Proofs.YtbcbhlfjgobejaaGreat
