/- Behind Open's loop: what was scrubbed is synced; then as Oar: the walk. Conditions: none, or as the theorems say. -/
import Derived.Test.YtbcbhlfjgobejaaGreatI26
import Derived.Test.YtbcbhlfjgobejaaGreatI22
import Derived.Test.YtbcbhlfjgobejaaGreatI23
import Derived.Test.YtbcbhlfjgobejaaGreatI18
import Derived.Test.YtbcbhlfjgobejaaGreatI19
import Derived.Lib.SlBytesConst
set_option linter.unusedSimpArgs false
set_option linter.unusedVariables false
namespace Go.Proofs.YtbcbhlfjgobejaaGreat
set_option maxHeartbeats 200000000
open Go.RowKit Go.Sf
noncomputable def oAfter:Code:=match (Tryz.f18).body with
 | some (.seq _ (.seq _ (.seq _ (.seq _ (.seq _ (.seq _ c))))))=>c
 | _=>.skip
theorem zjv {own P:Nat→Prop} {W0 X:World} {db B:Nat} {d:Dk} {L:Zl} {dk:Dk} {tmps:Array Value} (hd:vl P X db dk) (ho:d.opened=(dk,180)) (hown:∀k,own k→P k) (p2:P L.b2∧P L.b3∧P B) (hB:X.heap[B]? = some (.deferred (some []))) (ht:zq (fun k=>¬own k) W0 X) (hn:L.b2≠L.b3∧L.b2<B∧L.b3<B) (hoB:∀k,own k→k<B∧k≠L.b2∧k≠L.b3)
  (h2:X.heap[L.b2]? = some (.cells #[.pointer none] 24 (0,0))) (h3:X.heap[L.b3]? = some (.cells #[.int .i64 0] 25 (0,0))) (hp:tmps.getD 2 undef = .pointer (some ⟨L.b2,0,none⟩)) (hq:tmps.getD 3 undef = .pointer (some ⟨L.b3,0,none⟩)) :
  bodyPostM Fence.wide 5 Tryz.prog Tryz.f18 (Zw own W0 db d) .ret { tmps:=tmps,defers:=[{ target:=.collected B,args:=#[] }] } ((X.setCell ⟨L.b2,0,none⟩ (.pointer none)).setCell ⟨L.b3,0,none⟩ (.int .i64 180)):=by
 obtain⟨n1,n2,n3⟩:=hn;have t1:=(yt X L.b2 0 (.pointer none)).mono (cs:=fun k=>k=L.b2∨k=L.b3) (fun k hk=>Or.inl hk)
 have t2:=(yt (X.setCell ⟨L.b2,0,none⟩ (.pointer none)) L.b3 0 (.int .i64 180)).mono (cs:=fun k=>k=L.b2∨k=L.b3) (fun k hk=>Or.inr hk)
 have tt:=t1.trans t2;have hBlt:=(Array.getElem?_eq_some_iff.1 hB).1;refine Ux ((tt.block B hBlt (by omega)).trans hB) hp hq (a:=L.b2) (b:=L.b3) (v0:=none) (v1:=180) ?_ ?_ fun o=>⟨?_,Or.inl ⟨by rw[ho];simp,by rw[ho],?_⟩⟩
 ·simp[World.setCell,Array.getElem?_modify,h2,n1,Ne.symm n1]
 ·simp[World.setCell,Array.getElem?_modify,h3,n1,Ne.symm n1]
 ·refine(ht.trans (tt.mono fun k hk ho=>?_)).trans ((ji _ B o).mono fun k hk ho=>by have:=(hoB k ho).1;omega)
  rcases hk with e|e
  ·exact(hoB k ho).2.1 e
  ·exact(hoB k ho).2.2 e
 ·rw[ho]
  exact(hd.turn ((tt.mono (cs:=P) fun k hk=>by
   rcases hk with e|e
   ·rw[e];exact p2.1
   ·rw[e];exact p2.2.1).trans ((ji _ B o).mono fun k hk=>by rw[hk];exact p2.2.2))).less hown
section
variable {own : Nat → Prop} {W0 X : World} {db B : Nat} {d : Dk} {L : Zl} {u22 u23 u24 u25 u26 u27 u28 u29 u30 u31 u32 u33 u34 u35 u36 u37 u38 u39 u40 u41 u42 u43 u44 u45 u46 u47 u48 u49 u50 u51 u52 u53 u54 u55 u56 u57 u58 u59 u60 u61 u62 u63 u64 u65 u66 u67 u68 u69 u70 u71 u72 u73 u74 u75 u76 u77 u78 u79 u80 u81 u82 u83 u84 u85 u86 u87 u88 u89 u90 u91 u92 u93 u94 u95 u96 u97 u98 u99 u100 u101 u102 u103 u104 u105 u106 u107 u108 u109 u110 u111 u112 u113 u114 u115 u116 u117 u118 u119 u120 u121 u122 u123 u124 u125 u126 u127 u128 u129 u130 u131 u132 u133 u134 u135 u136 u137 u138 u139 u140 u141 u142 u143 u144 u145 u146 u147 u148 u149 u150 u151 u152 u153 u154 u155 u156 u157 u158 u159 u160 : Value}
set_option maxRecDepth 100000 in
theorem oafter (hI:OI own W0 db d B L d.n X) (hoff:d.off=false) (hB:X.heap[B]? = some (.deferred (some []))) (hown:∀k,own k→k<B∧∀j∈L.all,k≠j) (hbl:∀j,BL (bk d.now j)) (hn:d.n≤4096) :
  oAfter.wp Tryz.prog (bodyPostM Fence.wide 5 Tryz.prog Tryz.f18 (Zw own W0 db d)) { tmps:=#[.pointer (some ⟨db,0,none⟩),.pointer (some ⟨L.bd,0,none⟩),.pointer (some ⟨L.b2,0,none⟩),.pointer (some ⟨L.b3,0,none⟩),.pointer (some ⟨L.b4,0,none⟩),.pointer (some ⟨L.b5,0,none⟩),.pointer (some ⟨L.b6,0,none⟩),undef,undef,undef,undef,undef,undef,undef,undef,undef,undef,undef,undef,undef,undef,undef,u22,u23,u24,u25,u26,u27,u28,u29,u30,u31,u32,u33,u34,u35,u36,u37,u38,u39,u40,u41,u42,u43,u44,u45,u46,u47,u48,u49,u50,u51,u52,u53,u54,u55,u56,u57,u58,u59,u60,u61,u62,u63,u64,u65,u66,u67,u68,u69,u70,u71,u72,u73,u74,u75,u76,u77,u78,u79,u80,u81,u82,u83,u84,u85,u86,u87,u88,u89,u90,u91,u92,u93,u94,u95,u96,u97,u98,u99,u100,u101,u102,u103,u104,u105,u106,u107,u108,u109,u110,u111,u112,u113,u114,u115,u116,u117,u118,u119,u120,u121,u122,u123,u124,u125,u126,u127,u128,u129,u130,u131,u132,u133,u134,u135,u136,u137,u138,u139,u140,u141,u142,u143,u144,u145,u146,u147,u148,u149,u150,u151,u152,u153,u154,u155,u156,u157,u158,u159,u160],defers:=[{ target:=.collected B,args:=#[] }] } X:=by
 obtain⟨h0,h1,h2,P,loc,rp,hM⟩:=hI;have ho:=Vr hoff d.n (Nat.le_refl _) h1;have k6:X.cell? ⟨L.b6,0,none⟩=some (Xr db (opnD d d.n).2.2):=(zh hM.b6 0).trans rfl;have HSY:=zd (dsync hM.disk);have HS1:=zd (sopen1 X);have HM:=zd hM;have HB:=zd hB;have HT:=zd h2;have HOW:=zd hown;have HBL:=zd hbl;have HNN:=zd hn;have hop:d.opened=(if (opnD d d.n).2.2=true then ((opnD d d.n).1.synced,(opnD d d.n).1.syncV) else ((opnD d d.n).1,0)):=by
  unfold Dk.opened;rw[if_neg (by simp[h1])]
 have hsv:(opnD d d.n).1.syncV=if (opnD d d.n).1.stepB=true then 0 else 180:=by
  unfold Dk.syncV;rw[if_neg (by simp[ho.off])]
 have hsn:(opnD d d.n).1.synced.n=d.n:=by
  unfold Dk.synced;rw[if_neg (by simp[ho.off])]
  split <;> exact ho.nn
 have HOP:=zd hop;have HSV:=zd hsv;have HSN:=zd hsn;clear hM hB h2 hown hbl hn hop hsv hsn ho h1;generalize hPP:bodyPostM Fence.wide 5 Tryz.prog Tryz.f18 (Zw own W0 db d)=PP at *;have HPP:=zd hPP;clear hPP
 delta oAfter
 dsimp only[Tryz.f18];refine wp_seq_k (fun K1 hK1=>?_)
 have HK1:=zd hK1;clear hK1
 cases hs:(opnD d d.n).2.2 with
 | false=>
  rw[hs] at k6 HOP;unfold Xr at k6;simp only[Bool.false_eq_true,if_false] at k6 HOP
  go_wp2_with (go_at_call 82;refine HS1.out.mono ?_;rintro e w1 ⟨rfl,h5⟩;obtain rfl:X=w1:=h5.symm)
  refine HK1.out _ _ ?_;rw[←HPP.out]
  exact zjd (by rw[HOP.out];exact HM.out) (by rw[HOP.out]) HB.out HT.out HOW.out HBL.out HNN.out
 | true=>
  rw[hs] at k6 HOP;unfold Xr at k6;simp only[if_true] at k6 HOP
  cases hb:(opnD d d.n).1.stepB with
  | true=>
   rw[hb] at HSV;simp only[if_true] at HSV;rw[HSV.out] at HSY HOP
   go_wp2_with (go_at_call 25;refine HSY.out.mono ?_;rintro e w1 ⟨rfl,hd1,ht1⟩;have HD1:=zd hd1;have HT1:=zd ht1;clear hd1 ht1)
   refine HK1.out _ _ ?_;rw[←HPP.out]
   exact zjd (by rw[HOP.out];exact HM.out.wrote HD1.out HSN.out HT1.out) (by rw[HOP.out]) ((HT1.out.block B (HM.out.P_lt HM.out.pB.1) (fun e=>e HM.out.pB.1)).trans HB.out) (HT.out.trans (HT1.out.mono fun k hk ho=>hk (HM.out.ownP k ho))) HOW.out HBL.out HNN.out
  | false=>
   rw[hb] at HSV;simp only[Bool.false_eq_true,if_false] at HSV;rw[HSV.out] at HSY HOP;have n23:L.b2≠L.b3:=xh HM.out.nd 1 2 rfl rfl (by decide)
   have n32:=Ne.symm n23
   go_wp2_with (go_at_call 25;refine HSY.out.mono ?_;rintro e w1 ⟨rfl,hd1,ht1⟩;have HD1:=zd hd1;have HT1:=zd ht1;have b2:=(HT1.out.block _ (HM.out.P_lt (HM.out.lP _ L.mems.2.1).1) (fun e=>e (HM.out.lP _ L.mems.2.1).1)).trans HM.out.b2;have b3:=(HT1.out.block _ (HM.out.P_lt (HM.out.lP _ L.mems.2.2.1).1) (fun e=>e (HM.out.lP _ L.mems.2.2.1).1)).trans HM.out.b3;have k2:w1.cell? ⟨L.b2,0,none⟩=some (.pointer none):=(zh b2 0).trans rfl;have k3:w1.cell? ⟨L.b3,0,none⟩=some (.int .i64 0):=(zh b3 0).trans rfl;have f2:=zj b2 0;have f3:=zj b3 0;have HB2:=zd b2;have HB3:=zd b3;clear hd1 ht1 b2 b3)
   rw[←HPP.out]
   exact zjv HD1.out HOP.out HM.out.ownP ⟨(HM.out.lP _ L.mems.2.1).1,(HM.out.lP _ L.mems.2.2.1).1,HM.out.pB.1⟩ ((HT1.out.block B (HM.out.P_lt HM.out.pB.1) (fun e=>e HM.out.pB.1)).trans HB.out) (HT.out.trans (HT1.out.mono fun k hk ho=>hk (HM.out.ownP k ho))) ⟨n23,(HM.out.lP _ L.mems.2.1).2,(HM.out.lP _ L.mems.2.2.1).2⟩ (fun k hk=>⟨(HOW.out k hk).1,(HOW.out k hk).2 _ L.mems.2.1,(HOW.out k hk).2 _ L.mems.2.2.1⟩) HB2.out HB3.out rfl rfl
end
attribute [local go_sem] Oper.semAt_some jx
structure Za (own:Nat→Prop) (W w:World) (db N st mb tb b4:Nat) (d:Dk):Prop where
 gr:W.grownBy w none
 eS:w.heap[st]? = some (.cells #[.pointer (some ⟨db,0,none⟩),.map (some mb),.slice (some ⟨tb,0,none⟩) N N,.int .i64 1,.int .i64 0] 132 (0,0))
 eM:w.heap[mb]? = some (.map #[] 0)
 eT:w.heap[tb]? = some (.cells (um (List.replicate N false)).toArray 4 (0,0))
 e4:w.heap[b4]? = some (.cells #[.pointer (some ⟨st,0,none⟩)] 24 (0,0))
 lo:W.heap.size≤st∧W.heap.size≤mb∧W.heap.size≤tb∧W.heap.size≤b4
 nd:[b4,st,mb,tb].Nodup
theorem zji (w:World) (o0 o1 o2:Obj):(((w.alloc o0).alloc o1).alloc o2).heap[w.heap.size]? = some o0∧(((w.alloc o0).alloc o1).alloc o2).heap[w.heap.size+1]? = some o1∧(((w.alloc o0).alloc o1).alloc o2).heap[w.heap.size+2]? = some o2:=by
 have h1:=World.alloc_heap_new (w.alloc o0) o1;have h2:=World.alloc_heap_new ((w.alloc o0).alloc o1) o2;simp only[World.size_alloc] at h1 h2;refine⟨?_,?_,h2⟩
 ·rw[Below.heap_alloc _ _ _ (by simp only[World.size_alloc];omega),Below.heap_alloc _ _ _ (by simp only[World.size_alloc];omega)]
  exact World.alloc_heap_new w o0
 ·rw[Below.heap_alloc _ _ _ (by simp only[World.size_alloc];omega)]
  exact h1
theorem zmq {own:Nat→Prop} {W W3 wc w7:World} {db st mb tb b4:Nat} {d:Dk} (h:vl own W db d)
  (h3:W3.heap[W.heap.size]? = some (.cells #[.pointer (some ⟨db,0,none⟩)] 28 (0,0))∧W3.heap[W.heap.size+1]? = some (.cells #[.pointer none] 24 (0,0))∧W3.heap[W.heap.size+2]? = some (.cells #[.int .i64 0] 25 (0,0))∧W.grownBy W3 none∧W3.heap.size=W.heap.size+3)
  (hm:Za own W3 wc db d.n st mb tb b4 d)
  (h7:w7.heap[wc.heap.size]? = some (.map #[] 0)∧w7.heap[wc.heap.size+1]? = some (.cells #[.map (some wc.heap.size)] 133 (0,0))∧w7.heap[wc.heap.size+2]? = some (.cells #[.func (.func 82) #[] #[]] 39 (0,0))∧wc.grownBy w7 none∧w7.heap.size=wc.heap.size+3) :
  W.grownBy (w7.alloc (.cells #[.pointer (some ⟨db,0,none⟩)] 28)) none∧(∀j∈Zl.all ⟨W.heap.size,W.heap.size+1,W.heap.size+1+1,b4,wc.heap.size+1,wc.heap.size+1+1,w7.heap.size,st,mb,tb,wc.heap.size⟩,W.heap.size≤j∧j<(w7.alloc (.cells #[.pointer (some ⟨db,0,none⟩)] 28)).heap.size)∧
  ∀W1,(w7.alloc (.cells #[.pointer (some ⟨db,0,none⟩)] 28)).grownBy W1 none→W1.heap.size=(w7.alloc (.cells #[.pointer (some ⟨db,0,none⟩)] 28)).heap.size+2→OI own W db d (w7.alloc (.cells #[.pointer (some ⟨db,0,none⟩)] 28)).heap.size ⟨W.heap.size,W.heap.size+1,W.heap.size+1+1,b4,wc.heap.size+1,wc.heap.size+1+1,w7.heap.size,st,mb,tb,wc.heap.size⟩ 0 W1:=by
 obtain⟨a1,a2,a3,a4,a5⟩:=h3;obtain⟨c1,c2,c3,c4,c5⟩:=h7;have g8:=zg w7 (.cells #[.pointer (some ⟨db,0,none⟩)] 28) none;have gW8:W.grownBy (w7.alloc (.cells #[.pointer (some ⟨db,0,none⟩)] 28)) none:=zo (zo (zo a4 hm.gr) c4) g8;have hx:=heap_alloc_new w7 (.cells #[.pointer (some ⟨db,0,none⟩)] 28);have hz8:(w7.alloc (.cells #[.pointer (some ⟨db,0,none⟩)] 28)).heap.size=w7.heap.size+1:=by simp
 obtain⟨lo1,lo2,lo3,lo4⟩:=hm.lo;have l1:=(Array.getElem?_eq_some_iff.1 hm.eS).1;have l2:=(Array.getElem?_eq_some_iff.1 hm.eM).1;have l3:=(Array.getElem?_eq_some_iff.1 hm.eT).1;have l4:=(Array.getElem?_eq_some_iff.1 hm.e4).1;have zc:=hm.gr.size;have hlo:∀j∈Zl.all ⟨W.heap.size,W.heap.size+1,W.heap.size+1+1,b4,wc.heap.size+1,wc.heap.size+1+1,w7.heap.size,st,mb,tb,wc.heap.size⟩,W.heap.size≤j∧j<(w7.alloc (.cells #[.pointer (some ⟨db,0,none⟩)] 28)).heap.size:=fun j hj=>by
  simp only[Zl.all,List.mem_cons,List.not_mem_nil,or_false] at hj
  rcases hj with rfl|rfl|rfl|rfl|rfl|rfl|rfl|rfl|rfl|rfl|rfl <;> omega
 refine⟨gW8,hlo,fun W1 hg hz=>⟨Nat.zero_le _,rfl,?_,fun k=>own k∨(W.heap.size≤k∧k<W1.heap.size),fun _=>(0,0,0),fun _=>False,?_⟩⟩
 ·have:=zo gW8 hg
  exact⟨this.os,this.tape,this.output,this.size,fun k hk _=>this.block k hk (by simp)⟩
 ·have gW1:=zo gW8 hg
  have k3:∀k o,W3.heap[k]? = some o→W1.heap[k]? = some o:=fun k o hk=>((zo (zo (zo hm.gr c4) g8) hg).block k (Array.getElem?_eq_some_iff.1 hk).1 (by simp)).trans hk
  have kc:∀k o,wc.heap[k]? = some o→W1.heap[k]? = some o:=fun k o hk=>((zo (zo c4 g8) hg).block k (Array.getElem?_eq_some_iff.1 hk).1 (by simp)).trans hk
  have k7:∀k o,w7.heap[k]? = some o→W1.heap[k]? = some o:=fun k o hk=>((zo g8 hg).block k (Array.getElem?_eq_some_iff.1 hk).1 (by simp)).trans hk
  have hnd:=hm.nd;have b1:W.heap.size≤(w7.alloc (.cells #[.pointer (some ⟨db,0,none⟩)] 28)).heap.size:=gW8.size;have b2:(w7.alloc (.cells #[.pointer (some ⟨db,0,none⟩)] 28)).heap.size+1<W1.heap.size:=by rw[hz];omega
  have b3:W.heap.size≤wc.heap.size∧wc.heap.size<W1.heap.size:=⟨by omega,by rw[hz,hz8];omega⟩
  refine⟨h.more gW1 (fun k hk=>hk.imp id fun e=>e.1) (fun k hk=>?_),fun k hk=>Or.inl hk,fun k hk=>?_,⟨Or.inr ⟨b1,by omega⟩,Or.inr ⟨Nat.le_succ_of_le b1,b2⟩⟩,?_,k3 _ _ a1,k3 _ _ a2,k3 _ _ a3,kc _ _ hm.e4,k7 _ _ c2,k7 _ _ c3,(hg.block w7.heap.size (by omega) (by simp)).trans hx,kc _ _ hm.eS,kc _ _ hm.eM,kc _ _ hm.eT,⟨?_,fun K r hr=>by simp[scanN,zw] at hr,fun K r hr=>by simp[scanN,zw] at hr,fun K r K' r' hr=>by simp[scanN,zw] at hr,fun K r hr=>by simp[scanN,zw] at hr,fun k hk=>hk.elim,Or.inr b3,by show wc.heap.size<_;omega⟩,fun k hk=>hk.elim,by omega,rfl⟩
  ·rcases hk with e|e
   ·have:=h.own_lt e;have:=gW1.size;omega
   ·exact e.2
  ·have:=hlo k hk
   exact⟨Or.inr ⟨this.1,by omega⟩,this.2⟩
  ·simp only[List.nodup_cons,List.mem_cons,List.not_mem_nil,or_false,not_or] at hnd
   simp only[Zl.all,List.nodup_cons,List.mem_cons,List.not_mem_nil,or_false,not_or];refine⟨⟨?_,?_,?_,?_,?_,?_,?_,?_,?_,?_⟩,⟨?_,?_,?_,?_,?_,?_,?_,?_,?_⟩,⟨?_,?_,?_,?_,?_,?_,?_,?_⟩,⟨?_,?_,?_,?_,?_,?_,?_⟩,⟨?_,?_,?_,?_,?_,?_⟩,⟨?_,?_,?_,?_,?_⟩,⟨?_,?_,?_,?_⟩,⟨?_,?_,?_⟩,⟨?_,?_⟩,?_,?_⟩
   all_goals first|exact hnd.1.1|exact hnd.1.2.1|exact hnd.1.2.2|exact hnd.2.1.1|exact hnd.2.1.2|exact hnd.2.2.1|(clear hnd;omega)|trivial
  ·exact⟨#[],0,k7 _ _ c1,MapKept.stamped_empty 0,rfl⟩
theorem four_at (w:World) (o0 o1 o2 o3:Obj):((((w.alloc o0).alloc o1).alloc o2).alloc o3).drew.heap[w.heap.size]? = some o0∧((((w.alloc o0).alloc o1).alloc o2).alloc o3).drew.heap[w.heap.size+1]? = some o1∧((((w.alloc o0).alloc o1).alloc o2).alloc o3).drew.heap[w.heap.size+1+1]? = some o2∧((((w.alloc o0).alloc o1).alloc o2).alloc o3).drew.heap[w.heap.size+1+1+1]? = some o3∧w.grownBy ((((w.alloc o0).alloc o1).alloc o2).alloc o3).drew none:=by
 obtain⟨h0,h1,h2⟩:=zji w o0 o1 o2;have h3:=World.alloc_heap_new (((w.alloc o0).alloc o1).alloc o2) o3;simp only[World.size_alloc] at h3;have keep:∀k,k<w.heap.size+3→((((w.alloc o0).alloc o1).alloc o2).alloc o3).heap[k]? = (((w.alloc o0).alloc o1).alloc o2).heap[k]?:=fun k hk=>Below.heap_alloc _ _ _ (by simp only[World.size_alloc];omega)
 refine⟨(keep _ (by omega)).trans h0,(keep _ (by omega)).trans h1,(keep _ (by omega)).trans h2,h3,?_⟩
 repeat (first|exact zm _|refine zu ?_ _|refine zl ?_)
set_option maxRecDepth 100000 in
theorem sopenIn {own:Nat→Prop} {W:World} {db:Nat} {d:Dk} (h:vl own W db d) (hoff:d.off=false) (hlate:d.late.length+d.n<1000000) :
  CallsIn Fence.wide 5 Tryz.prog 18 #[.pointer (some ⟨db,0,none⟩)] W (Zw own W db d):=by
 have hmm:=@run_makeMap Tryz.prog;have HB:Hid (∀W',W.grownBy W' none→Calls Tryz.prog 81 #[.pointer (some ⟨db,0,none⟩)] W' fun e w'=>e = .returned (.int .i64 d.n)∧w'=W'):=(show ∀W',_→Calls _ _ _ _ _ from fun W' hg=>zi2 (h.kept hg))
 have HO:Hid (∀W',W.grownBy W' none→Calls Tryz.prog 33 #[.pointer (some ⟨db,0,none⟩)] W' fun e w'=>e = .returned (.bool false)∧w'=W'):=(show ∀W',_→Calls _ _ _ _ _ from fun W' hg=>by have:=doff (h.kept hg);rw[hoff] at this;exact this)
 have hn:d.n≤4096:=by obtain⟨sb,nb,lv,hd⟩:=h.ex;exact hd.n
 have HD:=zd h;clear h;refine callsIn_of_wp_marks Tryz.func18 rfl trivial ?_ rfl;refine wpIn_wide.2 ?_;generalize hN:d.n=N at *;simp only[Tryz.ntmps18,List.size_toArray,List.length_cons,List.length_nil,Nat.reduceAdd,Nat.reduceSub,Array.replicate_succ,Array.replicate_zero,List.push_toArray,List.append_toArray,List.nil_append,List.cons_append]
 go_upto_region 5 with (go_at_call 33;refine(HO.out _ (by repeat (first|exact zm _|refine zu ?_ _))).mono ?_;rintro e w1 ⟨rfl,rfl⟩)
 obtain⟨kd,k2,k3⟩:=zji W (.cells #[.pointer (some ⟨db,0,none⟩)] 28) (.cells #[.pointer none] 24) (.cells #[.int .i64 0] 25);have hgW:W.grownBy (((W.alloc (.cells #[.pointer (some ⟨db,0,none⟩)] 28)).alloc (.cells #[.pointer none] 24)).alloc (.cells #[.int .i64 0] 25)) none:=(by repeat (first|exact zm _|refine zu ?_ _))
 have hzW:(((W.alloc (.cells #[.pointer (some ⟨db,0,none⟩)] 28)).alloc (.cells #[.pointer none] 24)).alloc (.cells #[.int .i64 0] 25)).heap.size=W.heap.size+3:=by simp
 generalize ((W.alloc (.cells #[.pointer (some ⟨db,0,none⟩)] 28)).alloc (.cells #[.pointer none] 24)).alloc (.cells #[.int .i64 0] 25)=W3 at *;have HB3:Hid (∀W',W3.grownBy W' none→Calls Tryz.prog 81 #[.pointer (some ⟨db,0,none⟩)] W' fun e w'=>e = .returned (.int .i64 N)∧w'=W'):=(show ∀W',_→Calls _ _ _ _ _ from fun W' hg=>HB.out W' (zo hgW hg))
 have hbd:W3.cell? ⟨W.heap.size,0,none⟩=some (.pointer (some ⟨db,0,none⟩)):=(zh kd 0).trans rfl;have HKD:=zd (And.intro kd (And.intro k2 (And.intro k3 (And.intro hgW hzW))));have HHN:=zd hN;clear kd k2 k3 hgW hzW HB HO hN
 go_cut [4] from 22 (fun p wx=>∃st mb tb b4,p = .pointer (some ⟨b4,0,none⟩)∧Hid (Za own W3 wx db N st mb tb b4 d))
 case first=>
  --F0
  have hmk:=Yt N hn
  go_region_held3 (fun w'=>w'.cell? ⟨W.heap.size,0,none⟩=some (.pointer (some ⟨db,0,none⟩))∧True) (first|with_reducible exact⟨hbd,trivial⟩|(refine⟨(show W3.grownBy _ none from ?_).cell hbd (by simp),trivial⟩;repeat (first|exact zm _|refine zu ?_ _|refine zl ?_|refine yp ?_ (by simp;try omega) _)))
   (first
    | (go_at_call 81;refine(HB3.out _ (by repeat (first|exact zm _|refine zu ?_ _|refine zl ?_))).mono ?_;rintro e w3 ⟨rfl,rfl⟩)
    | (refine xw rfl (Xc _ _ rfl rfl rfl (Yt N hn _)) ?_))
  all_goals (go_wp2_with fail;go_meet)
  all_goals
   obtain⟨k0,k1,k2,k3,kg⟩:=four_at W3 _ _ _ _
   first
    | exact⟨_,_,_,_,rfl,(show Za _ _ _ _ _ _ _ _ _ _ from Za.mk kg k3 k0 k1 k2 ⟨by omega,by omega,by omega,by omega⟩ (by simp;try omega))⟩
    | exact⟨_,_,_,_,rfl,(show Za _ _ _ _ _ _ _ _ _ _ from Za.mk kg k3 k0 k2 k1 ⟨by omega,by omega,by omega,by omega⟩ (by simp;try omega))⟩
    | exact⟨_,_,_,_,rfl,(show Za _ _ _ _ _ _ _ _ _ _ from Za.mk kg k3 k1 k0 k2 ⟨by omega,by omega,by omega,by omega⟩ (by simp;try omega))⟩
    | exact⟨_,_,_,_,rfl,(show Za _ _ _ _ _ _ _ _ _ _ from Za.mk kg k3 k1 k2 k0 ⟨by omega,by omega,by omega,by omega⟩ (by simp;try omega))⟩
    | exact⟨_,_,_,_,rfl,(show Za _ _ _ _ _ _ _ _ _ _ from Za.mk kg k3 k2 k0 k1 ⟨by omega,by omega,by omega,by omega⟩ (by simp;try omega))⟩
    | exact⟨_,_,_,_,rfl,(show Za _ _ _ _ _ _ _ _ _ _ from Za.mk kg k3 k2 k1 k0 ⟨by omega,by omega,by omega,by omega⟩ (by simp;try omega))⟩
    | exact⟨_,_,_,_,rfl,(show Za _ _ _ _ _ _ _ _ _ _ from Za.mk kg k2 k0 k1 k3 ⟨by omega,by omega,by omega,by omega⟩ (by simp;try omega))⟩
    | exact⟨_,_,_,_,rfl,(show Za _ _ _ _ _ _ _ _ _ _ from Za.mk kg k2 k1 k0 k3 ⟨by omega,by omega,by omega,by omega⟩ (by simp;try omega))⟩
  --F1
 case rest=>
  obtain⟨st,mb,tb,b4,rfl,hM⟩:=hcut;have HM:=zd hM.out;have hbd4:wc.cell? ⟨W.heap.size,0,none⟩=some (.pointer (some ⟨db,0,none⟩)):=HM.out.gr.cell hbd (by simp)
  clear hM hbd HB3
  go_upto_region 8 with fail
  obtain⟨q0,q1,q2⟩:=zji wc (.map #[] 0) (.cells #[.map (some wc.heap.size)] 133) (.cells #[.func (.func 82) #[] #[]] 39);have hg7:wc.grownBy (((wc.alloc (.map #[] 0)).alloc (.cells #[.map (some wc.heap.size)] 133)).alloc (.cells #[.func (.func 82) #[] #[]] 39)) none:=(by repeat (first|exact zm _|refine zu ?_ _))
  have hz7:(((wc.alloc (.map #[] 0)).alloc (.cells #[.map (some wc.heap.size)] 133)).alloc (.cells #[.func (.func 82) #[] #[]] 39)).heap.size=wc.heap.size+3:=by simp
  generalize ((wc.alloc (.map #[] 0)).alloc (.cells #[.map (some wc.heap.size)] 133)).alloc (.cells #[.func (.func 82) #[] #[]] 39)=w7 at *;have hbd7:w7.cell? ⟨W.heap.size,0,none⟩=some (.pointer (some ⟨db,0,none⟩)):=hg7.cell hbd4 (by simp)
  have HQ7:=zd (And.intro q0 (And.intro q1 (And.intro q2 (And.intro hg7 hz7))));clear q0 q1 q2 hg7 hz7 hbd4
  go_wp2_with (go_at_call 83;refine(sblocks _ _).mono ?_;rintro e w1 ⟨rfl,rfl⟩)
  obtain⟨L,hL⟩:∃L:Zl,L=⟨W.heap.size,W.heap.size+1,W.heap.size+1+1,b4,wc.heap.size+1,wc.heap.size+1+1,w7.heap.size,st,mb,tb,wc.heap.size⟩:=⟨_,rfl⟩;have HLE:=zd hL;obtain rfl:=HHN.out;have HST:=zd (zmq HD.out HKD.out HM.out HQ7.out);rw[←hL] at HST;obtain⟨w8,hw8⟩:∃X:World,X=w7.alloc (.cells #[.pointer (some ⟨db,0,none⟩)] 28):=⟨_,rfl⟩;rw[←hw8] at HST ⊢;have HLT:Hid (∀k,own k→k<w8.heap.size∧∀j∈L.all,k≠j):=(show ∀k,_→_ from fun k hk=>⟨by have:=HD.out.own_lt hk;have:=HST.out.1.size;omega,fun j hj=>by have:=HD.out.own_lt hk;have:=(HST.out.2.1 j hj).1;omega⟩)
  have HBK:Hid (∀j,(bk d.now j).length=256∧BL (bk d.now j)):=(show ∀j,_ from fun j=>by
   obtain⟨sb,nb,lv,hd⟩:=HD.out.ex
   exact bk_ok hd.bnow j)
  refine(wpIn_wide (n:=5)).1 (zct (F:=Fence.wide) (n:=5) rfl (by omega) (gf:=162) (lb:=#[.pointer (some ⟨w7.heap.size,0,none⟩)]) rfl trivial (enters_of Tryz.func162 (by kernel_rfl) rfl) (f:=blkV (bk d.now)) (fun _=>rfl) (N:=d.n) (Need:=za4 (fun _=>False) db w7.heap.size d.n (bk d.now)) (fun W1 _ _=>zjp (fun _=>False) db w7.heap.size d.n hn (bk d.now) (fun j=>(HBK.out j).1) W1)
   (OI own W db d w8.heap.size L) (OX own W db d w8.heap.size L) (fun i X Y h hg=>h.grown hg) (fun i X r r' h _=>h.loop (fun k hk=>(HLT.out k hk).1) _) (fun c X r r' h _=>h.loop (fun k hk=>(HLT.out k hk).1) _) (fun i X h=>by have:=h.need hoff;rw[hL] at this;exact this)
   (fun W1 hg hz=>HST.out.2.2 W1 hg hz)
   (fun i a' X=>∃B8,w8.heap.size+2≤B8∧X.heap[B8]? = some (.cells (zi (bk d.now i)).toArray 136 (0,0))∧a' = { tmps:=#[.pointer (some ⟨db,0,none⟩),.pointer (some ⟨W.heap.size,0,none⟩),.pointer (some ⟨W.heap.size+1,0,none⟩),.pointer (some ⟨W.heap.size+1+1,0,none⟩),.pointer (some ⟨b4,0,none⟩),.pointer (some ⟨wc.heap.size+1,0,none⟩),.pointer (some ⟨wc.heap.size+1+1,0,none⟩),.int .i64 (i:Int),.pointer (some ⟨B8,0,none⟩),undef,undef,undef,undef,undef,undef,undef,undef,undef,undef,undef,undef,undef,u22,u23,u24,u25,u26,u27,u28,u29,u30,u31,u32,u33,u34,.map (some wc.heap.size),.pointer (some ⟨db,0,none⟩),.func (.func 162) #[] #[.pointer (some ⟨w7.heap.size,0,none⟩)],.int .i64 (i:Int),.agg (zi (bk d.now i)).toArray,u40,u41,u42,u43,u44,u45,u46,u47,u48,u49,u50,u51,u52,u53,u54,u55,u56,u57,u58,u59,u60,u61,u62,u63,u64,u65,u66,u67,u68,u69,u70,u71,u72,u73,u74,u75,u76,u77,u78,u79,u80,u81,u82,u83,u84,u85,u86,u87,u88,u89,u90,u91,u92,u93,u94,u95,u96,u97,u98,u99,u100,u101,u102,u103,u104,u105,u106,u107,u108,u109,u110,u111,u112,u113,u114,u115,u116,u117,u118,u119,u120,u121,u122,u123,u124,u125,u126,u127,u128,u129,u130,u131,u132,u133,u134,u135,u136,u137,u138,u139,u140,u141,u142,u143,u144,u145,u146,u147,u148,u149,u150,u151,u152,u153,u154,u155,u156,u157,u158,u159,u160],defers:=[] })
   (fun i a' X r r' h _=>by
    obtain⟨B8,g1,g2,g3⟩:=h
    exact⟨B8,g1,(World.putObj_heap_other (by omega)).trans g2,g3⟩)
   ?assign ?body ?done ?stop)
  case assign=>
   intro l i X K hz hI hi hK;have hb:=HBK.out i;have HXL:=zd hb.1;have HKK:=zd hK;have HII:=zd hI;have HZZ:=zd hz;clear hb hK hI hz hi;simp only[blkV];generalize bk d.now i=x at *;refine wpIn_seq_k (fun K1 hK1=>uj (by kernel_rfl) (fun ⟨_,_,h⟩=>h) ?_)
   go_wp2_with fail
   refine uj (by kernel_rfl) (fun ⟨_,_,h⟩=>h) ?_
   go_wp2_with (first
    | (refine ui rfl 136 rfl (xz zz) zcp (zi zz).toArray rfl ?_)
    | (refine ub rfl 136 _ _ rfl _ (zi x).toArray _ rfl rfl (ju HXL.out) (blkE xq HXL.out) (blkA _) ?_))
   exact HKK.out _ _ (HII.out.two (zg _ _ none)) (HII.out.grown (zg _ _ none)) ⟨X.heap.size,HZZ.out,heap_alloc_new _ _,rfl⟩
  case body=>
   rintro l i a' X hz hI ⟨B8,hB8,h8,rfl⟩ hi;obtain⟨hx1,hx2⟩:=HBK.out i;have hso:=fun k hk=>(HLT.out k hk).2
   rw[hL] at hI hso ⊢
   cases e:saidP ya (bk d.now i) with
   | none=>
    by_cases hzb:bk d.now i=zz
    ·exact zfw hI hi rfl hx1 hx2 h8 hB8 e hzb
    ·exact zfx hI hi rfl hx1 hx2 h8 hB8 e hzb hoff hlate hso
   | some p=>exact zhy hI hi rfl hx1 hx2 h8 e hso (fun k hk=>(HLT.out k hk).1)
  case done=>
   intro X hI hK
   rename_i K1 hK1
   have hso:=fun k hk=>HLT.out k hk
   rw[hL] at hI hso;simp only[Exit.inBlock,Exit.then];refine hK1 _ _ ?_
   exact oafter hI hoff hK hso (fun j=>(HBK.out j).2) hn
  case stop=>
   intro c X hX hK;obtain rfl:=hX.ret;refine wpIn_ret ?_;simp only[Exit.inBlock,Exit.then];rw[hL] at hX
   exact zk6 hX hK (fun k hk=>(HLT.out k hk).1) rfl rfl
theorem sopen {own:Nat→Prop} {W:World} {db:Nat} {d:Dk} (h:vl own W db d) (hoff:d.off=false) (hlate:d.late.length+d.n<1000000):Calls Tryz.prog 18 #[.pointer (some ⟨db,0,none⟩)] W (Zw own W db d):=
 callsIn_wide.1 (sopenIn h hoff hlate)
open Go.Sf
def yi (d:Dk):Prop:=d.off=false∧d.well = -1
theorem yi.step {d:Dk} (h:yi d):d.stepB=true:=by unfold Dk.stepB;rw[h.2];rfl
theorem yi.went {d:Dk} (h:yi d):yi d.went:=⟨h.1,by show max (-1) (d.well-1) = -1;rw[h.2];rfl⟩
theorem yi.wrote {d:Dk} (h:yi d) {i:Nat} {b:List Int} (hi:i<d.n) (hb:b.length≤256):d.writeV i b=0∧yi (d.written i b)∧(d.written i b).n=d.n∧(d.written i b).late.length=d.late.length+1∧(d.written i b).now=yj d.now (i:Int) (jg b)∧(d.written i b).st=d.st:=by
 have hm:d.mayE (i:Int) b.length=0:=by
  unfold Dk.mayE;rw[if_neg (by simp[h.1]),if_neg (by omega),if_neg (by omega)]
 have e1:d.writeV i b=0:=by unfold Dk.writeV;simp[hm,h.step]
 have e2:d.written i b=(d.lay i (jg b)).went:=by unfold Dk.written;simp[hm,h.step]
 rw[e1,e2]
 exact⟨rfl,yi.went (d:=d.lay i (jg b)) ⟨h.1,h.2⟩,rfl,by simp[Dk.went,Dk.lay],rfl,rfl⟩
theorem yi.writes:∀{ws:List (Nat × List Int)} {d:Dk},yi d→(∀w∈ws,w.1<d.n∧w.2.length≤256)→(d.writes ws).2=0∧yi (d.writes ws).1∧(d.writes ws).1.n=d.n∧(d.writes ws).1.late.length=d.late.length+ws.length
 | [],d,h,_=>⟨rfl,h,rfl,rfl⟩
 | w :: r,d,h,hw=>by
  obtain⟨a1,a2⟩:=hw w (by simp)
  obtain⟨e1,e2,e3,e4,-,-⟩:=h.wrote a1 a2;have ih:=yi.writes (ws:=r) e2 (fun w' hw'=>by
   have:=hw w' (List.mem_cons_of_mem _ hw');rw[e3];exact this)
  unfold Dk.writes;rw[if_pos e1];refine⟨ih.1,ih.2.1,ih.2.2.1.trans e3,?_⟩;rw[ih.2.2.2,e4];simp;omega
theorem yi.sync {d:Dk} (h:yi d):d.syncV=0∧yi d.synced∧d.synced.n=d.n∧d.synced.late = []:=by
 have e1:d.syncV=0:=by unfold Dk.syncV;simp[h.1,h.step]
 have e2:d.synced=d.went.settled:=by unfold Dk.synced;simp[h.1,h.step]
 rw[e1,e2]
 exact⟨rfl,⟨h.went.1,h.went.2⟩,rfl,rfl⟩
theorem zin (n:Int):yi (Dk.new n):=⟨rfl,rfl⟩
theorem zfb (b:List Int) (j:Nat):(uc b j).length≤230:=by rw[Jo];omega
theorem put_ok {S:Sto} (hd:yi S.d) (hb:S.broken=0) (hn:S.next≤4611686018427387904) (ht:S.taken.length=S.d.n) {b:List Int} (hl:b.length≤131072) (hf:(yn S.taken (zt b.length) S.taken.length).length=zt b.length) :
  ∃d',yi d'∧d'.n=S.d.n∧d'.late = []∧S.put b=((Sto.kept { S with d:=d' } S.next b (yn S.taken (zt b.length) S.taken.length)).next1,S.next,0):=by
 have hw:∀w∈xu ya S.next b (yn S.taken (zt b.length) S.taken.length),w.1<S.d.n∧w.2.length≤256:=fun w hw=>by
  unfold xu at hw;obtain⟨j,hj,rfl⟩:=List.mem_map.1 hw;have hj:=List.mem_range.1 hj;refine⟨?_,by rw[Xb (by exact zfb b j)];omega⟩
  simp only;rw[List.getD_eq_getElem?_getD,List.getElem?_eq_getElem hj];have:=(zbo (List.getElem_mem hj)).1;simp only[Option.getD_some];omega
 obtain⟨e1,e2,e3,e4⟩:=hd.writes hw;obtain⟨g1,g2,g3,g4⟩:=e2.sync;refine⟨_,g2,g3.trans e3,g4,?_⟩;unfold Sto.put;rw[if_neg (by simp[hb]),if_neg (by omega),if_neg (by omega),if_neg (by simp[e1]),if_neg (by simp[g1])]
theorem zm2 {S:Sto} (hd:yi S.d) (hb:S.broken=0) {k:Int} {r:List Int × List Nat} (hk:zw S.recs k=some r) (hi:r.2.headD 0<S.d.n):∃d',yi d'∧d'.n=S.d.n∧d'.late = []∧S.rem k=({ S with d:=d',recs:=qn S.recs k,taken:=qu S.taken r.2 false },0):=by
 obtain⟨e1,e2,e3,e4,-,-⟩:=hd.wrote (b:=[]) hi (by simp)
 obtain⟨g1,g2,g3,g4⟩:=e2.sync;refine⟨_,g2,g3.trans e3,g4,?_⟩;unfold Sto.rem;rw[if_neg (by simp[hb]),hk]
 simp only;rw[if_neg (fun h=>h e1),if_neg (fun h=>h g1)]
theorem xj {own:Nat→Prop} {W w w':World} (h:W.grownBy w none) (ho:∀k,k<W.heap.size→own k) (ht:zq (fun k=>¬own k) w w'):W.grownBy w' none:=
 ⟨ht.os.trans h.os,ht.tape.trans h.tape,ht.output.trans h.output,Nat.le_trans h.size ht.size,fun k hk _=>(ht.block k (Nat.lt_of_lt_of_le hk h.size) (fun e=>e (ho k hk))).trans (h.block k hk (by simp))⟩
def S0 (n:Int):Sto:=⟨Dk.new n,[],List.replicate (Dk.new n).n false,1,0⟩
theorem zgg (rb:Nat→Prop) (w:World):ye rb w (.slice none 0 0) (zi []):=⟨none,0,rfl,by simp[zi],by omega,Or.inl rfl⟩
theorem zgf {w:World} {b:List Int} {T:TypeId} {cap:Nat} (fz:Nat × Nat) (hb:b.length≤cap) (hc:cap≤9223372036854775807) (lo:Nat) (hlo:lo≤w.heap.size):ye (fun k=>lo≤k∧k<(w.alloc (.cells (zi b).toArray T fz)).heap.size) (w.alloc (.cells (zi b).toArray T fz)) (.slice (some ⟨w.heap.size,0,none⟩) b.length cap) (zi b):=by
 refine⟨some ⟨w.heap.size,0,none⟩,cap,by rw[zr],by rw[zr];exact hb,hc,Or.inr ⟨_,rfl,⟨hlo,by simp⟩,fun j u hu=>?_⟩⟩
 rw[Xl]
 exact(zh (heap_alloc_new w _) j).trans (by simpa using hu)
theorem uv.rowP {W w:World} {v:Value} {l:List Int} (h:uv W w v l) (hl:l.length≤9223372036854775807):ye (fun k=>W.heap.size≤k∧k<w.heap.size) w v (zi l):=by
 rcases h.2 with ⟨rfl,h0⟩|⟨g,cap,cur,rfl,hg,hh,h1,h2,h3,h4⟩
 ·have:l = []:=List.length_eq_zero_iff.mp h0
  subst this
  exact⟨none,0,rfl,by simp[zi],by omega,Or.inl rfl⟩
 ·refine⟨some ⟨g,0,none⟩,cap,by rw[zr],by rw[zr];exact h1,h2,Or.inr ⟨_,rfl,⟨hg,?_⟩,fun j u hu=>?_⟩⟩
  ·rcases Nat.lt_or_ge g w.heap.size with h|h
   ·exact h
   ·rw[Array.getElem?_eq_none h] at hh;cases hh
  ·rw[Xl]
   refine(zh hh j).trans ?_;have hj:j<(zi l).length:=by
    rcases Nat.lt_or_ge j (zi l).length with h|h
    ·exact h
    ·rw[List.getElem?_eq_none h] at hu;cases hu
   rw[←h4,List.getElem?_take,if_pos (by rw[zr] at hj;omega)] at hu
   simpa using hu
theorem zjg {d:Dk} {ks:List zx} (hk:Yg d ks) {f:Nat→List Int} {all:List (Int × List Int)} {blk:Int→List Nat} {next:Int} (g:vf ya f d.n all blk next) (hs:∀i,i<d.n→saidP ya (bk d.now i)=saidP ya (f i)):(openS d ks).recs=all.map fun q=>(q.1,(q.2,blk q.1)):=by
 have e:=Uj (C:=ya) (N:=d.n) (f:=f) (g:=bk d.now) hs d.n (Nat.le_refl _);have hk1:=hk.1;rw[e] at hk1;unfold openS;rw[Qs,e]
 exact zjx g hk1 hk.2
theorem yi.opn {d:Dk} (h:yi d):∀n,n≤d.n→(opnD d n).2.1=0∧yi (opnD d n).1∧(opnD d n).1.n=d.n
 | 0,_=>⟨rfl,h,rfl⟩
 | n+1,hn=>by
  obtain⟨h1,h2,h3⟩:=yi.opn h n (by omega)
  by_cases hc:(saidP ya (bk d.now n)).isSome=true∨bk d.now n=zz
  ·rw[jm h1 hc]
   exact⟨h1,h2,h3⟩
  ·have hc1:(saidP ya (bk d.now n)).isSome=false:=by
    cases e:(saidP ya (bk d.now n)).isSome
    ·rfl
    ·exact absurd (Or.inl e) hc
   rw[Yk h1 hc1 (fun e=>hc (Or.inr e))]
   obtain⟨e1,e2,e3,-⟩:=h2.wrote (i:=n) (b:=[]) (by omega) (by simp)
   exact⟨e1,e2,e3.trans h3⟩
theorem yi.opened {d:Dk} (h:yi d):d.opened.2=0:=by
 obtain⟨h1,h2,h3⟩:=yi.opn h d.n (Nat.le_refl _);unfold Dk.opened;rw[if_neg (by simp[h1])]
 split
 ·exact h2.sync.1
 ·rfl
theorem zio {d:Dk} (h:yi d):d.synced.now=d.now:=by
 unfold Dk.synced;simp only[h.1,h.step,Bool.false_eq_true,if_false,if_true]
 rfl
end Go.Proofs.YtbcbhlfjgobejaaGreat
