/- Behind Open's loop, the disk being well: the walk. Conditions: none, or as the theorems say. -/
import Derived.Test.YtbcbhlfjgobejaaGreatS21
import Derived.Test.YtbcbhlfjgobejaaGreatS1
import Derived.Test.YtbcbhlfjgobejaaGreatS23
set_option linter.unusedSimpArgs false
set_option linter.unusedVariables false
namespace Go.Proofs.YtbcbhlfjgobejaaGreat
set_option maxHeartbeats 200000000
open Go.RowKit Go.Sf
noncomputable def oRest:Code:=match (Tryz.f18).body with
 | some (.seq _ (.seq _ (.seq _ (.seq _ (.seq _ (.seq _ (.seq _ c)))))))=>c
 | _=>.skip
section
variable {own P : Nat → Prop} {W0 X : World} {db B : Nat} {d : Dk} {L : Yh} {loc : zt → Nat × Nat × Nat} {rp : Nat → Prop} {scr : Bool} {e13 u22 u23 u24 u25 u26 u27 u28 u29 u30 u31 u32 u33 u34 u35 u36 u37 u38 u39 u40 u41 u42 u43 u44 u45 u46 u47 u48 u49 u50 u51 u52 u53 u54 u55 u56 u57 u58 u59 u60 u61 u62 u63 u64 u65 u66 u67 u68 u69 u70 u71 u72 u73 u74 u75 u76 u77 u78 u79 u80 u81 u82 u83 u84 u85 u86 u87 u88 u89 u90 u91 u92 u93 u94 u95 u96 u97 u98 u99 u100 u101 u102 u103 u104 u105 u106 u107 u108 u109 u110 u111 u112 u113 u114 u115 u116 u117 u118 u119 u120 u121 u122 u123 u124 u125 u126 u127 u128 u129 u130 u131 u132 u133 u134 u135 u136 u137 u138 u139 u140 u141 u142 u143 u144 u145 u146 u147 u148 u149 u150 u151 u152 u153 u154 u155 u156 u157 u158 u159 u160 : Value}
set_option maxRecDepth 100000 in
theorem zlq (hM:OM own db d.n B L P loc rp (scanN zo (bk d.now) d.n).rows (scanN zo (bk d.now) d.n).next scr d.opened.1 X) (hok:d.opened.2=0) (hB:X.heap[B]? = some (.deferred (some []))) (ht:zm (λk=>¬own k) W0 X) (hown:∀k,own k→k<B∧∀j∈L.all,k≠j) (hbl:∀j,BL (bk d.now j)) (hn:d.n≤4096) :
  oRest.wp Tryz.prog (bodyPostM Fence.wide 5 Tryz.prog Tryz.f18 (Yw own W0 db d)) { tmps:=#[.pointer (some ⟨db,0,none⟩),.pointer (some ⟨L.bd,0,none⟩),.pointer (some ⟨L.b2,0,none⟩),.pointer (some ⟨L.b3,0,none⟩),.pointer (some ⟨L.b4,0,none⟩),.pointer (some ⟨L.b5,0,none⟩),.pointer (some ⟨L.b6,0,none⟩),undef,undef,undef,undef,undef,undef,e13,undef,undef,undef,undef,undef,undef,undef,undef,u22,u23,u24,u25,u26,u27,u28,u29,u30,u31,u32,u33,u34,u35,u36,u37,u38,u39,u40,u41,u42,u43,u44,u45,u46,u47,u48,u49,u50,u51,u52,u53,u54,u55,u56,u57,u58,u59,u60,u61,u62,u63,u64,u65,u66,u67,u68,u69,u70,u71,u72,u73,u74,u75,u76,u77,u78,u79,u80,u81,u82,u83,u84,u85,u86,u87,u88,u89,u90,u91,u92,u93,u94,u95,u96,u97,u98,u99,u100,u101,u102,u103,u104,u105,u106,u107,u108,u109,u110,u111,u112,u113,u114,u115,u116,u117,u118,u119,u120,u121,u122,u123,u124,u125,u126,u127,u128,u129,u130,u131,u132,u133,u134,u135,u136,u137,u138,u139,u140,u141,u142,u143,u144,u145,u146,u147,u148,u149,u150,u151,u152,u153,u154,u155,u156,u157,u158,u159,u160],defers:=[{ target:=.collected B,args:=#[] }] } X:=by
 have k5:X.cell? ⟨L.b5,0,none⟩=some (.map (some L.mr)):=(zf hM.b5 0).trans rfl;have HKY:=zd (zmt (some L.mr) X);have hga:=ze X (.cells #[.map (some L.mr)] 133) none;have HGA:=zd hga;have HSO:=zd (zjg X.heap.size L.mr _ (X.alloc (.cells #[.map (some L.mr)] 133)) (by simp) ((zf (heap_alloc_new X (.cells #[.map (some L.mr)] 133)) 0).trans rfl) (hM.rows.map.kept hga (by simp)) (by have:=zjc (C:=zo) (f:=bk d.now) d.n;simp;omega))
 have HM:=zd hM;have HOK:=zd hok;have HB:=zd hB;have HT:=zd ht;have HOW:=zd hown;have HBL:=zd hbl;clear hM hok hB ht hown hbl hga;generalize hPP:bodyPostM Fence.wide 5 Tryz.prog Tryz.f18 (Yw own W0 db d)=PP at *;have HPP:=zd hPP;clear hPP;refine wp_mono (Q:=noP PP) ?_ noP_le
 delta oRest
 dsimp only[Tryz.f18]
 go_upto_region 27 with (first
  | (go_at_call 88;refine HKY.out.mono ?_;rintro e w1 ⟨rfl,rfl⟩)
  | (go_at_call 87;refine HSO.out.mono ?_;rintro e X2 ⟨v,ks,rfl,hord,hg2⟩;have HORD:=zd hord;have HG2:=zd (zh HGA.out hg2);have HGZ:=zd hg2.size;clear hord hg2))
 -- the keys are in order
 obtain⟨p,gk,cap,rfl,hp0,hkc⟩:=zgy HORD.out.1;have hKO:jc d ks:=⟨λK=>by
  have h1:=HORD.out.2.1.mem_iff (a:=K);rw[h1,List.map_map]
  constructor
  ·intro h
   obtain⟨q,hq,rfl⟩:=List.mem_map.1 h
   exact⟨q.2,Yn (qv (C:=zo) (bk d.now) d.n).nd hq⟩
  ·rintro⟨r,hr⟩
   exact List.mem_map.2 ⟨(K,r),qj hr,rfl⟩,zh7 HORD.out.2.2.1 (HORD.out.2.1.nodup_iff.2 (by
    rw[List.map_map]
    exact(qv (C:=zo) (bk d.now) d.n).nd))⟩
 have hM2:=HM.out.widen HG2.out;have hz2:=HM.out.sz;have hsx:(X.alloc (.cells #[.map (some L.mr)] 133)).heap.size=X.heap.size+1:=by simp
 have HAF:=zd (om_af (ks:=ks) (gk:=gk) hM2 ((HG2.out.block B (by omega) (by simp)).trans HB.out) (HT.out.trans (Ji _ HG2.out)) HOW.out (λj K hj=>by
  obtain⟨q1,q2,q3⟩:=hkc j K hj
  exact⟨⟨Or.inr ⟨by omega,q1.2⟩,by omega⟩,q2,q3⟩))
 have HSA:=zd (zpl hM2 (qv (C:=zo) (bk d.now) d.n).nx (zck (Int.le_refl _) d.n));have HKL:Hid (ks.length≤1000000):=(show _≤_ from by rw[HORD.out.2.1.length_eq];have:=zjc (C:=zo) (f:=bk d.now) d.n;simp;omega)
 have HKO:=zd hKO;have HP0:=zd hp0;have HS0:Hid (openS d ks=vj (scanN zo (bk d.now) d.n).rows ks ⟨d.opened.1,[],List.replicate d.n false,(scanN zo (bk d.now) d.n).next,0⟩):=(show _=_ from rfl)
 have HNN:=zd HM.out.nn;have HTL:Hid ((⟨d.opened.1,[],List.replicate d.n false,(scanN zo (bk d.now) d.n).next,0⟩:Sto).taken.length=d.n):=(show _=_ from by simp)
 clear hp0 hkc hKO hM2 hz2 hsx HM HORD HG2 HGZ HGA HB HT k5 HKY HSO;have HDN:Hid ((⟨d.opened.1,[],List.replicate d.n false,(scanN zo (bk d.now) d.n).next,0⟩:Sto).d.n=d.n):=(show _=_ from HNN.out)
 generalize hS0:(⟨d.opened.1,[],List.replicate d.n false,(scanN zo (bk d.now) d.n).next,0⟩:Sto)=S0 at *;generalize (λk=>(P k∨(X.heap.size≤k∧k<X2.heap.size))∧k≠L.st∧k≠L.mb∧k≠L.tb)=ownA at *
 clear hS0;have HWB:=zd (λK r (hr:zw (scanN zo (bk d.now) d.n).rows K=some r) hw=>zhg (C:=zo) (f:=bk d.now) (N:=d.n) (λi _=>HBL.out i) hr hw)
 have HRR:Hid (∀K∈ks,∃r,zw (scanN zo (bk d.now) d.n).rows K=some r):=(show ∀K,_ from λK hK=>(HKO.out.1 K).1 hK)
 generalize (scanN zo (bk d.now) d.n).rows=rows at *;generalize hq:ks.length=n at *;have HQ:=zd hq;have hn1:n≤1000000:=HKL.out;clear hq
 go_wp2_with fail
 go_loopw [107] (λs wr=>∃j:Nat,j≤n∧s = .int .i64 (j:Int)∧Hid (AF own ownA W0 db B L loc rp rows gk ks wr)∧Hid (∃rv rb,SAt ownA wr L.st db L.mb L.tb rv rb (vj rows (ks.take j) S0))) (λs _=>n-(intOf s).toNat)
 case atStart=>exact⟨0,Nat.zero_le _,rfl,HAF,(show ∃_ _,_ from ⟨_,_,HSA.out⟩)⟩
 case round=>
  clear HAF HSA;obtain⟨j,hj,rfl,hAF,hSS⟩:=hrel;have HAF:=zd hAF.out;obtain⟨rv,rb,hSA⟩:=hSS.out;have HSA:=zd hSA;clear hAF hSS hSA
  rcases Nat.lt_or_ge j n with hlt|hge
  ·obtain⟨K,hK⟩:∃K,ks[j]? = some K:=⟨_,List.getElem?_eq_getElem (by rw[HQ.out];exact hlt)⟩
   obtain⟨q1,c0,c1⟩:=HAF.out.ks j K hK;obtain⟨rfl,-⟩:p=some ⟨gk,0,none⟩∧True:=by
    rcases HP0.out with e|e
    ·subst e;simp at hK
    ·exact⟨e.1,trivial⟩
   have HPT:=zd (zg9 (rows:=rows) hK S0);obtain⟨r,hr⟩:=HRR.out K (List.mem_of_getElem? hK);have HR:=zd hr;have HSD:Hid ((vj rows (ks.take j) S0).d.n=d.n):=(show _=_ from by rw[(Xe rows (ks.take j) S0).1];exact HDN.out)
   generalize vj rows (ks.take j) S0=S at *;clear q1 hK hr
   go_upto_region 30 with fail
   have hb16:=heap_alloc_new wr (.cells #[.int .i64 K.k,.int .i64 (K.count:Int)] 142);have hgx:=ze wr (.cells #[.int .i64 K.k,.int .i64 (K.count:Int)] 142) none;have HMB:Hid ((wr.alloc (.cells #[.int .i64 K.k,.int .i64 (K.count:Int)] 142)).heap[L.mb]? = wr.heap[L.mb]?∧L.mb<(wr.alloc (.cells #[.int .i64 K.k,.int .i64 (K.count:Int)] 142)).heap.size):=(show _∧_ from ⟨hgx.block _ HSA.out.mb_lt (by simp),Nat.lt_of_lt_of_le HSA.out.mb_lt hgx.size⟩)
   generalize wr.heap.size=B16 at *;have HGX:=zd hgx;have y4:(wr.alloc (.cells #[.int .i64 K.k,.int .i64 (K.count:Int)] 142)).cell? ⟨L.b4,0,none⟩=some (.pointer (some ⟨L.st,0,none⟩)):=hgx.cell ((zf HAF.out.b4 0).trans rfl) (by simp)
   have y1:(wr.alloc (.cells #[.int .i64 K.k,.int .i64 (K.count:Int)] 142)).cell? ⟨L.st,1,none⟩=some (.map (some L.mb)):=hgx.cell ((zf HSA.out.box 1).trans rfl) (by simp)
   have y16:(wr.alloc (.cells #[.int .i64 K.k,.int .i64 (K.count:Int)] 142)).cell? ⟨B16,0,none⟩=some (.int .i64 K.k):=(zf hb16 0).trans rfl;have y17:(wr.alloc (.cells #[.int .i64 K.k,.int .i64 (K.count:Int)] 142)).cell? ⟨B16,1,none⟩=some (.int .i64 (K.count:Int)):=(zf hb16 1).trans rfl;have y5:(wr.alloc (.cells #[.int .i64 K.k,.int .i64 (K.count:Int)] 142)).cell? ⟨L.b5,0,none⟩=some (.map (some L.mr)):=hgx.cell ((zf HAF.out.b5 0).trans rfl) (by simp)
   generalize wr.alloc (.cells #[.int .i64 K.k,.int .i64 (K.count:Int)] 142)=wx at *;clear hb16 hgx c0 c1;obtain⟨p1,n1,c1',p2,n2,c2',hlk⟩:=znc HSA.out K.k;generalize his:(zw S.recs K.k).isSome=is at *;have HLK:=zd hlk;have HIS:=zd his;clear hlk his;refine qH (S:=λw':World=>w'.cell? ⟨L.b4,0,none⟩=some (.pointer (some ⟨L.st,0,none⟩))∧w'.cell? ⟨L.st,1,none⟩=some (.map (some L.mb))∧w'.cell? ⟨B16,0,none⟩=some (.int .i64 K.k)∧w'.heap[L.mb]? = wr.heap[L.mb]?) ⟨y4,y1,y16,HMB.out.1⟩ (λhHeld=>?_)
   refine qT 0 ?_;refine qT 1 ?_;refine qT 2 ?_;refine qT 3 ?_;refine qT 4 ?_;refine qT 5 ?_;refine qT 6 ?_ (v:=.tuple #[.agg #[.slice p1 n1 c1',.slice p2 n2 c2'],.bool is]) (he:=λw hSw=>jf _ _ _ rfl rfl rfl (HLK.out w hSw.2.2.2))
   refine qT 7 ?_;refine qT 8 ?_;refine qT 9 ?_;refine qO 10 λK hK=>?_
   go_simp
   refine hK.out _ _ ⟨(show wx.grownBy _ none from (by repeat (first|exact zi _|refine zp ?_ _|refine zj ?_|refine yi ?_ (by simp) _))).cell y4 (by simp),(show wx.grownBy _ none from (by repeat (first|exact zi _|refine zp ?_ _|refine zj ?_|refine yi ?_ (by simp) _))).cell y1 (by simp),(show wx.grownBy _ none from (by repeat (first|exact zi _|refine zp ?_ _|refine zj ?_|refine yi ?_ (by simp) _))).cell y16 (by simp),((show wx.grownBy _ none from (by repeat (first|exact zi _|refine zp ?_ _|refine zj ?_|refine yi ?_ (by simp) _))).block L.mb HMB.out.2 (by simp)).trans HMB.out.1⟩ (λhHeld=>?_)
   clear hK K;refine qO 11 λK hK=>?_
   go_simp
   refine hK.out _ _ ⟨(show wx.grownBy _ none from (by repeat (first|exact zi _|refine zp ?_ _|refine zj ?_|refine yi ?_ (by simp) _))).cell y4 (by simp),(show wx.grownBy _ none from (by repeat (first|exact zi _|refine zp ?_ _|refine zj ?_|refine yi ?_ (by simp) _))).cell y1 (by simp),(show wx.grownBy _ none from (by repeat (first|exact zi _|refine zp ?_ _|refine zj ?_|refine yi ?_ (by simp) _))).cell y16 (by simp),((show wx.grownBy _ none from (by repeat (first|exact zi _|refine zp ?_ _|refine zj ?_|refine yi ?_ (by simp) _))).block L.mb HMB.out.2 (by simp)).trans HMB.out.1⟩ (λhHeld=>?_)
   clear hK K;refine qT 12 ?_;refine qD ?_;clear hHeld
   go_upto_region 31 with fail
   have HG3:Hid (wr.grownBy (wx.alloc (.cells #[.slice p1 n1 c1',.slice p2 n2 c2'] 158)).drew none):=(show wr.grownBy _ none from zj (zp HGX.out _))
   have hgy:wx.grownBy (wx.alloc (.cells #[.slice p1 n1 c1',.slice p2 n2 c2'] 158)).drew none:=zj (zp (zi wx) _);have z5:=hgy.cell y5 (by simp)
   have z4:=hgy.cell y4 (by simp)
   have z16:=hgy.cell y16 (by simp)
   have HZ16:=zd z16;have z17:=hgy.cell y17 (by simp)
   generalize wx.heap.size=B17 at *;generalize (wx.alloc (.cells #[.slice p1 n1 c1',.slice p2 n2 c2'] 158)).drew=W3 at *;clear hgy y5 y4 y16 y17 y1 HMB HGX HLK;have HAF3:=zd (HAF.out.grown HG3.out);have HSA3:=zd (HSA.out.kept HG3.out);clear HAF HSA;obtain⟨cs,hrw⟩:=HAF3.out.rows.row K r HR.out;have HWH:=zd (rwhole hrw);have HRL:=zd (Xg HAF3.out.rows K (v:=.pointer (some ⟨(loc K).1,0,none⟩)) (by rw[HR.out];rfl))
   cases is with
   | true=>
    go_wp2_with fail
    go_roundw
    case rel=>exact⟨j+1,by omega,by go_num,HAF3,(show ∃_ _,_ from ⟨rv,rb,by rw[HPT.out,zg8 HIS.out];exact HSA3.out⟩)⟩
    case measure=>simp[intOf];omega
   | false=>
    cases hwh:r.whole with
    | false=>
     rw[hwh] at HWH
     go_wp2_with (first
      | (refine ud (by kernel_rfl) (jf _ _ _ rfl rfl rfl HRL.out) ?_)
      | (go_at_call 93;refine HWH.out.mono ?_;rintro e W4 ⟨rfl,h4⟩;obtain rfl:W3=W4:=h4.symm))
     go_roundw
     case rel=>exact⟨j+1,by omega,by go_num,HAF3,(show ∃_ _,_ from ⟨rv,rb,by rw[HPT.out,zg7 HR.out hwh];exact HSA3.out⟩)⟩
     case measure=>simp[intOf];omega
    | true=>
     rw[hwh] at HWH
     go_upto_region 32 with (first
      | (refine ud (by kernel_rfl) (jf _ _ _ rfl rfl rfl HRL.out) ?_)
      | (go_at_call 93;refine HWH.out.mono ?_;rintro e W4 ⟨rfl,h4⟩;obtain rfl:W3=W4:=h4.symm))
     have HRI0:=zd (RI.start W3 r);have hg34:=ze W3 (.cells #[.slice none 0 0,.slice none 0 0] 158) none;have v5:=hg34.cell z5 (by simp)
     have v4:=hg34.cell z4 (by simp)
     have v16:=hg34.cell z16 (by simp)
     have v17:=hg34.cell z17 (by simp)
     have vrow:(W3.alloc (.cells #[.slice none 0 0,.slice none 0 0] 158)).cell? ⟨(loc K).1,0,none⟩=some (.slice (some ⟨(loc K).2.1,0,none⟩) r.there.length r.there.length):=hg34.cell ((zf hrw.box 0).trans rfl) (by simp)
     have HRL4:=zd (Xg (HAF3.out.grown hg34).rows K (v:=.pointer (some ⟨(loc K).1,0,none⟩)) (by rw[HR.out];rfl))
     have hfew:=hrw.few;have HRWW:=zd hrw
     go_upto_region 33 with fail
     generalize W3.heap.size=B19 at *;generalize W3.alloc (.cells #[.slice none 0 0,.slice none 0 0] 158)=W4 at *;generalize hm:r.there.length=m at *;have HM2:=zd hm;clear hg34 hrw z5 z4 z16 z17 HRL HWH hm
     go_wp2_with (refine ud (by kernel_rfl) (jf _ _ _ rfl rfl rfl HRL4.out) ?_)
     go_loopw [136] (λs wl=>∃(t:Nat) (va vb:Value),t≤m∧s = .int .i64 (t:Int)∧Hid (RI W3 B19 r t va vb wl)) (λs _=>m-(intOf s).toNat)
     case atStart=>exact⟨0,_,_,Nat.zero_le _,rfl,HRI0⟩
     case round=>
      clear HRI0 v5 v4 v16 v17 vrow HRL4;obtain⟨t,va,vb,ht,rfl,hRI⟩:=hrel;have HRI:=zd hRI.out;clear hRI
      rcases Nat.lt_or_ge t m with htl|htg
      ·obtain⟨c,hc⟩:∃c,cs[t]? = some c:=⟨_,List.getElem?_eq_getElem (by rw[HRWW.out.len,HM2.out];exact htl)⟩
       have HCT:Hid (r.cells[t]? = some (c.1,c.2.2)):=(show _=_ from by rw[HRWW.out.cells,List.getElem?_map,hc];rfl)
       have hsrc:=HRWW.out.rows c (List.mem_of_getElem? hc);obtain⟨x1,xv,xb⟩:=c;simp only at hsrc HCT;obtain⟨px,cx,rfl,-⟩:=hsrc.ex;have hx0:=HRI.out.part (c:=(x1,.slice px (zg xb).length cx,xb)) hsrc HAF3.out.rlt;simp only at hx0;have HX:=zd hx0;obtain⟨sa1,sa2⟩:=zjl cs t _ hc;have d0:wr.cell? ⟨(loc K).2.1,t*2,none⟩=some (.int .i64 (x1:Int)):=HRI.out.gr.cell ((zf HRWW.out.at_ (t*2)).trans (by simpa using sa1)) (by simp)
       have d1:wr.cell? ⟨(loc K).2.1,t*2+1,none⟩=some (.slice px (zg xb).length cx):=HRI.out.gr.cell ((zf HRWW.out.at_ (t*2+1)).trans (by simpa using sa2)) (by simp)
       have hwb:=HWB.out K r HR.out hwh;have hfl:=flat_le (l:=r.cells.take t) (λc hc=>hwb.2.2.2.2.2.1 c (List.mem_of_mem_take hc))
       have hxl:(zg xb).length≤230:=by rw[zu];exact hwb.2.2.2.2.2.1 _ (List.mem_of_getElem? HCT.out)
       have htk:=List.length_take_le t r.cells;have hcl:=hwb.2.2.2.2.1;obtain⟨⟨pA,cA,hvA⟩,⟨pB,cB,hvB⟩⟩:=HRI.out.form;subst hvA hvB;have HAPB:Hid (∀p' c' w',World.ownsRow w' (B19+1) 5 1 (.slice p' (((r.cells.take t).flatMap (·.2)).length+(zg xb).length) c') (((r.cells.take t).flatMap (·.2)).length+(zg xb).length) (zg ((r.cells.take t).flatMap (·.2))++zg xb)→World.ownsRow w' (B19+1) 5 1 (.slice p' (((r.cells.take t).flatMap (·.2)).length+(zg xb).length) c') ((r.cells.take t).flatMap (·.2)++xb).length (zg ((r.cells.take t).flatMap (·.2)++xb))):=(show ∀_ _ _,_→_ from λp' c' w' ho=>by
        have e1:((r.cells.take t).flatMap (·.2)++xb).length=((r.cells.take t).flatMap (·.2)).length+(zg xb).length:=by rw[List.length_append,zu]
        have e2:zg ((r.cells.take t).flatMap (·.2)++xb)=zg ((r.cells.take t).flatMap (·.2))++zg xb:=by simp[zg]
        rw[e1,e2];exact ho)
       have HAPI:Hid (∀p' c' w',World.ownsRow w' (B19+1) 3 1 (.slice p' (((r.cells.take t).map (·.1)).length+1) c') (((r.cells.take t).map (·.1)).length+1) (jj ((r.cells.take t).map (·.1)) ++ [.int .i64 (x1:Int)])→World.ownsRow w' (B19+1) 3 1 (.slice p' (((r.cells.take t).map (·.1)).length+1) c') ((r.cells.take t).map (·.1) ++ [x1]).length (jj ((r.cells.take t).map (·.1) ++ [x1]))):=(show ∀_ _ _,_→_ from λp' c' w' ho=>by
        have e1:((r.cells.take t).map (·.1) ++ [x1]).length=((r.cells.take t).map (·.1)).length+1:=by rw[List.length_append];rfl
        have e2:jj ((r.cells.take t).map (·.1) ++ [x1])=jj ((r.cells.take t).map (·.1)) ++ [.int .i64 (x1:Int)]:=by simp[jj]
        rw[e1,e2];exact ho)
       have HSRC:Hid (∀v,xw rp v (.slice px (zg xb).length cx) (zg xb)→zg xb = []∨∃ad,px=some ad∧∀j u,(zg xb)[j]? = some u→v.cell? (ad.add j)=some u):=(show ∀v,_→_ from λv hv=>by
        obtain⟨p',c',e,_,_,h3⟩:=hv.ex
        injection e with e1
        subst e1
        rcases h3 with h3|⟨a,ha,_,h4⟩
        ·exact Or.inl h3
        ·exact Or.inr ⟨a,ha,h4⟩)
       have HXL:Hid (((r.cells.take t).flatMap (·.2)).length+(zg xb).length≤1000000000):=(show _≤_ from by omega)
       have HIL:Hid (((r.cells.take t).map (·.1)).length+1≤1000000000):=(show _≤_ from by rw[List.length_map];omega)
       clear hwb hfl hxl htk hcl hc hsrc sa1 sa2 hx0;generalize hBA:(r.cells.take t).flatMap (·.2)=BA at *
       generalize hIB:(r.cells.take t).map (·.1)=IB at *
       have HBA:=zd hBA;have HIB:=zd hIB;generalize hnx:(zg xb).length=nx at *;have HXN:=zd hnx;clear hBA hIB hnx
       go_upto_region 36 with fail
       clear d0 d1;generalize wr.heap.size=B21 at *;generalize wr.alloc (.cells #[.int .i64 (x1:Int),.slice px nx cx] 146)=wv at *;have HX2:=zd (HX.out.grown (zj (zi wv)));clear HX;have HX:=zd HX2.out;clear HX2;have hdr:{ wv with drawn:=wv.drawn+1 }=wv.drew:=rfl
       obtain⟨W0,hW0⟩:∃V:World,V=wv.drew:=⟨_,rfl⟩;rw[←hW0] at HX;have kA:W0.cell? ⟨B19,0,none⟩=some (.slice pA BA.length cA):=(zf HX.out.box 0).trans rfl;have kB:W0.cell? ⟨B19,1,none⟩=some (.slice pB IB.length cB):=(zf HX.out.box 1).trans rfl;have fA:W0.frozen? ⟨B19,0,none⟩=false:=xf HX.out.box 0;have fB:W0.frozen? ⟨B19,1,none⟩=false:=xf HX.out.box 1;refine qH (S:=λw':World=>w'.cell? ⟨B21,0,none⟩=some (.int .i64 (x1:Int))∧w'.cell? ⟨B21,1,none⟩=some (.slice px nx cx)) (by rw[←hW0];exact⟨(zf HX.out.x 0).trans rfl,(zf HX.out.x 1).trans rfl⟩) (λhHeld=>?_)
       rw[←hW0] at hHeld ⊢;clear hdr hW0;generalize W0=V at *;refine qT 0 ?_;refine qT 2 ?_;refine qT 5 ?_;refine qT 7 ?_;refine qT 3 ?_;refine qT 8 ?_
       repeat' first
        | refine sT 11 ?_
        | refine sT 13 ?_
        | refine sR [1,6,9] ?_
        | refine sR [4,6,9] ?_
        | refine sR [6,9] ?_
        | refine sR [9] ?_
        | refine sR [10] ?_
        | refine sR [12] ?_
        | refine sR [14] ?_
        | refine sR [6] ?_
        | refine sR [4,9] ?_
        | refine sR [4] ?_
        | refine sR [4,6] ?_
        | refine sR [1,9] ?_
        | refine sR [1] ?_
        | refine sR [1,6] ?_
        | refine sD ?_
        | exact qN
        | (
         refine qC 1 (λK hK=>?_) ?_
         focus
          go_simp
          refine hK.out _ _ hHeld (λhHeld=>?_)
          clear hK K)
        | (
         refine qC 6 (λK hK=>?_) ?_
         focus
          go_simp
          refine hK.out _ _ hHeld (λhHeld=>?_)
          clear hK K)
        | (
         refine qC 9 (λK hK=>?_) ?_
         focus
          go_simp
          have hgb:=ze V (.cells #[.int .i64 (x1:Int)] 3) none;have HBS:=zd (heap_alloc_new V (.cells #[.int .i64 (x1:Int)] 3));have HX2:=zd (HX.out.grown hgb);clear HX kA kB fA fB;have HX:=zd HX2.out;clear HX2;clear hgb;generalize V.heap.size=Bs at *;generalize V.alloc (.cells #[.int .i64 (x1:Int)] 3)=V at *;have kA:V.cell? ⟨B19,0,none⟩=some (.slice pA BA.length cA):=(zf HX.out.box 0).trans rfl;have kB:V.cell? ⟨B19,1,none⟩=some (.slice pB IB.length cB):=(zf HX.out.box 1).trans rfl;have fA:V.frozen? ⟨B19,0,none⟩=false:=xf HX.out.box 0;have fB:V.frozen? ⟨B19,1,none⟩=false:=xf HX.out.box 1;refine hK.out _ _ ⟨(zf HX.out.x 0).trans rfl,(zf HX.out.x 1).trans rfl⟩ (λhHeld=>?_)
          clear hK K)
        | (
         refine qC 4 (λK hK=>?_) ?_
         focus
          refine zge rfl _ _ 32 rfl (.int .u8 0) 1 Tryz.underlying32 Yu rfl (by decide) rfl HX.out.bytes rfl HXN.out (HSRC.out _ HX.out.src) (qt xb) HXL.out (Array.getElem?_eq_some_iff.1 HX.out.box).1 ?_
          intro p4 c4 V ho4 hg4
          try (have HBS2:=zd (HX.out.app_keeps hg4 HBS.out (λc' e=>by injection e with _ e;exact absurd e (by decide)));clear HBS;have HBS:=zd HBS2.out;clear HBS2)
          have HX2:=zd (HX.out.app hg4 (HAPB.out _ _ _ ho4));clear HX kA kB fA fB;have HX:=zd HX2.out;clear HX2;have kA:V.cell? ⟨B19,0,none⟩=some (.slice pA BA.length cA):=(zf HX.out.box 0).trans rfl;have kB:V.cell? ⟨B19,1,none⟩=some (.slice pB IB.length cB):=(zf HX.out.box 1).trans rfl;have fA:V.frozen? ⟨B19,0,none⟩=false:=xf HX.out.box 0;have fB:V.frozen? ⟨B19,1,none⟩=false:=xf HX.out.box 1;clear ho4 hg4;refine hK.out _ _ ⟨(zf HX.out.x 0).trans rfl,(zf HX.out.x 1).trans rfl⟩ (λhHeld=>?_)
          clear hK K)
        | (
         refine qC 10 (λK hK=>?_) ?_
         focus
          refine zge rfl _ _ 44 rfl (.int .i64 0) 8 Tryz.underlying44 infoI rfl (by decide) rfl HX.out.ints (p:=some ⟨Bs,0,none⟩) (m:=1) (c:=1) (news:=[.int .i64 (x1:Int)]) rfl rfl (Or.inr ⟨_,rfl,λj u hu=>bs_cell HBS.out j u hu⟩) (λu hu=>by simp at hu;subst hu;rfl) HIL.out (Array.getElem?_eq_some_iff.1 HX.out.box).1 ?_
          intro p5 c5 V ho5 hg5;have HX2:=zd (HX.out.appi hg5 (HAPI.out _ _ _ ho5));clear HX kA kB fA fB;have HX:=zd HX2.out;clear HX2;have kA:V.cell? ⟨B19,0,none⟩=some (.slice pA BA.length cA):=(zf HX.out.box 0).trans rfl;have kB:V.cell? ⟨B19,1,none⟩=some (.slice pB IB.length cB):=(zf HX.out.box 1).trans rfl;have fA:V.frozen? ⟨B19,0,none⟩=false:=xf HX.out.box 0;have fB:V.frozen? ⟨B19,1,none⟩=false:=xf HX.out.box 1;clear ho5 hg5 HBS;refine hK.out _ _ ⟨(zf HX.out.x 0).trans rfl,(zf HX.out.x 1).trans rfl⟩ (λhHeld=>?_)
          clear hK K)
        | (
         refine qC 12 (λK hK=>?_) ?_
         focus
          go_simp
          have HX2:=zd (HX.out.set 0 (.slice p4 (BA.length+nx) c4) (.slice p4 (BA.length+nx) c4) (.slice pB IB.length cB) rfl);clear HX kA kB fA fB;have HX:=zd HX2.out;clear HX2;generalize V.setCell ⟨B19,0,none⟩ (.slice p4 (BA.length+nx) c4)=V at *;have kA:V.cell? ⟨B19,0,none⟩=some (.slice p4 (BA.length+nx) c4):=(zf HX.out.box 0).trans rfl;have kB:V.cell? ⟨B19,1,none⟩=some (.slice pB IB.length cB):=(zf HX.out.box 1).trans rfl;have fA:V.frozen? ⟨B19,0,none⟩=false:=xf HX.out.box 0;have fB:V.frozen? ⟨B19,1,none⟩=false:=xf HX.out.box 1;refine hK.out _ _ ⟨(zf HX.out.x 0).trans rfl,(zf HX.out.x 1).trans rfl⟩ (λhHeld=>?_)
          clear hK K)
        | (
         refine qC 14 (λK hK=>?_) ?_
         focus
          go_simp
          have HX2:=zd (HX.out.set 1 (.slice p5 (IB.length+1) c5) (.slice p4 (BA.length+nx) c4) (.slice p5 (IB.length+1) c5) rfl);clear HX kA kB fA fB;have HX:=zd HX2.out;clear HX2;generalize V.setCell ⟨B19,1,none⟩ (.slice p5 (IB.length+1) c5)=V at *;have kA:V.cell? ⟨B19,0,none⟩=some (.slice p4 (BA.length+nx) c4):=(zf HX.out.box 0).trans rfl;have kB:V.cell? ⟨B19,1,none⟩=some (.slice p5 (IB.length+1) c5):=(zf HX.out.box 1).trans rfl;have fA:V.frozen? ⟨B19,0,none⟩=false:=xf HX.out.box 0;have fB:V.frozen? ⟨B19,1,none⟩=false:=xf HX.out.box 1;refine hK.out _ _ ⟨(zf HX.out.x 0).trans rfl,(zf HX.out.x 1).trans rfl⟩ (λhHeld=>?_)
          clear hK K)
       all_goals (clear hHeld kA kB fA fB)
       all_goals
        go_wp2_with fail
        go_roundw
        case rel=>exact⟨t+1,_,_,by omega,by go_num,(show RI _ _ _ _ _ _ _ from RI.next (c:=(x1,.slice px nx cx,xb)) (by rw[HBA.out,HIB.out];exact HX.out) HCT.out)⟩
        case measure=>simp[intOf];omega
      ·obtain rfl:t=m:=by omega
       have hcl:r.cells.length≤t:=by rw[HRWW.out.cells,List.length_map,HRWW.out.len,HM2.out];exact Nat.le_refl _
       have hwb:=HWB.out K r HR.out hwh;obtain⟨⟨pA,cA,hvA⟩,⟨pB,cB,hvB⟩⟩:=HRI.out.form;subst hvA hvB;obtain⟨hr1,hr2⟩:=HRI.out.done (ownA:=ownA) (rb:=rb) hcl;have hz3:=HRI.out.gr.size;have hSA5:=HSA3.out.more HRI.out.gr (rb':=λk=>rb k∨(W3.heap.size≤k∧k<wr.heap.size)) (λk hk=>Or.inl hk) (λk hk=>hk.imp id λe=>e.1) (λk hk=>by
        rcases hk with e|e
        ·have:=HSA3.out.rb_lt e;omega
        ·exact e.2)
       have HKP:=zd (skeep hSA5 K.k (v:=(.slice pA ((r.cells.take t).flatMap (·.2)).length cA,.slice pB ((r.cells.take t).map (·.1)).length cB)) hr1 hr2 ⟨hwb.2.2.1,λi hi=>by rw[hSA5.ok.tl,HSD.out];exact hwb.2.2.2.1 i hi⟩ ⟨hwb.1,hwb.2.1⟩)
       have e4:wr.cell? ⟨L.b4,0,none⟩=some (.pointer (some ⟨L.st,0,none⟩)):=HRI.out.gr.cell ((zf HAF3.out.b4 0).trans rfl) (by simp)
       have e16:wr.cell? ⟨B16,0,none⟩=some (.int .i64 K.k):=HRI.out.gr.cell HZ16.out (by simp)
       have e190:=(zf HRI.out.box 0).trans rfl;have e191:=(zf HRI.out.box 1).trans rfl;have HRB:Hid (wr.heap[B19]? = some (.cells #[.slice pA ((r.cells.take t).flatMap (·.2)).length cA,.slice pB ((r.cells.take t).map (·.1)).length cB] 158 (0,0))):=(show _=_ from HRI.out.box)
       have w190:wr.cell? ⟨B19,0,none⟩=some (.slice pA ((r.cells.take t).flatMap (·.2)).length cA):=(zf HRB.out 0).trans rfl
       have w191:wr.cell? ⟨B19,1,none⟩=some (.slice pB ((r.cells.take t).map (·.1)).length cB):=(zf HRB.out 1).trans rfl
       clear hr1 hr2 hSA5 hwb e190 e191 hz3;generalize ((r.cells.take t).flatMap (·.2)).length=nA at *
       generalize ((r.cells.take t).map (·.1)).length=nB at *
       unfold Vv at HKP
       go_wp2_with (go_at_call 94;refine HKP.out.mono ?_;rintro e w5 ⟨rfl,⟨rv',hS5⟩,ht5⟩;have HS5:=zd hS5;have HT5:=zd ht5;clear hS5 ht5)
       go_roundw
       case rel=>exact⟨j+1,by omega,by go_num,(show AF _ _ _ _ _ _ _ _ _ _ _ _ from (HAF3.out.grown HRI.out.gr).turned HT5.out),(show ∃_ _,_ from ⟨rv',_,by rw[HPT.out,ziu HR.out HIS.out hwh];exact HS5.out⟩)⟩
       case measure=>simp[intOf];omega
  ·obtain rfl:j=n:=by omega
   have hall:ks.take j=ks:=List.take_of_length_le (by rw[HQ.out];exact Nat.le_refl _)
   rw[hall] at HSA;have HSF:=zd HSA.out;rw[←HS0.out] at HSF;clear HSA hall;have y4:wr.cell? ⟨L.b4,0,none⟩=some (.pointer (some ⟨L.st,0,none⟩)):=(zf HAF.out.b4 0).trans rfl;have y2:wr.cell? ⟨L.b2,0,none⟩=some (.pointer none):=(zf HAF.out.b2 0).trans rfl;have y3:wr.cell? ⟨L.b3,0,none⟩=some (.int .i64 0):=(zf HAF.out.b3 0).trans rfl;have g2:=xf HAF.out.b2 0;have g3:=xf HAF.out.b3 0;have n23:=HAF.out.ne.1;have n32:=Ne.symm n23
   go_wp2_with fail
   show PP .ret _ _
   rw[←HPP.out]
   exact zos HAF.out HSF.out HOK.out HKO.out rfl rfl
end
end Go.Proofs.YtbcbhlfjgobejaaGreat
