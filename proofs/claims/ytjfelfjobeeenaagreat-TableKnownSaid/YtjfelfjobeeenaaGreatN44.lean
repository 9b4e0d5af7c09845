/- The document's Do at some kinds: the walks. Conditions: none, or as the theorems say. -/
import Derived.Test.YtjfelfjobeeenaaGreatN27
import Derived.Deep.DeepCutAuto
import Derived.Test.YtjfelfjobeeenaaGreatN31
import Derived.Deep.RegionHeld3
namespace Go.Proofs.YtjfelfjobeeenaaGreat
set_option maxHeartbeats 200000000
set_option linter.unusedVariables false
set_option linter.unusedSimpArgs false
open Go.RowKit Go.Sf Go.Shelf
section
variable {bs : Nat → Prop} {W : World} {rb : Nat} {R : yp}
set_option maxRecDepth 100000 in
theorem rdo_2A (h:RAt bs W rb R) (hbs:∀k,W.heap.size≤k→bs k) (ok:ROk R) (node zvw zvx zvy zvz code:Int) (key:ByteArray) (hn0:0≤node) (hn1:node<(R.zv0.length:Int)) (hA:zvx≤R.zv0.getD node.toNat 0):Calls Tryz.prog 60 #[.pointer (some ⟨rb,0,none⟩),zp ⟨2,node,zvw,zvx,zvy,zvz,key,code⟩] W fun e w'=>e = .returned (.tuple #[])∧RAt bs w' rb (rdo R ⟨2,node,zvw,zvx,zvy,zvz,key,code⟩)∧yc bs W w':=by
 obtain⟨a,rfl⟩:=Int.eq_ofNat_of_zero_le hn0;have hal:a<R.zv0.length:=by omega
 have hat:((a:Nat):Int).toNat=a:=rfl;rw[hat] at hA;clear hat;obtain⟨W2,hE⟩:∃W2,(W.alloc (.cells #[.int .u8 2,.int .i64 (a:Int),.int .i64 zvw,.int .i64 zvx,.int .i64 zvy,.int .i64 zvz,.string key,.int .i64 code] 29)).alloc (.cells #[.string key,.int .i64 zvz] 59)=W2:=⟨_,rfl⟩;obtain⟨HG2,HB0,HB1,HA0,HBS,HT0⟩:=qg h hbs _ _ W2 hE;have HE:=za hE;clear hE;have hrb0:rb<W.heap.size:=h.lt;have OK:=za ok;clear h hbs ok;simp only[zp]
 go_enter Tryz.func60,Tryz.ntmps60
 go_upto_region 6 with fail
 rw[HE.out];clear HE;obtain⟨⟨d0,d1,d2,d3,d4,d5,d6,d7⟩,j0,j1,hw0,hw1⟩:=xl HB0.out HB1.out HT0.out;obtain⟨gL,capL,c4,f0,y0,hcl,hcm⟩:=HA0.out.live hal;obtain⟨LV,hLV⟩:∃x,R.zv0.getD a 0=x:=⟨_,rfl⟩;rw[hLV] at f0;have c2:=HA0.out.c2;have hL:Hid (ui R (a:Int)=R.zv0.getD a 0):=(show _=_ from rfl)
 have hgL:gL<W2.heap.size:=yo f0;have hrbw:rb<W2.heap.size:=HA0.out.lt;have q1:decide (LV<zvx)=false:=by rw[←hLV];simpa using hA
 have HH:=za hA;clear hA hLV
 go_quiet (fail)
 go_upto_region 36 with fail
 have HA1:=za (show RAt (fence bs W W2) (W2.drewN nq) rb R from HA0.out.grown (zj _ _))
 have HT1:=za (show yc (fence bs W W2) W2 (W2.drewN nq) from xn (zj _ _))
 go_wp2_with (go_at_call 123;refine(qc HA1.out (HBS.out _ HT1.out.size) (by exact OK.out.nd) (by have:=OK.out.lh;omega) (by exact OK.out.ll)).mono ?_;rintro e wz ⟨rfl,hr,ht⟩;have HZ:=za (xj HG2.out hr (yj HT1.out ht));clear hr ht)
 first|go_end0|refine bodyPost_ret (results_none rfl _ _ _) rfl ?_
 refine⟨rfl,?_⟩;have hZ:=HZ.out;have e:rdo R ⟨2,(a:Int),zvw,zvx,zvy,zvz,key,code⟩=ve R:=by
  have h:¬(ui R (a:Int)<zvx∧zvx≤R.offers):=by rw[hL.out];have:=HH.out;omega
  unfold rdo;simp only[show ¬((2:Int)=1) by decide,if_false,if_true,if_neg h]
 rw[e]
 exact hZ
set_option maxRecDepth 100000 in
theorem rdo_2B (h:RAt bs W rb R) (hbs:∀k,W.heap.size≤k→bs k) (ok:ROk R) (node zvw zvx zvy zvz code:Int) (key:ByteArray) (hn0:0≤node) (hn1:node<(R.zv0.length:Int)) (hA:R.zv0.getD node.toNat 0<zvx) (hB:R.offers<zvx):Calls Tryz.prog 60 #[.pointer (some ⟨rb,0,none⟩),zp ⟨2,node,zvw,zvx,zvy,zvz,key,code⟩] W fun e w'=>e = .returned (.tuple #[])∧RAt bs w' rb (rdo R ⟨2,node,zvw,zvx,zvy,zvz,key,code⟩)∧yc bs W w':=by
 obtain⟨a,rfl⟩:=Int.eq_ofNat_of_zero_le hn0;have hal:a<R.zv0.length:=by omega
 have hat:((a:Nat):Int).toNat=a:=rfl;rw[hat] at hA;clear hat;obtain⟨W2,hE⟩:∃W2,(W.alloc (.cells #[.int .u8 2,.int .i64 (a:Int),.int .i64 zvw,.int .i64 zvx,.int .i64 zvy,.int .i64 zvz,.string key,.int .i64 code] 29)).alloc (.cells #[.string key,.int .i64 zvz] 59)=W2:=⟨_,rfl⟩;obtain⟨HG2,HB0,HB1,HA0,HBS,HT0⟩:=qg h hbs _ _ W2 hE;have HE:=za hE;clear hE;have hrb0:rb<W.heap.size:=h.lt;have OK:=za ok;clear h hbs ok;simp only[zp]
 go_enter Tryz.func60,Tryz.ntmps60
 go_upto_region 6 with fail
 rw[HE.out];clear HE;obtain⟨⟨d0,d1,d2,d3,d4,d5,d6,d7⟩,j0,j1,hw0,hw1⟩:=xl HB0.out HB1.out HT0.out;obtain⟨gL,capL,c4,f0,y0,hcl,hcm⟩:=HA0.out.live hal;obtain⟨LV,hLV⟩:∃x,R.zv0.getD a 0=x:=⟨_,rfl⟩;rw[hLV] at f0;have c2:=HA0.out.c2;have hL:Hid (ui R (a:Int)=R.zv0.getD a 0):=(show _=_ from rfl)
 have hgL:gL<W2.heap.size:=yo f0;have hrbw:rb<W2.heap.size:=HA0.out.lt;have q1:decide (LV<zvx)=true:=by rw[←hLV];simpa using hA
 have q2:decide (zvx≤R.offers)=false:=by simpa using hB
 have HH:=za hA;clear hA hLV;have HH2:=za hB;clear hB
 go_quiet (fail)
 go_upto_region 36 with fail
 have HA1:=za (show RAt (fence bs W W2) (W2.drewN nq) rb R from HA0.out.grown (zj _ _))
 have HT1:=za (show yc (fence bs W W2) W2 (W2.drewN nq) from xn (zj _ _))
 go_wp2_with (go_at_call 123;refine(qc HA1.out (HBS.out _ HT1.out.size) (by exact OK.out.nd) (by have:=OK.out.lh;omega) (by exact OK.out.ll)).mono ?_;rintro e wz ⟨rfl,hr,ht⟩;have HZ:=za (xj HG2.out hr (yj HT1.out ht));clear hr ht)
 first|go_end0|refine bodyPost_ret (results_none rfl _ _ _) rfl ?_
 refine⟨rfl,?_⟩;have hZ:=HZ.out;have e:rdo R ⟨2,(a:Int),zvw,zvx,zvy,zvz,key,code⟩=ve R:=by
  have h:¬(ui R (a:Int)<zvx∧zvx≤R.offers):=by rw[hL.out];have:=HH2.out;omega
  unfold rdo;simp only[show ¬((2:Int)=1) by decide,if_false,if_true,if_neg h]
 rw[e]
 exact hZ
set_option maxRecDepth 100000 in
theorem rdo_2C (h:RAt bs W rb R) (hbs:∀k,W.heap.size≤k→bs k) (ok:ROk R) (node zvw zvx zvy zvz code:Int) (key:ByteArray) (hn0:0≤node) (hn1:node<(R.zv0.length:Int)) (hA:R.zv0.getD node.toNat 0<zvx) (hB:zvx≤R.offers):Calls Tryz.prog 60 #[.pointer (some ⟨rb,0,none⟩),zp ⟨2,node,zvw,zvx,zvy,zvz,key,code⟩] W fun e w'=>e = .returned (.tuple #[])∧RAt bs w' rb (rdo R ⟨2,node,zvw,zvx,zvy,zvz,key,code⟩)∧yc bs W w':=by
 obtain⟨a,rfl⟩:=Int.eq_ofNat_of_zero_le hn0;have hal:a<R.zv0.length:=by omega
 have hat:((a:Nat):Int).toNat=a:=rfl;rw[hat] at hA;clear hat;obtain⟨W2,hE⟩:∃W2,(W.alloc (.cells #[.int .u8 2,.int .i64 (a:Int),.int .i64 zvw,.int .i64 zvx,.int .i64 zvy,.int .i64 zvz,.string key,.int .i64 code] 29)).alloc (.cells #[.string key,.int .i64 zvz] 59)=W2:=⟨_,rfl⟩;obtain⟨HG2,HB0,HB1,HA0,HBS,HT0⟩:=qg h hbs _ _ W2 hE;have HE:=za hE;clear hE;have hrb0:rb<W.heap.size:=h.lt;have OK:=za ok;clear h hbs ok;simp only[zp]
 go_enter Tryz.func60,Tryz.ntmps60
 go_upto_region 6 with fail
 rw[HE.out];clear HE;obtain⟨⟨d0,d1,d2,d3,d4,d5,d6,d7⟩,j0,j1,hw0,hw1⟩:=xl HB0.out HB1.out HT0.out;obtain⟨gL,capL,c4,f0,y0,hcl,hcm⟩:=HA0.out.live hal;obtain⟨LV,hLV⟩:∃x,R.zv0.getD a 0=x:=⟨_,rfl⟩;rw[hLV] at f0;have c2:=HA0.out.c2;have hL:Hid (ui R (a:Int)=R.zv0.getD a 0):=(show _=_ from rfl)
 have hgL:gL<W2.heap.size:=yo f0;have hrbw:rb<W2.heap.size:=HA0.out.lt;have q1:decide (LV<zvx)=true:=by rw[←hLV];simpa using hA
 have q2:decide (zvx≤R.offers)=true:=by simpa using hB
 have HH:=za hA;clear hA hLV;have HH2:=za hB;clear hB
 go_quiet (fail)
 go_upto_region 7 with fail
 have HA1:=za (HA0.out.grown (zj W2 nq));have HT1:=za (show yc (fence bs W W2) W2 (W2.drewN nq) from xn (zj _ _))
 clear d0 d1 d2 d3 d4 d5 d6 d7 j0 j1 hw0 hw1;clear c4 f0 y0 c2 hcl hcm hgL;generalize W2.drewN nq=w3 at *;obtain⟨⟨d0,d1,d2,d3,d4,d5,d6,d7⟩,j0,j1,hw0,hw1⟩:=xl HB0.out HB1.out HT1.out;obtain⟨gL2,capL2,c4,f0,y0,hcl,hcm,hset⟩:=HA1.out.setLive hal;have HSET:=za hset;have hgL:gL2<w3.heap.size:=yo f0;clear hset
 go_still_tail 9,(by kernel_rfl)
 go_upto_region 36 with fail
 have hq:=HSET.out zvx;have HA2:Hid (RAt (fence bs W W2) (w3.drew.setCell ⟨gL2,a,none⟩ (.int .i64 zvx)) rb { R with zv0:=R.zv0.set a zvx }):=(show RAt (fence bs W W2) ((w3.setCell ⟨gL2,a,none⟩ (.int .i64 zvx)).drew) rb { R with zv0:=R.zv0.set a zvx } from hq.1.grown (zf (zd _)))
 have HT2:Hid (yc (fence bs W W2) W2 (w3.drew.setCell ⟨gL2,a,none⟩ (.int .i64 zvx))):=(show yc (fence bs W W2) W2 ((w3.setCell ⟨gL2,a,none⟩ (.int .i64 zvx)).drew) from yx (yj HT1.out hq.2) (zf (zd _)))
 clear hq
 go_wp2_with (go_at_call 123;refine(qc HA2.out (HBS.out _ HT2.out.size) (by have:=OK.out.nd;show ∀x∈R.holds,0≤x.node∧x.node<((R.zv0.set a zvx).length:Int);rw[List.length_set];exact this) (by have:=OK.out.lh;show R.holds.length≤_;omega) (by show(R.zv0.set a zvx).length≤_;rw[List.length_set];exact OK.out.ll)).mono ?_;rintro e wz ⟨rfl,hr,ht⟩;have HZ:=za (xj HG2.out hr (yj HT2.out ht));clear hr ht)
 first|go_end0|refine bodyPost_ret (results_none rfl _ _ _) rfl ?_
 refine⟨rfl,?_⟩;have hZ:=HZ.out;have e:rdo R ⟨2,(a:Int),zvw,zvx,zvy,zvz,key,code⟩=ve { R with zv0:=R.zv0.set a zvx }:=by
  have h:ui R (a:Int)<zvx∧zvx≤R.offers:=by rw[hL.out];exact⟨HH.out,HH2.out⟩
  unfold rdo;simp only[show ¬((2:Int)=1) by decide,if_false,if_true,if_pos h]
  rfl
 rw[e]
 exact hZ
end
section
variable {bs : Nat → Prop} {W : World} {rb : Nat} {R : yp}
set_option maxRecDepth 100000 in
theorem rdo_3n (h:RAt bs W rb R) (hbs:∀k,W.heap.size≤k→bs k) (ok:ROk R) (node zvw zvx zvy zvz code:Int) (key:ByteArray) (hn0:0≤node) (hn1:node<(R.zv0.length:Int)) (hB:vq R ⟨3,node,zvw,zvx,zvy,zvz,key,code⟩=false):Calls Tryz.prog 60 #[.pointer (some ⟨rb,0,none⟩),zp ⟨3,node,zvw,zvx,zvy,zvz,key,code⟩] W fun e w'=>e = .returned (.tuple #[])∧RAt bs w' rb (rdo R ⟨3,node,zvw,zvx,zvy,zvz,key,code⟩)∧yc bs W w':=by
 obtain⟨a,rfl⟩:=Int.eq_ofNat_of_zero_le hn0;have hal:a<R.zv0.length:=by omega
 obtain⟨W2,hE⟩:∃W2,(W.alloc (.cells #[.int .u8 3,.int .i64 (a:Int),.int .i64 zvw,.int .i64 zvx,.int .i64 zvy,.int .i64 zvz,.string key,.int .i64 code] 29)).alloc (.cells #[.string key,.int .i64 zvz] 59)=W2:=⟨_,rfl⟩;obtain⟨HG2,HB0,HB1,HA0,HBS,HT0⟩:=qg h hbs _ _ W2 hE;have HE:=za hE;clear hE;have hrb0:rb<W.heap.size:=h.lt;have OK:=za ok;clear h hbs ok;simp only[zp]
 go_enter Tryz.func60,Tryz.ntmps60
 go_upto_region 9 with fail
 rw[HE.out];clear HE;obtain⟨⟨d0,d1,d2,d3,d4,d5,d6,d7⟩,j0,j1,hw0,hw1⟩:=xl HB0.out HB1.out HT0.out;have HBG:=za (Xf HA0.out (HBS.out _ (Nat.le_refl _)) ⟨3,(a:Int),zvw,zvx,zvy,zvz,key,code⟩ (by have:=OK.out.lp;omega))
 simp only[zp] at HBG;rw[hB] at HBG;have HTT:=za (show qf R ⟨3,(a:Int),zvw,zvx,zvy,zvz,key,code⟩=R from by unfold qf;rw[hB];rfl)
 have HBB:=za hB;have x0:=OK.out.x0;have x1:=OK.out.x1;clear hB
 go_upto_region 36 with (go_at_call 113;refine HBG.out.mono ?_;rintro e w1 ⟨rfl,hr,ht⟩;rw[HTT.out] at hr;clear d0 d1 d2 d3 d4 d5 d6 d7 j0 j1 hw0 hw1;have HA1:=za hr;have HT1:=za ht;clear hr ht;obtain⟨⟨d0,d1,d2,d3,d4,d5,d6,d7⟩,j0,j1,hw0,hw1⟩:=xl HB0.out HB1.out HT1.out)
 go_wp2_with (go_at_call 123;refine(qc HA1.out (HBS.out _ HT1.out.size) (by exact OK.out.nd) (by have:=OK.out.lh;omega) (by exact OK.out.ll)).mono ?_;rintro e wz ⟨rfl,hr,ht⟩;have HZ:=za (xj HG2.out hr (yj HT1.out ht));clear hr ht)
 first|go_end0|refine bodyPost_ret (results_none rfl _ _ _) rfl ?_
 refine⟨rfl,?_⟩;have hZ:=HZ.out;have e:rdo R ⟨3,(a:Int),zvw,zvx,zvy,zvz,key,code⟩=ve R:=by unfold rdo;simp[HBB.out]
 rw[e]
 exact hZ
set_option maxRecDepth 100000 in
theorem rdo_6n (h:RAt bs W rb R) (hbs:∀k,W.heap.size≤k→bs k) (ok:ROk R) (node zvw zvx zvy zvz code:Int) (key:ByteArray) (hn0:0≤node) (hn1:node<(R.zv0.length:Int)) (hB:vq R ⟨6,node,zvw,zvx,zvy,zvz,key,code⟩=false):Calls Tryz.prog 60 #[.pointer (some ⟨rb,0,none⟩),zp ⟨6,node,zvw,zvx,zvy,zvz,key,code⟩] W fun e w'=>e = .returned (.tuple #[])∧RAt bs w' rb (rdo R ⟨6,node,zvw,zvx,zvy,zvz,key,code⟩)∧yc bs W w':=by
 obtain⟨a,rfl⟩:=Int.eq_ofNat_of_zero_le hn0;have hal:a<R.zv0.length:=by omega
 obtain⟨W2,hE⟩:∃W2,(W.alloc (.cells #[.int .u8 6,.int .i64 (a:Int),.int .i64 zvw,.int .i64 zvx,.int .i64 zvy,.int .i64 zvz,.string key,.int .i64 code] 29)).alloc (.cells #[.string key,.int .i64 zvz] 59)=W2:=⟨_,rfl⟩;obtain⟨HG2,HB0,HB1,HA0,HBS,HT0⟩:=qg h hbs _ _ W2 hE;have HE:=za hE;clear hE;have hrb0:rb<W.heap.size:=h.lt;have OK:=za ok;clear h hbs ok;simp only[zp]
 go_enter Tryz.func60,Tryz.ntmps60
 go_upto_region 29 with fail
 rw[HE.out];clear HE;obtain⟨⟨d0,d1,d2,d3,d4,d5,d6,d7⟩,j0,j1,hw0,hw1⟩:=xl HB0.out HB1.out HT0.out;have HBG:=za (Xf HA0.out (HBS.out _ (Nat.le_refl _)) ⟨6,(a:Int),zvw,zvx,zvy,zvz,key,code⟩ (by have:=OK.out.lp;omega))
 simp only[zp] at HBG;rw[hB] at HBG;have HTT:=za (show qf R ⟨6,(a:Int),zvw,zvx,zvy,zvz,key,code⟩=R from by unfold qf;rw[hB];rfl)
 have HBB:=za hB;have x0:=OK.out.x0;have x1:=OK.out.x1;clear hB
 go_upto_region 36 with (go_at_call 113;refine HBG.out.mono ?_;rintro e w1 ⟨rfl,hr,ht⟩;rw[HTT.out] at hr;clear d0 d1 d2 d3 d4 d5 d6 d7 j0 j1 hw0 hw1;have HA1:=za hr;have HT1:=za ht;clear hr ht;obtain⟨⟨d0,d1,d2,d3,d4,d5,d6,d7⟩,j0,j1,hw0,hw1⟩:=xl HB0.out HB1.out HT1.out)
 go_wp2_with (go_at_call 123;refine(qc HA1.out (HBS.out _ HT1.out.size) (by exact OK.out.nd) (by have:=OK.out.lh;omega) (by exact OK.out.ll)).mono ?_;rintro e wz ⟨rfl,hr,ht⟩;have HZ:=za (xj HG2.out hr (yj HT1.out ht));clear hr ht)
 first|go_end0|refine bodyPost_ret (results_none rfl _ _ _) rfl ?_
 refine⟨rfl,?_⟩;have hZ:=HZ.out;have e:rdo R ⟨6,(a:Int),zvw,zvx,zvy,zvz,key,code⟩=ve R:=by unfold rdo;simp[HBB.out]
 rw[e]
 exact hZ
end
theorem Jd {w:World} {b:Nat} {a0 a1 a2 a3 a4 a5 a6 a7:Value} {t:TypeId} (h:w.heap[b]? = some (.cells #[a0,a1,a2,a3,a4,a5,a6,a7] t (0,0))):w.cell? ⟨b,2,none⟩=some a2:=(zh h 2).trans rfl
theorem Je {w:World} {b:Nat} {a0 a1 a2 a3 a4 a5 a6 a7:Value} {t:TypeId} (h:w.heap[b]? = some (.cells #[a0,a1,a2,a3,a4,a5,a6,a7] t (0,0))):w.cell? ⟨b,4,none⟩=some a4:=(zh h 4).trans rfl
theorem Jf {w:World} {b:Nat} {a0 a1 a2 a3 a4 a5 a6 a7:Value} {t:TypeId} (h:w.heap[b]? = some (.cells #[a0,a1,a2,a3,a4,a5,a6,a7] t (0,0))):w.cell? ⟨b,6,none⟩=some a6:=(zh h 6).trans rfl
theorem zfb {w w':World} {b:Nat} {o:Obj} {c:Addr} {v:Value} (hg:w.grownBy w' none) (h:w.heap[b]? = some o∧w.cell? c=some v):w'.heap[b]? = some o∧w'.cell? c=some v:=
 ⟨(hg.block b (Array.getElem?_eq_some_iff.1 h.1).1 (by simp)).trans h.1,hg.cell h.2 (by simp)⟩
theorem zbs {wx w2:World} {rb:Nat} {R:yp} {vL vC vV vP vH v':Value} {l:List (ID × xd)} (hm:vw wx rb R vL vC vV vP vH) (ha:Uc wx 190 4 zad vP l v' w2) {b:Nat} {c:Array Value} {T:TypeId} {fr:Nat × Nat} (hb:wx.heap[b]? = some (.cells c T fr)) (hne:190≠T):w2.heap[b]? = some (.cells c T fr):=
 (ha.2.1.block b (Array.getElem?_eq_some_iff.1 hb).1 (fun e=>xe hm.zv1 hb hne e.symm)).trans hb
section
variable {bs : Nat → Prop} {W : World} {rb : Nat} {R : yp}
set_option maxRecDepth 100000 in
theorem rdo_3y (h:RAt bs W rb R) (hbs:∀k,W.heap.size≤k→bs k) (ok:ROk R) (node zvw zvx zvy zvz code:Int) (key:ByteArray) (hn0:0≤node) (hn1:node<(R.zv0.length:Int)) (hB:vq R ⟨3,node,zvw,zvx,zvy,zvz,key,code⟩=true):Calls Tryz.prog 60 #[.pointer (some ⟨rb,0,none⟩),zp ⟨3,node,zvw,zvx,zvy,zvz,key,code⟩] W fun e w'=>e = .returned (.tuple #[])∧RAt bs w' rb (rdo R ⟨3,node,zvw,zvx,zvy,zvz,key,code⟩)∧yc bs W w':=by
 obtain⟨a,rfl⟩:=Int.eq_ofNat_of_zero_le hn0;have hal:a<R.zv0.length:=by omega
 obtain⟨W2,hE⟩:∃W2,(W.alloc (.cells #[.int .u8 3,.int .i64 (a:Int),.int .i64 zvw,.int .i64 zvx,.int .i64 zvy,.int .i64 zvz,.string key,.int .i64 code] 29)).alloc (.cells #[.string key,.int .i64 zvz] 59)=W2:=⟨_,rfl⟩;obtain⟨HG2,HB0,HB1,HA0,HBS,HT0⟩:=qg h hbs _ _ W2 hE;have HE:=za hE;clear hE;have hrb0:rb<W.heap.size:=h.lt;have OK:=za ok;clear h hbs ok;simp only[zp]
 go_enter Tryz.func60,Tryz.ntmps60
 go_upto_region 9 with fail
 rw[HE.out];clear HE;obtain⟨⟨d0,d1,d2,d3,d4,d5,d6,d7⟩,j0,j1,hw0,hw1⟩:=xl HB0.out HB1.out HT0.out;have HBG:=za (Xf HA0.out (HBS.out _ (Nat.le_refl _)) ⟨3,(a:Int),zvw,zvx,zvy,zvz,key,code⟩ (by have:=OK.out.lp;omega))
 simp only[zp] at HBG;rw[hB] at HBG;have HTT:=za (show qf R ⟨3,(a:Int),zvw,zvx,zvy,zvz,key,code⟩=xp R ⟨3,(a:Int),zvw,zvx,zvy,zvz,key,code⟩ from by unfold qf;rw[hB];rfl)
 have HBB:=za hB;have x0:=OK.out.x0;have x1:=OK.out.x1;clear hB
 go_upto_region 10 with (go_at_call 113;refine HBG.out.mono ?_;rintro e w1 ⟨rfl,hr,ht⟩;rw[HTT.out] at hr;clear d0 d1 d2 d3 d4 d5 d6 d7 j0 j1 hw0 hw1;have HA1:=za hr;have HT1:=za ht;clear hr ht;obtain⟨⟨d0,d1,d2,d3,d4,d5,d6,d7⟩,j0,j1,hw0,hw1⟩:=xl HB0.out HB1.out HT1.out)
 have c3:=HA1.out.c3;obtain⟨vL,vC,vV,vP,vH,hm,g0,g1,g2,g3,g4,g5⟩:=HA1.out;obtain⟨p,cap,rfl,hcap,hlc⟩:=hm.zv1.form;have HAM:=za (show jy (fence bs W W2) w1 rb vL vC vV (.slice p (xp R ⟨3,(a:Int),zvw,zvx,zvy,zvz,key,code⟩).zv1.length cap) vH from ⟨g0,g1,g2,g3,g4,g5,HBS.out _ HT1.out.size⟩)
 have HM:=za hm;have c7:=hm.c7;have z7:=hm.free 7;have hrb:=hm.lt;have hpl:(xp R ⟨3,(a:Int),zvw,zvx,zvy,zvz,key,code⟩).zv1.length≤10000000:=Nat.le_trans (show(xp R ⟨3,(a:Int),zvw,zvx,zvy,zvz,key,code⟩).zv1.length≤R.zv1.length from List.eraseP_sublist.length_le) OK.out.lp
 have hnx:(xp R ⟨3,(a:Int),zvw,zvx,zvy,zvz,key,code⟩).next=R.next:=rfl;rw[hnx] at c3;obtain⟨i0,hi,hz0,hz1,hz2⟩:=info_parts infoP;clear hm g0 g1 g2 g3 g4 g5 hnx
 go_cut [] (fun wx=>RAt (fence bs W W2) wx rb { xp R ⟨3,(a:Int),zvw,zvx,zvy,zvz,key,code⟩ with zv1:=(xp R ⟨3,(a:Int),zvw,zvx,zvy,zvz,key,code⟩).zv1 ++ [(⟨key,R.next⟩,⟨zvw,zvy⟩)] }∧yc (fence bs W W2) W2 wx)
 case first=>
  have hS0:(fun w':World=>w'.heap[W.heap.size]? = some (.cells #[.int .u8 3,.int .i64 (a:Int),.int .i64 zvw,.int .i64 zvx,.int .i64 zvy,.int .i64 zvz,.string key,.int .i64 code] 29 (0,0))∧w'.cell? ⟨rb,3,none⟩=some (.int .i64 R.next)) w1:=⟨Ut HT1.out HB0.out (Nat.le_refl _),c3⟩
  dsimp only at hS0;refine wp_region_held_drew (S:=fun w':World=>w'.heap[W.heap.size]? = some (.cells #[.int .u8 3,.int .i64 (a:Int),.int .i64 zvw,.int .i64 zvx,.int .i64 zvy,.int .i64 zvz,.string key,.int .i64 code] 29 (0,0))∧w'.cell? ⟨rb,3,none⟩=some (.int .i64 R.next)) (by kernel_rfl) ⟨hS0.1,hS0.2⟩ (fun hHeld=>?_)
  refine tg 0 ?_ hHeld ?_ ?_ rfl (by kernel_rfl) rfl fun _ _ _ h=>h
  rotate_left
  ·rintro w ⟨s1,s2⟩;have d2:=Jd s1;have d4:=Je s1;have d6:=Jf s1;clear s1;go_simp;try with_reducible rfl
  (try simp only[Act.put,pA,pB,pC])
  refine tg 1 ?_ hHeld ?_ ?_ rfl (by kernel_rfl) rfl fun _ _ _ h=>h
  rotate_left
  ·rintro w ⟨s1,s2⟩;have d2:=Jd s1;have d4:=Je s1;have d6:=Jf s1;clear s1;go_simp;try with_reducible rfl
  (try simp only[Act.put,pA,pB,pC])
  refine tg 2 ?_ hHeld ?_ ?_ rfl (by kernel_rfl) rfl fun _ _ _ h=>h
  rotate_left
  ·rintro w ⟨s1,s2⟩;have d2:=Jd s1;have d4:=Je s1;have d6:=Jf s1;clear s1;go_simp;try with_reducible rfl
  (try simp only[Act.put,pA,pB,pC])
  refine tg 3 ?_ hHeld ?_ ?_ rfl (by kernel_rfl) rfl fun _ _ _ h=>h
  rotate_left
  ·rintro w ⟨s1,s2⟩;have d2:=Jd s1;have d4:=Je s1;have d6:=Jf s1;clear s1;go_simp;try with_reducible rfl
  (try simp only[Act.put,pA,pB,pC])
  refine tg 5 ?_ hHeld ?_ ?_ rfl (by kernel_rfl) rfl fun _ _ _ h=>h
  rotate_left
  ·rintro w ⟨s1,s2⟩;have d2:=Jd s1;have d4:=Je s1;have d6:=Jf s1;clear s1;go_simp;try with_reducible rfl
  (try simp only[Act.put,pA,pB,pC])
  refine tg 6 ?_ hHeld ?_ ?_ rfl (by kernel_rfl) rfl fun _ _ _ h=>h
  rotate_left
  ·rintro w ⟨s1,s2⟩;have d2:=Jd s1;have d4:=Je s1;have d6:=Jf s1;clear s1;go_simp;try with_reducible rfl
  (try simp only[Act.put,pA,pB,pC])
  refine tg 7 ?_ hHeld ?_ ?_ rfl (by kernel_rfl) rfl fun _ _ _ h=>h
  rotate_left
  ·rintro w ⟨s1,s2⟩;have d2:=Jd s1;have d4:=Je s1;have d6:=Jf s1;clear s1;go_simp;try with_reducible rfl
  (try simp only[Act.put,pA,pB,pC])
  refine tg 8 ?_ hHeld ?_ ?_ rfl (by kernel_rfl) rfl fun _ _ _ h=>h
  rotate_left
  ·rintro w ⟨s1,s2⟩;have d2:=Jd s1;have d4:=Je s1;have d6:=Jf s1;clear s1;go_simp;try with_reducible rfl
  (try simp only[Act.put,pA,pB,pC])
  refine tg 9 ?_ hHeld ?_ ?_ rfl (by kernel_rfl) rfl fun _ _ _ h=>h
  rotate_left
  ·rintro w ⟨s1,s2⟩;have d2:=Jd s1;have d4:=Je s1;have d6:=Jf s1;clear s1;go_simp;try with_reducible rfl
  (try simp only[Act.put,pA,pB,pC])
  refine tg 10 ?_ hHeld ?_ ?_ rfl (by kernel_rfl) rfl fun _ _ _ h=>h
  rotate_left
  ·rintro w ⟨s1,s2⟩;have d2:=Jd s1;have d4:=Je s1;have d6:=Jf s1;clear s1;go_simp;try with_reducible rfl
  (try simp only[Act.put,pA,pB,pC])
  refine tg 11 ?_ hHeld ?_ ?_ rfl (by kernel_rfl) rfl fun _ _ _ h=>h
  rotate_left
  ·rintro w ⟨s1,s2⟩;have d2:=Jd s1;have d4:=Je s1;have d6:=Jf s1;clear s1;go_simp;try with_reducible rfl
  (try simp only[Act.put,pA,pB,pC])
  refine tg 12 ?_ hHeld ?_ ?_ rfl (by kernel_rfl) rfl fun _ _ _ h=>h
  rotate_left
  ·rintro w ⟨s1,s2⟩;have d2:=Jd s1;have d4:=Je s1;have d6:=Jf s1;clear s1;go_simp;try with_reducible rfl
  (try simp only[Act.put,pA,pB,pC])
  refine tg 13 ?_ hHeld ?_ ?_ rfl (by kernel_rfl) rfl fun _ _ _ h=>h
  rotate_left
  ·rintro w ⟨s1,s2⟩;have d2:=Jd s1;have d4:=Je s1;have d6:=Jf s1;clear s1;go_simp;try with_reducible rfl
  (try simp only[Act.put,pA,pB,pC])
  refine tg 14 ?_ hHeld ?_ ?_ rfl (by kernel_rfl) rfl fun _ _ _ h=>h
  rotate_left
  ·rintro w ⟨s1,s2⟩;have d2:=Jd s1;have d4:=Je s1;have d6:=Jf s1;clear s1;go_simp;try with_reducible rfl
  (try simp only[Act.put,pA,pB,pC])
  refine tg 15 ?_ hHeld ?_ ?_ rfl (by kernel_rfl) rfl fun _ _ _ h=>h
  rotate_left
  ·rintro w ⟨s1,s2⟩;have d2:=Jd s1;have d4:=Je s1;have d6:=Jf s1;clear s1;go_simp;try with_reducible rfl
  (try simp only[Act.put,pA,pB,pC])
  refine tg 16 ?_ hHeld ?_ ?_ rfl (by kernel_rfl) rfl fun _ _ _ h=>h
  rotate_left
  ·rintro w ⟨s1,s2⟩;have d2:=Jd s1;have d4:=Je s1;have d6:=Jf s1;clear s1;go_simp;try with_reducible rfl
  (try simp only[Act.put,pA,pB,pC])
  refine wpAnyH_ready (rs:=[4,17]) (by kernel_rfl) (by simp) ?_
  refine AllReadyH.cons (o := { dst := some 65, op := Op.load 49 (Operand.tmp 64), type := 49, pos := "ref.go:257", after := #[{ on := 3, ground := Ground.data }], guard := none }) rfl (fun K hK => ?_) (AllReadyH.cons (o := { dst := some 78, op := Op.buildSlice 49 1 #[(0, Operand.tmp 77)], type := 49, pos := "ref.go:257", after := #[{ on := 16, ground := Ground.data }], guard := none }) rfl (fun K hK => ?_) AllReadyH.nil)
  ·go_simp
   refine hK.out _ _ (zfb ((by repeat (first|exact zd _|exact zj _ _|refine zg ?_ _|refine zf ?_))) hS0) (fun hHeld=>?_)
   clear hK K
   (try simp only[Act.put,pA,pB,pC])
   refine rdy 17 (fun K hK=>?_) rfl (by kernel_rfl)
   go_simp
   refine hK.out _ _ (zfb ((by repeat (first|exact zd _|exact zj _ _|refine zg ?_ _|refine zf ?_))) hS0) (fun hHeld=>?_)
   clear hK K
   (try simp only[Act.put,pA,pB,pC])
   refine rdy 18 (fun K hK=>?_) rfl (by kernel_rfl)
   refine Jw rfl _ _ 49 rfl zeh oneP i0 _ 40 Tryz.underlying49 hi hz0 hz1 hz2 rfl (by decide) (by decide) (l:=(xp R ⟨3,(a:Int),zvw,zvx,zvy,zvz,key,code⟩).zv1) (m:=[((⟨key,R.next⟩:ID),(⟨zvw,zvy⟩:xd))]) rfl ((HM.out.grown (by repeat (first|exact zd _|exact zj _ _|refine zg ?_ _|refine zf ?_))).zv1) rfl (Zw ((⟨key,R.next⟩:ID),(⟨zvw,zvy⟩:xd)) (heap_alloc_new _ _)) (by simp;omega) _ rfl ?_
   intro p' cap' w2 ha;have hS2:=zfb ((by repeat (first|exact zd _|exact zj _ _|refine zg ?_ _|refine zf ?_))) hS0
   obtain⟨f7,y7⟩:=vw.boxP (HM.out.grown (by repeat (first|exact zd _|exact zj _ _|refine zg ?_ _|refine zf ?_))) ha
   have hb3:=zbs (HM.out.grown (by repeat (first|exact zd _|exact zj _ _|refine zg ?_ _|refine zf ?_))) ha (HM.out.grown (by repeat (first|exact zd _|exact zj _ _|refine zg ?_ _|refine zf ?_))).box (by decide)
   have hS3:=And.intro (zbs (HM.out.grown (by repeat (first|exact zd _|exact zj _ _|refine zg ?_ _|refine zf ?_))) ha (zfb (by repeat (first|exact zd _|exact zj _ _|refine zg ?_ _|refine zf ?_)) hS0).1 (by decide)) ((zh hb3 3).trans rfl)
   have HAP:=za ha;clear ha;refine hK.out _ _ ⟨hS3.1,hS3.2⟩ (fun hHeld=>?_)
   clear hK K
   (try simp only[Act.put,pA,pB,pC])
   refine tg 19 ?_ hHeld ?_ ?_ rfl (by kernel_rfl) rfl fun _ _ _ h=>h
   rotate_left
   ·rintro w ⟨s1,s2⟩;have d2:=Jd s1;have d4:=Je s1;have d6:=Jf s1;clear s1;go_simp;try with_reducible rfl
   (try simp only[Act.put,pA,pB,pC])
   refine tg 20 ?_ hHeld ?_ ?_ rfl (by kernel_rfl) rfl fun _ _ _ h=>h
   rotate_left
   ·rintro w ⟨s1,s2⟩;have d2:=Jd s1;have d4:=Je s1;have d6:=Jf s1;clear s1;go_simp;try with_reducible rfl
   (try simp only[Act.put,pA,pB,pC])
   refine rdy 21 (fun K hK=>?_) rfl (by kernel_rfl)
   go_simp
   refine hK.out _ _ ⟨(zz _ _ _ _ (show W.heap.size≠rb by omega)).trans hS3.1,(zh (qm hb3 _) 3).trans rfl⟩ (fun hHeld=>?_)
   clear hK K
   (try simp only[Act.put,pA,pB,pC])
   refine wpAnyH_done (by kernel_rfl) ?_ _
   go_wp2_with fail
   go_meet
   have hq:=RAt.appP (by repeat (first|exact zd _|exact zj _ _|refine zg ?_ _|refine zf ?_)) HAM.out (HM.out.grown (by repeat (first|exact zd _|exact zj _ _|refine zg ?_ _|refine zf ?_))) HAP.out
   exact⟨hq.1,yj HT1.out hq.2⟩
  ·go_simp
   refine hK.out _ _ (zfb ((by repeat (first|exact zd _|exact zj _ _|refine zg ?_ _|refine zf ?_))) hS0) (fun hHeld=>?_)
   clear hK K
   (try simp only[Act.put,pA,pB,pC])
   refine rdy 4 (fun K hK=>?_) rfl (by kernel_rfl)
   go_simp
   refine hK.out _ _ (zfb ((by repeat (first|exact zd _|exact zj _ _|refine zg ?_ _|refine zf ?_))) hS0) (fun hHeld=>?_)
   clear hK K
   (try simp only[Act.put,pA,pB,pC])
   refine rdy 18 (fun K hK=>?_) rfl (by kernel_rfl)
   refine Jw rfl _ _ 49 rfl zeh oneP i0 _ 40 Tryz.underlying49 hi hz0 hz1 hz2 rfl (by decide) (by decide) (l:=(xp R ⟨3,(a:Int),zvw,zvx,zvy,zvz,key,code⟩).zv1) (m:=[((⟨key,R.next⟩:ID),(⟨zvw,zvy⟩:xd))]) rfl ((HM.out.grown (by repeat (first|exact zd _|exact zj _ _|refine zg ?_ _|refine zf ?_))).zv1) rfl (Zw ((⟨key,R.next⟩:ID),(⟨zvw,zvy⟩:xd)) (heap_alloc_new _ _)) (by simp;omega) _ rfl ?_
   intro p' cap' w2 ha;have hS2:=zfb ((by repeat (first|exact zd _|exact zj _ _|refine zg ?_ _|refine zf ?_))) hS0
   obtain⟨f7,y7⟩:=vw.boxP (HM.out.grown (by repeat (first|exact zd _|exact zj _ _|refine zg ?_ _|refine zf ?_))) ha
   have hb3:=zbs (HM.out.grown (by repeat (first|exact zd _|exact zj _ _|refine zg ?_ _|refine zf ?_))) ha (HM.out.grown (by repeat (first|exact zd _|exact zj _ _|refine zg ?_ _|refine zf ?_))).box (by decide)
   have hS3:=And.intro (zbs (HM.out.grown (by repeat (first|exact zd _|exact zj _ _|refine zg ?_ _|refine zf ?_))) ha (zfb (by repeat (first|exact zd _|exact zj _ _|refine zg ?_ _|refine zf ?_)) hS0).1 (by decide)) ((zh hb3 3).trans rfl)
   have HAP:=za ha;clear ha;refine hK.out _ _ ⟨hS3.1,hS3.2⟩ (fun hHeld=>?_)
   clear hK K
   (try simp only[Act.put,pA,pB,pC])
   refine tg 19 ?_ hHeld ?_ ?_ rfl (by kernel_rfl) rfl fun _ _ _ h=>h
   rotate_left
   ·rintro w ⟨s1,s2⟩;have d2:=Jd s1;have d4:=Je s1;have d6:=Jf s1;clear s1;go_simp;try with_reducible rfl
   (try simp only[Act.put,pA,pB,pC])
   refine tg 20 ?_ hHeld ?_ ?_ rfl (by kernel_rfl) rfl fun _ _ _ h=>h
   rotate_left
   ·rintro w ⟨s1,s2⟩;have d2:=Jd s1;have d4:=Je s1;have d6:=Jf s1;clear s1;go_simp;try with_reducible rfl
   (try simp only[Act.put,pA,pB,pC])
   refine rdy 21 (fun K hK=>?_) rfl (by kernel_rfl)
   go_simp
   refine hK.out _ _ ⟨(zz _ _ _ _ (show W.heap.size≠rb by omega)).trans hS3.1,(zh (qm hb3 _) 3).trans rfl⟩ (fun hHeld=>?_)
   clear hK K
   (try simp only[Act.put,pA,pB,pC])
   refine wpAnyH_done (by kernel_rfl) ?_ _
   go_wp2_with fail
   go_meet
   have hq:=RAt.appP (by repeat (first|exact zd _|exact zj _ _|refine zg ?_ _|refine zf ?_)) HAM.out (HM.out.grown (by repeat (first|exact zd _|exact zj _ _|refine zg ?_ _|refine zf ?_))) HAP.out
   exact⟨hq.1,yj HT1.out hq.2⟩
 case rest=>
  obtain⟨hr,ht⟩:=hcut;clear d0 d1 d2 d3 d4 d5 d6 d7 j0 j1 hw0 hw1;clear c3 c7 z7 hrb;have HA2:=za hr;have HT2:=za ht;clear hr ht;obtain⟨⟨d0,d1,d2,d3,d4,d5,d6,d7⟩,j0,j1,hw0,hw1⟩:=xl HB0.out HB1.out HT2.out;have c3:wc.cell? ⟨rb,3,none⟩=some (.int .i64 R.next):=HA2.out.c3;have hrb:=HA2.out.lt
  go_upto_region 11 with fail
  go_still_tail 10,(by kernel_rfl)
  go_upto_region 12 with (go_at_call 114;refine(zb8 (HA2.out.grown (zf (zd _))) (HBS.out _ (show W2.heap.size≤wc.heap.size from HT2.out.size)) zvw ⟨zvy,R.next,false,0⟩ (by have:=OK.out.lc;show R.calls.length≤_;omega)).mono ?_;rintro e w3 ⟨rfl,hr,ht⟩;clear d0 d1 d2 d3 d4 d5 d6 d7 j0 j1 hw0 hw1;clear c3 hrb;have HA3:=za hr;have HT3:=za (yj (yx HT2.out (zf (zd _))) ht);clear hr ht)
  have c3:w3.cell? ⟨rb,3,none⟩=some (.int .i64 R.next):=HA3.out.c3;have z3:=HA3.out.free 3
  go_upto_region 36 with fail
  obtain⟨hq1,hq2⟩:=HA3.out.setNext (R.next+1);have HA4:=za hq1;have HT4:=za (yj HT3.out hq2);clear hq1 hq2 c3 z3
  go_wp2_with (go_at_call 123;refine(qc HA4.out (HBS.out _ HT4.out.size) (by exact OK.out.nd) (by have:=OK.out.lh;show R.holds.length≤_;omega) (by exact OK.out.ll)).mono ?_;rintro e wz ⟨rfl,hr,ht⟩;have HZ:=za (xj HG2.out hr (yj HT4.out ht));clear hr ht)
  first|go_end0|refine bodyPost_ret (results_none rfl _ _ _) rfl ?_
  refine⟨rfl,?_⟩;have hZ:=HZ.out;have e:rdo R ⟨3,(a:Int),zvw,zvx,zvy,zvz,key,code⟩=ve { xp R ⟨3,(a:Int),zvw,zvx,zvy,zvz,key,code⟩ with zv1:=(xp R ⟨3,(a:Int),zvw,zvx,zvy,zvz,key,code⟩).zv1 ++ [(⟨key,R.next⟩,⟨zvw,zvy⟩)],calls:=ym R.calls zvw ⟨zvy,R.next,false,0⟩,next:=R.next+1 }:=by unfold rdo;simp[HBB.out]
  rw[e]
  exact hZ
end
end Go.Proofs.YtjfelfjobeeenaaGreat
