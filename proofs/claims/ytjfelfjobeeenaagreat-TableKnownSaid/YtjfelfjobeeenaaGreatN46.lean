/- The document's Do at some kinds: the walks. Conditions: none, or as the theorems say. -/
import Derived.Test.YtjfelfjobeeenaaGreatN27
import Derived.Deep.DeepCutAuto
namespace Go.Proofs.YtjfelfjobeeenaaGreat
set_option maxHeartbeats 200000000
set_option linter.unusedVariables false
set_option linter.unusedSimpArgs false
open Go.RowKit Go.Sf Go.Shelf
section
variable {bs : Nat → Prop} {W : World} {rb : Nat} {R : yp}
set_option maxRecDepth 100000 in
theorem rdo_4F (h:RAt bs W rb R) (hbs:∀k,W.heap.size≤k→bs k) (ok:ROk R) (node zvw zvx zvy zvz code:Int) (key:ByteArray) (hn0:0≤node) (hn1:node<(R.zv0.length:Int)) (hA:1≤zvx) (hB:R.zv0.getD node.toNat 0=zvx) (hC:rwanted R (⟨key,zvz⟩:ID)=true) (hD:0≤ug (yg R ⟨(⟨key,zvz⟩:ID),node,zvx,false⟩) (⟨key,zvz⟩:ID)) (hE:¬(us (yg R ⟨(⟨key,zvz⟩:ID),node,zvx,false⟩) (⟨key,zvz⟩:ID) false:Int)<R.W) (hF:(qo R key).zvz<zvz):Calls Tryz.prog 60 #[.pointer (some ⟨rb,0,none⟩),zp ⟨4,node,zvw,zvx,zvy,zvz,key,code⟩] W fun e w'=>e = .returned (.tuple #[])∧RAt bs w' rb (rdo R ⟨4,node,zvw,zvx,zvy,zvz,key,code⟩)∧yc bs W w':=by
 obtain⟨a,rfl⟩:=Int.eq_ofNat_of_zero_le hn0;have hal:a<R.zv0.length:=by omega
 have hat:((a:Nat):Int).toNat=a:=rfl;rw[hat] at hB;clear hat;have hnow:(js R (⟨4,(a:Int),zvw,zvx,zvy,zvz,key,code⟩:Cmd) && rwanted R ⟨key,zvz⟩)=true:=by have e:ui R (a:Int)=R.zv0.getD a 0:=rfl;simp only[js,e,decide_eq_true hA,decide_eq_true hB,hC,Bool.and_self]
 obtain⟨kk,hkk,hkl,hmg,hpi,her⟩:=Qb _ _ hD;have HE:=za (show rdo R (⟨4,(a:Int),zvw,zvx,zvy,zvz,key,code⟩:Cmd)=ve (qx { uf (yg R ⟨⟨key,zvz⟩,(a:Int),zvx,false⟩) ⟨key,zvz⟩ with vals:=ym (uf (yg R ⟨⟨key,zvz⟩,(a:Int),zvx,false⟩) ⟨key,zvz⟩).vals key ⟨zvz,false⟩ } ⟨key,zvz⟩ (yg R ⟨⟨key,zvz⟩,(a:Int),zvx,false⟩).zv1[kk].2 0) from by
  have e:qo (uf (yg R ⟨⟨key,zvz⟩,(a:Int),zvx,false⟩) ⟨key,zvz⟩) key=qo R key:=rfl;unfold rdo zf1;simp only[show ¬((4:Int)=1) by decide,show ¬((4:Int)=2) by decide,show ¬((4:Int)=3) by decide,if_false,if_true,hnow,hmg,if_neg hE]
  unfold Xt;rw[e];simp only[if_pos hF])
 have HKL:=za (And.intro hmg (And.intro hpi her));have HKK:=za hkk;clear hmg hpi her;clear hnow;obtain⟨W2,hE⟩:∃W2,(W.alloc (.cells #[.int .u8 4,.int .i64 (a:Int),.int .i64 zvw,.int .i64 zvx,.int .i64 zvy,.int .i64 zvz,.string key,.int .i64 code] 29)).alloc (.cells #[.string key,.int .i64 zvz] 59)=W2:=⟨_,rfl⟩;obtain⟨HG2,HB0,HB1,HA0,HBS,HT0⟩:=qg h hbs _ _ W2 hE;have HE:=za hE;clear hE;have hrb0:rb<W.heap.size:=h.lt;have OK:=za ok;clear h hbs ok;simp only[zp]
 go_enter Tryz.func60,Tryz.ntmps60
 go_upto_region 14 with fail
 rw[HE.out];clear HE;obtain⟨⟨d0,d1,d2,d3,d4,d5,d6,d7⟩,j0,j1,hw0,hw1⟩:=xl HB0.out HB1.out HT0.out;obtain⟨gL,capL,c4,f0,y0,hcl,hcm⟩:=HA0.out.live hal;obtain⟨LV,hLV⟩:∃x,R.zv0.getD a 0=x:=⟨_,rfl⟩;rw[hLV] at f0;have hgL:gL<W2.heap.size:=yo f0;have hrbw:rb<W2.heap.size:=HA0.out.lt;have q1:decide (zvx<1)=false:=by simp;omega
 have q2:(LV != zvx)=false:=by rw[←hLV];simpa using hB
 have HH:=za (And.intro hA hB);clear hA hB hLV;have HWT:Hid (∀W',W2.grownBy W' none→Calls Tryz.prog 115 #[.pointer (some ⟨rb,0,none⟩),.agg #[.string key,.int .i64 zvz]] W' fun e w'=>e = .returned (.bool true)∧W'.grownBy w' none):=(show ∀_,_ from fun W' hg=>by have h:=Vl (HA0.out.grown hg) ⟨key,zvz⟩;rw[hC] at h;exact h)
 have HC:=za hC;clear hC;refine zo (by kernel_rfl) (by kernel_rfl) ?_
 repeat (any_goals (first|go_big_quiet_step (((go_at_call 115;exact zq (HWT.out _ (by repeat (first|exact zd _|exact zj _ _|refine zi ?_ _|refine zg ?_ _|refine zf ?_))))))|quiet_step (((go_at_call 115;exact zq (HWT.out _ (by repeat (first|exact zd _|exact zj _ _|refine zi ?_ _|refine zg ?_ _|refine zf ?_))))))))
 refine wpQuiet_nil ?_;intro _ hw';obtain⟨xx,hw''⟩:=hw';subst hw'';have HAX:=za (HA0.out.grown (yf W2 xx));have HTX:=za (show yc (fence bs W W2) W2 (ext W2 xx) from xn (yf _ _))
 clear d0 d1 d2 d3 d4 d5 d6 d7 j0 j1 hw0 hw1;clear c4 f0 y0 hcl hcm hgL;generalize ext W2 xx=w1 at *;obtain⟨⟨d0,d1,d2,d3,d4,d5,d6,d7⟩,j0,j1,hw0,hw1⟩:=xl HB0.out HB1.out HTX.out
 go_upto_region 16 with (go_at_call 116;refine(Un HAX.out (HBS.out _ HTX.out.size) ⟨⟨key,zvz⟩,(a:Int),zvx,false⟩ (by have:=OK.out.lh;omega)).mono ?_;rintro e w2 ⟨rfl,hr,ht⟩;clear d0 d1 d2 d3 d4 d5 d6 d7 j0 j1 hw0 hw1;have HA1:=za hr;have HT1:=za (yj HTX.out ht);clear hr ht;obtain⟨⟨d0,d1,d2,d3,d4,d5,d6,d7⟩,j0,j1,hw0,hw1⟩:=xl HB0.out HB1.out HT1.out)
 have HPE:Hid (Calls Tryz.prog 117 #[.pointer (some ⟨rb,0,none⟩),.agg #[.string key,.int .i64 zvz]] w2 fun e w'=>e = .returned (.int .i64 (ug (yg R ⟨⟨key,zvz⟩,(a:Int),zvx,false⟩) ⟨key,zvz⟩))∧w2.grownBy w' none):=(show Calls _ _ _ _ _ from Xs HA1.out ⟨key,zvz⟩)
 generalize hP:ug (yg R ⟨⟨key,zvz⟩,(a:Int),zvx,false⟩) ⟨key,zvz⟩=P at *;have HP:=za hP;clear hP
 go_upto_region 17 with (go_at_call 117;refine HPE.out.mono ?_;rintro e w3 ⟨rfl,hg⟩;clear d0 d1 d2 d3 d4 d5 d6 d7 j0 j1 hw0 hw1;have HA2:=za (HA1.out.grown hg);have HT2:=za (yx HT1.out hg);clear hg;obtain⟨⟨d0,d1,d2,d3,d4,d5,d6,d7⟩,j0,j1,hw0,hw1⟩:=xl HB0.out HB1.out HT2.out)
 have q3:decide (P<0)=false:=by simp;omega
 have c1:w3.cell? ⟨rb,1,none⟩=some (.int .i64 R.W):=HA2.out.c1;have hrb:=HA2.out.lt;have HCO:Hid (∀W',w3.grownBy W' none→Calls Tryz.prog 118 #[.pointer (some ⟨rb,0,none⟩),.agg #[.string key,.int .i64 zvz],.bool false] W' fun e w'=>e = .returned (.int .i64 (us (yg R ⟨⟨key,zvz⟩,(a:Int),zvx,false⟩) ⟨key,zvz⟩ false))∧W'.grownBy w' none):=(show ∀_,_ from fun W' hg=>Js (HA2.out.grown hg) ⟨key,zvz⟩ false)
 have q4:decide ((us (yg R ⟨⟨key,zvz⟩,(a:Int),zvx,false⟩) ⟨key,zvz⟩ false:Int)<R.W)=false:=by simpa using hE
 have HEE:=za (And.intro hD hE);clear hD hE;refine zo (by kernel_rfl) (by kernel_rfl) ?_
 repeat (any_goals (first|go_big_quiet_step (((go_at_call 118;exact zq (HCO.out _ (by repeat (first|exact zd _|exact zj _ _|refine zi ?_ _|refine zg ?_ _|refine zf ?_))))))|quiet_step (((go_at_call 118;exact zq (HCO.out _ (by repeat (first|exact zd _|exact zj _ _|refine zi ?_ _|refine zg ?_ _|refine zf ?_))))))))
 refine wpQuiet_nil ?_;intro _ hw';obtain⟨xx,hw''⟩:=hw';subst hw'';have HA3:=za (HA2.out.grown (yf w3 xx));have HT3:=za (show yc (fence bs W W2) W2 (ext w3 xx) from yx HT2.out (yf _ _))
 clear d0 d1 d2 d3 d4 d5 d6 d7 j0 j1 hw0 hw1;clear c1 hrb;generalize ext w3 xx=w4 at *;obtain⟨⟨d0,d1,d2,d3,d4,d5,d6,d7⟩,j0,j1,hw0,hw1⟩:=xl HB0.out HB1.out HT3.out;have hPk:P=(kk:Int):=by first|exact HKK.out|(rw[←HP.out];exact HKK.out)
 subst hPk;have hpl0:(yg R ⟨⟨key,zvz⟩,(a:Int),zvx,false⟩).zv1.length≤10000000:=OK.out.lp
 go_upto_region 19 with (go_at_call 119;refine(zb5 HA3.out (HBS.out _ HT3.out.size) kk hkl (by omega)).mono ?_;rintro e w5 ⟨rfl,hr,ht⟩;simp only[Xm];clear d0 d1 d2 d3 d4 d5 d6 d7 j0 j1 hw0 hw1;have HA4:=za hr;have HT4:=za (yj HT3.out ht);clear hr ht;obtain⟨⟨d0,d1,d2,d3,d4,d5,d6,d7⟩,j0,j1,hw0,hw1⟩:=xl HB0.out HB1.out HT4.out)
 generalize hpp:(yg R ⟨⟨key,zvz⟩,(a:Int),zvx,false⟩).zv1[kk]=pp at *;obtain⟨⟨pk,pv⟩,⟨pc,pr⟩⟩:=pp;have HPP:=za hpp;clear hpp;simp only;have hg6:w5.grownBy (w5.alloc (.cells #[.string pk,.int .i64 pv,.int .i64 pc,.int .i64 pr] 190)) none:=zc _ _ _;have HA5:=za (show RAt (fence (fence bs W W2) w5 (w5.alloc (.cells #[.string pk,.int .i64 pv,.int .i64 pc,.int .i64 pr] 190))) (w5.alloc (.cells #[.string pk,.int .i64 pv,.int .i64 pc,.int .i64 pr] 190)) rb (uf (yg R ⟨⟨key,zvz⟩,(a:Int),zvx,false⟩) ⟨key,zvz⟩) from by have h:=HA4.out.fence hg6;rw[HKL.out.2.2] at h;exact h)
 have HG6:=za hg6;have HB2:=za (heap_alloc_new w5 (.cells #[.string pk,.int .i64 pv,.int .i64 pc,.int .i64 pr] 190));have HBS6:=za (show ∀w:World,(w5.alloc (.cells #[.string pk,.int .i64 pv,.int .i64 pc,.int .i64 pr] 190)).heap.size≤w.heap.size→∀k,w.heap.size≤k→fence (fence bs W W2) w5 (w5.alloc (.cells #[.string pk,.int .i64 pv,.int .i64 pc,.int .i64 pr] 190)) k from fun w hw=>zd7 (HBS.out _ HT4.out.size) hg6.size w hw)
 have HB0':=za (Ut (yx HT4.out hg6) HB0.out (Nat.le_refl _));have HB1':=za (Ut (yx HT4.out hg6) HB1.out (Nat.le_succ _));have HT6:=za (yx HT4.out hg6);clear d0 d1 d2 d3 d4 d5 d6 d7 j0 j1 hw0 hw1;clear hg6;generalize w5.alloc (.cells #[.string pk,.int .i64 pv,.int .i64 pc,.int .i64 pr] 190)=W6 at *;have NF0:=za (show ¬fence (fence bs W W2) w5 W6 W.heap.size from fun hf=>by have:=(Array.getElem?_eq_some_iff.1 HB0.out).1;rcases hf.1.2 with h|h <;> omega)
 have NF1:=za (show ¬fence (fence bs W W2) w5 W6 (W.heap.size+1) from fun hf=>by have:=(Array.getElem?_eq_some_iff.1 HB1.out).1;rcases hf.1.2 with h|h <;> omega)
 have NF2:=za (show ¬fence (fence bs W W2) w5 W6 w5.heap.size from fun hf=>by have:=(Array.getElem?_eq_some_iff.1 HB2.out).1;rcases hf.2 with h|h <;> omega)
 have d5:W6.cell? ⟨W.heap.size,5,none⟩=some (.int .i64 zvz):=(zh HB0'.out 5).trans rfl;have d6:W6.cell? ⟨W.heap.size,6,none⟩=some (.string key):=(zh HB0'.out 6).trans rfl;have hw6:W.heap.size<W6.heap.size:=(Array.getElem?_eq_some_iff.1 HB0'.out).1;have HVL:Hid (∀W',W6.grownBy W' none→Calls Tryz.prog 120 #[.pointer (some ⟨rb,0,none⟩),.string key] W' fun e w'=>e = .returned (.agg #[.string key,.int .i64 (qo R key).zvz,.bool (qo R key).dead])∧W'.grownBy w' none):=(show ∀_,_ from fun W' hg=>zjk (HA5.out.grown hg) key)
 have q5:decide ((qo R key).zvz<zvz)=true:=by simpa using hF
 have HFF:=za hF;clear hF;refine zo (by kernel_rfl) (by kernel_rfl) ?_
 repeat (any_goals (first|go_big_quiet_step (((go_at_call 120;exact zq (HVL.out _ (by repeat (first|exact zd _|exact zj _ _|refine zi ?_ _|refine zg ?_ _|refine zf ?_))))))|quiet_step (((go_at_call 120;exact zq (HVL.out _ (by repeat (first|exact zd _|exact zj _ _|refine zi ?_ _|refine zg ?_ _|refine zf ?_))))))))
 refine wpQuiet_nil ?_;intro _ hw';obtain⟨xx,hw''⟩:=hw';subst hw'';have HA6:=za (HA5.out.grown (yf W6 xx));have HT7:=za (show yc (fence (fence bs W W2) w5 W6) W6 (ext W6 xx) from xn (yf _ _))
 clear d5 d6 hw6;generalize ext W6 xx=w7 at *;have e0:=Qh HT7.out HB0'.out NF0.out;have e2:=Qh HT7.out HB2.out NF2.out;have d5:=(zh e0 5).trans rfl;have d6:=(zh e0 6).trans rfl;have g0:=(zh e2 0).trans rfl;have g1:=(zh e2 1).trans rfl;have g2:=(zh e2 2).trans rfl;have g3:=(zh e2 3).trans rfl;clear e0 e2
 go_upto_region 21 with (go_at_call 121;refine(zhr HA6.out (HBS6.out _ HT7.out.size) key ⟨zvz,false⟩ (by have:=OK.out.lv;show R.vals.length≤_;omega)).mono ?_;rintro e w8 ⟨rfl,hr,ht⟩;clear d5 d6 g0 g1 g2 g3;have HA7:=za hr;have HT8:=za (yj HT7.out ht);clear hr ht;have e2:=Qh HT8.out HB2.out NF2.out;have g0:=(zh e2 0).trans rfl;have g1:=(zh e2 1).trans rfl;have g2:=(zh e2 2).trans rfl;have g3:=(zh e2 3).trans rfl;clear e2)
 go_upto_region 36 with (go_at_call 122;refine(zeq HA7.out (HBS6.out _ HT8.out.size) ⟨pk,pv⟩ ⟨pc,pr⟩ 0 (by have:=OK.out.lc;show R.calls.length≤_;omega)).mono ?_;rintro e w9 ⟨rfl,hr,ht⟩;have HA8:=za hr;have HT9:=za (yj HT8.out ht);clear hr ht)
 have hid:(⟨pk,pv⟩:ID)=⟨key,zvz⟩:=by have h:=HKL.out.2.1;first|exact h|(rw[HPP.out] at h;exact h)
 have hho:(qx { uf (yg R ⟨⟨key,zvz⟩,(a:Int),zvx,false⟩) ⟨key,zvz⟩ with vals:=ym (uf (yg R ⟨⟨key,zvz⟩,(a:Int),zvx,false⟩) ⟨key,zvz⟩).vals key ⟨zvz,false⟩ } ⟨pk,pv⟩ ⟨pc,pr⟩ 0).holds=(yg R ⟨⟨key,zvz⟩,(a:Int),zvx,false⟩).holds:=by unfold qx;split <;> rfl
 have hli:(qx { uf (yg R ⟨⟨key,zvz⟩,(a:Int),zvx,false⟩) ⟨key,zvz⟩ with vals:=ym (uf (yg R ⟨⟨key,zvz⟩,(a:Int),zvx,false⟩) ⟨key,zvz⟩).vals key ⟨zvz,false⟩ } ⟨pk,pv⟩ ⟨pc,pr⟩ 0).zv0=R.zv0:=by unfold qx;split <;> rfl
 have hnd:∀x∈(yg R ⟨⟨key,zvz⟩,(a:Int),zvx,false⟩).holds,0≤x.node∧x.node<(R.zv0.length:Int):=by
  intro x hx
  rcases List.mem_append.1 hx with hx|hx
  ·exact OK.out.nd x (List.mem_filter.1 hx).1
  ·have:=List.mem_singleton.1 hx
   subst this
   exact⟨by simp only;omega,by simp only;omega⟩
 have hhl:(yg R ⟨⟨key,zvz⟩,(a:Int),zvx,false⟩).holds.length≤10000001:=by
  show((R.holds.filter _) ++ [_]).length≤_
  rw[List.length_append];have:=List.length_filter_le (fun y:ue=>decide (y.id≠(⟨key,zvz⟩:ID)) || decide (y.node≠(a:Int))) R.holds
  have:=OK.out.lh;simp only[List.length_singleton];omega
 have HND:=za (And.intro hho (And.intro hli (And.intro hnd hhl)));clear hho hli hnd hhl g0 g1 g2 g3
 go_wp2_with (go_at_call 123;refine(qc HA8.out (HBS6.out _ HT9.out.size) (by rw[HND.out.1,HND.out.2.1];exact HND.out.2.2.1) (by rw[HND.out.1];have:=HND.out.2.2.2;omega) (by rw[HND.out.2.1];exact OK.out.ll)).mono ?_;rintro e wz ⟨rfl,hr,ht⟩;have HZ:=za (xj HG6.out hr (yj HT9.out ht));clear hr ht)
 first|go_end0|refine bodyPost_ret (results_none rfl _ _ _) rfl ?_
 refine⟨rfl,?_⟩;rw[HE.out];have hi1:pk=key:=congrArg ID.key hid;have hi2:pv=zvz:=congrArg ID.zvz hid;subst hi1 hi2
 exact xj HG2.out HZ.out.1 (yj HT4.out HZ.out.2)
end
section
variable {bs : Nat → Prop} {W : World} {rb : Nat} {R : yp}
set_option maxRecDepth 100000 in
theorem rdo_4G (h:RAt bs W rb R) (hbs:∀k,W.heap.size≤k→bs k) (ok:ROk R) (node zvw zvx zvy zvz code:Int) (key:ByteArray) (hn0:0≤node) (hn1:node<(R.zv0.length:Int)) (hA:1≤zvx) (hB:R.zv0.getD node.toNat 0=zvx) (hC:rwanted R (⟨key,zvz⟩:ID)=true) (hD:0≤ug (yg R ⟨(⟨key,zvz⟩:ID),node,zvx,false⟩) (⟨key,zvz⟩:ID)) (hE:¬(us (yg R ⟨(⟨key,zvz⟩:ID),node,zvx,false⟩) (⟨key,zvz⟩:ID) false:Int)<R.W) (hF:¬(qo R key).zvz<zvz):Calls Tryz.prog 60 #[.pointer (some ⟨rb,0,none⟩),zp ⟨4,node,zvw,zvx,zvy,zvz,key,code⟩] W fun e w'=>e = .returned (.tuple #[])∧RAt bs w' rb (rdo R ⟨4,node,zvw,zvx,zvy,zvz,key,code⟩)∧yc bs W w':=by
 obtain⟨a,rfl⟩:=Int.eq_ofNat_of_zero_le hn0;have hal:a<R.zv0.length:=by omega
 have hat:((a:Nat):Int).toNat=a:=rfl;rw[hat] at hB;clear hat;have hnow:(js R (⟨4,(a:Int),zvw,zvx,zvy,zvz,key,code⟩:Cmd) && rwanted R ⟨key,zvz⟩)=true:=by have e:ui R (a:Int)=R.zv0.getD a 0:=rfl;simp only[js,e,decide_eq_true hA,decide_eq_true hB,hC,Bool.and_self]
 obtain⟨kk,hkk,hkl,hmg,hpi,her⟩:=Qb _ _ hD;have HE:=za (show rdo R (⟨4,(a:Int),zvw,zvx,zvy,zvz,key,code⟩:Cmd)=ve (qx (uf (yg R ⟨⟨key,zvz⟩,(a:Int),zvx,false⟩) ⟨key,zvz⟩) ⟨key,zvz⟩ (yg R ⟨⟨key,zvz⟩,(a:Int),zvx,false⟩).zv1[kk].2 0) from by
  have e:qo (uf (yg R ⟨⟨key,zvz⟩,(a:Int),zvx,false⟩) ⟨key,zvz⟩) key=qo R key:=rfl;unfold rdo zf1;simp only[show ¬((4:Int)=1) by decide,show ¬((4:Int)=2) by decide,show ¬((4:Int)=3) by decide,if_false,if_true,hnow,hmg,if_neg hE]
  unfold Xt;rw[e];simp only[if_neg hF])
 have HKL:=za (And.intro hmg (And.intro hpi her));have HKK:=za hkk;clear hmg hpi her;clear hnow;obtain⟨W2,hE⟩:∃W2,(W.alloc (.cells #[.int .u8 4,.int .i64 (a:Int),.int .i64 zvw,.int .i64 zvx,.int .i64 zvy,.int .i64 zvz,.string key,.int .i64 code] 29)).alloc (.cells #[.string key,.int .i64 zvz] 59)=W2:=⟨_,rfl⟩;obtain⟨HG2,HB0,HB1,HA0,HBS,HT0⟩:=qg h hbs _ _ W2 hE;have HE:=za hE;clear hE;have hrb0:rb<W.heap.size:=h.lt;have OK:=za ok;clear h hbs ok;simp only[zp]
 go_enter Tryz.func60,Tryz.ntmps60
 go_upto_region 14 with fail
 rw[HE.out];clear HE;obtain⟨⟨d0,d1,d2,d3,d4,d5,d6,d7⟩,j0,j1,hw0,hw1⟩:=xl HB0.out HB1.out HT0.out;obtain⟨gL,capL,c4,f0,y0,hcl,hcm⟩:=HA0.out.live hal;obtain⟨LV,hLV⟩:∃x,R.zv0.getD a 0=x:=⟨_,rfl⟩;rw[hLV] at f0;have hgL:gL<W2.heap.size:=yo f0;have hrbw:rb<W2.heap.size:=HA0.out.lt;have q1:decide (zvx<1)=false:=by simp;omega
 have q2:(LV != zvx)=false:=by rw[←hLV];simpa using hB
 have HH:=za (And.intro hA hB);clear hA hB hLV;have HWT:Hid (∀W',W2.grownBy W' none→Calls Tryz.prog 115 #[.pointer (some ⟨rb,0,none⟩),.agg #[.string key,.int .i64 zvz]] W' fun e w'=>e = .returned (.bool true)∧W'.grownBy w' none):=(show ∀_,_ from fun W' hg=>by have h:=Vl (HA0.out.grown hg) ⟨key,zvz⟩;rw[hC] at h;exact h)
 have HC:=za hC;clear hC;refine zo (by kernel_rfl) (by kernel_rfl) ?_
 repeat (any_goals (first|go_big_quiet_step (((go_at_call 115;exact zq (HWT.out _ (by repeat (first|exact zd _|exact zj _ _|refine zi ?_ _|refine zg ?_ _|refine zf ?_))))))|quiet_step (((go_at_call 115;exact zq (HWT.out _ (by repeat (first|exact zd _|exact zj _ _|refine zi ?_ _|refine zg ?_ _|refine zf ?_))))))))
 refine wpQuiet_nil ?_;intro _ hw';obtain⟨xx,hw''⟩:=hw';subst hw'';have HAX:=za (HA0.out.grown (yf W2 xx));have HTX:=za (show yc (fence bs W W2) W2 (ext W2 xx) from xn (yf _ _))
 clear d0 d1 d2 d3 d4 d5 d6 d7 j0 j1 hw0 hw1;clear c4 f0 y0 hcl hcm hgL;generalize ext W2 xx=w1 at *;obtain⟨⟨d0,d1,d2,d3,d4,d5,d6,d7⟩,j0,j1,hw0,hw1⟩:=xl HB0.out HB1.out HTX.out
 go_upto_region 16 with (go_at_call 116;refine(Un HAX.out (HBS.out _ HTX.out.size) ⟨⟨key,zvz⟩,(a:Int),zvx,false⟩ (by have:=OK.out.lh;omega)).mono ?_;rintro e w2 ⟨rfl,hr,ht⟩;clear d0 d1 d2 d3 d4 d5 d6 d7 j0 j1 hw0 hw1;have HA1:=za hr;have HT1:=za (yj HTX.out ht);clear hr ht;obtain⟨⟨d0,d1,d2,d3,d4,d5,d6,d7⟩,j0,j1,hw0,hw1⟩:=xl HB0.out HB1.out HT1.out)
 have HPE:Hid (Calls Tryz.prog 117 #[.pointer (some ⟨rb,0,none⟩),.agg #[.string key,.int .i64 zvz]] w2 fun e w'=>e = .returned (.int .i64 (ug (yg R ⟨⟨key,zvz⟩,(a:Int),zvx,false⟩) ⟨key,zvz⟩))∧w2.grownBy w' none):=(show Calls _ _ _ _ _ from Xs HA1.out ⟨key,zvz⟩)
 generalize hP:ug (yg R ⟨⟨key,zvz⟩,(a:Int),zvx,false⟩) ⟨key,zvz⟩=P at *;have HP:=za hP;clear hP
 go_upto_region 17 with (go_at_call 117;refine HPE.out.mono ?_;rintro e w3 ⟨rfl,hg⟩;clear d0 d1 d2 d3 d4 d5 d6 d7 j0 j1 hw0 hw1;have HA2:=za (HA1.out.grown hg);have HT2:=za (yx HT1.out hg);clear hg;obtain⟨⟨d0,d1,d2,d3,d4,d5,d6,d7⟩,j0,j1,hw0,hw1⟩:=xl HB0.out HB1.out HT2.out)
 have q3:decide (P<0)=false:=by simp;omega
 have c1:w3.cell? ⟨rb,1,none⟩=some (.int .i64 R.W):=HA2.out.c1;have hrb:=HA2.out.lt;have HCO:Hid (∀W',w3.grownBy W' none→Calls Tryz.prog 118 #[.pointer (some ⟨rb,0,none⟩),.agg #[.string key,.int .i64 zvz],.bool false] W' fun e w'=>e = .returned (.int .i64 (us (yg R ⟨⟨key,zvz⟩,(a:Int),zvx,false⟩) ⟨key,zvz⟩ false))∧W'.grownBy w' none):=(show ∀_,_ from fun W' hg=>Js (HA2.out.grown hg) ⟨key,zvz⟩ false)
 have q4:decide ((us (yg R ⟨⟨key,zvz⟩,(a:Int),zvx,false⟩) ⟨key,zvz⟩ false:Int)<R.W)=false:=by simpa using hE
 have HEE:=za (And.intro hD hE);clear hD hE;refine zo (by kernel_rfl) (by kernel_rfl) ?_
 repeat (any_goals (first|go_big_quiet_step (((go_at_call 118;exact zq (HCO.out _ (by repeat (first|exact zd _|exact zj _ _|refine zi ?_ _|refine zg ?_ _|refine zf ?_))))))|quiet_step (((go_at_call 118;exact zq (HCO.out _ (by repeat (first|exact zd _|exact zj _ _|refine zi ?_ _|refine zg ?_ _|refine zf ?_))))))))
 refine wpQuiet_nil ?_;intro _ hw';obtain⟨xx,hw''⟩:=hw';subst hw'';have HA3:=za (HA2.out.grown (yf w3 xx));have HT3:=za (show yc (fence bs W W2) W2 (ext w3 xx) from yx HT2.out (yf _ _))
 clear d0 d1 d2 d3 d4 d5 d6 d7 j0 j1 hw0 hw1;clear c1 hrb;generalize ext w3 xx=w4 at *;obtain⟨⟨d0,d1,d2,d3,d4,d5,d6,d7⟩,j0,j1,hw0,hw1⟩:=xl HB0.out HB1.out HT3.out;have hPk:P=(kk:Int):=by first|exact HKK.out|(rw[←HP.out];exact HKK.out)
 subst hPk;have hpl0:(yg R ⟨⟨key,zvz⟩,(a:Int),zvx,false⟩).zv1.length≤10000000:=OK.out.lp
 go_upto_region 19 with (go_at_call 119;refine(zb5 HA3.out (HBS.out _ HT3.out.size) kk hkl (by omega)).mono ?_;rintro e w5 ⟨rfl,hr,ht⟩;simp only[Xm];clear d0 d1 d2 d3 d4 d5 d6 d7 j0 j1 hw0 hw1;have HA4:=za hr;have HT4:=za (yj HT3.out ht);clear hr ht;obtain⟨⟨d0,d1,d2,d3,d4,d5,d6,d7⟩,j0,j1,hw0,hw1⟩:=xl HB0.out HB1.out HT4.out)
 generalize hpp:(yg R ⟨⟨key,zvz⟩,(a:Int),zvx,false⟩).zv1[kk]=pp at *;obtain⟨⟨pk,pv⟩,⟨pc,pr⟩⟩:=pp;have HPP:=za hpp;clear hpp;simp only;have hg6:w5.grownBy (w5.alloc (.cells #[.string pk,.int .i64 pv,.int .i64 pc,.int .i64 pr] 190)) none:=zc _ _ _;have HA5:=za (show RAt (fence (fence bs W W2) w5 (w5.alloc (.cells #[.string pk,.int .i64 pv,.int .i64 pc,.int .i64 pr] 190))) (w5.alloc (.cells #[.string pk,.int .i64 pv,.int .i64 pc,.int .i64 pr] 190)) rb (uf (yg R ⟨⟨key,zvz⟩,(a:Int),zvx,false⟩) ⟨key,zvz⟩) from by have h:=HA4.out.fence hg6;rw[HKL.out.2.2] at h;exact h)
 have HG6:=za hg6;have HB2:=za (heap_alloc_new w5 (.cells #[.string pk,.int .i64 pv,.int .i64 pc,.int .i64 pr] 190));have HBS6:=za (show ∀w:World,(w5.alloc (.cells #[.string pk,.int .i64 pv,.int .i64 pc,.int .i64 pr] 190)).heap.size≤w.heap.size→∀k,w.heap.size≤k→fence (fence bs W W2) w5 (w5.alloc (.cells #[.string pk,.int .i64 pv,.int .i64 pc,.int .i64 pr] 190)) k from fun w hw=>zd7 (HBS.out _ HT4.out.size) hg6.size w hw)
 have HB0':=za (Ut (yx HT4.out hg6) HB0.out (Nat.le_refl _));have HB1':=za (Ut (yx HT4.out hg6) HB1.out (Nat.le_succ _));have HT6:=za (yx HT4.out hg6);clear d0 d1 d2 d3 d4 d5 d6 d7 j0 j1 hw0 hw1;clear hg6;generalize w5.alloc (.cells #[.string pk,.int .i64 pv,.int .i64 pc,.int .i64 pr] 190)=W6 at *;have NF0:=za (show ¬fence (fence bs W W2) w5 W6 W.heap.size from fun hf=>by have:=(Array.getElem?_eq_some_iff.1 HB0.out).1;rcases hf.1.2 with h|h <;> omega)
 have NF1:=za (show ¬fence (fence bs W W2) w5 W6 (W.heap.size+1) from fun hf=>by have:=(Array.getElem?_eq_some_iff.1 HB1.out).1;rcases hf.1.2 with h|h <;> omega)
 have NF2:=za (show ¬fence (fence bs W W2) w5 W6 w5.heap.size from fun hf=>by have:=(Array.getElem?_eq_some_iff.1 HB2.out).1;rcases hf.2 with h|h <;> omega)
 have d5:W6.cell? ⟨W.heap.size,5,none⟩=some (.int .i64 zvz):=(zh HB0'.out 5).trans rfl;have d6:W6.cell? ⟨W.heap.size,6,none⟩=some (.string key):=(zh HB0'.out 6).trans rfl;have hw6:W.heap.size<W6.heap.size:=(Array.getElem?_eq_some_iff.1 HB0'.out).1;have HVL:Hid (∀W',W6.grownBy W' none→Calls Tryz.prog 120 #[.pointer (some ⟨rb,0,none⟩),.string key] W' fun e w'=>e = .returned (.agg #[.string key,.int .i64 (qo R key).zvz,.bool (qo R key).dead])∧W'.grownBy w' none):=(show ∀_,_ from fun W' hg=>zjk (HA5.out.grown hg) key)
 have q5:decide ((qo R key).zvz<zvz)=false:=by simpa using hF
 have HFF:=za hF;clear hF;refine zo (by kernel_rfl) (by kernel_rfl) ?_
 repeat (any_goals (first|go_big_quiet_step (((go_at_call 120;exact zq (HVL.out _ (by repeat (first|exact zd _|exact zj _ _|refine zi ?_ _|refine zg ?_ _|refine zf ?_))))))|quiet_step (((go_at_call 120;exact zq (HVL.out _ (by repeat (first|exact zd _|exact zj _ _|refine zi ?_ _|refine zg ?_ _|refine zf ?_))))))))
 refine wpQuiet_nil ?_;intro _ hw';obtain⟨xx,hw''⟩:=hw';subst hw'';have HA6:=za (HA5.out.grown (yf W6 xx));have HT7:=za (show yc (fence (fence bs W W2) w5 W6) W6 (ext W6 xx) from xn (yf _ _))
 clear d5 d6 hw6;generalize ext W6 xx=w7 at *;have e0:=Qh HT7.out HB0'.out NF0.out;have e2:=Qh HT7.out HB2.out NF2.out;have d5:=(zh e0 5).trans rfl;have d6:=(zh e0 6).trans rfl;have g0:=(zh e2 0).trans rfl;have g1:=(zh e2 1).trans rfl;have g2:=(zh e2 2).trans rfl;have g3:=(zh e2 3).trans rfl;clear e0 e2
 go_upto_region 21 with fail
 go_upto_region 36 with (go_at_call 122;refine(zeq HA6.out (HBS6.out _ HT7.out.size) ⟨pk,pv⟩ ⟨pc,pr⟩ 0 (by have:=OK.out.lc;show R.calls.length≤_;omega)).mono ?_;rintro e w9 ⟨rfl,hr,ht⟩;have HA8:=za hr;have HT9:=za (yj HT7.out ht);clear hr ht)
 have hid:(⟨pk,pv⟩:ID)=⟨key,zvz⟩:=by have h:=HKL.out.2.1;first|exact h|(rw[HPP.out] at h;exact h)
 have hho:(qx (uf (yg R ⟨⟨key,zvz⟩,(a:Int),zvx,false⟩) ⟨key,zvz⟩) ⟨pk,pv⟩ ⟨pc,pr⟩ 0).holds=(yg R ⟨⟨key,zvz⟩,(a:Int),zvx,false⟩).holds:=by unfold qx;split <;> rfl
 have hli:(qx (uf (yg R ⟨⟨key,zvz⟩,(a:Int),zvx,false⟩) ⟨key,zvz⟩) ⟨pk,pv⟩ ⟨pc,pr⟩ 0).zv0=R.zv0:=by unfold qx;split <;> rfl
 have hnd:∀x∈(yg R ⟨⟨key,zvz⟩,(a:Int),zvx,false⟩).holds,0≤x.node∧x.node<(R.zv0.length:Int):=by
  intro x hx
  rcases List.mem_append.1 hx with hx|hx
  ·exact OK.out.nd x (List.mem_filter.1 hx).1
  ·have:=List.mem_singleton.1 hx
   subst this
   exact⟨by simp only;omega,by simp only;omega⟩
 have hhl:(yg R ⟨⟨key,zvz⟩,(a:Int),zvx,false⟩).holds.length≤10000001:=by
  show((R.holds.filter _) ++ [_]).length≤_
  rw[List.length_append];have:=List.length_filter_le (fun y:ue=>decide (y.id≠(⟨key,zvz⟩:ID)) || decide (y.node≠(a:Int))) R.holds
  have:=OK.out.lh;simp only[List.length_singleton];omega
 have HND:=za (And.intro hho (And.intro hli (And.intro hnd hhl)));clear hho hli hnd hhl g0 g1 g2 g3
 go_wp2_with (go_at_call 123;refine(qc HA8.out (HBS6.out _ HT9.out.size) (by rw[HND.out.1,HND.out.2.1];exact HND.out.2.2.1) (by rw[HND.out.1];have:=HND.out.2.2.2;omega) (by rw[HND.out.2.1];exact OK.out.ll)).mono ?_;rintro e wz ⟨rfl,hr,ht⟩;have HZ:=za (xj HG6.out hr (yj HT9.out ht));clear hr ht)
 first|go_end0|refine bodyPost_ret (results_none rfl _ _ _) rfl ?_
 refine⟨rfl,?_⟩;rw[HE.out];have hi1:pk=key:=congrArg ID.key hid;have hi2:pv=zvz:=congrArg ID.zvz hid;subst hi1 hi2
 exact xj HG2.out HZ.out.1 (yj HT4.out HZ.out.2)
end
section
variable {bs : Nat → Prop} {W : World} {rb : Nat} {R : yp}
set_option maxRecDepth 100000 in
theorem rdo_5A (h:RAt bs W rb R) (hbs:∀k,W.heap.size≤k→bs k) (ok:ROk R) (node zvw zvx zvy zvz code:Int) (key:ByteArray) (hn0:0≤node) (hn1:node<(R.zv0.length:Int)) (hA:zvx<1):Calls Tryz.prog 60 #[.pointer (some ⟨rb,0,none⟩),zp ⟨5,node,zvw,zvx,zvy,zvz,key,code⟩] W fun e w'=>e = .returned (.tuple #[])∧RAt bs w' rb (rdo R ⟨5,node,zvw,zvx,zvy,zvz,key,code⟩)∧yc bs W w':=by
 obtain⟨a,rfl⟩:=Int.eq_ofNat_of_zero_le hn0;have hal:a<R.zv0.length:=by omega
 have HE:=za (show rdo R (⟨5,(a:Int),zvw,zvx,zvy,zvz,key,code⟩:Cmd)=R from by
  have h:¬js R (⟨5,(a:Int),zvw,zvx,zvy,zvz,key,code⟩:Cmd)=true:=by simp[js,show ¬(1≤zvx) from by omega]
  unfold rdo Vo;simp only[show ¬((5:Int)=1) by decide,show ¬((5:Int)=2) by decide,show ¬((5:Int)=3) by decide,show ¬((5:Int)=4) by decide,if_false,if_true]
  cases zt R.zv1 (⟨key,zvz⟩:ID) with
  | none=>rfl
  | some p=>simp only[if_neg h])
 obtain⟨W2,hE⟩:∃W2,(W.alloc (.cells #[.int .u8 5,.int .i64 (a:Int),.int .i64 zvw,.int .i64 zvx,.int .i64 zvy,.int .i64 zvz,.string key,.int .i64 code] 29)).alloc (.cells #[.string key,.int .i64 zvz] 59)=W2:=⟨_,rfl⟩;obtain⟨HG2,HB0,HB1,HA0,HBS,HT0⟩:=qg h hbs _ _ W2 hE;have HE:=za hE;clear hE;have hrb0:rb<W.heap.size:=h.lt;have OK:=za ok;clear h hbs ok;simp only[zp]
 go_enter Tryz.func60,Tryz.ntmps60
 go_upto_region 23 with fail
 rw[HE.out];clear HE;obtain⟨⟨d0,d1,d2,d3,d4,d5,d6,d7⟩,j0,j1,hw0,hw1⟩:=xl HB0.out HB1.out HT0.out;have HPE:Hid (Calls Tryz.prog 117 #[.pointer (some ⟨rb,0,none⟩),.agg #[.string key,.int .i64 zvz]] W2 fun e w'=>e = .returned (.int .i64 (ug R ⟨key,zvz⟩))∧W2.grownBy w' none):=(show Calls _ _ _ _ _ from Xs HA0.out ⟨key,zvz⟩)
 generalize hP:ug R ⟨key,zvz⟩=P at *;have HP:=za hP;clear hP
 go_upto_region 24 with (go_at_call 117;refine HPE.out.mono ?_;rintro e w1 ⟨rfl,hg⟩;clear d0 d1 d2 d3 d4 d5 d6 d7 j0 j1 hw0 hw1;have HA1:=za (HA0.out.grown hg);have HT1:=za (show yc (fence bs W W2) W2 w1 from xn hg);clear hg;obtain⟨⟨d0,d1,d2,d3,d4,d5,d6,d7⟩,j0,j1,hw0,hw1⟩:=xl HB0.out HB1.out HT1.out)
 obtain⟨gL,capL,c4,f0,y0,hcl,hcm⟩:=HA1.out.live hal;obtain⟨LV,hLV⟩:∃x,R.zv0.getD a 0=x:=⟨_,rfl⟩;rw[hLV] at f0;have hgL:gL<w1.heap.size:=yo f0;have q1:decide (zvx<1)=true:=by simpa using hA
 have HH:=za hA;clear hA hLV
 go_quiet (fail)
 go_wp2;refine bodyPost_ret (results_none rfl _ _ _) rfl ⟨rfl,?_⟩;rw[HE.out]
 exact xj HG2.out (HA1.out.grown (zj _ _)) (yx HT1.out (zj _ _))
end
section
variable {bs : Nat → Prop} {W : World} {rb : Nat} {R : yp}
set_option maxRecDepth 100000 in
theorem rdo_5B (h:RAt bs W rb R) (hbs:∀k,W.heap.size≤k→bs k) (ok:ROk R) (node zvw zvx zvy zvz code:Int) (key:ByteArray) (hn0:0≤node) (hn1:node<(R.zv0.length:Int)) (hA:1≤zvx) (hB:¬R.zv0.getD node.toNat 0=zvx):Calls Tryz.prog 60 #[.pointer (some ⟨rb,0,none⟩),zp ⟨5,node,zvw,zvx,zvy,zvz,key,code⟩] W fun e w'=>e = .returned (.tuple #[])∧RAt bs w' rb (rdo R ⟨5,node,zvw,zvx,zvy,zvz,key,code⟩)∧yc bs W w':=by
 obtain⟨a,rfl⟩:=Int.eq_ofNat_of_zero_le hn0;have hal:a<R.zv0.length:=by omega
 have hat:((a:Nat):Int).toNat=a:=rfl;rw[hat] at hB;clear hat;have HE:=za (show rdo R (⟨5,(a:Int),zvw,zvx,zvy,zvz,key,code⟩:Cmd)=R from by
  have h:¬js R (⟨5,(a:Int),zvw,zvx,zvy,zvz,key,code⟩:Cmd)=true:=by have e:ui R (a:Int)=R.zv0.getD a 0:=rfl;simp only[js,e,decide_eq_false hB,Bool.and_false,Bool.false_and,Bool.false_eq_true,not_false_eq_true]
  unfold rdo Vo;simp only[show ¬((5:Int)=1) by decide,show ¬((5:Int)=2) by decide,show ¬((5:Int)=3) by decide,show ¬((5:Int)=4) by decide,if_false,if_true]
  cases zt R.zv1 (⟨key,zvz⟩:ID) with
  | none=>rfl
  | some p=>simp only[if_neg h])
 obtain⟨W2,hE⟩:∃W2,(W.alloc (.cells #[.int .u8 5,.int .i64 (a:Int),.int .i64 zvw,.int .i64 zvx,.int .i64 zvy,.int .i64 zvz,.string key,.int .i64 code] 29)).alloc (.cells #[.string key,.int .i64 zvz] 59)=W2:=⟨_,rfl⟩;obtain⟨HG2,HB0,HB1,HA0,HBS,HT0⟩:=qg h hbs _ _ W2 hE;have HE:=za hE;clear hE;have hrb0:rb<W.heap.size:=h.lt;have OK:=za ok;clear h hbs ok;simp only[zp]
 go_enter Tryz.func60,Tryz.ntmps60
 go_upto_region 23 with fail
 rw[HE.out];clear HE;obtain⟨⟨d0,d1,d2,d3,d4,d5,d6,d7⟩,j0,j1,hw0,hw1⟩:=xl HB0.out HB1.out HT0.out;have HPE:Hid (Calls Tryz.prog 117 #[.pointer (some ⟨rb,0,none⟩),.agg #[.string key,.int .i64 zvz]] W2 fun e w'=>e = .returned (.int .i64 (ug R ⟨key,zvz⟩))∧W2.grownBy w' none):=(show Calls _ _ _ _ _ from Xs HA0.out ⟨key,zvz⟩)
 generalize hP:ug R ⟨key,zvz⟩=P at *;have HP:=za hP;clear hP
 go_upto_region 24 with (go_at_call 117;refine HPE.out.mono ?_;rintro e w1 ⟨rfl,hg⟩;clear d0 d1 d2 d3 d4 d5 d6 d7 j0 j1 hw0 hw1;have HA1:=za (HA0.out.grown hg);have HT1:=za (show yc (fence bs W W2) W2 w1 from xn hg);clear hg;obtain⟨⟨d0,d1,d2,d3,d4,d5,d6,d7⟩,j0,j1,hw0,hw1⟩:=xl HB0.out HB1.out HT1.out)
 obtain⟨gL,capL,c4,f0,y0,hcl,hcm⟩:=HA1.out.live hal;obtain⟨LV,hLV⟩:∃x,R.zv0.getD a 0=x:=⟨_,rfl⟩;rw[hLV] at f0;have hgL:gL<w1.heap.size:=yo f0;have q1:decide (zvx<1)=false:=by simp;omega
 have q2:(LV != zvx)=true:=by rw[←hLV];simpa using hB
 have HH:=za (And.intro hA hB);clear hA hB hLV
 go_quiet (fail)
 go_wp2;refine bodyPost_ret (results_none rfl _ _ _) rfl ⟨rfl,?_⟩;rw[HE.out]
 exact xj HG2.out (HA1.out.grown (zj _ _)) (yx HT1.out (zj _ _))
end
end Go.Proofs.YtjfelfjobeeenaaGreat
