/- The document's Do at some kinds: the walks. Conditions: a table that lies in memory, its numbers within bounds. The document's Do at some kinds: the walks. Conditions: a table that lies in memory, its numbers within bounds. The document's Do at some kinds: the walks. Conditions: a table that lies in memory, its numbers within bounds. -/
import Derived.Test.YtjfelfjobeeenaaGreatF19
import Derived.Deep.DeepCutAuto
set_option linter.unusedSimpArgs false
set_option linter.unusedVariables false
namespace Go.Proofs.YtjfelfjobeeenaaGreat
open Go.RowKit Go.Sf Go.Shelf
section
variable {bs : Nat → Prop} {W : World} {rb : Nat} {R : RTab}
set_option maxHeartbeats 8000000 in
set_option maxRecDepth 100000 in
theorem rdo_4E (h:RAt bs W rb R) (hbs:∀k,W.heap.size≤k→bs k) (ok:ROk R) (node client inc req ver code:Int) (key:ByteArray) (hn0:0≤node) (hn1:node<(R.lives.length:Int)) (hA:1≤inc) (hB:R.lives.getD node.toNat 0=inc) (hC:rwanted R (⟨key,ver⟩:ID)=true) (hD:0≤pendI (rsays R ⟨(⟨key,ver⟩:ID),node,inc,false⟩) (⟨key,ver⟩:ID)) (hE:(rcount (rsays R ⟨(⟨key,ver⟩:ID),node,inc,false⟩) (⟨key,ver⟩:ID) false:Int)<R.W):Calls Tryz.prog 60 #[.pointer (some ⟨rb,0,none⟩),encCmd ⟨4,node,client,inc,req,ver,key,code⟩] W fun e w'=>e = .returned (.tuple #[])∧RAt bs w' rb (rdo R ⟨4,node,client,inc,req,ver,key,code⟩)∧Turn bs W w':=by
 obtain⟨a,rfl⟩:=Int.eq_ofNat_of_zero_le hn0
 have hal:a<R.lives.length:=by omega
 have hat:((a:Nat):Int).toNat=a:=rfl
 rw[hat] at hB
 clear hat
 have hnow:(rnowB R (⟨4,(a:Int),client,inc,req,ver,key,code⟩:Cmd) && rwanted R ⟨key,ver⟩)=true:=by have e:rlife R (a:Int)=R.lives.getD a 0:=rfl;simp only[rnowB,e,decide_eq_true hA,decide_eq_true hB,hC,Bool.and_self]
 obtain⟨kk,hkk,hkl,hmg,hpi,her⟩:=pendI_some _ _ hD
 have HE:Hid (rdo R (⟨4,(a:Int),client,inc,req,ver,key,code⟩:Cmd)=(rsays R ⟨⟨key,ver⟩,(a:Int),inc,false⟩)):=(show rdo R (⟨4,(a:Int),client,inc,req,ver,key,code⟩:Cmd)=(rsays R ⟨⟨key,ver⟩,(a:Int),inc,false⟩) from by
  unfold rdo rack
  simp only[show ¬((4:Int)=1) by decide,show ¬((4:Int)=2) by decide,show ¬((4:Int)=3) by decide,if_false,if_true,hnow,hmg,if_pos hE])
 have HKL:=Lib.hid (And.intro hmg (And.intro hpi her))
 have HKK:=Lib.hid hkk
 clear hmg hpi her
 clear hnow
 obtain⟨W2,hE⟩:∃W2,(W.alloc (.cells #[.int .u8 4,.int .i64 (a:Int),.int .i64 client,.int .i64 inc,.int .i64 req,.int .i64 ver,.string key,.int .i64 code] 29)).alloc (.cells #[.string key,.int .i64 ver] 59)=W2:=⟨_,rfl⟩
 obtain⟨HG2,HB0,HB1,HA0,HBS,HT0⟩:=rdo_set h hbs _ _ W2 hE
 have HE:=Lib.hid hE
 clear hE
 have hrb0:rb<W.heap.size:=h.lt
 have OK:=Lib.hid ok
 clear h hbs ok
 simp only[encCmd]
 go_enter Tryz.func60,Tryz.ntmps60
 go_upto_region 14 with fail
 rw[HE.out]
 clear HE
 obtain⟨⟨d0,d1,d2,d3,d4,d5,d6,d7⟩,j0,j1,hw0,hw1⟩:=boxes HB0.out HB1.out HT0.out
 obtain⟨gL,capL,c4,f0,y0,hcl,hcm⟩:=HA0.out.live hal
 obtain⟨LV,hLV⟩:∃x,R.lives.getD a 0=x:=⟨_,rfl⟩
 rw[hLV] at f0
 have hgL:gL<W2.heap.size:=cell_lt f0
 have hrbw:rb<W2.heap.size:=HA0.out.lt
 have q1:decide (inc<1)=false:=by simp;omega
 have q2:(LV != inc)=false:=by rw[←hLV];simpa using hB
 have HH:=Lib.hid (And.intro hA hB)
 clear hA hB hLV
 have HWT:Hid (∀W',W2.grownBy W' none→Calls Tryz.prog 115 #[.pointer (some ⟨rb,0,none⟩),.agg #[.string key,.int .i64 ver]] W' fun e w'=>e = .returned (.bool true)∧W'.grownBy w' none):=(show ∀_,_ from fun W' hg=>by have h:=rwanted_at (HA0.out.grown hg) ⟨key,ver⟩;rw[hC] at h;exact h)
 have HC:=Lib.hid hC
 clear hC
 refine wp_region_quiet_ext (by kernel_rfl) (by kernel_rfl) ?_
 repeat (any_goals (first|go_big_quiet_step (((go_at_call 115;exact calls_ext (HWT.out _ (by repeat (first|exact grown_refl _|exact grown_drewN _ _|refine grown_ext' ?_ _|refine grown_alloc ?_ _|refine grown_drew ?_))))))|quiet_step (((go_at_call 115;exact calls_ext (HWT.out _ (by repeat (first|exact grown_refl _|exact grown_drewN _ _|refine grown_ext' ?_ _|refine grown_alloc ?_ _|refine grown_drew ?_))))))))
 refine wpQuiet_nil ?_
 intro _ hw'
 obtain⟨xx,hw''⟩:=hw'
 subst hw''
 have HAX:=Lib.hid (HA0.out.grown (grown_ext W2 xx))
 have HTX:Hid (Turn (fence bs W W2) W2 (ext W2 xx)):=(show Turn (fence bs W W2) W2 (ext W2 xx) from turn_grown (grown_ext _ _))
 clear d0 d1 d2 d3 d4 d5 d6 d7 j0 j1 hw0 hw1
 clear c4 f0 y0 hcl hcm hgL
 generalize ext W2 xx=w1 at *
 obtain⟨⟨d0,d1,d2,d3,d4,d5,d6,d7⟩,j0,j1,hw0,hw1⟩:=boxes HB0.out HB1.out HTX.out
 go_upto_region 16 with (go_at_call 116;refine(rsays_any HAX.out (HBS.out _ HTX.out.size) ⟨⟨key,ver⟩,(a:Int),inc,false⟩ (by have:=OK.out.lh;omega)).mono ?_;rintro e w2 ⟨rfl,hr,ht⟩;clear d0 d1 d2 d3 d4 d5 d6 d7 j0 j1 hw0 hw1;have HA1:=Lib.hid hr;have HT1:=Lib.hid (turn_trans HTX.out ht);clear hr ht;obtain⟨⟨d0,d1,d2,d3,d4,d5,d6,d7⟩,j0,j1,hw0,hw1⟩:=boxes HB0.out HB1.out HT1.out)
 have HPE:Hid (Calls Tryz.prog 117 #[.pointer (some ⟨rb,0,none⟩),.agg #[.string key,.int .i64 ver]] w2 fun e w'=>e = .returned (.int .i64 (pendI (rsays R ⟨⟨key,ver⟩,(a:Int),inc,false⟩) ⟨key,ver⟩))∧w2.grownBy w' none):=(show Calls _ _ _ _ _ from rpend_at HA1.out ⟨key,ver⟩)
 generalize hP:pendI (rsays R ⟨⟨key,ver⟩,(a:Int),inc,false⟩) ⟨key,ver⟩=P at *
 have HP:=Lib.hid hP
 clear hP
 go_upto_region 17 with (go_at_call 117;refine HPE.out.mono ?_;rintro e w3 ⟨rfl,hg⟩;clear d0 d1 d2 d3 d4 d5 d6 d7 j0 j1 hw0 hw1;have HA2:=Lib.hid (HA1.out.grown hg);have HT2:=Lib.hid (turn_after HT1.out hg);clear hg;obtain⟨⟨d0,d1,d2,d3,d4,d5,d6,d7⟩,j0,j1,hw0,hw1⟩:=boxes HB0.out HB1.out HT2.out)
 have q3:decide (P<0)=false:=by simp;omega
 have c1:w3.cell? ⟨rb,1,none⟩=some (.int .i64 R.W):=HA2.out.c1
 have hrb:=HA2.out.lt
 have HCO:Hid (∀W',w3.grownBy W' none→Calls Tryz.prog 118 #[.pointer (some ⟨rb,0,none⟩),.agg #[.string key,.int .i64 ver],.bool false] W' fun e w'=>e = .returned (.int .i64 (rcount (rsays R ⟨⟨key,ver⟩,(a:Int),inc,false⟩) ⟨key,ver⟩ false))∧W'.grownBy w' none):=(show ∀_,_ from fun W' hg=>rcount_at (HA2.out.grown hg) ⟨key,ver⟩ false)
 have q4:decide ((rcount (rsays R ⟨⟨key,ver⟩,(a:Int),inc,false⟩) ⟨key,ver⟩ false:Int)<R.W)=true:=by simpa using hE
 have HEE:=Lib.hid (And.intro hD hE)
 clear hD hE
 refine wp_region_quiet_ext (by kernel_rfl) (by kernel_rfl) ?_
 repeat (any_goals (first|go_big_quiet_step (((go_at_call 118;exact calls_ext (HCO.out _ (by repeat (first|exact grown_refl _|exact grown_drewN _ _|refine grown_ext' ?_ _|refine grown_alloc ?_ _|refine grown_drew ?_))))))|quiet_step (((go_at_call 118;exact calls_ext (HCO.out _ (by repeat (first|exact grown_refl _|exact grown_drewN _ _|refine grown_ext' ?_ _|refine grown_alloc ?_ _|refine grown_drew ?_))))))))
 refine wpQuiet_nil ?_
 intro _ hw'
 obtain⟨xx,hw''⟩:=hw'
 subst hw''
 go_wp2
 refine bodyPost_ret (results_none rfl _ _ _) rfl ⟨rfl,?_⟩
 rw[HE.out]
 exact fence_end HG2.out (HA2.out.grown (grown_ext _ _)) (turn_after HT2.out (grown_ext _ _))
end
section
variable {bs : Nat → Prop} {W : World} {rb : Nat} {R : RTab}
set_option maxHeartbeats 8000000 in
set_option maxRecDepth 100000 in
theorem rdo_4F (h:RAt bs W rb R) (hbs:∀k,W.heap.size≤k→bs k) (ok:ROk R) (node client inc req ver code:Int) (key:ByteArray) (hn0:0≤node) (hn1:node<(R.lives.length:Int)) (hA:1≤inc) (hB:R.lives.getD node.toNat 0=inc) (hC:rwanted R (⟨key,ver⟩:ID)=true) (hD:0≤pendI (rsays R ⟨(⟨key,ver⟩:ID),node,inc,false⟩) (⟨key,ver⟩:ID)) (hE:¬(rcount (rsays R ⟨(⟨key,ver⟩:ID),node,inc,false⟩) (⟨key,ver⟩:ID) false:Int)<R.W) (hF:(rlookV R key).ver<ver):Calls Tryz.prog 60 #[.pointer (some ⟨rb,0,none⟩),encCmd ⟨4,node,client,inc,req,ver,key,code⟩] W fun e w'=>e = .returned (.tuple #[])∧RAt bs w' rb (rdo R ⟨4,node,client,inc,req,ver,key,code⟩)∧Turn bs W w':=by
 obtain⟨a,rfl⟩:=Int.eq_ofNat_of_zero_le hn0
 have hal:a<R.lives.length:=by omega
 have hat:((a:Nat):Int).toNat=a:=rfl
 rw[hat] at hB
 clear hat
 have hnow:(rnowB R (⟨4,(a:Int),client,inc,req,ver,key,code⟩:Cmd) && rwanted R ⟨key,ver⟩)=true:=by have e:rlife R (a:Int)=R.lives.getD a 0:=rfl;simp only[rnowB,e,decide_eq_true hA,decide_eq_true hB,hC,Bool.and_self]
 obtain⟨kk,hkk,hkl,hmg,hpi,her⟩:=pendI_some _ _ hD
 have HE:Hid (rdo R (⟨4,(a:Int),client,inc,req,ver,key,code⟩:Cmd)=rclean (rdone { rends (rsays R ⟨⟨key,ver⟩,(a:Int),inc,false⟩) ⟨key,ver⟩ with vals:=mput (rends (rsays R ⟨⟨key,ver⟩,(a:Int),inc,false⟩) ⟨key,ver⟩).vals key ⟨ver,false⟩ } ⟨key,ver⟩ (rsays R ⟨⟨key,ver⟩,(a:Int),inc,false⟩).pends[kk].2 0)):=(show rdo R (⟨4,(a:Int),client,inc,req,ver,key,code⟩:Cmd)=rclean (rdone { rends (rsays R ⟨⟨key,ver⟩,(a:Int),inc,false⟩) ⟨key,ver⟩ with vals:=mput (rends (rsays R ⟨⟨key,ver⟩,(a:Int),inc,false⟩) ⟨key,ver⟩).vals key ⟨ver,false⟩ } ⟨key,ver⟩ (rsays R ⟨⟨key,ver⟩,(a:Int),inc,false⟩).pends[kk].2 0) from by
  have e:rlookV (rends (rsays R ⟨⟨key,ver⟩,(a:Int),inc,false⟩) ⟨key,ver⟩) key=rlookV R key:=rfl
  unfold rdo rack
  simp only[show ¬((4:Int)=1) by decide,show ¬((4:Int)=2) by decide,show ¬((4:Int)=3) by decide,if_false,if_true,hnow,hmg,if_neg hE]
  unfold rvalued
  rw[e]
  simp only[if_pos hF])
 have HKL:=Lib.hid (And.intro hmg (And.intro hpi her))
 have HKK:=Lib.hid hkk
 clear hmg hpi her
 clear hnow
 obtain⟨W2,hE⟩:∃W2,(W.alloc (.cells #[.int .u8 4,.int .i64 (a:Int),.int .i64 client,.int .i64 inc,.int .i64 req,.int .i64 ver,.string key,.int .i64 code] 29)).alloc (.cells #[.string key,.int .i64 ver] 59)=W2:=⟨_,rfl⟩
 obtain⟨HG2,HB0,HB1,HA0,HBS,HT0⟩:=rdo_set h hbs _ _ W2 hE
 have HE:=Lib.hid hE
 clear hE
 have hrb0:rb<W.heap.size:=h.lt
 have OK:=Lib.hid ok
 clear h hbs ok
 simp only[encCmd]
 go_enter Tryz.func60,Tryz.ntmps60
 go_upto_region 14 with fail
 rw[HE.out]
 clear HE
 obtain⟨⟨d0,d1,d2,d3,d4,d5,d6,d7⟩,j0,j1,hw0,hw1⟩:=boxes HB0.out HB1.out HT0.out
 obtain⟨gL,capL,c4,f0,y0,hcl,hcm⟩:=HA0.out.live hal
 obtain⟨LV,hLV⟩:∃x,R.lives.getD a 0=x:=⟨_,rfl⟩
 rw[hLV] at f0
 have hgL:gL<W2.heap.size:=cell_lt f0
 have hrbw:rb<W2.heap.size:=HA0.out.lt
 have q1:decide (inc<1)=false:=by simp;omega
 have q2:(LV != inc)=false:=by rw[←hLV];simpa using hB
 have HH:=Lib.hid (And.intro hA hB)
 clear hA hB hLV
 have HWT:Hid (∀W',W2.grownBy W' none→Calls Tryz.prog 115 #[.pointer (some ⟨rb,0,none⟩),.agg #[.string key,.int .i64 ver]] W' fun e w'=>e = .returned (.bool true)∧W'.grownBy w' none):=(show ∀_,_ from fun W' hg=>by have h:=rwanted_at (HA0.out.grown hg) ⟨key,ver⟩;rw[hC] at h;exact h)
 have HC:=Lib.hid hC
 clear hC
 refine wp_region_quiet_ext (by kernel_rfl) (by kernel_rfl) ?_
 repeat (any_goals (first|go_big_quiet_step (((go_at_call 115;exact calls_ext (HWT.out _ (by repeat (first|exact grown_refl _|exact grown_drewN _ _|refine grown_ext' ?_ _|refine grown_alloc ?_ _|refine grown_drew ?_))))))|quiet_step (((go_at_call 115;exact calls_ext (HWT.out _ (by repeat (first|exact grown_refl _|exact grown_drewN _ _|refine grown_ext' ?_ _|refine grown_alloc ?_ _|refine grown_drew ?_))))))))
 refine wpQuiet_nil ?_
 intro _ hw'
 obtain⟨xx,hw''⟩:=hw'
 subst hw''
 have HAX:=Lib.hid (HA0.out.grown (grown_ext W2 xx))
 have HTX:Hid (Turn (fence bs W W2) W2 (ext W2 xx)):=(show Turn (fence bs W W2) W2 (ext W2 xx) from turn_grown (grown_ext _ _))
 clear d0 d1 d2 d3 d4 d5 d6 d7 j0 j1 hw0 hw1
 clear c4 f0 y0 hcl hcm hgL
 generalize ext W2 xx=w1 at *
 obtain⟨⟨d0,d1,d2,d3,d4,d5,d6,d7⟩,j0,j1,hw0,hw1⟩:=boxes HB0.out HB1.out HTX.out
 go_upto_region 16 with (go_at_call 116;refine(rsays_any HAX.out (HBS.out _ HTX.out.size) ⟨⟨key,ver⟩,(a:Int),inc,false⟩ (by have:=OK.out.lh;omega)).mono ?_;rintro e w2 ⟨rfl,hr,ht⟩;clear d0 d1 d2 d3 d4 d5 d6 d7 j0 j1 hw0 hw1;have HA1:=Lib.hid hr;have HT1:=Lib.hid (turn_trans HTX.out ht);clear hr ht;obtain⟨⟨d0,d1,d2,d3,d4,d5,d6,d7⟩,j0,j1,hw0,hw1⟩:=boxes HB0.out HB1.out HT1.out)
 have HPE:Hid (Calls Tryz.prog 117 #[.pointer (some ⟨rb,0,none⟩),.agg #[.string key,.int .i64 ver]] w2 fun e w'=>e = .returned (.int .i64 (pendI (rsays R ⟨⟨key,ver⟩,(a:Int),inc,false⟩) ⟨key,ver⟩))∧w2.grownBy w' none):=(show Calls _ _ _ _ _ from rpend_at HA1.out ⟨key,ver⟩)
 generalize hP:pendI (rsays R ⟨⟨key,ver⟩,(a:Int),inc,false⟩) ⟨key,ver⟩=P at *
 have HP:=Lib.hid hP
 clear hP
 go_upto_region 17 with (go_at_call 117;refine HPE.out.mono ?_;rintro e w3 ⟨rfl,hg⟩;clear d0 d1 d2 d3 d4 d5 d6 d7 j0 j1 hw0 hw1;have HA2:=Lib.hid (HA1.out.grown hg);have HT2:=Lib.hid (turn_after HT1.out hg);clear hg;obtain⟨⟨d0,d1,d2,d3,d4,d5,d6,d7⟩,j0,j1,hw0,hw1⟩:=boxes HB0.out HB1.out HT2.out)
 have q3:decide (P<0)=false:=by simp;omega
 have c1:w3.cell? ⟨rb,1,none⟩=some (.int .i64 R.W):=HA2.out.c1
 have hrb:=HA2.out.lt
 have HCO:Hid (∀W',w3.grownBy W' none→Calls Tryz.prog 118 #[.pointer (some ⟨rb,0,none⟩),.agg #[.string key,.int .i64 ver],.bool false] W' fun e w'=>e = .returned (.int .i64 (rcount (rsays R ⟨⟨key,ver⟩,(a:Int),inc,false⟩) ⟨key,ver⟩ false))∧W'.grownBy w' none):=(show ∀_,_ from fun W' hg=>rcount_at (HA2.out.grown hg) ⟨key,ver⟩ false)
 have q4:decide ((rcount (rsays R ⟨⟨key,ver⟩,(a:Int),inc,false⟩) ⟨key,ver⟩ false:Int)<R.W)=false:=by simpa using hE
 have HEE:=Lib.hid (And.intro hD hE)
 clear hD hE
 refine wp_region_quiet_ext (by kernel_rfl) (by kernel_rfl) ?_
 repeat (any_goals (first|go_big_quiet_step (((go_at_call 118;exact calls_ext (HCO.out _ (by repeat (first|exact grown_refl _|exact grown_drewN _ _|refine grown_ext' ?_ _|refine grown_alloc ?_ _|refine grown_drew ?_))))))|quiet_step (((go_at_call 118;exact calls_ext (HCO.out _ (by repeat (first|exact grown_refl _|exact grown_drewN _ _|refine grown_ext' ?_ _|refine grown_alloc ?_ _|refine grown_drew ?_))))))))
 refine wpQuiet_nil ?_
 intro _ hw'
 obtain⟨xx,hw''⟩:=hw'
 subst hw''
 have HA3:=Lib.hid (HA2.out.grown (grown_ext w3 xx))
 have HT3:Hid (Turn (fence bs W W2) W2 (ext w3 xx)):=(show Turn (fence bs W W2) W2 (ext w3 xx) from turn_after HT2.out (grown_ext _ _))
 clear d0 d1 d2 d3 d4 d5 d6 d7 j0 j1 hw0 hw1
 clear c1 hrb
 generalize ext w3 xx=w4 at *
 obtain⟨⟨d0,d1,d2,d3,d4,d5,d6,d7⟩,j0,j1,hw0,hw1⟩:=boxes HB0.out HB1.out HT3.out
 have hPk:P=(kk:Int):=by first|exact HKK.out|(rw[←HP.out];exact HKK.out)
 subst hPk
 have hpl0:(rsays R ⟨⟨key,ver⟩,(a:Int),inc,false⟩).pends.length≤10000000:=OK.out.lp
 go_upto_region 19 with (go_at_call 119;refine(rends_any HA3.out (HBS.out _ HT3.out.size) kk hkl (by omega)).mono ?_;rintro e w5 ⟨rfl,hr,ht⟩;simp only[encRPend];clear d0 d1 d2 d3 d4 d5 d6 d7 j0 j1 hw0 hw1;have HA4:=Lib.hid hr;have HT4:=Lib.hid (turn_trans HT3.out ht);clear hr ht;obtain⟨⟨d0,d1,d2,d3,d4,d5,d6,d7⟩,j0,j1,hw0,hw1⟩:=boxes HB0.out HB1.out HT4.out)
 generalize hpp:(rsays R ⟨⟨key,ver⟩,(a:Int),inc,false⟩).pends[kk]=pp at *
 obtain⟨⟨pk,pv⟩,⟨pc,pr⟩⟩:=pp
 have HPP:=Lib.hid hpp
 clear hpp
 simp only
 have hg6:w5.grownBy (w5.alloc (.cells #[.string pk,.int .i64 pv,.int .i64 pc,.int .i64 pr] 190)) none:=World.grownBy_alloc _ _ _
 have HA5:Hid (RAt (fence (fence bs W W2) w5 (w5.alloc (.cells #[.string pk,.int .i64 pv,.int .i64 pc,.int .i64 pr] 190))) (w5.alloc (.cells #[.string pk,.int .i64 pv,.int .i64 pc,.int .i64 pr] 190)) rb (rends (rsays R ⟨⟨key,ver⟩,(a:Int),inc,false⟩) ⟨key,ver⟩)):=(show RAt (fence (fence bs W W2) w5 (w5.alloc (.cells #[.string pk,.int .i64 pv,.int .i64 pc,.int .i64 pr] 190))) (w5.alloc (.cells #[.string pk,.int .i64 pv,.int .i64 pc,.int .i64 pr] 190)) rb (rends (rsays R ⟨⟨key,ver⟩,(a:Int),inc,false⟩) ⟨key,ver⟩) from by have h:=HA4.out.fence hg6;rw[HKL.out.2.2] at h;exact h)
 have HG6:=Lib.hid hg6
 have HB2:=Lib.hid (heap_alloc_new w5 (.cells #[.string pk,.int .i64 pv,.int .i64 pc,.int .i64 pr] 190))
 have HBS6:Hid (∀w:World,(w5.alloc (.cells #[.string pk,.int .i64 pv,.int .i64 pc,.int .i64 pr] 190)).heap.size≤w.heap.size→∀k,w.heap.size≤k→fence (fence bs W W2) w5 (w5.alloc (.cells #[.string pk,.int .i64 pv,.int .i64 pc,.int .i64 pr] 190)) k):=(show ∀w:World,(w5.alloc (.cells #[.string pk,.int .i64 pv,.int .i64 pc,.int .i64 pr] 190)).heap.size≤w.heap.size→∀k,w.heap.size≤k→fence (fence bs W W2) w5 (w5.alloc (.cells #[.string pk,.int .i64 pv,.int .i64 pc,.int .i64 pr] 190)) k from fun w hw=>fence_new (HBS.out _ HT4.out.size) hg6.size w hw)
 have HB0':=Lib.hid (fence_at (turn_after HT4.out hg6) HB0.out (Nat.le_refl _))
 have HB1':=Lib.hid (fence_at (turn_after HT4.out hg6) HB1.out (Nat.le_succ _))
 have HT6:=Lib.hid (turn_after HT4.out hg6)
 clear d0 d1 d2 d3 d4 d5 d6 d7 j0 j1 hw0 hw1
 clear hg6
 generalize w5.alloc (.cells #[.string pk,.int .i64 pv,.int .i64 pc,.int .i64 pr] 190)=W6 at *
 have NF0:Hid (¬fence (fence bs W W2) w5 W6 W.heap.size):=(show ¬fence (fence bs W W2) w5 W6 W.heap.size from fun hf=>by have:=(Array.getElem?_eq_some_iff.1 HB0.out).1;rcases hf.1.2 with h|h <;> omega)
 have NF1:Hid (¬fence (fence bs W W2) w5 W6 (W.heap.size+1)):=(show ¬fence (fence bs W W2) w5 W6 (W.heap.size+1) from fun hf=>by have:=(Array.getElem?_eq_some_iff.1 HB1.out).1;rcases hf.1.2 with h|h <;> omega)
 have NF2:Hid (¬fence (fence bs W W2) w5 W6 w5.heap.size):=(show ¬fence (fence bs W W2) w5 W6 w5.heap.size from fun hf=>by have:=(Array.getElem?_eq_some_iff.1 HB2.out).1;rcases hf.2 with h|h <;> omega)
 have d5:W6.cell? ⟨W.heap.size,5,none⟩=some (.int .i64 ver):=(cell_block HB0'.out 5).trans rfl
 have d6:W6.cell? ⟨W.heap.size,6,none⟩=some (.string key):=(cell_block HB0'.out 6).trans rfl
 have hw6:W.heap.size<W6.heap.size:=(Array.getElem?_eq_some_iff.1 HB0'.out).1
 have HVL:Hid (∀W',W6.grownBy W' none→Calls Tryz.prog 120 #[.pointer (some ⟨rb,0,none⟩),.string key] W' fun e w'=>e = .returned (.agg #[.string key,.int .i64 (rlookV R key).ver,.bool (rlookV R key).dead])∧W'.grownBy w' none):=(show ∀_,_ from fun W' hg=>rvalue_at (HA5.out.grown hg) key)
 have q5:decide ((rlookV R key).ver<ver)=true:=by simpa using hF
 have HFF:=Lib.hid hF
 clear hF
 refine wp_region_quiet_ext (by kernel_rfl) (by kernel_rfl) ?_
 repeat (any_goals (first|go_big_quiet_step (((go_at_call 120;exact calls_ext (HVL.out _ (by repeat (first|exact grown_refl _|exact grown_drewN _ _|refine grown_ext' ?_ _|refine grown_alloc ?_ _|refine grown_drew ?_))))))|quiet_step (((go_at_call 120;exact calls_ext (HVL.out _ (by repeat (first|exact grown_refl _|exact grown_drewN _ _|refine grown_ext' ?_ _|refine grown_alloc ?_ _|refine grown_drew ?_))))))))
 refine wpQuiet_nil ?_
 intro _ hw'
 obtain⟨xx,hw''⟩:=hw'
 subst hw''
 have HA6:=Lib.hid (HA5.out.grown (grown_ext W6 xx))
 have HT7:Hid (Turn (fence (fence bs W W2) w5 W6) W6 (ext W6 xx)):=(show Turn (fence (fence bs W W2) w5 W6) W6 (ext W6 xx) from turn_grown (grown_ext _ _))
 clear d5 d6 hw6
 generalize ext W6 xx=w7 at *
 have e0:=turn_block HT7.out HB0'.out NF0.out
 have e2:=turn_block HT7.out HB2.out NF2.out
 have d5:=(cell_block e0 5).trans rfl
 have d6:=(cell_block e0 6).trans rfl
 have g0:=(cell_block e2 0).trans rfl
 have g1:=(cell_block e2 1).trans rfl
 have g2:=(cell_block e2 2).trans rfl
 have g3:=(cell_block e2 3).trans rfl
 clear e0 e2
 go_upto_region 21 with (go_at_call 121;refine(rput_value HA6.out (HBS6.out _ HT7.out.size) key ⟨ver,false⟩ (by have:=OK.out.lv;show R.vals.length≤_;omega)).mono ?_;rintro e w8 ⟨rfl,hr,ht⟩;clear d5 d6 g0 g1 g2 g3;have HA7:=Lib.hid hr;have HT8:=Lib.hid (turn_trans HT7.out ht);clear hr ht;have e2:=turn_block HT8.out HB2.out NF2.out;have g0:=(cell_block e2 0).trans rfl;have g1:=(cell_block e2 1).trans rfl;have g2:=(cell_block e2 2).trans rfl;have g3:=(cell_block e2 3).trans rfl;clear e2)
 go_upto_region 36 with (go_at_call 122;refine(rdone_any HA7.out (HBS6.out _ HT8.out.size) ⟨pk,pv⟩ ⟨pc,pr⟩ 0 (by have:=OK.out.lc;show R.calls.length≤_;omega)).mono ?_;rintro e w9 ⟨rfl,hr,ht⟩;have HA8:=Lib.hid hr;have HT9:=Lib.hid (turn_trans HT8.out ht);clear hr ht)
 have hid:(⟨pk,pv⟩:ID)=⟨key,ver⟩:=by have h:=HKL.out.2.1;first|exact h|(rw[HPP.out] at h;exact h)
 have hho:(rdone { rends (rsays R ⟨⟨key,ver⟩,(a:Int),inc,false⟩) ⟨key,ver⟩ with vals:=mput (rends (rsays R ⟨⟨key,ver⟩,(a:Int),inc,false⟩) ⟨key,ver⟩).vals key ⟨ver,false⟩ } ⟨pk,pv⟩ ⟨pc,pr⟩ 0).holds=(rsays R ⟨⟨key,ver⟩,(a:Int),inc,false⟩).holds:=by unfold rdone;split <;> rfl
 have hli:(rdone { rends (rsays R ⟨⟨key,ver⟩,(a:Int),inc,false⟩) ⟨key,ver⟩ with vals:=mput (rends (rsays R ⟨⟨key,ver⟩,(a:Int),inc,false⟩) ⟨key,ver⟩).vals key ⟨ver,false⟩ } ⟨pk,pv⟩ ⟨pc,pr⟩ 0).lives=R.lives:=by unfold rdone;split <;> rfl
 have hnd:∀x∈(rsays R ⟨⟨key,ver⟩,(a:Int),inc,false⟩).holds,0≤x.node∧x.node<(R.lives.length:Int):=by
  intro x hx
  rcases List.mem_append.1 hx with hx|hx
  ·exact OK.out.nd x (List.mem_filter.1 hx).1
  ·have:=List.mem_singleton.1 hx
   subst this
   exact⟨by simp only;omega,by simp only;omega⟩
 have hhl:(rsays R ⟨⟨key,ver⟩,(a:Int),inc,false⟩).holds.length≤10000001:=by
  show((R.holds.filter _) ++ [_]).length≤_
  rw[List.length_append]
  have:=List.length_filter_le (fun y:RHold=>decide (y.id≠(⟨key,ver⟩:ID)) || decide (y.node≠(a:Int))) R.holds
  have:=OK.out.lh
  simp only[List.length_singleton]
  omega
 have HND:=Lib.hid (And.intro hho (And.intro hli (And.intro hnd hhl)))
 clear hho hli hnd hhl g0 g1 g2 g3
 go_wp2_with (go_at_call 123;refine(rclean_any HA8.out (HBS6.out _ HT9.out.size) (by rw[HND.out.1,HND.out.2.1];exact HND.out.2.2.1) (by rw[HND.out.1];have:=HND.out.2.2.2;omega) (by rw[HND.out.2.1];exact OK.out.ll)).mono ?_;rintro e wz ⟨rfl,hr,ht⟩;have HZ:=Lib.hid (fence_end HG6.out hr (turn_trans HT9.out ht));clear hr ht)
 first|go_end0|refine bodyPost_ret (results_none rfl _ _ _) rfl ?_
 refine⟨rfl,?_⟩
 rw[HE.out]
 have hi1:pk=key:=congrArg ID.key hid
 have hi2:pv=ver:=congrArg ID.ver hid
 subst hi1 hi2
 exact fence_end HG2.out HZ.out.1 (turn_trans HT4.out HZ.out.2)
end
section
variable {bs : Nat → Prop} {W : World} {rb : Nat} {R : RTab}
set_option maxHeartbeats 8000000 in
set_option maxRecDepth 100000 in
theorem rdo_4G (h:RAt bs W rb R) (hbs:∀k,W.heap.size≤k→bs k) (ok:ROk R) (node client inc req ver code:Int) (key:ByteArray) (hn0:0≤node) (hn1:node<(R.lives.length:Int)) (hA:1≤inc) (hB:R.lives.getD node.toNat 0=inc) (hC:rwanted R (⟨key,ver⟩:ID)=true) (hD:0≤pendI (rsays R ⟨(⟨key,ver⟩:ID),node,inc,false⟩) (⟨key,ver⟩:ID)) (hE:¬(rcount (rsays R ⟨(⟨key,ver⟩:ID),node,inc,false⟩) (⟨key,ver⟩:ID) false:Int)<R.W) (hF:¬(rlookV R key).ver<ver):Calls Tryz.prog 60 #[.pointer (some ⟨rb,0,none⟩),encCmd ⟨4,node,client,inc,req,ver,key,code⟩] W fun e w'=>e = .returned (.tuple #[])∧RAt bs w' rb (rdo R ⟨4,node,client,inc,req,ver,key,code⟩)∧Turn bs W w':=by
 obtain⟨a,rfl⟩:=Int.eq_ofNat_of_zero_le hn0
 have hal:a<R.lives.length:=by omega
 have hat:((a:Nat):Int).toNat=a:=rfl
 rw[hat] at hB
 clear hat
 have hnow:(rnowB R (⟨4,(a:Int),client,inc,req,ver,key,code⟩:Cmd) && rwanted R ⟨key,ver⟩)=true:=by have e:rlife R (a:Int)=R.lives.getD a 0:=rfl;simp only[rnowB,e,decide_eq_true hA,decide_eq_true hB,hC,Bool.and_self]
 obtain⟨kk,hkk,hkl,hmg,hpi,her⟩:=pendI_some _ _ hD
 have HE:Hid (rdo R (⟨4,(a:Int),client,inc,req,ver,key,code⟩:Cmd)=rclean (rdone (rends (rsays R ⟨⟨key,ver⟩,(a:Int),inc,false⟩) ⟨key,ver⟩) ⟨key,ver⟩ (rsays R ⟨⟨key,ver⟩,(a:Int),inc,false⟩).pends[kk].2 0)):=(show rdo R (⟨4,(a:Int),client,inc,req,ver,key,code⟩:Cmd)=rclean (rdone (rends (rsays R ⟨⟨key,ver⟩,(a:Int),inc,false⟩) ⟨key,ver⟩) ⟨key,ver⟩ (rsays R ⟨⟨key,ver⟩,(a:Int),inc,false⟩).pends[kk].2 0) from by
  have e:rlookV (rends (rsays R ⟨⟨key,ver⟩,(a:Int),inc,false⟩) ⟨key,ver⟩) key=rlookV R key:=rfl
  unfold rdo rack
  simp only[show ¬((4:Int)=1) by decide,show ¬((4:Int)=2) by decide,show ¬((4:Int)=3) by decide,if_false,if_true,hnow,hmg,if_neg hE]
  unfold rvalued
  rw[e]
  simp only[if_neg hF])
 have HKL:=Lib.hid (And.intro hmg (And.intro hpi her))
 have HKK:=Lib.hid hkk
 clear hmg hpi her
 clear hnow
 obtain⟨W2,hE⟩:∃W2,(W.alloc (.cells #[.int .u8 4,.int .i64 (a:Int),.int .i64 client,.int .i64 inc,.int .i64 req,.int .i64 ver,.string key,.int .i64 code] 29)).alloc (.cells #[.string key,.int .i64 ver] 59)=W2:=⟨_,rfl⟩
 obtain⟨HG2,HB0,HB1,HA0,HBS,HT0⟩:=rdo_set h hbs _ _ W2 hE
 have HE:=Lib.hid hE
 clear hE
 have hrb0:rb<W.heap.size:=h.lt
 have OK:=Lib.hid ok
 clear h hbs ok
 simp only[encCmd]
 go_enter Tryz.func60,Tryz.ntmps60
 go_upto_region 14 with fail
 rw[HE.out]
 clear HE
 obtain⟨⟨d0,d1,d2,d3,d4,d5,d6,d7⟩,j0,j1,hw0,hw1⟩:=boxes HB0.out HB1.out HT0.out
 obtain⟨gL,capL,c4,f0,y0,hcl,hcm⟩:=HA0.out.live hal
 obtain⟨LV,hLV⟩:∃x,R.lives.getD a 0=x:=⟨_,rfl⟩
 rw[hLV] at f0
 have hgL:gL<W2.heap.size:=cell_lt f0
 have hrbw:rb<W2.heap.size:=HA0.out.lt
 have q1:decide (inc<1)=false:=by simp;omega
 have q2:(LV != inc)=false:=by rw[←hLV];simpa using hB
 have HH:=Lib.hid (And.intro hA hB)
 clear hA hB hLV
 have HWT:Hid (∀W',W2.grownBy W' none→Calls Tryz.prog 115 #[.pointer (some ⟨rb,0,none⟩),.agg #[.string key,.int .i64 ver]] W' fun e w'=>e = .returned (.bool true)∧W'.grownBy w' none):=(show ∀_,_ from fun W' hg=>by have h:=rwanted_at (HA0.out.grown hg) ⟨key,ver⟩;rw[hC] at h;exact h)
 have HC:=Lib.hid hC
 clear hC
 refine wp_region_quiet_ext (by kernel_rfl) (by kernel_rfl) ?_
 repeat (any_goals (first|go_big_quiet_step (((go_at_call 115;exact calls_ext (HWT.out _ (by repeat (first|exact grown_refl _|exact grown_drewN _ _|refine grown_ext' ?_ _|refine grown_alloc ?_ _|refine grown_drew ?_))))))|quiet_step (((go_at_call 115;exact calls_ext (HWT.out _ (by repeat (first|exact grown_refl _|exact grown_drewN _ _|refine grown_ext' ?_ _|refine grown_alloc ?_ _|refine grown_drew ?_))))))))
 refine wpQuiet_nil ?_
 intro _ hw'
 obtain⟨xx,hw''⟩:=hw'
 subst hw''
 have HAX:=Lib.hid (HA0.out.grown (grown_ext W2 xx))
 have HTX:Hid (Turn (fence bs W W2) W2 (ext W2 xx)):=(show Turn (fence bs W W2) W2 (ext W2 xx) from turn_grown (grown_ext _ _))
 clear d0 d1 d2 d3 d4 d5 d6 d7 j0 j1 hw0 hw1
 clear c4 f0 y0 hcl hcm hgL
 generalize ext W2 xx=w1 at *
 obtain⟨⟨d0,d1,d2,d3,d4,d5,d6,d7⟩,j0,j1,hw0,hw1⟩:=boxes HB0.out HB1.out HTX.out
 go_upto_region 16 with (go_at_call 116;refine(rsays_any HAX.out (HBS.out _ HTX.out.size) ⟨⟨key,ver⟩,(a:Int),inc,false⟩ (by have:=OK.out.lh;omega)).mono ?_;rintro e w2 ⟨rfl,hr,ht⟩;clear d0 d1 d2 d3 d4 d5 d6 d7 j0 j1 hw0 hw1;have HA1:=Lib.hid hr;have HT1:=Lib.hid (turn_trans HTX.out ht);clear hr ht;obtain⟨⟨d0,d1,d2,d3,d4,d5,d6,d7⟩,j0,j1,hw0,hw1⟩:=boxes HB0.out HB1.out HT1.out)
 have HPE:Hid (Calls Tryz.prog 117 #[.pointer (some ⟨rb,0,none⟩),.agg #[.string key,.int .i64 ver]] w2 fun e w'=>e = .returned (.int .i64 (pendI (rsays R ⟨⟨key,ver⟩,(a:Int),inc,false⟩) ⟨key,ver⟩))∧w2.grownBy w' none):=(show Calls _ _ _ _ _ from rpend_at HA1.out ⟨key,ver⟩)
 generalize hP:pendI (rsays R ⟨⟨key,ver⟩,(a:Int),inc,false⟩) ⟨key,ver⟩=P at *
 have HP:=Lib.hid hP
 clear hP
 go_upto_region 17 with (go_at_call 117;refine HPE.out.mono ?_;rintro e w3 ⟨rfl,hg⟩;clear d0 d1 d2 d3 d4 d5 d6 d7 j0 j1 hw0 hw1;have HA2:=Lib.hid (HA1.out.grown hg);have HT2:=Lib.hid (turn_after HT1.out hg);clear hg;obtain⟨⟨d0,d1,d2,d3,d4,d5,d6,d7⟩,j0,j1,hw0,hw1⟩:=boxes HB0.out HB1.out HT2.out)
 have q3:decide (P<0)=false:=by simp;omega
 have c1:w3.cell? ⟨rb,1,none⟩=some (.int .i64 R.W):=HA2.out.c1
 have hrb:=HA2.out.lt
 have HCO:Hid (∀W',w3.grownBy W' none→Calls Tryz.prog 118 #[.pointer (some ⟨rb,0,none⟩),.agg #[.string key,.int .i64 ver],.bool false] W' fun e w'=>e = .returned (.int .i64 (rcount (rsays R ⟨⟨key,ver⟩,(a:Int),inc,false⟩) ⟨key,ver⟩ false))∧W'.grownBy w' none):=(show ∀_,_ from fun W' hg=>rcount_at (HA2.out.grown hg) ⟨key,ver⟩ false)
 have q4:decide ((rcount (rsays R ⟨⟨key,ver⟩,(a:Int),inc,false⟩) ⟨key,ver⟩ false:Int)<R.W)=false:=by simpa using hE
 have HEE:=Lib.hid (And.intro hD hE)
 clear hD hE
 refine wp_region_quiet_ext (by kernel_rfl) (by kernel_rfl) ?_
 repeat (any_goals (first|go_big_quiet_step (((go_at_call 118;exact calls_ext (HCO.out _ (by repeat (first|exact grown_refl _|exact grown_drewN _ _|refine grown_ext' ?_ _|refine grown_alloc ?_ _|refine grown_drew ?_))))))|quiet_step (((go_at_call 118;exact calls_ext (HCO.out _ (by repeat (first|exact grown_refl _|exact grown_drewN _ _|refine grown_ext' ?_ _|refine grown_alloc ?_ _|refine grown_drew ?_))))))))
 refine wpQuiet_nil ?_
 intro _ hw'
 obtain⟨xx,hw''⟩:=hw'
 subst hw''
 have HA3:=Lib.hid (HA2.out.grown (grown_ext w3 xx))
 have HT3:Hid (Turn (fence bs W W2) W2 (ext w3 xx)):=(show Turn (fence bs W W2) W2 (ext w3 xx) from turn_after HT2.out (grown_ext _ _))
 clear d0 d1 d2 d3 d4 d5 d6 d7 j0 j1 hw0 hw1
 clear c1 hrb
 generalize ext w3 xx=w4 at *
 obtain⟨⟨d0,d1,d2,d3,d4,d5,d6,d7⟩,j0,j1,hw0,hw1⟩:=boxes HB0.out HB1.out HT3.out
 have hPk:P=(kk:Int):=by first|exact HKK.out|(rw[←HP.out];exact HKK.out)
 subst hPk
 have hpl0:(rsays R ⟨⟨key,ver⟩,(a:Int),inc,false⟩).pends.length≤10000000:=OK.out.lp
 go_upto_region 19 with (go_at_call 119;refine(rends_any HA3.out (HBS.out _ HT3.out.size) kk hkl (by omega)).mono ?_;rintro e w5 ⟨rfl,hr,ht⟩;simp only[encRPend];clear d0 d1 d2 d3 d4 d5 d6 d7 j0 j1 hw0 hw1;have HA4:=Lib.hid hr;have HT4:=Lib.hid (turn_trans HT3.out ht);clear hr ht;obtain⟨⟨d0,d1,d2,d3,d4,d5,d6,d7⟩,j0,j1,hw0,hw1⟩:=boxes HB0.out HB1.out HT4.out)
 generalize hpp:(rsays R ⟨⟨key,ver⟩,(a:Int),inc,false⟩).pends[kk]=pp at *
 obtain⟨⟨pk,pv⟩,⟨pc,pr⟩⟩:=pp
 have HPP:=Lib.hid hpp
 clear hpp
 simp only
 have hg6:w5.grownBy (w5.alloc (.cells #[.string pk,.int .i64 pv,.int .i64 pc,.int .i64 pr] 190)) none:=World.grownBy_alloc _ _ _
 have HA5:Hid (RAt (fence (fence bs W W2) w5 (w5.alloc (.cells #[.string pk,.int .i64 pv,.int .i64 pc,.int .i64 pr] 190))) (w5.alloc (.cells #[.string pk,.int .i64 pv,.int .i64 pc,.int .i64 pr] 190)) rb (rends (rsays R ⟨⟨key,ver⟩,(a:Int),inc,false⟩) ⟨key,ver⟩)):=(show RAt (fence (fence bs W W2) w5 (w5.alloc (.cells #[.string pk,.int .i64 pv,.int .i64 pc,.int .i64 pr] 190))) (w5.alloc (.cells #[.string pk,.int .i64 pv,.int .i64 pc,.int .i64 pr] 190)) rb (rends (rsays R ⟨⟨key,ver⟩,(a:Int),inc,false⟩) ⟨key,ver⟩) from by have h:=HA4.out.fence hg6;rw[HKL.out.2.2] at h;exact h)
 have HG6:=Lib.hid hg6
 have HB2:=Lib.hid (heap_alloc_new w5 (.cells #[.string pk,.int .i64 pv,.int .i64 pc,.int .i64 pr] 190))
 have HBS6:Hid (∀w:World,(w5.alloc (.cells #[.string pk,.int .i64 pv,.int .i64 pc,.int .i64 pr] 190)).heap.size≤w.heap.size→∀k,w.heap.size≤k→fence (fence bs W W2) w5 (w5.alloc (.cells #[.string pk,.int .i64 pv,.int .i64 pc,.int .i64 pr] 190)) k):=(show ∀w:World,(w5.alloc (.cells #[.string pk,.int .i64 pv,.int .i64 pc,.int .i64 pr] 190)).heap.size≤w.heap.size→∀k,w.heap.size≤k→fence (fence bs W W2) w5 (w5.alloc (.cells #[.string pk,.int .i64 pv,.int .i64 pc,.int .i64 pr] 190)) k from fun w hw=>fence_new (HBS.out _ HT4.out.size) hg6.size w hw)
 have HB0':=Lib.hid (fence_at (turn_after HT4.out hg6) HB0.out (Nat.le_refl _))
 have HB1':=Lib.hid (fence_at (turn_after HT4.out hg6) HB1.out (Nat.le_succ _))
 have HT6:=Lib.hid (turn_after HT4.out hg6)
 clear d0 d1 d2 d3 d4 d5 d6 d7 j0 j1 hw0 hw1
 clear hg6
 generalize w5.alloc (.cells #[.string pk,.int .i64 pv,.int .i64 pc,.int .i64 pr] 190)=W6 at *
 have NF0:Hid (¬fence (fence bs W W2) w5 W6 W.heap.size):=(show ¬fence (fence bs W W2) w5 W6 W.heap.size from fun hf=>by have:=(Array.getElem?_eq_some_iff.1 HB0.out).1;rcases hf.1.2 with h|h <;> omega)
 have NF1:Hid (¬fence (fence bs W W2) w5 W6 (W.heap.size+1)):=(show ¬fence (fence bs W W2) w5 W6 (W.heap.size+1) from fun hf=>by have:=(Array.getElem?_eq_some_iff.1 HB1.out).1;rcases hf.1.2 with h|h <;> omega)
 have NF2:Hid (¬fence (fence bs W W2) w5 W6 w5.heap.size):=(show ¬fence (fence bs W W2) w5 W6 w5.heap.size from fun hf=>by have:=(Array.getElem?_eq_some_iff.1 HB2.out).1;rcases hf.2 with h|h <;> omega)
 have d5:W6.cell? ⟨W.heap.size,5,none⟩=some (.int .i64 ver):=(cell_block HB0'.out 5).trans rfl
 have d6:W6.cell? ⟨W.heap.size,6,none⟩=some (.string key):=(cell_block HB0'.out 6).trans rfl
 have hw6:W.heap.size<W6.heap.size:=(Array.getElem?_eq_some_iff.1 HB0'.out).1
 have HVL:Hid (∀W',W6.grownBy W' none→Calls Tryz.prog 120 #[.pointer (some ⟨rb,0,none⟩),.string key] W' fun e w'=>e = .returned (.agg #[.string key,.int .i64 (rlookV R key).ver,.bool (rlookV R key).dead])∧W'.grownBy w' none):=(show ∀_,_ from fun W' hg=>rvalue_at (HA5.out.grown hg) key)
 have q5:decide ((rlookV R key).ver<ver)=false:=by simpa using hF
 have HFF:=Lib.hid hF
 clear hF
 refine wp_region_quiet_ext (by kernel_rfl) (by kernel_rfl) ?_
 repeat (any_goals (first|go_big_quiet_step (((go_at_call 120;exact calls_ext (HVL.out _ (by repeat (first|exact grown_refl _|exact grown_drewN _ _|refine grown_ext' ?_ _|refine grown_alloc ?_ _|refine grown_drew ?_))))))|quiet_step (((go_at_call 120;exact calls_ext (HVL.out _ (by repeat (first|exact grown_refl _|exact grown_drewN _ _|refine grown_ext' ?_ _|refine grown_alloc ?_ _|refine grown_drew ?_))))))))
 refine wpQuiet_nil ?_
 intro _ hw'
 obtain⟨xx,hw''⟩:=hw'
 subst hw''
 have HA6:=Lib.hid (HA5.out.grown (grown_ext W6 xx))
 have HT7:Hid (Turn (fence (fence bs W W2) w5 W6) W6 (ext W6 xx)):=(show Turn (fence (fence bs W W2) w5 W6) W6 (ext W6 xx) from turn_grown (grown_ext _ _))
 clear d5 d6 hw6
 generalize ext W6 xx=w7 at *
 have e0:=turn_block HT7.out HB0'.out NF0.out
 have e2:=turn_block HT7.out HB2.out NF2.out
 have d5:=(cell_block e0 5).trans rfl
 have d6:=(cell_block e0 6).trans rfl
 have g0:=(cell_block e2 0).trans rfl
 have g1:=(cell_block e2 1).trans rfl
 have g2:=(cell_block e2 2).trans rfl
 have g3:=(cell_block e2 3).trans rfl
 clear e0 e2
 go_upto_region 21 with fail
 go_upto_region 36 with (go_at_call 122;refine(rdone_any HA6.out (HBS6.out _ HT7.out.size) ⟨pk,pv⟩ ⟨pc,pr⟩ 0 (by have:=OK.out.lc;show R.calls.length≤_;omega)).mono ?_;rintro e w9 ⟨rfl,hr,ht⟩;have HA8:=Lib.hid hr;have HT9:=Lib.hid (turn_trans HT7.out ht);clear hr ht)
 have hid:(⟨pk,pv⟩:ID)=⟨key,ver⟩:=by have h:=HKL.out.2.1;first|exact h|(rw[HPP.out] at h;exact h)
 have hho:(rdone (rends (rsays R ⟨⟨key,ver⟩,(a:Int),inc,false⟩) ⟨key,ver⟩) ⟨pk,pv⟩ ⟨pc,pr⟩ 0).holds=(rsays R ⟨⟨key,ver⟩,(a:Int),inc,false⟩).holds:=by unfold rdone;split <;> rfl
 have hli:(rdone (rends (rsays R ⟨⟨key,ver⟩,(a:Int),inc,false⟩) ⟨key,ver⟩) ⟨pk,pv⟩ ⟨pc,pr⟩ 0).lives=R.lives:=by unfold rdone;split <;> rfl
 have hnd:∀x∈(rsays R ⟨⟨key,ver⟩,(a:Int),inc,false⟩).holds,0≤x.node∧x.node<(R.lives.length:Int):=by
  intro x hx
  rcases List.mem_append.1 hx with hx|hx
  ·exact OK.out.nd x (List.mem_filter.1 hx).1
  ·have:=List.mem_singleton.1 hx
   subst this
   exact⟨by simp only;omega,by simp only;omega⟩
 have hhl:(rsays R ⟨⟨key,ver⟩,(a:Int),inc,false⟩).holds.length≤10000001:=by
  show((R.holds.filter _) ++ [_]).length≤_
  rw[List.length_append]
  have:=List.length_filter_le (fun y:RHold=>decide (y.id≠(⟨key,ver⟩:ID)) || decide (y.node≠(a:Int))) R.holds
  have:=OK.out.lh
  simp only[List.length_singleton]
  omega
 have HND:=Lib.hid (And.intro hho (And.intro hli (And.intro hnd hhl)))
 clear hho hli hnd hhl g0 g1 g2 g3
 go_wp2_with (go_at_call 123;refine(rclean_any HA8.out (HBS6.out _ HT9.out.size) (by rw[HND.out.1,HND.out.2.1];exact HND.out.2.2.1) (by rw[HND.out.1];have:=HND.out.2.2.2;omega) (by rw[HND.out.2.1];exact OK.out.ll)).mono ?_;rintro e wz ⟨rfl,hr,ht⟩;have HZ:=Lib.hid (fence_end HG6.out hr (turn_trans HT9.out ht));clear hr ht)
 first|go_end0|refine bodyPost_ret (results_none rfl _ _ _) rfl ?_
 refine⟨rfl,?_⟩
 rw[HE.out]
 have hi1:pk=key:=congrArg ID.key hid
 have hi2:pv=ver:=congrArg ID.ver hid
 subst hi1 hi2
 exact fence_end HG2.out HZ.out.1 (turn_trans HT4.out HZ.out.2)
end
end Go.Proofs.YtjfelfjobeeenaaGreat
