/- The document's Do at some kinds: the walks. Conditions: none, or as the theorems say. -/
import Derived.Test.YtjfelfjobeeenaaGreatN27
import Derived.Deep.DeepCutAuto
namespace Go.Proofs.YtjfelfjobeeenaaGreat
set_option maxHeartbeats 200000000
set_option linter.unusedVariables false
set_option linter.unusedSimpArgs false
open Go.RowKit Go.Sf Go.Shelf
section
variable {bs : Nat → Prop} {W : World} {rb : Nat} {R : yp}
set_option maxRecDepth 100000 in
theorem rdo_6y (h:RAt bs W rb R) (hbs:∀k,W.heap.size≤k→bs k) (ok:ROk R) (node zvw zvx zvy zvz code:Int) (key:ByteArray) (hn0:0≤node) (hn1:node<(R.zv0.length:Int)) (hB:vq R ⟨6,node,zvw,zvx,zvy,zvz,key,code⟩=true):Calls Tryz.prog 60 #[.pointer (some ⟨rb,0,none⟩),zp ⟨6,node,zvw,zvx,zvy,zvz,key,code⟩] W fun e w'=>e = .returned (.tuple #[])∧RAt bs w' rb (rdo R ⟨6,node,zvw,zvx,zvy,zvz,key,code⟩)∧yc bs W w':=by
 obtain⟨a,rfl⟩:=Int.eq_ofNat_of_zero_le hn0;have hal:a<R.zv0.length:=by omega
 obtain⟨W2,hE⟩:∃W2,(W.alloc (.cells #[.int .u8 6,.int .i64 (a:Int),.int .i64 zvw,.int .i64 zvx,.int .i64 zvy,.int .i64 zvz,.string key,.int .i64 code] 29)).alloc (.cells #[.string key,.int .i64 zvz] 59)=W2:=⟨_,rfl⟩;obtain⟨HG2,HB0,HB1,HA0,HBS,HT0⟩:=qg h hbs _ _ W2 hE;have HE:=za hE;clear hE;have hrb0:rb<W.heap.size:=h.lt;have OK:=za ok;clear h hbs ok;simp only[zp]
 go_enter Tryz.func60,Tryz.ntmps60
 go_upto_region 29 with fail
 rw[HE.out];clear HE;obtain⟨⟨d0,d1,d2,d3,d4,d5,d6,d7⟩,j0,j1,hw0,hw1⟩:=xl HB0.out HB1.out HT0.out;have HBG:=za (Xf HA0.out (HBS.out _ (Nat.le_refl _)) ⟨6,(a:Int),zvw,zvx,zvy,zvz,key,code⟩ (by have:=OK.out.lp;omega))
 simp only[zp] at HBG;rw[hB] at HBG;have HTT:=za (show qf R ⟨6,(a:Int),zvw,zvx,zvy,zvz,key,code⟩=xp R ⟨6,(a:Int),zvw,zvx,zvy,zvz,key,code⟩ from by unfold qf;rw[hB];rfl)
 have HBB:=za hB;have x0:=OK.out.x0;have x1:=OK.out.x1;clear hB
 go_upto_region 30 with (go_at_call 113;refine HBG.out.mono ?_;rintro e w1 ⟨rfl,hr,ht⟩;rw[HTT.out] at hr;clear d0 d1 d2 d3 d4 d5 d6 d7 j0 j1 hw0 hw1;have HA1:=za hr;have HT1:=za ht;clear hr ht;obtain⟨⟨d0,d1,d2,d3,d4,d5,d6,d7⟩,j0,j1,hw0,hw1⟩:=xl HB0.out HB1.out HT1.out)
 have c3:w1.cell? ⟨rb,3,none⟩=some (.int .i64 R.next):=HA1.out.c3;have hrb:=HA1.out.lt
 go_still_tail 8,(by kernel_rfl)
 go_upto_region 31 with (go_at_call 121;refine(zhr (HA1.out.grown (zf (zd _))) (HBS.out _ (show W2.heap.size≤w1.heap.size from HT1.out.size)) key ⟨R.next,true⟩ (by have:=OK.out.lv;show R.vals.length≤_;omega)).mono ?_;rintro e w2 ⟨rfl,hr,ht⟩;clear d0 d1 d2 d3 d4 d5 d6 d7 j0 j1 hw0 hw1;clear c3 hrb;have HA2:=za hr;have HT2:=za (yj (yx HT1.out (zf (zd _))) ht);clear hr ht;obtain⟨⟨d0,d1,d2,d3,d4,d5,d6,d7⟩,j0,j1,hw0,hw1⟩:=xl HB0.out HB1.out HT2.out)
 go_upto_region 32 with (go_at_call 114;refine(zb8 HA2.out (HBS.out _ HT2.out.size) zvw ⟨zvy,0,true,0⟩ (by have:=OK.out.lc;show R.calls.length≤_;omega)).mono ?_;rintro e w3 ⟨rfl,hr,ht⟩;clear d0 d1 d2 d3 d4 d5 d6 d7 j0 j1 hw0 hw1;have HA3:=za hr;have HT3:=za (yj HT2.out ht);clear hr ht)
 have c3:w3.cell? ⟨rb,3,none⟩=some (.int .i64 R.next):=HA3.out.c3;have z3:=HA3.out.free 3
 go_upto_region 36 with fail
 obtain⟨hq1,hq2⟩:=HA3.out.setNext (R.next+1);have HA4:=za hq1;have HT4:=za (yj HT3.out hq2);clear hq1 hq2 c3 z3
 go_wp2_with (go_at_call 123;refine(qc HA4.out (HBS.out _ HT4.out.size) (by exact OK.out.nd) (by have:=OK.out.lh;show R.holds.length≤_;omega) (by exact OK.out.ll)).mono ?_;rintro e wz ⟨rfl,hr,ht⟩;have HZ:=za (xj HG2.out hr (yj HT4.out ht));clear hr ht)
 first|go_end0|refine bodyPost_ret (results_none rfl _ _ _) rfl ?_
 refine⟨rfl,?_⟩;have hZ:=HZ.out;have e:rdo R ⟨6,(a:Int),zvw,zvx,zvy,zvz,key,code⟩=ve { xp R ⟨6,(a:Int),zvw,zvx,zvy,zvz,key,code⟩ with vals:=ym R.vals key ⟨R.next,true⟩,calls:=ym R.calls zvw ⟨zvy,0,true,0⟩,next:=R.next+1 }:=by unfold rdo;simp[HBB.out]
 rw[e]
 exact hZ
end
section
variable {bs : Nat → Prop} {W : World} {rb : Nat} {R : yp}
set_option maxRecDepth 100000 in
theorem rdo_4A (h:RAt bs W rb R) (hbs:∀k,W.heap.size≤k→bs k) (ok:ROk R) (node zvw zvx zvy zvz code:Int) (key:ByteArray) (hn0:0≤node) (hn1:node<(R.zv0.length:Int)) (hA:zvx<1):Calls Tryz.prog 60 #[.pointer (some ⟨rb,0,none⟩),zp ⟨4,node,zvw,zvx,zvy,zvz,key,code⟩] W fun e w'=>e = .returned (.tuple #[])∧RAt bs w' rb (rdo R ⟨4,node,zvw,zvx,zvy,zvz,key,code⟩)∧yc bs W w':=by
 obtain⟨a,rfl⟩:=Int.eq_ofNat_of_zero_le hn0;have hal:a<R.zv0.length:=by omega
 have HE:=za (show rdo R (⟨4,(a:Int),zvw,zvx,zvy,zvz,key,code⟩:Cmd)=R from by
  have h:(js R (⟨4,(a:Int),zvw,zvx,zvy,zvz,key,code⟩:Cmd) && rwanted R ⟨key,zvz⟩)=false:=by simp[js,show ¬(1≤zvx) from by omega]
  unfold rdo zf1;simp only[show ¬((4:Int)=1) by decide,show ¬((4:Int)=2) by decide,show ¬((4:Int)=3) by decide,if_false,if_true,h,Bool.false_eq_true])
 obtain⟨W2,hE⟩:∃W2,(W.alloc (.cells #[.int .u8 4,.int .i64 (a:Int),.int .i64 zvw,.int .i64 zvx,.int .i64 zvy,.int .i64 zvz,.string key,.int .i64 code] 29)).alloc (.cells #[.string key,.int .i64 zvz] 59)=W2:=⟨_,rfl⟩;obtain⟨HG2,HB0,HB1,HA0,HBS,HT0⟩:=qg h hbs _ _ W2 hE;have HE:=za hE;clear hE;have hrb0:rb<W.heap.size:=h.lt;have OK:=za ok;clear h hbs ok;simp only[zp]
 go_enter Tryz.func60,Tryz.ntmps60
 go_upto_region 14 with fail
 rw[HE.out];clear HE;obtain⟨⟨d0,d1,d2,d3,d4,d5,d6,d7⟩,j0,j1,hw0,hw1⟩:=xl HB0.out HB1.out HT0.out;obtain⟨gL,capL,c4,f0,y0,hcl,hcm⟩:=HA0.out.live hal;obtain⟨LV,hLV⟩:∃x,R.zv0.getD a 0=x:=⟨_,rfl⟩;rw[hLV] at f0;have hgL:gL<W2.heap.size:=yo f0;have hrbw:rb<W2.heap.size:=HA0.out.lt;have q1:decide (zvx<1)=true:=by simpa using hA
 have HH:=za hA;clear hA hLV
 go_quiet (fail)
 go_wp2;refine bodyPost_ret (results_none rfl _ _ _) rfl ⟨rfl,?_⟩;rw[HE.out]
 exact xj HG2.out (HA0.out.grown (zj _ _)) (xn (zj _ _))
end
section
variable {bs : Nat → Prop} {W : World} {rb : Nat} {R : yp}
set_option maxRecDepth 100000 in
theorem rdo_4B (h:RAt bs W rb R) (hbs:∀k,W.heap.size≤k→bs k) (ok:ROk R) (node zvw zvx zvy zvz code:Int) (key:ByteArray) (hn0:0≤node) (hn1:node<(R.zv0.length:Int)) (hA:1≤zvx) (hB:¬R.zv0.getD node.toNat 0=zvx):Calls Tryz.prog 60 #[.pointer (some ⟨rb,0,none⟩),zp ⟨4,node,zvw,zvx,zvy,zvz,key,code⟩] W fun e w'=>e = .returned (.tuple #[])∧RAt bs w' rb (rdo R ⟨4,node,zvw,zvx,zvy,zvz,key,code⟩)∧yc bs W w':=by
 obtain⟨a,rfl⟩:=Int.eq_ofNat_of_zero_le hn0;have hal:a<R.zv0.length:=by omega
 have hat:((a:Nat):Int).toNat=a:=rfl;rw[hat] at hB;clear hat;have HE:=za (show rdo R (⟨4,(a:Int),zvw,zvx,zvy,zvz,key,code⟩:Cmd)=R from by
  have h:(js R (⟨4,(a:Int),zvw,zvx,zvy,zvz,key,code⟩:Cmd) && rwanted R ⟨key,zvz⟩)=false:=by have e:ui R (a:Int)=R.zv0.getD a 0:=rfl;simp only[js,e,decide_eq_false hB,Bool.and_false,Bool.false_and]
  unfold rdo zf1;simp only[show ¬((4:Int)=1) by decide,show ¬((4:Int)=2) by decide,show ¬((4:Int)=3) by decide,if_false,if_true,h,Bool.false_eq_true])
 obtain⟨W2,hE⟩:∃W2,(W.alloc (.cells #[.int .u8 4,.int .i64 (a:Int),.int .i64 zvw,.int .i64 zvx,.int .i64 zvy,.int .i64 zvz,.string key,.int .i64 code] 29)).alloc (.cells #[.string key,.int .i64 zvz] 59)=W2:=⟨_,rfl⟩;obtain⟨HG2,HB0,HB1,HA0,HBS,HT0⟩:=qg h hbs _ _ W2 hE;have HE:=za hE;clear hE;have hrb0:rb<W.heap.size:=h.lt;have OK:=za ok;clear h hbs ok;simp only[zp]
 go_enter Tryz.func60,Tryz.ntmps60
 go_upto_region 14 with fail
 rw[HE.out];clear HE;obtain⟨⟨d0,d1,d2,d3,d4,d5,d6,d7⟩,j0,j1,hw0,hw1⟩:=xl HB0.out HB1.out HT0.out;obtain⟨gL,capL,c4,f0,y0,hcl,hcm⟩:=HA0.out.live hal;obtain⟨LV,hLV⟩:∃x,R.zv0.getD a 0=x:=⟨_,rfl⟩;rw[hLV] at f0;have hgL:gL<W2.heap.size:=yo f0;have hrbw:rb<W2.heap.size:=HA0.out.lt;have q1:decide (zvx<1)=false:=by simp;omega
 have q2:(LV != zvx)=true:=by rw[←hLV];simpa using hB
 have HH:=za (And.intro hA hB);clear hA hB hLV
 go_quiet (fail)
 go_wp2;refine bodyPost_ret (results_none rfl _ _ _) rfl ⟨rfl,?_⟩;rw[HE.out]
 exact xj HG2.out (HA0.out.grown (zj _ _)) (xn (zj _ _))
end
section
variable {bs : Nat → Prop} {W : World} {rb : Nat} {R : yp}
set_option maxRecDepth 100000 in
theorem rdo_4C (h:RAt bs W rb R) (hbs:∀k,W.heap.size≤k→bs k) (ok:ROk R) (node zvw zvx zvy zvz code:Int) (key:ByteArray) (hn0:0≤node) (hn1:node<(R.zv0.length:Int)) (hA:1≤zvx) (hB:R.zv0.getD node.toNat 0=zvx) (hC:rwanted R (⟨key,zvz⟩:ID)=false):Calls Tryz.prog 60 #[.pointer (some ⟨rb,0,none⟩),zp ⟨4,node,zvw,zvx,zvy,zvz,key,code⟩] W fun e w'=>e = .returned (.tuple #[])∧RAt bs w' rb (rdo R ⟨4,node,zvw,zvx,zvy,zvz,key,code⟩)∧yc bs W w':=by
 obtain⟨a,rfl⟩:=Int.eq_ofNat_of_zero_le hn0;have hal:a<R.zv0.length:=by omega
 have hat:((a:Nat):Int).toNat=a:=rfl;rw[hat] at hB;clear hat;have HE:=za (show rdo R (⟨4,(a:Int),zvw,zvx,zvy,zvz,key,code⟩:Cmd)=R from by
  have h:(js R (⟨4,(a:Int),zvw,zvx,zvy,zvz,key,code⟩:Cmd) && rwanted R ⟨key,zvz⟩)=false:=by rw[hC];simp
  unfold rdo zf1;simp only[show ¬((4:Int)=1) by decide,show ¬((4:Int)=2) by decide,show ¬((4:Int)=3) by decide,if_false,if_true,h,Bool.false_eq_true])
 obtain⟨W2,hE⟩:∃W2,(W.alloc (.cells #[.int .u8 4,.int .i64 (a:Int),.int .i64 zvw,.int .i64 zvx,.int .i64 zvy,.int .i64 zvz,.string key,.int .i64 code] 29)).alloc (.cells #[.string key,.int .i64 zvz] 59)=W2:=⟨_,rfl⟩;obtain⟨HG2,HB0,HB1,HA0,HBS,HT0⟩:=qg h hbs _ _ W2 hE;have HE:=za hE;clear hE;have hrb0:rb<W.heap.size:=h.lt;have OK:=za ok;clear h hbs ok;simp only[zp]
 go_enter Tryz.func60,Tryz.ntmps60
 go_upto_region 14 with fail
 rw[HE.out];clear HE;obtain⟨⟨d0,d1,d2,d3,d4,d5,d6,d7⟩,j0,j1,hw0,hw1⟩:=xl HB0.out HB1.out HT0.out;obtain⟨gL,capL,c4,f0,y0,hcl,hcm⟩:=HA0.out.live hal;obtain⟨LV,hLV⟩:∃x,R.zv0.getD a 0=x:=⟨_,rfl⟩;rw[hLV] at f0;have hgL:gL<W2.heap.size:=yo f0;have hrbw:rb<W2.heap.size:=HA0.out.lt;have q1:decide (zvx<1)=false:=by simp;omega
 have q2:(LV != zvx)=false:=by rw[←hLV];simpa using hB
 have HH:=za (And.intro hA hB);clear hA hB hLV;have HWT:Hid (∀W',W2.grownBy W' none→Calls Tryz.prog 115 #[.pointer (some ⟨rb,0,none⟩),.agg #[.string key,.int .i64 zvz]] W' fun e w'=>e = .returned (.bool false)∧W'.grownBy w' none):=(show ∀_,_ from fun W' hg=>by have h:=Vl (HA0.out.grown hg) ⟨key,zvz⟩;rw[hC] at h;exact h)
 have HC:=za hC;clear hC;refine zo (by kernel_rfl) (by kernel_rfl) ?_
 repeat (any_goals (first|go_big_quiet_step (((go_at_call 115;exact zq (HWT.out _ (by repeat (first|exact zd _|exact zj _ _|refine zi ?_ _|refine zg ?_ _|refine zf ?_))))))|quiet_step (((go_at_call 115;exact zq (HWT.out _ (by repeat (first|exact zd _|exact zj _ _|refine zi ?_ _|refine zg ?_ _|refine zf ?_))))))))
 refine wpQuiet_nil ?_;intro _ hw';obtain⟨xx,hw''⟩:=hw';subst hw'';go_wp2;refine bodyPost_ret (results_none rfl _ _ _) rfl ⟨rfl,?_⟩;rw[HE.out]
 exact xj HG2.out (HA0.out.grown (yf _ _)) (xn (yf _ _))
end
section
variable {bs : Nat → Prop} {W : World} {rb : Nat} {R : yp}
set_option maxRecDepth 100000 in
theorem rdo_4D (h:RAt bs W rb R) (hbs:∀k,W.heap.size≤k→bs k) (ok:ROk R) (node zvw zvx zvy zvz code:Int) (key:ByteArray) (hn0:0≤node) (hn1:node<(R.zv0.length:Int)) (hA:1≤zvx) (hB:R.zv0.getD node.toNat 0=zvx) (hC:rwanted R (⟨key,zvz⟩:ID)=true) (hD:¬0≤ug (yg R ⟨(⟨key,zvz⟩:ID),node,zvx,false⟩) (⟨key,zvz⟩:ID)):Calls Tryz.prog 60 #[.pointer (some ⟨rb,0,none⟩),zp ⟨4,node,zvw,zvx,zvy,zvz,key,code⟩] W fun e w'=>e = .returned (.tuple #[])∧RAt bs w' rb (rdo R ⟨4,node,zvw,zvx,zvy,zvz,key,code⟩)∧yc bs W w':=by
 obtain⟨a,rfl⟩:=Int.eq_ofNat_of_zero_le hn0;have hal:a<R.zv0.length:=by omega
 have hat:((a:Nat):Int).toNat=a:=rfl;rw[hat] at hB;clear hat;have hnow:(js R (⟨4,(a:Int),zvw,zvx,zvy,zvz,key,code⟩:Cmd) && rwanted R ⟨key,zvz⟩)=true:=by have e:ui R (a:Int)=R.zv0.getD a 0:=rfl;simp only[js,e,decide_eq_true hA,decide_eq_true hB,hC,Bool.and_self]
 have HE:=za (show rdo R (⟨4,(a:Int),zvw,zvx,zvy,zvz,key,code⟩:Cmd)=(yg R ⟨⟨key,zvz⟩,(a:Int),zvx,false⟩) from by
  have h2:=zhe _ _ hD;unfold rdo zf1;simp only[show ¬((4:Int)=1) by decide,show ¬((4:Int)=2) by decide,show ¬((4:Int)=3) by decide,if_false,if_true,hnow,h2])
 clear hnow;obtain⟨W2,hE⟩:∃W2,(W.alloc (.cells #[.int .u8 4,.int .i64 (a:Int),.int .i64 zvw,.int .i64 zvx,.int .i64 zvy,.int .i64 zvz,.string key,.int .i64 code] 29)).alloc (.cells #[.string key,.int .i64 zvz] 59)=W2:=⟨_,rfl⟩;obtain⟨HG2,HB0,HB1,HA0,HBS,HT0⟩:=qg h hbs _ _ W2 hE;have HE:=za hE;clear hE;have hrb0:rb<W.heap.size:=h.lt;have OK:=za ok;clear h hbs ok;simp only[zp]
 go_enter Tryz.func60,Tryz.ntmps60
 go_upto_region 14 with fail
 rw[HE.out];clear HE;obtain⟨⟨d0,d1,d2,d3,d4,d5,d6,d7⟩,j0,j1,hw0,hw1⟩:=xl HB0.out HB1.out HT0.out;obtain⟨gL,capL,c4,f0,y0,hcl,hcm⟩:=HA0.out.live hal;obtain⟨LV,hLV⟩:∃x,R.zv0.getD a 0=x:=⟨_,rfl⟩;rw[hLV] at f0;have hgL:gL<W2.heap.size:=yo f0;have hrbw:rb<W2.heap.size:=HA0.out.lt;have q1:decide (zvx<1)=false:=by simp;omega
 have q2:(LV != zvx)=false:=by rw[←hLV];simpa using hB
 have HH:=za (And.intro hA hB);clear hA hB hLV;have HWT:Hid (∀W',W2.grownBy W' none→Calls Tryz.prog 115 #[.pointer (some ⟨rb,0,none⟩),.agg #[.string key,.int .i64 zvz]] W' fun e w'=>e = .returned (.bool true)∧W'.grownBy w' none):=(show ∀_,_ from fun W' hg=>by have h:=Vl (HA0.out.grown hg) ⟨key,zvz⟩;rw[hC] at h;exact h)
 have HC:=za hC;clear hC;refine zo (by kernel_rfl) (by kernel_rfl) ?_
 repeat (any_goals (first|go_big_quiet_step (((go_at_call 115;exact zq (HWT.out _ (by repeat (first|exact zd _|exact zj _ _|refine zi ?_ _|refine zg ?_ _|refine zf ?_))))))|quiet_step (((go_at_call 115;exact zq (HWT.out _ (by repeat (first|exact zd _|exact zj _ _|refine zi ?_ _|refine zg ?_ _|refine zf ?_))))))))
 refine wpQuiet_nil ?_;intro _ hw';obtain⟨xx,hw''⟩:=hw';subst hw'';have HAX:=za (HA0.out.grown (yf W2 xx));have HTX:=za (show yc (fence bs W W2) W2 (ext W2 xx) from xn (yf _ _))
 clear d0 d1 d2 d3 d4 d5 d6 d7 j0 j1 hw0 hw1;clear c4 f0 y0 hcl hcm hgL;generalize ext W2 xx=w1 at *;obtain⟨⟨d0,d1,d2,d3,d4,d5,d6,d7⟩,j0,j1,hw0,hw1⟩:=xl HB0.out HB1.out HTX.out
 go_upto_region 16 with (go_at_call 116;refine(Un HAX.out (HBS.out _ HTX.out.size) ⟨⟨key,zvz⟩,(a:Int),zvx,false⟩ (by have:=OK.out.lh;omega)).mono ?_;rintro e w2 ⟨rfl,hr,ht⟩;clear d0 d1 d2 d3 d4 d5 d6 d7 j0 j1 hw0 hw1;have HA1:=za hr;have HT1:=za (yj HTX.out ht);clear hr ht;obtain⟨⟨d0,d1,d2,d3,d4,d5,d6,d7⟩,j0,j1,hw0,hw1⟩:=xl HB0.out HB1.out HT1.out)
 have HPE:Hid (Calls Tryz.prog 117 #[.pointer (some ⟨rb,0,none⟩),.agg #[.string key,.int .i64 zvz]] w2 fun e w'=>e = .returned (.int .i64 (ug (yg R ⟨⟨key,zvz⟩,(a:Int),zvx,false⟩) ⟨key,zvz⟩))∧w2.grownBy w' none):=(show Calls _ _ _ _ _ from Xs HA1.out ⟨key,zvz⟩)
 generalize hP:ug (yg R ⟨⟨key,zvz⟩,(a:Int),zvx,false⟩) ⟨key,zvz⟩=P at *;have HP:=za hP;clear hP
 go_upto_region 17 with (go_at_call 117;refine HPE.out.mono ?_;rintro e w3 ⟨rfl,hg⟩;clear d0 d1 d2 d3 d4 d5 d6 d7 j0 j1 hw0 hw1;have HA2:=za (HA1.out.grown hg);have HT2:=za (yx HT1.out hg);clear hg;obtain⟨⟨d0,d1,d2,d3,d4,d5,d6,d7⟩,j0,j1,hw0,hw1⟩:=xl HB0.out HB1.out HT2.out)
 have q3:decide (P<0)=true:=by simp;omega
 have HDD:=za hD;clear hD
 go_quiet (fail)
 go_wp2;refine bodyPost_ret (results_none rfl _ _ _) rfl ⟨rfl,?_⟩;rw[HE.out]
 exact xj HG2.out (HA2.out.grown (zj _ _)) (yx HT2.out (zj _ _))
end
section
variable {bs : Nat → Prop} {W : World} {rb : Nat} {R : yp}
set_option maxRecDepth 100000 in
theorem rdo_4E (h:RAt bs W rb R) (hbs:∀k,W.heap.size≤k→bs k) (ok:ROk R) (node zvw zvx zvy zvz code:Int) (key:ByteArray) (hn0:0≤node) (hn1:node<(R.zv0.length:Int)) (hA:1≤zvx) (hB:R.zv0.getD node.toNat 0=zvx) (hC:rwanted R (⟨key,zvz⟩:ID)=true) (hD:0≤ug (yg R ⟨(⟨key,zvz⟩:ID),node,zvx,false⟩) (⟨key,zvz⟩:ID)) (hE:(us (yg R ⟨(⟨key,zvz⟩:ID),node,zvx,false⟩) (⟨key,zvz⟩:ID) false:Int)<R.W):Calls Tryz.prog 60 #[.pointer (some ⟨rb,0,none⟩),zp ⟨4,node,zvw,zvx,zvy,zvz,key,code⟩] W fun e w'=>e = .returned (.tuple #[])∧RAt bs w' rb (rdo R ⟨4,node,zvw,zvx,zvy,zvz,key,code⟩)∧yc bs W w':=by
 obtain⟨a,rfl⟩:=Int.eq_ofNat_of_zero_le hn0;have hal:a<R.zv0.length:=by omega
 have hat:((a:Nat):Int).toNat=a:=rfl;rw[hat] at hB;clear hat;have hnow:(js R (⟨4,(a:Int),zvw,zvx,zvy,zvz,key,code⟩:Cmd) && rwanted R ⟨key,zvz⟩)=true:=by have e:ui R (a:Int)=R.zv0.getD a 0:=rfl;simp only[js,e,decide_eq_true hA,decide_eq_true hB,hC,Bool.and_self]
 obtain⟨kk,hkk,hkl,hmg,hpi,her⟩:=Qb _ _ hD;have HE:=za (show rdo R (⟨4,(a:Int),zvw,zvx,zvy,zvz,key,code⟩:Cmd)=(yg R ⟨⟨key,zvz⟩,(a:Int),zvx,false⟩) from by
  unfold rdo zf1;simp only[show ¬((4:Int)=1) by decide,show ¬((4:Int)=2) by decide,show ¬((4:Int)=3) by decide,if_false,if_true,hnow,hmg,if_pos hE])
 have HKL:=za (And.intro hmg (And.intro hpi her));have HKK:=za hkk;clear hmg hpi her;clear hnow;obtain⟨W2,hE⟩:∃W2,(W.alloc (.cells #[.int .u8 4,.int .i64 (a:Int),.int .i64 zvw,.int .i64 zvx,.int .i64 zvy,.int .i64 zvz,.string key,.int .i64 code] 29)).alloc (.cells #[.string key,.int .i64 zvz] 59)=W2:=⟨_,rfl⟩;obtain⟨HG2,HB0,HB1,HA0,HBS,HT0⟩:=qg h hbs _ _ W2 hE;have HE:=za hE;clear hE;have hrb0:rb<W.heap.size:=h.lt;have OK:=za ok;clear h hbs ok;simp only[zp]
 go_enter Tryz.func60,Tryz.ntmps60
 go_upto_region 14 with fail
 rw[HE.out];clear HE;obtain⟨⟨d0,d1,d2,d3,d4,d5,d6,d7⟩,j0,j1,hw0,hw1⟩:=xl HB0.out HB1.out HT0.out;obtain⟨gL,capL,c4,f0,y0,hcl,hcm⟩:=HA0.out.live hal;obtain⟨LV,hLV⟩:∃x,R.zv0.getD a 0=x:=⟨_,rfl⟩;rw[hLV] at f0;have hgL:gL<W2.heap.size:=yo f0;have hrbw:rb<W2.heap.size:=HA0.out.lt;have q1:decide (zvx<1)=false:=by simp;omega
 have q2:(LV != zvx)=false:=by rw[←hLV];simpa using hB
 have HH:=za (And.intro hA hB);clear hA hB hLV;have HWT:Hid (∀W',W2.grownBy W' none→Calls Tryz.prog 115 #[.pointer (some ⟨rb,0,none⟩),.agg #[.string key,.int .i64 zvz]] W' fun e w'=>e = .returned (.bool true)∧W'.grownBy w' none):=(show ∀_,_ from fun W' hg=>by have h:=Vl (HA0.out.grown hg) ⟨key,zvz⟩;rw[hC] at h;exact h)
 have HC:=za hC;clear hC;refine zo (by kernel_rfl) (by kernel_rfl) ?_
 repeat (any_goals (first|go_big_quiet_step (((go_at_call 115;exact zq (HWT.out _ (by repeat (first|exact zd _|exact zj _ _|refine zi ?_ _|refine zg ?_ _|refine zf ?_))))))|quiet_step (((go_at_call 115;exact zq (HWT.out _ (by repeat (first|exact zd _|exact zj _ _|refine zi ?_ _|refine zg ?_ _|refine zf ?_))))))))
 refine wpQuiet_nil ?_;intro _ hw';obtain⟨xx,hw''⟩:=hw';subst hw'';have HAX:=za (HA0.out.grown (yf W2 xx));have HTX:=za (show yc (fence bs W W2) W2 (ext W2 xx) from xn (yf _ _))
 clear d0 d1 d2 d3 d4 d5 d6 d7 j0 j1 hw0 hw1;clear c4 f0 y0 hcl hcm hgL;generalize ext W2 xx=w1 at *;obtain⟨⟨d0,d1,d2,d3,d4,d5,d6,d7⟩,j0,j1,hw0,hw1⟩:=xl HB0.out HB1.out HTX.out
 go_upto_region 16 with (go_at_call 116;refine(Un HAX.out (HBS.out _ HTX.out.size) ⟨⟨key,zvz⟩,(a:Int),zvx,false⟩ (by have:=OK.out.lh;omega)).mono ?_;rintro e w2 ⟨rfl,hr,ht⟩;clear d0 d1 d2 d3 d4 d5 d6 d7 j0 j1 hw0 hw1;have HA1:=za hr;have HT1:=za (yj HTX.out ht);clear hr ht;obtain⟨⟨d0,d1,d2,d3,d4,d5,d6,d7⟩,j0,j1,hw0,hw1⟩:=xl HB0.out HB1.out HT1.out)
 have HPE:Hid (Calls Tryz.prog 117 #[.pointer (some ⟨rb,0,none⟩),.agg #[.string key,.int .i64 zvz]] w2 fun e w'=>e = .returned (.int .i64 (ug (yg R ⟨⟨key,zvz⟩,(a:Int),zvx,false⟩) ⟨key,zvz⟩))∧w2.grownBy w' none):=(show Calls _ _ _ _ _ from Xs HA1.out ⟨key,zvz⟩)
 generalize hP:ug (yg R ⟨⟨key,zvz⟩,(a:Int),zvx,false⟩) ⟨key,zvz⟩=P at *;have HP:=za hP;clear hP
 go_upto_region 17 with (go_at_call 117;refine HPE.out.mono ?_;rintro e w3 ⟨rfl,hg⟩;clear d0 d1 d2 d3 d4 d5 d6 d7 j0 j1 hw0 hw1;have HA2:=za (HA1.out.grown hg);have HT2:=za (yx HT1.out hg);clear hg;obtain⟨⟨d0,d1,d2,d3,d4,d5,d6,d7⟩,j0,j1,hw0,hw1⟩:=xl HB0.out HB1.out HT2.out)
 have q3:decide (P<0)=false:=by simp;omega
 have c1:w3.cell? ⟨rb,1,none⟩=some (.int .i64 R.W):=HA2.out.c1;have hrb:=HA2.out.lt;have HCO:Hid (∀W',w3.grownBy W' none→Calls Tryz.prog 118 #[.pointer (some ⟨rb,0,none⟩),.agg #[.string key,.int .i64 zvz],.bool false] W' fun e w'=>e = .returned (.int .i64 (us (yg R ⟨⟨key,zvz⟩,(a:Int),zvx,false⟩) ⟨key,zvz⟩ false))∧W'.grownBy w' none):=(show ∀_,_ from fun W' hg=>Js (HA2.out.grown hg) ⟨key,zvz⟩ false)
 have q4:decide ((us (yg R ⟨⟨key,zvz⟩,(a:Int),zvx,false⟩) ⟨key,zvz⟩ false:Int)<R.W)=true:=by simpa using hE
 have HEE:=za (And.intro hD hE);clear hD hE;refine zo (by kernel_rfl) (by kernel_rfl) ?_
 repeat (any_goals (first|go_big_quiet_step (((go_at_call 118;exact zq (HCO.out _ (by repeat (first|exact zd _|exact zj _ _|refine zi ?_ _|refine zg ?_ _|refine zf ?_))))))|quiet_step (((go_at_call 118;exact zq (HCO.out _ (by repeat (first|exact zd _|exact zj _ _|refine zi ?_ _|refine zg ?_ _|refine zf ?_))))))))
 refine wpQuiet_nil ?_;intro _ hw';obtain⟨xx,hw''⟩:=hw';subst hw'';go_wp2;refine bodyPost_ret (results_none rfl _ _ _) rfl ⟨rfl,?_⟩;rw[HE.out]
 exact xj HG2.out (HA2.out.grown (yf _ _)) (yx HT2.out (yf _ _))
end
end Go.Proofs.YtjfelfjobeeenaaGreat
