/- The document's Do at some kinds: the walks. Conditions: a table that lies in memory, its numbers within bounds. The document's Do at some kinds: the walks. Conditions: a table that lies in memory, its numbers within bounds. The document's Do at some kinds: the walks. Conditions: a table that lies in memory, its numbers within bounds. The document's Do at some kinds: the walks. Conditions: a table that lies in memory, its numbers within bounds. The document's Do at some kinds: the walks. Conditions: a table that lies in memory, its numbers within bounds. The document's Do: any command. Conditions: a table that lies in memory, its numbers within bounds; a command of a kind and a node that there are. Two tables side by side in memory: what a command on each leaves. Conditions: both lie in memory, apart. -/
import Derived.Test.YtjfelfjobeeenaaGreatF19
import Derived.Deep.DeepCutAuto
import Derived.Test.YtjfelfjobeeenaaGreatF32
import Derived.Test.YtjfelfjobeeenaaGreatF33
import Derived.Test.YtjfelfjobeeenaaGreatF34
set_option linter.unusedSimpArgs false
set_option linter.unusedVariables false
namespace Go.Proofs.YtjfelfjobeeenaaGreat
open Go.RowKit Go.Sf Go.Shelf
section
variable {bs : Nat → Prop} {W : World} {rb : Nat} {R : RTab}
set_option maxHeartbeats 8000000 in
set_option maxRecDepth 100000 in
theorem rdo_5A (h:RAt bs W rb R) (hbs:∀k,W.heap.size≤k→bs k) (ok:ROk R) (node client inc req ver code:Int) (key:ByteArray) (hn0:0≤node) (hn1:node<(R.lives.length:Int)) (hA:inc<1):Calls Tryz.prog 60 #[.pointer (some ⟨rb,0,none⟩),encCmd ⟨5,node,client,inc,req,ver,key,code⟩] W fun e w'=>e = .returned (.tuple #[])∧RAt bs w' rb (rdo R ⟨5,node,client,inc,req,ver,key,code⟩)∧Turn bs W w':=by
 obtain⟨a,rfl⟩:=Int.eq_ofNat_of_zero_le hn0
 have hal:a<R.lives.length:=by omega
 have HE:Hid (rdo R (⟨5,(a:Int),client,inc,req,ver,key,code⟩:Cmd)=R):=(show rdo R (⟨5,(a:Int),client,inc,req,ver,key,code⟩:Cmd)=R from by
  have h:¬rnowB R (⟨5,(a:Int),client,inc,req,ver,key,code⟩:Cmd)=true:=by simp[rnowB,show ¬(1≤inc) from by omega]
  unfold rdo rrefuse
  simp only[show ¬((5:Int)=1) by decide,show ¬((5:Int)=2) by decide,show ¬((5:Int)=3) by decide,show ¬((5:Int)=4) by decide,if_false,if_true]
  cases mget R.pends (⟨key,ver⟩:ID) with
  | none=>rfl
  | some p=>simp only[if_neg h])
 obtain⟨W2,hE⟩:∃W2,(W.alloc (.cells #[.int .u8 5,.int .i64 (a:Int),.int .i64 client,.int .i64 inc,.int .i64 req,.int .i64 ver,.string key,.int .i64 code] 29)).alloc (.cells #[.string key,.int .i64 ver] 59)=W2:=⟨_,rfl⟩
 obtain⟨HG2,HB0,HB1,HA0,HBS,HT0⟩:=rdo_set h hbs _ _ W2 hE
 have HE:=Lib.hid hE
 clear hE
 have hrb0:rb<W.heap.size:=h.lt
 have OK:=Lib.hid ok
 clear h hbs ok
 simp only[encCmd]
 go_enter Tryz.func60,Tryz.ntmps60
 go_upto_region 23 with fail
 rw[HE.out]
 clear HE
 obtain⟨⟨d0,d1,d2,d3,d4,d5,d6,d7⟩,j0,j1,hw0,hw1⟩:=boxes HB0.out HB1.out HT0.out
 have HPE:Hid (Calls Tryz.prog 117 #[.pointer (some ⟨rb,0,none⟩),.agg #[.string key,.int .i64 ver]] W2 fun e w'=>e = .returned (.int .i64 (pendI R ⟨key,ver⟩))∧W2.grownBy w' none):=(show Calls _ _ _ _ _ from rpend_at HA0.out ⟨key,ver⟩)
 generalize hP:pendI R ⟨key,ver⟩=P at *
 have HP:=Lib.hid hP
 clear hP
 go_upto_region 24 with (go_at_call 117;refine HPE.out.mono ?_;rintro e w1 ⟨rfl,hg⟩;clear d0 d1 d2 d3 d4 d5 d6 d7 j0 j1 hw0 hw1;have HA1:=Lib.hid (HA0.out.grown hg);have HT1:Hid (Turn (fence bs W W2) W2 w1):=(show Turn (fence bs W W2) W2 w1 from turn_grown hg);clear hg;obtain⟨⟨d0,d1,d2,d3,d4,d5,d6,d7⟩,j0,j1,hw0,hw1⟩:=boxes HB0.out HB1.out HT1.out)
 obtain⟨gL,capL,c4,f0,y0,hcl,hcm⟩:=HA1.out.live hal
 obtain⟨LV,hLV⟩:∃x,R.lives.getD a 0=x:=⟨_,rfl⟩
 rw[hLV] at f0
 have hgL:gL<w1.heap.size:=cell_lt f0
 have q1:decide (inc<1)=true:=by simpa using hA
 have HH:=Lib.hid hA
 clear hA hLV
 go_quiet (fail)
 go_wp2
 refine bodyPost_ret (results_none rfl _ _ _) rfl ⟨rfl,?_⟩
 rw[HE.out]
 exact fence_end HG2.out (HA1.out.grown (grown_drewN _ _)) (turn_after HT1.out (grown_drewN _ _))
end
section
variable {bs : Nat → Prop} {W : World} {rb : Nat} {R : RTab}
set_option maxHeartbeats 8000000 in
set_option maxRecDepth 100000 in
theorem rdo_5B (h:RAt bs W rb R) (hbs:∀k,W.heap.size≤k→bs k) (ok:ROk R) (node client inc req ver code:Int) (key:ByteArray) (hn0:0≤node) (hn1:node<(R.lives.length:Int)) (hA:1≤inc) (hB:¬R.lives.getD node.toNat 0=inc):Calls Tryz.prog 60 #[.pointer (some ⟨rb,0,none⟩),encCmd ⟨5,node,client,inc,req,ver,key,code⟩] W fun e w'=>e = .returned (.tuple #[])∧RAt bs w' rb (rdo R ⟨5,node,client,inc,req,ver,key,code⟩)∧Turn bs W w':=by
 obtain⟨a,rfl⟩:=Int.eq_ofNat_of_zero_le hn0
 have hal:a<R.lives.length:=by omega
 have hat:((a:Nat):Int).toNat=a:=rfl
 rw[hat] at hB
 clear hat
 have HE:Hid (rdo R (⟨5,(a:Int),client,inc,req,ver,key,code⟩:Cmd)=R):=(show rdo R (⟨5,(a:Int),client,inc,req,ver,key,code⟩:Cmd)=R from by
  have h:¬rnowB R (⟨5,(a:Int),client,inc,req,ver,key,code⟩:Cmd)=true:=by have e:rlife R (a:Int)=R.lives.getD a 0:=rfl;simp only[rnowB,e,decide_eq_false hB,Bool.and_false,Bool.false_and,Bool.false_eq_true,not_false_eq_true]
  unfold rdo rrefuse
  simp only[show ¬((5:Int)=1) by decide,show ¬((5:Int)=2) by decide,show ¬((5:Int)=3) by decide,show ¬((5:Int)=4) by decide,if_false,if_true]
  cases mget R.pends (⟨key,ver⟩:ID) with
  | none=>rfl
  | some p=>simp only[if_neg h])
 obtain⟨W2,hE⟩:∃W2,(W.alloc (.cells #[.int .u8 5,.int .i64 (a:Int),.int .i64 client,.int .i64 inc,.int .i64 req,.int .i64 ver,.string key,.int .i64 code] 29)).alloc (.cells #[.string key,.int .i64 ver] 59)=W2:=⟨_,rfl⟩
 obtain⟨HG2,HB0,HB1,HA0,HBS,HT0⟩:=rdo_set h hbs _ _ W2 hE
 have HE:=Lib.hid hE
 clear hE
 have hrb0:rb<W.heap.size:=h.lt
 have OK:=Lib.hid ok
 clear h hbs ok
 simp only[encCmd]
 go_enter Tryz.func60,Tryz.ntmps60
 go_upto_region 23 with fail
 rw[HE.out]
 clear HE
 obtain⟨⟨d0,d1,d2,d3,d4,d5,d6,d7⟩,j0,j1,hw0,hw1⟩:=boxes HB0.out HB1.out HT0.out
 have HPE:Hid (Calls Tryz.prog 117 #[.pointer (some ⟨rb,0,none⟩),.agg #[.string key,.int .i64 ver]] W2 fun e w'=>e = .returned (.int .i64 (pendI R ⟨key,ver⟩))∧W2.grownBy w' none):=(show Calls _ _ _ _ _ from rpend_at HA0.out ⟨key,ver⟩)
 generalize hP:pendI R ⟨key,ver⟩=P at *
 have HP:=Lib.hid hP
 clear hP
 go_upto_region 24 with (go_at_call 117;refine HPE.out.mono ?_;rintro e w1 ⟨rfl,hg⟩;clear d0 d1 d2 d3 d4 d5 d6 d7 j0 j1 hw0 hw1;have HA1:=Lib.hid (HA0.out.grown hg);have HT1:Hid (Turn (fence bs W W2) W2 w1):=(show Turn (fence bs W W2) W2 w1 from turn_grown hg);clear hg;obtain⟨⟨d0,d1,d2,d3,d4,d5,d6,d7⟩,j0,j1,hw0,hw1⟩:=boxes HB0.out HB1.out HT1.out)
 obtain⟨gL,capL,c4,f0,y0,hcl,hcm⟩:=HA1.out.live hal
 obtain⟨LV,hLV⟩:∃x,R.lives.getD a 0=x:=⟨_,rfl⟩
 rw[hLV] at f0
 have hgL:gL<w1.heap.size:=cell_lt f0
 have q1:decide (inc<1)=false:=by simp;omega
 have q2:(LV != inc)=true:=by rw[←hLV];simpa using hB
 have HH:=Lib.hid (And.intro hA hB)
 clear hA hB hLV
 go_quiet (fail)
 go_wp2
 refine bodyPost_ret (results_none rfl _ _ _) rfl ⟨rfl,?_⟩
 rw[HE.out]
 exact fence_end HG2.out (HA1.out.grown (grown_drewN _ _)) (turn_after HT1.out (grown_drewN _ _))
end
section
variable {bs : Nat → Prop} {W : World} {rb : Nat} {R : RTab}
set_option maxHeartbeats 8000000 in
set_option maxRecDepth 100000 in
theorem rdo_5C (h:RAt bs W rb R) (hbs:∀k,W.heap.size≤k→bs k) (ok:ROk R) (node client inc req ver code:Int) (key:ByteArray) (hn0:0≤node) (hn1:node<(R.lives.length:Int)) (hA:1≤inc) (hB:R.lives.getD node.toNat 0=inc) (hC:¬0≤pendI R (⟨key,ver⟩:ID)):Calls Tryz.prog 60 #[.pointer (some ⟨rb,0,none⟩),encCmd ⟨5,node,client,inc,req,ver,key,code⟩] W fun e w'=>e = .returned (.tuple #[])∧RAt bs w' rb (rdo R ⟨5,node,client,inc,req,ver,key,code⟩)∧Turn bs W w':=by
 obtain⟨a,rfl⟩:=Int.eq_ofNat_of_zero_le hn0
 have hal:a<R.lives.length:=by omega
 have hat:((a:Nat):Int).toNat=a:=rfl
 rw[hat] at hB
 clear hat
 have HE:Hid (rdo R (⟨5,(a:Int),client,inc,req,ver,key,code⟩:Cmd)=R):=(show rdo R (⟨5,(a:Int),client,inc,req,ver,key,code⟩:Cmd)=R from by
  have h2:=pendI_none _ _ hC
  unfold rdo rrefuse
  simp only[show ¬((5:Int)=1) by decide,show ¬((5:Int)=2) by decide,show ¬((5:Int)=3) by decide,show ¬((5:Int)=4) by decide,if_false,if_true,h2])
 obtain⟨W2,hE⟩:∃W2,(W.alloc (.cells #[.int .u8 5,.int .i64 (a:Int),.int .i64 client,.int .i64 inc,.int .i64 req,.int .i64 ver,.string key,.int .i64 code] 29)).alloc (.cells #[.string key,.int .i64 ver] 59)=W2:=⟨_,rfl⟩
 obtain⟨HG2,HB0,HB1,HA0,HBS,HT0⟩:=rdo_set h hbs _ _ W2 hE
 have HE:=Lib.hid hE
 clear hE
 have hrb0:rb<W.heap.size:=h.lt
 have OK:=Lib.hid ok
 clear h hbs ok
 simp only[encCmd]
 go_enter Tryz.func60,Tryz.ntmps60
 go_upto_region 23 with fail
 rw[HE.out]
 clear HE
 obtain⟨⟨d0,d1,d2,d3,d4,d5,d6,d7⟩,j0,j1,hw0,hw1⟩:=boxes HB0.out HB1.out HT0.out
 have HPE:Hid (Calls Tryz.prog 117 #[.pointer (some ⟨rb,0,none⟩),.agg #[.string key,.int .i64 ver]] W2 fun e w'=>e = .returned (.int .i64 (pendI R ⟨key,ver⟩))∧W2.grownBy w' none):=(show Calls _ _ _ _ _ from rpend_at HA0.out ⟨key,ver⟩)
 generalize hP:pendI R ⟨key,ver⟩=P at *
 have HP:=Lib.hid hP
 clear hP
 go_upto_region 24 with (go_at_call 117;refine HPE.out.mono ?_;rintro e w1 ⟨rfl,hg⟩;clear d0 d1 d2 d3 d4 d5 d6 d7 j0 j1 hw0 hw1;have HA1:=Lib.hid (HA0.out.grown hg);have HT1:Hid (Turn (fence bs W W2) W2 w1):=(show Turn (fence bs W W2) W2 w1 from turn_grown hg);clear hg;obtain⟨⟨d0,d1,d2,d3,d4,d5,d6,d7⟩,j0,j1,hw0,hw1⟩:=boxes HB0.out HB1.out HT1.out)
 obtain⟨gL,capL,c4,f0,y0,hcl,hcm⟩:=HA1.out.live hal
 obtain⟨LV,hLV⟩:∃x,R.lives.getD a 0=x:=⟨_,rfl⟩
 rw[hLV] at f0
 have hgL:gL<w1.heap.size:=cell_lt f0
 have q1:decide (inc<1)=false:=by simp;omega
 have q2:(LV != inc)=false:=by rw[←hLV];simpa using hB
 have HH:=Lib.hid (And.intro hA hB)
 clear hA hB hLV
 have q3:decide (P<0)=true:=by simp;omega
 have HC:=Lib.hid hC
 clear hC
 go_quiet (fail)
 go_wp2
 refine bodyPost_ret (results_none rfl _ _ _) rfl ⟨rfl,?_⟩
 rw[HE.out]
 exact fence_end HG2.out (HA1.out.grown (grown_drewN _ _)) (turn_after HT1.out (grown_drewN _ _))
end
section
variable {bs : Nat → Prop} {W : World} {rb : Nat} {R : RTab}
set_option maxHeartbeats 8000000 in
set_option maxRecDepth 100000 in
theorem rdo_5D (h:RAt bs W rb R) (hbs:∀k,W.heap.size≤k→bs k) (ok:ROk R) (node client inc req ver code:Int) (key:ByteArray) (hn0:0≤node) (hn1:node<(R.lives.length:Int)) (hA:1≤inc) (hB:R.lives.getD node.toNat 0=inc) (hC:0≤pendI R (⟨key,ver⟩:ID)) (hD:¬R.N-(rcount (rsays R ⟨(⟨key,ver⟩:ID),node,inc,true⟩) (⟨key,ver⟩:ID) true:Int)<R.W):Calls Tryz.prog 60 #[.pointer (some ⟨rb,0,none⟩),encCmd ⟨5,node,client,inc,req,ver,key,code⟩] W fun e w'=>e = .returned (.tuple #[])∧RAt bs w' rb (rdo R ⟨5,node,client,inc,req,ver,key,code⟩)∧Turn bs W w':=by
 obtain⟨a,rfl⟩:=Int.eq_ofNat_of_zero_le hn0
 have hal:a<R.lives.length:=by omega
 have hat:((a:Nat):Int).toNat=a:=rfl
 rw[hat] at hB
 clear hat
 obtain⟨kk,hkk,hkl,hmg,hpi,her⟩:=pendI_some _ _ hC
 have hnow:rnowB R (⟨5,(a:Int),client,inc,req,ver,key,code⟩:Cmd)=true:=by have e:rlife R (a:Int)=R.lives.getD a 0:=rfl;simp only[rnowB,e,decide_eq_true hA,decide_eq_true hB,Bool.and_self]
 have HE:Hid (rdo R (⟨5,(a:Int),client,inc,req,ver,key,code⟩:Cmd)=rclean (rsays R ⟨⟨key,ver⟩,(a:Int),inc,true⟩)):=(show rdo R (⟨5,(a:Int),client,inc,req,ver,key,code⟩:Cmd)=rclean (rsays R ⟨⟨key,ver⟩,(a:Int),inc,true⟩) from by
  unfold rdo rrefuse
  simp only[show ¬((5:Int)=1) by decide,show ¬((5:Int)=2) by decide,show ¬((5:Int)=3) by decide,show ¬((5:Int)=4) by decide,if_false,if_true,hmg,hnow,if_neg hD])
 have HKL:=Lib.hid (And.intro hmg (And.intro hpi her))
 have HKK:=Lib.hid hkk
 clear hmg hpi her hnow
 obtain⟨W2,hE⟩:∃W2,(W.alloc (.cells #[.int .u8 5,.int .i64 (a:Int),.int .i64 client,.int .i64 inc,.int .i64 req,.int .i64 ver,.string key,.int .i64 code] 29)).alloc (.cells #[.string key,.int .i64 ver] 59)=W2:=⟨_,rfl⟩
 obtain⟨HG2,HB0,HB1,HA0,HBS,HT0⟩:=rdo_set h hbs _ _ W2 hE
 have HE:=Lib.hid hE
 clear hE
 have hrb0:rb<W.heap.size:=h.lt
 have OK:=Lib.hid ok
 clear h hbs ok
 simp only[encCmd]
 go_enter Tryz.func60,Tryz.ntmps60
 go_upto_region 23 with fail
 rw[HE.out]
 clear HE
 obtain⟨⟨d0,d1,d2,d3,d4,d5,d6,d7⟩,j0,j1,hw0,hw1⟩:=boxes HB0.out HB1.out HT0.out
 have HPE:Hid (Calls Tryz.prog 117 #[.pointer (some ⟨rb,0,none⟩),.agg #[.string key,.int .i64 ver]] W2 fun e w'=>e = .returned (.int .i64 (pendI R ⟨key,ver⟩))∧W2.grownBy w' none):=(show Calls _ _ _ _ _ from rpend_at HA0.out ⟨key,ver⟩)
 generalize hP:pendI R ⟨key,ver⟩=P at *
 have HP:=Lib.hid hP
 clear hP
 go_upto_region 24 with (go_at_call 117;refine HPE.out.mono ?_;rintro e w1 ⟨rfl,hg⟩;clear d0 d1 d2 d3 d4 d5 d6 d7 j0 j1 hw0 hw1;have HA1:=Lib.hid (HA0.out.grown hg);have HT1:Hid (Turn (fence bs W W2) W2 w1):=(show Turn (fence bs W W2) W2 w1 from turn_grown hg);clear hg;obtain⟨⟨d0,d1,d2,d3,d4,d5,d6,d7⟩,j0,j1,hw0,hw1⟩:=boxes HB0.out HB1.out HT1.out)
 obtain⟨gL,capL,c4,f0,y0,hcl,hcm⟩:=HA1.out.live hal
 obtain⟨LV,hLV⟩:∃x,R.lives.getD a 0=x:=⟨_,rfl⟩
 rw[hLV] at f0
 have hgL:gL<w1.heap.size:=cell_lt f0
 have q1:decide (inc<1)=false:=by simp;omega
 have q2:(LV != inc)=false:=by rw[←hLV];simpa using hB
 have HH:=Lib.hid (And.intro hA hB)
 clear hA hB hLV
 have q3:decide (P<0)=false:=by simp;omega
 have HC:=Lib.hid hC
 clear hC
 go_quiet (fail)
 have HA2:=Lib.hid (HA1.out.grown (grown_drewN w1 nq))
 have HT2:Hid (Turn (fence bs W W2) W2 (w1.drewN nq)):=(show Turn (fence bs W W2) W2 (w1.drewN nq) from turn_after HT1.out (grown_drewN _ _))
 clear d0 d1 d2 d3 d4 d5 d6 d7 j0 j1 hw0 hw1
 clear c4 f0 y0 hcl hcm hgL
 generalize w1.drewN nq=w2 at *
 obtain⟨⟨d0,d1,d2,d3,d4,d5,d6,d7⟩,j0,j1,hw0,hw1⟩:=boxes HB0.out HB1.out HT2.out
 go_upto_region 26 with (go_at_call 116;refine(rsays_any HA2.out (HBS.out _ HT2.out.size) ⟨⟨key,ver⟩,(a:Int),inc,true⟩ (by have:=OK.out.lh;omega)).mono ?_;rintro e w3 ⟨rfl,hr,ht⟩;clear d0 d1 d2 d3 d4 d5 d6 d7 j0 j1 hw0 hw1;have HA3:=Lib.hid hr;have HT3:=Lib.hid (turn_trans HT2.out ht);clear hr ht;obtain⟨⟨d0,d1,d2,d3,d4,d5,d6,d7⟩,j0,j1,hw0,hw1⟩:=boxes HB0.out HB1.out HT3.out)
 have c0:w3.cell? ⟨rb,0,none⟩=some (.int .i64 R.N):=HA3.out.c0
 have c1:w3.cell? ⟨rb,1,none⟩=some (.int .i64 R.W):=HA3.out.c1
 have hrb:=HA3.out.lt
 have hNN:=OK.out.nn
 have hll:=OK.out.ll
 have hN0:0≤R.N:=by omega
 have hN1:R.N≤1000000:=by omega
 have hcn:rcount (rsays R ⟨⟨key,ver⟩,(a:Int),inc,true⟩) ⟨key,ver⟩ true≤10000001:=by
  unfold rcount
  refine Nat.le_trans (List.length_filter_le _ _) ?_
  show((R.holds.filter _) ++ [_]).length≤_
  rw[List.length_append]
  have:=List.length_filter_le (fun y:RHold=>decide (y.id≠(⟨key,ver⟩:ID)) || decide (y.node≠(a:Int))) R.holds
  have:=OK.out.lh
  simp only[List.length_singleton]
  omega
 clear hNN hll
 have HCO:Hid (∀W',w3.grownBy W' none→Calls Tryz.prog 118 #[.pointer (some ⟨rb,0,none⟩),.agg #[.string key,.int .i64 ver],.bool true] W' fun e w'=>e = .returned (.int .i64 (rcount (rsays R ⟨⟨key,ver⟩,(a:Int),inc,true⟩) ⟨key,ver⟩ true))∧W'.grownBy w' none):=(show ∀_,_ from fun W' hg=>rcount_at (HA3.out.grown hg) ⟨key,ver⟩ true)
 have q4:decide (R.N-(rcount (rsays R ⟨⟨key,ver⟩,(a:Int),inc,true⟩) ⟨key,ver⟩ true:Int)<R.W)=false:=by simpa using hD
 have HDD:=Lib.hid hD
 clear hD
 refine wp_region_quiet_ext (by kernel_rfl) (by kernel_rfl) ?_
 repeat (any_goals (first|go_big_quiet_step (((go_at_call 118;exact calls_ext (HCO.out _ (by repeat (first|exact grown_refl _|exact grown_drewN _ _|refine grown_ext' ?_ _|refine grown_alloc ?_ _|refine grown_drew ?_))))))|quiet_step (((go_at_call 118;exact calls_ext (HCO.out _ (by repeat (first|exact grown_refl _|exact grown_drewN _ _|refine grown_ext' ?_ _|refine grown_alloc ?_ _|refine grown_drew ?_))))))))
 refine wpQuiet_nil ?_
 intro _ hw'
 obtain⟨xx,hw''⟩:=hw'
 subst hw''
 have HA4:=Lib.hid (HA3.out.grown (grown_ext w3 xx))
 have HT4:Hid (Turn (fence bs W W2) W2 (ext w3 xx)):=(show Turn (fence bs W W2) W2 (ext w3 xx) from turn_after HT3.out (grown_ext _ _))
 clear d0 d1 d2 d3 d4 d5 d6 d7 j0 j1 hw0 hw1
 clear c0 c1 hrb hN0 hN1 hcn
 generalize ext w3 xx=w4 at *
 have hnd:∀x∈(rsays R ⟨⟨key,ver⟩,(a:Int),inc,true⟩).holds,0≤x.node∧x.node<(R.lives.length:Int):=by
  intro x hx
  rcases List.mem_append.1 hx with hx|hx
  ·exact OK.out.nd x (List.mem_filter.1 hx).1
  ·have:=List.mem_singleton.1 hx
   subst this
   exact⟨by simp only;omega,by simp only;omega⟩
 have hhl:(rsays R ⟨⟨key,ver⟩,(a:Int),inc,true⟩).holds.length≤10000001:=by
  show((R.holds.filter _) ++ [_]).length≤_
  rw[List.length_append]
  have:=List.length_filter_le (fun y:RHold=>decide (y.id≠(⟨key,ver⟩:ID)) || decide (y.node≠(a:Int))) R.holds
  have:=OK.out.lh
  simp only[List.length_singleton]
  omega
 have HND:=Lib.hid (And.intro hnd hhl)
 clear hnd hhl
 go_wp2_with (go_at_call 123;refine(rclean_any HA4.out (HBS.out _ HT4.out.size) HND.out.1 (by have:=HND.out.2;omega) OK.out.ll).mono ?_;rintro e wz ⟨rfl,hr,ht⟩;have HZ:=Lib.hid (fence_end HG2.out hr (turn_trans HT4.out ht));clear hr ht)
 first|go_end0|refine bodyPost_ret (results_none rfl _ _ _) rfl ?_
 refine⟨rfl,?_⟩
 rw[HE.out]
 exact HZ.out
end
section
variable {bs : Nat → Prop} {W : World} {rb : Nat} {R : RTab}
set_option maxHeartbeats 8000000 in
set_option maxRecDepth 100000 in
theorem rdo_5E (h:RAt bs W rb R) (hbs:∀k,W.heap.size≤k→bs k) (ok:ROk R) (node client inc req ver code:Int) (key:ByteArray) (hn0:0≤node) (hn1:node<(R.lives.length:Int)) (hA:1≤inc) (hB:R.lives.getD node.toNat 0=inc) (hC:0≤pendI R (⟨key,ver⟩:ID)) (hD:R.N-(rcount (rsays R ⟨(⟨key,ver⟩:ID),node,inc,true⟩) (⟨key,ver⟩:ID) true:Int)<R.W):Calls Tryz.prog 60 #[.pointer (some ⟨rb,0,none⟩),encCmd ⟨5,node,client,inc,req,ver,key,code⟩] W fun e w'=>e = .returned (.tuple #[])∧RAt bs w' rb (rdo R ⟨5,node,client,inc,req,ver,key,code⟩)∧Turn bs W w':=by
 obtain⟨a,rfl⟩:=Int.eq_ofNat_of_zero_le hn0
 have hal:a<R.lives.length:=by omega
 have hat:((a:Nat):Int).toNat=a:=rfl
 rw[hat] at hB
 clear hat
 obtain⟨kk,hkk,hkl,hmg,hpi,her⟩:=pendI_some _ _ hC
 have hnow:rnowB R (⟨5,(a:Int),client,inc,req,ver,key,code⟩:Cmd)=true:=by have e:rlife R (a:Int)=R.lives.getD a 0:=rfl;simp only[rnowB,e,decide_eq_true hA,decide_eq_true hB,Bool.and_self]
 have HE:Hid (rdo R (⟨5,(a:Int),client,inc,req,ver,key,code⟩:Cmd)=rclean (rdone (rends (rsays R ⟨⟨key,ver⟩,(a:Int),inc,true⟩) ⟨key,ver⟩) ⟨key,ver⟩ R.pends[kk].2 181)):=(show rdo R (⟨5,(a:Int),client,inc,req,ver,key,code⟩:Cmd)=rclean (rdone (rends (rsays R ⟨⟨key,ver⟩,(a:Int),inc,true⟩) ⟨key,ver⟩) ⟨key,ver⟩ R.pends[kk].2 181) from by
  unfold rdo rrefuse
  simp only[show ¬((5:Int)=1) by decide,show ¬((5:Int)=2) by decide,show ¬((5:Int)=3) by decide,show ¬((5:Int)=4) by decide,if_false,if_true,hmg,hnow,if_pos hD])
 have HKL:=Lib.hid (And.intro hmg (And.intro hpi her))
 have HKK:=Lib.hid hkk
 clear hmg hpi her hnow
 obtain⟨W2,hE⟩:∃W2,(W.alloc (.cells #[.int .u8 5,.int .i64 (a:Int),.int .i64 client,.int .i64 inc,.int .i64 req,.int .i64 ver,.string key,.int .i64 code] 29)).alloc (.cells #[.string key,.int .i64 ver] 59)=W2:=⟨_,rfl⟩
 obtain⟨HG2,HB0,HB1,HA0,HBS,HT0⟩:=rdo_set h hbs _ _ W2 hE
 have HE:=Lib.hid hE
 clear hE
 have hrb0:rb<W.heap.size:=h.lt
 have OK:=Lib.hid ok
 clear h hbs ok
 simp only[encCmd]
 go_enter Tryz.func60,Tryz.ntmps60
 go_upto_region 23 with fail
 rw[HE.out]
 clear HE
 obtain⟨⟨d0,d1,d2,d3,d4,d5,d6,d7⟩,j0,j1,hw0,hw1⟩:=boxes HB0.out HB1.out HT0.out
 have HPE:Hid (Calls Tryz.prog 117 #[.pointer (some ⟨rb,0,none⟩),.agg #[.string key,.int .i64 ver]] W2 fun e w'=>e = .returned (.int .i64 (pendI R ⟨key,ver⟩))∧W2.grownBy w' none):=(show Calls _ _ _ _ _ from rpend_at HA0.out ⟨key,ver⟩)
 generalize hP:pendI R ⟨key,ver⟩=P at *
 have HP:=Lib.hid hP
 clear hP
 go_upto_region 24 with (go_at_call 117;refine HPE.out.mono ?_;rintro e w1 ⟨rfl,hg⟩;clear d0 d1 d2 d3 d4 d5 d6 d7 j0 j1 hw0 hw1;have HA1:=Lib.hid (HA0.out.grown hg);have HT1:Hid (Turn (fence bs W W2) W2 w1):=(show Turn (fence bs W W2) W2 w1 from turn_grown hg);clear hg;obtain⟨⟨d0,d1,d2,d3,d4,d5,d6,d7⟩,j0,j1,hw0,hw1⟩:=boxes HB0.out HB1.out HT1.out)
 obtain⟨gL,capL,c4,f0,y0,hcl,hcm⟩:=HA1.out.live hal
 obtain⟨LV,hLV⟩:∃x,R.lives.getD a 0=x:=⟨_,rfl⟩
 rw[hLV] at f0
 have hgL:gL<w1.heap.size:=cell_lt f0
 have q1:decide (inc<1)=false:=by simp;omega
 have q2:(LV != inc)=false:=by rw[←hLV];simpa using hB
 have HH:=Lib.hid (And.intro hA hB)
 clear hA hB hLV
 have q3:decide (P<0)=false:=by simp;omega
 have HC:=Lib.hid hC
 clear hC
 go_quiet (fail)
 have HA2:=Lib.hid (HA1.out.grown (grown_drewN w1 nq))
 have HT2:Hid (Turn (fence bs W W2) W2 (w1.drewN nq)):=(show Turn (fence bs W W2) W2 (w1.drewN nq) from turn_after HT1.out (grown_drewN _ _))
 clear d0 d1 d2 d3 d4 d5 d6 d7 j0 j1 hw0 hw1
 clear c4 f0 y0 hcl hcm hgL
 generalize w1.drewN nq=w2 at *
 obtain⟨⟨d0,d1,d2,d3,d4,d5,d6,d7⟩,j0,j1,hw0,hw1⟩:=boxes HB0.out HB1.out HT2.out
 go_upto_region 26 with (go_at_call 116;refine(rsays_any HA2.out (HBS.out _ HT2.out.size) ⟨⟨key,ver⟩,(a:Int),inc,true⟩ (by have:=OK.out.lh;omega)).mono ?_;rintro e w3 ⟨rfl,hr,ht⟩;clear d0 d1 d2 d3 d4 d5 d6 d7 j0 j1 hw0 hw1;have HA3:=Lib.hid hr;have HT3:=Lib.hid (turn_trans HT2.out ht);clear hr ht;obtain⟨⟨d0,d1,d2,d3,d4,d5,d6,d7⟩,j0,j1,hw0,hw1⟩:=boxes HB0.out HB1.out HT3.out)
 have c0:w3.cell? ⟨rb,0,none⟩=some (.int .i64 R.N):=HA3.out.c0
 have c1:w3.cell? ⟨rb,1,none⟩=some (.int .i64 R.W):=HA3.out.c1
 have hrb:=HA3.out.lt
 have hNN:=OK.out.nn
 have hll:=OK.out.ll
 have hN0:0≤R.N:=by omega
 have hN1:R.N≤1000000:=by omega
 have hcn:rcount (rsays R ⟨⟨key,ver⟩,(a:Int),inc,true⟩) ⟨key,ver⟩ true≤10000001:=by
  unfold rcount
  refine Nat.le_trans (List.length_filter_le _ _) ?_
  show((R.holds.filter _) ++ [_]).length≤_
  rw[List.length_append]
  have:=List.length_filter_le (fun y:RHold=>decide (y.id≠(⟨key,ver⟩:ID)) || decide (y.node≠(a:Int))) R.holds
  have:=OK.out.lh
  simp only[List.length_singleton]
  omega
 clear hNN hll
 have HCO:Hid (∀W',w3.grownBy W' none→Calls Tryz.prog 118 #[.pointer (some ⟨rb,0,none⟩),.agg #[.string key,.int .i64 ver],.bool true] W' fun e w'=>e = .returned (.int .i64 (rcount (rsays R ⟨⟨key,ver⟩,(a:Int),inc,true⟩) ⟨key,ver⟩ true))∧W'.grownBy w' none):=(show ∀_,_ from fun W' hg=>rcount_at (HA3.out.grown hg) ⟨key,ver⟩ true)
 have q4:decide (R.N-(rcount (rsays R ⟨⟨key,ver⟩,(a:Int),inc,true⟩) ⟨key,ver⟩ true:Int)<R.W)=true:=by simpa using hD
 have HDD:=Lib.hid hD
 clear hD
 refine wp_region_quiet_ext (by kernel_rfl) (by kernel_rfl) ?_
 repeat (any_goals (first|go_big_quiet_step (((go_at_call 118;exact calls_ext (HCO.out _ (by repeat (first|exact grown_refl _|exact grown_drewN _ _|refine grown_ext' ?_ _|refine grown_alloc ?_ _|refine grown_drew ?_))))))|quiet_step (((go_at_call 118;exact calls_ext (HCO.out _ (by repeat (first|exact grown_refl _|exact grown_drewN _ _|refine grown_ext' ?_ _|refine grown_alloc ?_ _|refine grown_drew ?_))))))))
 refine wpQuiet_nil ?_
 intro _ hw'
 obtain⟨xx,hw''⟩:=hw'
 subst hw''
 have HA4:=Lib.hid (HA3.out.grown (grown_ext w3 xx))
 have HT4:Hid (Turn (fence bs W W2) W2 (ext w3 xx)):=(show Turn (fence bs W W2) W2 (ext w3 xx) from turn_after HT3.out (grown_ext _ _))
 clear d0 d1 d2 d3 d4 d5 d6 d7 j0 j1 hw0 hw1
 clear c0 c1 hrb hN0 hN1 hcn
 generalize ext w3 xx=w4 at *
 have hnd:∀x∈(rsays R ⟨⟨key,ver⟩,(a:Int),inc,true⟩).holds,0≤x.node∧x.node<(R.lives.length:Int):=by
  intro x hx
  rcases List.mem_append.1 hx with hx|hx
  ·exact OK.out.nd x (List.mem_filter.1 hx).1
  ·have:=List.mem_singleton.1 hx
   subst this
   exact⟨by simp only;omega,by simp only;omega⟩
 have hhl:(rsays R ⟨⟨key,ver⟩,(a:Int),inc,true⟩).holds.length≤10000001:=by
  show((R.holds.filter _) ++ [_]).length≤_
  rw[List.length_append]
  have:=List.length_filter_le (fun y:RHold=>decide (y.id≠(⟨key,ver⟩:ID)) || decide (y.node≠(a:Int))) R.holds
  have:=OK.out.lh
  simp only[List.length_singleton]
  omega
 have hPk:P=(kk:Int):=by first|exact HKK.out|(rw[←HP.out];exact HKK.out)
 subst hPk
 have hpl0:(rsays R ⟨⟨key,ver⟩,(a:Int),inc,true⟩).pends.length≤10000000:=OK.out.lp
 have hho:(rdone (rends (rsays R ⟨⟨key,ver⟩,(a:Int),inc,true⟩) ⟨key,ver⟩) R.pends[kk].1 R.pends[kk].2 181).holds=(rsays R ⟨⟨key,ver⟩,(a:Int),inc,true⟩).holds:=by unfold rdone;split <;> rfl
 have hli:(rdone (rends (rsays R ⟨⟨key,ver⟩,(a:Int),inc,true⟩) ⟨key,ver⟩) R.pends[kk].1 R.pends[kk].2 181).lives=R.lives:=by unfold rdone;split <;> rfl
 have HND:=Lib.hid (And.intro hho (And.intro hli (And.intro hnd hhl)))
 have herr:{ (rsays R ⟨⟨key,ver⟩,(a:Int),inc,true⟩) with pends:=(rsays R ⟨⟨key,ver⟩,(a:Int),inc,true⟩).pends.eraseIdx kk }=rends (rsays R ⟨⟨key,ver⟩,(a:Int),inc,true⟩) ⟨key,ver⟩:=by
  have h:=congrArg RTab.pends HKL.out.2.2
  show { (rsays R ⟨⟨key,ver⟩,(a:Int),inc,true⟩) with pends:=R.pends.eraseIdx kk } = { (rsays R ⟨⟨key,ver⟩,(a:Int),inc,true⟩) with pends:=R.pends.eraseP fun p=>decide (p.1=(⟨key,ver⟩:ID)) }
  have h':R.pends.eraseIdx kk=R.pends.eraseP fun p=>decide (p.1=(⟨key,ver⟩:ID)):=h
  rw[h']
 have HER:=Lib.hid herr
 clear hho hli hnd hhl herr
 go_upto_region 36 with (first
  | (go_at_call 119;refine(rends_any HA4.out (HBS.out _ HT4.out.size) kk (show kk<(rsays R ⟨⟨key,ver⟩,(a:Int),inc,true⟩).pends.length from hkl) (by omega)).mono ?_;rintro e w5 ⟨rfl,hr,ht⟩;rw[HER.out] at hr;have HA5:=Lib.hid hr;have HT5:=Lib.hid (turn_trans HT4.out ht);clear hr ht)
  | (go_at_call 122;refine(rdone_any HA5.out (HBS.out _ HT5.out.size) R.pends[kk].1 R.pends[kk].2 181 (by have:=OK.out.lc;show R.calls.length≤_;omega)).mono ?_;rintro e w6 ⟨rfl,hr,ht⟩;have HA6:=Lib.hid hr;have HT6:=Lib.hid (turn_trans HT5.out ht);clear hr ht))
 go_wp2_with (go_at_call 123;refine(rclean_any HA6.out (HBS.out _ HT6.out.size) (by rw[HND.out.1,HND.out.2.1];exact HND.out.2.2.1) (by rw[HND.out.1];have:=HND.out.2.2.2;omega) (by rw[HND.out.2.1];exact OK.out.ll)).mono ?_;rintro e wz ⟨rfl,hr,ht⟩;have HZ:=Lib.hid (fence_end HG2.out hr (turn_trans HT6.out ht));clear hr ht)
 first|go_end0|refine bodyPost_ret (results_none rfl _ _ _) rfl ?_
 refine⟨rfl,?_⟩
 have hZ:=HZ.out
 rw[HKL.out.2.1] at hZ
 rw[HE.out]
 exact hZ
end
section
variable {bs : Nat → Prop} {W : World} {rb : Nat} {R : RTab}
theorem rdo_any (h:RAt bs W rb R) (hbs:∀k,W.heap.size≤k→bs k) (ok:ROk R) (c:Cmd) (h1:1≤c.kind) (h7:c.kind≤7) (hn0:0≤c.node) (hn1:c.node<(R.lives.length:Int)):Calls Tryz.prog 60 #[.pointer (some ⟨rb,0,none⟩),encCmd c] W fun e w'=>e = .returned (.tuple #[])∧RAt bs w' rb (rdo R c)∧Turn bs W w':=by
 obtain⟨kind,node,client,inc,req,ver,key,code⟩:=c
 simp only at h1 h7 hn0 hn1
 have hk:kind=1∨kind=2∨kind=3∨kind=4∨kind=5∨kind=6∨kind=7:=by omega
 rcases hk with rfl|rfl|rfl|rfl|rfl|rfl|rfl
 ·exact rdo_1 h hbs ok node client inc req ver code key hn0 hn1
 ·by_cases hA:inc≤R.lives.getD node.toNat 0
  ·exact rdo_2A h hbs ok node client inc req ver code key hn0 hn1 hA
  ·by_cases hB:inc≤R.offers
   ·exact rdo_2C h hbs ok node client inc req ver code key hn0 hn1 (by omega) hB
   ·exact rdo_2B h hbs ok node client inc req ver code key hn0 hn1 (by omega) (by omega)
 ·cases hB:rbeginsB R ⟨3,node,client,inc,req,ver,key,code⟩ with
  | true=>exact rdo_3y h hbs ok node client inc req ver code key hn0 hn1 hB
  | false=>exact rdo_3n h hbs ok node client inc req ver code key hn0 hn1 hB
 ·by_cases hA:inc<1
  ·exact rdo_4A h hbs ok node client inc req ver code key hn0 hn1 hA
  ·have hA:1≤inc:=by omega
   by_cases hB:R.lives.getD node.toNat 0=inc
   ·cases hC:rwanted R (⟨key,ver⟩:ID) with
    | false=>exact rdo_4C h hbs ok node client inc req ver code key hn0 hn1 hA hB hC
    | true=>
     by_cases hD:0≤pendI (rsays R ⟨(⟨key,ver⟩:ID),node,inc,false⟩) (⟨key,ver⟩:ID)
     ·by_cases hE:(rcount (rsays R ⟨(⟨key,ver⟩:ID),node,inc,false⟩) (⟨key,ver⟩:ID) false:Int)<R.W
      ·exact rdo_4E h hbs ok node client inc req ver code key hn0 hn1 hA hB hC hD hE
      ·by_cases hF:(rlookV R key).ver<ver
       ·exact rdo_4F h hbs ok node client inc req ver code key hn0 hn1 hA hB hC hD hE hF
       ·exact rdo_4G h hbs ok node client inc req ver code key hn0 hn1 hA hB hC hD hE hF
     ·exact rdo_4D h hbs ok node client inc req ver code key hn0 hn1 hA hB hC hD
   ·exact rdo_4B h hbs ok node client inc req ver code key hn0 hn1 hA hB
 ·by_cases hA:inc<1
  ·exact rdo_5A h hbs ok node client inc req ver code key hn0 hn1 hA
  ·have hA:1≤inc:=by omega
   by_cases hB:R.lives.getD node.toNat 0=inc
   ·by_cases hC:0≤pendI R (⟨key,ver⟩:ID)
    ·by_cases hD:R.N-(rcount (rsays R ⟨(⟨key,ver⟩:ID),node,inc,true⟩) (⟨key,ver⟩:ID) true:Int)<R.W
     ·exact rdo_5E h hbs ok node client inc req ver code key hn0 hn1 hA hB hC hD
     ·exact rdo_5D h hbs ok node client inc req ver code key hn0 hn1 hA hB hC hD
    ·exact rdo_5C h hbs ok node client inc req ver code key hn0 hn1 hA hB hC
   ·exact rdo_5B h hbs ok node client inc req ver code key hn0 hn1 hA hB
 ·cases hB:rbeginsB R ⟨6,node,client,inc,req,ver,key,code⟩ with
  | true=>exact rdo_6y h hbs ok node client inc req ver code key hn0 hn1 hB
  | false=>exact rdo_6n h hbs ok node client inc req ver code key hn0 hn1 hB
 ·cases hB:rbeginsB R ⟨7,node,client,inc,req,ver,key,code⟩ with
  | true=>exact rdo_7y h hbs ok node client inc req ver code key hn0 hn1 hB
  | false=>exact rdo_7n h hbs ok node client inc req ver code key hn0 hn1 hB
end
structure Duo (w0:World) (own:Nat→Prop) (tb rb:Nat) (L:Tab) (R:RTab) (W:World):Prop where
 ex:∃q:Nat→Prop,At (fun k=>w0.heap.size≤k∧¬own k∧¬q k) W tb L∧RAt (fun k=>w0.heap.size≤k∧q k) W rb R∧∀k,q k→k<W.heap.size∧¬own k
 lt:∀k,own k→k<W.heap.size
 base:w0.grownBy W none
section
variable {w0 W W' : World} {own : Nat → Prop} {tb rb : Nat} {L : Tab} {R : RTab}
theorem Duo.grown (h:Duo w0 own tb rb L R W) (hg:W.grownBy W' none):Duo w0 own tb rb L R W':=by
 obtain⟨q,h1,h2,h3⟩:=h.ex
 exact⟨⟨q,h1.grown hg,h2.grown hg,fun k hk=>⟨Nat.lt_of_lt_of_le (h3 k hk).1 hg.size,(h3 k hk).2⟩⟩,fun k hk=>Nat.lt_of_lt_of_le (h.lt k hk) hg.size,grown_trans h.base hg⟩
theorem Duo.tlt (h:Duo w0 own tb rb L R W):tb<W.heap.size∧rb<W.heap.size:=by
 obtain⟨q,h1,h2,h3⟩:=h.ex
 exact⟨h1.lt,h2.lt⟩
theorem Duo.fresh (h:Duo w0 own tb rb L R W) (hg:W.grownBy W' none) (g:Nat) (hge:W.heap.size≤g) (hlt:g<W'.heap.size):Duo w0 (fun k=>own k∨k=g) tb rb L R W':=by
 obtain⟨q,h1,h2,h3⟩:=h.ex
 exact⟨⟨q,(h1.mono fun k hk hb=>⟨hb.1,fun h4=>h4.elim hb.2.1 (fun e=>by omega),hb.2.2⟩).grown hg,h2.grown hg,fun k hk=>⟨Nat.lt_of_lt_of_le (h3 k hk).1 hg.size,fun h4=>h4.elim (h3 k hk).2 (fun e=>by have:=(h3 k hk).1;omega)⟩⟩,fun k hk=>hk.elim (fun e=>Nat.lt_of_lt_of_le (h.lt k e) hg.size) (fun e=>by omega),grown_trans h.base hg⟩
theorem Duo.less (h:Duo w0 own tb rb L R W) {own':Nat→Prop} (hs:∀k,own' k→own k):Duo w0 own' tb rb L R W:=by
 obtain⟨q,h1,h2,h3⟩:=h.ex
 exact⟨⟨q,h1.mono fun k _ hb=>⟨hb.1,fun h4=>hb.2.1 (hs k h4),hb.2.2⟩,h2,fun k hk=>⟨(h3 k hk).1,fun h4=>(h3 k hk).2 (hs k h4)⟩⟩,fun k hk=>h.lt k (hs k hk),h.base⟩
theorem Duo.doT {n k:Nat} (h:Duo w0 own tb rb L R W) (hI:Inv n k L) (hn:n≤1000000) (ho:L.offers<1000000) (hx:L.next<1000000) (c:Cmd) (hkey:(c.key.size:Int)≤9223372036854775807) :
  Calls Tryz.prog 22 #[.pointer (some ⟨tb,0,none⟩),encCmd c] W fun e w'=>e = .returned (.int .i64 (if mayB c=true∧c.node<(L.lives.length:Int) then 0 else 2))∧Duo w0 own tb rb (actT L c) R w'∧Same own W w':=by
 obtain⟨q,h1,h2,h3⟩:=h.ex
 refine(do_act h1 hI hn ho hx c hkey (fun k hk=>⟨Nat.le_trans h.base.size hk,fun e=>by have:=h.lt k e;omega,fun e=>by have:=(h3 k e).1;omega⟩)).mono ?_
 rintro e w' ⟨a,b,d⟩
 refine⟨a,⟨⟨q,b,h2.turn (cs:=own) fun k hk hb=>d.block k hk (fun e=>e.2.2 hb.2),fun k hk=>⟨Nat.lt_of_lt_of_le (h3 k hk).1 d.size,(h3 k hk).2⟩⟩,fun k hk=>Nat.lt_of_lt_of_le (h.lt k hk) d.size,?_⟩,fun k hk=>d.block k (h.lt k hk) (fun e=>e.2.1 hk)⟩
 exact⟨d.os.trans h.base.os,d.tape.trans h.base.tape,d.output.trans h.base.output,Nat.le_trans h.base.size d.size,fun k hk _=>(d.block k (Nat.lt_of_lt_of_le hk h.base.size) (fun e=>by omega)).trans (h.base.block k hk (by simp))⟩
theorem Duo.doR (h:Duo w0 own tb rb L R W) (ok:ROk R) (c:Cmd) (h1:1≤c.kind) (h7:c.kind≤7) (hn0:0≤c.node) (hn1:c.node<(R.lives.length:Int)) :
  Calls Tryz.prog 60 #[.pointer (some ⟨rb,0,none⟩),encCmd c] W fun e w'=>e = .returned (.tuple #[])∧Duo w0 own tb rb L (rdo R c) w'∧Same own W w':=by
 obtain⟨q,t1,t2,t3⟩:=h.ex
 refine(rdo_any (bs:=fun k=>w0.heap.size≤k∧(q k∨W.heap.size≤k)) (t2.mono fun k hk hb=>⟨hb.1,Or.inl hb.2⟩) (fun k hk=>⟨Nat.le_trans h.base.size hk,Or.inr hk⟩) ok c h1 h7 hn0 hn1).mono ?_
 rintro e w' ⟨a,b,d⟩
 have hold:∀k,k<W.heap.size→¬q k→w'.heap[k]? = W.heap[k]?:=fun k hk hq=>d.block k hk (fun e=>by
  rcases e.2 with e|e
  ·exact hq e
  ·omega)
 refine⟨a,⟨⟨fun k=>(q k∨W.heap.size≤k)∧k<w'.heap.size∧¬own k,?_,?_,fun k hk=>hk.2⟩,fun k hk=>Nat.lt_of_lt_of_le (h.lt k hk) d.size,?_⟩,fun k hk=>hold k (h.lt k hk) (fun e=>(t3 k e).2 hk)⟩
 ·have s1:At (fun k=>(w0.heap.size≤k∧¬own k∧¬q k)∧k<W.heap.size) W tb L:=t1.mono fun k hk hb=>⟨hb,hk⟩
  have s2:=s1.same (W:=w') fun k hk hb=>hold k hk hb.1.2.2
  exact s2.mono fun k hk hb=>⟨hb.1.1,hb.1.2.1,fun e=>by
   rcases e.1 with e|e
   ·exact hb.1.2.2 e
   ·omega⟩
 ·exact b.mono fun k hk hb=>⟨hb.1,hb.2,hk,fun e=>by
   rcases hb.2 with e2|e2
   ·exact(t3 k e2).2 e
   ·have:=h.lt k e;omega⟩
 ·exact⟨d.os.trans h.base.os,d.tape.trans h.base.tape,d.output.trans h.base.output,Nat.le_trans h.base.size d.size,fun k hk _=>(d.block k (Nat.lt_of_lt_of_le hk h.base.size) (fun e=>by omega)).trans (h.base.block k hk (by simp))⟩
end
def ractT (R:RTab) (c:Cmd):RTab:=if mayB c=true∧c.node<R.N then rdo R c else R
theorem may_key {c:Cmd} (h:mayB c=true):c.key.size≤64:=by
 unfold mayB at h
 simp only[Bool.and_eq_true,decide_eq_true_eq] at h
 omega
theorem both_step {n k j:Nat} {L:Tab} {R:RTab} (h:Both n k j L R) (c:Cmd):Both n k (j+1) (actT L c) (ractT R c):=by
 have hN:=h.sim.s0.N
 have hl:=h.inv.ln
 refine⟨act_inv h.inv c,?_,?_⟩
 ·unfold actT ractT
  by_cases hm:mayB c=true∧c.node<R.N
  ·rw[if_pos hm,if_pos ⟨hm.1,by omega⟩]
   have:=may_kind hm.1
   exact sim_step h.inv h.sim c ⟨this.2.2,by omega⟩ this.1 this.2.1
  ·rw[if_neg hm,if_neg (fun e=>hm ⟨e.1,by omega⟩)]
   exact h.sim
 ·unfold ractT
  split
  ·rename_i hm
   exact rdo_b h.rb c (may_key hm.1)
  ·exact h.rb.le (Nat.le_succ j)
end Go.Proofs.YtjfelfjobeeenaaGreat
