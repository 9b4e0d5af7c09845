/- The document's Do at some kinds: the walks. Conditions: a table that lies in memory, its numbers within bounds. The document's Do: any command. Conditions: a table that lies in memory, its numbers within bounds; a command of a kind and a node that there are. Two tables side by side in memory: what a command on each leaves. Conditions: both lie in memory, apart. TableBytes, plain: what is kept of ranges, and of no empty set; two tables with the same lookups. Conditions: none. fields.Writer's Raw and the table's text: the walks. Conditions: a writer that lies in memory, not too many bytes. -/
import Derived.Test.YtjfelfjobeeenaaGreatP18
import Derived.Deep.DeepCutAuto
import Derived.Test.YtjfelfjobeeenaaGreatP25
import Derived.Test.YtjfelfjobeeenaaGreatP26
import Derived.Test.YtjfelfjobeeenaaGreatP27
import Derived.Test.YtjfelfjobeeenaaGreatP28
import Derived.Test.YtjfelfjobeeenaaGreatP29
import Derived.Test.YtjfelfjobeeenaaGreatP30
import Derived.Test.YtjfelfjobeeenaaGreatP24
import Derived.Test.YtjfelfjobeeenaaGreatP14
import Derived.Lib.ConvBytes
namespace Go.Proofs.YtjfelfjobeeenaaGreat
set_option linter.unusedVariables false
set_option linter.unusedSimpArgs false
open Go.RowKit Go.Sf Go.Shelf
section
variable {bs : Nat → Prop} {W : World} {rb : Nat} {R : RTab}
set_option maxHeartbeats 8000000 in
set_option maxRecDepth 100000 in
theorem rdo_5E (h:RAt bs W rb R) (hbs:∀k,W.heap.size≤k→bs k) (ok:ROk R) (node client inc req ver code:Int) (key:ByteArray) (hn0:0≤node) (hn1:node<(R.lives.length:Int)) (hA:1≤inc) (hB:R.lives.getD node.toNat 0=inc) (hC:0≤pendI R (⟨key,ver⟩:ID)) (hD:R.N-(rcount (rsays R ⟨(⟨key,ver⟩:ID),node,inc,true⟩) (⟨key,ver⟩:ID) true:Int)<R.W):Calls Tryz.prog 60 #[.pointer (some ⟨rb,0,none⟩),encCmd ⟨5,node,client,inc,req,ver,key,code⟩] W fun e w'=>e = .returned (.tuple #[])∧RAt bs w' rb (rdo R ⟨5,node,client,inc,req,ver,key,code⟩)∧Turn bs W w':=by
 obtain⟨a,rfl⟩:=Int.eq_ofNat_of_zero_le hn0
 have hal:a<R.lives.length:=by omega
 have hat:((a:Nat):Int).toNat=a:=rfl
 rw[hat] at hB
 clear hat
 obtain⟨kk,hkk,hkl,hmg,hpi,her⟩:=pendI_some _ _ hC
 have hnow:rnowB R (⟨5,(a:Int),client,inc,req,ver,key,code⟩:Cmd)=true:=by have e:rlife R (a:Int)=R.lives.getD a 0:=rfl;simp only[rnowB,e,decide_eq_true hA,decide_eq_true hB,Bool.and_self]
 have HE:Hid (rdo R (⟨5,(a:Int),client,inc,req,ver,key,code⟩:Cmd)=rclean (rdone (rends (rsays R ⟨⟨key,ver⟩,(a:Int),inc,true⟩) ⟨key,ver⟩) ⟨key,ver⟩ R.pends[kk].2 181)):=(show rdo R (⟨5,(a:Int),client,inc,req,ver,key,code⟩:Cmd)=rclean (rdone (rends (rsays R ⟨⟨key,ver⟩,(a:Int),inc,true⟩) ⟨key,ver⟩) ⟨key,ver⟩ R.pends[kk].2 181) from by
  unfold rdo rrefuse
  simp only[show ¬((5:Int)=1) by decide,show ¬((5:Int)=2) by decide,show ¬((5:Int)=3) by decide,show ¬((5:Int)=4) by decide,if_false,if_true,hmg,hnow,if_pos hD])
 have HKL:=Lib.hid (And.intro hmg (And.intro hpi her))
 have HKK:=Lib.hid hkk
 clear hmg hpi her hnow
 have hg2:W.grownBy ((W.alloc (.cells #[.int .u8 5,.int .i64 (a:Int),.int .i64 client,.int .i64 inc,.int .i64 req,.int .i64 ver,.string key,.int .i64 code] 29)).alloc (.cells #[.string key,.int .i64 ver] 59)) none:=grown_alloc (grown_alloc (grown_refl _) _) _
 have HG2:=Lib.hid hg2
 have HB0:Hid (((W.alloc (.cells #[.int .u8 5,.int .i64 (a:Int),.int .i64 client,.int .i64 inc,.int .i64 req,.int .i64 ver,.string key,.int .i64 code] 29)).alloc (.cells #[.string key,.int .i64 ver] 59)).heap[W.heap.size]? = some (.cells #[.int .u8 5,.int .i64 (a:Int),.int .i64 client,.int .i64 inc,.int .i64 req,.int .i64 ver,.string key,.int .i64 code] 29)):=(show((W.alloc (.cells #[.int .u8 5,.int .i64 (a:Int),.int .i64 client,.int .i64 inc,.int .i64 req,.int .i64 ver,.string key,.int .i64 code] 29)).alloc (.cells #[.string key,.int .i64 ver] 59)).heap[W.heap.size]? = some (.cells #[.int .u8 5,.int .i64 (a:Int),.int .i64 client,.int .i64 inc,.int .i64 req,.int .i64 ver,.string key,.int .i64 code] 29) from (alloc_oldG _ _ (by simp)).trans (heap_alloc_new _ _))
 have HB1:Hid (((W.alloc (.cells #[.int .u8 5,.int .i64 (a:Int),.int .i64 client,.int .i64 inc,.int .i64 req,.int .i64 ver,.string key,.int .i64 code] 29)).alloc (.cells #[.string key,.int .i64 ver] 59)).heap[W.heap.size+1]? = some (.cells #[.string key,.int .i64 ver] 59)):=(show((W.alloc (.cells #[.int .u8 5,.int .i64 (a:Int),.int .i64 client,.int .i64 inc,.int .i64 req,.int .i64 ver,.string key,.int .i64 code] 29)).alloc (.cells #[.string key,.int .i64 ver] 59)).heap[W.heap.size+1]? = some (.cells #[.string key,.int .i64 ver] 59) from by have:=heap_alloc_new (W.alloc (.cells #[.int .u8 5,.int .i64 (a:Int),.int .i64 client,.int .i64 inc,.int .i64 req,.int .i64 ver,.string key,.int .i64 code] 29)) (.cells #[.string key,.int .i64 ver] 59);simpa using this)
 have HA0:Hid (RAt (fence bs W ((W.alloc (.cells #[.int .u8 5,.int .i64 (a:Int),.int .i64 client,.int .i64 inc,.int .i64 req,.int .i64 ver,.string key,.int .i64 code] 29)).alloc (.cells #[.string key,.int .i64 ver] 59))) ((W.alloc (.cells #[.int .u8 5,.int .i64 (a:Int),.int .i64 client,.int .i64 inc,.int .i64 req,.int .i64 ver,.string key,.int .i64 code] 29)).alloc (.cells #[.string key,.int .i64 ver] 59)) rb R):=(show RAt (fence bs W ((W.alloc (.cells #[.int .u8 5,.int .i64 (a:Int),.int .i64 client,.int .i64 inc,.int .i64 req,.int .i64 ver,.string key,.int .i64 code] 29)).alloc (.cells #[.string key,.int .i64 ver] 59))) ((W.alloc (.cells #[.int .u8 5,.int .i64 (a:Int),.int .i64 client,.int .i64 inc,.int .i64 req,.int .i64 ver,.string key,.int .i64 code] 29)).alloc (.cells #[.string key,.int .i64 ver] 59)) rb R from h.fence hg2)
 have HBS:Hid (∀w:World,((W.alloc (.cells #[.int .u8 5,.int .i64 (a:Int),.int .i64 client,.int .i64 inc,.int .i64 req,.int .i64 ver,.string key,.int .i64 code] 29)).alloc (.cells #[.string key,.int .i64 ver] 59)).heap.size≤w.heap.size→∀k,w.heap.size≤k→fence bs W ((W.alloc (.cells #[.int .u8 5,.int .i64 (a:Int),.int .i64 client,.int .i64 inc,.int .i64 req,.int .i64 ver,.string key,.int .i64 code] 29)).alloc (.cells #[.string key,.int .i64 ver] 59)) k):=(show ∀w:World,((W.alloc (.cells #[.int .u8 5,.int .i64 (a:Int),.int .i64 client,.int .i64 inc,.int .i64 req,.int .i64 ver,.string key,.int .i64 code] 29)).alloc (.cells #[.string key,.int .i64 ver] 59)).heap.size≤w.heap.size→∀k,w.heap.size≤k→fence bs W ((W.alloc (.cells #[.int .u8 5,.int .i64 (a:Int),.int .i64 client,.int .i64 inc,.int .i64 req,.int .i64 ver,.string key,.int .i64 code] 29)).alloc (.cells #[.string key,.int .i64 ver] 59)) k from fun w hw=>fence_new hbs hg2.size w hw)
 have hrb0:rb<W.heap.size:=h.lt
 have OK:=Lib.hid ok
 clear h hbs ok hg2
 simp only[encCmd]
 go_enter Tryz.func60,Tryz.ntmps60
 go_upto_region 23 with fail
 generalize (W.alloc (.cells #[.int .u8 5,.int .i64 (a:Int),.int .i64 client,.int .i64 inc,.int .i64 req,.int .i64 ver,.string key,.int .i64 code] 29)).alloc (.cells #[.string key,.int .i64 ver] 59)=W2 at *
 have HT0:Hid (Turn (fence bs W W2) W2 W2):=(show Turn (fence bs W W2) W2 W2 from turn_grown (grown_refl _))
 obtain⟨⟨d0,d1,d2,d3,d4,d5,d6,d7⟩,j0,j1,hw0,hw1⟩:=boxes HB0.out HB1.out HT0.out
 have HPE:Hid (Calls Tryz.prog 117 #[.pointer (some ⟨rb,0,none⟩),.agg #[.string key,.int .i64 ver]] W2 fun e w'=>e = .returned (.int .i64 (pendI R ⟨key,ver⟩))∧W2.grownBy w' none):=(show Calls _ _ _ _ _ from rpend_at HA0.out ⟨key,ver⟩)
 generalize hP:pendI R ⟨key,ver⟩=P at *
 have HP:=Lib.hid hP
 clear hP
 go_upto_region 24 with (go_at_call 117;refine HPE.out.mono ?_;rintro e w1 ⟨rfl,hg⟩;clear d0 d1 d2 d3 d4 d5 d6 d7 j0 j1 hw0 hw1;have HA1:=Lib.hid (HA0.out.grown hg);have HT1:Hid (Turn (fence bs W W2) W2 w1):=(show Turn (fence bs W W2) W2 w1 from turn_grown hg);clear hg;obtain⟨⟨d0,d1,d2,d3,d4,d5,d6,d7⟩,j0,j1,hw0,hw1⟩:=boxes HB0.out HB1.out HT1.out)
 obtain⟨gL,capL,c4,f0,y0,hcl,hcm⟩:=HA1.out.live hal
 obtain⟨LV,hLV⟩:∃x,R.lives.getD a 0=x:=⟨_,rfl⟩
 rw[hLV] at f0
 have hgL:gL<w1.heap.size:=cell_lt f0
 have q1:decide (inc<1)=false:=by simp;omega
 have q2:(LV != inc)=false:=by rw[←hLV];simpa using hB
 have HH:=Lib.hid (And.intro hA hB)
 clear hA hB hLV
 have q3:decide (P<0)=false:=by simp;omega
 have HC:=Lib.hid hC
 clear hC
 go_quiet (fail)
 have HA2:=Lib.hid (HA1.out.grown (grown_drewN w1 nq))
 have HT2:Hid (Turn (fence bs W W2) W2 (w1.drewN nq)):=(show Turn (fence bs W W2) W2 (w1.drewN nq) from turn_after HT1.out (grown_drewN _ _))
 clear d0 d1 d2 d3 d4 d5 d6 d7 j0 j1 hw0 hw1
 clear c4 f0 y0 hcl hcm hgL
 generalize w1.drewN nq=w2 at *
 obtain⟨⟨d0,d1,d2,d3,d4,d5,d6,d7⟩,j0,j1,hw0,hw1⟩:=boxes HB0.out HB1.out HT2.out
 go_upto_region 26 with (go_at_call 116;refine(rsays_any HA2.out (HBS.out _ HT2.out.size) ⟨⟨key,ver⟩,(a:Int),inc,true⟩ (by have:=OK.out.lh;omega)).mono ?_;rintro e w3 ⟨rfl,hr,ht⟩;clear d0 d1 d2 d3 d4 d5 d6 d7 j0 j1 hw0 hw1;have HA3:=Lib.hid hr;have HT3:=Lib.hid (turn_trans HT2.out ht);clear hr ht;obtain⟨⟨d0,d1,d2,d3,d4,d5,d6,d7⟩,j0,j1,hw0,hw1⟩:=boxes HB0.out HB1.out HT3.out)
 have c0:w3.cell? ⟨rb,0,none⟩=some (.int .i64 R.N):=HA3.out.c0
 have c1:w3.cell? ⟨rb,1,none⟩=some (.int .i64 R.W):=HA3.out.c1
 have hrb:=HA3.out.lt
 have hNN:=OK.out.nn
 have hll:=OK.out.ll
 have hN0:0≤R.N:=by omega
 have hN1:R.N≤1000000:=by omega
 have hcn:rcount (rsays R ⟨⟨key,ver⟩,(a:Int),inc,true⟩) ⟨key,ver⟩ true≤10000001:=by
  unfold rcount
  refine Nat.le_trans (List.length_filter_le _ _) ?_
  show((R.holds.filter _) ++ [_]).length≤_
  rw[List.length_append]
  have:=List.length_filter_le (fun y:RHold=>decide (y.id≠(⟨key,ver⟩:ID)) || decide (y.node≠(a:Int))) R.holds
  have:=OK.out.lh
  simp only[List.length_singleton]
  omega
 clear hNN hll
 have HCO:Hid (∀W',w3.grownBy W' none→Calls Tryz.prog 118 #[.pointer (some ⟨rb,0,none⟩),.agg #[.string key,.int .i64 ver],.bool true] W' fun e w'=>e = .returned (.int .i64 (rcount (rsays R ⟨⟨key,ver⟩,(a:Int),inc,true⟩) ⟨key,ver⟩ true))∧W'.grownBy w' none):=(show ∀_,_ from fun W' hg=>rcount_at (HA3.out.grown hg) ⟨key,ver⟩ true)
 have q4:decide (R.N-(rcount (rsays R ⟨⟨key,ver⟩,(a:Int),inc,true⟩) ⟨key,ver⟩ true:Int)<R.W)=true:=by simpa using hD
 have HDD:=Lib.hid hD
 clear hD
 refine wp_region_quiet_ext (by kernel_rfl) (by kernel_rfl) ?_
 repeat (any_goals (first|go_big_quiet_step (((go_at_call 118;exact calls_ext (HCO.out _ (by repeat (first|exact grown_refl _|exact grown_drewN _ _|refine grown_ext' ?_ _|refine grown_alloc ?_ _|refine grown_drew ?_))))))|quiet_step (((go_at_call 118;exact calls_ext (HCO.out _ (by repeat (first|exact grown_refl _|exact grown_drewN _ _|refine grown_ext' ?_ _|refine grown_alloc ?_ _|refine grown_drew ?_))))))))
 refine wpQuiet_nil ?_
 intro _ hw'
 obtain⟨xx,hw''⟩:=hw'
 subst hw''
 have HA4:=Lib.hid (HA3.out.grown (grown_ext w3 xx))
 have HT4:Hid (Turn (fence bs W W2) W2 (ext w3 xx)):=(show Turn (fence bs W W2) W2 (ext w3 xx) from turn_after HT3.out (grown_ext _ _))
 clear d0 d1 d2 d3 d4 d5 d6 d7 j0 j1 hw0 hw1
 clear c0 c1 hrb hN0 hN1 hcn
 generalize ext w3 xx=w4 at *
 have hnd:∀x∈(rsays R ⟨⟨key,ver⟩,(a:Int),inc,true⟩).holds,0≤x.node∧x.node<(R.lives.length:Int):=by
  intro x hx
  rcases List.mem_append.1 hx with hx|hx
  ·exact OK.out.nd x (List.mem_filter.1 hx).1
  ·have:=List.mem_singleton.1 hx
   subst this
   exact⟨by simp only;omega,by simp only;omega⟩
 have hhl:(rsays R ⟨⟨key,ver⟩,(a:Int),inc,true⟩).holds.length≤10000001:=by
  show((R.holds.filter _) ++ [_]).length≤_
  rw[List.length_append]
  have:=List.length_filter_le (fun y:RHold=>decide (y.id≠(⟨key,ver⟩:ID)) || decide (y.node≠(a:Int))) R.holds
  have:=OK.out.lh
  simp only[List.length_singleton]
  omega
 have hPk:P=(kk:Int):=by first|exact HKK.out|(rw[←HP.out];exact HKK.out)
 subst hPk
 have hpl0:(rsays R ⟨⟨key,ver⟩,(a:Int),inc,true⟩).pends.length≤10000000:=OK.out.lp
 have hho:(rdone (rends (rsays R ⟨⟨key,ver⟩,(a:Int),inc,true⟩) ⟨key,ver⟩) R.pends[kk].1 R.pends[kk].2 181).holds=(rsays R ⟨⟨key,ver⟩,(a:Int),inc,true⟩).holds:=by unfold rdone;split <;> rfl
 have hli:(rdone (rends (rsays R ⟨⟨key,ver⟩,(a:Int),inc,true⟩) ⟨key,ver⟩) R.pends[kk].1 R.pends[kk].2 181).lives=R.lives:=by unfold rdone;split <;> rfl
 have HND:=Lib.hid (And.intro hho (And.intro hli (And.intro hnd hhl)))
 have herr:{ (rsays R ⟨⟨key,ver⟩,(a:Int),inc,true⟩) with pends:=(rsays R ⟨⟨key,ver⟩,(a:Int),inc,true⟩).pends.eraseIdx kk }=rends (rsays R ⟨⟨key,ver⟩,(a:Int),inc,true⟩) ⟨key,ver⟩:=by
  have h:=congrArg RTab.pends HKL.out.2.2
  show { (rsays R ⟨⟨key,ver⟩,(a:Int),inc,true⟩) with pends:=R.pends.eraseIdx kk } = { (rsays R ⟨⟨key,ver⟩,(a:Int),inc,true⟩) with pends:=R.pends.eraseP fun p=>decide (p.1=(⟨key,ver⟩:ID)) }
  have h':R.pends.eraseIdx kk=R.pends.eraseP fun p=>decide (p.1=(⟨key,ver⟩:ID)):=h
  rw[h']
 have HER:=Lib.hid herr
 clear hho hli hnd hhl herr
 go_upto_region 36 with (first
  | (go_at_call 119;refine(rends_any HA4.out (HBS.out _ HT4.out.size) kk (show kk<(rsays R ⟨⟨key,ver⟩,(a:Int),inc,true⟩).pends.length from hkl) (by omega)).mono ?_;rintro e w5 ⟨rfl,hr,ht⟩;rw[HER.out] at hr;have HA5:=Lib.hid hr;have HT5:=Lib.hid (turn_trans HT4.out ht);clear hr ht)
  | (go_at_call 122;refine(rdone_any HA5.out (HBS.out _ HT5.out.size) R.pends[kk].1 R.pends[kk].2 181 (by have:=OK.out.lc;show R.calls.length≤_;omega)).mono ?_;rintro e w6 ⟨rfl,hr,ht⟩;have HA6:=Lib.hid hr;have HT6:=Lib.hid (turn_trans HT5.out ht);clear hr ht))
 go_wp2_with (go_at_call 123;refine(rclean_any HA6.out (HBS.out _ HT6.out.size) (by rw[HND.out.1,HND.out.2.1];exact HND.out.2.2.1) (by rw[HND.out.1];have:=HND.out.2.2.2;omega) (by rw[HND.out.2.1];exact OK.out.ll)).mono ?_;rintro e wz ⟨rfl,hr,ht⟩;have HZ:=Lib.hid (fence_end HG2.out hr (turn_trans HT6.out ht));clear hr ht)
 first|go_end0|refine bodyPost_ret (results_none rfl _ _ _) rfl ?_
 refine⟨rfl,?_⟩
 have hZ:=HZ.out
 rw[HKL.out.2.1] at hZ
 rw[HE.out]
 exact hZ
end
section
variable {bs : Nat → Prop} {W : World} {rb : Nat} {R : RTab}
theorem rdo_any (h:RAt bs W rb R) (hbs:∀k,W.heap.size≤k→bs k) (ok:ROk R) (c:Cmd) (h1:1≤c.kind) (h7:c.kind≤7) (hn0:0≤c.node) (hn1:c.node<(R.lives.length:Int)):Calls Tryz.prog 60 #[.pointer (some ⟨rb,0,none⟩),encCmd c] W fun e w'=>e = .returned (.tuple #[])∧RAt bs w' rb (rdo R c)∧Turn bs W w':=by
 obtain⟨kind,node,client,inc,req,ver,key,code⟩:=c
 simp only at h1 h7 hn0 hn1
 have hk:kind=1∨kind=2∨kind=3∨kind=4∨kind=5∨kind=6∨kind=7:=by omega
 rcases hk with rfl|rfl|rfl|rfl|rfl|rfl|rfl
 ·exact rdo_1 h hbs ok node client inc req ver code key hn0 hn1
 ·by_cases hA:inc≤R.lives.getD node.toNat 0
  ·exact rdo_2A h hbs ok node client inc req ver code key hn0 hn1 hA
  ·by_cases hB:inc≤R.offers
   ·exact rdo_2C h hbs ok node client inc req ver code key hn0 hn1 (by omega) hB
   ·exact rdo_2B h hbs ok node client inc req ver code key hn0 hn1 (by omega) (by omega)
 ·cases hB:rbeginsB R ⟨3,node,client,inc,req,ver,key,code⟩ with
  | true=>exact rdo_3y h hbs ok node client inc req ver code key hn0 hn1 hB
  | false=>exact rdo_3n h hbs ok node client inc req ver code key hn0 hn1 hB
 ·by_cases hA:inc<1
  ·exact rdo_4A h hbs ok node client inc req ver code key hn0 hn1 hA
  ·have hA:1≤inc:=by omega
   by_cases hB:R.lives.getD node.toNat 0=inc
   ·cases hC:rwanted R (⟨key,ver⟩:ID) with
    | false=>exact rdo_4C h hbs ok node client inc req ver code key hn0 hn1 hA hB hC
    | true=>
     by_cases hD:0≤pendI (rsays R ⟨(⟨key,ver⟩:ID),node,inc,false⟩) (⟨key,ver⟩:ID)
     ·by_cases hE:(rcount (rsays R ⟨(⟨key,ver⟩:ID),node,inc,false⟩) (⟨key,ver⟩:ID) false:Int)<R.W
      ·exact rdo_4E h hbs ok node client inc req ver code key hn0 hn1 hA hB hC hD hE
      ·by_cases hF:(rlookV R key).ver<ver
       ·exact rdo_4F h hbs ok node client inc req ver code key hn0 hn1 hA hB hC hD hE hF
       ·exact rdo_4G h hbs ok node client inc req ver code key hn0 hn1 hA hB hC hD hE hF
     ·exact rdo_4D h hbs ok node client inc req ver code key hn0 hn1 hA hB hC hD
   ·exact rdo_4B h hbs ok node client inc req ver code key hn0 hn1 hA hB
 ·by_cases hA:inc<1
  ·exact rdo_5A h hbs ok node client inc req ver code key hn0 hn1 hA
  ·have hA:1≤inc:=by omega
   by_cases hB:R.lives.getD node.toNat 0=inc
   ·by_cases hC:0≤pendI R (⟨key,ver⟩:ID)
    ·by_cases hD:R.N-(rcount (rsays R ⟨(⟨key,ver⟩:ID),node,inc,true⟩) (⟨key,ver⟩:ID) true:Int)<R.W
     ·exact rdo_5E h hbs ok node client inc req ver code key hn0 hn1 hA hB hC hD
     ·exact rdo_5D h hbs ok node client inc req ver code key hn0 hn1 hA hB hC hD
    ·exact rdo_5C h hbs ok node client inc req ver code key hn0 hn1 hA hB hC
   ·exact rdo_5B h hbs ok node client inc req ver code key hn0 hn1 hA hB
 ·cases hB:rbeginsB R ⟨6,node,client,inc,req,ver,key,code⟩ with
  | true=>exact rdo_6y h hbs ok node client inc req ver code key hn0 hn1 hB
  | false=>exact rdo_6n h hbs ok node client inc req ver code key hn0 hn1 hB
 ·cases hB:rbeginsB R ⟨7,node,client,inc,req,ver,key,code⟩ with
  | true=>exact rdo_7y h hbs ok node client inc req ver code key hn0 hn1 hB
  | false=>exact rdo_7n h hbs ok node client inc req ver code key hn0 hn1 hB
end
structure Duo (w0:World) (own:Nat→Prop) (tb rb:Nat) (L:Tab) (R:RTab) (W:World):Prop where
 ex:∃q:Nat→Prop,At (fun k=>w0.heap.size≤k∧¬own k∧¬q k) W tb L∧RAt (fun k=>w0.heap.size≤k∧q k) W rb R∧∀k,q k→k<W.heap.size∧¬own k
 lt:∀k,own k→k<W.heap.size
 base:w0.grownBy W none
section
variable {w0 W W' : World} {own : Nat → Prop} {tb rb : Nat} {L : Tab} {R : RTab}
theorem Duo.grown (h:Duo w0 own tb rb L R W) (hg:W.grownBy W' none):Duo w0 own tb rb L R W':=by
 obtain⟨q,h1,h2,h3⟩:=h.ex
 exact⟨⟨q,h1.grown hg,h2.grown hg,fun k hk=>⟨Nat.lt_of_lt_of_le (h3 k hk).1 hg.size,(h3 k hk).2⟩⟩,fun k hk=>Nat.lt_of_lt_of_le (h.lt k hk) hg.size,grown_trans h.base hg⟩
theorem Duo.tlt (h:Duo w0 own tb rb L R W):tb<W.heap.size∧rb<W.heap.size:=by
 obtain⟨q,h1,h2,h3⟩:=h.ex
 exact⟨h1.lt,h2.lt⟩
theorem Duo.fresh (h:Duo w0 own tb rb L R W) (hg:W.grownBy W' none) (g:Nat) (hge:W.heap.size≤g) (hlt:g<W'.heap.size):Duo w0 (fun k=>own k∨k=g) tb rb L R W':=by
 obtain⟨q,h1,h2,h3⟩:=h.ex
 exact⟨⟨q,(h1.mono fun k hk hb=>⟨hb.1,fun h4=>h4.elim hb.2.1 (fun e=>by omega),hb.2.2⟩).grown hg,h2.grown hg,fun k hk=>⟨Nat.lt_of_lt_of_le (h3 k hk).1 hg.size,fun h4=>h4.elim (h3 k hk).2 (fun e=>by have:=(h3 k hk).1;omega)⟩⟩,fun k hk=>hk.elim (fun e=>Nat.lt_of_lt_of_le (h.lt k e) hg.size) (fun e=>by omega),grown_trans h.base hg⟩
theorem Duo.less (h:Duo w0 own tb rb L R W) {own':Nat→Prop} (hs:∀k,own' k→own k):Duo w0 own' tb rb L R W:=by
 obtain⟨q,h1,h2,h3⟩:=h.ex
 exact⟨⟨q,h1.mono fun k _ hb=>⟨hb.1,fun h4=>hb.2.1 (hs k h4),hb.2.2⟩,h2,fun k hk=>⟨(h3 k hk).1,fun h4=>(h3 k hk).2 (hs k h4)⟩⟩,fun k hk=>h.lt k (hs k hk),h.base⟩
theorem Duo.doT {n k:Nat} (h:Duo w0 own tb rb L R W) (hI:Inv n k L) (hn:n≤1000000) (ho:L.offers<1000000) (hx:L.next<1000000) (c:Cmd) (hkey:(c.key.size:Int)≤9223372036854775807) :
  Calls Tryz.prog 22 #[.pointer (some ⟨tb,0,none⟩),encCmd c] W fun e w'=>e = .returned (.int .i64 (if mayB c=true∧c.node<(L.lives.length:Int) then 0 else 2))∧Duo w0 own tb rb (actT L c) R w'∧Same own W w':=by
 obtain⟨q,h1,h2,h3⟩:=h.ex
 refine(do_act h1 hI hn ho hx c hkey (fun k hk=>⟨Nat.le_trans h.base.size hk,fun e=>by have:=h.lt k e;omega,fun e=>by have:=(h3 k e).1;omega⟩)).mono ?_
 rintro e w' ⟨a,b,d⟩
 refine⟨a,⟨⟨q,b,h2.turn (cs:=own) fun k hk hb=>d.block k hk (fun e=>e.2.2 hb.2),fun k hk=>⟨Nat.lt_of_lt_of_le (h3 k hk).1 d.size,(h3 k hk).2⟩⟩,fun k hk=>Nat.lt_of_lt_of_le (h.lt k hk) d.size,?_⟩,fun k hk=>d.block k (h.lt k hk) (fun e=>e.2.1 hk)⟩
 exact⟨d.os.trans h.base.os,d.tape.trans h.base.tape,d.output.trans h.base.output,Nat.le_trans h.base.size d.size,fun k hk _=>(d.block k (Nat.lt_of_lt_of_le hk h.base.size) (fun e=>by omega)).trans (h.base.block k hk (by simp))⟩
theorem Duo.doR (h:Duo w0 own tb rb L R W) (ok:ROk R) (c:Cmd) (h1:1≤c.kind) (h7:c.kind≤7) (hn0:0≤c.node) (hn1:c.node<(R.lives.length:Int)) :
  Calls Tryz.prog 60 #[.pointer (some ⟨rb,0,none⟩),encCmd c] W fun e w'=>e = .returned (.tuple #[])∧Duo w0 own tb rb L (rdo R c) w'∧Same own W w':=by
 obtain⟨q,t1,t2,t3⟩:=h.ex
 refine(rdo_any (bs:=fun k=>w0.heap.size≤k∧(q k∨W.heap.size≤k)) (t2.mono fun k hk hb=>⟨hb.1,Or.inl hb.2⟩) (fun k hk=>⟨Nat.le_trans h.base.size hk,Or.inr hk⟩) ok c h1 h7 hn0 hn1).mono ?_
 rintro e w' ⟨a,b,d⟩
 have hold:∀k,k<W.heap.size→¬q k→w'.heap[k]? = W.heap[k]?:=fun k hk hq=>d.block k hk (fun e=>by
  rcases e.2 with e|e
  ·exact hq e
  ·omega)
 refine⟨a,⟨⟨fun k=>(q k∨W.heap.size≤k)∧k<w'.heap.size∧¬own k,?_,?_,fun k hk=>hk.2⟩,fun k hk=>Nat.lt_of_lt_of_le (h.lt k hk) d.size,?_⟩,fun k hk=>hold k (h.lt k hk) (fun e=>(t3 k e).2 hk)⟩
 ·have s1:At (fun k=>(w0.heap.size≤k∧¬own k∧¬q k)∧k<W.heap.size) W tb L:=t1.mono fun k hk hb=>⟨hb,hk⟩
  have s2:=s1.same (W:=w') fun k hk hb=>hold k hk hb.1.2.2
  exact s2.mono fun k hk hb=>⟨hb.1.1,hb.1.2.1,fun e=>by
   rcases e.1 with e|e
   ·exact hb.1.2.2 e
   ·omega⟩
 ·exact b.mono fun k hk hb=>⟨hb.1,hb.2,hk,fun e=>by
   rcases hb.2 with e2|e2
   ·exact(t3 k e2).2 e
   ·have:=h.lt k e;omega⟩
 ·exact⟨d.os.trans h.base.os,d.tape.trans h.base.tape,d.output.trans h.base.output,Nat.le_trans h.base.size d.size,fun k hk _=>(d.block k (Nat.lt_of_lt_of_le hk h.base.size) (fun e=>by omega)).trans (h.base.block k hk (by simp))⟩
theorem Duo.telling {n k j:Nat} (h:Duo w0 own tb rb L R W) (hb:Both n k j L R) (hn:n≤1000) (hk:k≤1000) (hj:j≤1000):Telling W tb rb L R:=by
 obtain⟨q,t1,t2,t3⟩:=h.ex
 exact Go.Proofs.YtjfelfjobeeenaaGreat.telling t1 t2 hb hn hk hj
end
def ractT (R:RTab) (c:Cmd):RTab:=if mayB c=true∧c.node<R.N then rdo R c else R
theorem may_key {c:Cmd} (h:mayB c=true):c.key.size≤64:=by
 unfold mayB at h
 simp only[Bool.and_eq_true,decide_eq_true_eq] at h
 omega
theorem both_step {n k j:Nat} {L:Tab} {R:RTab} (h:Both n k j L R) (c:Cmd):Both n k (j+1) (actT L c) (ractT R c):=by
 have hN:=h.sim.s0.N
 have hl:=h.inv.ln
 refine⟨act_inv h.inv c,?_,?_⟩
 ·unfold actT ractT
  by_cases hm:mayB c=true∧c.node<R.N
  ·rw[if_pos hm,if_pos ⟨hm.1,by omega⟩]
   have:=may_kind hm.1
   exact sim_step h.inv h.sim c ⟨this.2.2,by omega⟩ this.1 this.2.1
  ·rw[if_neg hm,if_neg (fun e=>hm ⟨e.1,by omega⟩)]
   exact h.sim
 ·unfold ractT
  split
  ·rename_i hm
   exact rdo_b h.rb c (may_key hm.1)
  ·exact h.rb.le (Nat.le_succ j)
def I64 (x:Int):Prop:=-9223372036854775808≤x∧x<9223372036854775808
structure CallOk (p:Int × CallT):Prop where
 c0:0≤p.1
 c1:p.1≤65535
 r:I64 p.2.req
 v:I64 p.2.ver
 e0:0≤p.2.code
 e1:p.2.code≤65535
structure PendOk (p:ID × Pend):Prop where
 k:p.1.key.size≤64
 c0:0≤p.2.client
 c1:p.2.client≤65535
 r:I64 p.2.req
structure Rng (T:Tab):Prop where
 c:∀p∈T.calls,CallOk p
 v:∀p∈T.values,1≤p.2.ver∧p.1.size≤64
 p:∀p∈T.pending,PendOk p
 cn:(T.calls.map (·.1)).Nodup
 vn:(T.values.map (·.1)).Nodup
structure Tidy (T:Tab):Prop where
 h:∀p∈T.holds,p.2.mem≠[]∧wantedB T p.1=true
 r:∀p∈T.refuses,p.2.mem≠[]∧(mget T.pending p.1).isSome=true
theorem mem_put {K V:Type} [DecidableEq K] {M:List (K × V)} {i:K} {s:V} {x:K × V} (h:x∈mput M i s):x∈M∨x=(i,s):=by
 induction M with
 | nil=>simp[mput] at h;exact Or.inr h
 | cons p r ih=>
  rw[mput] at h
  by_cases e:p.1=i
  ·rw[if_pos e] at h
   rcases List.mem_cons.1 h with h|h
   ·exact Or.inr h
   ·exact Or.inl (List.mem_cons_of_mem _ h)
  ·rw[if_neg e] at h
   rcases List.mem_cons.1 h with h|h
   ·exact Or.inl (h ▸ List.mem_cons_self)
   ·rcases ih h with h|h
    ·exact Or.inl (List.mem_cons_of_mem _ h)
    ·exact Or.inr h
section
variable {T U : Tab} {c : Cmd}
theorem tidy_clean (T:Tab):Tidy (cleanT T):=by
 refine⟨fun p hp=>?_,fun p hp=>?_⟩
 ·obtain⟨h1,h2⟩:=List.mem_filter.1 hp
  simp only[struckH,Bool.not_or,Bool.and_eq_true,Bool.not_not,Bool.not_eq_true',decide_eq_false_iff_not] at h2
  exact⟨fun e=>h2.1 (by rw[e];rfl),h2.2⟩
 ·obtain⟨h1,h2⟩:=List.mem_filter.1 hp
  simp only[struckR,Bool.not_or,Bool.and_eq_true,Bool.not_not,Bool.not_eq_true',decide_eq_false_iff_not] at h2
  exact⟨fun e=>h2.1 (by rw[e];rfl),h2.2⟩
theorem tidy_act (h:Tidy T) (c:Cmd):Tidy (actT T c):=by
 unfold actT
 split
 ·exact tidy_clean _
 ·exact h
theorem tidy_new (N:Nat) (w:Int):Tidy (newT N w 0).norm:=⟨fun p hp=>by simp[newT,Tab.norm,nsets] at hp,fun p hp=>by simp[newT,Tab.norm,nsets] at hp⟩
theorem rng_new (N:Nat) (w:Int):Rng (newT N w 0).norm:=⟨fun p hp=>by simp[newT,Tab.norm] at hp,fun p hp=>by simp[newT,Tab.norm] at hp,fun p hp=>by simp[newT,Tab.norm] at hp,by simp[newT,Tab.norm],by simp[newT,Tab.norm]⟩
theorem Rng.same (h:Rng T) (hc:U.calls=T.calls) (hv:U.values=T.values) (hp:U.pending=T.pending):Rng U:=⟨by rw[hc];exact h.c,by rw[hv];exact h.v,by rw[hp];exact h.p,by rw[hc];exact h.cn,by rw[hv];exact h.vn⟩
theorem Rng.less (h:Rng T) (hc:U.calls=T.calls) (hv:U.values=T.values) (hp:∀p∈U.pending,p∈T.pending):Rng U:=⟨by rw[hc];exact h.c,by rw[hv];exact h.v,fun p hq=>h.p p (hp p hq),by rw[hc];exact h.cn,by rw[hv];exact h.vn⟩
theorem Rng.call (h:Rng T) {m:Int} {x:CallT} (hx:CallOk (m,x)):Rng { T with calls:=mput T.calls m x }:=
 ⟨fun p hp=>by rcases mem_put hp with hp|rfl;exact h.c p hp;exact hx,h.v,h.p,mput_nodup h.cn _ _,h.vn⟩
theorem Rng.val (h:Rng T) {s:ByteArray} {x:Val} (hx:1≤x.ver∧s.size≤64):Rng { T with values:=mput T.values s x }:=
 ⟨h.c,fun p hp=>by rcases mem_put hp with hp|rfl;exact h.v p hp;exact hx,h.p,h.cn,mput_nodup h.vn _ _⟩
theorem Rng.pend (h:Rng T) {i:ID} {x:Pend} (hx:PendOk (i,x)):Rng { T with pending:=mput T.pending i x }:=
 ⟨h.c,h.v,fun p hp=>by rcases mem_put hp with hp|rfl;exact h.p p hp;exact hx,h.cn,h.vn⟩
theorem Rng.callV (h:Rng T) (m:Int):I64 (callV T m).req∧I64 (callV T m).ver:=by
 unfold Go.Proofs.YtjfelfjobeeenaaGreat.callV
 cases e:mget T.calls m with
 | none=>simp[I64]
 | some x=>have:=h.c _ (mget_mem e);exact⟨this.r,this.v⟩
theorem Rng.done (h:Rng T) {i:ID} {p:Pend} (hp:PendOk (i,p)) {code:Int} (h0:0≤code) (h1:code≤65535):Rng (doneT T i p code):=by
 have hb:Rng { T with pending:=mdel T.pending i }:=h.less rfl rfl fun q hq=>(List.mem_filter.1 hq).1
 have hv:=h.callV p.client
 unfold doneT doneCalls
 split
 ·exact Rng.call (T:={ T with pending:=mdel T.pending i }) hb ⟨hp.c0,hp.c1,hv.1,hv.2,h0,h1⟩
 ·exact hb
theorem rng_act {n k:Nat} (hI:Inv n k T) (h:Rng T) (hx:T.next<1000000):Rng (actT T c):=by
 have hn1:=hI.nx
 unfold actT
 split
 case isFalse=>exact h
 case isTrue hm=>
  have hm1:=hm.1
  unfold mayB longB smallB at hm1
  simp only[Bool.and_eq_true,decide_eq_true_eq] at hm1
  obtain⟨⟨⟨⟨⟨k1,k7⟩,hb⟩,hl⟩,hs⟩,hk⟩:=hm1
  have hreq:I64 c.req:=⟨by omega,by omega⟩
  have hnx:I64 T.next:=⟨by omega,by omega⟩
  have i0:I64 0:=⟨by decide,by decide⟩
  have z0:(0:Int)≤0:=by decide
  have z1:(0:Int)≤65535:=by decide
  have hdrop:Rng { T with pending:=dropC T c.client }:=h.less rfl rfl fun q hq=>(List.mem_filter.1 hq).1
  unfold stepT doT
  refine Rng.same (T:=opT T c 0) ?_ rfl rfl rfl
  unfold opT
  split
  ·exact h.same rfl rfl rfl
  split
  ·unfold lifeT
   split
   ·exact h.same rfl rfl rfl
   ·exact h
  split
  ·unfold beganT
   split
   ·have h1:=hdrop.pend (i:=⟨c.key,T.next⟩) (x:=⟨c.client,c.req⟩) ⟨hk,hs.2.2.1,hs.2.2.2.1,hreq⟩
    exact(h1.call (m:=c.client) (x:=⟨c.req,T.next,false,0⟩) ⟨hs.2.2.1,hs.2.2.2.1,hreq,hnx,z0,z1⟩).same rfl rfl rfl
   ·exact h
  split
  ·unfold ackT
   split
   ·have h1:Rng (heldT T ⟨c.key,c.ver⟩ c.node 0):=h.same rfl rfl rfl
    unfold ackRest
    cases e:mget (heldT T ⟨c.key,c.ver⟩ c.node 0).pending ⟨c.key,c.ver⟩ with
    | none=>exact h1
    | some p=>
     have hp:=h1.p _ (mget_mem e)
     have h2:=h1.done hp (code:=0) (by decide) (by decide)
     simp only[]
     split
     ·exact h1
     split
     ·rename_i hlt
      refine h2.val ⟨?_,hk⟩
      exact(hI.pv _ (mget_mem (m:=T.pending) e)).1
     ·exact h2
   ·exact h
  split
  ·unfold refuseT
   split
   ·have h1:Rng (refusedT T ⟨c.key,c.ver⟩ c.node 0):=h.same rfl rfl rfl
    unfold refRest
    cases e:mget (refusedT T ⟨c.key,c.ver⟩ c.node 0).pending ⟨c.key,c.ver⟩ with
    | none=>exact h1
    | some p=>
     have hp:=h1.p _ (mget_mem e)
     simp only[]
     split
     ·exact h1.done hp (by decide) (by decide)
     ·exact h1
   ·exact h
  split
  ·unfold removedT
   split
   ·have h1:=hdrop.val (s:=c.key) (x:=⟨T.next,true⟩) ⟨hn1,hk⟩
    exact(h1.call (m:=c.client) (x:=⟨c.req,0,true,0⟩) ⟨hs.2.2.1,hs.2.2.2.1,hreq,i0,z0,z1⟩).same rfl rfl rfl
   ·exact h
  ·unfold rejectedT
   split
   ·exact(hdrop.call (m:=c.client) (x:=⟨c.req,0,true,c.code⟩) ⟨hs.2.2.1,hs.2.2.2.1,hreq,i0,hs.2.2.2.2.1,hs.2.2.2.2.2⟩).same rfl rfl rfl
   ·exact h
end
open Go.RowKit Go.Sf
theorem row_lower {W:World} {base b2 n:Nat} {e:TypeId} {v:Value} {xs:List Value} (h:W.ownsRow base e 1 v n xs) (hb:b2≤base):W.ownsRow b2 e 1 v n xs:=by
 refine⟨h.1,?_⟩
 rcases h.2 with h0|⟨g,cap,cur,e1,hbg,r⟩
 ·exact Or.inl h0
 ·exact Or.inr ⟨g,cap,cur,e1,Nat.le_trans hb hbg,r⟩
theorem set_box {W w1:World} {wb base n:Nat} {v':Value} {v:Value} {l m:List Int} (h:WBox W wb base v l) (hb:base≤wb) (hg:W.grownBy w1 none) (hr:w1.ownsRow W.heap.size 5 1 v' n (bytesV (l++m))) (hn:n=(l++m).length) :
  Puts W wb base v (l++m) (.returned (.tuple #[])) (w1.setCell ⟨wb,0,none⟩ v'):=by
 subst hn
 have hwb:wb<W.heap.size:=by
  have hx:=h.box
  rcases Nat.lt_or_ge wb W.heap.size with h'|h'
  ·exact h'
  ·rw[Array.getElem?_eq_none h'] at hx;cases hx
 have hx:w1.heap[wb]? = some (.cells #[v] 96 (0,0)):=(hg.block wb hwb (by simp)).trans h.box
 have hs:=grown_set w1 wb 0 v'
 have hne:v'.ownBlock≠some wb:=fun e=>by have:=(hr.lt wb e).1;omega
 refine⟨rfl,v',⟨by simp[World.setCell,Array.getElem?_modify,hx],row_lower (hr.kept hs (Or.inr hne)) (by omega)⟩,⟨hs.os.trans hg.os,hs.tape.trans hg.tape,hs.output.trans hg.output,Nat.le_trans hg.size hs.size,fun q hq hn=>(hs.block q (Nat.lt_of_lt_of_le hq hg.size) (fun e=>hn (Or.inl (by cases e;rfl)))).trans (hg.block q hq (by simp))⟩,Or.inr (fun g e=>(hr.lt g e).1)⟩
def strB (s:ByteArray):List Int:=s.data.toList.map fun b=>(b.toNat:Int)
theorem bytesV_app (l m:List Int):bytesV l++bytesV m=bytesV (l++m):=by simp[bytesV]
set_option maxHeartbeats 2000000 in
set_option maxRecDepth 100000 in
theorem raw_any {W:World} {wb base:Nat} {v y:Value} {l m:List Int} (h:WBox W wb base v l) (hb:base≤wb) (hy:RawRow W y m) (hl:l.length+m.length≤100000000) :
  Calls Tryz.prog 110 #[.pointer (some ⟨wb,0,none⟩),y] W fun e w'=>Puts W wb base v (l++m) e w':=by
 obtain⟨p,cp,rfl⟩:=slice_form h.row
 obtain⟨p1,c1,rfl,-⟩:=hy.ex
 have c0:W.cell? ⟨wb,0,none⟩=some (.slice p l.length cp):=by simp[World.cell?,h.box]
 have h0:=h.box
 have hwb:wb<W.heap.size:=World.block_lt_of_cell? W _ c0
 have hr:RawRow W (.slice p l.length cp) l:=raw_of_row h.row
 have HC:Hid (∀(W':World) (r:Nat),W.grownBy W' none→W'.cell? ⟨r,0,none⟩=some (.slice p l.length cp)→W'.cell? ⟨r,1,none⟩=some (.slice p1 m.length c1)→Calls Tryz.prog 167 #[.slice (some ⟨r,0,none⟩) 2 2] W' fun e w'=>∃v',e = .returned v'∧w'.ownsRow W'.heap.size 5 1 v' (l.length+m.length) (bytesV l++bytesV m)∧W'.grownBy w' none):=
  (fun W' r hg c0 c1=>concat_any (hr.grown hg (by simp)) (hy.grown hg (by simp)) c0 c1 hl)
 have HS:Hid (∀w1 v',W.grownBy w1 none→w1.ownsRow W.heap.size 5 1 v' (l.length+m.length) (bytesV l++bytesV m)→Puts W wb base (.slice p l.length cp) (l++m) (.returned (.tuple #[])) (w1.setCell ⟨wb,0,none⟩ v')):=
  (fun w1 v' hg hr=>set_box h hb hg (by rw[←bytesV_app];exact hr) (by simp))
 clear h hr hy
 generalize l.length=n0 at *
 generalize m.length=n1 at *
 go_enter Tryz.func110,Tryz.ntmps110
 go_wp2_with (go_at_call 167;refine(HC.out _ W.heap.size (grown_alloc (grown_refl _) _) (by simp) (by simp)).mono ?_;rintro e w' ⟨v',rfl,h1,h2⟩;obtain⟨q,cq,rfl⟩:=slice_form h1;have hx:=((grown_trans (grown_alloc (grown_refl W) _) h2).block wb hwb (by simp)).trans h0;have d0:w'.cell? ⟨wb,0,none⟩=some (.slice p n0 cp):=(by simp[World.cell?,hx]);have y0:w'.frozen? ⟨wb,0,none⟩=false:=(by simp[World.frozen?,hx]);have HQ:=Lib.hid (HS.out w' _ (grown_trans (grown_alloc (grown_refl _) _) h2) (row_lower h1 (by simp)));clear h1 h2)
 first|go_end0|refine bodyPost_ret (results_none rfl _ _ _) rfl ?_
 exact HQ.out
theorem rawRow_conv (W:World) (s:ByteArray):RawRow (Lib.bytesWorld W 5 s) (.slice (some ⟨W.heap.size,0,none⟩) s.size (grownCap W s.size 0 5)) (strB s):=by
 have hs:(strB s).length=s.size:=by rw[strB,List.length_map];rfl
 refine⟨_,_,by rw[hs],Or.inr ⟨_,rfl,fun j u hu=>?_⟩⟩
 have hj:j<s.size:=by
  rcases Nat.lt_or_ge j s.size with h|h
  ·exact h
  ·rw[List.getElem?_eq_none (by rw[bytesV,List.length_map,hs];exact h)] at hu;cases hu
 have hc:=Lib.bytesWorld_cell W 5 s j hj
 have e1:(⟨W.heap.size,0,none⟩:Addr).add j=⟨W.heap.size,j,none⟩:=by rw[Addr.add_lit];simp only[Nat.zero_add]
 rw[e1,hc]
 have hj2:j<s.data.size:=hj
 simp only[bytesV,strB,List.getElem?_map,Array.getElem?_toList,Array.getElem?_eq_getElem hj2,Option.map_some,Option.some.injEq] at hu
 rw[←hu]
 simp[List.getD,Array.getElem?_eq_getElem hj2]
theorem grown_bytes (W:World) (e:TypeId) (s:ByteArray):W.grownBy (Lib.bytesWorld W e s) none:=
 ⟨rfl,rfl,rfl,by rw[Lib.bytesWorld_size];omega,fun k hk _=>Lib.bytesWorld_at_old W e s k hk⟩
end Go.Proofs.YtjfelfjobeeenaaGreat
