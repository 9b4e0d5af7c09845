/- The document's Do at some kinds: the walks. Conditions: a table that lies in memory, its numbers within bounds. The document's Do at some kinds: the walks. Conditions: a table that lies in memory, its numbers within bounds. The document's Do at some kinds: the walks. Conditions: a table that lies in memory, its numbers within bounds. The document's Do at some kinds: the walks. Conditions: a table that lies in memory, its numbers within bounds. -/
import Derived.Test.YtjfelfjobeeenaaGreatP18
import Derived.Deep.DeepCutAuto
namespace Go.Proofs.YtjfelfjobeeenaaGreat
set_option linter.unusedVariables false
set_option linter.unusedSimpArgs false
open Go.RowKit Go.Sf Go.Shelf
section
variable {bs : Nat → Prop} {W : World} {rb : Nat} {R : RTab}
set_option maxHeartbeats 8000000 in
set_option maxRecDepth 100000 in
theorem rdo_4B (h:RAt bs W rb R) (hbs:∀k,W.heap.size≤k→bs k) (ok:ROk R) (node client inc req ver code:Int) (key:ByteArray) (hn0:0≤node) (hn1:node<(R.lives.length:Int)) (hA:1≤inc) (hB:¬R.lives.getD node.toNat 0=inc):Calls Tryz.prog 60 #[.pointer (some ⟨rb,0,none⟩),encCmd ⟨4,node,client,inc,req,ver,key,code⟩] W fun e w'=>e = .returned (.tuple #[])∧RAt bs w' rb (rdo R ⟨4,node,client,inc,req,ver,key,code⟩)∧Turn bs W w':=by
 obtain⟨a,rfl⟩:=Int.eq_ofNat_of_zero_le hn0
 have hal:a<R.lives.length:=by omega
 have hat:((a:Nat):Int).toNat=a:=rfl
 rw[hat] at hB
 clear hat
 have HE:Hid (rdo R (⟨4,(a:Int),client,inc,req,ver,key,code⟩:Cmd)=R):=(show rdo R (⟨4,(a:Int),client,inc,req,ver,key,code⟩:Cmd)=R from by
  have h:(rnowB R (⟨4,(a:Int),client,inc,req,ver,key,code⟩:Cmd) && rwanted R ⟨key,ver⟩)=false:=by have e:rlife R (a:Int)=R.lives.getD a 0:=rfl;simp only[rnowB,e,decide_eq_false hB,Bool.and_false,Bool.false_and]
  unfold rdo rack
  simp only[show ¬((4:Int)=1) by decide,show ¬((4:Int)=2) by decide,show ¬((4:Int)=3) by decide,if_false,if_true,h,Bool.false_eq_true])
 have hg2:W.grownBy ((W.alloc (.cells #[.int .u8 4,.int .i64 (a:Int),.int .i64 client,.int .i64 inc,.int .i64 req,.int .i64 ver,.string key,.int .i64 code] 29)).alloc (.cells #[.string key,.int .i64 ver] 59)) none:=grown_alloc (grown_alloc (grown_refl _) _) _
 have HG2:=Lib.hid hg2
 have HB0:Hid (((W.alloc (.cells #[.int .u8 4,.int .i64 (a:Int),.int .i64 client,.int .i64 inc,.int .i64 req,.int .i64 ver,.string key,.int .i64 code] 29)).alloc (.cells #[.string key,.int .i64 ver] 59)).heap[W.heap.size]? = some (.cells #[.int .u8 4,.int .i64 (a:Int),.int .i64 client,.int .i64 inc,.int .i64 req,.int .i64 ver,.string key,.int .i64 code] 29)):=(show((W.alloc (.cells #[.int .u8 4,.int .i64 (a:Int),.int .i64 client,.int .i64 inc,.int .i64 req,.int .i64 ver,.string key,.int .i64 code] 29)).alloc (.cells #[.string key,.int .i64 ver] 59)).heap[W.heap.size]? = some (.cells #[.int .u8 4,.int .i64 (a:Int),.int .i64 client,.int .i64 inc,.int .i64 req,.int .i64 ver,.string key,.int .i64 code] 29) from (alloc_oldG _ _ (by simp)).trans (heap_alloc_new _ _))
 have HB1:Hid (((W.alloc (.cells #[.int .u8 4,.int .i64 (a:Int),.int .i64 client,.int .i64 inc,.int .i64 req,.int .i64 ver,.string key,.int .i64 code] 29)).alloc (.cells #[.string key,.int .i64 ver] 59)).heap[W.heap.size+1]? = some (.cells #[.string key,.int .i64 ver] 59)):=(show((W.alloc (.cells #[.int .u8 4,.int .i64 (a:Int),.int .i64 client,.int .i64 inc,.int .i64 req,.int .i64 ver,.string key,.int .i64 code] 29)).alloc (.cells #[.string key,.int .i64 ver] 59)).heap[W.heap.size+1]? = some (.cells #[.string key,.int .i64 ver] 59) from by have:=heap_alloc_new (W.alloc (.cells #[.int .u8 4,.int .i64 (a:Int),.int .i64 client,.int .i64 inc,.int .i64 req,.int .i64 ver,.string key,.int .i64 code] 29)) (.cells #[.string key,.int .i64 ver] 59);simpa using this)
 have HA0:Hid (RAt (fence bs W ((W.alloc (.cells #[.int .u8 4,.int .i64 (a:Int),.int .i64 client,.int .i64 inc,.int .i64 req,.int .i64 ver,.string key,.int .i64 code] 29)).alloc (.cells #[.string key,.int .i64 ver] 59))) ((W.alloc (.cells #[.int .u8 4,.int .i64 (a:Int),.int .i64 client,.int .i64 inc,.int .i64 req,.int .i64 ver,.string key,.int .i64 code] 29)).alloc (.cells #[.string key,.int .i64 ver] 59)) rb R):=(show RAt (fence bs W ((W.alloc (.cells #[.int .u8 4,.int .i64 (a:Int),.int .i64 client,.int .i64 inc,.int .i64 req,.int .i64 ver,.string key,.int .i64 code] 29)).alloc (.cells #[.string key,.int .i64 ver] 59))) ((W.alloc (.cells #[.int .u8 4,.int .i64 (a:Int),.int .i64 client,.int .i64 inc,.int .i64 req,.int .i64 ver,.string key,.int .i64 code] 29)).alloc (.cells #[.string key,.int .i64 ver] 59)) rb R from h.fence hg2)
 have HBS:Hid (∀w:World,((W.alloc (.cells #[.int .u8 4,.int .i64 (a:Int),.int .i64 client,.int .i64 inc,.int .i64 req,.int .i64 ver,.string key,.int .i64 code] 29)).alloc (.cells #[.string key,.int .i64 ver] 59)).heap.size≤w.heap.size→∀k,w.heap.size≤k→fence bs W ((W.alloc (.cells #[.int .u8 4,.int .i64 (a:Int),.int .i64 client,.int .i64 inc,.int .i64 req,.int .i64 ver,.string key,.int .i64 code] 29)).alloc (.cells #[.string key,.int .i64 ver] 59)) k):=(show ∀w:World,((W.alloc (.cells #[.int .u8 4,.int .i64 (a:Int),.int .i64 client,.int .i64 inc,.int .i64 req,.int .i64 ver,.string key,.int .i64 code] 29)).alloc (.cells #[.string key,.int .i64 ver] 59)).heap.size≤w.heap.size→∀k,w.heap.size≤k→fence bs W ((W.alloc (.cells #[.int .u8 4,.int .i64 (a:Int),.int .i64 client,.int .i64 inc,.int .i64 req,.int .i64 ver,.string key,.int .i64 code] 29)).alloc (.cells #[.string key,.int .i64 ver] 59)) k from fun w hw=>fence_new hbs hg2.size w hw)
 have hrb0:rb<W.heap.size:=h.lt
 have OK:=Lib.hid ok
 clear h hbs ok hg2
 simp only[encCmd]
 go_enter Tryz.func60,Tryz.ntmps60
 go_upto_region 14 with fail
 generalize (W.alloc (.cells #[.int .u8 4,.int .i64 (a:Int),.int .i64 client,.int .i64 inc,.int .i64 req,.int .i64 ver,.string key,.int .i64 code] 29)).alloc (.cells #[.string key,.int .i64 ver] 59)=W2 at *
 have HT0:Hid (Turn (fence bs W W2) W2 W2):=(show Turn (fence bs W W2) W2 W2 from turn_grown (grown_refl _))
 obtain⟨⟨d0,d1,d2,d3,d4,d5,d6,d7⟩,j0,j1,hw0,hw1⟩:=boxes HB0.out HB1.out HT0.out
 obtain⟨gL,capL,c4,f0,y0,hcl,hcm⟩:=HA0.out.live hal
 obtain⟨LV,hLV⟩:∃x,R.lives.getD a 0=x:=⟨_,rfl⟩
 rw[hLV] at f0
 have hgL:gL<W2.heap.size:=cell_lt f0
 have hrbw:rb<W2.heap.size:=HA0.out.lt
 have q1:decide (inc<1)=false:=by simp;omega
 have q2:(LV != inc)=true:=by rw[←hLV];simpa using hB
 have HH:=Lib.hid (And.intro hA hB)
 clear hA hB hLV
 go_quiet (fail)
 go_wp2
 refine bodyPost_ret (results_none rfl _ _ _) rfl ⟨rfl,?_⟩
 rw[HE.out]
 exact fence_end HG2.out (HA0.out.grown (grown_drewN _ _)) (turn_grown (grown_drewN _ _))
end
section
variable {bs : Nat → Prop} {W : World} {rb : Nat} {R : RTab}
set_option maxHeartbeats 8000000 in
set_option maxRecDepth 100000 in
theorem rdo_4C (h:RAt bs W rb R) (hbs:∀k,W.heap.size≤k→bs k) (ok:ROk R) (node client inc req ver code:Int) (key:ByteArray) (hn0:0≤node) (hn1:node<(R.lives.length:Int)) (hA:1≤inc) (hB:R.lives.getD node.toNat 0=inc) (hC:rwanted R (⟨key,ver⟩:ID)=false):Calls Tryz.prog 60 #[.pointer (some ⟨rb,0,none⟩),encCmd ⟨4,node,client,inc,req,ver,key,code⟩] W fun e w'=>e = .returned (.tuple #[])∧RAt bs w' rb (rdo R ⟨4,node,client,inc,req,ver,key,code⟩)∧Turn bs W w':=by
 obtain⟨a,rfl⟩:=Int.eq_ofNat_of_zero_le hn0
 have hal:a<R.lives.length:=by omega
 have hat:((a:Nat):Int).toNat=a:=rfl
 rw[hat] at hB
 clear hat
 have HE:Hid (rdo R (⟨4,(a:Int),client,inc,req,ver,key,code⟩:Cmd)=R):=(show rdo R (⟨4,(a:Int),client,inc,req,ver,key,code⟩:Cmd)=R from by
  have h:(rnowB R (⟨4,(a:Int),client,inc,req,ver,key,code⟩:Cmd) && rwanted R ⟨key,ver⟩)=false:=by rw[hC];simp
  unfold rdo rack
  simp only[show ¬((4:Int)=1) by decide,show ¬((4:Int)=2) by decide,show ¬((4:Int)=3) by decide,if_false,if_true,h,Bool.false_eq_true])
 have hg2:W.grownBy ((W.alloc (.cells #[.int .u8 4,.int .i64 (a:Int),.int .i64 client,.int .i64 inc,.int .i64 req,.int .i64 ver,.string key,.int .i64 code] 29)).alloc (.cells #[.string key,.int .i64 ver] 59)) none:=grown_alloc (grown_alloc (grown_refl _) _) _
 have HG2:=Lib.hid hg2
 have HB0:Hid (((W.alloc (.cells #[.int .u8 4,.int .i64 (a:Int),.int .i64 client,.int .i64 inc,.int .i64 req,.int .i64 ver,.string key,.int .i64 code] 29)).alloc (.cells #[.string key,.int .i64 ver] 59)).heap[W.heap.size]? = some (.cells #[.int .u8 4,.int .i64 (a:Int),.int .i64 client,.int .i64 inc,.int .i64 req,.int .i64 ver,.string key,.int .i64 code] 29)):=(show((W.alloc (.cells #[.int .u8 4,.int .i64 (a:Int),.int .i64 client,.int .i64 inc,.int .i64 req,.int .i64 ver,.string key,.int .i64 code] 29)).alloc (.cells #[.string key,.int .i64 ver] 59)).heap[W.heap.size]? = some (.cells #[.int .u8 4,.int .i64 (a:Int),.int .i64 client,.int .i64 inc,.int .i64 req,.int .i64 ver,.string key,.int .i64 code] 29) from (alloc_oldG _ _ (by simp)).trans (heap_alloc_new _ _))
 have HB1:Hid (((W.alloc (.cells #[.int .u8 4,.int .i64 (a:Int),.int .i64 client,.int .i64 inc,.int .i64 req,.int .i64 ver,.string key,.int .i64 code] 29)).alloc (.cells #[.string key,.int .i64 ver] 59)).heap[W.heap.size+1]? = some (.cells #[.string key,.int .i64 ver] 59)):=(show((W.alloc (.cells #[.int .u8 4,.int .i64 (a:Int),.int .i64 client,.int .i64 inc,.int .i64 req,.int .i64 ver,.string key,.int .i64 code] 29)).alloc (.cells #[.string key,.int .i64 ver] 59)).heap[W.heap.size+1]? = some (.cells #[.string key,.int .i64 ver] 59) from by have:=heap_alloc_new (W.alloc (.cells #[.int .u8 4,.int .i64 (a:Int),.int .i64 client,.int .i64 inc,.int .i64 req,.int .i64 ver,.string key,.int .i64 code] 29)) (.cells #[.string key,.int .i64 ver] 59);simpa using this)
 have HA0:Hid (RAt (fence bs W ((W.alloc (.cells #[.int .u8 4,.int .i64 (a:Int),.int .i64 client,.int .i64 inc,.int .i64 req,.int .i64 ver,.string key,.int .i64 code] 29)).alloc (.cells #[.string key,.int .i64 ver] 59))) ((W.alloc (.cells #[.int .u8 4,.int .i64 (a:Int),.int .i64 client,.int .i64 inc,.int .i64 req,.int .i64 ver,.string key,.int .i64 code] 29)).alloc (.cells #[.string key,.int .i64 ver] 59)) rb R):=(show RAt (fence bs W ((W.alloc (.cells #[.int .u8 4,.int .i64 (a:Int),.int .i64 client,.int .i64 inc,.int .i64 req,.int .i64 ver,.string key,.int .i64 code] 29)).alloc (.cells #[.string key,.int .i64 ver] 59))) ((W.alloc (.cells #[.int .u8 4,.int .i64 (a:Int),.int .i64 client,.int .i64 inc,.int .i64 req,.int .i64 ver,.string key,.int .i64 code] 29)).alloc (.cells #[.string key,.int .i64 ver] 59)) rb R from h.fence hg2)
 have HBS:Hid (∀w:World,((W.alloc (.cells #[.int .u8 4,.int .i64 (a:Int),.int .i64 client,.int .i64 inc,.int .i64 req,.int .i64 ver,.string key,.int .i64 code] 29)).alloc (.cells #[.string key,.int .i64 ver] 59)).heap.size≤w.heap.size→∀k,w.heap.size≤k→fence bs W ((W.alloc (.cells #[.int .u8 4,.int .i64 (a:Int),.int .i64 client,.int .i64 inc,.int .i64 req,.int .i64 ver,.string key,.int .i64 code] 29)).alloc (.cells #[.string key,.int .i64 ver] 59)) k):=(show ∀w:World,((W.alloc (.cells #[.int .u8 4,.int .i64 (a:Int),.int .i64 client,.int .i64 inc,.int .i64 req,.int .i64 ver,.string key,.int .i64 code] 29)).alloc (.cells #[.string key,.int .i64 ver] 59)).heap.size≤w.heap.size→∀k,w.heap.size≤k→fence bs W ((W.alloc (.cells #[.int .u8 4,.int .i64 (a:Int),.int .i64 client,.int .i64 inc,.int .i64 req,.int .i64 ver,.string key,.int .i64 code] 29)).alloc (.cells #[.string key,.int .i64 ver] 59)) k from fun w hw=>fence_new hbs hg2.size w hw)
 have hrb0:rb<W.heap.size:=h.lt
 have OK:=Lib.hid ok
 clear h hbs ok hg2
 simp only[encCmd]
 go_enter Tryz.func60,Tryz.ntmps60
 go_upto_region 14 with fail
 generalize (W.alloc (.cells #[.int .u8 4,.int .i64 (a:Int),.int .i64 client,.int .i64 inc,.int .i64 req,.int .i64 ver,.string key,.int .i64 code] 29)).alloc (.cells #[.string key,.int .i64 ver] 59)=W2 at *
 have HT0:Hid (Turn (fence bs W W2) W2 W2):=(show Turn (fence bs W W2) W2 W2 from turn_grown (grown_refl _))
 obtain⟨⟨d0,d1,d2,d3,d4,d5,d6,d7⟩,j0,j1,hw0,hw1⟩:=boxes HB0.out HB1.out HT0.out
 obtain⟨gL,capL,c4,f0,y0,hcl,hcm⟩:=HA0.out.live hal
 obtain⟨LV,hLV⟩:∃x,R.lives.getD a 0=x:=⟨_,rfl⟩
 rw[hLV] at f0
 have hgL:gL<W2.heap.size:=cell_lt f0
 have hrbw:rb<W2.heap.size:=HA0.out.lt
 have q1:decide (inc<1)=false:=by simp;omega
 have q2:(LV != inc)=false:=by rw[←hLV];simpa using hB
 have HH:=Lib.hid (And.intro hA hB)
 clear hA hB hLV
 have HWT:Hid (∀W',W2.grownBy W' none→Calls Tryz.prog 115 #[.pointer (some ⟨rb,0,none⟩),.agg #[.string key,.int .i64 ver]] W' fun e w'=>e = .returned (.bool false)∧W'.grownBy w' none):=(show ∀_,_ from fun W' hg=>by have h:=rwanted_at (HA0.out.grown hg) ⟨key,ver⟩;rw[hC] at h;exact h)
 have HC:=Lib.hid hC
 clear hC
 refine wp_region_quiet_ext (by kernel_rfl) (by kernel_rfl) ?_
 repeat (any_goals (first|go_big_quiet_step (((go_at_call 115;exact calls_ext (HWT.out _ (by repeat (first|exact grown_refl _|exact grown_drewN _ _|refine grown_ext' ?_ _|refine grown_alloc ?_ _|refine grown_drew ?_))))))|quiet_step (((go_at_call 115;exact calls_ext (HWT.out _ (by repeat (first|exact grown_refl _|exact grown_drewN _ _|refine grown_ext' ?_ _|refine grown_alloc ?_ _|refine grown_drew ?_))))))))
 refine wpQuiet_nil ?_
 intro _ hw'
 obtain⟨xx,hw''⟩:=hw'
 subst hw''
 go_wp2
 refine bodyPost_ret (results_none rfl _ _ _) rfl ⟨rfl,?_⟩
 rw[HE.out]
 exact fence_end HG2.out (HA0.out.grown (grown_ext _ _)) (turn_grown (grown_ext _ _))
end
section
variable {bs : Nat → Prop} {W : World} {rb : Nat} {R : RTab}
set_option maxHeartbeats 8000000 in
set_option maxRecDepth 100000 in
theorem rdo_4D (h:RAt bs W rb R) (hbs:∀k,W.heap.size≤k→bs k) (ok:ROk R) (node client inc req ver code:Int) (key:ByteArray) (hn0:0≤node) (hn1:node<(R.lives.length:Int)) (hA:1≤inc) (hB:R.lives.getD node.toNat 0=inc) (hC:rwanted R (⟨key,ver⟩:ID)=true) (hD:¬0≤pendI (rsays R ⟨(⟨key,ver⟩:ID),node,inc,false⟩) (⟨key,ver⟩:ID)):Calls Tryz.prog 60 #[.pointer (some ⟨rb,0,none⟩),encCmd ⟨4,node,client,inc,req,ver,key,code⟩] W fun e w'=>e = .returned (.tuple #[])∧RAt bs w' rb (rdo R ⟨4,node,client,inc,req,ver,key,code⟩)∧Turn bs W w':=by
 obtain⟨a,rfl⟩:=Int.eq_ofNat_of_zero_le hn0
 have hal:a<R.lives.length:=by omega
 have hat:((a:Nat):Int).toNat=a:=rfl
 rw[hat] at hB
 clear hat
 have hnow:(rnowB R (⟨4,(a:Int),client,inc,req,ver,key,code⟩:Cmd) && rwanted R ⟨key,ver⟩)=true:=by have e:rlife R (a:Int)=R.lives.getD a 0:=rfl;simp only[rnowB,e,decide_eq_true hA,decide_eq_true hB,hC,Bool.and_self]
 have HE:Hid (rdo R (⟨4,(a:Int),client,inc,req,ver,key,code⟩:Cmd)=(rsays R ⟨⟨key,ver⟩,(a:Int),inc,false⟩)):=(show rdo R (⟨4,(a:Int),client,inc,req,ver,key,code⟩:Cmd)=(rsays R ⟨⟨key,ver⟩,(a:Int),inc,false⟩) from by
  have h2:=pendI_none _ _ hD
  unfold rdo rack
  simp only[show ¬((4:Int)=1) by decide,show ¬((4:Int)=2) by decide,show ¬((4:Int)=3) by decide,if_false,if_true,hnow,h2])
 clear hnow
 have hg2:W.grownBy ((W.alloc (.cells #[.int .u8 4,.int .i64 (a:Int),.int .i64 client,.int .i64 inc,.int .i64 req,.int .i64 ver,.string key,.int .i64 code] 29)).alloc (.cells #[.string key,.int .i64 ver] 59)) none:=grown_alloc (grown_alloc (grown_refl _) _) _
 have HG2:=Lib.hid hg2
 have HB0:Hid (((W.alloc (.cells #[.int .u8 4,.int .i64 (a:Int),.int .i64 client,.int .i64 inc,.int .i64 req,.int .i64 ver,.string key,.int .i64 code] 29)).alloc (.cells #[.string key,.int .i64 ver] 59)).heap[W.heap.size]? = some (.cells #[.int .u8 4,.int .i64 (a:Int),.int .i64 client,.int .i64 inc,.int .i64 req,.int .i64 ver,.string key,.int .i64 code] 29)):=(show((W.alloc (.cells #[.int .u8 4,.int .i64 (a:Int),.int .i64 client,.int .i64 inc,.int .i64 req,.int .i64 ver,.string key,.int .i64 code] 29)).alloc (.cells #[.string key,.int .i64 ver] 59)).heap[W.heap.size]? = some (.cells #[.int .u8 4,.int .i64 (a:Int),.int .i64 client,.int .i64 inc,.int .i64 req,.int .i64 ver,.string key,.int .i64 code] 29) from (alloc_oldG _ _ (by simp)).trans (heap_alloc_new _ _))
 have HB1:Hid (((W.alloc (.cells #[.int .u8 4,.int .i64 (a:Int),.int .i64 client,.int .i64 inc,.int .i64 req,.int .i64 ver,.string key,.int .i64 code] 29)).alloc (.cells #[.string key,.int .i64 ver] 59)).heap[W.heap.size+1]? = some (.cells #[.string key,.int .i64 ver] 59)):=(show((W.alloc (.cells #[.int .u8 4,.int .i64 (a:Int),.int .i64 client,.int .i64 inc,.int .i64 req,.int .i64 ver,.string key,.int .i64 code] 29)).alloc (.cells #[.string key,.int .i64 ver] 59)).heap[W.heap.size+1]? = some (.cells #[.string key,.int .i64 ver] 59) from by have:=heap_alloc_new (W.alloc (.cells #[.int .u8 4,.int .i64 (a:Int),.int .i64 client,.int .i64 inc,.int .i64 req,.int .i64 ver,.string key,.int .i64 code] 29)) (.cells #[.string key,.int .i64 ver] 59);simpa using this)
 have HA0:Hid (RAt (fence bs W ((W.alloc (.cells #[.int .u8 4,.int .i64 (a:Int),.int .i64 client,.int .i64 inc,.int .i64 req,.int .i64 ver,.string key,.int .i64 code] 29)).alloc (.cells #[.string key,.int .i64 ver] 59))) ((W.alloc (.cells #[.int .u8 4,.int .i64 (a:Int),.int .i64 client,.int .i64 inc,.int .i64 req,.int .i64 ver,.string key,.int .i64 code] 29)).alloc (.cells #[.string key,.int .i64 ver] 59)) rb R):=(show RAt (fence bs W ((W.alloc (.cells #[.int .u8 4,.int .i64 (a:Int),.int .i64 client,.int .i64 inc,.int .i64 req,.int .i64 ver,.string key,.int .i64 code] 29)).alloc (.cells #[.string key,.int .i64 ver] 59))) ((W.alloc (.cells #[.int .u8 4,.int .i64 (a:Int),.int .i64 client,.int .i64 inc,.int .i64 req,.int .i64 ver,.string key,.int .i64 code] 29)).alloc (.cells #[.string key,.int .i64 ver] 59)) rb R from h.fence hg2)
 have HBS:Hid (∀w:World,((W.alloc (.cells #[.int .u8 4,.int .i64 (a:Int),.int .i64 client,.int .i64 inc,.int .i64 req,.int .i64 ver,.string key,.int .i64 code] 29)).alloc (.cells #[.string key,.int .i64 ver] 59)).heap.size≤w.heap.size→∀k,w.heap.size≤k→fence bs W ((W.alloc (.cells #[.int .u8 4,.int .i64 (a:Int),.int .i64 client,.int .i64 inc,.int .i64 req,.int .i64 ver,.string key,.int .i64 code] 29)).alloc (.cells #[.string key,.int .i64 ver] 59)) k):=(show ∀w:World,((W.alloc (.cells #[.int .u8 4,.int .i64 (a:Int),.int .i64 client,.int .i64 inc,.int .i64 req,.int .i64 ver,.string key,.int .i64 code] 29)).alloc (.cells #[.string key,.int .i64 ver] 59)).heap.size≤w.heap.size→∀k,w.heap.size≤k→fence bs W ((W.alloc (.cells #[.int .u8 4,.int .i64 (a:Int),.int .i64 client,.int .i64 inc,.int .i64 req,.int .i64 ver,.string key,.int .i64 code] 29)).alloc (.cells #[.string key,.int .i64 ver] 59)) k from fun w hw=>fence_new hbs hg2.size w hw)
 have hrb0:rb<W.heap.size:=h.lt
 have OK:=Lib.hid ok
 clear h hbs ok hg2
 simp only[encCmd]
 go_enter Tryz.func60,Tryz.ntmps60
 go_upto_region 14 with fail
 generalize (W.alloc (.cells #[.int .u8 4,.int .i64 (a:Int),.int .i64 client,.int .i64 inc,.int .i64 req,.int .i64 ver,.string key,.int .i64 code] 29)).alloc (.cells #[.string key,.int .i64 ver] 59)=W2 at *
 have HT0:Hid (Turn (fence bs W W2) W2 W2):=(show Turn (fence bs W W2) W2 W2 from turn_grown (grown_refl _))
 obtain⟨⟨d0,d1,d2,d3,d4,d5,d6,d7⟩,j0,j1,hw0,hw1⟩:=boxes HB0.out HB1.out HT0.out
 obtain⟨gL,capL,c4,f0,y0,hcl,hcm⟩:=HA0.out.live hal
 obtain⟨LV,hLV⟩:∃x,R.lives.getD a 0=x:=⟨_,rfl⟩
 rw[hLV] at f0
 have hgL:gL<W2.heap.size:=cell_lt f0
 have hrbw:rb<W2.heap.size:=HA0.out.lt
 have q1:decide (inc<1)=false:=by simp;omega
 have q2:(LV != inc)=false:=by rw[←hLV];simpa using hB
 have HH:=Lib.hid (And.intro hA hB)
 clear hA hB hLV
 have HWT:Hid (∀W',W2.grownBy W' none→Calls Tryz.prog 115 #[.pointer (some ⟨rb,0,none⟩),.agg #[.string key,.int .i64 ver]] W' fun e w'=>e = .returned (.bool true)∧W'.grownBy w' none):=(show ∀_,_ from fun W' hg=>by have h:=rwanted_at (HA0.out.grown hg) ⟨key,ver⟩;rw[hC] at h;exact h)
 have HC:=Lib.hid hC
 clear hC
 refine wp_region_quiet_ext (by kernel_rfl) (by kernel_rfl) ?_
 repeat (any_goals (first|go_big_quiet_step (((go_at_call 115;exact calls_ext (HWT.out _ (by repeat (first|exact grown_refl _|exact grown_drewN _ _|refine grown_ext' ?_ _|refine grown_alloc ?_ _|refine grown_drew ?_))))))|quiet_step (((go_at_call 115;exact calls_ext (HWT.out _ (by repeat (first|exact grown_refl _|exact grown_drewN _ _|refine grown_ext' ?_ _|refine grown_alloc ?_ _|refine grown_drew ?_))))))))
 refine wpQuiet_nil ?_
 intro _ hw'
 obtain⟨xx,hw''⟩:=hw'
 subst hw''
 have HAX:=Lib.hid (HA0.out.grown (grown_ext W2 xx))
 have HTX:Hid (Turn (fence bs W W2) W2 (ext W2 xx)):=(show Turn (fence bs W W2) W2 (ext W2 xx) from turn_grown (grown_ext _ _))
 clear d0 d1 d2 d3 d4 d5 d6 d7 j0 j1 hw0 hw1
 clear c4 f0 y0 hcl hcm hgL
 generalize ext W2 xx=w1 at *
 obtain⟨⟨d0,d1,d2,d3,d4,d5,d6,d7⟩,j0,j1,hw0,hw1⟩:=boxes HB0.out HB1.out HTX.out
 go_upto_region 16 with (go_at_call 116;refine(rsays_any HAX.out (HBS.out _ HTX.out.size) ⟨⟨key,ver⟩,(a:Int),inc,false⟩ (by have:=OK.out.lh;omega)).mono ?_;rintro e w2 ⟨rfl,hr,ht⟩;clear d0 d1 d2 d3 d4 d5 d6 d7 j0 j1 hw0 hw1;have HA1:=Lib.hid hr;have HT1:=Lib.hid (turn_trans HTX.out ht);clear hr ht;obtain⟨⟨d0,d1,d2,d3,d4,d5,d6,d7⟩,j0,j1,hw0,hw1⟩:=boxes HB0.out HB1.out HT1.out)
 have HPE:Hid (Calls Tryz.prog 117 #[.pointer (some ⟨rb,0,none⟩),.agg #[.string key,.int .i64 ver]] w2 fun e w'=>e = .returned (.int .i64 (pendI (rsays R ⟨⟨key,ver⟩,(a:Int),inc,false⟩) ⟨key,ver⟩))∧w2.grownBy w' none):=(show Calls _ _ _ _ _ from rpend_at HA1.out ⟨key,ver⟩)
 generalize hP:pendI (rsays R ⟨⟨key,ver⟩,(a:Int),inc,false⟩) ⟨key,ver⟩=P at *
 have HP:=Lib.hid hP
 clear hP
 go_upto_region 17 with (go_at_call 117;refine HPE.out.mono ?_;rintro e w3 ⟨rfl,hg⟩;clear d0 d1 d2 d3 d4 d5 d6 d7 j0 j1 hw0 hw1;have HA2:=Lib.hid (HA1.out.grown hg);have HT2:=Lib.hid (turn_after HT1.out hg);clear hg;obtain⟨⟨d0,d1,d2,d3,d4,d5,d6,d7⟩,j0,j1,hw0,hw1⟩:=boxes HB0.out HB1.out HT2.out)
 have q3:decide (P<0)=true:=by simp;omega
 have HDD:=Lib.hid hD
 clear hD
 go_quiet (fail)
 go_wp2
 refine bodyPost_ret (results_none rfl _ _ _) rfl ⟨rfl,?_⟩
 rw[HE.out]
 exact fence_end HG2.out (HA2.out.grown (grown_drewN _ _)) (turn_after HT2.out (grown_drewN _ _))
end
section
variable {bs : Nat → Prop} {W : World} {rb : Nat} {R : RTab}
set_option maxHeartbeats 8000000 in
set_option maxRecDepth 100000 in
theorem rdo_4E (h:RAt bs W rb R) (hbs:∀k,W.heap.size≤k→bs k) (ok:ROk R) (node client inc req ver code:Int) (key:ByteArray) (hn0:0≤node) (hn1:node<(R.lives.length:Int)) (hA:1≤inc) (hB:R.lives.getD node.toNat 0=inc) (hC:rwanted R (⟨key,ver⟩:ID)=true) (hD:0≤pendI (rsays R ⟨(⟨key,ver⟩:ID),node,inc,false⟩) (⟨key,ver⟩:ID)) (hE:(rcount (rsays R ⟨(⟨key,ver⟩:ID),node,inc,false⟩) (⟨key,ver⟩:ID) false:Int)<R.W):Calls Tryz.prog 60 #[.pointer (some ⟨rb,0,none⟩),encCmd ⟨4,node,client,inc,req,ver,key,code⟩] W fun e w'=>e = .returned (.tuple #[])∧RAt bs w' rb (rdo R ⟨4,node,client,inc,req,ver,key,code⟩)∧Turn bs W w':=by
 obtain⟨a,rfl⟩:=Int.eq_ofNat_of_zero_le hn0
 have hal:a<R.lives.length:=by omega
 have hat:((a:Nat):Int).toNat=a:=rfl
 rw[hat] at hB
 clear hat
 have hnow:(rnowB R (⟨4,(a:Int),client,inc,req,ver,key,code⟩:Cmd) && rwanted R ⟨key,ver⟩)=true:=by have e:rlife R (a:Int)=R.lives.getD a 0:=rfl;simp only[rnowB,e,decide_eq_true hA,decide_eq_true hB,hC,Bool.and_self]
 obtain⟨kk,hkk,hkl,hmg,hpi,her⟩:=pendI_some _ _ hD
 have HE:Hid (rdo R (⟨4,(a:Int),client,inc,req,ver,key,code⟩:Cmd)=(rsays R ⟨⟨key,ver⟩,(a:Int),inc,false⟩)):=(show rdo R (⟨4,(a:Int),client,inc,req,ver,key,code⟩:Cmd)=(rsays R ⟨⟨key,ver⟩,(a:Int),inc,false⟩) from by
  unfold rdo rack
  simp only[show ¬((4:Int)=1) by decide,show ¬((4:Int)=2) by decide,show ¬((4:Int)=3) by decide,if_false,if_true,hnow,hmg,if_pos hE])
 have HKL:=Lib.hid (And.intro hmg (And.intro hpi her))
 have HKK:=Lib.hid hkk
 clear hmg hpi her
 clear hnow
 have hg2:W.grownBy ((W.alloc (.cells #[.int .u8 4,.int .i64 (a:Int),.int .i64 client,.int .i64 inc,.int .i64 req,.int .i64 ver,.string key,.int .i64 code] 29)).alloc (.cells #[.string key,.int .i64 ver] 59)) none:=grown_alloc (grown_alloc (grown_refl _) _) _
 have HG2:=Lib.hid hg2
 have HB0:Hid (((W.alloc (.cells #[.int .u8 4,.int .i64 (a:Int),.int .i64 client,.int .i64 inc,.int .i64 req,.int .i64 ver,.string key,.int .i64 code] 29)).alloc (.cells #[.string key,.int .i64 ver] 59)).heap[W.heap.size]? = some (.cells #[.int .u8 4,.int .i64 (a:Int),.int .i64 client,.int .i64 inc,.int .i64 req,.int .i64 ver,.string key,.int .i64 code] 29)):=(show((W.alloc (.cells #[.int .u8 4,.int .i64 (a:Int),.int .i64 client,.int .i64 inc,.int .i64 req,.int .i64 ver,.string key,.int .i64 code] 29)).alloc (.cells #[.string key,.int .i64 ver] 59)).heap[W.heap.size]? = some (.cells #[.int .u8 4,.int .i64 (a:Int),.int .i64 client,.int .i64 inc,.int .i64 req,.int .i64 ver,.string key,.int .i64 code] 29) from (alloc_oldG _ _ (by simp)).trans (heap_alloc_new _ _))
 have HB1:Hid (((W.alloc (.cells #[.int .u8 4,.int .i64 (a:Int),.int .i64 client,.int .i64 inc,.int .i64 req,.int .i64 ver,.string key,.int .i64 code] 29)).alloc (.cells #[.string key,.int .i64 ver] 59)).heap[W.heap.size+1]? = some (.cells #[.string key,.int .i64 ver] 59)):=(show((W.alloc (.cells #[.int .u8 4,.int .i64 (a:Int),.int .i64 client,.int .i64 inc,.int .i64 req,.int .i64 ver,.string key,.int .i64 code] 29)).alloc (.cells #[.string key,.int .i64 ver] 59)).heap[W.heap.size+1]? = some (.cells #[.string key,.int .i64 ver] 59) from by have:=heap_alloc_new (W.alloc (.cells #[.int .u8 4,.int .i64 (a:Int),.int .i64 client,.int .i64 inc,.int .i64 req,.int .i64 ver,.string key,.int .i64 code] 29)) (.cells #[.string key,.int .i64 ver] 59);simpa using this)
 have HA0:Hid (RAt (fence bs W ((W.alloc (.cells #[.int .u8 4,.int .i64 (a:Int),.int .i64 client,.int .i64 inc,.int .i64 req,.int .i64 ver,.string key,.int .i64 code] 29)).alloc (.cells #[.string key,.int .i64 ver] 59))) ((W.alloc (.cells #[.int .u8 4,.int .i64 (a:Int),.int .i64 client,.int .i64 inc,.int .i64 req,.int .i64 ver,.string key,.int .i64 code] 29)).alloc (.cells #[.string key,.int .i64 ver] 59)) rb R):=(show RAt (fence bs W ((W.alloc (.cells #[.int .u8 4,.int .i64 (a:Int),.int .i64 client,.int .i64 inc,.int .i64 req,.int .i64 ver,.string key,.int .i64 code] 29)).alloc (.cells #[.string key,.int .i64 ver] 59))) ((W.alloc (.cells #[.int .u8 4,.int .i64 (a:Int),.int .i64 client,.int .i64 inc,.int .i64 req,.int .i64 ver,.string key,.int .i64 code] 29)).alloc (.cells #[.string key,.int .i64 ver] 59)) rb R from h.fence hg2)
 have HBS:Hid (∀w:World,((W.alloc (.cells #[.int .u8 4,.int .i64 (a:Int),.int .i64 client,.int .i64 inc,.int .i64 req,.int .i64 ver,.string key,.int .i64 code] 29)).alloc (.cells #[.string key,.int .i64 ver] 59)).heap.size≤w.heap.size→∀k,w.heap.size≤k→fence bs W ((W.alloc (.cells #[.int .u8 4,.int .i64 (a:Int),.int .i64 client,.int .i64 inc,.int .i64 req,.int .i64 ver,.string key,.int .i64 code] 29)).alloc (.cells #[.string key,.int .i64 ver] 59)) k):=(show ∀w:World,((W.alloc (.cells #[.int .u8 4,.int .i64 (a:Int),.int .i64 client,.int .i64 inc,.int .i64 req,.int .i64 ver,.string key,.int .i64 code] 29)).alloc (.cells #[.string key,.int .i64 ver] 59)).heap.size≤w.heap.size→∀k,w.heap.size≤k→fence bs W ((W.alloc (.cells #[.int .u8 4,.int .i64 (a:Int),.int .i64 client,.int .i64 inc,.int .i64 req,.int .i64 ver,.string key,.int .i64 code] 29)).alloc (.cells #[.string key,.int .i64 ver] 59)) k from fun w hw=>fence_new hbs hg2.size w hw)
 have hrb0:rb<W.heap.size:=h.lt
 have OK:=Lib.hid ok
 clear h hbs ok hg2
 simp only[encCmd]
 go_enter Tryz.func60,Tryz.ntmps60
 go_upto_region 14 with fail
 generalize (W.alloc (.cells #[.int .u8 4,.int .i64 (a:Int),.int .i64 client,.int .i64 inc,.int .i64 req,.int .i64 ver,.string key,.int .i64 code] 29)).alloc (.cells #[.string key,.int .i64 ver] 59)=W2 at *
 have HT0:Hid (Turn (fence bs W W2) W2 W2):=(show Turn (fence bs W W2) W2 W2 from turn_grown (grown_refl _))
 obtain⟨⟨d0,d1,d2,d3,d4,d5,d6,d7⟩,j0,j1,hw0,hw1⟩:=boxes HB0.out HB1.out HT0.out
 obtain⟨gL,capL,c4,f0,y0,hcl,hcm⟩:=HA0.out.live hal
 obtain⟨LV,hLV⟩:∃x,R.lives.getD a 0=x:=⟨_,rfl⟩
 rw[hLV] at f0
 have hgL:gL<W2.heap.size:=cell_lt f0
 have hrbw:rb<W2.heap.size:=HA0.out.lt
 have q1:decide (inc<1)=false:=by simp;omega
 have q2:(LV != inc)=false:=by rw[←hLV];simpa using hB
 have HH:=Lib.hid (And.intro hA hB)
 clear hA hB hLV
 have HWT:Hid (∀W',W2.grownBy W' none→Calls Tryz.prog 115 #[.pointer (some ⟨rb,0,none⟩),.agg #[.string key,.int .i64 ver]] W' fun e w'=>e = .returned (.bool true)∧W'.grownBy w' none):=(show ∀_,_ from fun W' hg=>by have h:=rwanted_at (HA0.out.grown hg) ⟨key,ver⟩;rw[hC] at h;exact h)
 have HC:=Lib.hid hC
 clear hC
 refine wp_region_quiet_ext (by kernel_rfl) (by kernel_rfl) ?_
 repeat (any_goals (first|go_big_quiet_step (((go_at_call 115;exact calls_ext (HWT.out _ (by repeat (first|exact grown_refl _|exact grown_drewN _ _|refine grown_ext' ?_ _|refine grown_alloc ?_ _|refine grown_drew ?_))))))|quiet_step (((go_at_call 115;exact calls_ext (HWT.out _ (by repeat (first|exact grown_refl _|exact grown_drewN _ _|refine grown_ext' ?_ _|refine grown_alloc ?_ _|refine grown_drew ?_))))))))
 refine wpQuiet_nil ?_
 intro _ hw'
 obtain⟨xx,hw''⟩:=hw'
 subst hw''
 have HAX:=Lib.hid (HA0.out.grown (grown_ext W2 xx))
 have HTX:Hid (Turn (fence bs W W2) W2 (ext W2 xx)):=(show Turn (fence bs W W2) W2 (ext W2 xx) from turn_grown (grown_ext _ _))
 clear d0 d1 d2 d3 d4 d5 d6 d7 j0 j1 hw0 hw1
 clear c4 f0 y0 hcl hcm hgL
 generalize ext W2 xx=w1 at *
 obtain⟨⟨d0,d1,d2,d3,d4,d5,d6,d7⟩,j0,j1,hw0,hw1⟩:=boxes HB0.out HB1.out HTX.out
 go_upto_region 16 with (go_at_call 116;refine(rsays_any HAX.out (HBS.out _ HTX.out.size) ⟨⟨key,ver⟩,(a:Int),inc,false⟩ (by have:=OK.out.lh;omega)).mono ?_;rintro e w2 ⟨rfl,hr,ht⟩;clear d0 d1 d2 d3 d4 d5 d6 d7 j0 j1 hw0 hw1;have HA1:=Lib.hid hr;have HT1:=Lib.hid (turn_trans HTX.out ht);clear hr ht;obtain⟨⟨d0,d1,d2,d3,d4,d5,d6,d7⟩,j0,j1,hw0,hw1⟩:=boxes HB0.out HB1.out HT1.out)
 have HPE:Hid (Calls Tryz.prog 117 #[.pointer (some ⟨rb,0,none⟩),.agg #[.string key,.int .i64 ver]] w2 fun e w'=>e = .returned (.int .i64 (pendI (rsays R ⟨⟨key,ver⟩,(a:Int),inc,false⟩) ⟨key,ver⟩))∧w2.grownBy w' none):=(show Calls _ _ _ _ _ from rpend_at HA1.out ⟨key,ver⟩)
 generalize hP:pendI (rsays R ⟨⟨key,ver⟩,(a:Int),inc,false⟩) ⟨key,ver⟩=P at *
 have HP:=Lib.hid hP
 clear hP
 go_upto_region 17 with (go_at_call 117;refine HPE.out.mono ?_;rintro e w3 ⟨rfl,hg⟩;clear d0 d1 d2 d3 d4 d5 d6 d7 j0 j1 hw0 hw1;have HA2:=Lib.hid (HA1.out.grown hg);have HT2:=Lib.hid (turn_after HT1.out hg);clear hg;obtain⟨⟨d0,d1,d2,d3,d4,d5,d6,d7⟩,j0,j1,hw0,hw1⟩:=boxes HB0.out HB1.out HT2.out)
 have q3:decide (P<0)=false:=by simp;omega
 have c1:w3.cell? ⟨rb,1,none⟩=some (.int .i64 R.W):=HA2.out.c1
 have hrb:=HA2.out.lt
 have HCO:Hid (∀W',w3.grownBy W' none→Calls Tryz.prog 118 #[.pointer (some ⟨rb,0,none⟩),.agg #[.string key,.int .i64 ver],.bool false] W' fun e w'=>e = .returned (.int .i64 (rcount (rsays R ⟨⟨key,ver⟩,(a:Int),inc,false⟩) ⟨key,ver⟩ false))∧W'.grownBy w' none):=(show ∀_,_ from fun W' hg=>rcount_at (HA2.out.grown hg) ⟨key,ver⟩ false)
 have q4:decide ((rcount (rsays R ⟨⟨key,ver⟩,(a:Int),inc,false⟩) ⟨key,ver⟩ false:Int)<R.W)=true:=by simpa using hE
 have HEE:=Lib.hid (And.intro hD hE)
 clear hD hE
 refine wp_region_quiet_ext (by kernel_rfl) (by kernel_rfl) ?_
 repeat (any_goals (first|go_big_quiet_step (((go_at_call 118;exact calls_ext (HCO.out _ (by repeat (first|exact grown_refl _|exact grown_drewN _ _|refine grown_ext' ?_ _|refine grown_alloc ?_ _|refine grown_drew ?_))))))|quiet_step (((go_at_call 118;exact calls_ext (HCO.out _ (by repeat (first|exact grown_refl _|exact grown_drewN _ _|refine grown_ext' ?_ _|refine grown_alloc ?_ _|refine grown_drew ?_))))))))
 refine wpQuiet_nil ?_
 intro _ hw'
 obtain⟨xx,hw''⟩:=hw'
 subst hw''
 go_wp2
 refine bodyPost_ret (results_none rfl _ _ _) rfl ⟨rfl,?_⟩
 rw[HE.out]
 exact fence_end HG2.out (HA2.out.grown (grown_ext _ _)) (turn_after HT2.out (grown_ext _ _))
end
end Go.Proofs.YtjfelfjobeeenaaGreat
