/- The document's Do at some kinds: the walks. Conditions: a table that lies in memory, its numbers within bounds. The document's Do at some kinds: the walks. Conditions: a table that lies in memory, its numbers within bounds. The document's Do at some kinds: the walks. Conditions: a table that lies in memory, its numbers within bounds. The document's Do at some kinds: the walks. Conditions: a table that lies in memory, its numbers within bounds. -/
import Derived.Test.YtjfelfjobeeenaaGreatP18
import Derived.Deep.DeepCutAuto
namespace Go.Proofs.YtjfelfjobeeenaaGreat
set_option linter.unusedVariables false
set_option linter.unusedSimpArgs false
open Go.RowKit Go.Sf Go.Shelf
section
variable {bs : Nat → Prop} {W : World} {rb : Nat} {R : RTab}
set_option maxHeartbeats 8000000 in
set_option maxRecDepth 100000 in
theorem rdo_5A (h:RAt bs W rb R) (hbs:∀k,W.heap.size≤k→bs k) (ok:ROk R) (node client inc req ver code:Int) (key:ByteArray) (hn0:0≤node) (hn1:node<(R.lives.length:Int)) (hA:inc<1):Calls Tryz.prog 60 #[.pointer (some ⟨rb,0,none⟩),encCmd ⟨5,node,client,inc,req,ver,key,code⟩] W fun e w'=>e = .returned (.tuple #[])∧RAt bs w' rb (rdo R ⟨5,node,client,inc,req,ver,key,code⟩)∧Turn bs W w':=by
 obtain⟨a,rfl⟩:=Int.eq_ofNat_of_zero_le hn0
 have hal:a<R.lives.length:=by omega
 have HE:Hid (rdo R (⟨5,(a:Int),client,inc,req,ver,key,code⟩:Cmd)=R):=(show rdo R (⟨5,(a:Int),client,inc,req,ver,key,code⟩:Cmd)=R from by
  have h:¬rnowB R (⟨5,(a:Int),client,inc,req,ver,key,code⟩:Cmd)=true:=by simp[rnowB,show ¬(1≤inc) from by omega]
  unfold rdo rrefuse
  simp only[show ¬((5:Int)=1) by decide,show ¬((5:Int)=2) by decide,show ¬((5:Int)=3) by decide,show ¬((5:Int)=4) by decide,if_false,if_true]
  cases mget R.pends (⟨key,ver⟩:ID) with
  | none=>rfl
  | some p=>simp only[if_neg h])
 have hg2:W.grownBy ((W.alloc (.cells #[.int .u8 5,.int .i64 (a:Int),.int .i64 client,.int .i64 inc,.int .i64 req,.int .i64 ver,.string key,.int .i64 code] 29)).alloc (.cells #[.string key,.int .i64 ver] 59)) none:=grown_alloc (grown_alloc (grown_refl _) _) _
 have HG2:=Lib.hid hg2
 have HB0:Hid (((W.alloc (.cells #[.int .u8 5,.int .i64 (a:Int),.int .i64 client,.int .i64 inc,.int .i64 req,.int .i64 ver,.string key,.int .i64 code] 29)).alloc (.cells #[.string key,.int .i64 ver] 59)).heap[W.heap.size]? = some (.cells #[.int .u8 5,.int .i64 (a:Int),.int .i64 client,.int .i64 inc,.int .i64 req,.int .i64 ver,.string key,.int .i64 code] 29)):=(show((W.alloc (.cells #[.int .u8 5,.int .i64 (a:Int),.int .i64 client,.int .i64 inc,.int .i64 req,.int .i64 ver,.string key,.int .i64 code] 29)).alloc (.cells #[.string key,.int .i64 ver] 59)).heap[W.heap.size]? = some (.cells #[.int .u8 5,.int .i64 (a:Int),.int .i64 client,.int .i64 inc,.int .i64 req,.int .i64 ver,.string key,.int .i64 code] 29) from (alloc_oldG _ _ (by simp)).trans (heap_alloc_new _ _))
 have HB1:Hid (((W.alloc (.cells #[.int .u8 5,.int .i64 (a:Int),.int .i64 client,.int .i64 inc,.int .i64 req,.int .i64 ver,.string key,.int .i64 code] 29)).alloc (.cells #[.string key,.int .i64 ver] 59)).heap[W.heap.size+1]? = some (.cells #[.string key,.int .i64 ver] 59)):=(show((W.alloc (.cells #[.int .u8 5,.int .i64 (a:Int),.int .i64 client,.int .i64 inc,.int .i64 req,.int .i64 ver,.string key,.int .i64 code] 29)).alloc (.cells #[.string key,.int .i64 ver] 59)).heap[W.heap.size+1]? = some (.cells #[.string key,.int .i64 ver] 59) from by have:=heap_alloc_new (W.alloc (.cells #[.int .u8 5,.int .i64 (a:Int),.int .i64 client,.int .i64 inc,.int .i64 req,.int .i64 ver,.string key,.int .i64 code] 29)) (.cells #[.string key,.int .i64 ver] 59);simpa using this)
 have HA0:Hid (RAt (fence bs W ((W.alloc (.cells #[.int .u8 5,.int .i64 (a:Int),.int .i64 client,.int .i64 inc,.int .i64 req,.int .i64 ver,.string key,.int .i64 code] 29)).alloc (.cells #[.string key,.int .i64 ver] 59))) ((W.alloc (.cells #[.int .u8 5,.int .i64 (a:Int),.int .i64 client,.int .i64 inc,.int .i64 req,.int .i64 ver,.string key,.int .i64 code] 29)).alloc (.cells #[.string key,.int .i64 ver] 59)) rb R):=(show RAt (fence bs W ((W.alloc (.cells #[.int .u8 5,.int .i64 (a:Int),.int .i64 client,.int .i64 inc,.int .i64 req,.int .i64 ver,.string key,.int .i64 code] 29)).alloc (.cells #[.string key,.int .i64 ver] 59))) ((W.alloc (.cells #[.int .u8 5,.int .i64 (a:Int),.int .i64 client,.int .i64 inc,.int .i64 req,.int .i64 ver,.string key,.int .i64 code] 29)).alloc (.cells #[.string key,.int .i64 ver] 59)) rb R from h.fence hg2)
 have HBS:Hid (∀w:World,((W.alloc (.cells #[.int .u8 5,.int .i64 (a:Int),.int .i64 client,.int .i64 inc,.int .i64 req,.int .i64 ver,.string key,.int .i64 code] 29)).alloc (.cells #[.string key,.int .i64 ver] 59)).heap.size≤w.heap.size→∀k,w.heap.size≤k→fence bs W ((W.alloc (.cells #[.int .u8 5,.int .i64 (a:Int),.int .i64 client,.int .i64 inc,.int .i64 req,.int .i64 ver,.string key,.int .i64 code] 29)).alloc (.cells #[.string key,.int .i64 ver] 59)) k):=(show ∀w:World,((W.alloc (.cells #[.int .u8 5,.int .i64 (a:Int),.int .i64 client,.int .i64 inc,.int .i64 req,.int .i64 ver,.string key,.int .i64 code] 29)).alloc (.cells #[.string key,.int .i64 ver] 59)).heap.size≤w.heap.size→∀k,w.heap.size≤k→fence bs W ((W.alloc (.cells #[.int .u8 5,.int .i64 (a:Int),.int .i64 client,.int .i64 inc,.int .i64 req,.int .i64 ver,.string key,.int .i64 code] 29)).alloc (.cells #[.string key,.int .i64 ver] 59)) k from fun w hw=>fence_new hbs hg2.size w hw)
 have hrb0:rb<W.heap.size:=h.lt
 have OK:=Lib.hid ok
 clear h hbs ok hg2
 simp only[encCmd]
 go_enter Tryz.func60,Tryz.ntmps60
 go_upto_region 23 with fail
 generalize (W.alloc (.cells #[.int .u8 5,.int .i64 (a:Int),.int .i64 client,.int .i64 inc,.int .i64 req,.int .i64 ver,.string key,.int .i64 code] 29)).alloc (.cells #[.string key,.int .i64 ver] 59)=W2 at *
 have HT0:Hid (Turn (fence bs W W2) W2 W2):=(show Turn (fence bs W W2) W2 W2 from turn_grown (grown_refl _))
 obtain⟨⟨d0,d1,d2,d3,d4,d5,d6,d7⟩,j0,j1,hw0,hw1⟩:=boxes HB0.out HB1.out HT0.out
 have HPE:Hid (Calls Tryz.prog 117 #[.pointer (some ⟨rb,0,none⟩),.agg #[.string key,.int .i64 ver]] W2 fun e w'=>e = .returned (.int .i64 (pendI R ⟨key,ver⟩))∧W2.grownBy w' none):=(show Calls _ _ _ _ _ from rpend_at HA0.out ⟨key,ver⟩)
 generalize hP:pendI R ⟨key,ver⟩=P at *
 have HP:=Lib.hid hP
 clear hP
 go_upto_region 24 with (go_at_call 117;refine HPE.out.mono ?_;rintro e w1 ⟨rfl,hg⟩;clear d0 d1 d2 d3 d4 d5 d6 d7 j0 j1 hw0 hw1;have HA1:=Lib.hid (HA0.out.grown hg);have HT1:Hid (Turn (fence bs W W2) W2 w1):=(show Turn (fence bs W W2) W2 w1 from turn_grown hg);clear hg;obtain⟨⟨d0,d1,d2,d3,d4,d5,d6,d7⟩,j0,j1,hw0,hw1⟩:=boxes HB0.out HB1.out HT1.out)
 obtain⟨gL,capL,c4,f0,y0,hcl,hcm⟩:=HA1.out.live hal
 obtain⟨LV,hLV⟩:∃x,R.lives.getD a 0=x:=⟨_,rfl⟩
 rw[hLV] at f0
 have hgL:gL<w1.heap.size:=cell_lt f0
 have q1:decide (inc<1)=true:=by simpa using hA
 have HH:=Lib.hid hA
 clear hA hLV
 go_quiet (fail)
 go_wp2
 refine bodyPost_ret (results_none rfl _ _ _) rfl ⟨rfl,?_⟩
 rw[HE.out]
 exact fence_end HG2.out (HA1.out.grown (grown_drewN _ _)) (turn_after HT1.out (grown_drewN _ _))
end
section
variable {bs : Nat → Prop} {W : World} {rb : Nat} {R : RTab}
set_option maxHeartbeats 8000000 in
set_option maxRecDepth 100000 in
theorem rdo_5B (h:RAt bs W rb R) (hbs:∀k,W.heap.size≤k→bs k) (ok:ROk R) (node client inc req ver code:Int) (key:ByteArray) (hn0:0≤node) (hn1:node<(R.lives.length:Int)) (hA:1≤inc) (hB:¬R.lives.getD node.toNat 0=inc):Calls Tryz.prog 60 #[.pointer (some ⟨rb,0,none⟩),encCmd ⟨5,node,client,inc,req,ver,key,code⟩] W fun e w'=>e = .returned (.tuple #[])∧RAt bs w' rb (rdo R ⟨5,node,client,inc,req,ver,key,code⟩)∧Turn bs W w':=by
 obtain⟨a,rfl⟩:=Int.eq_ofNat_of_zero_le hn0
 have hal:a<R.lives.length:=by omega
 have hat:((a:Nat):Int).toNat=a:=rfl
 rw[hat] at hB
 clear hat
 have HE:Hid (rdo R (⟨5,(a:Int),client,inc,req,ver,key,code⟩:Cmd)=R):=(show rdo R (⟨5,(a:Int),client,inc,req,ver,key,code⟩:Cmd)=R from by
  have h:¬rnowB R (⟨5,(a:Int),client,inc,req,ver,key,code⟩:Cmd)=true:=by have e:rlife R (a:Int)=R.lives.getD a 0:=rfl;simp only[rnowB,e,decide_eq_false hB,Bool.and_false,Bool.false_and,Bool.false_eq_true,not_false_eq_true]
  unfold rdo rrefuse
  simp only[show ¬((5:Int)=1) by decide,show ¬((5:Int)=2) by decide,show ¬((5:Int)=3) by decide,show ¬((5:Int)=4) by decide,if_false,if_true]
  cases mget R.pends (⟨key,ver⟩:ID) with
  | none=>rfl
  | some p=>simp only[if_neg h])
 have hg2:W.grownBy ((W.alloc (.cells #[.int .u8 5,.int .i64 (a:Int),.int .i64 client,.int .i64 inc,.int .i64 req,.int .i64 ver,.string key,.int .i64 code] 29)).alloc (.cells #[.string key,.int .i64 ver] 59)) none:=grown_alloc (grown_alloc (grown_refl _) _) _
 have HG2:=Lib.hid hg2
 have HB0:Hid (((W.alloc (.cells #[.int .u8 5,.int .i64 (a:Int),.int .i64 client,.int .i64 inc,.int .i64 req,.int .i64 ver,.string key,.int .i64 code] 29)).alloc (.cells #[.string key,.int .i64 ver] 59)).heap[W.heap.size]? = some (.cells #[.int .u8 5,.int .i64 (a:Int),.int .i64 client,.int .i64 inc,.int .i64 req,.int .i64 ver,.string key,.int .i64 code] 29)):=(show((W.alloc (.cells #[.int .u8 5,.int .i64 (a:Int),.int .i64 client,.int .i64 inc,.int .i64 req,.int .i64 ver,.string key,.int .i64 code] 29)).alloc (.cells #[.string key,.int .i64 ver] 59)).heap[W.heap.size]? = some (.cells #[.int .u8 5,.int .i64 (a:Int),.int .i64 client,.int .i64 inc,.int .i64 req,.int .i64 ver,.string key,.int .i64 code] 29) from (alloc_oldG _ _ (by simp)).trans (heap_alloc_new _ _))
 have HB1:Hid (((W.alloc (.cells #[.int .u8 5,.int .i64 (a:Int),.int .i64 client,.int .i64 inc,.int .i64 req,.int .i64 ver,.string key,.int .i64 code] 29)).alloc (.cells #[.string key,.int .i64 ver] 59)).heap[W.heap.size+1]? = some (.cells #[.string key,.int .i64 ver] 59)):=(show((W.alloc (.cells #[.int .u8 5,.int .i64 (a:Int),.int .i64 client,.int .i64 inc,.int .i64 req,.int .i64 ver,.string key,.int .i64 code] 29)).alloc (.cells #[.string key,.int .i64 ver] 59)).heap[W.heap.size+1]? = some (.cells #[.string key,.int .i64 ver] 59) from by have:=heap_alloc_new (W.alloc (.cells #[.int .u8 5,.int .i64 (a:Int),.int .i64 client,.int .i64 inc,.int .i64 req,.int .i64 ver,.string key,.int .i64 code] 29)) (.cells #[.string key,.int .i64 ver] 59);simpa using this)
 have HA0:Hid (RAt (fence bs W ((W.alloc (.cells #[.int .u8 5,.int .i64 (a:Int),.int .i64 client,.int .i64 inc,.int .i64 req,.int .i64 ver,.string key,.int .i64 code] 29)).alloc (.cells #[.string key,.int .i64 ver] 59))) ((W.alloc (.cells #[.int .u8 5,.int .i64 (a:Int),.int .i64 client,.int .i64 inc,.int .i64 req,.int .i64 ver,.string key,.int .i64 code] 29)).alloc (.cells #[.string key,.int .i64 ver] 59)) rb R):=(show RAt (fence bs W ((W.alloc (.cells #[.int .u8 5,.int .i64 (a:Int),.int .i64 client,.int .i64 inc,.int .i64 req,.int .i64 ver,.string key,.int .i64 code] 29)).alloc (.cells #[.string key,.int .i64 ver] 59))) ((W.alloc (.cells #[.int .u8 5,.int .i64 (a:Int),.int .i64 client,.int .i64 inc,.int .i64 req,.int .i64 ver,.string key,.int .i64 code] 29)).alloc (.cells #[.string key,.int .i64 ver] 59)) rb R from h.fence hg2)
 have HBS:Hid (∀w:World,((W.alloc (.cells #[.int .u8 5,.int .i64 (a:Int),.int .i64 client,.int .i64 inc,.int .i64 req,.int .i64 ver,.string key,.int .i64 code] 29)).alloc (.cells #[.string key,.int .i64 ver] 59)).heap.size≤w.heap.size→∀k,w.heap.size≤k→fence bs W ((W.alloc (.cells #[.int .u8 5,.int .i64 (a:Int),.int .i64 client,.int .i64 inc,.int .i64 req,.int .i64 ver,.string key,.int .i64 code] 29)).alloc (.cells #[.string key,.int .i64 ver] 59)) k):=(show ∀w:World,((W.alloc (.cells #[.int .u8 5,.int .i64 (a:Int),.int .i64 client,.int .i64 inc,.int .i64 req,.int .i64 ver,.string key,.int .i64 code] 29)).alloc (.cells #[.string key,.int .i64 ver] 59)).heap.size≤w.heap.size→∀k,w.heap.size≤k→fence bs W ((W.alloc (.cells #[.int .u8 5,.int .i64 (a:Int),.int .i64 client,.int .i64 inc,.int .i64 req,.int .i64 ver,.string key,.int .i64 code] 29)).alloc (.cells #[.string key,.int .i64 ver] 59)) k from fun w hw=>fence_new hbs hg2.size w hw)
 have hrb0:rb<W.heap.size:=h.lt
 have OK:=Lib.hid ok
 clear h hbs ok hg2
 simp only[encCmd]
 go_enter Tryz.func60,Tryz.ntmps60
 go_upto_region 23 with fail
 generalize (W.alloc (.cells #[.int .u8 5,.int .i64 (a:Int),.int .i64 client,.int .i64 inc,.int .i64 req,.int .i64 ver,.string key,.int .i64 code] 29)).alloc (.cells #[.string key,.int .i64 ver] 59)=W2 at *
 have HT0:Hid (Turn (fence bs W W2) W2 W2):=(show Turn (fence bs W W2) W2 W2 from turn_grown (grown_refl _))
 obtain⟨⟨d0,d1,d2,d3,d4,d5,d6,d7⟩,j0,j1,hw0,hw1⟩:=boxes HB0.out HB1.out HT0.out
 have HPE:Hid (Calls Tryz.prog 117 #[.pointer (some ⟨rb,0,none⟩),.agg #[.string key,.int .i64 ver]] W2 fun e w'=>e = .returned (.int .i64 (pendI R ⟨key,ver⟩))∧W2.grownBy w' none):=(show Calls _ _ _ _ _ from rpend_at HA0.out ⟨key,ver⟩)
 generalize hP:pendI R ⟨key,ver⟩=P at *
 have HP:=Lib.hid hP
 clear hP
 go_upto_region 24 with (go_at_call 117;refine HPE.out.mono ?_;rintro e w1 ⟨rfl,hg⟩;clear d0 d1 d2 d3 d4 d5 d6 d7 j0 j1 hw0 hw1;have HA1:=Lib.hid (HA0.out.grown hg);have HT1:Hid (Turn (fence bs W W2) W2 w1):=(show Turn (fence bs W W2) W2 w1 from turn_grown hg);clear hg;obtain⟨⟨d0,d1,d2,d3,d4,d5,d6,d7⟩,j0,j1,hw0,hw1⟩:=boxes HB0.out HB1.out HT1.out)
 obtain⟨gL,capL,c4,f0,y0,hcl,hcm⟩:=HA1.out.live hal
 obtain⟨LV,hLV⟩:∃x,R.lives.getD a 0=x:=⟨_,rfl⟩
 rw[hLV] at f0
 have hgL:gL<w1.heap.size:=cell_lt f0
 have q1:decide (inc<1)=false:=by simp;omega
 have q2:(LV != inc)=true:=by rw[←hLV];simpa using hB
 have HH:=Lib.hid (And.intro hA hB)
 clear hA hB hLV
 go_quiet (fail)
 go_wp2
 refine bodyPost_ret (results_none rfl _ _ _) rfl ⟨rfl,?_⟩
 rw[HE.out]
 exact fence_end HG2.out (HA1.out.grown (grown_drewN _ _)) (turn_after HT1.out (grown_drewN _ _))
end
section
variable {bs : Nat → Prop} {W : World} {rb : Nat} {R : RTab}
set_option maxHeartbeats 8000000 in
set_option maxRecDepth 100000 in
theorem rdo_5C (h:RAt bs W rb R) (hbs:∀k,W.heap.size≤k→bs k) (ok:ROk R) (node client inc req ver code:Int) (key:ByteArray) (hn0:0≤node) (hn1:node<(R.lives.length:Int)) (hA:1≤inc) (hB:R.lives.getD node.toNat 0=inc) (hC:¬0≤pendI R (⟨key,ver⟩:ID)):Calls Tryz.prog 60 #[.pointer (some ⟨rb,0,none⟩),encCmd ⟨5,node,client,inc,req,ver,key,code⟩] W fun e w'=>e = .returned (.tuple #[])∧RAt bs w' rb (rdo R ⟨5,node,client,inc,req,ver,key,code⟩)∧Turn bs W w':=by
 obtain⟨a,rfl⟩:=Int.eq_ofNat_of_zero_le hn0
 have hal:a<R.lives.length:=by omega
 have hat:((a:Nat):Int).toNat=a:=rfl
 rw[hat] at hB
 clear hat
 have HE:Hid (rdo R (⟨5,(a:Int),client,inc,req,ver,key,code⟩:Cmd)=R):=(show rdo R (⟨5,(a:Int),client,inc,req,ver,key,code⟩:Cmd)=R from by
  have h2:=pendI_none _ _ hC
  unfold rdo rrefuse
  simp only[show ¬((5:Int)=1) by decide,show ¬((5:Int)=2) by decide,show ¬((5:Int)=3) by decide,show ¬((5:Int)=4) by decide,if_false,if_true,h2])
 have hg2:W.grownBy ((W.alloc (.cells #[.int .u8 5,.int .i64 (a:Int),.int .i64 client,.int .i64 inc,.int .i64 req,.int .i64 ver,.string key,.int .i64 code] 29)).alloc (.cells #[.string key,.int .i64 ver] 59)) none:=grown_alloc (grown_alloc (grown_refl _) _) _
 have HG2:=Lib.hid hg2
 have HB0:Hid (((W.alloc (.cells #[.int .u8 5,.int .i64 (a:Int),.int .i64 client,.int .i64 inc,.int .i64 req,.int .i64 ver,.string key,.int .i64 code] 29)).alloc (.cells #[.string key,.int .i64 ver] 59)).heap[W.heap.size]? = some (.cells #[.int .u8 5,.int .i64 (a:Int),.int .i64 client,.int .i64 inc,.int .i64 req,.int .i64 ver,.string key,.int .i64 code] 29)):=(show((W.alloc (.cells #[.int .u8 5,.int .i64 (a:Int),.int .i64 client,.int .i64 inc,.int .i64 req,.int .i64 ver,.string key,.int .i64 code] 29)).alloc (.cells #[.string key,.int .i64 ver] 59)).heap[W.heap.size]? = some (.cells #[.int .u8 5,.int .i64 (a:Int),.int .i64 client,.int .i64 inc,.int .i64 req,.int .i64 ver,.string key,.int .i64 code] 29) from (alloc_oldG _ _ (by simp)).trans (heap_alloc_new _ _))
 have HB1:Hid (((W.alloc (.cells #[.int .u8 5,.int .i64 (a:Int),.int .i64 client,.int .i64 inc,.int .i64 req,.int .i64 ver,.string key,.int .i64 code] 29)).alloc (.cells #[.string key,.int .i64 ver] 59)).heap[W.heap.size+1]? = some (.cells #[.string key,.int .i64 ver] 59)):=(show((W.alloc (.cells #[.int .u8 5,.int .i64 (a:Int),.int .i64 client,.int .i64 inc,.int .i64 req,.int .i64 ver,.string key,.int .i64 code] 29)).alloc (.cells #[.string key,.int .i64 ver] 59)).heap[W.heap.size+1]? = some (.cells #[.string key,.int .i64 ver] 59) from by have:=heap_alloc_new (W.alloc (.cells #[.int .u8 5,.int .i64 (a:Int),.int .i64 client,.int .i64 inc,.int .i64 req,.int .i64 ver,.string key,.int .i64 code] 29)) (.cells #[.string key,.int .i64 ver] 59);simpa using this)
 have HA0:Hid (RAt (fence bs W ((W.alloc (.cells #[.int .u8 5,.int .i64 (a:Int),.int .i64 client,.int .i64 inc,.int .i64 req,.int .i64 ver,.string key,.int .i64 code] 29)).alloc (.cells #[.string key,.int .i64 ver] 59))) ((W.alloc (.cells #[.int .u8 5,.int .i64 (a:Int),.int .i64 client,.int .i64 inc,.int .i64 req,.int .i64 ver,.string key,.int .i64 code] 29)).alloc (.cells #[.string key,.int .i64 ver] 59)) rb R):=(show RAt (fence bs W ((W.alloc (.cells #[.int .u8 5,.int .i64 (a:Int),.int .i64 client,.int .i64 inc,.int .i64 req,.int .i64 ver,.string key,.int .i64 code] 29)).alloc (.cells #[.string key,.int .i64 ver] 59))) ((W.alloc (.cells #[.int .u8 5,.int .i64 (a:Int),.int .i64 client,.int .i64 inc,.int .i64 req,.int .i64 ver,.string key,.int .i64 code] 29)).alloc (.cells #[.string key,.int .i64 ver] 59)) rb R from h.fence hg2)
 have HBS:Hid (∀w:World,((W.alloc (.cells #[.int .u8 5,.int .i64 (a:Int),.int .i64 client,.int .i64 inc,.int .i64 req,.int .i64 ver,.string key,.int .i64 code] 29)).alloc (.cells #[.string key,.int .i64 ver] 59)).heap.size≤w.heap.size→∀k,w.heap.size≤k→fence bs W ((W.alloc (.cells #[.int .u8 5,.int .i64 (a:Int),.int .i64 client,.int .i64 inc,.int .i64 req,.int .i64 ver,.string key,.int .i64 code] 29)).alloc (.cells #[.string key,.int .i64 ver] 59)) k):=(show ∀w:World,((W.alloc (.cells #[.int .u8 5,.int .i64 (a:Int),.int .i64 client,.int .i64 inc,.int .i64 req,.int .i64 ver,.string key,.int .i64 code] 29)).alloc (.cells #[.string key,.int .i64 ver] 59)).heap.size≤w.heap.size→∀k,w.heap.size≤k→fence bs W ((W.alloc (.cells #[.int .u8 5,.int .i64 (a:Int),.int .i64 client,.int .i64 inc,.int .i64 req,.int .i64 ver,.string key,.int .i64 code] 29)).alloc (.cells #[.string key,.int .i64 ver] 59)) k from fun w hw=>fence_new hbs hg2.size w hw)
 have hrb0:rb<W.heap.size:=h.lt
 have OK:=Lib.hid ok
 clear h hbs ok hg2
 simp only[encCmd]
 go_enter Tryz.func60,Tryz.ntmps60
 go_upto_region 23 with fail
 generalize (W.alloc (.cells #[.int .u8 5,.int .i64 (a:Int),.int .i64 client,.int .i64 inc,.int .i64 req,.int .i64 ver,.string key,.int .i64 code] 29)).alloc (.cells #[.string key,.int .i64 ver] 59)=W2 at *
 have HT0:Hid (Turn (fence bs W W2) W2 W2):=(show Turn (fence bs W W2) W2 W2 from turn_grown (grown_refl _))
 obtain⟨⟨d0,d1,d2,d3,d4,d5,d6,d7⟩,j0,j1,hw0,hw1⟩:=boxes HB0.out HB1.out HT0.out
 have HPE:Hid (Calls Tryz.prog 117 #[.pointer (some ⟨rb,0,none⟩),.agg #[.string key,.int .i64 ver]] W2 fun e w'=>e = .returned (.int .i64 (pendI R ⟨key,ver⟩))∧W2.grownBy w' none):=(show Calls _ _ _ _ _ from rpend_at HA0.out ⟨key,ver⟩)
 generalize hP:pendI R ⟨key,ver⟩=P at *
 have HP:=Lib.hid hP
 clear hP
 go_upto_region 24 with (go_at_call 117;refine HPE.out.mono ?_;rintro e w1 ⟨rfl,hg⟩;clear d0 d1 d2 d3 d4 d5 d6 d7 j0 j1 hw0 hw1;have HA1:=Lib.hid (HA0.out.grown hg);have HT1:Hid (Turn (fence bs W W2) W2 w1):=(show Turn (fence bs W W2) W2 w1 from turn_grown hg);clear hg;obtain⟨⟨d0,d1,d2,d3,d4,d5,d6,d7⟩,j0,j1,hw0,hw1⟩:=boxes HB0.out HB1.out HT1.out)
 obtain⟨gL,capL,c4,f0,y0,hcl,hcm⟩:=HA1.out.live hal
 obtain⟨LV,hLV⟩:∃x,R.lives.getD a 0=x:=⟨_,rfl⟩
 rw[hLV] at f0
 have hgL:gL<w1.heap.size:=cell_lt f0
 have q1:decide (inc<1)=false:=by simp;omega
 have q2:(LV != inc)=false:=by rw[←hLV];simpa using hB
 have HH:=Lib.hid (And.intro hA hB)
 clear hA hB hLV
 have q3:decide (P<0)=true:=by simp;omega
 have HC:=Lib.hid hC
 clear hC
 go_quiet (fail)
 go_wp2
 refine bodyPost_ret (results_none rfl _ _ _) rfl ⟨rfl,?_⟩
 rw[HE.out]
 exact fence_end HG2.out (HA1.out.grown (grown_drewN _ _)) (turn_after HT1.out (grown_drewN _ _))
end
section
variable {bs : Nat → Prop} {W : World} {rb : Nat} {R : RTab}
set_option maxHeartbeats 8000000 in
set_option maxRecDepth 100000 in
theorem rdo_5D (h:RAt bs W rb R) (hbs:∀k,W.heap.size≤k→bs k) (ok:ROk R) (node client inc req ver code:Int) (key:ByteArray) (hn0:0≤node) (hn1:node<(R.lives.length:Int)) (hA:1≤inc) (hB:R.lives.getD node.toNat 0=inc) (hC:0≤pendI R (⟨key,ver⟩:ID)) (hD:¬R.N-(rcount (rsays R ⟨(⟨key,ver⟩:ID),node,inc,true⟩) (⟨key,ver⟩:ID) true:Int)<R.W):Calls Tryz.prog 60 #[.pointer (some ⟨rb,0,none⟩),encCmd ⟨5,node,client,inc,req,ver,key,code⟩] W fun e w'=>e = .returned (.tuple #[])∧RAt bs w' rb (rdo R ⟨5,node,client,inc,req,ver,key,code⟩)∧Turn bs W w':=by
 obtain⟨a,rfl⟩:=Int.eq_ofNat_of_zero_le hn0
 have hal:a<R.lives.length:=by omega
 have hat:((a:Nat):Int).toNat=a:=rfl
 rw[hat] at hB
 clear hat
 obtain⟨kk,hkk,hkl,hmg,hpi,her⟩:=pendI_some _ _ hC
 have hnow:rnowB R (⟨5,(a:Int),client,inc,req,ver,key,code⟩:Cmd)=true:=by have e:rlife R (a:Int)=R.lives.getD a 0:=rfl;simp only[rnowB,e,decide_eq_true hA,decide_eq_true hB,Bool.and_self]
 have HE:Hid (rdo R (⟨5,(a:Int),client,inc,req,ver,key,code⟩:Cmd)=rclean (rsays R ⟨⟨key,ver⟩,(a:Int),inc,true⟩)):=(show rdo R (⟨5,(a:Int),client,inc,req,ver,key,code⟩:Cmd)=rclean (rsays R ⟨⟨key,ver⟩,(a:Int),inc,true⟩) from by
  unfold rdo rrefuse
  simp only[show ¬((5:Int)=1) by decide,show ¬((5:Int)=2) by decide,show ¬((5:Int)=3) by decide,show ¬((5:Int)=4) by decide,if_false,if_true,hmg,hnow,if_neg hD])
 have HKL:=Lib.hid (And.intro hmg (And.intro hpi her))
 have HKK:=Lib.hid hkk
 clear hmg hpi her hnow
 have hg2:W.grownBy ((W.alloc (.cells #[.int .u8 5,.int .i64 (a:Int),.int .i64 client,.int .i64 inc,.int .i64 req,.int .i64 ver,.string key,.int .i64 code] 29)).alloc (.cells #[.string key,.int .i64 ver] 59)) none:=grown_alloc (grown_alloc (grown_refl _) _) _
 have HG2:=Lib.hid hg2
 have HB0:Hid (((W.alloc (.cells #[.int .u8 5,.int .i64 (a:Int),.int .i64 client,.int .i64 inc,.int .i64 req,.int .i64 ver,.string key,.int .i64 code] 29)).alloc (.cells #[.string key,.int .i64 ver] 59)).heap[W.heap.size]? = some (.cells #[.int .u8 5,.int .i64 (a:Int),.int .i64 client,.int .i64 inc,.int .i64 req,.int .i64 ver,.string key,.int .i64 code] 29)):=(show((W.alloc (.cells #[.int .u8 5,.int .i64 (a:Int),.int .i64 client,.int .i64 inc,.int .i64 req,.int .i64 ver,.string key,.int .i64 code] 29)).alloc (.cells #[.string key,.int .i64 ver] 59)).heap[W.heap.size]? = some (.cells #[.int .u8 5,.int .i64 (a:Int),.int .i64 client,.int .i64 inc,.int .i64 req,.int .i64 ver,.string key,.int .i64 code] 29) from (alloc_oldG _ _ (by simp)).trans (heap_alloc_new _ _))
 have HB1:Hid (((W.alloc (.cells #[.int .u8 5,.int .i64 (a:Int),.int .i64 client,.int .i64 inc,.int .i64 req,.int .i64 ver,.string key,.int .i64 code] 29)).alloc (.cells #[.string key,.int .i64 ver] 59)).heap[W.heap.size+1]? = some (.cells #[.string key,.int .i64 ver] 59)):=(show((W.alloc (.cells #[.int .u8 5,.int .i64 (a:Int),.int .i64 client,.int .i64 inc,.int .i64 req,.int .i64 ver,.string key,.int .i64 code] 29)).alloc (.cells #[.string key,.int .i64 ver] 59)).heap[W.heap.size+1]? = some (.cells #[.string key,.int .i64 ver] 59) from by have:=heap_alloc_new (W.alloc (.cells #[.int .u8 5,.int .i64 (a:Int),.int .i64 client,.int .i64 inc,.int .i64 req,.int .i64 ver,.string key,.int .i64 code] 29)) (.cells #[.string key,.int .i64 ver] 59);simpa using this)
 have HA0:Hid (RAt (fence bs W ((W.alloc (.cells #[.int .u8 5,.int .i64 (a:Int),.int .i64 client,.int .i64 inc,.int .i64 req,.int .i64 ver,.string key,.int .i64 code] 29)).alloc (.cells #[.string key,.int .i64 ver] 59))) ((W.alloc (.cells #[.int .u8 5,.int .i64 (a:Int),.int .i64 client,.int .i64 inc,.int .i64 req,.int .i64 ver,.string key,.int .i64 code] 29)).alloc (.cells #[.string key,.int .i64 ver] 59)) rb R):=(show RAt (fence bs W ((W.alloc (.cells #[.int .u8 5,.int .i64 (a:Int),.int .i64 client,.int .i64 inc,.int .i64 req,.int .i64 ver,.string key,.int .i64 code] 29)).alloc (.cells #[.string key,.int .i64 ver] 59))) ((W.alloc (.cells #[.int .u8 5,.int .i64 (a:Int),.int .i64 client,.int .i64 inc,.int .i64 req,.int .i64 ver,.string key,.int .i64 code] 29)).alloc (.cells #[.string key,.int .i64 ver] 59)) rb R from h.fence hg2)
 have HBS:Hid (∀w:World,((W.alloc (.cells #[.int .u8 5,.int .i64 (a:Int),.int .i64 client,.int .i64 inc,.int .i64 req,.int .i64 ver,.string key,.int .i64 code] 29)).alloc (.cells #[.string key,.int .i64 ver] 59)).heap.size≤w.heap.size→∀k,w.heap.size≤k→fence bs W ((W.alloc (.cells #[.int .u8 5,.int .i64 (a:Int),.int .i64 client,.int .i64 inc,.int .i64 req,.int .i64 ver,.string key,.int .i64 code] 29)).alloc (.cells #[.string key,.int .i64 ver] 59)) k):=(show ∀w:World,((W.alloc (.cells #[.int .u8 5,.int .i64 (a:Int),.int .i64 client,.int .i64 inc,.int .i64 req,.int .i64 ver,.string key,.int .i64 code] 29)).alloc (.cells #[.string key,.int .i64 ver] 59)).heap.size≤w.heap.size→∀k,w.heap.size≤k→fence bs W ((W.alloc (.cells #[.int .u8 5,.int .i64 (a:Int),.int .i64 client,.int .i64 inc,.int .i64 req,.int .i64 ver,.string key,.int .i64 code] 29)).alloc (.cells #[.string key,.int .i64 ver] 59)) k from fun w hw=>fence_new hbs hg2.size w hw)
 have hrb0:rb<W.heap.size:=h.lt
 have OK:=Lib.hid ok
 clear h hbs ok hg2
 simp only[encCmd]
 go_enter Tryz.func60,Tryz.ntmps60
 go_upto_region 23 with fail
 generalize (W.alloc (.cells #[.int .u8 5,.int .i64 (a:Int),.int .i64 client,.int .i64 inc,.int .i64 req,.int .i64 ver,.string key,.int .i64 code] 29)).alloc (.cells #[.string key,.int .i64 ver] 59)=W2 at *
 have HT0:Hid (Turn (fence bs W W2) W2 W2):=(show Turn (fence bs W W2) W2 W2 from turn_grown (grown_refl _))
 obtain⟨⟨d0,d1,d2,d3,d4,d5,d6,d7⟩,j0,j1,hw0,hw1⟩:=boxes HB0.out HB1.out HT0.out
 have HPE:Hid (Calls Tryz.prog 117 #[.pointer (some ⟨rb,0,none⟩),.agg #[.string key,.int .i64 ver]] W2 fun e w'=>e = .returned (.int .i64 (pendI R ⟨key,ver⟩))∧W2.grownBy w' none):=(show Calls _ _ _ _ _ from rpend_at HA0.out ⟨key,ver⟩)
 generalize hP:pendI R ⟨key,ver⟩=P at *
 have HP:=Lib.hid hP
 clear hP
 go_upto_region 24 with (go_at_call 117;refine HPE.out.mono ?_;rintro e w1 ⟨rfl,hg⟩;clear d0 d1 d2 d3 d4 d5 d6 d7 j0 j1 hw0 hw1;have HA1:=Lib.hid (HA0.out.grown hg);have HT1:Hid (Turn (fence bs W W2) W2 w1):=(show Turn (fence bs W W2) W2 w1 from turn_grown hg);clear hg;obtain⟨⟨d0,d1,d2,d3,d4,d5,d6,d7⟩,j0,j1,hw0,hw1⟩:=boxes HB0.out HB1.out HT1.out)
 obtain⟨gL,capL,c4,f0,y0,hcl,hcm⟩:=HA1.out.live hal
 obtain⟨LV,hLV⟩:∃x,R.lives.getD a 0=x:=⟨_,rfl⟩
 rw[hLV] at f0
 have hgL:gL<w1.heap.size:=cell_lt f0
 have q1:decide (inc<1)=false:=by simp;omega
 have q2:(LV != inc)=false:=by rw[←hLV];simpa using hB
 have HH:=Lib.hid (And.intro hA hB)
 clear hA hB hLV
 have q3:decide (P<0)=false:=by simp;omega
 have HC:=Lib.hid hC
 clear hC
 go_quiet (fail)
 have HA2:=Lib.hid (HA1.out.grown (grown_drewN w1 nq))
 have HT2:Hid (Turn (fence bs W W2) W2 (w1.drewN nq)):=(show Turn (fence bs W W2) W2 (w1.drewN nq) from turn_after HT1.out (grown_drewN _ _))
 clear d0 d1 d2 d3 d4 d5 d6 d7 j0 j1 hw0 hw1
 clear c4 f0 y0 hcl hcm hgL
 generalize w1.drewN nq=w2 at *
 obtain⟨⟨d0,d1,d2,d3,d4,d5,d6,d7⟩,j0,j1,hw0,hw1⟩:=boxes HB0.out HB1.out HT2.out
 go_upto_region 26 with (go_at_call 116;refine(rsays_any HA2.out (HBS.out _ HT2.out.size) ⟨⟨key,ver⟩,(a:Int),inc,true⟩ (by have:=OK.out.lh;omega)).mono ?_;rintro e w3 ⟨rfl,hr,ht⟩;clear d0 d1 d2 d3 d4 d5 d6 d7 j0 j1 hw0 hw1;have HA3:=Lib.hid hr;have HT3:=Lib.hid (turn_trans HT2.out ht);clear hr ht;obtain⟨⟨d0,d1,d2,d3,d4,d5,d6,d7⟩,j0,j1,hw0,hw1⟩:=boxes HB0.out HB1.out HT3.out)
 have c0:w3.cell? ⟨rb,0,none⟩=some (.int .i64 R.N):=HA3.out.c0
 have c1:w3.cell? ⟨rb,1,none⟩=some (.int .i64 R.W):=HA3.out.c1
 have hrb:=HA3.out.lt
 have hNN:=OK.out.nn
 have hll:=OK.out.ll
 have hN0:0≤R.N:=by omega
 have hN1:R.N≤1000000:=by omega
 have hcn:rcount (rsays R ⟨⟨key,ver⟩,(a:Int),inc,true⟩) ⟨key,ver⟩ true≤10000001:=by
  unfold rcount
  refine Nat.le_trans (List.length_filter_le _ _) ?_
  show((R.holds.filter _) ++ [_]).length≤_
  rw[List.length_append]
  have:=List.length_filter_le (fun y:RHold=>decide (y.id≠(⟨key,ver⟩:ID)) || decide (y.node≠(a:Int))) R.holds
  have:=OK.out.lh
  simp only[List.length_singleton]
  omega
 clear hNN hll
 have HCO:Hid (∀W',w3.grownBy W' none→Calls Tryz.prog 118 #[.pointer (some ⟨rb,0,none⟩),.agg #[.string key,.int .i64 ver],.bool true] W' fun e w'=>e = .returned (.int .i64 (rcount (rsays R ⟨⟨key,ver⟩,(a:Int),inc,true⟩) ⟨key,ver⟩ true))∧W'.grownBy w' none):=(show ∀_,_ from fun W' hg=>rcount_at (HA3.out.grown hg) ⟨key,ver⟩ true)
 have q4:decide (R.N-(rcount (rsays R ⟨⟨key,ver⟩,(a:Int),inc,true⟩) ⟨key,ver⟩ true:Int)<R.W)=false:=by simpa using hD
 have HDD:=Lib.hid hD
 clear hD
 refine wp_region_quiet_ext (by kernel_rfl) (by kernel_rfl) ?_
 repeat (any_goals (first|go_big_quiet_step (((go_at_call 118;exact calls_ext (HCO.out _ (by repeat (first|exact grown_refl _|exact grown_drewN _ _|refine grown_ext' ?_ _|refine grown_alloc ?_ _|refine grown_drew ?_))))))|quiet_step (((go_at_call 118;exact calls_ext (HCO.out _ (by repeat (first|exact grown_refl _|exact grown_drewN _ _|refine grown_ext' ?_ _|refine grown_alloc ?_ _|refine grown_drew ?_))))))))
 refine wpQuiet_nil ?_
 intro _ hw'
 obtain⟨xx,hw''⟩:=hw'
 subst hw''
 have HA4:=Lib.hid (HA3.out.grown (grown_ext w3 xx))
 have HT4:Hid (Turn (fence bs W W2) W2 (ext w3 xx)):=(show Turn (fence bs W W2) W2 (ext w3 xx) from turn_after HT3.out (grown_ext _ _))
 clear d0 d1 d2 d3 d4 d5 d6 d7 j0 j1 hw0 hw1
 clear c0 c1 hrb hN0 hN1 hcn
 generalize ext w3 xx=w4 at *
 have hnd:∀x∈(rsays R ⟨⟨key,ver⟩,(a:Int),inc,true⟩).holds,0≤x.node∧x.node<(R.lives.length:Int):=by
  intro x hx
  rcases List.mem_append.1 hx with hx|hx
  ·exact OK.out.nd x (List.mem_filter.1 hx).1
  ·have:=List.mem_singleton.1 hx
   subst this
   exact⟨by simp only;omega,by simp only;omega⟩
 have hhl:(rsays R ⟨⟨key,ver⟩,(a:Int),inc,true⟩).holds.length≤10000001:=by
  show((R.holds.filter _) ++ [_]).length≤_
  rw[List.length_append]
  have:=List.length_filter_le (fun y:RHold=>decide (y.id≠(⟨key,ver⟩:ID)) || decide (y.node≠(a:Int))) R.holds
  have:=OK.out.lh
  simp only[List.length_singleton]
  omega
 have HND:=Lib.hid (And.intro hnd hhl)
 clear hnd hhl
 go_wp2_with (go_at_call 123;refine(rclean_any HA4.out (HBS.out _ HT4.out.size) HND.out.1 (by have:=HND.out.2;omega) OK.out.ll).mono ?_;rintro e wz ⟨rfl,hr,ht⟩;have HZ:=Lib.hid (fence_end HG2.out hr (turn_trans HT4.out ht));clear hr ht)
 first|go_end0|refine bodyPost_ret (results_none rfl _ _ _) rfl ?_
 refine⟨rfl,?_⟩
 rw[HE.out]
 exact HZ.out
end
end Go.Proofs.YtjfelfjobeeenaaGreat
