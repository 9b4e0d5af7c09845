/- The document's Do at some kinds: the walks. Conditions: a table that lies in memory, its numbers within bounds. The document's Do at some kinds: the walks. Conditions: a table that lies in memory, its numbers within bounds. -/
import Derived.Test.YtjfelfjobeeenaaGreatP18
import Derived.Deep.DeepCutAuto
namespace Go.Proofs.YtjfelfjobeeenaaGreat
set_option linter.unusedVariables false
set_option linter.unusedSimpArgs false
open Go.RowKit Go.Sf Go.Shelf
section
variable {bs : Nat → Prop} {W : World} {rb : Nat} {R : RTab}
set_option maxHeartbeats 8000000 in
set_option maxRecDepth 100000 in
theorem rdo_2A (h:RAt bs W rb R) (hbs:∀k,W.heap.size≤k→bs k) (ok:ROk R) (node client inc req ver code:Int) (key:ByteArray) (hn0:0≤node) (hn1:node<(R.lives.length:Int)) (hA:inc≤R.lives.getD node.toNat 0):Calls Tryz.prog 60 #[.pointer (some ⟨rb,0,none⟩),encCmd ⟨2,node,client,inc,req,ver,key,code⟩] W fun e w'=>e = .returned (.tuple #[])∧RAt bs w' rb (rdo R ⟨2,node,client,inc,req,ver,key,code⟩)∧Turn bs W w':=by
 obtain⟨a,rfl⟩:=Int.eq_ofNat_of_zero_le hn0
 have hal:a<R.lives.length:=by omega
 have hat:((a:Nat):Int).toNat=a:=rfl
 rw[hat] at hA
 clear hat
 have hg2:W.grownBy ((W.alloc (.cells #[.int .u8 2,.int .i64 (a:Int),.int .i64 client,.int .i64 inc,.int .i64 req,.int .i64 ver,.string key,.int .i64 code] 29)).alloc (.cells #[.string key,.int .i64 ver] 59)) none:=grown_alloc (grown_alloc (grown_refl _) _) _
 have HG2:=Lib.hid hg2
 have HB0:Hid (((W.alloc (.cells #[.int .u8 2,.int .i64 (a:Int),.int .i64 client,.int .i64 inc,.int .i64 req,.int .i64 ver,.string key,.int .i64 code] 29)).alloc (.cells #[.string key,.int .i64 ver] 59)).heap[W.heap.size]? = some (.cells #[.int .u8 2,.int .i64 (a:Int),.int .i64 client,.int .i64 inc,.int .i64 req,.int .i64 ver,.string key,.int .i64 code] 29)):=(show((W.alloc (.cells #[.int .u8 2,.int .i64 (a:Int),.int .i64 client,.int .i64 inc,.int .i64 req,.int .i64 ver,.string key,.int .i64 code] 29)).alloc (.cells #[.string key,.int .i64 ver] 59)).heap[W.heap.size]? = some (.cells #[.int .u8 2,.int .i64 (a:Int),.int .i64 client,.int .i64 inc,.int .i64 req,.int .i64 ver,.string key,.int .i64 code] 29) from (alloc_oldG _ _ (by simp)).trans (heap_alloc_new _ _))
 have HB1:Hid (((W.alloc (.cells #[.int .u8 2,.int .i64 (a:Int),.int .i64 client,.int .i64 inc,.int .i64 req,.int .i64 ver,.string key,.int .i64 code] 29)).alloc (.cells #[.string key,.int .i64 ver] 59)).heap[W.heap.size+1]? = some (.cells #[.string key,.int .i64 ver] 59)):=(show((W.alloc (.cells #[.int .u8 2,.int .i64 (a:Int),.int .i64 client,.int .i64 inc,.int .i64 req,.int .i64 ver,.string key,.int .i64 code] 29)).alloc (.cells #[.string key,.int .i64 ver] 59)).heap[W.heap.size+1]? = some (.cells #[.string key,.int .i64 ver] 59) from by have:=heap_alloc_new (W.alloc (.cells #[.int .u8 2,.int .i64 (a:Int),.int .i64 client,.int .i64 inc,.int .i64 req,.int .i64 ver,.string key,.int .i64 code] 29)) (.cells #[.string key,.int .i64 ver] 59);simpa using this)
 have HA0:Hid (RAt (fence bs W ((W.alloc (.cells #[.int .u8 2,.int .i64 (a:Int),.int .i64 client,.int .i64 inc,.int .i64 req,.int .i64 ver,.string key,.int .i64 code] 29)).alloc (.cells #[.string key,.int .i64 ver] 59))) ((W.alloc (.cells #[.int .u8 2,.int .i64 (a:Int),.int .i64 client,.int .i64 inc,.int .i64 req,.int .i64 ver,.string key,.int .i64 code] 29)).alloc (.cells #[.string key,.int .i64 ver] 59)) rb R):=(show RAt (fence bs W ((W.alloc (.cells #[.int .u8 2,.int .i64 (a:Int),.int .i64 client,.int .i64 inc,.int .i64 req,.int .i64 ver,.string key,.int .i64 code] 29)).alloc (.cells #[.string key,.int .i64 ver] 59))) ((W.alloc (.cells #[.int .u8 2,.int .i64 (a:Int),.int .i64 client,.int .i64 inc,.int .i64 req,.int .i64 ver,.string key,.int .i64 code] 29)).alloc (.cells #[.string key,.int .i64 ver] 59)) rb R from h.fence hg2)
 have HBS:Hid (∀w:World,((W.alloc (.cells #[.int .u8 2,.int .i64 (a:Int),.int .i64 client,.int .i64 inc,.int .i64 req,.int .i64 ver,.string key,.int .i64 code] 29)).alloc (.cells #[.string key,.int .i64 ver] 59)).heap.size≤w.heap.size→∀k,w.heap.size≤k→fence bs W ((W.alloc (.cells #[.int .u8 2,.int .i64 (a:Int),.int .i64 client,.int .i64 inc,.int .i64 req,.int .i64 ver,.string key,.int .i64 code] 29)).alloc (.cells #[.string key,.int .i64 ver] 59)) k):=(show ∀w:World,((W.alloc (.cells #[.int .u8 2,.int .i64 (a:Int),.int .i64 client,.int .i64 inc,.int .i64 req,.int .i64 ver,.string key,.int .i64 code] 29)).alloc (.cells #[.string key,.int .i64 ver] 59)).heap.size≤w.heap.size→∀k,w.heap.size≤k→fence bs W ((W.alloc (.cells #[.int .u8 2,.int .i64 (a:Int),.int .i64 client,.int .i64 inc,.int .i64 req,.int .i64 ver,.string key,.int .i64 code] 29)).alloc (.cells #[.string key,.int .i64 ver] 59)) k from fun w hw=>fence_new hbs hg2.size w hw)
 have hrb0:rb<W.heap.size:=h.lt
 have OK:=Lib.hid ok
 clear h hbs ok hg2
 simp only[encCmd]
 go_enter Tryz.func60,Tryz.ntmps60
 go_upto_region 6 with fail
 generalize (W.alloc (.cells #[.int .u8 2,.int .i64 (a:Int),.int .i64 client,.int .i64 inc,.int .i64 req,.int .i64 ver,.string key,.int .i64 code] 29)).alloc (.cells #[.string key,.int .i64 ver] 59)=W2 at *
 have HT0:Hid (Turn (fence bs W W2) W2 W2):=(show Turn (fence bs W W2) W2 W2 from turn_grown (grown_refl _))
 obtain⟨⟨d0,d1,d2,d3,d4,d5,d6,d7⟩,j0,j1,hw0,hw1⟩:=boxes HB0.out HB1.out HT0.out
 obtain⟨gL,capL,c4,f0,y0,hcl,hcm⟩:=HA0.out.live hal
 obtain⟨LV,hLV⟩:∃x,R.lives.getD a 0=x:=⟨_,rfl⟩
 rw[hLV] at f0
 have c2:=HA0.out.c2
 have hL:Hid (rlife R (a:Int)=R.lives.getD a 0):=(show _=_ from rfl)
 have hgL:gL<W2.heap.size:=cell_lt f0
 have hrbw:rb<W2.heap.size:=HA0.out.lt
 have q1:decide (LV<inc)=false:=by rw[←hLV];simpa using hA
 have HH:=Lib.hid hA
 clear hA hLV
 go_quiet (fail)
 go_upto_region 36 with fail
 have HA1:Hid (RAt (fence bs W W2) (W2.drewN nq) rb R):=(show RAt (fence bs W W2) (W2.drewN nq) rb R from HA0.out.grown (grown_drewN _ _))
 have HT1:Hid (Turn (fence bs W W2) W2 (W2.drewN nq)):=(show Turn (fence bs W W2) W2 (W2.drewN nq) from turn_grown (grown_drewN _ _))
 go_wp2_with (go_at_call 123;refine(rclean_any HA1.out (HBS.out _ HT1.out.size) (by exact OK.out.nd) (by have:=OK.out.lh;omega) (by exact OK.out.ll)).mono ?_;rintro e wz ⟨rfl,hr,ht⟩;have HZ:=Lib.hid (fence_end HG2.out hr (turn_trans HT1.out ht));clear hr ht)
 first|go_end0|refine bodyPost_ret (results_none rfl _ _ _) rfl ?_
 refine⟨rfl,?_⟩
 have hZ:=HZ.out
 have e:rdo R ⟨2,(a:Int),client,inc,req,ver,key,code⟩=rclean R:=by
  have h:¬(rlife R (a:Int)<inc∧inc≤R.offers):=by rw[hL.out];have:=HH.out;omega
  unfold rdo
  simp only[show ¬((2:Int)=1) by decide,if_false,if_true,if_neg h]
 rw[e]
 exact hZ
set_option maxHeartbeats 8000000 in
set_option maxRecDepth 100000 in
theorem rdo_2B (h:RAt bs W rb R) (hbs:∀k,W.heap.size≤k→bs k) (ok:ROk R) (node client inc req ver code:Int) (key:ByteArray) (hn0:0≤node) (hn1:node<(R.lives.length:Int)) (hA:R.lives.getD node.toNat 0<inc) (hB:R.offers<inc):Calls Tryz.prog 60 #[.pointer (some ⟨rb,0,none⟩),encCmd ⟨2,node,client,inc,req,ver,key,code⟩] W fun e w'=>e = .returned (.tuple #[])∧RAt bs w' rb (rdo R ⟨2,node,client,inc,req,ver,key,code⟩)∧Turn bs W w':=by
 obtain⟨a,rfl⟩:=Int.eq_ofNat_of_zero_le hn0
 have hal:a<R.lives.length:=by omega
 have hat:((a:Nat):Int).toNat=a:=rfl
 rw[hat] at hA
 clear hat
 have hg2:W.grownBy ((W.alloc (.cells #[.int .u8 2,.int .i64 (a:Int),.int .i64 client,.int .i64 inc,.int .i64 req,.int .i64 ver,.string key,.int .i64 code] 29)).alloc (.cells #[.string key,.int .i64 ver] 59)) none:=grown_alloc (grown_alloc (grown_refl _) _) _
 have HG2:=Lib.hid hg2
 have HB0:Hid (((W.alloc (.cells #[.int .u8 2,.int .i64 (a:Int),.int .i64 client,.int .i64 inc,.int .i64 req,.int .i64 ver,.string key,.int .i64 code] 29)).alloc (.cells #[.string key,.int .i64 ver] 59)).heap[W.heap.size]? = some (.cells #[.int .u8 2,.int .i64 (a:Int),.int .i64 client,.int .i64 inc,.int .i64 req,.int .i64 ver,.string key,.int .i64 code] 29)):=(show((W.alloc (.cells #[.int .u8 2,.int .i64 (a:Int),.int .i64 client,.int .i64 inc,.int .i64 req,.int .i64 ver,.string key,.int .i64 code] 29)).alloc (.cells #[.string key,.int .i64 ver] 59)).heap[W.heap.size]? = some (.cells #[.int .u8 2,.int .i64 (a:Int),.int .i64 client,.int .i64 inc,.int .i64 req,.int .i64 ver,.string key,.int .i64 code] 29) from (alloc_oldG _ _ (by simp)).trans (heap_alloc_new _ _))
 have HB1:Hid (((W.alloc (.cells #[.int .u8 2,.int .i64 (a:Int),.int .i64 client,.int .i64 inc,.int .i64 req,.int .i64 ver,.string key,.int .i64 code] 29)).alloc (.cells #[.string key,.int .i64 ver] 59)).heap[W.heap.size+1]? = some (.cells #[.string key,.int .i64 ver] 59)):=(show((W.alloc (.cells #[.int .u8 2,.int .i64 (a:Int),.int .i64 client,.int .i64 inc,.int .i64 req,.int .i64 ver,.string key,.int .i64 code] 29)).alloc (.cells #[.string key,.int .i64 ver] 59)).heap[W.heap.size+1]? = some (.cells #[.string key,.int .i64 ver] 59) from by have:=heap_alloc_new (W.alloc (.cells #[.int .u8 2,.int .i64 (a:Int),.int .i64 client,.int .i64 inc,.int .i64 req,.int .i64 ver,.string key,.int .i64 code] 29)) (.cells #[.string key,.int .i64 ver] 59);simpa using this)
 have HA0:Hid (RAt (fence bs W ((W.alloc (.cells #[.int .u8 2,.int .i64 (a:Int),.int .i64 client,.int .i64 inc,.int .i64 req,.int .i64 ver,.string key,.int .i64 code] 29)).alloc (.cells #[.string key,.int .i64 ver] 59))) ((W.alloc (.cells #[.int .u8 2,.int .i64 (a:Int),.int .i64 client,.int .i64 inc,.int .i64 req,.int .i64 ver,.string key,.int .i64 code] 29)).alloc (.cells #[.string key,.int .i64 ver] 59)) rb R):=(show RAt (fence bs W ((W.alloc (.cells #[.int .u8 2,.int .i64 (a:Int),.int .i64 client,.int .i64 inc,.int .i64 req,.int .i64 ver,.string key,.int .i64 code] 29)).alloc (.cells #[.string key,.int .i64 ver] 59))) ((W.alloc (.cells #[.int .u8 2,.int .i64 (a:Int),.int .i64 client,.int .i64 inc,.int .i64 req,.int .i64 ver,.string key,.int .i64 code] 29)).alloc (.cells #[.string key,.int .i64 ver] 59)) rb R from h.fence hg2)
 have HBS:Hid (∀w:World,((W.alloc (.cells #[.int .u8 2,.int .i64 (a:Int),.int .i64 client,.int .i64 inc,.int .i64 req,.int .i64 ver,.string key,.int .i64 code] 29)).alloc (.cells #[.string key,.int .i64 ver] 59)).heap.size≤w.heap.size→∀k,w.heap.size≤k→fence bs W ((W.alloc (.cells #[.int .u8 2,.int .i64 (a:Int),.int .i64 client,.int .i64 inc,.int .i64 req,.int .i64 ver,.string key,.int .i64 code] 29)).alloc (.cells #[.string key,.int .i64 ver] 59)) k):=(show ∀w:World,((W.alloc (.cells #[.int .u8 2,.int .i64 (a:Int),.int .i64 client,.int .i64 inc,.int .i64 req,.int .i64 ver,.string key,.int .i64 code] 29)).alloc (.cells #[.string key,.int .i64 ver] 59)).heap.size≤w.heap.size→∀k,w.heap.size≤k→fence bs W ((W.alloc (.cells #[.int .u8 2,.int .i64 (a:Int),.int .i64 client,.int .i64 inc,.int .i64 req,.int .i64 ver,.string key,.int .i64 code] 29)).alloc (.cells #[.string key,.int .i64 ver] 59)) k from fun w hw=>fence_new hbs hg2.size w hw)
 have hrb0:rb<W.heap.size:=h.lt
 have OK:=Lib.hid ok
 clear h hbs ok hg2
 simp only[encCmd]
 go_enter Tryz.func60,Tryz.ntmps60
 go_upto_region 6 with fail
 generalize (W.alloc (.cells #[.int .u8 2,.int .i64 (a:Int),.int .i64 client,.int .i64 inc,.int .i64 req,.int .i64 ver,.string key,.int .i64 code] 29)).alloc (.cells #[.string key,.int .i64 ver] 59)=W2 at *
 have HT0:Hid (Turn (fence bs W W2) W2 W2):=(show Turn (fence bs W W2) W2 W2 from turn_grown (grown_refl _))
 obtain⟨⟨d0,d1,d2,d3,d4,d5,d6,d7⟩,j0,j1,hw0,hw1⟩:=boxes HB0.out HB1.out HT0.out
 obtain⟨gL,capL,c4,f0,y0,hcl,hcm⟩:=HA0.out.live hal
 obtain⟨LV,hLV⟩:∃x,R.lives.getD a 0=x:=⟨_,rfl⟩
 rw[hLV] at f0
 have c2:=HA0.out.c2
 have hL:Hid (rlife R (a:Int)=R.lives.getD a 0):=(show _=_ from rfl)
 have hgL:gL<W2.heap.size:=cell_lt f0
 have hrbw:rb<W2.heap.size:=HA0.out.lt
 have q1:decide (LV<inc)=true:=by rw[←hLV];simpa using hA
 have q2:decide (inc≤R.offers)=false:=by simpa using hB
 have HH:=Lib.hid hA
 clear hA hLV
 have HH2:=Lib.hid hB
 clear hB
 go_quiet (fail)
 go_upto_region 36 with fail
 have HA1:Hid (RAt (fence bs W W2) (W2.drewN nq) rb R):=(show RAt (fence bs W W2) (W2.drewN nq) rb R from HA0.out.grown (grown_drewN _ _))
 have HT1:Hid (Turn (fence bs W W2) W2 (W2.drewN nq)):=(show Turn (fence bs W W2) W2 (W2.drewN nq) from turn_grown (grown_drewN _ _))
 go_wp2_with (go_at_call 123;refine(rclean_any HA1.out (HBS.out _ HT1.out.size) (by exact OK.out.nd) (by have:=OK.out.lh;omega) (by exact OK.out.ll)).mono ?_;rintro e wz ⟨rfl,hr,ht⟩;have HZ:=Lib.hid (fence_end HG2.out hr (turn_trans HT1.out ht));clear hr ht)
 first|go_end0|refine bodyPost_ret (results_none rfl _ _ _) rfl ?_
 refine⟨rfl,?_⟩
 have hZ:=HZ.out
 have e:rdo R ⟨2,(a:Int),client,inc,req,ver,key,code⟩=rclean R:=by
  have h:¬(rlife R (a:Int)<inc∧inc≤R.offers):=by rw[hL.out];have:=HH2.out;omega
  unfold rdo
  simp only[show ¬((2:Int)=1) by decide,if_false,if_true,if_neg h]
 rw[e]
 exact hZ
set_option maxHeartbeats 8000000 in
set_option maxRecDepth 100000 in
theorem rdo_2C (h:RAt bs W rb R) (hbs:∀k,W.heap.size≤k→bs k) (ok:ROk R) (node client inc req ver code:Int) (key:ByteArray) (hn0:0≤node) (hn1:node<(R.lives.length:Int)) (hA:R.lives.getD node.toNat 0<inc) (hB:inc≤R.offers):Calls Tryz.prog 60 #[.pointer (some ⟨rb,0,none⟩),encCmd ⟨2,node,client,inc,req,ver,key,code⟩] W fun e w'=>e = .returned (.tuple #[])∧RAt bs w' rb (rdo R ⟨2,node,client,inc,req,ver,key,code⟩)∧Turn bs W w':=by
 obtain⟨a,rfl⟩:=Int.eq_ofNat_of_zero_le hn0
 have hal:a<R.lives.length:=by omega
 have hat:((a:Nat):Int).toNat=a:=rfl
 rw[hat] at hA
 clear hat
 have hg2:W.grownBy ((W.alloc (.cells #[.int .u8 2,.int .i64 (a:Int),.int .i64 client,.int .i64 inc,.int .i64 req,.int .i64 ver,.string key,.int .i64 code] 29)).alloc (.cells #[.string key,.int .i64 ver] 59)) none:=grown_alloc (grown_alloc (grown_refl _) _) _
 have HG2:=Lib.hid hg2
 have HB0:Hid (((W.alloc (.cells #[.int .u8 2,.int .i64 (a:Int),.int .i64 client,.int .i64 inc,.int .i64 req,.int .i64 ver,.string key,.int .i64 code] 29)).alloc (.cells #[.string key,.int .i64 ver] 59)).heap[W.heap.size]? = some (.cells #[.int .u8 2,.int .i64 (a:Int),.int .i64 client,.int .i64 inc,.int .i64 req,.int .i64 ver,.string key,.int .i64 code] 29)):=(show((W.alloc (.cells #[.int .u8 2,.int .i64 (a:Int),.int .i64 client,.int .i64 inc,.int .i64 req,.int .i64 ver,.string key,.int .i64 code] 29)).alloc (.cells #[.string key,.int .i64 ver] 59)).heap[W.heap.size]? = some (.cells #[.int .u8 2,.int .i64 (a:Int),.int .i64 client,.int .i64 inc,.int .i64 req,.int .i64 ver,.string key,.int .i64 code] 29) from (alloc_oldG _ _ (by simp)).trans (heap_alloc_new _ _))
 have HB1:Hid (((W.alloc (.cells #[.int .u8 2,.int .i64 (a:Int),.int .i64 client,.int .i64 inc,.int .i64 req,.int .i64 ver,.string key,.int .i64 code] 29)).alloc (.cells #[.string key,.int .i64 ver] 59)).heap[W.heap.size+1]? = some (.cells #[.string key,.int .i64 ver] 59)):=(show((W.alloc (.cells #[.int .u8 2,.int .i64 (a:Int),.int .i64 client,.int .i64 inc,.int .i64 req,.int .i64 ver,.string key,.int .i64 code] 29)).alloc (.cells #[.string key,.int .i64 ver] 59)).heap[W.heap.size+1]? = some (.cells #[.string key,.int .i64 ver] 59) from by have:=heap_alloc_new (W.alloc (.cells #[.int .u8 2,.int .i64 (a:Int),.int .i64 client,.int .i64 inc,.int .i64 req,.int .i64 ver,.string key,.int .i64 code] 29)) (.cells #[.string key,.int .i64 ver] 59);simpa using this)
 have HA0:Hid (RAt (fence bs W ((W.alloc (.cells #[.int .u8 2,.int .i64 (a:Int),.int .i64 client,.int .i64 inc,.int .i64 req,.int .i64 ver,.string key,.int .i64 code] 29)).alloc (.cells #[.string key,.int .i64 ver] 59))) ((W.alloc (.cells #[.int .u8 2,.int .i64 (a:Int),.int .i64 client,.int .i64 inc,.int .i64 req,.int .i64 ver,.string key,.int .i64 code] 29)).alloc (.cells #[.string key,.int .i64 ver] 59)) rb R):=(show RAt (fence bs W ((W.alloc (.cells #[.int .u8 2,.int .i64 (a:Int),.int .i64 client,.int .i64 inc,.int .i64 req,.int .i64 ver,.string key,.int .i64 code] 29)).alloc (.cells #[.string key,.int .i64 ver] 59))) ((W.alloc (.cells #[.int .u8 2,.int .i64 (a:Int),.int .i64 client,.int .i64 inc,.int .i64 req,.int .i64 ver,.string key,.int .i64 code] 29)).alloc (.cells #[.string key,.int .i64 ver] 59)) rb R from h.fence hg2)
 have HBS:Hid (∀w:World,((W.alloc (.cells #[.int .u8 2,.int .i64 (a:Int),.int .i64 client,.int .i64 inc,.int .i64 req,.int .i64 ver,.string key,.int .i64 code] 29)).alloc (.cells #[.string key,.int .i64 ver] 59)).heap.size≤w.heap.size→∀k,w.heap.size≤k→fence bs W ((W.alloc (.cells #[.int .u8 2,.int .i64 (a:Int),.int .i64 client,.int .i64 inc,.int .i64 req,.int .i64 ver,.string key,.int .i64 code] 29)).alloc (.cells #[.string key,.int .i64 ver] 59)) k):=(show ∀w:World,((W.alloc (.cells #[.int .u8 2,.int .i64 (a:Int),.int .i64 client,.int .i64 inc,.int .i64 req,.int .i64 ver,.string key,.int .i64 code] 29)).alloc (.cells #[.string key,.int .i64 ver] 59)).heap.size≤w.heap.size→∀k,w.heap.size≤k→fence bs W ((W.alloc (.cells #[.int .u8 2,.int .i64 (a:Int),.int .i64 client,.int .i64 inc,.int .i64 req,.int .i64 ver,.string key,.int .i64 code] 29)).alloc (.cells #[.string key,.int .i64 ver] 59)) k from fun w hw=>fence_new hbs hg2.size w hw)
 have hrb0:rb<W.heap.size:=h.lt
 have OK:=Lib.hid ok
 clear h hbs ok hg2
 simp only[encCmd]
 go_enter Tryz.func60,Tryz.ntmps60
 go_upto_region 6 with fail
 generalize (W.alloc (.cells #[.int .u8 2,.int .i64 (a:Int),.int .i64 client,.int .i64 inc,.int .i64 req,.int .i64 ver,.string key,.int .i64 code] 29)).alloc (.cells #[.string key,.int .i64 ver] 59)=W2 at *
 have HT0:Hid (Turn (fence bs W W2) W2 W2):=(show Turn (fence bs W W2) W2 W2 from turn_grown (grown_refl _))
 obtain⟨⟨d0,d1,d2,d3,d4,d5,d6,d7⟩,j0,j1,hw0,hw1⟩:=boxes HB0.out HB1.out HT0.out
 obtain⟨gL,capL,c4,f0,y0,hcl,hcm⟩:=HA0.out.live hal
 obtain⟨LV,hLV⟩:∃x,R.lives.getD a 0=x:=⟨_,rfl⟩
 rw[hLV] at f0
 have c2:=HA0.out.c2
 have hL:Hid (rlife R (a:Int)=R.lives.getD a 0):=(show _=_ from rfl)
 have hgL:gL<W2.heap.size:=cell_lt f0
 have hrbw:rb<W2.heap.size:=HA0.out.lt
 have q1:decide (LV<inc)=true:=by rw[←hLV];simpa using hA
 have q2:decide (inc≤R.offers)=true:=by simpa using hB
 have HH:=Lib.hid hA
 clear hA hLV
 have HH2:=Lib.hid hB
 clear hB
 go_quiet (fail)
 go_upto_region 7 with fail
 have HA1:=Lib.hid (HA0.out.grown (grown_drewN W2 nq))
 have HT1:Hid (Turn (fence bs W W2) W2 (W2.drewN nq)):=(show Turn (fence bs W W2) W2 (W2.drewN nq) from turn_grown (grown_drewN _ _))
 clear d0 d1 d2 d3 d4 d5 d6 d7 j0 j1 hw0 hw1
 clear c4 f0 y0 c2 hcl hcm hgL
 generalize W2.drewN nq=w3 at *
 obtain⟨⟨d0,d1,d2,d3,d4,d5,d6,d7⟩,j0,j1,hw0,hw1⟩:=boxes HB0.out HB1.out HT1.out
 obtain⟨gL2,capL2,c4,f0,y0,hcl,hcm,hset⟩:=HA1.out.setLive hal
 have HSET:=Lib.hid hset
 have hgL:gL2<w3.heap.size:=cell_lt f0
 clear hset
 go_still_tail 9,(by kernel_rfl)
 go_upto_region 36 with fail
 have hq:=HSET.out inc
 have HA2:Hid (RAt (fence bs W W2) (w3.drew.setCell ⟨gL2,a,none⟩ (.int .i64 inc)) rb { R with lives:=R.lives.set a inc }):=(show RAt (fence bs W W2) ((w3.setCell ⟨gL2,a,none⟩ (.int .i64 inc)).drew) rb { R with lives:=R.lives.set a inc } from hq.1.grown (grown_drew (grown_refl _)))
 have HT2:Hid (Turn (fence bs W W2) W2 (w3.drew.setCell ⟨gL2,a,none⟩ (.int .i64 inc))):=(show Turn (fence bs W W2) W2 ((w3.setCell ⟨gL2,a,none⟩ (.int .i64 inc)).drew) from turn_after (turn_trans HT1.out hq.2) (grown_drew (grown_refl _)))
 clear hq
 go_wp2_with (go_at_call 123;refine(rclean_any HA2.out (HBS.out _ HT2.out.size) (by have:=OK.out.nd;show ∀x∈R.holds,0≤x.node∧x.node<((R.lives.set a inc).length:Int);rw[List.length_set];exact this) (by have:=OK.out.lh;show R.holds.length≤_;omega) (by show(R.lives.set a inc).length≤_;rw[List.length_set];exact OK.out.ll)).mono ?_;rintro e wz ⟨rfl,hr,ht⟩;have HZ:=Lib.hid (fence_end HG2.out hr (turn_trans HT2.out ht));clear hr ht)
 first|go_end0|refine bodyPost_ret (results_none rfl _ _ _) rfl ?_
 refine⟨rfl,?_⟩
 have hZ:=HZ.out
 have e:rdo R ⟨2,(a:Int),client,inc,req,ver,key,code⟩=rclean { R with lives:=R.lives.set a inc }:=by
  have h:rlife R (a:Int)<inc∧inc≤R.offers:=by rw[hL.out];exact⟨HH.out,HH2.out⟩
  unfold rdo
  simp only[show ¬((2:Int)=1) by decide,if_false,if_true,if_pos h]
  rfl
 rw[e]
 exact hZ
end
section
variable {bs : Nat → Prop} {W : World} {rb : Nat} {R : RTab}
set_option maxHeartbeats 8000000 in
set_option maxRecDepth 100000 in
theorem rdo_3n (h:RAt bs W rb R) (hbs:∀k,W.heap.size≤k→bs k) (ok:ROk R) (node client inc req ver code:Int) (key:ByteArray) (hn0:0≤node) (hn1:node<(R.lives.length:Int)) (hB:rbeginsB R ⟨3,node,client,inc,req,ver,key,code⟩=false):Calls Tryz.prog 60 #[.pointer (some ⟨rb,0,none⟩),encCmd ⟨3,node,client,inc,req,ver,key,code⟩] W fun e w'=>e = .returned (.tuple #[])∧RAt bs w' rb (rdo R ⟨3,node,client,inc,req,ver,key,code⟩)∧Turn bs W w':=by
 obtain⟨a,rfl⟩:=Int.eq_ofNat_of_zero_le hn0
 have hal:a<R.lives.length:=by omega
 have hg2:W.grownBy ((W.alloc (.cells #[.int .u8 3,.int .i64 (a:Int),.int .i64 client,.int .i64 inc,.int .i64 req,.int .i64 ver,.string key,.int .i64 code] 29)).alloc (.cells #[.string key,.int .i64 ver] 59)) none:=grown_alloc (grown_alloc (grown_refl _) _) _
 have HG2:=Lib.hid hg2
 have HB0:Hid (((W.alloc (.cells #[.int .u8 3,.int .i64 (a:Int),.int .i64 client,.int .i64 inc,.int .i64 req,.int .i64 ver,.string key,.int .i64 code] 29)).alloc (.cells #[.string key,.int .i64 ver] 59)).heap[W.heap.size]? = some (.cells #[.int .u8 3,.int .i64 (a:Int),.int .i64 client,.int .i64 inc,.int .i64 req,.int .i64 ver,.string key,.int .i64 code] 29)):=(show((W.alloc (.cells #[.int .u8 3,.int .i64 (a:Int),.int .i64 client,.int .i64 inc,.int .i64 req,.int .i64 ver,.string key,.int .i64 code] 29)).alloc (.cells #[.string key,.int .i64 ver] 59)).heap[W.heap.size]? = some (.cells #[.int .u8 3,.int .i64 (a:Int),.int .i64 client,.int .i64 inc,.int .i64 req,.int .i64 ver,.string key,.int .i64 code] 29) from (alloc_oldG _ _ (by simp)).trans (heap_alloc_new _ _))
 have HB1:Hid (((W.alloc (.cells #[.int .u8 3,.int .i64 (a:Int),.int .i64 client,.int .i64 inc,.int .i64 req,.int .i64 ver,.string key,.int .i64 code] 29)).alloc (.cells #[.string key,.int .i64 ver] 59)).heap[W.heap.size+1]? = some (.cells #[.string key,.int .i64 ver] 59)):=(show((W.alloc (.cells #[.int .u8 3,.int .i64 (a:Int),.int .i64 client,.int .i64 inc,.int .i64 req,.int .i64 ver,.string key,.int .i64 code] 29)).alloc (.cells #[.string key,.int .i64 ver] 59)).heap[W.heap.size+1]? = some (.cells #[.string key,.int .i64 ver] 59) from by have:=heap_alloc_new (W.alloc (.cells #[.int .u8 3,.int .i64 (a:Int),.int .i64 client,.int .i64 inc,.int .i64 req,.int .i64 ver,.string key,.int .i64 code] 29)) (.cells #[.string key,.int .i64 ver] 59);simpa using this)
 have HA0:Hid (RAt (fence bs W ((W.alloc (.cells #[.int .u8 3,.int .i64 (a:Int),.int .i64 client,.int .i64 inc,.int .i64 req,.int .i64 ver,.string key,.int .i64 code] 29)).alloc (.cells #[.string key,.int .i64 ver] 59))) ((W.alloc (.cells #[.int .u8 3,.int .i64 (a:Int),.int .i64 client,.int .i64 inc,.int .i64 req,.int .i64 ver,.string key,.int .i64 code] 29)).alloc (.cells #[.string key,.int .i64 ver] 59)) rb R):=(show RAt (fence bs W ((W.alloc (.cells #[.int .u8 3,.int .i64 (a:Int),.int .i64 client,.int .i64 inc,.int .i64 req,.int .i64 ver,.string key,.int .i64 code] 29)).alloc (.cells #[.string key,.int .i64 ver] 59))) ((W.alloc (.cells #[.int .u8 3,.int .i64 (a:Int),.int .i64 client,.int .i64 inc,.int .i64 req,.int .i64 ver,.string key,.int .i64 code] 29)).alloc (.cells #[.string key,.int .i64 ver] 59)) rb R from h.fence hg2)
 have HBS:Hid (∀w:World,((W.alloc (.cells #[.int .u8 3,.int .i64 (a:Int),.int .i64 client,.int .i64 inc,.int .i64 req,.int .i64 ver,.string key,.int .i64 code] 29)).alloc (.cells #[.string key,.int .i64 ver] 59)).heap.size≤w.heap.size→∀k,w.heap.size≤k→fence bs W ((W.alloc (.cells #[.int .u8 3,.int .i64 (a:Int),.int .i64 client,.int .i64 inc,.int .i64 req,.int .i64 ver,.string key,.int .i64 code] 29)).alloc (.cells #[.string key,.int .i64 ver] 59)) k):=(show ∀w:World,((W.alloc (.cells #[.int .u8 3,.int .i64 (a:Int),.int .i64 client,.int .i64 inc,.int .i64 req,.int .i64 ver,.string key,.int .i64 code] 29)).alloc (.cells #[.string key,.int .i64 ver] 59)).heap.size≤w.heap.size→∀k,w.heap.size≤k→fence bs W ((W.alloc (.cells #[.int .u8 3,.int .i64 (a:Int),.int .i64 client,.int .i64 inc,.int .i64 req,.int .i64 ver,.string key,.int .i64 code] 29)).alloc (.cells #[.string key,.int .i64 ver] 59)) k from fun w hw=>fence_new hbs hg2.size w hw)
 have hrb0:rb<W.heap.size:=h.lt
 have OK:=Lib.hid ok
 clear h hbs ok hg2
 simp only[encCmd]
 go_enter Tryz.func60,Tryz.ntmps60
 go_upto_region 9 with fail
 generalize (W.alloc (.cells #[.int .u8 3,.int .i64 (a:Int),.int .i64 client,.int .i64 inc,.int .i64 req,.int .i64 ver,.string key,.int .i64 code] 29)).alloc (.cells #[.string key,.int .i64 ver] 59)=W2 at *
 have HT0:Hid (Turn (fence bs W W2) W2 W2):=(show Turn (fence bs W W2) W2 W2 from turn_grown (grown_refl _))
 obtain⟨⟨d0,d1,d2,d3,d4,d5,d6,d7⟩,j0,j1,hw0,hw1⟩:=boxes HB0.out HB1.out HT0.out
 have HBG:=Lib.hid (rbegins_any HA0.out (HBS.out _ (Nat.le_refl _)) ⟨3,(a:Int),client,inc,req,ver,key,code⟩ (by have:=OK.out.lp;omega))
 simp only[encCmd] at HBG
 rw[hB] at HBG
 have HTT:Hid (rbegunT R ⟨3,(a:Int),client,inc,req,ver,key,code⟩=R):=(show rbegunT R ⟨3,(a:Int),client,inc,req,ver,key,code⟩=R from by unfold rbegunT;rw[hB];rfl)
 have HBB:=Lib.hid hB
 have x0:=OK.out.x0
 have x1:=OK.out.x1
 clear hB
 go_upto_region 36 with (go_at_call 113;refine HBG.out.mono ?_;rintro e w1 ⟨rfl,hr,ht⟩;rw[HTT.out] at hr;clear d0 d1 d2 d3 d4 d5 d6 d7 j0 j1 hw0 hw1;have HA1:=Lib.hid hr;have HT1:=Lib.hid ht;clear hr ht;obtain⟨⟨d0,d1,d2,d3,d4,d5,d6,d7⟩,j0,j1,hw0,hw1⟩:=boxes HB0.out HB1.out HT1.out)
 go_wp2_with (go_at_call 123;refine(rclean_any HA1.out (HBS.out _ HT1.out.size) (by exact OK.out.nd) (by have:=OK.out.lh;omega) (by exact OK.out.ll)).mono ?_;rintro e wz ⟨rfl,hr,ht⟩;have HZ:=Lib.hid (fence_end HG2.out hr (turn_trans HT1.out ht));clear hr ht)
 first|go_end0|refine bodyPost_ret (results_none rfl _ _ _) rfl ?_
 refine⟨rfl,?_⟩
 have hZ:=HZ.out
 have e:rdo R ⟨3,(a:Int),client,inc,req,ver,key,code⟩=rclean R:=by unfold rdo;simp[HBB.out]
 rw[e]
 exact hZ
set_option maxHeartbeats 8000000 in
set_option maxRecDepth 100000 in
theorem rdo_6n (h:RAt bs W rb R) (hbs:∀k,W.heap.size≤k→bs k) (ok:ROk R) (node client inc req ver code:Int) (key:ByteArray) (hn0:0≤node) (hn1:node<(R.lives.length:Int)) (hB:rbeginsB R ⟨6,node,client,inc,req,ver,key,code⟩=false):Calls Tryz.prog 60 #[.pointer (some ⟨rb,0,none⟩),encCmd ⟨6,node,client,inc,req,ver,key,code⟩] W fun e w'=>e = .returned (.tuple #[])∧RAt bs w' rb (rdo R ⟨6,node,client,inc,req,ver,key,code⟩)∧Turn bs W w':=by
 obtain⟨a,rfl⟩:=Int.eq_ofNat_of_zero_le hn0
 have hal:a<R.lives.length:=by omega
 have hg2:W.grownBy ((W.alloc (.cells #[.int .u8 6,.int .i64 (a:Int),.int .i64 client,.int .i64 inc,.int .i64 req,.int .i64 ver,.string key,.int .i64 code] 29)).alloc (.cells #[.string key,.int .i64 ver] 59)) none:=grown_alloc (grown_alloc (grown_refl _) _) _
 have HG2:=Lib.hid hg2
 have HB0:Hid (((W.alloc (.cells #[.int .u8 6,.int .i64 (a:Int),.int .i64 client,.int .i64 inc,.int .i64 req,.int .i64 ver,.string key,.int .i64 code] 29)).alloc (.cells #[.string key,.int .i64 ver] 59)).heap[W.heap.size]? = some (.cells #[.int .u8 6,.int .i64 (a:Int),.int .i64 client,.int .i64 inc,.int .i64 req,.int .i64 ver,.string key,.int .i64 code] 29)):=(show((W.alloc (.cells #[.int .u8 6,.int .i64 (a:Int),.int .i64 client,.int .i64 inc,.int .i64 req,.int .i64 ver,.string key,.int .i64 code] 29)).alloc (.cells #[.string key,.int .i64 ver] 59)).heap[W.heap.size]? = some (.cells #[.int .u8 6,.int .i64 (a:Int),.int .i64 client,.int .i64 inc,.int .i64 req,.int .i64 ver,.string key,.int .i64 code] 29) from (alloc_oldG _ _ (by simp)).trans (heap_alloc_new _ _))
 have HB1:Hid (((W.alloc (.cells #[.int .u8 6,.int .i64 (a:Int),.int .i64 client,.int .i64 inc,.int .i64 req,.int .i64 ver,.string key,.int .i64 code] 29)).alloc (.cells #[.string key,.int .i64 ver] 59)).heap[W.heap.size+1]? = some (.cells #[.string key,.int .i64 ver] 59)):=(show((W.alloc (.cells #[.int .u8 6,.int .i64 (a:Int),.int .i64 client,.int .i64 inc,.int .i64 req,.int .i64 ver,.string key,.int .i64 code] 29)).alloc (.cells #[.string key,.int .i64 ver] 59)).heap[W.heap.size+1]? = some (.cells #[.string key,.int .i64 ver] 59) from by have:=heap_alloc_new (W.alloc (.cells #[.int .u8 6,.int .i64 (a:Int),.int .i64 client,.int .i64 inc,.int .i64 req,.int .i64 ver,.string key,.int .i64 code] 29)) (.cells #[.string key,.int .i64 ver] 59);simpa using this)
 have HA0:Hid (RAt (fence bs W ((W.alloc (.cells #[.int .u8 6,.int .i64 (a:Int),.int .i64 client,.int .i64 inc,.int .i64 req,.int .i64 ver,.string key,.int .i64 code] 29)).alloc (.cells #[.string key,.int .i64 ver] 59))) ((W.alloc (.cells #[.int .u8 6,.int .i64 (a:Int),.int .i64 client,.int .i64 inc,.int .i64 req,.int .i64 ver,.string key,.int .i64 code] 29)).alloc (.cells #[.string key,.int .i64 ver] 59)) rb R):=(show RAt (fence bs W ((W.alloc (.cells #[.int .u8 6,.int .i64 (a:Int),.int .i64 client,.int .i64 inc,.int .i64 req,.int .i64 ver,.string key,.int .i64 code] 29)).alloc (.cells #[.string key,.int .i64 ver] 59))) ((W.alloc (.cells #[.int .u8 6,.int .i64 (a:Int),.int .i64 client,.int .i64 inc,.int .i64 req,.int .i64 ver,.string key,.int .i64 code] 29)).alloc (.cells #[.string key,.int .i64 ver] 59)) rb R from h.fence hg2)
 have HBS:Hid (∀w:World,((W.alloc (.cells #[.int .u8 6,.int .i64 (a:Int),.int .i64 client,.int .i64 inc,.int .i64 req,.int .i64 ver,.string key,.int .i64 code] 29)).alloc (.cells #[.string key,.int .i64 ver] 59)).heap.size≤w.heap.size→∀k,w.heap.size≤k→fence bs W ((W.alloc (.cells #[.int .u8 6,.int .i64 (a:Int),.int .i64 client,.int .i64 inc,.int .i64 req,.int .i64 ver,.string key,.int .i64 code] 29)).alloc (.cells #[.string key,.int .i64 ver] 59)) k):=(show ∀w:World,((W.alloc (.cells #[.int .u8 6,.int .i64 (a:Int),.int .i64 client,.int .i64 inc,.int .i64 req,.int .i64 ver,.string key,.int .i64 code] 29)).alloc (.cells #[.string key,.int .i64 ver] 59)).heap.size≤w.heap.size→∀k,w.heap.size≤k→fence bs W ((W.alloc (.cells #[.int .u8 6,.int .i64 (a:Int),.int .i64 client,.int .i64 inc,.int .i64 req,.int .i64 ver,.string key,.int .i64 code] 29)).alloc (.cells #[.string key,.int .i64 ver] 59)) k from fun w hw=>fence_new hbs hg2.size w hw)
 have hrb0:rb<W.heap.size:=h.lt
 have OK:=Lib.hid ok
 clear h hbs ok hg2
 simp only[encCmd]
 go_enter Tryz.func60,Tryz.ntmps60
 go_upto_region 29 with fail
 generalize (W.alloc (.cells #[.int .u8 6,.int .i64 (a:Int),.int .i64 client,.int .i64 inc,.int .i64 req,.int .i64 ver,.string key,.int .i64 code] 29)).alloc (.cells #[.string key,.int .i64 ver] 59)=W2 at *
 have HT0:Hid (Turn (fence bs W W2) W2 W2):=(show Turn (fence bs W W2) W2 W2 from turn_grown (grown_refl _))
 obtain⟨⟨d0,d1,d2,d3,d4,d5,d6,d7⟩,j0,j1,hw0,hw1⟩:=boxes HB0.out HB1.out HT0.out
 have HBG:=Lib.hid (rbegins_any HA0.out (HBS.out _ (Nat.le_refl _)) ⟨6,(a:Int),client,inc,req,ver,key,code⟩ (by have:=OK.out.lp;omega))
 simp only[encCmd] at HBG
 rw[hB] at HBG
 have HTT:Hid (rbegunT R ⟨6,(a:Int),client,inc,req,ver,key,code⟩=R):=(show rbegunT R ⟨6,(a:Int),client,inc,req,ver,key,code⟩=R from by unfold rbegunT;rw[hB];rfl)
 have HBB:=Lib.hid hB
 have x0:=OK.out.x0
 have x1:=OK.out.x1
 clear hB
 go_upto_region 36 with (go_at_call 113;refine HBG.out.mono ?_;rintro e w1 ⟨rfl,hr,ht⟩;rw[HTT.out] at hr;clear d0 d1 d2 d3 d4 d5 d6 d7 j0 j1 hw0 hw1;have HA1:=Lib.hid hr;have HT1:=Lib.hid ht;clear hr ht;obtain⟨⟨d0,d1,d2,d3,d4,d5,d6,d7⟩,j0,j1,hw0,hw1⟩:=boxes HB0.out HB1.out HT1.out)
 go_wp2_with (go_at_call 123;refine(rclean_any HA1.out (HBS.out _ HT1.out.size) (by exact OK.out.nd) (by have:=OK.out.lh;omega) (by exact OK.out.ll)).mono ?_;rintro e wz ⟨rfl,hr,ht⟩;have HZ:=Lib.hid (fence_end HG2.out hr (turn_trans HT1.out ht));clear hr ht)
 first|go_end0|refine bodyPost_ret (results_none rfl _ _ _) rfl ?_
 refine⟨rfl,?_⟩
 have hZ:=HZ.out
 have e:rdo R ⟨6,(a:Int),client,inc,req,ver,key,code⟩=rclean R:=by unfold rdo;simp[HBB.out]
 rw[e]
 exact hZ
end
end Go.Proofs.YtjfelfjobeeenaaGreat
