/- The document's Do at some kinds: the walks. Conditions: a table that lies in memory, its numbers within bounds. -/
import Derived.Test.YtjfelfjobeeenaaGreatP18
import Derived.Deep.DeepCutAuto
namespace Go.Proofs.YtjfelfjobeeenaaGreat
set_option linter.unusedVariables false
set_option linter.unusedSimpArgs false
open Go.RowKit Go.Sf Go.Shelf
section
variable {bs : Nat → Prop} {W : World} {rb : Nat} {R : RTab}
set_option maxHeartbeats 8000000 in
set_option maxRecDepth 100000 in
theorem rdo_1 (h:RAt bs W rb R) (hbs:∀k,W.heap.size≤k→bs k) (ok:ROk R) (node client inc req ver code:Int) (key:ByteArray) (hn0:0≤node) (hn1:node<(R.lives.length:Int)):Calls Tryz.prog 60 #[.pointer (some ⟨rb,0,none⟩),encCmd ⟨1,node,client,inc,req,ver,key,code⟩] W fun e w'=>e = .returned (.tuple #[])∧RAt bs w' rb (rdo R ⟨1,node,client,inc,req,ver,key,code⟩)∧Turn bs W w':=by
 obtain⟨a,rfl⟩:=Int.eq_ofNat_of_zero_le hn0
 have hal:a<R.lives.length:=by omega
 have hg2:W.grownBy ((W.alloc (.cells #[.int .u8 1,.int .i64 (a:Int),.int .i64 client,.int .i64 inc,.int .i64 req,.int .i64 ver,.string key,.int .i64 code] 29)).alloc (.cells #[.string key,.int .i64 ver] 59)) none:=grown_alloc (grown_alloc (grown_refl _) _) _
 have HG2:=Lib.hid hg2
 have HB0:Hid (((W.alloc (.cells #[.int .u8 1,.int .i64 (a:Int),.int .i64 client,.int .i64 inc,.int .i64 req,.int .i64 ver,.string key,.int .i64 code] 29)).alloc (.cells #[.string key,.int .i64 ver] 59)).heap[W.heap.size]? = some (.cells #[.int .u8 1,.int .i64 (a:Int),.int .i64 client,.int .i64 inc,.int .i64 req,.int .i64 ver,.string key,.int .i64 code] 29)):=(show((W.alloc (.cells #[.int .u8 1,.int .i64 (a:Int),.int .i64 client,.int .i64 inc,.int .i64 req,.int .i64 ver,.string key,.int .i64 code] 29)).alloc (.cells #[.string key,.int .i64 ver] 59)).heap[W.heap.size]? = some (.cells #[.int .u8 1,.int .i64 (a:Int),.int .i64 client,.int .i64 inc,.int .i64 req,.int .i64 ver,.string key,.int .i64 code] 29) from (alloc_oldG _ _ (by simp)).trans (heap_alloc_new _ _))
 have HB1:Hid (((W.alloc (.cells #[.int .u8 1,.int .i64 (a:Int),.int .i64 client,.int .i64 inc,.int .i64 req,.int .i64 ver,.string key,.int .i64 code] 29)).alloc (.cells #[.string key,.int .i64 ver] 59)).heap[W.heap.size+1]? = some (.cells #[.string key,.int .i64 ver] 59)):=(show((W.alloc (.cells #[.int .u8 1,.int .i64 (a:Int),.int .i64 client,.int .i64 inc,.int .i64 req,.int .i64 ver,.string key,.int .i64 code] 29)).alloc (.cells #[.string key,.int .i64 ver] 59)).heap[W.heap.size+1]? = some (.cells #[.string key,.int .i64 ver] 59) from by have:=heap_alloc_new (W.alloc (.cells #[.int .u8 1,.int .i64 (a:Int),.int .i64 client,.int .i64 inc,.int .i64 req,.int .i64 ver,.string key,.int .i64 code] 29)) (.cells #[.string key,.int .i64 ver] 59);simpa using this)
 have HA0:Hid (RAt (fence bs W ((W.alloc (.cells #[.int .u8 1,.int .i64 (a:Int),.int .i64 client,.int .i64 inc,.int .i64 req,.int .i64 ver,.string key,.int .i64 code] 29)).alloc (.cells #[.string key,.int .i64 ver] 59))) ((W.alloc (.cells #[.int .u8 1,.int .i64 (a:Int),.int .i64 client,.int .i64 inc,.int .i64 req,.int .i64 ver,.string key,.int .i64 code] 29)).alloc (.cells #[.string key,.int .i64 ver] 59)) rb R):=(show RAt (fence bs W ((W.alloc (.cells #[.int .u8 1,.int .i64 (a:Int),.int .i64 client,.int .i64 inc,.int .i64 req,.int .i64 ver,.string key,.int .i64 code] 29)).alloc (.cells #[.string key,.int .i64 ver] 59))) ((W.alloc (.cells #[.int .u8 1,.int .i64 (a:Int),.int .i64 client,.int .i64 inc,.int .i64 req,.int .i64 ver,.string key,.int .i64 code] 29)).alloc (.cells #[.string key,.int .i64 ver] 59)) rb R from h.fence hg2)
 have HBS:Hid (∀w:World,((W.alloc (.cells #[.int .u8 1,.int .i64 (a:Int),.int .i64 client,.int .i64 inc,.int .i64 req,.int .i64 ver,.string key,.int .i64 code] 29)).alloc (.cells #[.string key,.int .i64 ver] 59)).heap.size≤w.heap.size→∀k,w.heap.size≤k→fence bs W ((W.alloc (.cells #[.int .u8 1,.int .i64 (a:Int),.int .i64 client,.int .i64 inc,.int .i64 req,.int .i64 ver,.string key,.int .i64 code] 29)).alloc (.cells #[.string key,.int .i64 ver] 59)) k):=(show ∀w:World,((W.alloc (.cells #[.int .u8 1,.int .i64 (a:Int),.int .i64 client,.int .i64 inc,.int .i64 req,.int .i64 ver,.string key,.int .i64 code] 29)).alloc (.cells #[.string key,.int .i64 ver] 59)).heap.size≤w.heap.size→∀k,w.heap.size≤k→fence bs W ((W.alloc (.cells #[.int .u8 1,.int .i64 (a:Int),.int .i64 client,.int .i64 inc,.int .i64 req,.int .i64 ver,.string key,.int .i64 code] 29)).alloc (.cells #[.string key,.int .i64 ver] 59)) k from fun w hw=>fence_new hbs hg2.size w hw)
 have hrb0:rb<W.heap.size:=h.lt
 have OK:=Lib.hid ok
 clear h hbs ok hg2
 simp only[encCmd]
 go_enter Tryz.func60,Tryz.ntmps60
 go_upto_region 4 with fail
 generalize (W.alloc (.cells #[.int .u8 1,.int .i64 (a:Int),.int .i64 client,.int .i64 inc,.int .i64 req,.int .i64 ver,.string key,.int .i64 code] 29)).alloc (.cells #[.string key,.int .i64 ver] 59)=W2 at *
 have HT0:Hid (Turn (fence bs W W2) W2 W2):=(show Turn (fence bs W W2) W2 W2 from turn_grown (grown_refl _))
 have c2:=HA0.out.c2
 have z2:=HA0.out.free 2
 have o0:=OK.out.o0
 have o1:=OK.out.o1
 go_upto_region 36 with fail
 obtain⟨hq1,hq2⟩:=HA0.out.setOff (R.offers+1)
 have HA1:=Lib.hid hq1
 have HT1:=Lib.hid hq2
 clear hq1 hq2 c2 z2
 go_wp2_with (go_at_call 123;refine(rclean_any HA1.out (HBS.out _ HT1.out.size) (by exact OK.out.nd) (by have:=OK.out.lh;show R.holds.length≤_;omega) (by exact OK.out.ll)).mono ?_;rintro e wz ⟨rfl,hr,ht⟩;have HZ:=Lib.hid (fence_end HG2.out hr (turn_trans HT1.out ht));clear hr ht)
 first|go_end0|refine bodyPost_ret (results_none rfl _ _ _) rfl ?_
 refine⟨rfl,?_⟩
 have hZ:=HZ.out
 exact hZ
set_option maxHeartbeats 8000000 in
set_option maxRecDepth 100000 in
theorem rdo_7y (h:RAt bs W rb R) (hbs:∀k,W.heap.size≤k→bs k) (ok:ROk R) (node client inc req ver code:Int) (key:ByteArray) (hn0:0≤node) (hn1:node<(R.lives.length:Int)) (hB:rbeginsB R ⟨7,node,client,inc,req,ver,key,code⟩=true):Calls Tryz.prog 60 #[.pointer (some ⟨rb,0,none⟩),encCmd ⟨7,node,client,inc,req,ver,key,code⟩] W fun e w'=>e = .returned (.tuple #[])∧RAt bs w' rb (rdo R ⟨7,node,client,inc,req,ver,key,code⟩)∧Turn bs W w':=by
 obtain⟨a,rfl⟩:=Int.eq_ofNat_of_zero_le hn0
 have hal:a<R.lives.length:=by omega
 have hg2:W.grownBy ((W.alloc (.cells #[.int .u8 7,.int .i64 (a:Int),.int .i64 client,.int .i64 inc,.int .i64 req,.int .i64 ver,.string key,.int .i64 code] 29)).alloc (.cells #[.string key,.int .i64 ver] 59)) none:=grown_alloc (grown_alloc (grown_refl _) _) _
 have HG2:=Lib.hid hg2
 have HB0:Hid (((W.alloc (.cells #[.int .u8 7,.int .i64 (a:Int),.int .i64 client,.int .i64 inc,.int .i64 req,.int .i64 ver,.string key,.int .i64 code] 29)).alloc (.cells #[.string key,.int .i64 ver] 59)).heap[W.heap.size]? = some (.cells #[.int .u8 7,.int .i64 (a:Int),.int .i64 client,.int .i64 inc,.int .i64 req,.int .i64 ver,.string key,.int .i64 code] 29)):=(show((W.alloc (.cells #[.int .u8 7,.int .i64 (a:Int),.int .i64 client,.int .i64 inc,.int .i64 req,.int .i64 ver,.string key,.int .i64 code] 29)).alloc (.cells #[.string key,.int .i64 ver] 59)).heap[W.heap.size]? = some (.cells #[.int .u8 7,.int .i64 (a:Int),.int .i64 client,.int .i64 inc,.int .i64 req,.int .i64 ver,.string key,.int .i64 code] 29) from (alloc_oldG _ _ (by simp)).trans (heap_alloc_new _ _))
 have HB1:Hid (((W.alloc (.cells #[.int .u8 7,.int .i64 (a:Int),.int .i64 client,.int .i64 inc,.int .i64 req,.int .i64 ver,.string key,.int .i64 code] 29)).alloc (.cells #[.string key,.int .i64 ver] 59)).heap[W.heap.size+1]? = some (.cells #[.string key,.int .i64 ver] 59)):=(show((W.alloc (.cells #[.int .u8 7,.int .i64 (a:Int),.int .i64 client,.int .i64 inc,.int .i64 req,.int .i64 ver,.string key,.int .i64 code] 29)).alloc (.cells #[.string key,.int .i64 ver] 59)).heap[W.heap.size+1]? = some (.cells #[.string key,.int .i64 ver] 59) from by have:=heap_alloc_new (W.alloc (.cells #[.int .u8 7,.int .i64 (a:Int),.int .i64 client,.int .i64 inc,.int .i64 req,.int .i64 ver,.string key,.int .i64 code] 29)) (.cells #[.string key,.int .i64 ver] 59);simpa using this)
 have HA0:Hid (RAt (fence bs W ((W.alloc (.cells #[.int .u8 7,.int .i64 (a:Int),.int .i64 client,.int .i64 inc,.int .i64 req,.int .i64 ver,.string key,.int .i64 code] 29)).alloc (.cells #[.string key,.int .i64 ver] 59))) ((W.alloc (.cells #[.int .u8 7,.int .i64 (a:Int),.int .i64 client,.int .i64 inc,.int .i64 req,.int .i64 ver,.string key,.int .i64 code] 29)).alloc (.cells #[.string key,.int .i64 ver] 59)) rb R):=(show RAt (fence bs W ((W.alloc (.cells #[.int .u8 7,.int .i64 (a:Int),.int .i64 client,.int .i64 inc,.int .i64 req,.int .i64 ver,.string key,.int .i64 code] 29)).alloc (.cells #[.string key,.int .i64 ver] 59))) ((W.alloc (.cells #[.int .u8 7,.int .i64 (a:Int),.int .i64 client,.int .i64 inc,.int .i64 req,.int .i64 ver,.string key,.int .i64 code] 29)).alloc (.cells #[.string key,.int .i64 ver] 59)) rb R from h.fence hg2)
 have HBS:Hid (∀w:World,((W.alloc (.cells #[.int .u8 7,.int .i64 (a:Int),.int .i64 client,.int .i64 inc,.int .i64 req,.int .i64 ver,.string key,.int .i64 code] 29)).alloc (.cells #[.string key,.int .i64 ver] 59)).heap.size≤w.heap.size→∀k,w.heap.size≤k→fence bs W ((W.alloc (.cells #[.int .u8 7,.int .i64 (a:Int),.int .i64 client,.int .i64 inc,.int .i64 req,.int .i64 ver,.string key,.int .i64 code] 29)).alloc (.cells #[.string key,.int .i64 ver] 59)) k):=(show ∀w:World,((W.alloc (.cells #[.int .u8 7,.int .i64 (a:Int),.int .i64 client,.int .i64 inc,.int .i64 req,.int .i64 ver,.string key,.int .i64 code] 29)).alloc (.cells #[.string key,.int .i64 ver] 59)).heap.size≤w.heap.size→∀k,w.heap.size≤k→fence bs W ((W.alloc (.cells #[.int .u8 7,.int .i64 (a:Int),.int .i64 client,.int .i64 inc,.int .i64 req,.int .i64 ver,.string key,.int .i64 code] 29)).alloc (.cells #[.string key,.int .i64 ver] 59)) k from fun w hw=>fence_new hbs hg2.size w hw)
 have hrb0:rb<W.heap.size:=h.lt
 have OK:=Lib.hid ok
 clear h hbs ok hg2
 simp only[encCmd]
 go_enter Tryz.func60,Tryz.ntmps60
 go_upto_region 34 with fail
 generalize (W.alloc (.cells #[.int .u8 7,.int .i64 (a:Int),.int .i64 client,.int .i64 inc,.int .i64 req,.int .i64 ver,.string key,.int .i64 code] 29)).alloc (.cells #[.string key,.int .i64 ver] 59)=W2 at *
 have HT0:Hid (Turn (fence bs W W2) W2 W2):=(show Turn (fence bs W W2) W2 W2 from turn_grown (grown_refl _))
 obtain⟨⟨d0,d1,d2,d3,d4,d5,d6,d7⟩,j0,j1,hw0,hw1⟩:=boxes HB0.out HB1.out HT0.out
 have HBG:=Lib.hid (rbegins_any HA0.out (HBS.out _ (Nat.le_refl _)) ⟨7,(a:Int),client,inc,req,ver,key,code⟩ (by have:=OK.out.lp;omega))
 simp only[encCmd] at HBG
 rw[hB] at HBG
 have HTT:Hid (rbegunT R ⟨7,(a:Int),client,inc,req,ver,key,code⟩=rbegun R ⟨7,(a:Int),client,inc,req,ver,key,code⟩):=(show rbegunT R ⟨7,(a:Int),client,inc,req,ver,key,code⟩=rbegun R ⟨7,(a:Int),client,inc,req,ver,key,code⟩ from by unfold rbegunT;rw[hB];rfl)
 have HBB:=Lib.hid hB
 clear hB
 go_upto_region 36 with (first
  | (go_at_call 113;refine HBG.out.mono ?_;rintro e w1 ⟨rfl,hr,ht⟩;rw[HTT.out] at hr;clear d0 d1 d2 d3 d4 d5 d6 d7 j0 j1 hw0 hw1;have HA1:=Lib.hid hr;have HT1:=Lib.hid ht;clear hr ht;obtain⟨⟨d0,d1,d2,d3,d4,d5,d6,d7⟩,j0,j1,hw0,hw1⟩:=boxes HB0.out HB1.out HT1.out)
  | (go_at_call 114;refine(rput_call HA1.out (HBS.out _ HT1.out.size) client ⟨req,0,true,code⟩ (by have:=OK.out.lc;show R.calls.length≤_;omega)).mono ?_;rintro e w2 ⟨rfl,hr,ht⟩;clear d0 d1 d2 d3 d4 d5 d6 d7 j0 j1 hw0 hw1;have HA2:=Lib.hid hr;have HT2:=Lib.hid (turn_trans HT1.out ht);clear hr ht))
 go_wp2_with (go_at_call 123;refine(rclean_any HA2.out (HBS.out _ HT2.out.size) (by exact OK.out.nd) (by have:=OK.out.lh;show R.holds.length≤_;omega) (by exact OK.out.ll)).mono ?_;rintro e wz ⟨rfl,hr,ht⟩;have HZ:=Lib.hid (fence_end HG2.out hr (turn_trans HT2.out ht));clear hr ht)
 first|go_end0|refine bodyPost_ret (results_none rfl _ _ _) rfl ?_
 refine⟨rfl,?_⟩
 have hZ:=HZ.out
 have e:rdo R ⟨7,(a:Int),client,inc,req,ver,key,code⟩=rclean { rbegun R ⟨7,(a:Int),client,inc,req,ver,key,code⟩ with calls:=mput R.calls client ⟨req,0,true,code⟩ }:=by unfold rdo;simp[HBB.out]
 rw[e]
 exact hZ
set_option maxHeartbeats 8000000 in
set_option maxRecDepth 100000 in
theorem rdo_7n (h:RAt bs W rb R) (hbs:∀k,W.heap.size≤k→bs k) (ok:ROk R) (node client inc req ver code:Int) (key:ByteArray) (hn0:0≤node) (hn1:node<(R.lives.length:Int)) (hB:rbeginsB R ⟨7,node,client,inc,req,ver,key,code⟩=false):Calls Tryz.prog 60 #[.pointer (some ⟨rb,0,none⟩),encCmd ⟨7,node,client,inc,req,ver,key,code⟩] W fun e w'=>e = .returned (.tuple #[])∧RAt bs w' rb (rdo R ⟨7,node,client,inc,req,ver,key,code⟩)∧Turn bs W w':=by
 obtain⟨a,rfl⟩:=Int.eq_ofNat_of_zero_le hn0
 have hal:a<R.lives.length:=by omega
 have hg2:W.grownBy ((W.alloc (.cells #[.int .u8 7,.int .i64 (a:Int),.int .i64 client,.int .i64 inc,.int .i64 req,.int .i64 ver,.string key,.int .i64 code] 29)).alloc (.cells #[.string key,.int .i64 ver] 59)) none:=grown_alloc (grown_alloc (grown_refl _) _) _
 have HG2:=Lib.hid hg2
 have HB0:Hid (((W.alloc (.cells #[.int .u8 7,.int .i64 (a:Int),.int .i64 client,.int .i64 inc,.int .i64 req,.int .i64 ver,.string key,.int .i64 code] 29)).alloc (.cells #[.string key,.int .i64 ver] 59)).heap[W.heap.size]? = some (.cells #[.int .u8 7,.int .i64 (a:Int),.int .i64 client,.int .i64 inc,.int .i64 req,.int .i64 ver,.string key,.int .i64 code] 29)):=(show((W.alloc (.cells #[.int .u8 7,.int .i64 (a:Int),.int .i64 client,.int .i64 inc,.int .i64 req,.int .i64 ver,.string key,.int .i64 code] 29)).alloc (.cells #[.string key,.int .i64 ver] 59)).heap[W.heap.size]? = some (.cells #[.int .u8 7,.int .i64 (a:Int),.int .i64 client,.int .i64 inc,.int .i64 req,.int .i64 ver,.string key,.int .i64 code] 29) from (alloc_oldG _ _ (by simp)).trans (heap_alloc_new _ _))
 have HB1:Hid (((W.alloc (.cells #[.int .u8 7,.int .i64 (a:Int),.int .i64 client,.int .i64 inc,.int .i64 req,.int .i64 ver,.string key,.int .i64 code] 29)).alloc (.cells #[.string key,.int .i64 ver] 59)).heap[W.heap.size+1]? = some (.cells #[.string key,.int .i64 ver] 59)):=(show((W.alloc (.cells #[.int .u8 7,.int .i64 (a:Int),.int .i64 client,.int .i64 inc,.int .i64 req,.int .i64 ver,.string key,.int .i64 code] 29)).alloc (.cells #[.string key,.int .i64 ver] 59)).heap[W.heap.size+1]? = some (.cells #[.string key,.int .i64 ver] 59) from by have:=heap_alloc_new (W.alloc (.cells #[.int .u8 7,.int .i64 (a:Int),.int .i64 client,.int .i64 inc,.int .i64 req,.int .i64 ver,.string key,.int .i64 code] 29)) (.cells #[.string key,.int .i64 ver] 59);simpa using this)
 have HA0:Hid (RAt (fence bs W ((W.alloc (.cells #[.int .u8 7,.int .i64 (a:Int),.int .i64 client,.int .i64 inc,.int .i64 req,.int .i64 ver,.string key,.int .i64 code] 29)).alloc (.cells #[.string key,.int .i64 ver] 59))) ((W.alloc (.cells #[.int .u8 7,.int .i64 (a:Int),.int .i64 client,.int .i64 inc,.int .i64 req,.int .i64 ver,.string key,.int .i64 code] 29)).alloc (.cells #[.string key,.int .i64 ver] 59)) rb R):=(show RAt (fence bs W ((W.alloc (.cells #[.int .u8 7,.int .i64 (a:Int),.int .i64 client,.int .i64 inc,.int .i64 req,.int .i64 ver,.string key,.int .i64 code] 29)).alloc (.cells #[.string key,.int .i64 ver] 59))) ((W.alloc (.cells #[.int .u8 7,.int .i64 (a:Int),.int .i64 client,.int .i64 inc,.int .i64 req,.int .i64 ver,.string key,.int .i64 code] 29)).alloc (.cells #[.string key,.int .i64 ver] 59)) rb R from h.fence hg2)
 have HBS:Hid (∀w:World,((W.alloc (.cells #[.int .u8 7,.int .i64 (a:Int),.int .i64 client,.int .i64 inc,.int .i64 req,.int .i64 ver,.string key,.int .i64 code] 29)).alloc (.cells #[.string key,.int .i64 ver] 59)).heap.size≤w.heap.size→∀k,w.heap.size≤k→fence bs W ((W.alloc (.cells #[.int .u8 7,.int .i64 (a:Int),.int .i64 client,.int .i64 inc,.int .i64 req,.int .i64 ver,.string key,.int .i64 code] 29)).alloc (.cells #[.string key,.int .i64 ver] 59)) k):=(show ∀w:World,((W.alloc (.cells #[.int .u8 7,.int .i64 (a:Int),.int .i64 client,.int .i64 inc,.int .i64 req,.int .i64 ver,.string key,.int .i64 code] 29)).alloc (.cells #[.string key,.int .i64 ver] 59)).heap.size≤w.heap.size→∀k,w.heap.size≤k→fence bs W ((W.alloc (.cells #[.int .u8 7,.int .i64 (a:Int),.int .i64 client,.int .i64 inc,.int .i64 req,.int .i64 ver,.string key,.int .i64 code] 29)).alloc (.cells #[.string key,.int .i64 ver] 59)) k from fun w hw=>fence_new hbs hg2.size w hw)
 have hrb0:rb<W.heap.size:=h.lt
 have OK:=Lib.hid ok
 clear h hbs ok hg2
 simp only[encCmd]
 go_enter Tryz.func60,Tryz.ntmps60
 go_upto_region 34 with fail
 generalize (W.alloc (.cells #[.int .u8 7,.int .i64 (a:Int),.int .i64 client,.int .i64 inc,.int .i64 req,.int .i64 ver,.string key,.int .i64 code] 29)).alloc (.cells #[.string key,.int .i64 ver] 59)=W2 at *
 have HT0:Hid (Turn (fence bs W W2) W2 W2):=(show Turn (fence bs W W2) W2 W2 from turn_grown (grown_refl _))
 obtain⟨⟨d0,d1,d2,d3,d4,d5,d6,d7⟩,j0,j1,hw0,hw1⟩:=boxes HB0.out HB1.out HT0.out
 have HBG:=Lib.hid (rbegins_any HA0.out (HBS.out _ (Nat.le_refl _)) ⟨7,(a:Int),client,inc,req,ver,key,code⟩ (by have:=OK.out.lp;omega))
 simp only[encCmd] at HBG
 rw[hB] at HBG
 have HTT:Hid (rbegunT R ⟨7,(a:Int),client,inc,req,ver,key,code⟩=R):=(show rbegunT R ⟨7,(a:Int),client,inc,req,ver,key,code⟩=R from by unfold rbegunT;rw[hB];rfl)
 have HBB:=Lib.hid hB
 clear hB
 go_upto_region 36 with (go_at_call 113;refine HBG.out.mono ?_;rintro e w1 ⟨rfl,hr,ht⟩;rw[HTT.out] at hr;clear d0 d1 d2 d3 d4 d5 d6 d7 j0 j1 hw0 hw1;have HA1:=Lib.hid hr;have HT1:=Lib.hid ht;clear hr ht;obtain⟨⟨d0,d1,d2,d3,d4,d5,d6,d7⟩,j0,j1,hw0,hw1⟩:=boxes HB0.out HB1.out HT1.out)
 go_wp2_with (go_at_call 123;refine(rclean_any HA1.out (HBS.out _ HT1.out.size) (by exact OK.out.nd) (by have:=OK.out.lh;omega) (by exact OK.out.ll)).mono ?_;rintro e wz ⟨rfl,hr,ht⟩;have HZ:=Lib.hid (fence_end HG2.out hr (turn_trans HT1.out ht));clear hr ht)
 first|go_end0|refine bodyPost_ret (results_none rfl _ _ _) rfl ?_
 refine⟨rfl,?_⟩
 have hZ:=HZ.out
 have e:rdo R ⟨7,(a:Int),client,inc,req,ver,key,code⟩=rclean R:=by unfold rdo;simp[HBB.out]
 rw[e]
 exact hZ
end
end Go.Proofs.YtjfelfjobeeenaaGreat
