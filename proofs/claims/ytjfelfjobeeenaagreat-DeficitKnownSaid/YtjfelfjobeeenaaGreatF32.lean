/- The document's New: walked. Conditions: none. tells: what both tables answer, as the walk asks for it. Conditions: both tables lie in memory and go together. tells: the walk: both tables tell the same. Conditions: both tables lie in memory and go together. The document's Do at some kinds: the walks. Conditions: a table that lies in memory, its numbers within bounds. The document's Do at some kinds: the walks. Conditions: a table that lies in memory, its numbers within bounds. The document's Do at some kinds: the walks. Conditions: a table that lies in memory, its numbers within bounds. Short forms of the library's moves in a region that draws its order. Conditions: none. -/
import Derived.Test.YtjfelfjobeeenaaGreatF19
import Derived.Test.YtjfelfjobeeenaaGreatF8
import Derived.Test.YtjfelfjobeeenaaGreatF26
import Derived.Test.YtjfelfjobeeenaaGreatF31
import Derived.Test.YtjfelfjobeeenaaGreatF22
import Derived.Deep.RegionHeld3
import Derived.Deep.DeepCutAuto
import Derived.Test.YtjfelfjobeeenaaGreatProg
import Derived.WalkKit
set_option linter.unusedSimpArgs false
set_option linter.unusedVariables false
namespace Go.Proofs.YtjfelfjobeeenaaGreat
open Go.RowKit Go.Sf Go.Shelf
theorem flatI:∀l:List Int,l.flatMap cellsI=l.map (Value.int .i64)
 | []=>rfl
 | x :: r=>by simp only[List.flatMap_cons,List.map_cons,flatI r];rfl
theorem rnew_row (w:World) (N:Nat) (hN:N≤255):SRow (w.alloc (.cells (madeCells #[.int .i64 0] N) 2)) 2 1 cellsI (.slice (some ⟨w.heap.size,0,none⟩) N N) (List.replicate N (0:Int)):=by
 unfold SRow
 rw[List.length_replicate,flatI]
 refine⟨by simp,.inr ⟨w.heap.size,N,madeCells #[.int .i64 0] N,rfl,Nat.zero_le _,heap_alloc_new w _,Nat.le_refl _,by unfold maxLen;omega,by simp[madeCells],?_⟩⟩
 rw[made_cells]
 simp
theorem rnew_rep (w:World) (N:Nat) (wi:Int) (hN:N≤255) (bs:Nat→Prop) (hbs:∀k,w.heap.size≤k→bs k) :
  RAt bs ((w.alloc (.cells (madeCells #[.int .i64 0] N) 2)).alloc (.cells #[.int .i64 (N:Int),.int .i64 wi,.int .i64 0,.int .i64 1,.slice (some ⟨w.heap.size,0,none⟩) N N,.slice none 0 0,.slice none 0 0,.slice none 0 0,.slice none 0 0] 52)) (w.heap.size+1) (rnew N wi):=by
 have hr:=rnew_row w N hN
 have hl:(rnew N wi).lives=List.replicate N (0:Int):=rfl
 refine⟨.slice (some ⟨w.heap.size,0,none⟩) N N,.slice none 0 0,.slice none 0 0,.slice none 0 0,.slice none 0 0,⟨?_,?_,World.ownsRow_nil _ _ _ _,World.ownsRow_nil _ _ _ _,World.ownsRow_nil _ _ _ _,World.ownsRow_nil _ _ _ _⟩,hbs _ (by omega),fun g hg=>?_,fun g hg=>by simp[Value.ownBlock] at hg,fun g hg=>by simp[Value.ownBlock] at hg,fun g hg=>by simp[Value.ownBlock] at hg,fun g hg=>by simp[Value.ownBlock] at hg⟩
 ·have:=heap_alloc_new (w.alloc (.cells (madeCells #[.int .i64 0] N) 2)) (.cells #[.int .i64 (N:Int),.int .i64 wi,.int .i64 0,.int .i64 1,.slice (some ⟨w.heap.size,0,none⟩) N N,.slice none 0 0,.slice none 0 0,.slice none 0 0,.slice none 0 0] 52)
  simp only[World.size_alloc] at this
  exact this
 ·rw[hl]
  exact hr.grown (grown_alloc (grown_refl _) _) (by simp)
 ·simp only[Value.ownBlock,Option.some.injEq] at hg
  subst hg
  exact hbs _ (Nat.le_refl _)
theorem clampW_max (N:Nat) (w:Int) (h:1≤N):clampW N w=max 1 (min (N:Int) w):=by
 unfold clampW
 split
 ·omega
 ·split <;> omega
set_option maxHeartbeats 4000000 in
set_option maxRecDepth 100000 in
theorem rnew_any (nodes wi:Int) (N:Nat) (hN:(N:Int)=clampN nodes) (w:World) (bs:Nat→Prop) (hbs:∀k,w.heap.size≤k→bs k) :
  Calls Tryz.prog 38 #[.int .i64 nodes,.int .i64 wi] w fun e w'=>∃rb,e = .returned (.pointer (some ⟨rb,0,none⟩))∧RAt bs w' rb (rnew N (clampW N wi))∧w.grownBy w' none:=by
 have hN1:1≤N:=by unfold clampN at hN;split at hN <;> (try split at hN) <;> omega
 have hN2:N≤255:=by unfold clampN at hN;split at hN <;> (try split at hN) <;> omega
 have hmk:=run_make_row' (P:=Tryz.prog) 46 2 (.int .i64 0) 8 Tryz.underlying46 info_i64 rfl .i64 .i64 N (by omega) (by omega)
 have HN:=Lib.hid hN
 have HBS:=Lib.hid hbs
 clear hN hbs
 go_enter Tryz.func38,Tryz.ntmps38
 go_upto_region 1 with fail
 go_cut [5] (fun s wx=>s = .int .i64 N∧wx=w)
 case first=>
  clear hmk
  go_wp2
  all_goals (go_meet;refine⟨?_,rfl⟩;have:=HN.out;unfold clampN at this;congr 1;(repeat (split at this)) <;> omega)
 case rest=>
  obtain⟨rfl,rfl⟩:=hcut
  go_wp2
  all_goals
   go_ret
   refine⟨wc.heap.size+1,rfl,?_,by repeat (first|exact grown_refl _|exact World.grownBy_alloc _ _ _|refine grown_alloc ?_ _)⟩
   have h:=rnew_rep wc N (clampW N wi) hN2 bs HBS.out
   rw[clampW_max N wi hN1] at h ⊢
   exact h
open Go.RowKit Go.Sf Go.Shelf Go.Maps
structure Both (n k j:Nat) (L:Tab) (R:RTab):Prop where
 inv:Inv n k L
 sim:Sim L R
 rb:RB j R
theorem nodup_len {α:Type} [DecidableEq α]:∀(l1 l2:List α),l1.Nodup→(∀x∈l1,x∈l2)→l1.length≤l2.length
 | [],_,_,_=>Nat.zero_le _
 | a :: r,l2,hn,h=>by
  obtain⟨h1,h2⟩:=List.nodup_cons.1 hn
  have ha:=h a (by simp)
  have:=nodup_len r (l2.erase a) h2 (fun x hx=>(List.mem_erase_of_ne (by rintro rfl;exact h1 hx)).2 (h x (List.mem_cons_of_mem _ hx)))
  rw[List.length_erase_of_mem ha] at this
  have:=List.length_pos_of_mem ha
  simp only[List.length_cons]
  omega
section
variable {n k j : Nat} {L : Tab} {R : RTab}
end
section
variable {W : World} {tb rb : Nat} {L : Tab} {R : RTab}
end
section
variable {bs : Nat → Prop} {W : World} {rb : Nat} {R : RTab}
set_option maxHeartbeats 8000000 in
set_option maxRecDepth 100000 in
theorem rdo_1 (h:RAt bs W rb R) (hbs:∀k,W.heap.size≤k→bs k) (ok:ROk R) (node client inc req ver code:Int) (key:ByteArray) (hn0:0≤node) (hn1:node<(R.lives.length:Int)):Calls Tryz.prog 60 #[.pointer (some ⟨rb,0,none⟩),encCmd ⟨1,node,client,inc,req,ver,key,code⟩] W fun e w'=>e = .returned (.tuple #[])∧RAt bs w' rb (rdo R ⟨1,node,client,inc,req,ver,key,code⟩)∧Turn bs W w':=by
 obtain⟨a,rfl⟩:=Int.eq_ofNat_of_zero_le hn0
 have hal:a<R.lives.length:=by omega
 obtain⟨W2,hE⟩:∃W2,(W.alloc (.cells #[.int .u8 1,.int .i64 (a:Int),.int .i64 client,.int .i64 inc,.int .i64 req,.int .i64 ver,.string key,.int .i64 code] 29)).alloc (.cells #[.string key,.int .i64 ver] 59)=W2:=⟨_,rfl⟩
 obtain⟨HG2,HB0,HB1,HA0,HBS,HT0⟩:=rdo_set h hbs _ _ W2 hE
 have HE:=Lib.hid hE
 clear hE
 have hrb0:rb<W.heap.size:=h.lt
 have OK:=Lib.hid ok
 clear h hbs ok
 simp only[encCmd]
 go_enter Tryz.func60,Tryz.ntmps60
 go_upto_region 4 with fail
 rw[HE.out]
 clear HE
 have c2:=HA0.out.c2
 have z2:=HA0.out.free 2
 have o0:=OK.out.o0
 have o1:=OK.out.o1
 go_upto_region 36 with fail
 obtain⟨hq1,hq2⟩:=HA0.out.setOff (R.offers+1)
 have HA1:=Lib.hid hq1
 have HT1:=Lib.hid hq2
 clear hq1 hq2 c2 z2
 go_wp2_with (go_at_call 123;refine(rclean_any HA1.out (HBS.out _ HT1.out.size) (by exact OK.out.nd) (by have:=OK.out.lh;show R.holds.length≤_;omega) (by exact OK.out.ll)).mono ?_;rintro e wz ⟨rfl,hr,ht⟩;have HZ:=Lib.hid (fence_end HG2.out hr (turn_trans HT1.out ht));clear hr ht)
 first|go_end0|refine bodyPost_ret (results_none rfl _ _ _) rfl ?_
 refine⟨rfl,?_⟩
 have hZ:=HZ.out
 exact hZ
set_option maxHeartbeats 8000000 in
set_option maxRecDepth 100000 in
theorem rdo_7y (h:RAt bs W rb R) (hbs:∀k,W.heap.size≤k→bs k) (ok:ROk R) (node client inc req ver code:Int) (key:ByteArray) (hn0:0≤node) (hn1:node<(R.lives.length:Int)) (hB:rbeginsB R ⟨7,node,client,inc,req,ver,key,code⟩=true):Calls Tryz.prog 60 #[.pointer (some ⟨rb,0,none⟩),encCmd ⟨7,node,client,inc,req,ver,key,code⟩] W fun e w'=>e = .returned (.tuple #[])∧RAt bs w' rb (rdo R ⟨7,node,client,inc,req,ver,key,code⟩)∧Turn bs W w':=by
 obtain⟨a,rfl⟩:=Int.eq_ofNat_of_zero_le hn0
 have hal:a<R.lives.length:=by omega
 obtain⟨W2,hE⟩:∃W2,(W.alloc (.cells #[.int .u8 7,.int .i64 (a:Int),.int .i64 client,.int .i64 inc,.int .i64 req,.int .i64 ver,.string key,.int .i64 code] 29)).alloc (.cells #[.string key,.int .i64 ver] 59)=W2:=⟨_,rfl⟩
 obtain⟨HG2,HB0,HB1,HA0,HBS,HT0⟩:=rdo_set h hbs _ _ W2 hE
 have HE:=Lib.hid hE
 clear hE
 have hrb0:rb<W.heap.size:=h.lt
 have OK:=Lib.hid ok
 clear h hbs ok
 simp only[encCmd]
 go_enter Tryz.func60,Tryz.ntmps60
 go_upto_region 34 with fail
 rw[HE.out]
 clear HE
 obtain⟨⟨d0,d1,d2,d3,d4,d5,d6,d7⟩,j0,j1,hw0,hw1⟩:=boxes HB0.out HB1.out HT0.out
 have HBG:=Lib.hid (rbegins_any HA0.out (HBS.out _ (Nat.le_refl _)) ⟨7,(a:Int),client,inc,req,ver,key,code⟩ (by have:=OK.out.lp;omega))
 simp only[encCmd] at HBG
 rw[hB] at HBG
 have HTT:Hid (rbegunT R ⟨7,(a:Int),client,inc,req,ver,key,code⟩=rbegun R ⟨7,(a:Int),client,inc,req,ver,key,code⟩):=(show rbegunT R ⟨7,(a:Int),client,inc,req,ver,key,code⟩=rbegun R ⟨7,(a:Int),client,inc,req,ver,key,code⟩ from by unfold rbegunT;rw[hB];rfl)
 have HBB:=Lib.hid hB
 clear hB
 go_upto_region 36 with (first
  | (go_at_call 113;refine HBG.out.mono ?_;rintro e w1 ⟨rfl,hr,ht⟩;rw[HTT.out] at hr;clear d0 d1 d2 d3 d4 d5 d6 d7 j0 j1 hw0 hw1;have HA1:=Lib.hid hr;have HT1:=Lib.hid ht;clear hr ht;obtain⟨⟨d0,d1,d2,d3,d4,d5,d6,d7⟩,j0,j1,hw0,hw1⟩:=boxes HB0.out HB1.out HT1.out)
  | (go_at_call 114;refine(rput_call HA1.out (HBS.out _ HT1.out.size) client ⟨req,0,true,code⟩ (by have:=OK.out.lc;show R.calls.length≤_;omega)).mono ?_;rintro e w2 ⟨rfl,hr,ht⟩;clear d0 d1 d2 d3 d4 d5 d6 d7 j0 j1 hw0 hw1;have HA2:=Lib.hid hr;have HT2:=Lib.hid (turn_trans HT1.out ht);clear hr ht))
 go_wp2_with (go_at_call 123;refine(rclean_any HA2.out (HBS.out _ HT2.out.size) (by exact OK.out.nd) (by have:=OK.out.lh;show R.holds.length≤_;omega) (by exact OK.out.ll)).mono ?_;rintro e wz ⟨rfl,hr,ht⟩;have HZ:=Lib.hid (fence_end HG2.out hr (turn_trans HT2.out ht));clear hr ht)
 first|go_end0|refine bodyPost_ret (results_none rfl _ _ _) rfl ?_
 refine⟨rfl,?_⟩
 have hZ:=HZ.out
 have e:rdo R ⟨7,(a:Int),client,inc,req,ver,key,code⟩=rclean { rbegun R ⟨7,(a:Int),client,inc,req,ver,key,code⟩ with calls:=mput R.calls client ⟨req,0,true,code⟩ }:=by unfold rdo;simp[HBB.out]
 rw[e]
 exact hZ
set_option maxHeartbeats 8000000 in
set_option maxRecDepth 100000 in
theorem rdo_7n (h:RAt bs W rb R) (hbs:∀k,W.heap.size≤k→bs k) (ok:ROk R) (node client inc req ver code:Int) (key:ByteArray) (hn0:0≤node) (hn1:node<(R.lives.length:Int)) (hB:rbeginsB R ⟨7,node,client,inc,req,ver,key,code⟩=false):Calls Tryz.prog 60 #[.pointer (some ⟨rb,0,none⟩),encCmd ⟨7,node,client,inc,req,ver,key,code⟩] W fun e w'=>e = .returned (.tuple #[])∧RAt bs w' rb (rdo R ⟨7,node,client,inc,req,ver,key,code⟩)∧Turn bs W w':=by
 obtain⟨a,rfl⟩:=Int.eq_ofNat_of_zero_le hn0
 have hal:a<R.lives.length:=by omega
 obtain⟨W2,hE⟩:∃W2,(W.alloc (.cells #[.int .u8 7,.int .i64 (a:Int),.int .i64 client,.int .i64 inc,.int .i64 req,.int .i64 ver,.string key,.int .i64 code] 29)).alloc (.cells #[.string key,.int .i64 ver] 59)=W2:=⟨_,rfl⟩
 obtain⟨HG2,HB0,HB1,HA0,HBS,HT0⟩:=rdo_set h hbs _ _ W2 hE
 have HE:=Lib.hid hE
 clear hE
 have hrb0:rb<W.heap.size:=h.lt
 have OK:=Lib.hid ok
 clear h hbs ok
 simp only[encCmd]
 go_enter Tryz.func60,Tryz.ntmps60
 go_upto_region 34 with fail
 rw[HE.out]
 clear HE
 obtain⟨⟨d0,d1,d2,d3,d4,d5,d6,d7⟩,j0,j1,hw0,hw1⟩:=boxes HB0.out HB1.out HT0.out
 have HBG:=Lib.hid (rbegins_any HA0.out (HBS.out _ (Nat.le_refl _)) ⟨7,(a:Int),client,inc,req,ver,key,code⟩ (by have:=OK.out.lp;omega))
 simp only[encCmd] at HBG
 rw[hB] at HBG
 have HTT:Hid (rbegunT R ⟨7,(a:Int),client,inc,req,ver,key,code⟩=R):=(show rbegunT R ⟨7,(a:Int),client,inc,req,ver,key,code⟩=R from by unfold rbegunT;rw[hB];rfl)
 have HBB:=Lib.hid hB
 clear hB
 go_upto_region 36 with (go_at_call 113;refine HBG.out.mono ?_;rintro e w1 ⟨rfl,hr,ht⟩;rw[HTT.out] at hr;clear d0 d1 d2 d3 d4 d5 d6 d7 j0 j1 hw0 hw1;have HA1:=Lib.hid hr;have HT1:=Lib.hid ht;clear hr ht;obtain⟨⟨d0,d1,d2,d3,d4,d5,d6,d7⟩,j0,j1,hw0,hw1⟩:=boxes HB0.out HB1.out HT1.out)
 go_wp2_with (go_at_call 123;refine(rclean_any HA1.out (HBS.out _ HT1.out.size) (by exact OK.out.nd) (by have:=OK.out.lh;omega) (by exact OK.out.ll)).mono ?_;rintro e wz ⟨rfl,hr,ht⟩;have HZ:=Lib.hid (fence_end HG2.out hr (turn_trans HT1.out ht));clear hr ht)
 first|go_end0|refine bodyPost_ret (results_none rfl _ _ _) rfl ?_
 refine⟨rfl,?_⟩
 have hZ:=HZ.out
 have e:rdo R ⟨7,(a:Int),client,inc,req,ver,key,code⟩=rclean R:=by unfold rdo;simp[HBB.out]
 rw[e]
 exact hZ
end
section
variable {bs : Nat → Prop} {W : World} {rb : Nat} {R : RTab}
set_option maxHeartbeats 8000000 in
set_option maxRecDepth 100000 in
theorem rdo_2A (h:RAt bs W rb R) (hbs:∀k,W.heap.size≤k→bs k) (ok:ROk R) (node client inc req ver code:Int) (key:ByteArray) (hn0:0≤node) (hn1:node<(R.lives.length:Int)) (hA:inc≤R.lives.getD node.toNat 0):Calls Tryz.prog 60 #[.pointer (some ⟨rb,0,none⟩),encCmd ⟨2,node,client,inc,req,ver,key,code⟩] W fun e w'=>e = .returned (.tuple #[])∧RAt bs w' rb (rdo R ⟨2,node,client,inc,req,ver,key,code⟩)∧Turn bs W w':=by
 obtain⟨a,rfl⟩:=Int.eq_ofNat_of_zero_le hn0
 have hal:a<R.lives.length:=by omega
 have hat:((a:Nat):Int).toNat=a:=rfl
 rw[hat] at hA
 clear hat
 obtain⟨W2,hE⟩:∃W2,(W.alloc (.cells #[.int .u8 2,.int .i64 (a:Int),.int .i64 client,.int .i64 inc,.int .i64 req,.int .i64 ver,.string key,.int .i64 code] 29)).alloc (.cells #[.string key,.int .i64 ver] 59)=W2:=⟨_,rfl⟩
 obtain⟨HG2,HB0,HB1,HA0,HBS,HT0⟩:=rdo_set h hbs _ _ W2 hE
 have HE:=Lib.hid hE
 clear hE
 have hrb0:rb<W.heap.size:=h.lt
 have OK:=Lib.hid ok
 clear h hbs ok
 simp only[encCmd]
 go_enter Tryz.func60,Tryz.ntmps60
 go_upto_region 6 with fail
 rw[HE.out]
 clear HE
 obtain⟨⟨d0,d1,d2,d3,d4,d5,d6,d7⟩,j0,j1,hw0,hw1⟩:=boxes HB0.out HB1.out HT0.out
 obtain⟨gL,capL,c4,f0,y0,hcl,hcm⟩:=HA0.out.live hal
 obtain⟨LV,hLV⟩:∃x,R.lives.getD a 0=x:=⟨_,rfl⟩
 rw[hLV] at f0
 have c2:=HA0.out.c2
 have hL:Hid (rlife R (a:Int)=R.lives.getD a 0):=(show _=_ from rfl)
 have hgL:gL<W2.heap.size:=cell_lt f0
 have hrbw:rb<W2.heap.size:=HA0.out.lt
 have q1:decide (LV<inc)=false:=by rw[←hLV];simpa using hA
 have HH:=Lib.hid hA
 clear hA hLV
 go_quiet (fail)
 go_upto_region 36 with fail
 have HA1:Hid (RAt (fence bs W W2) (W2.drewN nq) rb R):=(show RAt (fence bs W W2) (W2.drewN nq) rb R from HA0.out.grown (grown_drewN _ _))
 have HT1:Hid (Turn (fence bs W W2) W2 (W2.drewN nq)):=(show Turn (fence bs W W2) W2 (W2.drewN nq) from turn_grown (grown_drewN _ _))
 go_wp2_with (go_at_call 123;refine(rclean_any HA1.out (HBS.out _ HT1.out.size) (by exact OK.out.nd) (by have:=OK.out.lh;omega) (by exact OK.out.ll)).mono ?_;rintro e wz ⟨rfl,hr,ht⟩;have HZ:=Lib.hid (fence_end HG2.out hr (turn_trans HT1.out ht));clear hr ht)
 first|go_end0|refine bodyPost_ret (results_none rfl _ _ _) rfl ?_
 refine⟨rfl,?_⟩
 have hZ:=HZ.out
 have e:rdo R ⟨2,(a:Int),client,inc,req,ver,key,code⟩=rclean R:=by
  have h:¬(rlife R (a:Int)<inc∧inc≤R.offers):=by rw[hL.out];have:=HH.out;omega
  unfold rdo
  simp only[show ¬((2:Int)=1) by decide,if_false,if_true,if_neg h]
 rw[e]
 exact hZ
set_option maxHeartbeats 8000000 in
set_option maxRecDepth 100000 in
theorem rdo_2B (h:RAt bs W rb R) (hbs:∀k,W.heap.size≤k→bs k) (ok:ROk R) (node client inc req ver code:Int) (key:ByteArray) (hn0:0≤node) (hn1:node<(R.lives.length:Int)) (hA:R.lives.getD node.toNat 0<inc) (hB:R.offers<inc):Calls Tryz.prog 60 #[.pointer (some ⟨rb,0,none⟩),encCmd ⟨2,node,client,inc,req,ver,key,code⟩] W fun e w'=>e = .returned (.tuple #[])∧RAt bs w' rb (rdo R ⟨2,node,client,inc,req,ver,key,code⟩)∧Turn bs W w':=by
 obtain⟨a,rfl⟩:=Int.eq_ofNat_of_zero_le hn0
 have hal:a<R.lives.length:=by omega
 have hat:((a:Nat):Int).toNat=a:=rfl
 rw[hat] at hA
 clear hat
 obtain⟨W2,hE⟩:∃W2,(W.alloc (.cells #[.int .u8 2,.int .i64 (a:Int),.int .i64 client,.int .i64 inc,.int .i64 req,.int .i64 ver,.string key,.int .i64 code] 29)).alloc (.cells #[.string key,.int .i64 ver] 59)=W2:=⟨_,rfl⟩
 obtain⟨HG2,HB0,HB1,HA0,HBS,HT0⟩:=rdo_set h hbs _ _ W2 hE
 have HE:=Lib.hid hE
 clear hE
 have hrb0:rb<W.heap.size:=h.lt
 have OK:=Lib.hid ok
 clear h hbs ok
 simp only[encCmd]
 go_enter Tryz.func60,Tryz.ntmps60
 go_upto_region 6 with fail
 rw[HE.out]
 clear HE
 obtain⟨⟨d0,d1,d2,d3,d4,d5,d6,d7⟩,j0,j1,hw0,hw1⟩:=boxes HB0.out HB1.out HT0.out
 obtain⟨gL,capL,c4,f0,y0,hcl,hcm⟩:=HA0.out.live hal
 obtain⟨LV,hLV⟩:∃x,R.lives.getD a 0=x:=⟨_,rfl⟩
 rw[hLV] at f0
 have c2:=HA0.out.c2
 have hL:Hid (rlife R (a:Int)=R.lives.getD a 0):=(show _=_ from rfl)
 have hgL:gL<W2.heap.size:=cell_lt f0
 have hrbw:rb<W2.heap.size:=HA0.out.lt
 have q1:decide (LV<inc)=true:=by rw[←hLV];simpa using hA
 have q2:decide (inc≤R.offers)=false:=by simpa using hB
 have HH:=Lib.hid hA
 clear hA hLV
 have HH2:=Lib.hid hB
 clear hB
 go_quiet (fail)
 go_upto_region 36 with fail
 have HA1:Hid (RAt (fence bs W W2) (W2.drewN nq) rb R):=(show RAt (fence bs W W2) (W2.drewN nq) rb R from HA0.out.grown (grown_drewN _ _))
 have HT1:Hid (Turn (fence bs W W2) W2 (W2.drewN nq)):=(show Turn (fence bs W W2) W2 (W2.drewN nq) from turn_grown (grown_drewN _ _))
 go_wp2_with (go_at_call 123;refine(rclean_any HA1.out (HBS.out _ HT1.out.size) (by exact OK.out.nd) (by have:=OK.out.lh;omega) (by exact OK.out.ll)).mono ?_;rintro e wz ⟨rfl,hr,ht⟩;have HZ:=Lib.hid (fence_end HG2.out hr (turn_trans HT1.out ht));clear hr ht)
 first|go_end0|refine bodyPost_ret (results_none rfl _ _ _) rfl ?_
 refine⟨rfl,?_⟩
 have hZ:=HZ.out
 have e:rdo R ⟨2,(a:Int),client,inc,req,ver,key,code⟩=rclean R:=by
  have h:¬(rlife R (a:Int)<inc∧inc≤R.offers):=by rw[hL.out];have:=HH2.out;omega
  unfold rdo
  simp only[show ¬((2:Int)=1) by decide,if_false,if_true,if_neg h]
 rw[e]
 exact hZ
set_option maxHeartbeats 8000000 in
set_option maxRecDepth 100000 in
theorem rdo_2C (h:RAt bs W rb R) (hbs:∀k,W.heap.size≤k→bs k) (ok:ROk R) (node client inc req ver code:Int) (key:ByteArray) (hn0:0≤node) (hn1:node<(R.lives.length:Int)) (hA:R.lives.getD node.toNat 0<inc) (hB:inc≤R.offers):Calls Tryz.prog 60 #[.pointer (some ⟨rb,0,none⟩),encCmd ⟨2,node,client,inc,req,ver,key,code⟩] W fun e w'=>e = .returned (.tuple #[])∧RAt bs w' rb (rdo R ⟨2,node,client,inc,req,ver,key,code⟩)∧Turn bs W w':=by
 obtain⟨a,rfl⟩:=Int.eq_ofNat_of_zero_le hn0
 have hal:a<R.lives.length:=by omega
 have hat:((a:Nat):Int).toNat=a:=rfl
 rw[hat] at hA
 clear hat
 obtain⟨W2,hE⟩:∃W2,(W.alloc (.cells #[.int .u8 2,.int .i64 (a:Int),.int .i64 client,.int .i64 inc,.int .i64 req,.int .i64 ver,.string key,.int .i64 code] 29)).alloc (.cells #[.string key,.int .i64 ver] 59)=W2:=⟨_,rfl⟩
 obtain⟨HG2,HB0,HB1,HA0,HBS,HT0⟩:=rdo_set h hbs _ _ W2 hE
 have HE:=Lib.hid hE
 clear hE
 have hrb0:rb<W.heap.size:=h.lt
 have OK:=Lib.hid ok
 clear h hbs ok
 simp only[encCmd]
 go_enter Tryz.func60,Tryz.ntmps60
 go_upto_region 6 with fail
 rw[HE.out]
 clear HE
 obtain⟨⟨d0,d1,d2,d3,d4,d5,d6,d7⟩,j0,j1,hw0,hw1⟩:=boxes HB0.out HB1.out HT0.out
 obtain⟨gL,capL,c4,f0,y0,hcl,hcm⟩:=HA0.out.live hal
 obtain⟨LV,hLV⟩:∃x,R.lives.getD a 0=x:=⟨_,rfl⟩
 rw[hLV] at f0
 have c2:=HA0.out.c2
 have hL:Hid (rlife R (a:Int)=R.lives.getD a 0):=(show _=_ from rfl)
 have hgL:gL<W2.heap.size:=cell_lt f0
 have hrbw:rb<W2.heap.size:=HA0.out.lt
 have q1:decide (LV<inc)=true:=by rw[←hLV];simpa using hA
 have q2:decide (inc≤R.offers)=true:=by simpa using hB
 have HH:=Lib.hid hA
 clear hA hLV
 have HH2:=Lib.hid hB
 clear hB
 go_quiet (fail)
 go_upto_region 7 with fail
 have HA1:=Lib.hid (HA0.out.grown (grown_drewN W2 nq))
 have HT1:Hid (Turn (fence bs W W2) W2 (W2.drewN nq)):=(show Turn (fence bs W W2) W2 (W2.drewN nq) from turn_grown (grown_drewN _ _))
 clear d0 d1 d2 d3 d4 d5 d6 d7 j0 j1 hw0 hw1
 clear c4 f0 y0 c2 hcl hcm hgL
 generalize W2.drewN nq=w3 at *
 obtain⟨⟨d0,d1,d2,d3,d4,d5,d6,d7⟩,j0,j1,hw0,hw1⟩:=boxes HB0.out HB1.out HT1.out
 obtain⟨gL2,capL2,c4,f0,y0,hcl,hcm,hset⟩:=HA1.out.setLive hal
 have HSET:=Lib.hid hset
 have hgL:gL2<w3.heap.size:=cell_lt f0
 clear hset
 go_still_tail 9,(by kernel_rfl)
 go_upto_region 36 with fail
 have hq:=HSET.out inc
 have HA2:Hid (RAt (fence bs W W2) (w3.drew.setCell ⟨gL2,a,none⟩ (.int .i64 inc)) rb { R with lives:=R.lives.set a inc }):=(show RAt (fence bs W W2) ((w3.setCell ⟨gL2,a,none⟩ (.int .i64 inc)).drew) rb { R with lives:=R.lives.set a inc } from hq.1.grown (grown_drew (grown_refl _)))
 have HT2:Hid (Turn (fence bs W W2) W2 (w3.drew.setCell ⟨gL2,a,none⟩ (.int .i64 inc))):=(show Turn (fence bs W W2) W2 ((w3.setCell ⟨gL2,a,none⟩ (.int .i64 inc)).drew) from turn_after (turn_trans HT1.out hq.2) (grown_drew (grown_refl _)))
 clear hq
 go_wp2_with (go_at_call 123;refine(rclean_any HA2.out (HBS.out _ HT2.out.size) (by have:=OK.out.nd;show ∀x∈R.holds,0≤x.node∧x.node<((R.lives.set a inc).length:Int);rw[List.length_set];exact this) (by have:=OK.out.lh;show R.holds.length≤_;omega) (by show(R.lives.set a inc).length≤_;rw[List.length_set];exact OK.out.ll)).mono ?_;rintro e wz ⟨rfl,hr,ht⟩;have HZ:=Lib.hid (fence_end HG2.out hr (turn_trans HT2.out ht));clear hr ht)
 first|go_end0|refine bodyPost_ret (results_none rfl _ _ _) rfl ?_
 refine⟨rfl,?_⟩
 have hZ:=HZ.out
 have e:rdo R ⟨2,(a:Int),client,inc,req,ver,key,code⟩=rclean { R with lives:=R.lives.set a inc }:=by
  have h:rlife R (a:Int)<inc∧inc≤R.offers:=by rw[hL.out];exact⟨HH.out,HH2.out⟩
  unfold rdo
  simp only[show ¬((2:Int)=1) by decide,if_false,if_true,if_pos h]
  rfl
 rw[e]
 exact hZ
end
section
variable {bs : Nat → Prop} {W : World} {rb : Nat} {R : RTab}
set_option maxHeartbeats 8000000 in
set_option maxRecDepth 100000 in
theorem rdo_3n (h:RAt bs W rb R) (hbs:∀k,W.heap.size≤k→bs k) (ok:ROk R) (node client inc req ver code:Int) (key:ByteArray) (hn0:0≤node) (hn1:node<(R.lives.length:Int)) (hB:rbeginsB R ⟨3,node,client,inc,req,ver,key,code⟩=false):Calls Tryz.prog 60 #[.pointer (some ⟨rb,0,none⟩),encCmd ⟨3,node,client,inc,req,ver,key,code⟩] W fun e w'=>e = .returned (.tuple #[])∧RAt bs w' rb (rdo R ⟨3,node,client,inc,req,ver,key,code⟩)∧Turn bs W w':=by
 obtain⟨a,rfl⟩:=Int.eq_ofNat_of_zero_le hn0
 have hal:a<R.lives.length:=by omega
 obtain⟨W2,hE⟩:∃W2,(W.alloc (.cells #[.int .u8 3,.int .i64 (a:Int),.int .i64 client,.int .i64 inc,.int .i64 req,.int .i64 ver,.string key,.int .i64 code] 29)).alloc (.cells #[.string key,.int .i64 ver] 59)=W2:=⟨_,rfl⟩
 obtain⟨HG2,HB0,HB1,HA0,HBS,HT0⟩:=rdo_set h hbs _ _ W2 hE
 have HE:=Lib.hid hE
 clear hE
 have hrb0:rb<W.heap.size:=h.lt
 have OK:=Lib.hid ok
 clear h hbs ok
 simp only[encCmd]
 go_enter Tryz.func60,Tryz.ntmps60
 go_upto_region 9 with fail
 rw[HE.out]
 clear HE
 obtain⟨⟨d0,d1,d2,d3,d4,d5,d6,d7⟩,j0,j1,hw0,hw1⟩:=boxes HB0.out HB1.out HT0.out
 have HBG:=Lib.hid (rbegins_any HA0.out (HBS.out _ (Nat.le_refl _)) ⟨3,(a:Int),client,inc,req,ver,key,code⟩ (by have:=OK.out.lp;omega))
 simp only[encCmd] at HBG
 rw[hB] at HBG
 have HTT:Hid (rbegunT R ⟨3,(a:Int),client,inc,req,ver,key,code⟩=R):=(show rbegunT R ⟨3,(a:Int),client,inc,req,ver,key,code⟩=R from by unfold rbegunT;rw[hB];rfl)
 have HBB:=Lib.hid hB
 have x0:=OK.out.x0
 have x1:=OK.out.x1
 clear hB
 go_upto_region 36 with (go_at_call 113;refine HBG.out.mono ?_;rintro e w1 ⟨rfl,hr,ht⟩;rw[HTT.out] at hr;clear d0 d1 d2 d3 d4 d5 d6 d7 j0 j1 hw0 hw1;have HA1:=Lib.hid hr;have HT1:=Lib.hid ht;clear hr ht;obtain⟨⟨d0,d1,d2,d3,d4,d5,d6,d7⟩,j0,j1,hw0,hw1⟩:=boxes HB0.out HB1.out HT1.out)
 go_wp2_with (go_at_call 123;refine(rclean_any HA1.out (HBS.out _ HT1.out.size) (by exact OK.out.nd) (by have:=OK.out.lh;omega) (by exact OK.out.ll)).mono ?_;rintro e wz ⟨rfl,hr,ht⟩;have HZ:=Lib.hid (fence_end HG2.out hr (turn_trans HT1.out ht));clear hr ht)
 first|go_end0|refine bodyPost_ret (results_none rfl _ _ _) rfl ?_
 refine⟨rfl,?_⟩
 have hZ:=HZ.out
 have e:rdo R ⟨3,(a:Int),client,inc,req,ver,key,code⟩=rclean R:=by unfold rdo;simp[HBB.out]
 rw[e]
 exact hZ
set_option maxHeartbeats 8000000 in
set_option maxRecDepth 100000 in
theorem rdo_6n (h:RAt bs W rb R) (hbs:∀k,W.heap.size≤k→bs k) (ok:ROk R) (node client inc req ver code:Int) (key:ByteArray) (hn0:0≤node) (hn1:node<(R.lives.length:Int)) (hB:rbeginsB R ⟨6,node,client,inc,req,ver,key,code⟩=false):Calls Tryz.prog 60 #[.pointer (some ⟨rb,0,none⟩),encCmd ⟨6,node,client,inc,req,ver,key,code⟩] W fun e w'=>e = .returned (.tuple #[])∧RAt bs w' rb (rdo R ⟨6,node,client,inc,req,ver,key,code⟩)∧Turn bs W w':=by
 obtain⟨a,rfl⟩:=Int.eq_ofNat_of_zero_le hn0
 have hal:a<R.lives.length:=by omega
 obtain⟨W2,hE⟩:∃W2,(W.alloc (.cells #[.int .u8 6,.int .i64 (a:Int),.int .i64 client,.int .i64 inc,.int .i64 req,.int .i64 ver,.string key,.int .i64 code] 29)).alloc (.cells #[.string key,.int .i64 ver] 59)=W2:=⟨_,rfl⟩
 obtain⟨HG2,HB0,HB1,HA0,HBS,HT0⟩:=rdo_set h hbs _ _ W2 hE
 have HE:=Lib.hid hE
 clear hE
 have hrb0:rb<W.heap.size:=h.lt
 have OK:=Lib.hid ok
 clear h hbs ok
 simp only[encCmd]
 go_enter Tryz.func60,Tryz.ntmps60
 go_upto_region 29 with fail
 rw[HE.out]
 clear HE
 obtain⟨⟨d0,d1,d2,d3,d4,d5,d6,d7⟩,j0,j1,hw0,hw1⟩:=boxes HB0.out HB1.out HT0.out
 have HBG:=Lib.hid (rbegins_any HA0.out (HBS.out _ (Nat.le_refl _)) ⟨6,(a:Int),client,inc,req,ver,key,code⟩ (by have:=OK.out.lp;omega))
 simp only[encCmd] at HBG
 rw[hB] at HBG
 have HTT:Hid (rbegunT R ⟨6,(a:Int),client,inc,req,ver,key,code⟩=R):=(show rbegunT R ⟨6,(a:Int),client,inc,req,ver,key,code⟩=R from by unfold rbegunT;rw[hB];rfl)
 have HBB:=Lib.hid hB
 have x0:=OK.out.x0
 have x1:=OK.out.x1
 clear hB
 go_upto_region 36 with (go_at_call 113;refine HBG.out.mono ?_;rintro e w1 ⟨rfl,hr,ht⟩;rw[HTT.out] at hr;clear d0 d1 d2 d3 d4 d5 d6 d7 j0 j1 hw0 hw1;have HA1:=Lib.hid hr;have HT1:=Lib.hid ht;clear hr ht;obtain⟨⟨d0,d1,d2,d3,d4,d5,d6,d7⟩,j0,j1,hw0,hw1⟩:=boxes HB0.out HB1.out HT1.out)
 go_wp2_with (go_at_call 123;refine(rclean_any HA1.out (HBS.out _ HT1.out.size) (by exact OK.out.nd) (by have:=OK.out.lh;omega) (by exact OK.out.ll)).mono ?_;rintro e wz ⟨rfl,hr,ht⟩;have HZ:=Lib.hid (fence_end HG2.out hr (turn_trans HT1.out ht));clear hr ht)
 first|go_end0|refine bodyPost_ret (results_none rfl _ _ _) rfl ?_
 refine⟨rfl,?_⟩
 have hZ:=HZ.out
 have e:rdo R ⟨6,(a:Int),client,inc,req,ver,key,code⟩=rclean R:=by unfold rdo;simp[HBB.out]
 rw[e]
 exact hZ
end
open Go.RowKit
theorem pA {α:Type} {l:List α} {i:Nat} {x:α}:l.toArray.setIfInBounds i x=(l.set i x).toArray:=List.setIfInBounds_toArray _ _ _
theorem pB {α:Type} {x y:α} {l:List α}:(x :: l).set 0 y=y :: l:=rfl
theorem pC {α:Type} {x y:α} {l:List α} {n:Nat}:(x :: l).set (n+1) y=x :: l.set n y:=rfl
theorem dropAt {ops:Array Oper} {i:Nat} {oi:Oper} {rest:List Oper} (hi:ops.toList.drop i=oi :: rest):ops[i]? = some oi:=by
 rw[←Array.getElem?_toList,←List.head?_drop,hi];rfl
section
variable {P : Program} {ops : Array Oper} {md : Region.Mode} {S : World → Prop} {Q : Exit → Act → World → Prop} {fuel : Nat} {listed : Array Bool} {a : Act} {w : World}
theorem tg (i:Nat) (v:Value) {oi:Oper} {rest:List Oper} (hS:S w) (hy:∀w,S w→(execOp a.eval oi).run P w = .ok (.value v) w) (h:wpAnyH P md ops Q S fuel (listed.setIfInBounds i true) (a.put oi.dst v) w) (hi:ops.toList.drop i=oi :: rest) (hk:(Region.noSelect ops && (Region.free md ops listed i && (Region.ready md ops listed).contains i))=true) (hw:Region.wanted oi (yielded ops a.tmps)=true) (hQ:∀c a w,Q (.panic c) (a.put oi.dst v) w→Q (.panic c) a w):wpAnyH P md ops Q S (fuel+1) listed a w:=by
 simp only[Bool.and_eq_true] at hk
 exact wpAnyH_take (dropAt hi) hk.1 hk.2.1 hk.2.2 hQ (Or.inl ⟨hw,hy⟩) hS h
theorem tgn (i:Nat) {oi:Oper} {rest:List Oper} (hS:S w) (h:wpAnyH P md ops Q S fuel (listed.setIfInBounds i true) (a.put oi.dst undef) w) (hi:ops.toList.drop i=oi :: rest) (hk:(Region.noSelect ops && (Region.free md ops listed i && (Region.ready md ops listed).contains i))=true) (hw:Region.wanted oi (yielded ops a.tmps)=false) (hQ:∀c a w,Q (.panic c) (a.put oi.dst undef) w→Q (.panic c) a w):wpAnyH P md ops Q S (fuel+1) listed a w:=by
 simp only[Bool.and_eq_true] at hk
 exact wpAnyH_take (dropAt hi) hk.1 hk.2.1 hk.2.2 hQ (Or.inr ⟨hw,rfl⟩) hS h
theorem rdy (i:Nat) {o:Oper} {rest:List Oper} (h:∀K':Act→World→Prop,Shut (∀a w,S w→(S w→wpAnyH P md ops Q S fuel (listed.setIfInBounds i true) a w)→K' a w)→if Region.wanted o (yielded ops a.tmps)=true then Oper.wp P o a w K' Q else K' (a.put o.dst undef) w) (hi:ops.toList.drop i=o :: rest) (hr:Region.ready md ops listed = [i]):wpAnyH P md ops Q S (fuel+1) listed a w:=
 wpAnyH_ready hr (by simp) (AllReadyH.cons (dropAt hi) h AllReadyH.nil)
end
end Go.Proofs.YtjfelfjobeeenaaGreat
