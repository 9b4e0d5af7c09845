/- The document's Do at some kinds: the walks. Conditions: a table that lies in memory, its numbers within bounds. The document's Do at some kinds: the walks. Conditions: a table that lies in memory, its numbers within bounds. The document's Do at some kinds: the walks. Conditions: a table that lies in memory, its numbers within bounds. The document's Do at some kinds: the walks. Conditions: a table that lies in memory, its numbers within bounds. The document's Do at some kinds: the walks. Conditions: a table that lies in memory, its numbers within bounds. The document's Do at some kinds: the walks. Conditions: a table that lies in memory, its numbers within bounds. -/
import Derived.Test.YtjfelfjobeeenaaGreatF32
import Derived.Test.YtjfelfjobeeenaaGreatF19
import Derived.Deep.DeepCutAuto
import Derived.Deep.RegionHeld3
set_option linter.unusedSimpArgs false
set_option linter.unusedVariables false
namespace Go.Proofs.YtjfelfjobeeenaaGreat
open Go.RowKit Go.Sf Go.Shelf
theorem cmd2 {w:World} {b:Nat} {a0 a1 a2 a3 a4 a5 a6 a7:Value} {t:TypeId} (h:w.heap[b]? = some (.cells #[a0,a1,a2,a3,a4,a5,a6,a7] t (0,0))):w.cell? ⟨b,2,none⟩=some a2:=(cell_block h 2).trans rfl
theorem cmd4 {w:World} {b:Nat} {a0 a1 a2 a3 a4 a5 a6 a7:Value} {t:TypeId} (h:w.heap[b]? = some (.cells #[a0,a1,a2,a3,a4,a5,a6,a7] t (0,0))):w.cell? ⟨b,4,none⟩=some a4:=(cell_block h 4).trans rfl
theorem cmd6 {w:World} {b:Nat} {a0 a1 a2 a3 a4 a5 a6 a7:Value} {t:TypeId} (h:w.heap[b]? = some (.cells #[a0,a1,a2,a3,a4,a5,a6,a7] t (0,0))):w.cell? ⟨b,6,none⟩=some a6:=(cell_block h 6).trans rfl
theorem keepS {w w':World} {b:Nat} {o:Obj} {c:Addr} {v:Value} (hg:w.grownBy w' none) (h:w.heap[b]? = some o∧w.cell? c=some v):w'.heap[b]? = some o∧w'.cell? c=some v:=
 ⟨(hg.block b (Array.getElem?_eq_some_iff.1 h.1).1 (by simp)).trans h.1,hg.cell h.2 (by simp)⟩
theorem after_app {wx w2:World} {rb:Nat} {R:RTab} {vL vC vV vP vH v':Value} {l:List (ID × Pend)} (hm:RMem wx rb R vL vC vV vP vH) (ha:Apped wx 190 4 cellsP vP l v' w2) {b:Nat} {c:Array Value} {T:TypeId} {fr:Nat × Nat} (hb:wx.heap[b]? = some (.cells c T fr)) (hne:190≠T):w2.heap[b]? = some (.cells c T fr):=
 (ha.2.1.block b (Array.getElem?_eq_some_iff.1 hb).1 (fun e=>own_ne hm.pends hb hne e.symm)).trans hb
section
variable {bs : Nat → Prop} {W : World} {rb : Nat} {R : RTab}
set_option maxHeartbeats 8000000 in
set_option maxRecDepth 100000 in
theorem rdo_3y (h:RAt bs W rb R) (hbs:∀k,W.heap.size≤k→bs k) (ok:ROk R) (node client inc req ver code:Int) (key:ByteArray) (hn0:0≤node) (hn1:node<(R.lives.length:Int)) (hB:rbeginsB R ⟨3,node,client,inc,req,ver,key,code⟩=true):Calls Tryz.prog 60 #[.pointer (some ⟨rb,0,none⟩),encCmd ⟨3,node,client,inc,req,ver,key,code⟩] W fun e w'=>e = .returned (.tuple #[])∧RAt bs w' rb (rdo R ⟨3,node,client,inc,req,ver,key,code⟩)∧Turn bs W w':=by
 obtain⟨a,rfl⟩:=Int.eq_ofNat_of_zero_le hn0
 have hal:a<R.lives.length:=by omega
 obtain⟨W2,hE⟩:∃W2,(W.alloc (.cells #[.int .u8 3,.int .i64 (a:Int),.int .i64 client,.int .i64 inc,.int .i64 req,.int .i64 ver,.string key,.int .i64 code] 29)).alloc (.cells #[.string key,.int .i64 ver] 59)=W2:=⟨_,rfl⟩
 obtain⟨HG2,HB0,HB1,HA0,HBS,HT0⟩:=rdo_set h hbs _ _ W2 hE
 have HE:=Lib.hid hE
 clear hE
 have hrb0:rb<W.heap.size:=h.lt
 have OK:=Lib.hid ok
 clear h hbs ok
 simp only[encCmd]
 go_enter Tryz.func60,Tryz.ntmps60
 go_upto_region 9 with fail
 rw[HE.out]
 clear HE
 obtain⟨⟨d0,d1,d2,d3,d4,d5,d6,d7⟩,j0,j1,hw0,hw1⟩:=boxes HB0.out HB1.out HT0.out
 have HBG:=Lib.hid (rbegins_any HA0.out (HBS.out _ (Nat.le_refl _)) ⟨3,(a:Int),client,inc,req,ver,key,code⟩ (by have:=OK.out.lp;omega))
 simp only[encCmd] at HBG
 rw[hB] at HBG
 have HTT:Hid (rbegunT R ⟨3,(a:Int),client,inc,req,ver,key,code⟩=rbegun R ⟨3,(a:Int),client,inc,req,ver,key,code⟩):=(show rbegunT R ⟨3,(a:Int),client,inc,req,ver,key,code⟩=rbegun R ⟨3,(a:Int),client,inc,req,ver,key,code⟩ from by unfold rbegunT;rw[hB];rfl)
 have HBB:=Lib.hid hB
 have x0:=OK.out.x0
 have x1:=OK.out.x1
 clear hB
 go_upto_region 10 with (go_at_call 113;refine HBG.out.mono ?_;rintro e w1 ⟨rfl,hr,ht⟩;rw[HTT.out] at hr;clear d0 d1 d2 d3 d4 d5 d6 d7 j0 j1 hw0 hw1;have HA1:=Lib.hid hr;have HT1:=Lib.hid ht;clear hr ht;obtain⟨⟨d0,d1,d2,d3,d4,d5,d6,d7⟩,j0,j1,hw0,hw1⟩:=boxes HB0.out HB1.out HT1.out)
 have c3:=HA1.out.c3
 obtain⟨vL,vC,vV,vP,vH,hm,g0,g1,g2,g3,g4,g5⟩:=HA1.out
 obtain⟨p,cap,rfl,hcap,hlc⟩:=hm.pends.form
 have HAM:Hid (Among (fence bs W W2) w1 rb vL vC vV (.slice p (rbegun R ⟨3,(a:Int),client,inc,req,ver,key,code⟩).pends.length cap) vH):=(show Among (fence bs W W2) w1 rb vL vC vV (.slice p (rbegun R ⟨3,(a:Int),client,inc,req,ver,key,code⟩).pends.length cap) vH from ⟨g0,g1,g2,g3,g4,g5,HBS.out _ HT1.out.size⟩)
 have HM:=Lib.hid hm
 have c7:=hm.c7
 have z7:=hm.free 7
 have hrb:=hm.lt
 have hpl:(rbegun R ⟨3,(a:Int),client,inc,req,ver,key,code⟩).pends.length≤10000000:=Nat.le_trans (show(rbegun R ⟨3,(a:Int),client,inc,req,ver,key,code⟩).pends.length≤R.pends.length from List.eraseP_sublist.length_le) OK.out.lp
 have hnx:(rbegun R ⟨3,(a:Int),client,inc,req,ver,key,code⟩).next=R.next:=rfl
 rw[hnx] at c3
 obtain⟨i0,hi,hz0,hz1,hz2⟩:=info_parts infoP
 clear hm g0 g1 g2 g3 g4 g5 hnx
 go_cut [] (fun wx=>RAt (fence bs W W2) wx rb { rbegun R ⟨3,(a:Int),client,inc,req,ver,key,code⟩ with pends:=(rbegun R ⟨3,(a:Int),client,inc,req,ver,key,code⟩).pends ++ [(⟨key,R.next⟩,⟨client,req⟩)] }∧Turn (fence bs W W2) W2 wx)
 case first=>
  have hS0:(fun w':World=>w'.heap[W.heap.size]? = some (.cells #[.int .u8 3,.int .i64 (a:Int),.int .i64 client,.int .i64 inc,.int .i64 req,.int .i64 ver,.string key,.int .i64 code] 29 (0,0))∧w'.cell? ⟨rb,3,none⟩=some (.int .i64 R.next)) w1:=⟨fence_at HT1.out HB0.out (Nat.le_refl _),c3⟩
  dsimp only at hS0
  refine wp_region_held_drew (S:=fun w':World=>w'.heap[W.heap.size]? = some (.cells #[.int .u8 3,.int .i64 (a:Int),.int .i64 client,.int .i64 inc,.int .i64 req,.int .i64 ver,.string key,.int .i64 code] 29 (0,0))∧w'.cell? ⟨rb,3,none⟩=some (.int .i64 R.next)) (by kernel_rfl) ⟨hS0.1,hS0.2⟩ (fun hHeld=>?_)
  refine tg 0 ?_ hHeld ?_ ?_ rfl (by kernel_rfl) rfl fun _ _ _ h=>h
  rotate_left
  ·rintro w ⟨s1,s2⟩;have d2:=cmd2 s1;have d4:=cmd4 s1;have d6:=cmd6 s1;clear s1;go_simp;try with_reducible rfl
  (try simp only[Act.put,pA,pB,pC])
  refine tg 1 ?_ hHeld ?_ ?_ rfl (by kernel_rfl) rfl fun _ _ _ h=>h
  rotate_left
  ·rintro w ⟨s1,s2⟩;have d2:=cmd2 s1;have d4:=cmd4 s1;have d6:=cmd6 s1;clear s1;go_simp;try with_reducible rfl
  (try simp only[Act.put,pA,pB,pC])
  refine tg 2 ?_ hHeld ?_ ?_ rfl (by kernel_rfl) rfl fun _ _ _ h=>h
  rotate_left
  ·rintro w ⟨s1,s2⟩;have d2:=cmd2 s1;have d4:=cmd4 s1;have d6:=cmd6 s1;clear s1;go_simp;try with_reducible rfl
  (try simp only[Act.put,pA,pB,pC])
  refine tg 3 ?_ hHeld ?_ ?_ rfl (by kernel_rfl) rfl fun _ _ _ h=>h
  rotate_left
  ·rintro w ⟨s1,s2⟩;have d2:=cmd2 s1;have d4:=cmd4 s1;have d6:=cmd6 s1;clear s1;go_simp;try with_reducible rfl
  (try simp only[Act.put,pA,pB,pC])
  refine tg 5 ?_ hHeld ?_ ?_ rfl (by kernel_rfl) rfl fun _ _ _ h=>h
  rotate_left
  ·rintro w ⟨s1,s2⟩;have d2:=cmd2 s1;have d4:=cmd4 s1;have d6:=cmd6 s1;clear s1;go_simp;try with_reducible rfl
  (try simp only[Act.put,pA,pB,pC])
  refine tg 6 ?_ hHeld ?_ ?_ rfl (by kernel_rfl) rfl fun _ _ _ h=>h
  rotate_left
  ·rintro w ⟨s1,s2⟩;have d2:=cmd2 s1;have d4:=cmd4 s1;have d6:=cmd6 s1;clear s1;go_simp;try with_reducible rfl
  (try simp only[Act.put,pA,pB,pC])
  refine tg 7 ?_ hHeld ?_ ?_ rfl (by kernel_rfl) rfl fun _ _ _ h=>h
  rotate_left
  ·rintro w ⟨s1,s2⟩;have d2:=cmd2 s1;have d4:=cmd4 s1;have d6:=cmd6 s1;clear s1;go_simp;try with_reducible rfl
  (try simp only[Act.put,pA,pB,pC])
  refine tg 8 ?_ hHeld ?_ ?_ rfl (by kernel_rfl) rfl fun _ _ _ h=>h
  rotate_left
  ·rintro w ⟨s1,s2⟩;have d2:=cmd2 s1;have d4:=cmd4 s1;have d6:=cmd6 s1;clear s1;go_simp;try with_reducible rfl
  (try simp only[Act.put,pA,pB,pC])
  refine tg 9 ?_ hHeld ?_ ?_ rfl (by kernel_rfl) rfl fun _ _ _ h=>h
  rotate_left
  ·rintro w ⟨s1,s2⟩;have d2:=cmd2 s1;have d4:=cmd4 s1;have d6:=cmd6 s1;clear s1;go_simp;try with_reducible rfl
  (try simp only[Act.put,pA,pB,pC])
  refine tg 10 ?_ hHeld ?_ ?_ rfl (by kernel_rfl) rfl fun _ _ _ h=>h
  rotate_left
  ·rintro w ⟨s1,s2⟩;have d2:=cmd2 s1;have d4:=cmd4 s1;have d6:=cmd6 s1;clear s1;go_simp;try with_reducible rfl
  (try simp only[Act.put,pA,pB,pC])
  refine tg 11 ?_ hHeld ?_ ?_ rfl (by kernel_rfl) rfl fun _ _ _ h=>h
  rotate_left
  ·rintro w ⟨s1,s2⟩;have d2:=cmd2 s1;have d4:=cmd4 s1;have d6:=cmd6 s1;clear s1;go_simp;try with_reducible rfl
  (try simp only[Act.put,pA,pB,pC])
  refine tg 12 ?_ hHeld ?_ ?_ rfl (by kernel_rfl) rfl fun _ _ _ h=>h
  rotate_left
  ·rintro w ⟨s1,s2⟩;have d2:=cmd2 s1;have d4:=cmd4 s1;have d6:=cmd6 s1;clear s1;go_simp;try with_reducible rfl
  (try simp only[Act.put,pA,pB,pC])
  refine tg 13 ?_ hHeld ?_ ?_ rfl (by kernel_rfl) rfl fun _ _ _ h=>h
  rotate_left
  ·rintro w ⟨s1,s2⟩;have d2:=cmd2 s1;have d4:=cmd4 s1;have d6:=cmd6 s1;clear s1;go_simp;try with_reducible rfl
  (try simp only[Act.put,pA,pB,pC])
  refine tg 14 ?_ hHeld ?_ ?_ rfl (by kernel_rfl) rfl fun _ _ _ h=>h
  rotate_left
  ·rintro w ⟨s1,s2⟩;have d2:=cmd2 s1;have d4:=cmd4 s1;have d6:=cmd6 s1;clear s1;go_simp;try with_reducible rfl
  (try simp only[Act.put,pA,pB,pC])
  refine tg 15 ?_ hHeld ?_ ?_ rfl (by kernel_rfl) rfl fun _ _ _ h=>h
  rotate_left
  ·rintro w ⟨s1,s2⟩;have d2:=cmd2 s1;have d4:=cmd4 s1;have d6:=cmd6 s1;clear s1;go_simp;try with_reducible rfl
  (try simp only[Act.put,pA,pB,pC])
  refine tg 16 ?_ hHeld ?_ ?_ rfl (by kernel_rfl) rfl fun _ _ _ h=>h
  rotate_left
  ·rintro w ⟨s1,s2⟩;have d2:=cmd2 s1;have d4:=cmd4 s1;have d6:=cmd6 s1;clear s1;go_simp;try with_reducible rfl
  (try simp only[Act.put,pA,pB,pC])
  refine wpAnyH_ready (rs:=[4,17]) (by kernel_rfl) (by simp) ?_
  refine AllReadyH.cons (o := { dst := some 65, op := Op.load 49 (Operand.tmp 64), type := 49, pos := "ref.go:257", after := #[{ on := 3, ground := Ground.data }], guard := none }) rfl (fun K hK => ?_) (AllReadyH.cons (o := { dst := some 78, op := Op.buildSlice 49 1 #[(0, Operand.tmp 77)], type := 49, pos := "ref.go:257", after := #[{ on := 16, ground := Ground.data }], guard := none }) rfl (fun K hK => ?_) AllReadyH.nil)
  ·go_simp
   refine hK.out _ _ (keepS ((by repeat (first|exact grown_refl _|exact grown_drewN _ _|refine grown_alloc ?_ _|refine grown_drew ?_))) hS0) (fun hHeld=>?_)
   clear hK K
   (try simp only[Act.put,pA,pB,pC])
   refine rdy 17 (fun K hK=>?_) rfl (by kernel_rfl)
   go_simp
   refine hK.out _ _ (keepS ((by repeat (first|exact grown_refl _|exact grown_drewN _ _|refine grown_alloc ?_ _|refine grown_drew ?_))) hS0) (fun hHeld=>?_)
   clear hK K
   (try simp only[Act.put,pA,pB,pC])
   refine rdy 18 (fun K hK=>?_) rfl (by kernel_rfl)
   refine step_sapp rfl _ _ 49 rfl lenP oneP i0 _ 40 Tryz.underlying49 hi hz0 hz1 hz2 rfl (by decide) (by decide) (l:=(rbegun R ⟨3,(a:Int),client,inc,req,ver,key,code⟩).pends) (m:=[((⟨key,R.next⟩:ID),(⟨client,req⟩:Pend))]) rfl ((HM.out.grown (by repeat (first|exact grown_refl _|exact grown_drewN _ _|refine grown_alloc ?_ _|refine grown_drew ?_))).pends) rfl (yrow_at ((⟨key,R.next⟩:ID),(⟨client,req⟩:Pend)) (heap_alloc_new _ _)) (by simp;omega) _ rfl ?_
   intro p' cap' w2 ha
   have hS2:=keepS ((by repeat (first|exact grown_refl _|exact grown_drewN _ _|refine grown_alloc ?_ _|refine grown_drew ?_))) hS0
   obtain⟨f7,y7⟩:=RMem.boxP (HM.out.grown (by repeat (first|exact grown_refl _|exact grown_drewN _ _|refine grown_alloc ?_ _|refine grown_drew ?_))) ha
   have hb3:=after_app (HM.out.grown (by repeat (first|exact grown_refl _|exact grown_drewN _ _|refine grown_alloc ?_ _|refine grown_drew ?_))) ha (HM.out.grown (by repeat (first|exact grown_refl _|exact grown_drewN _ _|refine grown_alloc ?_ _|refine grown_drew ?_))).box (by decide)
   have hS3:=And.intro (after_app (HM.out.grown (by repeat (first|exact grown_refl _|exact grown_drewN _ _|refine grown_alloc ?_ _|refine grown_drew ?_))) ha (keepS (by repeat (first|exact grown_refl _|exact grown_drewN _ _|refine grown_alloc ?_ _|refine grown_drew ?_)) hS0).1 (by decide)) ((cell_block hb3 3).trans rfl)
   have HAP:=Lib.hid ha
   clear ha
   refine hK.out _ _ ⟨hS3.1,hS3.2⟩ (fun hHeld=>?_)
   clear hK K
   (try simp only[Act.put,pA,pB,pC])
   refine tg 19 ?_ hHeld ?_ ?_ rfl (by kernel_rfl) rfl fun _ _ _ h=>h
   rotate_left
   ·rintro w ⟨s1,s2⟩;have d2:=cmd2 s1;have d4:=cmd4 s1;have d6:=cmd6 s1;clear s1;go_simp;try with_reducible rfl
   (try simp only[Act.put,pA,pB,pC])
   refine tg 20 ?_ hHeld ?_ ?_ rfl (by kernel_rfl) rfl fun _ _ _ h=>h
   rotate_left
   ·rintro w ⟨s1,s2⟩;have d2:=cmd2 s1;have d4:=cmd4 s1;have d6:=cmd6 s1;clear s1;go_simp;try with_reducible rfl
   (try simp only[Act.put,pA,pB,pC])
   refine rdy 21 (fun K hK=>?_) rfl (by kernel_rfl)
   go_simp
   refine hK.out _ _ ⟨(heap_set_ne _ _ _ _ (show W.heap.size≠rb by omega)).trans hS3.1,(cell_block (heap_set_eq hb3 _) 3).trans rfl⟩ (fun hHeld=>?_)
   clear hK K
   (try simp only[Act.put,pA,pB,pC])
   refine wpAnyH_done (by kernel_rfl) ?_ _
   go_wp2_with fail
   go_meet
   have hq:=RAt.appP (by repeat (first|exact grown_refl _|exact grown_drewN _ _|refine grown_alloc ?_ _|refine grown_drew ?_)) HAM.out (HM.out.grown (by repeat (first|exact grown_refl _|exact grown_drewN _ _|refine grown_alloc ?_ _|refine grown_drew ?_))) HAP.out
   exact⟨hq.1,turn_trans HT1.out hq.2⟩
  ·go_simp
   refine hK.out _ _ (keepS ((by repeat (first|exact grown_refl _|exact grown_drewN _ _|refine grown_alloc ?_ _|refine grown_drew ?_))) hS0) (fun hHeld=>?_)
   clear hK K
   (try simp only[Act.put,pA,pB,pC])
   refine rdy 4 (fun K hK=>?_) rfl (by kernel_rfl)
   go_simp
   refine hK.out _ _ (keepS ((by repeat (first|exact grown_refl _|exact grown_drewN _ _|refine grown_alloc ?_ _|refine grown_drew ?_))) hS0) (fun hHeld=>?_)
   clear hK K
   (try simp only[Act.put,pA,pB,pC])
   refine rdy 18 (fun K hK=>?_) rfl (by kernel_rfl)
   refine step_sapp rfl _ _ 49 rfl lenP oneP i0 _ 40 Tryz.underlying49 hi hz0 hz1 hz2 rfl (by decide) (by decide) (l:=(rbegun R ⟨3,(a:Int),client,inc,req,ver,key,code⟩).pends) (m:=[((⟨key,R.next⟩:ID),(⟨client,req⟩:Pend))]) rfl ((HM.out.grown (by repeat (first|exact grown_refl _|exact grown_drewN _ _|refine grown_alloc ?_ _|refine grown_drew ?_))).pends) rfl (yrow_at ((⟨key,R.next⟩:ID),(⟨client,req⟩:Pend)) (heap_alloc_new _ _)) (by simp;omega) _ rfl ?_
   intro p' cap' w2 ha
   have hS2:=keepS ((by repeat (first|exact grown_refl _|exact grown_drewN _ _|refine grown_alloc ?_ _|refine grown_drew ?_))) hS0
   obtain⟨f7,y7⟩:=RMem.boxP (HM.out.grown (by repeat (first|exact grown_refl _|exact grown_drewN _ _|refine grown_alloc ?_ _|refine grown_drew ?_))) ha
   have hb3:=after_app (HM.out.grown (by repeat (first|exact grown_refl _|exact grown_drewN _ _|refine grown_alloc ?_ _|refine grown_drew ?_))) ha (HM.out.grown (by repeat (first|exact grown_refl _|exact grown_drewN _ _|refine grown_alloc ?_ _|refine grown_drew ?_))).box (by decide)
   have hS3:=And.intro (after_app (HM.out.grown (by repeat (first|exact grown_refl _|exact grown_drewN _ _|refine grown_alloc ?_ _|refine grown_drew ?_))) ha (keepS (by repeat (first|exact grown_refl _|exact grown_drewN _ _|refine grown_alloc ?_ _|refine grown_drew ?_)) hS0).1 (by decide)) ((cell_block hb3 3).trans rfl)
   have HAP:=Lib.hid ha
   clear ha
   refine hK.out _ _ ⟨hS3.1,hS3.2⟩ (fun hHeld=>?_)
   clear hK K
   (try simp only[Act.put,pA,pB,pC])
   refine tg 19 ?_ hHeld ?_ ?_ rfl (by kernel_rfl) rfl fun _ _ _ h=>h
   rotate_left
   ·rintro w ⟨s1,s2⟩;have d2:=cmd2 s1;have d4:=cmd4 s1;have d6:=cmd6 s1;clear s1;go_simp;try with_reducible rfl
   (try simp only[Act.put,pA,pB,pC])
   refine tg 20 ?_ hHeld ?_ ?_ rfl (by kernel_rfl) rfl fun _ _ _ h=>h
   rotate_left
   ·rintro w ⟨s1,s2⟩;have d2:=cmd2 s1;have d4:=cmd4 s1;have d6:=cmd6 s1;clear s1;go_simp;try with_reducible rfl
   (try simp only[Act.put,pA,pB,pC])
   refine rdy 21 (fun K hK=>?_) rfl (by kernel_rfl)
   go_simp
   refine hK.out _ _ ⟨(heap_set_ne _ _ _ _ (show W.heap.size≠rb by omega)).trans hS3.1,(cell_block (heap_set_eq hb3 _) 3).trans rfl⟩ (fun hHeld=>?_)
   clear hK K
   (try simp only[Act.put,pA,pB,pC])
   refine wpAnyH_done (by kernel_rfl) ?_ _
   go_wp2_with fail
   go_meet
   have hq:=RAt.appP (by repeat (first|exact grown_refl _|exact grown_drewN _ _|refine grown_alloc ?_ _|refine grown_drew ?_)) HAM.out (HM.out.grown (by repeat (first|exact grown_refl _|exact grown_drewN _ _|refine grown_alloc ?_ _|refine grown_drew ?_))) HAP.out
   exact⟨hq.1,turn_trans HT1.out hq.2⟩
 case rest=>
  obtain⟨hr,ht⟩:=hcut
  clear d0 d1 d2 d3 d4 d5 d6 d7 j0 j1 hw0 hw1
  clear c3 c7 z7 hrb
  have HA2:=Lib.hid hr
  have HT2:=Lib.hid ht
  clear hr ht
  obtain⟨⟨d0,d1,d2,d3,d4,d5,d6,d7⟩,j0,j1,hw0,hw1⟩:=boxes HB0.out HB1.out HT2.out
  have c3:wc.cell? ⟨rb,3,none⟩=some (.int .i64 R.next):=HA2.out.c3
  have hrb:=HA2.out.lt
  go_upto_region 11 with fail
  go_still_tail 10,(by kernel_rfl)
  go_upto_region 12 with (go_at_call 114;refine(rput_call (HA2.out.grown (grown_drew (grown_refl _))) (HBS.out _ (show W2.heap.size≤wc.heap.size from HT2.out.size)) client ⟨req,R.next,false,0⟩ (by have:=OK.out.lc;show R.calls.length≤_;omega)).mono ?_;rintro e w3 ⟨rfl,hr,ht⟩;clear d0 d1 d2 d3 d4 d5 d6 d7 j0 j1 hw0 hw1;clear c3 hrb;have HA3:=Lib.hid hr;have HT3:=Lib.hid (turn_trans (turn_after HT2.out (grown_drew (grown_refl _))) ht);clear hr ht)
  have c3:w3.cell? ⟨rb,3,none⟩=some (.int .i64 R.next):=HA3.out.c3
  have z3:=HA3.out.free 3
  go_upto_region 36 with fail
  obtain⟨hq1,hq2⟩:=HA3.out.setNext (R.next+1)
  have HA4:=Lib.hid hq1
  have HT4:=Lib.hid (turn_trans HT3.out hq2)
  clear hq1 hq2 c3 z3
  go_wp2_with (go_at_call 123;refine(rclean_any HA4.out (HBS.out _ HT4.out.size) (by exact OK.out.nd) (by have:=OK.out.lh;show R.holds.length≤_;omega) (by exact OK.out.ll)).mono ?_;rintro e wz ⟨rfl,hr,ht⟩;have HZ:=Lib.hid (fence_end HG2.out hr (turn_trans HT4.out ht));clear hr ht)
  first|go_end0|refine bodyPost_ret (results_none rfl _ _ _) rfl ?_
  refine⟨rfl,?_⟩
  have hZ:=HZ.out
  have e:rdo R ⟨3,(a:Int),client,inc,req,ver,key,code⟩=rclean { rbegun R ⟨3,(a:Int),client,inc,req,ver,key,code⟩ with pends:=(rbegun R ⟨3,(a:Int),client,inc,req,ver,key,code⟩).pends ++ [(⟨key,R.next⟩,⟨client,req⟩)],calls:=mput R.calls client ⟨req,R.next,false,0⟩,next:=R.next+1 }:=by unfold rdo;simp[HBB.out]
  rw[e]
  exact hZ
end
section
variable {bs : Nat → Prop} {W : World} {rb : Nat} {R : RTab}
set_option maxHeartbeats 8000000 in
set_option maxRecDepth 100000 in
theorem rdo_6y (h:RAt bs W rb R) (hbs:∀k,W.heap.size≤k→bs k) (ok:ROk R) (node client inc req ver code:Int) (key:ByteArray) (hn0:0≤node) (hn1:node<(R.lives.length:Int)) (hB:rbeginsB R ⟨6,node,client,inc,req,ver,key,code⟩=true):Calls Tryz.prog 60 #[.pointer (some ⟨rb,0,none⟩),encCmd ⟨6,node,client,inc,req,ver,key,code⟩] W fun e w'=>e = .returned (.tuple #[])∧RAt bs w' rb (rdo R ⟨6,node,client,inc,req,ver,key,code⟩)∧Turn bs W w':=by
 obtain⟨a,rfl⟩:=Int.eq_ofNat_of_zero_le hn0
 have hal:a<R.lives.length:=by omega
 obtain⟨W2,hE⟩:∃W2,(W.alloc (.cells #[.int .u8 6,.int .i64 (a:Int),.int .i64 client,.int .i64 inc,.int .i64 req,.int .i64 ver,.string key,.int .i64 code] 29)).alloc (.cells #[.string key,.int .i64 ver] 59)=W2:=⟨_,rfl⟩
 obtain⟨HG2,HB0,HB1,HA0,HBS,HT0⟩:=rdo_set h hbs _ _ W2 hE
 have HE:=Lib.hid hE
 clear hE
 have hrb0:rb<W.heap.size:=h.lt
 have OK:=Lib.hid ok
 clear h hbs ok
 simp only[encCmd]
 go_enter Tryz.func60,Tryz.ntmps60
 go_upto_region 29 with fail
 rw[HE.out]
 clear HE
 obtain⟨⟨d0,d1,d2,d3,d4,d5,d6,d7⟩,j0,j1,hw0,hw1⟩:=boxes HB0.out HB1.out HT0.out
 have HBG:=Lib.hid (rbegins_any HA0.out (HBS.out _ (Nat.le_refl _)) ⟨6,(a:Int),client,inc,req,ver,key,code⟩ (by have:=OK.out.lp;omega))
 simp only[encCmd] at HBG
 rw[hB] at HBG
 have HTT:Hid (rbegunT R ⟨6,(a:Int),client,inc,req,ver,key,code⟩=rbegun R ⟨6,(a:Int),client,inc,req,ver,key,code⟩):=(show rbegunT R ⟨6,(a:Int),client,inc,req,ver,key,code⟩=rbegun R ⟨6,(a:Int),client,inc,req,ver,key,code⟩ from by unfold rbegunT;rw[hB];rfl)
 have HBB:=Lib.hid hB
 have x0:=OK.out.x0
 have x1:=OK.out.x1
 clear hB
 go_upto_region 30 with (go_at_call 113;refine HBG.out.mono ?_;rintro e w1 ⟨rfl,hr,ht⟩;rw[HTT.out] at hr;clear d0 d1 d2 d3 d4 d5 d6 d7 j0 j1 hw0 hw1;have HA1:=Lib.hid hr;have HT1:=Lib.hid ht;clear hr ht;obtain⟨⟨d0,d1,d2,d3,d4,d5,d6,d7⟩,j0,j1,hw0,hw1⟩:=boxes HB0.out HB1.out HT1.out)
 have c3:w1.cell? ⟨rb,3,none⟩=some (.int .i64 R.next):=HA1.out.c3
 have hrb:=HA1.out.lt
 go_still_tail 8,(by kernel_rfl)
 go_upto_region 31 with (go_at_call 121;refine(rput_value (HA1.out.grown (grown_drew (grown_refl _))) (HBS.out _ (show W2.heap.size≤w1.heap.size from HT1.out.size)) key ⟨R.next,true⟩ (by have:=OK.out.lv;show R.vals.length≤_;omega)).mono ?_;rintro e w2 ⟨rfl,hr,ht⟩;clear d0 d1 d2 d3 d4 d5 d6 d7 j0 j1 hw0 hw1;clear c3 hrb;have HA2:=Lib.hid hr;have HT2:=Lib.hid (turn_trans (turn_after HT1.out (grown_drew (grown_refl _))) ht);clear hr ht;obtain⟨⟨d0,d1,d2,d3,d4,d5,d6,d7⟩,j0,j1,hw0,hw1⟩:=boxes HB0.out HB1.out HT2.out)
 go_upto_region 32 with (go_at_call 114;refine(rput_call HA2.out (HBS.out _ HT2.out.size) client ⟨req,0,true,0⟩ (by have:=OK.out.lc;show R.calls.length≤_;omega)).mono ?_;rintro e w3 ⟨rfl,hr,ht⟩;clear d0 d1 d2 d3 d4 d5 d6 d7 j0 j1 hw0 hw1;have HA3:=Lib.hid hr;have HT3:=Lib.hid (turn_trans HT2.out ht);clear hr ht)
 have c3:w3.cell? ⟨rb,3,none⟩=some (.int .i64 R.next):=HA3.out.c3
 have z3:=HA3.out.free 3
 go_upto_region 36 with fail
 obtain⟨hq1,hq2⟩:=HA3.out.setNext (R.next+1)
 have HA4:=Lib.hid hq1
 have HT4:=Lib.hid (turn_trans HT3.out hq2)
 clear hq1 hq2 c3 z3
 go_wp2_with (go_at_call 123;refine(rclean_any HA4.out (HBS.out _ HT4.out.size) (by exact OK.out.nd) (by have:=OK.out.lh;show R.holds.length≤_;omega) (by exact OK.out.ll)).mono ?_;rintro e wz ⟨rfl,hr,ht⟩;have HZ:=Lib.hid (fence_end HG2.out hr (turn_trans HT4.out ht));clear hr ht)
 first|go_end0|refine bodyPost_ret (results_none rfl _ _ _) rfl ?_
 refine⟨rfl,?_⟩
 have hZ:=HZ.out
 have e:rdo R ⟨6,(a:Int),client,inc,req,ver,key,code⟩=rclean { rbegun R ⟨6,(a:Int),client,inc,req,ver,key,code⟩ with vals:=mput R.vals key ⟨R.next,true⟩,calls:=mput R.calls client ⟨req,0,true,0⟩,next:=R.next+1 }:=by unfold rdo;simp[HBB.out]
 rw[e]
 exact hZ
end
section
variable {bs : Nat → Prop} {W : World} {rb : Nat} {R : RTab}
set_option maxHeartbeats 8000000 in
set_option maxRecDepth 100000 in
theorem rdo_4A (h:RAt bs W rb R) (hbs:∀k,W.heap.size≤k→bs k) (ok:ROk R) (node client inc req ver code:Int) (key:ByteArray) (hn0:0≤node) (hn1:node<(R.lives.length:Int)) (hA:inc<1):Calls Tryz.prog 60 #[.pointer (some ⟨rb,0,none⟩),encCmd ⟨4,node,client,inc,req,ver,key,code⟩] W fun e w'=>e = .returned (.tuple #[])∧RAt bs w' rb (rdo R ⟨4,node,client,inc,req,ver,key,code⟩)∧Turn bs W w':=by
 obtain⟨a,rfl⟩:=Int.eq_ofNat_of_zero_le hn0
 have hal:a<R.lives.length:=by omega
 have HE:Hid (rdo R (⟨4,(a:Int),client,inc,req,ver,key,code⟩:Cmd)=R):=(show rdo R (⟨4,(a:Int),client,inc,req,ver,key,code⟩:Cmd)=R from by
  have h:(rnowB R (⟨4,(a:Int),client,inc,req,ver,key,code⟩:Cmd) && rwanted R ⟨key,ver⟩)=false:=by simp[rnowB,show ¬(1≤inc) from by omega]
  unfold rdo rack
  simp only[show ¬((4:Int)=1) by decide,show ¬((4:Int)=2) by decide,show ¬((4:Int)=3) by decide,if_false,if_true,h,Bool.false_eq_true])
 obtain⟨W2,hE⟩:∃W2,(W.alloc (.cells #[.int .u8 4,.int .i64 (a:Int),.int .i64 client,.int .i64 inc,.int .i64 req,.int .i64 ver,.string key,.int .i64 code] 29)).alloc (.cells #[.string key,.int .i64 ver] 59)=W2:=⟨_,rfl⟩
 obtain⟨HG2,HB0,HB1,HA0,HBS,HT0⟩:=rdo_set h hbs _ _ W2 hE
 have HE:=Lib.hid hE
 clear hE
 have hrb0:rb<W.heap.size:=h.lt
 have OK:=Lib.hid ok
 clear h hbs ok
 simp only[encCmd]
 go_enter Tryz.func60,Tryz.ntmps60
 go_upto_region 14 with fail
 rw[HE.out]
 clear HE
 obtain⟨⟨d0,d1,d2,d3,d4,d5,d6,d7⟩,j0,j1,hw0,hw1⟩:=boxes HB0.out HB1.out HT0.out
 obtain⟨gL,capL,c4,f0,y0,hcl,hcm⟩:=HA0.out.live hal
 obtain⟨LV,hLV⟩:∃x,R.lives.getD a 0=x:=⟨_,rfl⟩
 rw[hLV] at f0
 have hgL:gL<W2.heap.size:=cell_lt f0
 have hrbw:rb<W2.heap.size:=HA0.out.lt
 have q1:decide (inc<1)=true:=by simpa using hA
 have HH:=Lib.hid hA
 clear hA hLV
 go_quiet (fail)
 go_wp2
 refine bodyPost_ret (results_none rfl _ _ _) rfl ⟨rfl,?_⟩
 rw[HE.out]
 exact fence_end HG2.out (HA0.out.grown (grown_drewN _ _)) (turn_grown (grown_drewN _ _))
end
section
variable {bs : Nat → Prop} {W : World} {rb : Nat} {R : RTab}
set_option maxHeartbeats 8000000 in
set_option maxRecDepth 100000 in
theorem rdo_4B (h:RAt bs W rb R) (hbs:∀k,W.heap.size≤k→bs k) (ok:ROk R) (node client inc req ver code:Int) (key:ByteArray) (hn0:0≤node) (hn1:node<(R.lives.length:Int)) (hA:1≤inc) (hB:¬R.lives.getD node.toNat 0=inc):Calls Tryz.prog 60 #[.pointer (some ⟨rb,0,none⟩),encCmd ⟨4,node,client,inc,req,ver,key,code⟩] W fun e w'=>e = .returned (.tuple #[])∧RAt bs w' rb (rdo R ⟨4,node,client,inc,req,ver,key,code⟩)∧Turn bs W w':=by
 obtain⟨a,rfl⟩:=Int.eq_ofNat_of_zero_le hn0
 have hal:a<R.lives.length:=by omega
 have hat:((a:Nat):Int).toNat=a:=rfl
 rw[hat] at hB
 clear hat
 have HE:Hid (rdo R (⟨4,(a:Int),client,inc,req,ver,key,code⟩:Cmd)=R):=(show rdo R (⟨4,(a:Int),client,inc,req,ver,key,code⟩:Cmd)=R from by
  have h:(rnowB R (⟨4,(a:Int),client,inc,req,ver,key,code⟩:Cmd) && rwanted R ⟨key,ver⟩)=false:=by have e:rlife R (a:Int)=R.lives.getD a 0:=rfl;simp only[rnowB,e,decide_eq_false hB,Bool.and_false,Bool.false_and]
  unfold rdo rack
  simp only[show ¬((4:Int)=1) by decide,show ¬((4:Int)=2) by decide,show ¬((4:Int)=3) by decide,if_false,if_true,h,Bool.false_eq_true])
 obtain⟨W2,hE⟩:∃W2,(W.alloc (.cells #[.int .u8 4,.int .i64 (a:Int),.int .i64 client,.int .i64 inc,.int .i64 req,.int .i64 ver,.string key,.int .i64 code] 29)).alloc (.cells #[.string key,.int .i64 ver] 59)=W2:=⟨_,rfl⟩
 obtain⟨HG2,HB0,HB1,HA0,HBS,HT0⟩:=rdo_set h hbs _ _ W2 hE
 have HE:=Lib.hid hE
 clear hE
 have hrb0:rb<W.heap.size:=h.lt
 have OK:=Lib.hid ok
 clear h hbs ok
 simp only[encCmd]
 go_enter Tryz.func60,Tryz.ntmps60
 go_upto_region 14 with fail
 rw[HE.out]
 clear HE
 obtain⟨⟨d0,d1,d2,d3,d4,d5,d6,d7⟩,j0,j1,hw0,hw1⟩:=boxes HB0.out HB1.out HT0.out
 obtain⟨gL,capL,c4,f0,y0,hcl,hcm⟩:=HA0.out.live hal
 obtain⟨LV,hLV⟩:∃x,R.lives.getD a 0=x:=⟨_,rfl⟩
 rw[hLV] at f0
 have hgL:gL<W2.heap.size:=cell_lt f0
 have hrbw:rb<W2.heap.size:=HA0.out.lt
 have q1:decide (inc<1)=false:=by simp;omega
 have q2:(LV != inc)=true:=by rw[←hLV];simpa using hB
 have HH:=Lib.hid (And.intro hA hB)
 clear hA hB hLV
 go_quiet (fail)
 go_wp2
 refine bodyPost_ret (results_none rfl _ _ _) rfl ⟨rfl,?_⟩
 rw[HE.out]
 exact fence_end HG2.out (HA0.out.grown (grown_drewN _ _)) (turn_grown (grown_drewN _ _))
end
section
variable {bs : Nat → Prop} {W : World} {rb : Nat} {R : RTab}
set_option maxHeartbeats 8000000 in
set_option maxRecDepth 100000 in
theorem rdo_4C (h:RAt bs W rb R) (hbs:∀k,W.heap.size≤k→bs k) (ok:ROk R) (node client inc req ver code:Int) (key:ByteArray) (hn0:0≤node) (hn1:node<(R.lives.length:Int)) (hA:1≤inc) (hB:R.lives.getD node.toNat 0=inc) (hC:rwanted R (⟨key,ver⟩:ID)=false):Calls Tryz.prog 60 #[.pointer (some ⟨rb,0,none⟩),encCmd ⟨4,node,client,inc,req,ver,key,code⟩] W fun e w'=>e = .returned (.tuple #[])∧RAt bs w' rb (rdo R ⟨4,node,client,inc,req,ver,key,code⟩)∧Turn bs W w':=by
 obtain⟨a,rfl⟩:=Int.eq_ofNat_of_zero_le hn0
 have hal:a<R.lives.length:=by omega
 have hat:((a:Nat):Int).toNat=a:=rfl
 rw[hat] at hB
 clear hat
 have HE:Hid (rdo R (⟨4,(a:Int),client,inc,req,ver,key,code⟩:Cmd)=R):=(show rdo R (⟨4,(a:Int),client,inc,req,ver,key,code⟩:Cmd)=R from by
  have h:(rnowB R (⟨4,(a:Int),client,inc,req,ver,key,code⟩:Cmd) && rwanted R ⟨key,ver⟩)=false:=by rw[hC];simp
  unfold rdo rack
  simp only[show ¬((4:Int)=1) by decide,show ¬((4:Int)=2) by decide,show ¬((4:Int)=3) by decide,if_false,if_true,h,Bool.false_eq_true])
 obtain⟨W2,hE⟩:∃W2,(W.alloc (.cells #[.int .u8 4,.int .i64 (a:Int),.int .i64 client,.int .i64 inc,.int .i64 req,.int .i64 ver,.string key,.int .i64 code] 29)).alloc (.cells #[.string key,.int .i64 ver] 59)=W2:=⟨_,rfl⟩
 obtain⟨HG2,HB0,HB1,HA0,HBS,HT0⟩:=rdo_set h hbs _ _ W2 hE
 have HE:=Lib.hid hE
 clear hE
 have hrb0:rb<W.heap.size:=h.lt
 have OK:=Lib.hid ok
 clear h hbs ok
 simp only[encCmd]
 go_enter Tryz.func60,Tryz.ntmps60
 go_upto_region 14 with fail
 rw[HE.out]
 clear HE
 obtain⟨⟨d0,d1,d2,d3,d4,d5,d6,d7⟩,j0,j1,hw0,hw1⟩:=boxes HB0.out HB1.out HT0.out
 obtain⟨gL,capL,c4,f0,y0,hcl,hcm⟩:=HA0.out.live hal
 obtain⟨LV,hLV⟩:∃x,R.lives.getD a 0=x:=⟨_,rfl⟩
 rw[hLV] at f0
 have hgL:gL<W2.heap.size:=cell_lt f0
 have hrbw:rb<W2.heap.size:=HA0.out.lt
 have q1:decide (inc<1)=false:=by simp;omega
 have q2:(LV != inc)=false:=by rw[←hLV];simpa using hB
 have HH:=Lib.hid (And.intro hA hB)
 clear hA hB hLV
 have HWT:Hid (∀W',W2.grownBy W' none→Calls Tryz.prog 115 #[.pointer (some ⟨rb,0,none⟩),.agg #[.string key,.int .i64 ver]] W' fun e w'=>e = .returned (.bool false)∧W'.grownBy w' none):=(show ∀_,_ from fun W' hg=>by have h:=rwanted_at (HA0.out.grown hg) ⟨key,ver⟩;rw[hC] at h;exact h)
 have HC:=Lib.hid hC
 clear hC
 refine wp_region_quiet_ext (by kernel_rfl) (by kernel_rfl) ?_
 repeat (any_goals (first|go_big_quiet_step (((go_at_call 115;exact calls_ext (HWT.out _ (by repeat (first|exact grown_refl _|exact grown_drewN _ _|refine grown_ext' ?_ _|refine grown_alloc ?_ _|refine grown_drew ?_))))))|quiet_step (((go_at_call 115;exact calls_ext (HWT.out _ (by repeat (first|exact grown_refl _|exact grown_drewN _ _|refine grown_ext' ?_ _|refine grown_alloc ?_ _|refine grown_drew ?_))))))))
 refine wpQuiet_nil ?_
 intro _ hw'
 obtain⟨xx,hw''⟩:=hw'
 subst hw''
 go_wp2
 refine bodyPost_ret (results_none rfl _ _ _) rfl ⟨rfl,?_⟩
 rw[HE.out]
 exact fence_end HG2.out (HA0.out.grown (grown_ext _ _)) (turn_grown (grown_ext _ _))
end
section
variable {bs : Nat → Prop} {W : World} {rb : Nat} {R : RTab}
set_option maxHeartbeats 8000000 in
set_option maxRecDepth 100000 in
theorem rdo_4D (h:RAt bs W rb R) (hbs:∀k,W.heap.size≤k→bs k) (ok:ROk R) (node client inc req ver code:Int) (key:ByteArray) (hn0:0≤node) (hn1:node<(R.lives.length:Int)) (hA:1≤inc) (hB:R.lives.getD node.toNat 0=inc) (hC:rwanted R (⟨key,ver⟩:ID)=true) (hD:¬0≤pendI (rsays R ⟨(⟨key,ver⟩:ID),node,inc,false⟩) (⟨key,ver⟩:ID)):Calls Tryz.prog 60 #[.pointer (some ⟨rb,0,none⟩),encCmd ⟨4,node,client,inc,req,ver,key,code⟩] W fun e w'=>e = .returned (.tuple #[])∧RAt bs w' rb (rdo R ⟨4,node,client,inc,req,ver,key,code⟩)∧Turn bs W w':=by
 obtain⟨a,rfl⟩:=Int.eq_ofNat_of_zero_le hn0
 have hal:a<R.lives.length:=by omega
 have hat:((a:Nat):Int).toNat=a:=rfl
 rw[hat] at hB
 clear hat
 have hnow:(rnowB R (⟨4,(a:Int),client,inc,req,ver,key,code⟩:Cmd) && rwanted R ⟨key,ver⟩)=true:=by have e:rlife R (a:Int)=R.lives.getD a 0:=rfl;simp only[rnowB,e,decide_eq_true hA,decide_eq_true hB,hC,Bool.and_self]
 have HE:Hid (rdo R (⟨4,(a:Int),client,inc,req,ver,key,code⟩:Cmd)=(rsays R ⟨⟨key,ver⟩,(a:Int),inc,false⟩)):=(show rdo R (⟨4,(a:Int),client,inc,req,ver,key,code⟩:Cmd)=(rsays R ⟨⟨key,ver⟩,(a:Int),inc,false⟩) from by
  have h2:=pendI_none _ _ hD
  unfold rdo rack
  simp only[show ¬((4:Int)=1) by decide,show ¬((4:Int)=2) by decide,show ¬((4:Int)=3) by decide,if_false,if_true,hnow,h2])
 clear hnow
 obtain⟨W2,hE⟩:∃W2,(W.alloc (.cells #[.int .u8 4,.int .i64 (a:Int),.int .i64 client,.int .i64 inc,.int .i64 req,.int .i64 ver,.string key,.int .i64 code] 29)).alloc (.cells #[.string key,.int .i64 ver] 59)=W2:=⟨_,rfl⟩
 obtain⟨HG2,HB0,HB1,HA0,HBS,HT0⟩:=rdo_set h hbs _ _ W2 hE
 have HE:=Lib.hid hE
 clear hE
 have hrb0:rb<W.heap.size:=h.lt
 have OK:=Lib.hid ok
 clear h hbs ok
 simp only[encCmd]
 go_enter Tryz.func60,Tryz.ntmps60
 go_upto_region 14 with fail
 rw[HE.out]
 clear HE
 obtain⟨⟨d0,d1,d2,d3,d4,d5,d6,d7⟩,j0,j1,hw0,hw1⟩:=boxes HB0.out HB1.out HT0.out
 obtain⟨gL,capL,c4,f0,y0,hcl,hcm⟩:=HA0.out.live hal
 obtain⟨LV,hLV⟩:∃x,R.lives.getD a 0=x:=⟨_,rfl⟩
 rw[hLV] at f0
 have hgL:gL<W2.heap.size:=cell_lt f0
 have hrbw:rb<W2.heap.size:=HA0.out.lt
 have q1:decide (inc<1)=false:=by simp;omega
 have q2:(LV != inc)=false:=by rw[←hLV];simpa using hB
 have HH:=Lib.hid (And.intro hA hB)
 clear hA hB hLV
 have HWT:Hid (∀W',W2.grownBy W' none→Calls Tryz.prog 115 #[.pointer (some ⟨rb,0,none⟩),.agg #[.string key,.int .i64 ver]] W' fun e w'=>e = .returned (.bool true)∧W'.grownBy w' none):=(show ∀_,_ from fun W' hg=>by have h:=rwanted_at (HA0.out.grown hg) ⟨key,ver⟩;rw[hC] at h;exact h)
 have HC:=Lib.hid hC
 clear hC
 refine wp_region_quiet_ext (by kernel_rfl) (by kernel_rfl) ?_
 repeat (any_goals (first|go_big_quiet_step (((go_at_call 115;exact calls_ext (HWT.out _ (by repeat (first|exact grown_refl _|exact grown_drewN _ _|refine grown_ext' ?_ _|refine grown_alloc ?_ _|refine grown_drew ?_))))))|quiet_step (((go_at_call 115;exact calls_ext (HWT.out _ (by repeat (first|exact grown_refl _|exact grown_drewN _ _|refine grown_ext' ?_ _|refine grown_alloc ?_ _|refine grown_drew ?_))))))))
 refine wpQuiet_nil ?_
 intro _ hw'
 obtain⟨xx,hw''⟩:=hw'
 subst hw''
 have HAX:=Lib.hid (HA0.out.grown (grown_ext W2 xx))
 have HTX:Hid (Turn (fence bs W W2) W2 (ext W2 xx)):=(show Turn (fence bs W W2) W2 (ext W2 xx) from turn_grown (grown_ext _ _))
 clear d0 d1 d2 d3 d4 d5 d6 d7 j0 j1 hw0 hw1
 clear c4 f0 y0 hcl hcm hgL
 generalize ext W2 xx=w1 at *
 obtain⟨⟨d0,d1,d2,d3,d4,d5,d6,d7⟩,j0,j1,hw0,hw1⟩:=boxes HB0.out HB1.out HTX.out
 go_upto_region 16 with (go_at_call 116;refine(rsays_any HAX.out (HBS.out _ HTX.out.size) ⟨⟨key,ver⟩,(a:Int),inc,false⟩ (by have:=OK.out.lh;omega)).mono ?_;rintro e w2 ⟨rfl,hr,ht⟩;clear d0 d1 d2 d3 d4 d5 d6 d7 j0 j1 hw0 hw1;have HA1:=Lib.hid hr;have HT1:=Lib.hid (turn_trans HTX.out ht);clear hr ht;obtain⟨⟨d0,d1,d2,d3,d4,d5,d6,d7⟩,j0,j1,hw0,hw1⟩:=boxes HB0.out HB1.out HT1.out)
 have HPE:Hid (Calls Tryz.prog 117 #[.pointer (some ⟨rb,0,none⟩),.agg #[.string key,.int .i64 ver]] w2 fun e w'=>e = .returned (.int .i64 (pendI (rsays R ⟨⟨key,ver⟩,(a:Int),inc,false⟩) ⟨key,ver⟩))∧w2.grownBy w' none):=(show Calls _ _ _ _ _ from rpend_at HA1.out ⟨key,ver⟩)
 generalize hP:pendI (rsays R ⟨⟨key,ver⟩,(a:Int),inc,false⟩) ⟨key,ver⟩=P at *
 have HP:=Lib.hid hP
 clear hP
 go_upto_region 17 with (go_at_call 117;refine HPE.out.mono ?_;rintro e w3 ⟨rfl,hg⟩;clear d0 d1 d2 d3 d4 d5 d6 d7 j0 j1 hw0 hw1;have HA2:=Lib.hid (HA1.out.grown hg);have HT2:=Lib.hid (turn_after HT1.out hg);clear hg;obtain⟨⟨d0,d1,d2,d3,d4,d5,d6,d7⟩,j0,j1,hw0,hw1⟩:=boxes HB0.out HB1.out HT2.out)
 have q3:decide (P<0)=true:=by simp;omega
 have HDD:=Lib.hid hD
 clear hD
 go_quiet (fail)
 go_wp2
 refine bodyPost_ret (results_none rfl _ _ _) rfl ⟨rfl,?_⟩
 rw[HE.out]
 exact fence_end HG2.out (HA2.out.grown (grown_drewN _ _)) (turn_after HT2.out (grown_drewN _ _))
end
end Go.Proofs.YtjfelfjobeeenaaGreat
