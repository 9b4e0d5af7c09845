/- DeficitKnown: the walk: it answers true. Conditions: none. A law that leaves all old memory alone: its row's last step. Conditions: none. -/
import Derived.Test.YtjfelfjobeeenaaGreatF39
import Derived.Test.YtjfelfjobeeenaaGreatRows
import Derived.WalkKit
import Derived.ProofKit
import Derived.OpenShut
set_option linter.unusedSimpArgs false
set_option linter.unusedVariables false
namespace Go.Proofs.YtjfelfjobeeenaaGreat
open Go.RowKit Go.Sf Go.Shelf
theorem mis_at {W:World} {g:Nat} {c:Array Value} {t:TypeId} {fr:Nat × Nat} (h:W.heap[g]? = some (.cells c t fr)) (l:List Int) (hl:(l.map (Value.int .i64)).toArray=c):∀j x,l[j]? = some x→W.cell? ⟨g,j,none⟩=some (.int .i64 x):=fun j x hx=>by
 rw[cell_block h,←hl]
 simp[hx]
theorem al2 (W:World) (c d:Array Value) (t:TypeId):((W.alloc (.cells c t)).alloc (.cells d t)).heap[W.heap.size+1]? = some (.cells d t (0,0))∧W.grownBy ((W.alloc (.cells c t)).alloc (.cells d t)) none:=by
 constructor
 ·have:=World.alloc_heap_new (W.alloc (.cells c t)) (.cells d t)
  rwa [World.size_alloc] at this
 ·exact grown_alloc (World.grownBy_alloc _ _ _) _
theorem srow_lit {α:Type} {W:World} {E:TypeId} {sz:Nat} {enc:α→List Value} {b:Nat} (l:List α) (n:Nat) (hn:n=l.length) (hlen:(l.flatMap enc).length=n*sz) (hmax:n≤1000000) (h:W.heap[b]? = some (.cells (l.flatMap enc).toArray E (0,0))):SRow W E sz enc (.slice (some ⟨b,0,none⟩) n n) l:=by
 subst hn
 exact⟨hlen,Or.inr ⟨b,_,_,rfl,Nat.zero_le _,h,Nat.le_refl _,by unfold maxLen;omega,by simpa using hlen,(show List.take (l.length*sz) (l.flatMap enc)=l.flatMap enc from by rw[←hlen];exact List.take_length)⟩⟩
theorem key_le (k:Nat):((⟨#[97,98,99]⟩:ByteArray).extract (k-1) k).size≤64:=by
 rw[ByteArray.size_extract]
 have:(⟨#[97,98,99]⟩:ByteArray).size=3:=rfl
 omega
set_option maxHeartbeats 16000000 in
set_option maxRecDepth 100000 in
theorem dknown_any (w:World):Calls Tryz.prog 5 #[] w fun e w'=>e = .returned (.bool true)∧w.grownBy w' none:=by
 obtain⟨i0,hi,hz0,hz1,hz2⟩:=info_parts infoCmd27
 go_enter Tryz.func5,Tryz.ntmps5
 go_upto_region 3 with (first
  | (go_at_call 19;refine(nil_needs27 _).mono ?_;rintro e w1 ⟨rfl,hg⟩;have HG1:=Lib.hid hg;clear hg)
  | (go_at_call 24;refine(nil_healthy27 _).mono ?_;rintro e w2 ⟨rfl,hg⟩;have HG2:=Lib.hid (grown_trans HG1.out hg);clear hg)
  | (go_at_call 18;refine(nil_tasks27 _).mono ?_;rintro e w3 ⟨p3,c3,rfl,hg⟩;have HG3:=Lib.hid (grown_trans HG2.out hg);clear hg)
  | (go_at_call 20;refine(nil_next27 _).mono ?_;rintro e w4 ⟨p4,c4,rfl,hg⟩;have HG4:=Lib.hid (grown_trans HG3.out hg);clear hg)
  | (go_at_call 25;refine(nil_lost27 _).mono ?_;rintro e w5 ⟨p5,c5,rfl,hg⟩;have HG5:=Lib.hid (grown_trans HG4.out hg);clear hg))
 clear HG1 HG2 HG3 HG4
 go_wp2_with fail
 refine(lawid_any _ _ _).mono ?_
 rintro e w1 ⟨rfl,hg1⟩
 have HG1:=Lib.hid hg1
 clear hg1
 go_wp2_with fail
 refine(lawid_any _ _ _).mono ?_
 rintro e w2 ⟨rfl,hg2⟩
 have HG2:=Lib.hid hg2
 clear hg2
 go_wp2_with fail
 refine(lawid_any _ _ _).mono ?_
 rintro e w3 ⟨rfl,hg3⟩
 have HG3:=Lib.hid hg3
 clear hg3
 go_wp2_with fail
 refine(lawid_any _ _ _).mono ?_
 rintro e w4 ⟨rfl,hg4⟩
 have HG4:=Lib.hid hg4
 clear hg4
 go_wp2_with fail
 refine(lawid_any _ _ _).mono ?_
 rintro e w6 ⟨rfl,hg6⟩
 have HG6:=Lib.hid hg6
 clear hg6
 go_upto_region 4 with fail
 obtain⟨W6,hW6⟩:∃x:World,x=w6.alloc (.cells #[.string ⟨#[98]⟩,.int .i64 3,.slice (some ⟨w1.heap.size,0,none⟩) 1 1,.slice (some ⟨w1.heap.size+1,0,none⟩) 3 3,.string ⟨#[97]⟩,.int .i64 9,.slice (some ⟨w2.heap.size,0,none⟩) 2 2,.slice (some ⟨w2.heap.size+1,0,none⟩) 1 1,.string ⟨#[97]⟩,.int .i64 3,.slice (some ⟨w3.heap.size,0,none⟩) 1 1,.slice (some ⟨w3.heap.size+1,0,none⟩) 2 2,.string ⟨#[98]⟩,.int .i64 3,.slice (some ⟨w4.heap.size,0,none⟩) 1 1,.slice (some ⟨w4.heap.size+1,0,none⟩) 1 1,.string ⟨#[]⟩,.int .i64 0,.slice none 0 0,.slice none 0 0] 71):=⟨_,rfl⟩
 rw[←hW6]
 have g6:w6.grownBy W6 none:=by rw[hW6];exact World.grownBy_alloc _ _ _
 have f0:W6.heap[w6.heap.size]? = some (.cells #[.string ⟨#[98]⟩,.int .i64 3,.slice (some ⟨w1.heap.size,0,none⟩) 1 1,.slice (some ⟨w1.heap.size+1,0,none⟩) 3 3,.string ⟨#[97]⟩,.int .i64 9,.slice (some ⟨w2.heap.size,0,none⟩) 2 2,.slice (some ⟨w2.heap.size+1,0,none⟩) 1 1,.string ⟨#[97]⟩,.int .i64 3,.slice (some ⟨w3.heap.size,0,none⟩) 1 1,.slice (some ⟨w3.heap.size+1,0,none⟩) 2 2,.string ⟨#[98]⟩,.int .i64 3,.slice (some ⟨w4.heap.size,0,none⟩) 1 1,.slice (some ⟨w4.heap.size+1,0,none⟩) 1 1,.string ⟨#[]⟩,.int .i64 0,.slice none 0 0,.slice none 0 0] 71 (0,0)):=by rw[hW6];exact World.alloc_heap_new _ _
 have k1:=al2 w1 #[.int .i64 4] #[.int .i64 2,.int .i64 1,.int .i64 2] 3
 have k2:=al2 w2 #[.int .i64 1,.int .i64 2] #[.int .i64 0] 3
 have k3:=al2 w3 #[.int .i64 5] #[.int .i64 1,.int .i64 7] 3
 have k4:=al2 w4 #[.int .i64 1] #[.int .i64 2] 3
 have j4:=grown_trans HG6.out g6
 have j3:=grown_trans HG4.out (grown_trans k4.2 j4)
 have j2:=grown_trans HG3.out (grown_trans k3.2 j3)
 have j1:=grown_trans HG2.out (grown_trans k2.2 j2)
 have f1:=kept_block k1.1 j1
 have f2:=kept_block k2.1 j2
 have f3:=kept_block k3.1 j3
 have f4:=kept_block k4.1 j4
 have hNR:NRow W6 (.slice (some ⟨w6.heap.size,0,none⟩) 5 5) dkL:=⟨_,5,rfl,Or.inr ⟨_,rfl,fun i nd hi=>by
  match i,hi with
  | 0,hi=>
   obtain rfl:(⟨⟨⟨#[98]⟩,3⟩,1,[2,1,2]⟩:Nd)=nd:=Option.some.inj hi
   exact⟨_,_,_,_,⟨(cell_block f0 0).trans rfl,(cell_block f0 1).trans rfl,(cell_block f0 2).trans rfl,(cell_block f0 3).trans rfl,Or.inr ⟨_,rfl,mis_at f1 _ rfl⟩⟩⟩
  | 1,hi=>
   obtain rfl:(⟨⟨⟨#[97]⟩,9⟩,2,[0]⟩:Nd)=nd:=Option.some.inj hi
   exact⟨_,_,_,_,⟨(cell_block f0 4).trans rfl,(cell_block f0 5).trans rfl,(cell_block f0 6).trans rfl,(cell_block f0 7).trans rfl,Or.inr ⟨_,rfl,mis_at f2 _ rfl⟩⟩⟩
  | 2,hi=>
   obtain rfl:(⟨⟨⟨#[97]⟩,3⟩,1,[1,7]⟩:Nd)=nd:=Option.some.inj hi
   exact⟨_,_,_,_,⟨(cell_block f0 8).trans rfl,(cell_block f0 9).trans rfl,(cell_block f0 10).trans rfl,(cell_block f0 11).trans rfl,Or.inr ⟨_,rfl,mis_at f3 _ rfl⟩⟩⟩
  | 3,hi=>
   obtain rfl:(⟨⟨⟨#[98]⟩,3⟩,1,[2]⟩:Nd)=nd:=Option.some.inj hi
   exact⟨_,_,_,_,⟨(cell_block f0 12).trans rfl,(cell_block f0 13).trans rfl,(cell_block f0 14).trans rfl,(cell_block f0 15).trans rfl,Or.inr ⟨_,rfl,mis_at f4 _ rfl⟩⟩⟩
  | 4,hi=>
   obtain rfl:(⟨⟨⟨#[]⟩,0⟩,0,[]⟩:Nd)=nd:=Option.some.inj hi
   exact⟨_,_,_,_,⟨(cell_block f0 16).trans rfl,(cell_block f0 17).trans rfl,(cell_block f0 18).trans rfl,(cell_block f0 19).trans rfl,Or.inl rfl⟩⟩
  | n+5,hi=>simp[dkL] at hi⟩⟩
 have HNR:=Lib.hid hNR
 have HW6:Hid (w.grownBy W6 none):=(show w.grownBy _ none from grown_trans HG5.out (grown_trans HG1.out (grown_trans k1.2 j1)))
 clear hNR f0 f1 f2 f3 f4 k1 k2 k3 k4 j1 j2 j3 j4 g6 hW6 HG1 HG2 HG3 HG4 HG5 HG6
 generalize w6.heap.size=b6 at *
 generalize w1.heap.size=b1 at *
 generalize w2.heap.size=b2 at *
 generalize w3.heap.size=b3 at *
 generalize w4.heap.size=b4 at *
 go_wp2_with fail
 refine(lawid_any _ _ _).mono ?_
 rintro e w7 ⟨rfl,hg7⟩
 have HG7:=Lib.hid hg7
 clear hg7
 go_wp2_with fail
 refine(lawid_any _ _ _).mono ?_
 rintro e w8 ⟨rfl,hg8⟩
 have HG8:=Lib.hid (grown_trans HG7.out hg8)
 clear hg8 HG7
 go_upto_region 5 with fail
 obtain⟨W9,hW9⟩:∃x:World,x=w8.alloc (.cells #[.string ⟨#[113]⟩,.int .i64 1,.int .i64 7,.int .i64 0,.string ⟨#[98]⟩,.int .i64 3,.int .i64 5,.int .i64 1] 56):=⟨_,rfl⟩
 rw[←hW9]
 have g9:w8.grownBy W9 none:=by rw[hW9];exact World.grownBy_alloc _ _ _
 have f9:W9.heap[w8.heap.size]? = some (.cells #[.string ⟨#[113]⟩,.int .i64 1,.int .i64 7,.int .i64 0,.string ⟨#[98]⟩,.int .i64 3,.int .i64 5,.int .i64 1] 56 (0,0)):=by rw[hW9];exact World.alloc_heap_new _ _
 have HB9:=Lib.hid ((srow_lit (sz:=4) (enc:=tskCells) dkB 2 rfl rfl (by omega) f9).lread tsk_len)
 have HN9:=Lib.hid (HNR.out.grown (grown_trans HG8.out g9))
 have HW9:=Lib.hid (grown_trans HW6.out (grown_trans HG8.out g9))
 clear g9 f9 hW9 HG8 HNR HW6
 generalize w8.heap.size=b8 at *
 have HD1:=Lib.hid (fun (W:World) (m:Int) (hg:W9.grownBy W none) (h1 : -1000≤m∧m≤1000)=>dtasks_any (HN9.out.grown hg) (HB9.out.grown hg) (by decide) (by decide) (by decide) (by decide) m m h1)
 have HD2:=Lib.hid (fun (W:World) (m:Int) (hg:W9.grownBy W none)=>dtasks_any (HN9.out.grown hg) (lread_nilT W) (by decide) (by decide) (by decide) (by decide) m 1 (by omega))
 have HD3:=Lib.hid (fun (W:World) (m:Int) (hg:W9.grownBy W none)=>dtasks_any (nrow_nil W) (HB9.out.grown hg) (by decide) (by decide) (by decide) (by decide) m 0 (by omega))
 go_wp2
 go_loopw [3] (fun s wl=>∃m:Int,-1≤m∧m≤9∧s = .int .i64 m∧Hid (W9.grownBy wl none)) (fun s _=>((9:Int)-intOf s).toNat)
 case atStart=>exact⟨-1,by omega,by omega,rfl,(show W9.grownBy W9 none from grown_refl _)⟩
 case round=>
  obtain⟨m,hm1,hm2,rfl,hG⟩:=hrel
  have HG:=Lib.hid hG.out
  clear hG
  by_cases hm:m<9
  ·have HM9:Hid (-1000≤m∧m≤1000):=(show _∧_ from by omega)
   go_wp2_with (go_at_call 27;first
    | (have hcc:=HD1.out _ m HG.out HM9.out;(with_reducible refine hcc.mono ?_);clear hcc;rintro e x1 ⟨rfl,hg⟩;have HX1:=Lib.hid (grown_trans HG.out hg);clear hg)
    | (have hcc:=HD2.out _ m HX1.out;(with_reducible refine hcc.mono ?_);clear hcc;rintro e x2 ⟨rfl,hg⟩;have HX2:=Lib.hid (grown_trans HX1.out hg);clear hg)
    | (have hcc:=HD3.out _ m HX2.out;(with_reducible refine hcc.mono ?_);clear hcc;rintro e x3 ⟨rfl,hg⟩;have HX3:=Lib.hid (grown_trans HX2.out hg);clear hg))
   go_roundw
   case rel=>exact⟨m+1,by omega,by omega,by go_num,HX3⟩
   case measure=>simp[intOf];omega
  ·have HWA:=Lib.hid (grown_trans HW9.out HG.out)
   clear HD1 HD2 HD3 HN9 HB9 HG HW9
   obtain⟨W1,hW1⟩:∃x:World,x=wr:=⟨_,rfl⟩
   rw[←hW1] at HWA ⊢
   clear hW1
   have H0:Hid (GoodC W1 (.slice none 0 0) [] W1):=(show GoodC _ _ _ _ from ⟨Grows.start _ _ _ _,fun c hc=>by simp at hc⟩)
   go_wp2
   go_loopw [4,5] (fun x i wl=>∃(k:Nat) (cs:List Cmd),k≤4∧cs.length≤2*k∧i = .int .i64 k∧Hid (GoodC W1 x cs wl)) (fun _ i _=>4-(intOf i).toNat)
   case atStart=>exact⟨0,[],Nat.zero_le _,by simp,rfl,H0⟩
   case round=>
    clear H0
    obtain⟨k,cs,hk,hcl,rfl,hC⟩:=hrel
    obtain⟨po,co,rfl,hco,hlo⟩:=hC.out.1.row.form
    have HC:=Lib.hid hC.out
    clear hC hco hlo
    by_cases hk4:k<4
    ·go_wp2_with (at_builtin;refine wpList_sapp (l:=cs) (m:=[⟨1,0,0,0,0,0,⟨#[]⟩,0⟩,⟨2,(k:Int),0,(k:Int)+1,0,0,⟨#[]⟩,0⟩]) _ rfl (.tmp 80) (.tmp 86) 37 rfl cmd_len oneCmd i0 _ 72 Tryz.underlying37 hi hz0 hz1 hz2 rfl (by decide) (by decide) rfl ?a1 rfl ?a2 ?a3 (cs.length+2) (by simp) ?_)
     case a1=>exact(HC.out.1.more (World.grownBy_alloc _ _ _)).row
     case a2=>exact yrow_cells _ _ rfl (heap_alloc_new _ _)
     case a3=>simp;omega
     intro p1 cap1 w1 ha1
     have HC1:=Lib.hid (HC.out.app (World.grownBy_alloc _ _ _) ha1 (fun c hc=>by simp at hc;rcases hc with rfl|rfl <;> exact Nat.zero_le _))
     clear ha1
     go_wp2
     go_roundw
     case rel=>exact⟨k+1,_,by omega,by simp;omega,by go_num,HC1⟩
     case measure=>simp[intOf];omega
    ·have HC0:Hid (cs.length≤8):=(show _≤_ from by omega)
     have hk44:¬(k:Int)<4:=by omega
     clear hk4
     go_wp2
     go_loopw [4,6] (fun x i wl=>∃(k:Nat) (cs:List Cmd),1≤k∧k≤4∧cs.length≤4+4*k∧i = .int .i64 k∧Hid (GoodC W1 x cs wl)) (fun _ i _=>4-(intOf i).toNat)
     case atStart=>exact⟨1,cs,by omega,by omega,by have:=HC0.out;omega,rfl,HC⟩
     case round=>
      clear HC HC0
      obtain⟨k,cs,hk1,hk,hcl,rfl,hC⟩:=hrel
      obtain⟨po,co,rfl,hco,hlo⟩:=hC.out.1.row.form
      have HC:=Lib.hid hC.out
      clear hC
      by_cases hk4:k≤3
      ·have HKS:Hid (((⟨#[97,98,99]⟩:ByteArray).extract (k-1) k).size≤64):=(show _≤_ from key_le k)
       go_wp2_with (at_builtin;refine wpList_sapp (l:=cs) (m:=[⟨3,0,1,0,(k:Int),0,(⟨#[97,98,99]⟩:ByteArray).extract (k-1) k,0⟩]) _ rfl (.tmp 92) (.tmp 99) 37 rfl cmd_len oneCmd i0 _ 72 Tryz.underlying37 hi hz0 hz1 hz2 rfl (by decide) (by decide) rfl ?b1 rfl ?b2 ?b3 (cs.length+1) (by simp) ?_)
       case b1=>exact(HC.out.1.more (World.grownBy_alloc _ _ _)).row
       case b2=>exact yrow_cells _ _ rfl (heap_alloc_new _ _)
       case b3=>simp;omega
       intro p1 cap1 w1 ha1
       have HC1:=Lib.hid (HC.out.app (World.grownBy_alloc _ _ _) ha1 (fun c hc=>by simp at hc;subst hc;exact HKS.out))
       clear ha1
       obtain⟨cs1,hcs1⟩:∃x:List Cmd,x=cs ++ [⟨3,0,1,0,(k:Int),0,(⟨#[97,98,99]⟩:ByteArray).extract (k-1) k,0⟩]:=⟨_,rfl⟩
       have hl1:cs.length+1=cs1.length:=by rw[hcs1];simp
       rw[hl1]
       rw[←hcs1,hl1] at HC1
       have HL1:Hid (cs1.length≤5+4*k):=(show _≤_ from by omega)
       clear hcs1 hl1 HC
       go_wp2
       go_loopw [4,7] (fun x i wl=>∃(j:Nat) (ds:List Cmd),j≤k∧ds.length≤5+4*k+j∧i = .int .i64 j∧Hid (GoodC W1 x ds wl)) (fun _ i _=>k-(intOf i).toNat)
       case atStart=>exact⟨0,cs1,Nat.zero_le _,HL1.out,rfl,HC1⟩
       case round=>
        clear HC1 HL1 hlo hco hcl
        obtain⟨j,ds,hj,hdl,rfl,hC⟩:=hrel
        obtain⟨pd,cd,rfl,hcd,hld⟩:=hC.out.1.row.form
        have HCD:=Lib.hid hC.out
        clear hC
        by_cases hjk:j<k
        ·go_wp2_with (at_builtin;refine wpList_sapp (l:=ds) (m:=[⟨4,(j:Int),0,(j:Int)+1,0,(k:Int),(⟨#[97,98,99]⟩:ByteArray).extract (k-1) k,0⟩]) _ rfl (.tmp 106) (.tmp 116) 37 rfl cmd_len oneCmd i0 _ 72 Tryz.underlying37 hi hz0 hz1 hz2 rfl (by decide) (by decide) rfl ?d1 rfl ?d2 ?d3 (ds.length+1) (by simp) ?_)
         case d1=>exact(HCD.out.1.more (World.grownBy_alloc _ _ _)).row
         case d2=>exact yrow_cells _ _ rfl (heap_alloc_new _ _)
         case d3=>simp;omega
         intro p1 cap1 w1 ha1
         have HC2:=Lib.hid (HCD.out.app (World.grownBy_alloc _ _ _) ha1 (fun c hc=>by simp at hc;subst hc;exact HKS.out))
         clear ha1
         go_wp2
         go_roundw
         case rel=>exact⟨j+1,_,by omega,by simp;omega,by go_num,HC2⟩
         case measure=>simp[intOf];omega
        ·have hdl2:ds.length≤4+4*(k+1):=by omega
         go_wp2
         go_roundw
         case rel=>exact⟨k+1,ds,by omega,by omega,hdl2,by go_num,HCD⟩
         case measure=>simp[intOf];omega
      ·have hcl2:cs.length≤20:=by omega
       have hk5:¬(k:Int)≤3:=by omega
       go_wp2_with (at_builtin;refine wpList_sapp (l:=cs) (m:=[⟨1,0,0,0,0,0,⟨#[]⟩,0⟩,⟨2,0,0,5,0,0,⟨#[]⟩,0⟩,⟨6,0,2,0,1,0,⟨#[98]⟩,0⟩]) _ rfl (.tmp 118) (.tmp 122) 37 rfl cmd_len oneCmd i0 _ 72 Tryz.underlying37 hi hz0 hz1 hz2 rfl (by decide) (by decide) rfl ?e1 rfl ?e2 ?e3 (cs.length+3) (by simp) ?_)
       case e1=>exact(HC.out.1.more (World.grownBy_alloc _ _ _)).row
       case e2=>exact yrow_cells _ _ rfl (heap_alloc_new _ _)
       case e3=>omega
       intro p1 cap1 w1 ha1
       have HC1:=Lib.hid (HC.out.app (World.grownBy_alloc _ _ _) ha1 (fun c hc=>by simp at hc;rcases hc with rfl|rfl|rfl <;> decide))
       clear ha1
       obtain⟨cs1,hcs1⟩:∃x:List Cmd,x=cs ++ [⟨1,0,0,0,0,0,⟨#[]⟩,0⟩,⟨2,0,0,5,0,0,⟨#[]⟩,0⟩,⟨6,0,2,0,1,0,⟨#[98]⟩,0⟩]:=⟨_,rfl⟩
       obtain⟨q,hq⟩:∃q,q=cs.length+3:=⟨_,rfl⟩
       have hl1:q=cs1.length:=by rw[hcs1,hq];simp
       have hq23:q≤23:=by omega
       rw[←hq]
       rw[←hcs1,←hq] at HC1
       obtain⟨_,_,hf,hcap,hlcap⟩:=HC1.out.1.row.form
       injection hf with hf1 hf2 hf3
       subst hf1 hf3
       rw[←hl1] at hlcap
       have HL1:=Lib.hid hl1
       have HWB:=Lib.hid (grown_trans HWA.out HC1.out.1.grown)
       clear hcs1 hl1 HC hq hf2 hcl2 hcl hk5 hk4 hk hk1 hlo hco
       have HDN:=Lib.hid (fun (W:World) (i c':Nat) (hg:w1.grownBy W none) (hi:i≤q)=>dneeds_any 3 0 i (by omega) (by omega) (by omega) _ _ W (HC1.out.row i (by rw[←HL1.out];exact hi) W hg c'))
       have HEN:=Lib.hid (fun (W:World) (i c':Nat) (hg:w1.grownBy W none) (hi:i≤q)=>ends_any 3 0 i (by omega) (by omega) (by omega) _ _ W (HC1.out.row i (by rw[←HL1.out];exact hi) W hg c'))
       go_wp2
       go_loopw [8] (fun i wl=>∃k:Nat,k≤q+1∧i = .int .i64 k∧Hid (w1.grownBy wl none)) (fun i _=>q+1-(intOf i).toNat)
       case atStart=>exact⟨0,Nat.zero_le _,rfl,(show w1.grownBy w1 none from grown_refl _)⟩
       case round=>
        obtain⟨i,hi9,rfl,hG⟩:=hrel
        have HG:=Lib.hid hG.out
        clear hG
        by_cases hiq:i≤q
        ·have HIQ:=Lib.hid hiq
         have hic:(i:Int)≤(cap1:Int):=by omega
         have hw8:IntKind.u8.wrap (i:Int)=(i:Int):=by rw[IntKind.wrap_u8];omega
         go_wp2_with (first
          | (go_at_call 28;refine(HDN.out _ i _ HG.out HIQ.out).mono ?_;rintro e x1 ⟨rfl,hg⟩;have HX1:=Lib.hid (grown_trans HG.out hg);clear hg)
          | (go_at_call 4;refine(HEN.out _ i _ HX1.out HIQ.out).mono ?_;rintro e x2 ⟨rfl,hg⟩;have HX2:=Lib.hid (grown_trans HX1.out hg);clear hg))
         go_roundw
         case rel=>exact⟨i+1,by omega,by go_num,HX2⟩
         case measure=>simp[intOf];omega
        ·have hiq2:¬(i:Int)≤(q:Int):=by omega
         go_wp2_with (go_at_call 17;refine(works27_any _).mono ?_;rintro e x3 ⟨rfl,hg⟩;have HX3:=Lib.hid hg;clear hg)
         go_ret
         exact⟨rfl,grown_trans (grown_trans HWB.out HG.out) HX3.out⟩
end Go.Proofs.YtjfelfjobeeenaaGreat
namespace Go.Sf
open Go.ChangeShapes Go.WideShapes Go.ChangeAt Go.RowKit
variable {P : Program} {H : Type} {enc : TypeId × Value → H}
theorem post_of_grown {f:Func} {s:ChangeSpec} {apart fresh handsOn again:Bool} {W W':World} {args:Array Value} {v:Value} {ds gs:List (DataW H)} {before pa pv:List MemPlace}
  (hW:DataW.Whole enc P f.params.toList s.vars apart W args.toList ds gs before)
  (hres:∀(b:Nat) (sp:Nat→Bool) (hd:Bool),DataW.TrodAll enc P W' b sp hd f.resultTypes.toList (v.resultList f.resultTypes.size) (s.fn H (ds++gs)).results [])
  (hargs:∀sp:Nat→Bool,(∀p∈before,sp p.block=true)→DataW.TrodAll enc P W' 0 sp true f.params.toList args.toList (s.fn H (ds++gs)).args pa)
  (hvars:∀sp:Nat→Bool,(∀p∈before,sp p.block=true)→DataW.TrodVars enc P W' sp s.vars (s.fn H (ds++gs)).vars pv)
  (hps:before=pa++pv) (hg:W.grownBy W' none)
  (hok:∀(j:Nat) (t:TypeId) (r:Value),f.resultTypes[j]? = some t→(v.resultList f.resultTypes.size)[j]? = some r→Value.okWide P W' .any 0 t r) :
  s.post enc P f apart fresh handsOn again W args v W':=by
 have hold:∀p∈before,(fun b=>decide (b<W.heap.size)) p.block=true:=fun p hp=>by simpa using hW.lt p hp
 have hlt:∀p∈before,p.block<W.heap.size:=fun p hp=>hW.lt p hp
 refine⟨ds,gs,before,[],pa,pv,hW,hres _ _ _,hargs _ hold,hvars _ hold,⟨hg.os,hg.output,fun i hi=>by rw[hg.block i hi (by simp)];exact(World.keptBut_refl W (fun p=>p∈before∧(p∈[]∨p∈pa∨p∈pv))).2.2 i hi⟩,fun _=>?_⟩
 obtain⟨_,_,_,_,_,hz,hn⟩:=hW
 refine⟨hok,_,_,([]++pa)++pv,⟨[]++pa,pv,trodAll_append (hargs _ (fun _ _=>rfl)) (hres _ _ _),hvars _ (fun _ _=>rfl),rfl,?_,?_⟩,?_⟩
 ·intro b off hp
  have hp':MemPlace.cell b off∈before:=by rw[hps];simpa using hp
  rw[World.frozen?_of_block (a:=⟨b,off,none⟩) (hg.block b (hlt _ hp') (by simp))]
  exact hz b off hp'
 ·intro ha
  have:=hn ha
  rw[hps] at this
  simpa using this
 ·intro p hp _
  rw[hps]
  simpa using hp
end Go.Sf
