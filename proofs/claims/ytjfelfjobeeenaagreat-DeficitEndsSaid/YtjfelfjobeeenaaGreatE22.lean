/- deficit.Needs: walked. Conditions: a table that commands have made. What Missing's closure answers: does a node hold an id? Conditions: a table that lies in memory; the closure's boxes. slices.IndexFunc and slices.DeleteFunc at ids, over a row of the call's own: walked. Conditions: the predicate answers a plain one in whatever world is grown from here, but for the row. slices.DeleteFunc at ids, over a row: walked. Conditions: the predicate answers a plain one wherever these blocks, none of which is the row's, lie as they lay. -/
import Derived.Test.YtjfelfjobeeenaaGreatE21
import Derived.Outline
import Derived.Test.YtjfelfjobeeenaaGreatE10
import Derived.Test.YtjfelfjobeeenaaGreatE19
import Derived.Laws.IdiomCopy
set_option linter.unusedSimpArgs false
set_option linter.unusedVariables false
namespace Go.Proofs.YtjfelfjobeeenaaGreat
open Go.RowKit Go.Sf Go.Shelf
theorem id_at {W:World} {v:Value} {l:List ID} {base k:Nat} {i:ID} (h:IdRow base W v l) (hk:l[k]? = some i):∃g cap,v = .slice (some ⟨g,0,none⟩) l.length cap∧W.cell? ⟨g,k*2,none⟩=some (.string i.key)∧W.cell? ⟨g,k*2+1,none⟩=some (.int .i64 i.ver):=by
 obtain⟨h1,rfl⟩:=List.getElem?_eq_some_iff.1 hk
 have hS:SRow W 54 2 idCells v l:=⟨h.1,h.2.imp id fun ⟨b,cap,cur,e,_,rest⟩=>⟨b,cap,cur,e,Nat.zero_le _,rest⟩⟩
 rcases hS.at (fun x=>(rfl:(idCells x).length=2)) with h0|⟨g,cap,e,hc,_⟩
 ·subst h0;simp at h1
 ·exact⟨g,cap,e,by simpa using hc k h1 0 _ rfl,hc k h1 1 _ rfl⟩
theorem idRow_form {W:World} {v:Value} {l:List ID} {base:Nat} (h:IdRow base W v l):∃p cap,v = .slice p l.length cap:=by
 rcases h.2 with ⟨e,h0⟩|⟨g,c,cur,e,_⟩
 ·exact⟨none,0,by rw[e,h0]⟩
 ·exact⟨_,_,e⟩
theorem nbox_set {wa w3:World} {bi:Nat} {key:ByteArray} {ver:Int} {ph:Option Addr} {n ch:Nat} {xs:List Value} (hs:wa.heap.size=bi+1) (hg:wa.grownBy w3 none) {z0 z1 z2 z3:Value} (zb:w3.heap[wa.heap.size]? = some (.cells #[z0,z1,z2,z3] 71 (0,0))) (hr:w3.ownsRow 0 3 1 (.slice ph n ch) n xs) :
  bi<wa.heap.size∧wa.heap.size<((((w3.setCell ⟨wa.heap.size,0,none⟩ (.string key)).setCell ⟨wa.heap.size,1,none⟩ (.int .i64 ver)).setCell ⟨wa.heap.size,2,none⟩ (.slice ph n ch)).setCell ⟨wa.heap.size,3,none⟩ (.slice none 0 0)).heap.size∧
   ((((w3.setCell ⟨wa.heap.size,0,none⟩ (.string key)).setCell ⟨wa.heap.size,1,none⟩ (.int .i64 ver)).setCell ⟨wa.heap.size,2,none⟩ (.slice ph n ch)).setCell ⟨wa.heap.size,3,none⟩ (.slice none 0 0)).heap[wa.heap.size]? = some (.cells #[.string key,.int .i64 ver,.slice ph n ch,.slice none 0 0] 71 (0,0))∧
   wa.grownBy ((((w3.setCell ⟨wa.heap.size,0,none⟩ (.string key)).setCell ⟨wa.heap.size,1,none⟩ (.int .i64 ver)).setCell ⟨wa.heap.size,2,none⟩ (.slice ph n ch)).setCell ⟨wa.heap.size,3,none⟩ (.slice none 0 0)) none∧
   ((((w3.setCell ⟨wa.heap.size,0,none⟩ (.string key)).setCell ⟨wa.heap.size,1,none⟩ (.int .i64 ver)).setCell ⟨wa.heap.size,2,none⟩ (.slice ph n ch)).setCell ⟨wa.heap.size,3,none⟩ (.slice none 0 0)).ownsRow 0 3 1 (.slice ph n ch) n xs:=by
 obtain⟨h1,h2⟩:=set4 zb (.string key) (.int .i64 ver) (.slice ph n ch) (.slice none 0 0)
 refine⟨by omega,(Array.getElem?_eq_some_iff.1 h1).1,h1,grown_own hg h2 (fun k e=>by cases e;exact Nat.le_refl _),hr.kept h2 (.inr (fun e=>?_))⟩
 obtain⟨c2,hc2⟩:=own_ty hr e
 rw[zb] at hc2
 injection hc2 with e1
 injection e1 with e2 e3
 exact absurd e3 (by decide)
section
variable {bs : Nat → Prop} {w : World} {tb : Nat} {L : Tab}
set_option maxHeartbeats 16000000 in
set_option maxRecDepth 100000 in
theorem needs_any (h:At bs w tb L) (N:Nat) (hN:N≤1000) (hf:∀i,Fits (memH L.holds i)) (hhl:∀i,(holdL L i).length≤1000) (hll:L.lives.length≤1000000) (hr:∀p∈L.values,p.1.size≤maxLen) (hl:L.values.length≤1000000) :
  Calls Tryz.prog 19 #[.pointer (some ⟨tb,0,none⟩),.int .i64 N] w fun e w'=>∃v,e = .returned v∧NRow w' v (needL L N)∧w.grownBy w' none:=by
 have HCU:Hid (∀W,w.grownBy W none→Calls Tryz.prog 42 #[.pointer (some ⟨tb,0,none⟩)] W fun e w'=>∃v,e = .returned v∧IdRow W.heap.size w' v (curL L)∧W.grownBy w' none):=(show ∀_,_→Calls _ _ _ _ _ from fun W hg=>current_at (h.grown hg) hr hl)
 have HHO:Hid (∀W i,w.grownBy W none→Calls Tryz.prog 37 #[.pointer (some ⟨tb,0,none⟩),encID i] W fun e w'=>∃v,e = .returned v∧Ints W w' v (holdL L i)):=(show ∀_ _,_→Calls _ _ _ _ _ from fun W i hg=>holders_at (h.grown hg) i (hf i))
 have HLF:Hid (∀W (n:Int),w.grownBy W none→Calls Tryz.prog 23 #[.pointer (some ⟨tb,0,none⟩),.int .i64 n] W fun e w'=>e = .returned (.int .i64 (lifeV L n))∧W.grownBy w' none):=(show ∀_ _,_→Calls _ _ _ _ _ from fun W n hg=>life_at (h.grown hg) n (by omega))
 have HCL:Hid ((curL L).length≤1000000):=(show _≤_ from Nat.le_trans (List.length_filterMap_le _ _) (by rw[skeys_length];exact hl))
 have HEND:Hid (needK L N (curL L).length=needL L N):=(show _=_ from by unfold needK needL;rw[List.take_length])
 have htb:=h.lt
 obtain⟨i0,hi,hz0,hz1,hz2⟩:=info_parts infoNeed
 obtain⟨j0,hj,gz0,gz1,gz2⟩:=info_parts infoZ
 have HHL:=Lib.hid hhl
 clear h hf hr hl hll hhl
 go_enter Tryz.func19,Tryz.ntmps19
 go_wp2_with (go_at_call 42;refine(HCU.out _ (grown_refl _)).mono ?_;rintro e w1 ⟨v,rfl,hv,hg⟩;obtain⟨p,cap,rfl⟩:=idRow_form hv;have HV:=Lib.hid hv;have HG:=Lib.hid hg;clear hv hg)
 have H0:Hid (NOut w1 w1 (.slice none 0 0) [] (needK L N 0)):=(show NOut _ _ _ _ _ from ⟨World.ownsRow_nil _ _ _ _,fun x hx=>by simp at hx,by simp[needK],grown_refl _⟩)
 generalize hq:(curL L).length=q at *
 have HQ:=Lib.hid hq
 have hq1:=HCL.out
 clear hq HCU
 go_loopw [5,13] (fun x i wr=>∃(k:Nat) (xs:List Ndv),k≤q∧i = .int .i64 k∧Hid (NOut w1 wr x xs (needK L N k))) (fun _ i _=>q-(intOf i).toNat)
 case atStart=>exact⟨0,[],Nat.zero_le _,rfl,H0⟩
 case round=>
  clear H0
  obtain⟨k,xs,hk,rfl,hO⟩:=hrel
  rcases Nat.lt_or_ge k q with hlt|hge
  ·obtain⟨i,hi2⟩:∃i,(curL L)[k]? = some i:=⟨_,List.getElem?_eq_getElem (by rw[HQ.out];exact hlt)⟩
   have HKS:=Lib.hid (needK_succ (N:=N) hi2)
   obtain⟨g,cap2,e,k0,k1⟩:=id_at HV.out hi2
   injection e with e1 e2 e3
   subst e1
   have c0:=hO.out.gr.cell k0 (by simp)
   have c1:=hO.out.gr.cell k1 (by simp)
   have HO:=Lib.hid hO.out
   clear e2 e3 cap2 k0 k1 hi2 hO
   obtain⟨key,ver⟩:=i
   simp only at c0 c1
   have HMS:=fun j=>Lib.hid (misN_succ L ⟨key,ver⟩ j)
   have HML:=fun j=>Lib.hid (misN_len L ⟨key,ver⟩ j)
   have HNL:Hid (ndL L N ⟨key,ver⟩=⟨⟨key,ver⟩,(holdL L ⟨key,ver⟩).length,misN L ⟨key,ver⟩ N⟩):=(show _=_ from rfl)
   have HM0:Hid (misN L ⟨key,ver⟩ 0 = []):=(show _=_ from rfl)
   go_upto_region 5 with fail
   clear c0 c1
   have HGA:=Lib.hid (World.grownBy_alloc wr (.cells #[.string key,.int .i64 ver] 54) none)
   have hba:=World.alloc_heap_new wr (.cells #[.string key,.int .i64 ver] 54)
   have b0:(wr.alloc (.cells #[.string key,.int .i64 ver] 54)).cell? ⟨wr.heap.size,0,none⟩=some (.string key):=(cell_block hba 0).trans rfl
   have b1:(wr.alloc (.cells #[.string key,.int .i64 ver] 54)).cell? ⟨wr.heap.size,1,none⟩=some (.int .i64 ver):=(cell_block hba 1).trans rfl
   have hsa:(wr.alloc (.cells #[.string key,.int .i64 ver] 54)).heap.size=wr.heap.size+1:=by simp
   clear hba
   generalize wr.alloc (.cells #[.string key,.int .i64 ver] 54)=wa at *
   have HSA:=Lib.hid hsa
   generalize wr.heap.size=bi at *
   clear hsa
   have HG1:Hid (wa.grownBy wa none):=grown_refl wa
   have HWA:Hid (w.grownBy wa none):=(show w.grownBy _ none from grown_trans (grown_trans HG.out HO.out.gr) HGA.out)
   generalize hhd:holdL L ⟨key,ver⟩=hd at *
   have HHD:=Lib.hid hhd
   clear hhd
   go_cut [8] (fun bp wx=>∃(bn:Nat) (ph:Option Addr) (ch:Nat),bp = .pointer (some ⟨bn,0,none⟩)∧Hid (bi<bn∧bn<wx.heap.size∧wx.heap[bn]? = some (.cells #[.string key,.int .i64 ver,.slice ph hd.length ch,.slice none 0 0] 71 (0,0))∧wa.grownBy wx none∧wx.ownsRow 0 3 1 (.slice ph hd.length ch) hd.length (hd.map (Value.int .i64))))
   case first=>
    have nb1:bi≠wa.heap.size:=by have:=HSA.out;omega
    have nb2:wa.heap.size≠bi:=by have:=HSA.out;omega
    go_region_held3 (fun w'=>w'.cell? ⟨bi,0,none⟩=some (.string key)∧w'.cell? ⟨bi,1,none⟩=some (.int .i64 ver)) (first|with_reducible exact⟨k3,k4⟩|with_reducible exact⟨b0,b1⟩|go_keep)
     ((go_at_call 37;refine(HHO.out _ ⟨key,ver⟩ (grown_trans HWA.out (by repeat (first|exact grown_refl _|refine grown_alloc ?_ _|refine grown_drew ?_)))).mono ?_;rintro e w3 ⟨v,rfl,hv⟩;rw[HHD.out] at hv;obtain⟨ph,ch,rfl⟩:=ints_form hv;have HRW:=Lib.hid (row_le hv.1 (Nat.zero_le _));have hg:=hv.2.2;clear hv;have hgg:wa.grownBy w3 none:=grown_trans (by repeat (first|exact grown_refl _|refine grown_alloc ?_ _|refine grown_drew ?_)) hg;have k3:=hgg.cell b0 (by simp);have k4:=hgg.cell b1 (by simp);have HGG:=Lib.hid hgg;(first|(have zb:=alloc_kept' hg;obtain⟨z0,z1,z2,z3,y0,y1,y2,y3⟩:=four zb)|(have zb:=alloc_kept hg;obtain⟨z0,z1,z2,z3,y0,y1,y2,y3⟩:=four zb)|skip);clear hg hgg))
    all_goals
     go_wp2_with fail
     go_meet
    ·exact⟨_,ph,ch,rfl,(show _∧_ from ⟨by have:=HSA.out;have:=HGG.out.size;omega,by simp,World.alloc_heap_new _ _,grown_trans HGG.out (World.grownBy_alloc _ _ none),HRW.out.alloc _⟩)⟩
    ·exact⟨_,ph,ch,rfl,(show _∧_ from nbox_set HSA.out HGG.out zb HRW.out)⟩
   case rest=>
    clear b0 b1 HG1
    obtain⟨bn,ph,ch,rfl,hB⟩:=hcut
    obtain⟨wx,hwx⟩:∃x:World,x=wc:=⟨_,rfl⟩
    rw[←hwx] at hB ⊢
    have HB:=Lib.hid hB.out
    clear hwx hB
    have hbn:=HB.out.2.1
    have HWX:Hid (w.grownBy wx none):=(show w.grownBy _ none from grown_trans HWA.out HB.out.2.2.2.1)
    have H1:Hid (NBox wx wx bn key ver ph hd.length ch none (misN L ⟨key,ver⟩ 0) 0):=(show NBox _ _ _ _ _ _ _ _ _ _ _ from by
     rw[HM0.out]
     exact⟨HB.out.2.2.1,World.ownsRow_nil _ _ _ _,⟨rfl,rfl,rfl,Nat.le_refl _,fun _ _ _=>rfl⟩⟩)
    have HOW:Hid (∀W,wx.grownBy W (some bn)→W.ownsRow 0 3 1 (.slice ph hd.length ch) hd.length (hd.map (Value.int .i64))):=(show ∀W,_→World.ownsRow _ _ _ _ _ _ _ from fun W hg=>own_sm HB.out.2.2.2.2 (fun g hg2=>by
     obtain⟨c2,hc2⟩:=own_ty HB.out.2.2.2.2 hg2
     refine hg.block g (Array.getElem?_eq_some_iff.1 hc2).1 (fun e=>?_)
     cases e
     rw[HB.out.2.2.1] at hc2
     injection hc2 with e1
     injection e1 with e2 e3
     exact absurd e3 (by decide)))
    have HWG:Hid (∀W,wx.grownBy W (some bn)→w.grownBy W none∧wa.grownBy W none):=(show ∀W,_→_ from fun W hg=>⟨grown_own HWX.out hg (fun k e=>by cases e;have:=HWA.out.size;have:=HSA.out;have:=HB.out.1;omega),grown_own HB.out.2.2.2.1 hg (fun k e=>by cases e;have:=HSA.out;have:=HB.out.1;omega)⟩)
    have HHD1:Hid (hd.length≤1000):=(show _≤_ from by rw[←HHD.out];exact HHL.out _)
    go_wp2
    go_loopw [23] (fun s wl=>∃(j:Nat) (pm:Option Addr) (cm:Nat),j≤N∧s = .int .i64 j∧Hid (NBox wx wl bn key ver ph hd.length ch pm (misN L ⟨key,ver⟩ j) cm)) (fun s _=>N-(intOf s).toNat)
    case atStart=>exact⟨0,none,0,Nat.zero_le _,rfl,H1⟩
    case round=>
     clear H1
     obtain⟨j,pm,cm,hjN,rfl,hNB⟩:=hrel
     have HNB:=Lib.hid hNB.out
     clear hNB
     rcases Nat.lt_or_ge j N with hlj|hgj
     ·have hms:=HMS j
      have hml:=(HML j).out
      obtain⟨ms,hmsd⟩:∃ms,ms=misN L ⟨key,ver⟩ j:=⟨_,rfl⟩
      rw[←hmsd] at HNB hms hml
      have HM1:=Lib.hid hms.out
      clear hms hmsd
      have hq1:=HLF.out wr (j:Int) (HWG.out _ HNB.out.gr).1
      by_cases hl0:0<lifeV L j
      ·cases hbq:decide ((j:Int)∈hd) with
       | true=>
        have HM2:Hid (misN L ⟨key,ver⟩ (j+1)=ms):=(show _=_ from by rw[HM1.out,hbq];simp)
        have HBQ:=Lib.hid hbq
        clear HM1 hbq
        generalize lifeV L j=lv at *
        have hc:=fun W (hg:wx.grownBy W (some bn))=>contains_any (ird_of_own (HOW.out W hg)) (j:Int) (by have:=HHD1.out;omega)
        have hc1:=fun W (hg:wx.grownBy W (some bn))=>(show Calls _ _ _ W fun e w'=>e = .returned (.bool true)∧w'=W from by have:=hc W hg;rw[HBQ.out] at this;exact this)
        clear hc
        have HC:=Lib.hid hc1
        clear hc1
        go_wp2_with (first
         | (go_at_call 23;refine hq1.mono ?_;rintro e w4 ⟨rfl,hg⟩;have HN4:=Lib.hid (HNB.out.kept hg);have hb4:=HN4.out.box;have d2:w4.cell? ⟨bn,2,none⟩=some (.slice ph hd.length ch):=(cell_block hb4 2).trans rfl;clear hg hb4)
         | (go_at_call 64;refine(HC.out _ HN4.out.gr).mono ?_;rintro e w5 ⟨rfl,h5⟩;obtain rfl:w4=w5:=h5.symm))
        go_roundw
        case rel=>exact⟨j+1,pm,cm,by omega,by go_num,by rw[HM2.out];exact HN4⟩
        case measure=>simp[intOf];omega
       | false=>
        have HM2:Hid (misN L ⟨key,ver⟩ (j+1)=ms ++ [(j:Int)]):=(show _=_ from by rw[HM1.out,hbq];simp[hl0])
        have HBQ:=Lib.hid hbq
        clear HM1 hbq
        generalize lifeV L j=lv at *
        have hc:=fun W (hg:wx.grownBy W (some bn))=>contains_any (ird_of_own (HOW.out W hg)) (j:Int) (by have:=HHD1.out;omega)
        have hc1:=fun W (hg:wx.grownBy W (some bn))=>(show Calls _ _ _ W fun e w'=>e = .returned (.bool false)∧w'=W from by have:=hc W hg;rw[HBQ.out] at this;exact this)
        clear hc
        have HC:=Lib.hid hc1
        clear hc1
        go_wp2_with (first
         | (go_at_call 23;refine hq1.mono ?_;rintro e w4 ⟨rfl,hg⟩;have HN4:=Lib.hid (HNB.out.kept hg);have hb4:=HN4.out.box;have d2:w4.cell? ⟨bn,2,none⟩=some (.slice ph hd.length ch):=(cell_block hb4 2).trans rfl;have d3:w4.cell? ⟨bn,3,none⟩=some (.slice pm ms.length cm):=(cell_block hb4 3).trans rfl;clear hg hb4)
         | (go_at_call 64;refine(HC.out _ HN4.out.gr).mono ?_;rintro e w5 ⟨rfl,h5⟩;obtain rfl:w4=w5:=h5.symm)
         | (at_builtin;refine wpList_append_own _ rfl _ _ 69 rfl wx.heap.size 3 j0 (.int .i64 0) 1 8 Tryz.underlying69 hj gz0 gz1 gz2 rfl (by decide) _ _ _ rfl (HN4.out.row.alloc _) ⟨w4.heap.size,0,none⟩ 1 1 [.int .i64 j] rfl rfl ?c1 ?c2 ?c3 ?c4 ?c5 ?_))
        case c1=>
         intro t u hu
         match t,hu with
         | 0,hu=>simp at hu;subst hu;simp[Addr.add,go_sem]
         | t+1,hu=>simp at hu
        case c2=>intro u hu;simp at hu;subst hu;rfl
        case c3=>unfold maxLen;omega
        case c4=>omega
        case c5=>have:=HN4.out.gr.size;simp;omega
        intro v' w9 ho hg9 _
        obtain⟨g9,cap9,rfl⟩:=ownsRow_succ ho
        obtain⟨hb9,hn9⟩:=HN4.out.add (World.grownBy_alloc _ _ none) (j:Int) hbn ho hg9
        have HN9:=Lib.hid hn9
        have e3:w9.cell? ⟨bn,3,none⟩=some (.slice pm ms.length cm):=(cell_block hb9 3).trans rfl
        have f3:w9.frozen? ⟨bn,3,none⟩=false:=free_block hb9 3
        clear ho hg9 hb9 hn9
        go_wp2
        go_roundw
        case rel=>exact⟨j+1,_,_,by omega,by go_num,by rw[HM2.out];exact HN9⟩
        case measure=>simp[intOf];omega
      ·have HM2:Hid (misN L ⟨key,ver⟩ (j+1)=ms):=(show _=_ from by rw[HM1.out];simp[hl0])
       clear HM1
       generalize lifeV L j=lv at *
       go_wp2_with (go_at_call 23;refine hq1.mono ?_;rintro e w4 ⟨rfl,hg⟩;have HN4:=Lib.hid (HNB.out.kept hg);clear hg)
       go_roundw
       case rel=>exact⟨j+1,pm,cm,by omega,by go_num,by rw[HM2.out];exact HN4⟩
       case measure=>simp[intOf];omega
     ·obtain rfl:j=N:=by omega
      have hml:=(HML j).out
      have HWQ:=Lib.hid (HWG.out _ HNB.out.gr).2
      have hb:=HNB.out.box
      have d0:wr.cell? ⟨bn,0,none⟩=some (.string key):=(cell_block hb 0).trans rfl
      have d1:wr.cell? ⟨bn,1,none⟩=some (.int .i64 ver):=(cell_block hb 1).trans rfl
      have d2:wr.cell? ⟨bn,2,none⟩=some (.slice ph hd.length ch):=(cell_block hb 2).trans rfl
      have d3:wr.cell? ⟨bn,3,none⟩=some (.slice pm (misN L ⟨key,ver⟩ j).length cm):=(cell_block hb 3).trans rfl
      obtain⟨ms,hmsd⟩:∃ms,ms=misN L ⟨key,ver⟩ j:=⟨_,rfl⟩
      have HOK:Hid (NdvOk wr ⟨⟨⟨key,ver⟩,hd.length,ms⟩,ph,ch,pm,cm⟩):=(show NdvOk _ _ from by
       have hr:=HNB.out.row
       rw[←hmsd] at hr
       rcases hr.2 with ⟨e,h0⟩|⟨gm,c,cur,e,_,hc,_⟩
       ·exact Or.inl (List.eq_nil_of_length_eq_zero h0)
       ·injection e with e1 e2 e3
        refine Or.inr ⟨gm,e1,⟨cur,hc⟩,fun t y hy=>?_⟩
        have h1:=hr.cells (g:=gm) (by rw[e1];rfl) t (.int .i64 y) (by rw[List.getElem?_map,hy];rfl)
        rw[←h1];congr 1;unfold Addr.add;simp)
      have HND:Hid (ndL L j ⟨key,ver⟩=⟨⟨key,ver⟩,hd.length,ms⟩):=(show _=_ from by rw[HNL.out,hmsd])
      have HOX:=Lib.hid (HO.out.kept (grown_trans HGA.out HWQ.out))
      have HXL:Hid (xs.length≤1000000):=(show _≤_ from by
       rw[HO.out.len];exact Nat.le_trans (needK_len L j k) (by omega))
      rw[←hmsd] at d3 hml
      clear hb hmsd HNB
      by_cases hz:ms = []
      ·have HK2:Hid (needK L j (k+1)=needK L j k):=(show _=_ from by rw[HKS.out,HND.out];unfold ndS;rw[if_pos hz,List.append_nil])
       have hzl:ms.length=0:=by rw[hz];rfl
       rw[hzl] at d3
       clear hz hzl hml
       go_wp2
       go_roundw
       case rel=>exact⟨k+1,xs,by omega,by go_num,by rw[HK2.out];exact HOX⟩
       case measure=>simp[intOf];omega
      ·have HK2:Hid (needK L j (k+1)=needK L j k ++ [⟨⟨key,ver⟩,hd.length,ms⟩]):=(show _=_ from by rw[HKS.out,HND.out];unfold ndS;rw[if_neg hz])
       obtain⟨lm,hlm⟩:∃lm,lm=ms.length:=⟨_,rfl⟩
       have hlp:0<lm:=by rw[hlm];exact List.length_pos_iff.2 hz
       rw[←hlm] at d3 hml
       have HLM:=Lib.hid hlm
       clear hz hlm
       have HXL1:=HXL.out
       go_wp2_with (at_builtin;refine wpList_append_own _ rfl _ _ 44 rfl w1.heap.size 71 i0 (.agg #[.string { data:=#[] },.int .i64 0,.slice none 0 0,.slice none 0 0]) 4 72 Tryz.underlying44 hi hz0 hz1 hz2 rfl (by decide) _ _ _ rfl (HOX.out.row.alloc _) ⟨wr.heap.size,0,none⟩ 1 1 [.string key,.int .i64 ver,.slice ph hd.length ch,.slice pm lm cm] rfl rfl ?c1 ?c2 ?c3 ?c4 ?c5 ?_)
       case c1=>exact task_new _ _ _ _ _ _
       case c2=>intro u hu;simp at hu;rcases hu with rfl|rfl|rfl|rfl <;> rfl
       case c3=>unfold maxLen;omega
       case c4=>omega
       case c5=>have:=HOX.out.gr.size;simp;omega
       intro v' w9 ho hg9 _
       have HN9:=Lib.hid (HOX.out.add (World.grownBy_alloc _ _ none) ⟨⟨⟨key,ver⟩,hd.length,ms⟩,ph,ch,pm,cm⟩ HOK.out (by rw[HLM.out] at ho;exact ho) hg9)
       clear ho hg9 HXL1
       go_wp2
       go_roundw
       case rel=>exact⟨k+1,_,by omega,by go_num,by rw[HK2.out];exact HN9⟩
       case measure=>simp[intOf];omega
  ·obtain rfl:k=q:=by omega
   have hO2:=hO.out
   rw[HEND.out] at hO2
   have HO:=Lib.hid hO2
   clear hO hO2
   go_wp2
   go_ret
   exact⟨_,rfl,HO.out.nrow,grown_trans HG.out HO.out.gr⟩
end
def hasB (T:Tab) (n:Int) (i:ID):Bool:=decide (n∈memH T.holds i)
def notHas (T:Tab) (n:Int) (i:ID):Bool:=!hasB T n i
theorem mget_unit (l:List Int) (n:Int):(mget (l.map fun n=>(n,())) n).isSome=decide (n∈l):=by
 induction l with
 | nil=>simp[mget]
 | cons x r ih=>
  simp only[List.map_cons,mget,List.mem_cons]
  by_cases h:x=n
  ·subst h;simp
  ·rw[if_neg h]
   have:¬n=x:=fun e=>h e.symm
   rw[ih];simp[this]
theorem run_hasSet (s:NSet) (n:Int) (W:World) (h:SetT W s):(Instr.lookup 127 (.map (some s.blk)) (.int .i64 n) true).run Tryz.prog W = .ok (.tuple #[.agg #[],.bool (decide (n∈s.mem))]) W:=by
 have h1:=MapT.lookup keInt Tryz.underlying127 (zeroUnit W) h n true
 rw[mget_unit] at h1
 refine h1.trans ?_
 cases mget (s.mem.map fun n=>(n,())) n <;> rfl
theorem run_hasNil (n:Int) (W:World):(Instr.lookup 127 (.map none) (.int .i64 n) true).run Tryz.prog W = .ok (.tuple #[.agg #[],.bool false]) W:=by kernel_rfl
section
variable {w : World}
set_option maxRecDepth 100000 in
theorem has_any (s:NSet) (h:SetT w s) (n:Int):Calls Tryz.prog 104 #[.map (some s.blk),.int .i64 n] w fun e w'=>e = .returned (.bool (decide (n∈s.mem)))∧w.grownBy w' none:=by
 have hl:=run_hasSet s n w h
 clear h
 generalize decide (n∈s.mem)=d at *
 go_enter Tryz.func104,Tryz.ntmps104
 go_wp2
 go_ret
 exact⟨rfl,World.grownBy_alloc _ _ _⟩
set_option maxRecDepth 100000 in
theorem has_nil (n:Int):Calls Tryz.prog 104 #[.map none,.int .i64 n] w fun e w'=>e = .returned (.bool false)∧w.grownBy w' none:=by
 have hl:=fun W=>run_hasNil n W
 go_enter Tryz.func104,Tryz.ntmps104
 go_wp2
 go_ret
 exact⟨rfl,World.grownBy_alloc _ _ _⟩
variable {tb : Nat} {T : Tab}
set_option maxHeartbeats 4000000 in
set_option maxRecDepth 100000 in
theorem mis1_any (h:TRep w tb T) (i:ID) (n:Int) (b1 b2:Nat) (h1:w.cell? ⟨b1,0,none⟩=some (.pointer (some ⟨tb,0,none⟩))) (h2:w.cell? ⟨b2,0,none⟩=some (.int .i64 n)) :
  Calls Tryz.prog 103 #[encID i,.pointer (some ⟨b1,0,none⟩),.pointer (some ⟨b2,0,none⟩)] w fun e w'=>e = .returned (.bool (hasB T n i))∧w.grownBy w' none:=by
 obtain⟨k,v⟩:=i
 have l1:=cell_lt h1
 have l2:=cell_lt h2
 have htb:=h.tlt
 simp only[encID]
 cases hr:mget T.holds ⟨k,v⟩ with
 | none=>
  have hl:=run_setsT T.hb T.holds k v none hr
  have HM:Hid (hasB T n ⟨k,v⟩=false):=(show _=_ from by unfold hasB memH;rw[hr];simp)
  have c7:=h.c7
  have hh:=h.holds
  simp only[Option.map_none] at hl
  have HN:Hid (∀W:World,Calls Tryz.prog 104 #[.map none,.int .i64 n] W fun e w'=>e = .returned (.bool false)∧W.grownBy w' none):=fun W=>has_nil n
  clear h
  go_enter Tryz.func103,Tryz.ntmps103
  go_wp2
  refine wp_region_quiet_ext (by kernel_rfl) (by kernel_rfl) ?_
  repeat (any_goals (first|go_big_quiet_step ((go_at_call 104;exact calls_ext (HN.out _)))|quiet_step ((go_at_call 104;exact calls_ext (HN.out _)))))
  refine wpQuiet_nil ?_
  intro _ hw'
  obtain⟨x,hw''⟩:=hw'
  subst hw''
  go_wp2
  go_ret
  exact⟨by rw[HM.out];rfl,by repeat (first|exact grown_refl _|exact World.grownBy_alloc _ _ _|refine grown_ext' ?_ _|refine grown_alloc ?_ _|refine grown_drew ?_)⟩
 | some s=>
  have hl:=run_setsT T.hb T.holds k v (some s) hr
  have HM:Hid (hasB T n ⟨k,v⟩=decide (n∈s.mem)):=(show _=_ from by unfold hasB memH;rw[hr];rfl)
  have c7:=h.c7
  have hh:=h.holds
  have hs:=h.hsets _ (mget_mem hr)
  simp only[Option.map_some] at hl
  have HN:Hid (∀W:World,w.grownBy W none→Calls Tryz.prog 104 #[.map (some s.blk),.int .i64 n] W fun e w'=>e = .returned (.bool (decide (n∈s.mem)))∧W.grownBy w' none):=fun W hg=>has_any s (MapT.kept hs hg (by simp)) n
  clear h hs
  generalize decide (n∈s.mem)=d at *
  go_enter Tryz.func103,Tryz.ntmps103
  go_wp2
  refine wp_region_quiet_ext (by kernel_rfl) (by kernel_rfl) ?_
  repeat (any_goals (first|go_big_quiet_step ((go_at_call 104;exact calls_ext (HN.out _ (by repeat (first|exact grown_refl _|exact World.grownBy_alloc _ _ _|refine grown_ext' ?_ _|refine grown_alloc ?_ _|refine grown_drew ?_)))))|quiet_step ((go_at_call 104;exact calls_ext (HN.out _ (by repeat (first|exact grown_refl _|exact World.grownBy_alloc _ _ _|refine grown_ext' ?_ _|refine grown_alloc ?_ _|refine grown_drew ?_)))))))
  refine wpQuiet_nil ?_
  intro _ hw'
  obtain⟨x,hw''⟩:=hw'
  subst hw''
  go_wp2
  go_ret
  exact⟨by rw[HM.out];rfl,by repeat (first|exact grown_refl _|exact World.grownBy_alloc _ _ _|refine grown_ext' ?_ _|refine grown_alloc ?_ _|refine grown_drew ?_)⟩
end
def PredI (W:World) (fv:Value) (f:ID→Bool) (bs:Nat→Prop):Prop:=
 ∃g cap,fv = .func (.func g) #[] cap∧(∀args w,(callFunc g args).run Tryz.prog w = .ok (.enter g args) w)∧∀(i:ID) (w:World),(∀k,bs k→w.heap[k]? = W.heap[k]?)→W.heap.size≤w.heap.size→Calls Tryz.prog g (#[encID i]++cap) w fun e w'=>e = .returned (.bool (f i))∧w.grownBy w' none
section
variable {W : World} {bs : Nat → Prop}
set_option maxHeartbeats 4000000 in
set_option maxRecDepth 100000 in
theorem idxF_any {fv:Value} {f:ID→Bool} (hf:PredI W fv f bs) {v:Value} {l:List ID} (h:LRead W 2 idCells v l) (hl:l.length≤1000000) (hbs:∀k,bs k→k<W.heap.size) :
  Calls Tryz.prog 163 #[v,fv] W fun e w'=>e = .returned (.int .i64 (firstI f l))∧W.grownBy w' none:=by
 obtain⟨pv,cv,rfl,hv⟩:=h
 obtain⟨g,cap,rfl,hent,hcall⟩:=hf
 have HV:=Lib.hid hv
 have HC:=Lib.hid hcall
 have HB:=Lib.hid hbs
 clear hv hcall hbs
 go_enter Tryz.func163,Tryz.ntmps163
 go_wp2
 go_loopw [8] (fun x wr=>∃k:Nat,k≤l.length∧x = .int .i64 k∧NoneB f l k∧W.grownBy wr none) (fun x _=>l.length-(intOf x).toNat)
 case atStart=>exact⟨0,Nat.zero_le _,rfl,noneB_zero,grown_refl _⟩
 case round=>
  obtain⟨k,hk,rfl,hno,hg⟩:=hrel
  have HNO:=Lib.hid hno
  have HG:=Lib.hid hg
  clear hno
  by_cases hlt:k<l.length
  ·obtain⟨ga,rfl,ea⟩:=HV.out.resolve_left (fun e=>by rw[e] at hlt;simp at hlt)
   have fa:wr.cell? ⟨ga,k*2,none⟩=some (.string l[k].key):=hg.cell (ea k hlt 0 _ rfl) (by simp)
   have fa1:wr.cell? ⟨ga,k*2+1,none⟩=some (.int .i64 l[k].ver):=hg.cell (ea k hlt 1 _ rfl) (by simp)
   have HCL:Hid (Calls Tryz.prog g (#[.agg #[.string l[k].key,.int .i64 l[k].ver]]++cap) wr fun e w'=>e = .returned (.bool (f l[k]))∧wr.grownBy w' none):=(show Calls _ _ _ _ _ from HC.out l[k] wr (fun b hb=>HG.out.block b (HB.out b hb) (by simp)) HG.out.size)
   clear ea hg
   cases hp:f l[k] with
   | true=>
    rw[hp] at HCL
    have HH:=Lib.hid (firstI_hit HNO.out hlt hp)
    clear hp
    generalize l[k]=z at *
    go_wp2_with (go_at_fn g;refine HCL.out.mono ?_;rintro e w1 ⟨rfl,hg1⟩;have HG1:=Lib.hid hg1;clear hg1)
    go_ret
    exact⟨by rw[HH.out];rfl,grown_trans HG.out HG1.out⟩
   | false=>
    rw[hp] at HCL
    have HN:=Lib.hid (HNO.out.step hlt hp)
    clear hp
    generalize l[k]=z at *
    go_wp2_with (go_at_fn g;refine HCL.out.mono ?_;rintro e w1 ⟨rfl,hg1⟩;have HG1:=Lib.hid hg1;clear hg1)
    go_roundw
    case rel=>exact⟨k+1,by omega,by go_num,HN.out,grown_trans HG.out HG1.out⟩
    case measure=>simp[intOf];omega
  ·obtain rfl:k=l.length:=by omega
   clear hg
   go_wp2
   go_ret
   exact⟨by rw[firstI_none HNO.out (Nat.le_refl _)];rfl,HG.out⟩
end
theorem run_clear_many {P:Program} (w:World) (t e ty:TypeId) (z:Value) (ht:P.underlying t=some (.slice e)) (hv:∀w,(zeroValue e).run P w = .ok z w) (b o n c:Nat) (hn:0<n)
  (h1:∀v∈(Builtin.zeroCells z.cells n).toList,v.oneCell'=true) (hc:∀j,j<n*z.cells.size→(w.cell? ⟨b,o+j,none⟩).isSome=true) (hf:∀j,j<n*z.cells.size→w.frozen? ⟨b,o+j,none⟩=false) :
  (Builtin.clear_ #[t] ty #[.slice (some ⟨b,o,none⟩) n c]).run P w = .ok (.tuple #[]) (w.setCells b o (Builtin.zeroCells z.cells n).toList):=by
 have hl:(Builtin.zeroCells z.cells n).toList.length=n*z.cells.size:=by simp[Builtin.zeroCells]
 have hst:=run_storeCells_cells (P:=P) b o (Builtin.zeroCells z.cells n).toList 0 w (by rw[hl];simpa using hc) (by rw[hl];simpa using hf) h1
 simp only[Nat.add_zero] at hst
 obtain⟨m,rfl⟩:∃m,n=m+1:=⟨n-1,by omega⟩
 simp[Builtin.clear_,run_underlying ht,hv,hst]
theorem grown_setCells (b:Nat):∀(vs:List Value) (o:Nat) (w:World),w.grownBy (w.setCells b o vs) (some b)
 | [],o,w=>⟨rfl,rfl,rfl,Nat.le_refl _,fun _ _ _=>rfl⟩
 | v :: r,o,w=>by
  have h:=grown_setCells b r (o+1) (w.setCell ⟨b,o,none⟩ v)
  exact⟨h.os,h.tape,h.output,Nat.le_trans (by simp[World.setCell]) h.size,fun k hk hn=>(h.block k (by simpa[World.setCell] using hk) hn).trans (Below.heap_setCell w _ _ k (fun e=>hn (by show some k=some b;rw[e])))⟩
structure KI (f:ID→Bool) (l:List ID) (j i:Nat) (d:List ID):Prop where
 len:d.length=l.length
 lt:i<j
 low:d.take i=(l.take j).filter fun x=>!f x
 high:∀t,i≤t→d[t]? = l[t]?
section
variable {f : ID → Bool} {l d : List ID} {i j : Nat}
theorem KI.start {k:Nat} (hno:NoneB f l k) (hk:k<l.length) (hf:f l[k]=true):KI f l (k+1) k l:=by
 refine⟨rfl,Nat.lt_succ_self _,?_,fun _ _=>rfl⟩
 rw[List.take_succ_eq_append_getElem hk,List.filter_append]
 have h1:(l.take k).filter (fun x=>!f x)=l.take k:=by
  rw[List.filter_eq_self]
  intro x hx
  obtain⟨a,ha,rfl⟩:=List.getElem_of_mem hx
  rw[List.length_take] at ha
  rw[List.getElem_take,hno a (by omega) (by omega)];rfl
 rw[h1];simp[hf]
theorem KI.skip (h:KI f l j i d) (hj:j<l.length) (hf:f l[j]=true):KI f l (j+1) i d:=by
 refine⟨h.len,by have:=h.lt;omega,?_,h.high⟩
 rw[List.take_succ_eq_append_getElem hj,List.filter_append,h.low];simp[hf]
theorem KI.keep (h:KI f l j i d) (hj:j<l.length) (hf:f l[j]=false):KI f l (j+1) (i+1) (d.set i l[j]):=by
 have hl:=h.len
 have hlt:=h.lt
 refine⟨by rw[List.length_set];exact hl,by omega,?_,fun t ht=>?_⟩
 ·rw[List.take_succ_eq_append_getElem hj,List.filter_append,←h.low,List.take_succ_eq_append_getElem (by rw[List.length_set];omega),List.getElem_set_self,List.take_set,List.set_eq_of_length_le (by rw[List.length_take];omega)]
  simp[hf]
 ·rw[List.getElem?_set_ne (by omega)]
  exact h.high t (by omega)
theorem KI.at (h:KI f l j i d) (hj:j<l.length):∃hd:j<d.length,d[j]=l[j]:=by
 have hd:j<d.length:=by rw[h.len];exact hj
 have:=h.high j (Nat.le_of_lt h.lt)
 rw[List.getElem?_eq_getElem hd,List.getElem?_eq_getElem hj] at this
 exact⟨hd,Option.some.inj this⟩
theorem KI.done (h:KI f l l.length i d):d.take i=l.filter fun x=>!f x:=by rw[h.low,List.take_length]
theorem filter_none (hno:NoneB f l l.length):(l.filter fun x=>!f x)=l:=by
 rw[List.filter_eq_self]
 intro x hx
 obtain⟨a,ha,rfl⟩:=List.getElem_of_mem hx
 rw[hno a ha ha];rfl
theorem firstI_neg (h:firstI f l = -1):NoneB f l l.length:=by
 unfold firstI at h
 cases e:l.findIdx? f with
 | some k=>rw[e] at h;simp only at h;omega
 | none=>
  intro a ha _
  have:=(List.findIdx?_eq_none_iff.1 e) l[a] (List.getElem_mem ha)
  simpa using this
theorem firstI_pos (h:firstI f l≠-1):∃k:Nat,firstI f l=k∧∃hk:k<l.length,f l[k]=true∧NoneB f l k:=by
 unfold firstI at *
 cases e:l.findIdx? f with
 | none=>rw[e] at h;exact absurd rfl h
 | some k=>
  obtain⟨hk,hf,hno⟩:=List.findIdx?_eq_some_iff_getElem.1 e
  exact⟨k,rfl,hk,hf,fun a ha hak=>by have:=hno a hak;simpa using this⟩
end
theorem zeroID (w:World):(zeroValue 54).run Tryz.prog w = .ok (.agg #[.string ⟨#[]⟩,.int .i64 0]) w:=by kernel_rfl
theorem zerosID (n:Nat):∀v∈(Builtin.zeroCells (Value.agg #[.string ⟨#[]⟩,.int .i64 0]).cells n).toList,v.oneCell'=true:=by
 intro v hv
 simp only[Builtin.zeroCells,Value.cells,Array.toList_map,List.mem_map] at hv
 obtain⟨a,_,rfl⟩:=hv
 have:a%2=0∨a%2=1:=by omega
 rcases this with h|h <;> simp[h] <;> rfl
theorem lread_head {W w:World} {E:TypeId} {g cap i n:Nat} {d:List ID} (h:SRow W E 2 idCells (.slice (some ⟨g,0,none⟩) n cap) d) (hi:i≤d.length) (hw:∀k,k<i*2→w.cell? ⟨g,k,none⟩=W.cell? ⟨g,k,none⟩):LRead w 2 idCells (.slice (some ⟨g,0,none⟩) i cap) (d.take i):=by
 refine⟨some ⟨g,0,none⟩,cap,by rw[List.length_take,Nat.min_eq_left hi],?_⟩
 rcases h.at lenID with h0|⟨g',c',e,hc,-⟩
 ·left;rw[h0];simp
 ·injection e with e1 e2 e3
  cases e1
  refine Or.inr ⟨g,rfl,fun a ha j u hu=>?_⟩
  have ha':a<i:=by rw[List.length_take] at ha;omega
  rw[List.getElem_take] at hu
  have hj:j<2:=by
   have:=(List.getElem?_eq_some_iff.1 hu).1
   simpa[idCells] using this
  rw[hw _ (by omega)]
  exact hc a (by omega) j u hu
end Go.Proofs.YtjfelfjobeeenaaGreat
