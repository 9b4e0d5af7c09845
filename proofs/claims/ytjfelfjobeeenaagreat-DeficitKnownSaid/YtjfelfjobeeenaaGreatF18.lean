/- The document's table: clean: the walk. Conditions: a table that lies in memory, its holds' nodes in their range. The document's table: begins, done: the walks. Conditions: a table that lies in memory. -/
import Derived.Test.YtjfelfjobeeenaaGreatF17
set_option linter.unusedSimpArgs false
set_option linter.unusedVariables false
namespace Go.Proofs.YtjfelfjobeeenaaGreat
open Go.RowKit Go.Sf Go.Shelf
theorem heap_new_at (w:World) (o:Obj) (n:Nat) (h:n=w.heap.size):(w.alloc o).heap[n]? = some o:=by subst h;exact heap_alloc_new _ _
theorem cellsH_arr (x:RHold):(cellsH x).toArray = #[.string x.id.key,.int .i64 x.id.ver,.int .i64 x.node,.int .i64 x.inc,.bool x.ref]:=rfl
section
variable {bs : Nat → Prop} {W : World} {rb : Nat} {R : RTab}
set_option maxHeartbeats 8000000 in
set_option maxRecDepth 100000 in
theorem rclean_any (h:RAt bs W rb R) (hbs:∀k,W.heap.size≤k→bs k) (hnd:∀x∈R.holds,0≤x.node∧x.node<(R.lives.length:Int)) (hl:R.holds.length≤100000000) (hll:R.lives.length≤1000000):Calls Tryz.prog 123 #[.pointer (some ⟨rb,0,none⟩)] W fun e w'=>e = .returned (.tuple #[])∧RAt bs w' rb (rclean R)∧Turn bs W w':=by
 obtain⟨vL,vC,vV,vP,vH,h,hb1,hb2,hb3,hb4,hb5,hb6⟩:=h
 obtain⟨i0,hi,hz0,hz1,hz2⟩:=info_parts infoH
 obtain⟨p,cap,rfl,hcap,hlc⟩:=h.holds.form
 obtain⟨pL,capL,rfl,hcapL,hlcL⟩:=h.lives.form
 have HBS:Hid (Among bs W rb (.slice pL R.lives.length capL) vC vV vP (.slice p R.holds.length cap)):=(show Among bs W rb (.slice pL R.lives.length capL) vC vV vP (.slice p R.holds.length cap) from ⟨hb1,hb2,hb3,hb4,hb5,hb6,hbs⟩)
 clear hb1 hb2 hb3 hb4 hb5 hb6 hbs
 have HR:=Lib.hid h
 have HN:=Lib.hid hnd
 clear h hnd
 go_enter Tryz.func123,Tryz.ntmps123
 go_wp2
 go_loopw [2,3] (fun lv i wr=>∃k:Nat,k≤R.holds.length∧i = .int .i64 k∧Grows W 197 5 cellsH lv (keptF (keepH R) R.holds k) wr) (fun _ i _=>R.holds.length-(intOf i).toNat)
 case atStart=>exact⟨0,Nat.zero_le _,rfl,by rw[keptF_zero];exact Grows.start _ _ _ _⟩
 case round=>
  obtain⟨k,hk,rfl,hgr⟩:=hrel
  have hR:=HR.out.grown hgr.grown
  have hkl:=keptF_len (keepH R) R.holds k
  obtain⟨pl,cl,rfl,-,-⟩:=hgr.row.form
  have HGR:=Lib.hid hgr
  have c8:=hR.c8
  have z8:=hR.free 8
  have hrb:=hR.lt
  clear hgr
  by_cases hlt:k<R.holds.length
  ·obtain⟨g,cap',hv',hc,hfz⟩:=(hR.holds.at lenH).resolve_left (fun e=>by rw[e] at hlt;simp at hlt)
   injection hv' with hv1 hv2 hv3
   subst hv1 hv3
   have hnk:=HN.out R.holds[k] (List.getElem_mem hlt)
   obtain⟨a,ha⟩:=Int.eq_ofNat_of_zero_le hnk.1
   have hal:a<R.lives.length:=by omega
   obtain⟨gL,capL',hvL',hcL,hfzL⟩:=(hR.lives.at lenI).resolve_left (fun e=>by rw[e] at hal;simp at hal)
   injection hvL' with hvL1 hvL2 hvL3
   subst hvL1 hvL3
   have c4:=hR.c4
   have f0:wr.cell? ⟨gL,a,none⟩=some (.int .i64 (R.lives.getD a 0)):=by
    have:=hcL a hal 0 _ rfl
    simp only[Nat.mul_one,Nat.add_zero] at this
    rw[this];simp[List.getD,List.getElem?_eq_getElem hal]
   obtain⟨LV,hLV⟩:∃x,R.lives.getD a 0=x:=⟨_,rfl⟩
   rw[hLV] at f0
   have e0:wr.cell? ⟨g,k*5,none⟩=some (.string R.holds[k].id.key):=hc k hlt 0 _ rfl
   have e1:wr.cell? ⟨g,k*5+1,none⟩=some (.int .i64 R.holds[k].id.ver):=hc k hlt 1 _ rfl
   have e2:wr.cell? ⟨g,k*5+2,none⟩=some (.int .i64 a):=by rw[←ha];exact hc k hlt 2 _ rfl
   have e3:wr.cell? ⟨g,k*5+3,none⟩=some (.int .i64 R.holds[k].inc):=hc k hlt 3 _ rfl
   have e4:wr.cell? ⟨g,k*5+4,none⟩=some (.bool R.holds[k].ref):=hc k hlt 4 _ rfl
   have hgl:g<wr.heap.size:=cell_lt e0
   have hgLl:gL<wr.heap.size:=cell_lt f0
   have HWT:Hid (∀W',wr.grownBy W' none→Calls Tryz.prog 115 #[.pointer (some ⟨rb,0,none⟩),.agg #[.string R.holds[k].id.key,.int .i64 R.holds[k].id.ver]] W' fun e w'=>e = .returned (.bool (rwanted R R.holds[k].id))∧W'.grownBy w' none):=(show ∀_,_ from fun W' hg=>rwanted_core (hR.grown hg) R.holds[k].id)
   have HPN:Hid (∀W',wr.grownBy W' none→Calls Tryz.prog 117 #[.pointer (some ⟨rb,0,none⟩),.agg #[.string R.holds[k].id.key,.int .i64 R.holds[k].id.ver]] W' fun e w'=>e = .returned (.int .i64 (pendI R R.holds[k].id))∧W'.grownBy w' none):=(show ∀_,_ from fun W' hg=>rpend_core (hR.grown hg) R.holds[k].id)
   have hpb:=pendI_B R R.holds[k].id
   have hlf:rlife R R.holds[k].node=LV:=by rw[←hLV];unfold rlife;rw[ha];rfl
   clear hLV
   have HLF:=Lib.hid (And.intro hlf (And.intro hpb ha))
   clear hR hv2 hvL2 hc hfz hcL hfzL hnk hlf hpb ha
   cases hw:rwanted R R.holds[k].id with
   | false=>
    have HF:=Lib.hid hw
    rw[hw] at HWT
    clear hw
    have HK:Hid (keptF (keepH R) R.holds (k+1)=keptF (keepH R) R.holds k):=(show _=_ from keptF_no _ _ _ hlt (by simp[keepH,HF.out]))
    go_wp2
    refine wp_region_quiet_ext (by kernel_rfl) (by kernel_rfl) ?_
    repeat (any_goals (first|go_big_quiet_step (((first|(go_at_call 115;exact calls_ext (HWT.out _ (by repeat (first|exact grown_refl _|exact grown_drewN _ _|refine grown_ext' ?_ _|refine grown_alloc ?_ _|refine grown_drew ?_))))|(go_at_call 117;exact calls_ext (HPN.out _ (by repeat (first|exact grown_refl _|exact grown_drewN _ _|refine grown_ext' ?_ _|refine grown_alloc ?_ _|refine grown_drew ?_)))))))|quiet_step (((first|(go_at_call 115;exact calls_ext (HWT.out _ (by repeat (first|exact grown_refl _|exact grown_drewN _ _|refine grown_ext' ?_ _|refine grown_alloc ?_ _|refine grown_drew ?_))))|(go_at_call 117;exact calls_ext (HPN.out _ (by repeat (first|exact grown_refl _|exact grown_drewN _ _|refine grown_ext' ?_ _|refine grown_alloc ?_ _|refine grown_drew ?_)))))))))
    refine wpQuiet_nil ?_
    intro _ hw'
    obtain⟨xx,hw''⟩:=hw'
    subst hw''
    go_wp2
    go_roundw
    case rel=>exact⟨k+1,by omega,by go_num,by rw[HK.out];exact HGR.out.more (by repeat (first|exact grown_refl _|exact grown_drewN _ _|refine grown_ext' ?_ _|refine grown_alloc ?_ _|refine grown_drew ?_))⟩
    case measure=>simp[intOf];omega
   | true=>
    rw[hw] at HWT
    by_cases hlv:LV=R.holds[k].inc
    ·cases hrf:R.holds[k].ref with
     | false=>
      have HF:=Lib.hid (show rwanted R R.holds[k].id=true∧rlife R R.holds[k].node=R.holds[k].inc∧R.holds[k].ref=false from ⟨hw,HLF.out.1.trans hlv,hrf⟩)
      rw[hrf] at e4
      have hd:(LV == R.holds[k].inc)=true:=by simpa using hlv
      clear hw hlv hrf
      have HK:Hid (keptF (keepH R) R.holds (k+1)=keptF (keepH R) R.holds k ++ [R.holds[k]]):=(show _=_ from keptF_yes _ _ _ hlt (by simp[keepH,HF.out]))
      go_wp2
      refine wp_region_quiet_ext (by kernel_rfl) (by kernel_rfl) ?_
      repeat (any_goals (first|go_big_quiet_step (((first|(go_at_call 115;exact calls_ext (HWT.out _ (by repeat (first|exact grown_refl _|exact grown_drewN _ _|refine grown_ext' ?_ _|refine grown_alloc ?_ _|refine grown_drew ?_))))|(go_at_call 117;exact calls_ext (HPN.out _ (by repeat (first|exact grown_refl _|exact grown_drewN _ _|refine grown_ext' ?_ _|refine grown_alloc ?_ _|refine grown_drew ?_)))))))|quiet_step (((first|(go_at_call 115;exact calls_ext (HWT.out _ (by repeat (first|exact grown_refl _|exact grown_drewN _ _|refine grown_ext' ?_ _|refine grown_alloc ?_ _|refine grown_drew ?_))))|(go_at_call 117;exact calls_ext (HPN.out _ (by repeat (first|exact grown_refl _|exact grown_drewN _ _|refine grown_ext' ?_ _|refine grown_alloc ?_ _|refine grown_drew ?_)))))))))
      refine wpQuiet_nil ?_
      intro _ hw'
      obtain⟨xx,hw''⟩:=hw'
      subst hw''
      go_wp2_with (at_builtin;refine wpList_sapp (l:=keptF (keepH R) R.holds k) (m:=[R.holds[k]]) _ rfl (.tmp 50) (.tmp 52) 50 rfl lenH oneH i0 _ 48 Tryz.underlying50 hi hz0 hz1 hz2 rfl (by decide) (by decide) rfl ?a1 rfl ?b1 ?c1 _ rfl ?_)
      case a1=>exact(HGR.out.more (by repeat (first|exact grown_refl _|exact grown_drewN _ _|refine grown_ext' ?_ _|refine grown_alloc ?_ _|refine grown_drew ?_))).row
      case b1=>exact yrow_at R.holds[k] (by rw[cellsH_arr,HLF.out.2.2,(show R.holds[k].ref=false from by first|exact HF.out.2.2|exact HF.out.2.2.1)];exact heap_new_at _ _ _ (by simp[go_sem]))
      case c1=>simp only[List.length_cons,List.length_nil];omega
      intro p' c' w1 ha
      have HAP:=Lib.hid (Grows.app (Grows.more HGR.out (by repeat (first|exact grown_refl _|exact grown_drewN _ _|refine grown_ext' ?_ _|refine grown_alloc ?_ _|refine grown_drew ?_))) ha)
      clear ha
      go_wp2
      go_roundw
      case rel=>exact⟨k+1,by omega,by go_num,by rw[HK.out];exact HAP.out⟩
      case measure=>simp[intOf];omega
     | true=>
      rw[hrf] at e4
      have hd:(LV == R.holds[k].inc)=true:=by simpa using hlv
      by_cases hp0:0≤pendI R R.holds[k].id
      ·have HF:=Lib.hid (show rwanted R R.holds[k].id=true∧rlife R R.holds[k].node=R.holds[k].inc∧R.holds[k].ref=true∧rpendB R R.holds[k].id=true from ⟨hw,HLF.out.1.trans hlv,hrf,by rw[←HLF.out.2.1];simpa using hp0⟩)
       have hdp:decide (0≤pendI R R.holds[k].id)=true:=by simpa using hp0
       clear hw hlv hrf
       have HK:Hid (keptF (keepH R) R.holds (k+1)=keptF (keepH R) R.holds k ++ [R.holds[k]]):=(show _=_ from keptF_yes _ _ _ hlt (by simp[keepH,HF.out]))
       go_wp2
       refine wp_region_quiet_ext (by kernel_rfl) (by kernel_rfl) ?_
       repeat (any_goals (first|go_big_quiet_step (((first|(go_at_call 115;exact calls_ext (HWT.out _ (by repeat (first|exact grown_refl _|exact grown_drewN _ _|refine grown_ext' ?_ _|refine grown_alloc ?_ _|refine grown_drew ?_))))|(go_at_call 117;exact calls_ext (HPN.out _ (by repeat (first|exact grown_refl _|exact grown_drewN _ _|refine grown_ext' ?_ _|refine grown_alloc ?_ _|refine grown_drew ?_)))))))|quiet_step (((first|(go_at_call 115;exact calls_ext (HWT.out _ (by repeat (first|exact grown_refl _|exact grown_drewN _ _|refine grown_ext' ?_ _|refine grown_alloc ?_ _|refine grown_drew ?_))))|(go_at_call 117;exact calls_ext (HPN.out _ (by repeat (first|exact grown_refl _|exact grown_drewN _ _|refine grown_ext' ?_ _|refine grown_alloc ?_ _|refine grown_drew ?_)))))))))
       refine wpQuiet_nil ?_
       intro _ hw'
       obtain⟨xx,hw''⟩:=hw'
       subst hw''
       go_wp2_with (at_builtin;refine wpList_sapp (l:=keptF (keepH R) R.holds k) (m:=[R.holds[k]]) _ rfl (.tmp 50) (.tmp 52) 50 rfl lenH oneH i0 _ 48 Tryz.underlying50 hi hz0 hz1 hz2 rfl (by decide) (by decide) rfl ?a2 rfl ?b2 ?c2 _ rfl ?_)
       case a2=>exact(HGR.out.more (by repeat (first|exact grown_refl _|exact grown_drewN _ _|refine grown_ext' ?_ _|refine grown_alloc ?_ _|refine grown_drew ?_))).row
       case b2=>exact yrow_at R.holds[k] (by rw[cellsH_arr,HLF.out.2.2,(show R.holds[k].ref=true from by first|exact HF.out.2.2|exact HF.out.2.2.1)];exact heap_new_at _ _ _ (by simp[go_sem]))
       case c2=>simp only[List.length_cons,List.length_nil];omega
       intro p' c' w1 ha
       have HAP:=Lib.hid (Grows.app (Grows.more HGR.out (by repeat (first|exact grown_refl _|exact grown_drewN _ _|refine grown_ext' ?_ _|refine grown_alloc ?_ _|refine grown_drew ?_))) ha)
       clear ha
       go_wp2
       go_roundw
       case rel=>exact⟨k+1,by omega,by go_num,by rw[HK.out];exact HAP.out⟩
       case measure=>simp[intOf];omega
      ·have HF:=Lib.hid (show rwanted R R.holds[k].id=true∧rlife R R.holds[k].node=R.holds[k].inc∧R.holds[k].ref=true∧rpendB R R.holds[k].id=false from ⟨hw,HLF.out.1.trans hlv,hrf,by rw[←HLF.out.2.1];simpa using hp0⟩)
       have hdp:decide (0≤pendI R R.holds[k].id)=false:=by simpa using hp0
       clear hw hlv hrf
       have HK:Hid (keptF (keepH R) R.holds (k+1)=keptF (keepH R) R.holds k):=(show _=_ from keptF_no _ _ _ hlt (by simp[keepH,HF.out]))
       go_wp2
       refine wp_region_quiet_ext (by kernel_rfl) (by kernel_rfl) ?_
       repeat (any_goals (first|go_big_quiet_step (((first|(go_at_call 115;exact calls_ext (HWT.out _ (by repeat (first|exact grown_refl _|exact grown_drewN _ _|refine grown_ext' ?_ _|refine grown_alloc ?_ _|refine grown_drew ?_))))|(go_at_call 117;exact calls_ext (HPN.out _ (by repeat (first|exact grown_refl _|exact grown_drewN _ _|refine grown_ext' ?_ _|refine grown_alloc ?_ _|refine grown_drew ?_)))))))|quiet_step (((first|(go_at_call 115;exact calls_ext (HWT.out _ (by repeat (first|exact grown_refl _|exact grown_drewN _ _|refine grown_ext' ?_ _|refine grown_alloc ?_ _|refine grown_drew ?_))))|(go_at_call 117;exact calls_ext (HPN.out _ (by repeat (first|exact grown_refl _|exact grown_drewN _ _|refine grown_ext' ?_ _|refine grown_alloc ?_ _|refine grown_drew ?_)))))))))
       refine wpQuiet_nil ?_
       intro _ hw'
       obtain⟨xx,hw''⟩:=hw'
       subst hw''
       go_wp2
       go_roundw
       case rel=>exact⟨k+1,by omega,by go_num,by rw[HK.out];exact HGR.out.more (by repeat (first|exact grown_refl _|exact grown_drewN _ _|refine grown_ext' ?_ _|refine grown_alloc ?_ _|refine grown_drew ?_))⟩
       case measure=>simp[intOf];omega
    ·have HF:=Lib.hid (show rwanted R R.holds[k].id=true∧¬rlife R R.holds[k].node=R.holds[k].inc from ⟨hw,by rw[HLF.out.1];exact hlv⟩)
     have hd:(LV == R.holds[k].inc)=false:=by simpa using hlv
     clear hw hlv
     have HK:Hid (keptF (keepH R) R.holds (k+1)=keptF (keepH R) R.holds k):=(show _=_ from keptF_no _ _ _ hlt (by simp[keepH,HF.out]))
     go_wp2
     refine wp_region_quiet_ext (by kernel_rfl) (by kernel_rfl) ?_
     repeat (any_goals (first|go_big_quiet_step (((first|(go_at_call 115;exact calls_ext (HWT.out _ (by repeat (first|exact grown_refl _|exact grown_drewN _ _|refine grown_ext' ?_ _|refine grown_alloc ?_ _|refine grown_drew ?_))))|(go_at_call 117;exact calls_ext (HPN.out _ (by repeat (first|exact grown_refl _|exact grown_drewN _ _|refine grown_ext' ?_ _|refine grown_alloc ?_ _|refine grown_drew ?_)))))))|quiet_step (((first|(go_at_call 115;exact calls_ext (HWT.out _ (by repeat (first|exact grown_refl _|exact grown_drewN _ _|refine grown_ext' ?_ _|refine grown_alloc ?_ _|refine grown_drew ?_))))|(go_at_call 117;exact calls_ext (HPN.out _ (by repeat (first|exact grown_refl _|exact grown_drewN _ _|refine grown_ext' ?_ _|refine grown_alloc ?_ _|refine grown_drew ?_)))))))))
     refine wpQuiet_nil ?_
     intro _ hw'
     obtain⟨xx,hw''⟩:=hw'
     subst hw''
     go_wp2
     go_roundw
     case rel=>exact⟨k+1,by omega,by go_num,by rw[HK.out];exact HGR.out.more (by repeat (first|exact grown_refl _|exact grown_drewN _ _|refine grown_ext' ?_ _|refine grown_alloc ?_ _|refine grown_drew ?_))⟩
     case measure=>simp[intOf];omega
  ·have hge:R.holds.length≤k:=by omega
   have HK:Hid (keptF (keepH R) R.holds k=(rclean R).holds):=(show _=_ from by rw[keptF_all _ _ _ hge];rfl)
   clear hR hge
   go_wp2
   first|go_end0|refine bodyPost_ret (results_none rfl _ _ _) rfl ?_
   refine⟨rfl,?_⟩
   have hN:=RAt.newH (W0:=W) (grown_refl _) HBS.out HR.out HGR.out.grown HGR.out.row HGR.out.own
   rw[show rclean R = { R with holds:=keptF (keepH R) R.holds k } from by rw[HK.out];rfl]
   exact hN
end
theorem rcall_at {bs:Nat→Prop} {W:World} {rb:Nat} {R:RTab} (h:RAt bs W rb R) (n:Int):Calls Tryz.prog 146 #[.pointer (some ⟨rb,0,none⟩),.int .i64 n] W fun e w'=>e = .returned (encRCall n (rcallV R n))∧W.grownBy w' none:=by
 obtain⟨vL,vC,vV,vP,vH,h1,_⟩:=h
 exact rcall_core h1 n
theorem rvalue_at {bs:Nat→Prop} {W:World} {rb:Nat} {R:RTab} (h:RAt bs W rb R) (n:ByteArray):Calls Tryz.prog 120 #[.pointer (some ⟨rb,0,none⟩),.string n] W fun e w'=>e = .returned (encRVal n (rlookV R n))∧W.grownBy w' none:=by
 obtain⟨vL,vC,vV,vP,vH,h1,_⟩:=h
 exact rvalue_core h1 n
theorem rwanted_at {bs:Nat→Prop} {W:World} {rb:Nat} {R:RTab} (h:RAt bs W rb R) (i:ID):Calls Tryz.prog 115 #[.pointer (some ⟨rb,0,none⟩),encID i] W fun e w'=>e = .returned (.bool (rwanted R i))∧W.grownBy w' none:=by
 obtain⟨vL,vC,vV,vP,vH,h1,_⟩:=h
 exact rwanted_core h1 i
theorem rpend_at {bs:Nat→Prop} {W:World} {rb:Nat} {R:RTab} (h:RAt bs W rb R) (i:ID):Calls Tryz.prog 117 #[.pointer (some ⟨rb,0,none⟩),encID i] W fun e w'=>e = .returned (.int .i64 (pendI R i))∧W.grownBy w' none:=by
 obtain⟨vL,vC,vV,vP,vH,h1,_⟩:=h
 exact rpend_core h1 i
theorem rcount_at {bs:Nat→Prop} {W:World} {rb:Nat} {R:RTab} (h:RAt bs W rb R) (i:ID) (b:Bool):Calls Tryz.prog 118 #[.pointer (some ⟨rb,0,none⟩),encID i,.bool b] W fun e w'=>e = .returned (.int .i64 (rcount R i b))∧W.grownBy w' none:=by
 obtain⟨vL,vC,vV,vP,vH,h1,_⟩:=h
 exact rcount_core h1 i b
theorem turn_after {bs:Nat→Prop} {a b c:World} (h:Turn bs a b) (g:b.grownBy c none):Turn bs a c:=
 ⟨g.os.trans h.os,g.tape.trans h.tape,g.output.trans h.output,Nat.le_trans h.size g.size,fun k hk hn=>(g.block k (Nat.lt_of_lt_of_le hk h.size) (by simp)).trans (h.block k hk hn)⟩
theorem turn_trans {bs:Nat→Prop} {a b c:World} (h:Turn bs a b) (g:Turn bs b c):Turn bs a c:=
 ⟨g.os.trans h.os,g.tape.trans h.tape,g.output.trans h.output,Nat.le_trans h.size g.size,fun k hk hn=>(g.block k (Nat.lt_of_lt_of_le hk h.size) hn).trans (h.block k hk hn)⟩
theorem same_end {bs:Nat→Prop} {W w:World} {rb:Nat} {R:RTab} (h:RAt bs W rb R) (hg:W.grownBy w none):RAt bs w rb R∧Turn bs W w:=⟨h.grown hg,turn_grown hg⟩
section
variable {bs : Nat → Prop} {W : World} {rb : Nat} {R : RTab}
theorem rdone_t {i:ID} {p:Pend} {code:Int} (h:(rcallV R p.client).req=p.req∧(rcallV R p.client).ver=i.ver):rdone R i p code = { R with calls:=mput R.calls p.client ⟨(rcallV R p.client).req,(rcallV R p.client).ver,true,code⟩ }:=if_pos h
theorem rdone_f {i:ID} {p:Pend} {code:Int} (h:¬((rcallV R p.client).req=p.req∧(rcallV R p.client).ver=i.ver)):rdone R i p code=R:=if_neg h
set_option maxHeartbeats 8000000 in
set_option maxRecDepth 100000 in
theorem rdone_any (h:RAt bs W rb R) (hbs:∀k,W.heap.size≤k→bs k) (i:ID) (p:Pend) (code:Int) (hl:R.calls.length≤100000000):Calls Tryz.prog 122 #[.pointer (some ⟨rb,0,none⟩),encRPend i p,.int .i64 code] W fun e w'=>e = .returned (.tuple #[])∧RAt bs w' rb (rdone R i p code)∧Turn bs W w':=by
 have HC:=Lib.hid (fun W' (hg:W.grownBy W' none)=>rcall_at (h.grown hg) p.client)
 have HP:=Lib.hid (fun W' (hg:W.grownBy W' none) (c:CallT)=>rput_call (h.grown hg) (fun k hk=>hbs k (Nat.le_trans hg.size hk)) p.client c hl)
 have HA:=Lib.hid h
 have ht:=fun h=>rdone_t (R:=R) (i:=i) (p:=p) (code:=code) h
 have hf:=fun h=>rdone_f (R:=R) (i:=i) (p:=p) (code:=code) h
 clear h
 generalize rdone R i p code=R' at *
 generalize rcallV R p.client=v at *
 obtain⟨vr,vv,vd,vc⟩:=v
 simp only[encRCall,encRPend] at HC HP ⊢
 simp only at ht hf
 by_cases h1:vr=p.req
 ·by_cases h2:vv=i.ver
  ·have HE:=Lib.hid (ht ⟨h1,h2⟩)
   have q1:(vr == p.req)=true:=by simpa using h1
   have q2:(vv == i.ver)=true:=by simpa using h2
   clear ht hf h1 h2
   go_enter Tryz.func122,Tryz.ntmps122
   go_wp2_with (first
    | (go_at_call 146;refine(HC.out _ (World.grownBy_alloc _ _ none)).mono ?_;rintro e w1 ⟨rfl,hg⟩;have hx:=(hg.block W.heap.size (by simp) (by simp)).trans (heap_alloc_new W _);have b0:=(cell_block hx 0).trans rfl;have b1:=(cell_block hx 1).trans rfl;have b2:=(cell_block hx 2).trans rfl;have b3:=(cell_block hx 3).trans rfl;have hwl:=(Array.getElem?_eq_some_iff.1 hx).1;have HG:=Lib.hid (grown_trans (World.grownBy_alloc W _ none) hg);clear hg hx)
    | (go_at_call 114;refine(HP.out _ (by repeat (first|exact HG.out|refine grown_alloc ?_ _|refine grown_drew ?_)) ⟨vr,vv,true,code⟩).mono ?_;rintro e w2 ⟨rfl,hr,ht⟩;have HQ:=Lib.hid (And.intro hr ht);clear hr ht))
   first|go_end0|refine bodyPost_ret (results_none rfl _ _ _) rfl ?_
   refine⟨rfl,?_⟩
   rw[HE.out]
   exact⟨HQ.out.1,turn_then (by repeat (first|exact HG.out|refine grown_alloc ?_ _|refine grown_drew ?_)) HQ.out.2⟩
  ·have HE:=Lib.hid (hf fun h=>h2 h.2)
   have q1:(vr == p.req)=true:=by simpa using h1
   have q2:(vv == i.ver)=false:=by simpa using h2
   clear ht hf h1 h2
   go_enter Tryz.func122,Tryz.ntmps122
   go_wp2_with (go_at_call 146;refine(HC.out _ (World.grownBy_alloc _ _ none)).mono ?_;rintro e w1 ⟨rfl,hg⟩;have hx:=(hg.block W.heap.size (by simp) (by simp)).trans (heap_alloc_new W _);have b0:=(cell_block hx 0).trans rfl;have b1:=(cell_block hx 1).trans rfl;have b2:=(cell_block hx 2).trans rfl;have b3:=(cell_block hx 3).trans rfl;have hwl:=(Array.getElem?_eq_some_iff.1 hx).1;have HG:=Lib.hid (grown_trans (World.grownBy_alloc W _ none) hg);clear hg hx)
   first|go_end0|refine bodyPost_ret (results_none rfl _ _ _) rfl ?_
   refine⟨rfl,?_⟩
   rw[HE.out]
   refine same_end HA.out ?_
   repeat (first|exact HG.out|refine grown_alloc ?_ _|refine grown_drew ?_)
 ·have HE:=Lib.hid (hf fun h=>h1 h.1)
  have q1:(vr == p.req)=false:=by simpa using h1
  clear ht hf h1
  go_enter Tryz.func122,Tryz.ntmps122
  go_wp2_with (go_at_call 146;refine(HC.out _ (World.grownBy_alloc _ _ none)).mono ?_;rintro e w1 ⟨rfl,hg⟩;have hx:=(hg.block W.heap.size (by simp) (by simp)).trans (heap_alloc_new W _);have b0:=(cell_block hx 0).trans rfl;have b1:=(cell_block hx 1).trans rfl;have b2:=(cell_block hx 2).trans rfl;have b3:=(cell_block hx 3).trans rfl;have hwl:=(Array.getElem?_eq_some_iff.1 hx).1;have HG:=Lib.hid (grown_trans (World.grownBy_alloc W _ none) hg);clear hg hx)
  first|go_end0|refine bodyPost_ret (results_none rfl _ _ _) rfl ?_
  refine⟨rfl,?_⟩
  rw[HE.out]
  refine same_end HA.out ?_
  repeat (first|exact HG.out|refine grown_alloc ?_ _|refine grown_drew ?_)
theorem cells8' {W w:World} {a0 a1 a2 a3 a4 a5 a6 a7:Value} {t:TypeId} (h:(W.alloc (.cells #[a0,a1,a2,a3,a4,a5,a6,a7] t)).grownBy w none) :
  w.cell? ⟨W.heap.size,0,none⟩=some a0∧w.cell? ⟨W.heap.size,1,none⟩=some a1∧w.cell? ⟨W.heap.size,2,none⟩=some a2∧w.cell? ⟨W.heap.size,3,none⟩=some a3∧w.cell? ⟨W.heap.size,4,none⟩=some a4∧w.cell? ⟨W.heap.size,5,none⟩=some a5∧w.cell? ⟨W.heap.size,6,none⟩=some a6∧w.cell? ⟨W.heap.size,7,none⟩=some a7:=by
 have e:=(h.block W.heap.size (by simp) (by simp)).trans (heap_alloc_new W _)
 refine⟨?_,?_,?_,?_,?_,?_,?_,?_⟩ <;> simp[World.cell?,e]
def rbegunT (R:RTab) (c:Cmd):RTab:=if rbeginsB R c=true then rbegun R c else R
theorem eraseP_none {α:Type} {f:α→Bool} {l:List α} {k:Nat} (h:NoneB f l k) (hk:l.length≤k):l.eraseP f=l:=
 List.eraseP_of_forall_not fun x hx=>by
  obtain⟨j,hj,rfl⟩:=List.getElem_of_mem hx
  simp[h j hj (Nat.lt_of_lt_of_le hj hk)]
set_option maxHeartbeats 8000000 in
set_option maxRecDepth 100000 in
theorem rbegins_any (h:RAt bs W rb R) (hbs:∀k,W.heap.size≤k→bs k) (c:Cmd) (hl:R.pends.length≤100000000):Calls Tryz.prog 113 #[.pointer (some ⟨rb,0,none⟩),encCmd c] W fun e w'=>e = .returned (.bool (rbeginsB R c))∧RAt bs w' rb (rbegunT R c)∧Turn bs W w':=by
 have HC:=Lib.hid (fun W' (hg:W.grownBy W' none)=>rcall_at (h.grown hg) c.client)
 have HE:=Lib.hid (fun W' (hg:W.grownBy W' none) k hk=>rends_any (h.grown hg) (fun k hk=>hbs k (Nat.le_trans hg.size hk)) k hk hl)
 have HA:=Lib.hid h
 obtain⟨vL,vC,vV,vP,vH,hm,hrest⟩:=h
 have HM:=Lib.hid hm
 have hB:rbeginsB R c=decide ((rcallV R c.client).req<c.req):=rfl
 have ht:rbeginsB R c=true→rbegunT R c=rbegun R c:=fun h=>if_pos h
 have hf:rbeginsB R c=false→rbegunT R c=R:=fun h=>if_neg (by rw[h];decide)
 obtain⟨p,cap,rfl,hcap,hlc⟩:=hm.pends.form
 clear hm hrest
 generalize rbegunT R c=R' at *
 generalize rbeginsB R c=B at *
 generalize rcallV R c.client=v at *
 obtain⟨vr,vv,vd,vc⟩:=v
 simp only[encRCall] at HC
 simp only[encCmd]
 simp only at hB
 by_cases hlt0:vr<c.req
 ·have hd:decide (vr<c.req)=true:=by simpa using hlt0
  rw[hd] at hB
  subst hB
  have HT:Hid (R'=rbegun R c):=(show R'=rbegun R c from ht rfl)
  have hnle:¬c.req≤vr:=by omega
  clear ht hf hd
  go_enter Tryz.func113,Tryz.ntmps113
  go_wp2_with (go_at_call 146;refine(HC.out _ (World.grownBy_alloc _ _ none)).mono ?_;rintro e w1 ⟨rfl,hg⟩;obtain⟨d0,d1,d2,d3,d4,d5,d6,d7⟩:=cells8' hg;have hwl:W.heap.size<w1.heap.size:=(by have:=hg.size;simp at this;omega);have HG:=Lib.hid (grown_trans (World.grownBy_alloc W _ none) hg);clear hg)
  have HG3:Hid (W.grownBy (w1.alloc (.cells #[.int .i64 c.client,.int .i64 vr,.int .i64 vv,.bool vd,.int .i64 vc] 193)) none):=(show W.grownBy (w1.alloc (.cells #[.int .i64 c.client,.int .i64 vr,.int .i64 vv,.bool vd,.int .i64 vc] 193)) none from grown_alloc HG.out _)
  have D2:Hid ((w1.alloc (.cells #[.int .i64 c.client,.int .i64 vr,.int .i64 vv,.bool vd,.int .i64 vc] 193)).cell? ⟨W.heap.size,2,none⟩=some (.int .i64 c.client)):=(show(w1.alloc (.cells #[.int .i64 c.client,.int .i64 vr,.int .i64 vv,.bool vd,.int .i64 vc] 193)).cell? ⟨W.heap.size,2,none⟩=some (.int .i64 c.client) from (World.grownBy_alloc w1 _ none).cell d2 (by simp))
  clear d0 d1 d2 d3 d4 d5 d6 d7
  generalize w1.alloc (.cells #[.int .i64 c.client,.int .i64 vr,.int .i64 vv,.bool vd,.int .i64 vc] 193)=W3 at *
  go_loopw [6] (fun x wr=>∃k:Nat,k≤R.pends.length∧x = .int .i64 k∧NoneB (fun q:ID × Pend=>decide (q.2.client=c.client)) R.pends k∧W3.grownBy wr none) (fun x _=>R.pends.length-(intOf x).toNat)
  case atStart=>exact⟨0,Nat.zero_le _,rfl,noneB_zero,grown_refl _⟩
  case round=>
   obtain⟨k,hk,rfl,hno,hg2⟩:=hrel
   have HG4:=Lib.hid (grown_trans HG3.out hg2)
   have hR:=HM.out.grown HG4.out
   have c7:=hR.c7
   have d2:=hg2.cell D2.out (by simp)
   have HNO:=Lib.hid hno
   clear hno
   by_cases hlt:k<R.pends.length
   ·obtain⟨g,cap',hv',hc,hfz⟩:=(hR.pends.at lenP).resolve_left (fun e=>by rw[e] at hlt;simp at hlt)
    injection hv' with hv1 hv2 hv3
    subst hv1 hv3
    have e2:wr.cell? ⟨g,k*4+2,none⟩=some (.int .i64 R.pends[k].2.client):=hc k hlt 2 _ rfl
    clear hR hv2 hc hfz
    by_cases hi:R.pends[k].2.client=c.client
    ·have hd:(R.pends[k].2.client == c.client)=true:=by rw[hi];simp
     have HI:=Lib.hid hi
     have HLT:=Lib.hid hlt
     clear hi
     go_wp2
     go_quiet (fail)
     go_wp2_with (go_at_call 119;refine(HE.out _ (grown_trans HG4.out (grown_drewN _ _)) k HLT.out).mono ?_;rintro e w2 ⟨rfl,hr,ht⟩;have HQ:=Lib.hid (And.intro hr ht);clear hr ht)
     go_ret
     refine⟨rfl,?_⟩
     rw[HT.out]
     have he:(rbegun R c) = { R with pends:=R.pends.eraseIdx k }:=by
      unfold rbegun
      rw[eraseP_at (k:=k) HNO.out HLT.out (by simpa using HI.out)]
     rw[he]
     exact⟨HQ.out.1,turn_then (grown_trans HG4.out (grown_drewN _ _)) HQ.out.2⟩
    ·have hd:(R.pends[k].2.client == c.client)=false:=by simpa using hi
     have HI:=Lib.hid hi
     clear hi
     go_wp2
     go_quiet (fail)
     go_wp2
     go_roundw
     case rel=>exact⟨k+1,by omega,by go_num,HNO.out.step hlt (by simpa using HI.out),grown_trans hg2 (grown_drewN _ _)⟩
     case measure=>simp[intOf];omega
   ·have hge:R.pends.length≤k:=by omega
    have HGE:=Lib.hid hge
    clear hR hge
    go_wp2
    go_ret
    refine⟨rfl,?_⟩
    rw[HT.out]
    have he:(rbegun R c)=R:=by
     unfold rbegun
     rw[eraseP_none HNO.out HGE.out]
    rw[he]
    exact⟨HA.out.grown HG4.out,turn_grown HG4.out⟩
 ·have hd:decide (vr<c.req)=false:=by simpa using hlt0
  rw[hd] at hB
  subst hB
  have HT:Hid (R'=R):=(show R'=R from hf rfl)
  have hle:c.req≤vr:=by omega
  clear ht hf hd hlt0
  go_enter Tryz.func113,Tryz.ntmps113
  go_wp2_with (go_at_call 146;refine(HC.out _ (World.grownBy_alloc _ _ none)).mono ?_;rintro e w1 ⟨rfl,hg⟩;obtain⟨d0,d1,d2,d3,d4,d5,d6,d7⟩:=cells8' hg;have hwl:W.heap.size<w1.heap.size:=(by have:=hg.size;simp at this;omega);have HG:=Lib.hid (grown_trans (World.grownBy_alloc W _ none) hg);clear hg)
  go_ret
  refine⟨rfl,?_⟩
  rw[HT.out]
  refine same_end HA.out ?_
  repeat (first|exact HG.out|refine grown_alloc ?_ _|refine grown_drew ?_)
end
end Go.Proofs.YtjfelfjobeeenaaGreat
