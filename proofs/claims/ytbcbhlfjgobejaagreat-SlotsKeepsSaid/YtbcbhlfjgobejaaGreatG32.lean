/- SlotsKeeps: the walk. Conditions: rows in memory. A law that leaves all old memory alone: its row's last step. Conditions: none. What came in, as it reads; and that it reads behind a call that leaves old memory as it did. Conditions: none. -/
import Derived.Test.YtbcbhlfjgobejaaGreatG31
import Derived.Deep.DeepCutAuto
import Derived.Test.YtbcbhlfjgobejaaGreatRows
import Derived.WalkKit
import Derived.ProofKit
import Derived.OpenShut
import Derived.Test.YtbcbhlfjgobejaaGreatG28
import Derived.Deep.Slices
import Derived.Deep.Fields
import Derived.ChangeSame
import Derived.ReadAgain
import Derived.ChangeBears
import Derived.Lib.SmallJoins
set_option linter.unusedSimpArgs false
set_option linter.unusedVariables false
namespace Go.Proofs.YtbcbhlfjgobejaaGreat
open Go.RowKit Go.Sf Go.Shelf
set_option maxHeartbeats 8000000 in
set_option maxRecDepth 100000 in
theorem keeps_walk (nb:Nat) (hnb:nb<256) (v1 v2:Value) (l:List CallM) (inl:List Int) (W:World) (h1:CallRow W v1 l) (h2:IntRow W v2 inl):Calls Tryz.prog 5 #[.int .u8 (nb:Int),v1,v2] W fun e w'=>e = .returned (.bool true)∧W.grownBy w' none:=by
 have HLA:=Lib.hid (large19_any v1 l W h1)
 have HW:=Lib.hid works9_any
 obtain⟨p1,cap1,rfl,hl1,hok,hrow⟩:=h1
 obtain⟨p2,cap2,rfl,hl2,hir,hirow⟩:=h2
 have HOK:=Lib.hid hok
 have HROW:=Lib.hid hrow
 have HIR:=Lib.hid hir
 have HIROW:=Lib.hid hirow
 obtain⟨m,hm⟩:∃m,m=l.length:=⟨_,rfl⟩
 obtain⟨mi,hmi⟩:∃m,m=inl.length:=⟨_,rfl⟩
 have HM:=Lib.hid hm
 have HMI:=Lib.hid hmi
 rw[←hm] at HLA hl1 ⊢
 rw[←hmi] at hl2 ⊢
 clear hok hrow hir hirow hm hmi
 have hN:∀w:World,Hid (Calls Tryz.prog 19 #[.int .i64 (3+(nb:Int)%18)] w fun e w'=>∃db,e = .returned (.pointer (some ⟨db,0,none⟩))∧w.grownBy w' none∧w.heap.size≤db∧∀own:Nat→Prop,(∀k,own k→k<w.heap.size)→DRep own w' db (Dk.new (3+(nb:Int)%18))):=fun w=>Lib.hid (dnew _ w)
 have HN:=Lib.hid hN
 clear hN
 by_cases hmi1:100<mi
 ·go_enter Tryz.func5,Tryz.ntmps5
  go_upto_region 3 with (first
   | (go_at_call 27;refine HLA.out.mono ?_;rintro e w1 ⟨r,rfl,hg,hr⟩;have HG1:=Lib.hid hg;clear hg hr HLA)
   | (go_at_call 17;refine(HW.out _).mono ?_;rintro e w2 ⟨rfl,hg⟩;have HG2:=Lib.hid hg;clear hg))
  all_goals go_ret
  all_goals exact⟨rfl,grown_trans HG1.out HG2.out⟩
 ·go_enter Tryz.func5,Tryz.ntmps5
  go_upto_region 4 with (first
   | (go_at_call 27;refine HLA.out.mono ?_;rintro e w1 ⟨r,rfl,hg,hr⟩;have HG1:=Lib.hid hg;have HR1:=Lib.hid hr;clear hg hr HLA)
   | (go_at_call 17;refine(HW.out _).mono ?_;rintro e w2 ⟨rfl,hg⟩;have HG2:=Lib.hid hg;clear hg)
   | (go_at_call 19;refine(HN.out _).out.mono ?_;rintro e w2 ⟨db,rfl,hg,-,hd⟩;have HG2:=Lib.hid (grown_trans HG1.out hg);have HOP:=Lib.hid (kopen_any HG2.out (own:=fun k=>k<w1.heap.size) (fun k hk=>Nat.lt_of_lt_of_le hk HG1.out.size) (hd _ (fun k hk=>hk)) (steady_new _) (by show 0+(min 4096 (max 0 (3+(nb:Int)%18))).toNat<1000000;omega));clear hg hd HN))
  ·go_ret
   exact⟨rfl,grown_trans HG1.out HG2.out⟩
  ·have HLEN:=Lib.hid (HR1.out (by first|assumption|simp_all))
   clear HR1
   have HSZ:=Lib.hid HG1.out.size
   go_upto_region 5 with (go_at_call 18;refine HOP.out.mono ?_;rintro e w3 ⟨st,ks,rfl,hks,hkr,ht⟩;rw[openS_zero (bk_new _) hks] at hkr;have HK0:=Lib.hid hkr;clear hks hkr ht HOP)
   have HK1:Hid (KMem W (fun k=>k<w1.heap.size) st db (S0 (3+(nb:Int)%18)) [] (fun _=>[]) (.slice none 0 0) 0 w3):=(show KMem _ _ _ _ _ _ _ _ _ _ from ⟨HK0.out,kinv_new _,(by show(1:Int)≤((0:Nat):Int)+1;omega),(by show(min 4096 (max 0 (3+(nb:Int)%18))).toNat≤4096;omega),hrow_nil _,Nat.le_refl _,fun g hg=>by simp[Value.ownBlock] at hg⟩)
   clear HK0 HG2 HG1 HSZ
   go_wp2
   go_loopw [8,9,10,11] (fun s e a i wr=>KLoop W m db s e a i wr) (fun _ _ _ i _=>m-(intOf i).toNat)
   case atStart=>exact⟨_,st,_,_,_,0,by omega,rfl,rfl,rfl,HK1.out⟩
   case round=>
    clear HK1
    obtain⟨own,st,S,all,blk,k,hkm,rfl,rfl,rfl,hkmem⟩:=hrel
    have HK:=Lib.hid hkmem
    clear hkmem
    by_cases hlt:k<m
    ·go_upto_if 47 with fail
     have HKM:=Lib.hid hkm
     have HLT:Hid (k<m∧k<60):=(show _∧_ from ⟨hlt,by have:=HLEN.out.1;have:=HM.out;omega⟩)
     go_cut [] from 47 to 53 (fun wx=>∃S1,KMem W own st db S1 all blk u10 k wx)
     case first=>
      by_cases hin:k<mi
      ·have hkl:k<inl.length:=by rw[←HMI.out];exact hin
       obtain⟨b2,off2,rfl,cin⟩:∃b off,p2=some ⟨b,off,none⟩∧wr.cell? ⟨b,off+k,none⟩=some (.int .i64 inl[k]):=by
        rcases HIROW.out with h0|⟨b,off,rfl,h1⟩
        ·rw[h0] at hkl;simp at hkl
        ·exact⟨b,off,rfl,HK.out.kr.gr.cell (h1 k hkl) (by simp)⟩
       have hir2:=HIR.out inl[k] (List.getElem_mem hkl)
       have HFA:=Lib.hid (HK.out.kr.fail inl[k] hir2.2)
       generalize inl[k]=fn at *
       go_wp2_with (go_at_call 28;refine HFA.out.mono ?_;rintro e w5 ⟨rfl,hk5,ht5⟩;have HK5:=Lib.hid (HK.out.failed _ hk5 ht5);clear hk5 ht5 HFA)
       go_meet
       case rel=>exact⟨_,HK5.out⟩
      ·go_wp2
       go_meet
       case rel=>exact⟨S,HK.out⟩
     case rest=>
      obtain⟨S1,hk1⟩:=hcut
      clear HK
      have HK:=Lib.hid hk1
      clear hk1
      have hkl:k<l.length:=by rw[←HM.out];exact HLT.out.1
      have hgetD:l.getD k callD=l[k]:=by simp[List.getD_eq_getElem?_getD,List.getElem?_eq_getElem hkl]
      obtain⟨b1,off1,rfl,hcx⟩:∃b off,p1=some ⟨b,off,none⟩∧∀j u,(callCells l[k])[j]? = some u→wc.cell? ⟨b,off+k*5+j,none⟩=some u:=by
       rcases HROW.out with h0|⟨b,off,rfl,h1⟩
       ·rw[h0] at hkl;simp at hkl
       ·exact⟨b,off,rfl,fun j u hu=>HK.out.kr.gr.cell (h1 k hkl j u (by rw[hgetD];exact hu)) (by simp)⟩
      have HX:=Lib.hid (HOK.out l[k] (List.getElem_mem hkl))
      have HXL:=Lib.hid (HLEN.out.2 l[k] (List.getElem_mem hkl))
      clear hgetD
      generalize l[k]=x at *
      have x0:=hcx 0 (.int .u8 x.kind) rfl
      have x1:=hcx 1 (.slice x.p x.B.length x.c) rfl
      have x2:=hcx 2 (.int .u8 x.times) rfl
      have x3:=hcx 3 (.int .i64 x.n) rfl
      have x4:=hcx 4 (.slice x.fp x.F.length x.fc) rfl
      rw[Nat.add_zero] at x0
      have hlt1:=cell_lt x0
      clear hcx hkl
      have hgA:=World.grownBy_alloc wc (.cells (callCells x).toArray 49) none
      have hnA:=heap_alloc_new wc (.cells (callCells x).toArray 49)
      have HKA:=Lib.hid (HK.out.more hgA)
      have HOA:Hid (own wc.heap.size∨(wc.heap.size≤wc.heap.size∧wc.heap.size<(wc.alloc (.cells (callCells x).toArray 49)).heap.size)):=(show _∨_ from Or.inr ⟨Nat.le_refl _,by simp⟩)
      have HNX:=Lib.hid HKA.out.kr.next
      have HBX:=Lib.hid hnA
      have HXB:Hid (W.heap.size≤wc.heap.size):=(show _≤_ from HK.out.kr.gr.size)
      obtain⟨i0,z0,by0,hi,hz,hs,hb,hzs,hb2⟩:=hinfo
      clear HK hgA hnA
      go_upto_region 14 with fail
      generalize hWA:wc.alloc (.cells #[.int .u8 x.kind,.slice x.p x.B.length x.c,.int .u8 x.times,.int .i64 x.n,.slice x.fp x.F.length x.fc] 49)=wa at *
      have HWA:Hid (wc.alloc (.cells (callCells x).toArray 49)=wa):=(show _=_ from hWA)
      rw[HWA.out] at HKA HNX HBX HOA
      clear hWA HWA x0 x1 x2 x3 x4 hlt1
      obtain⟨ownA,hownA⟩:∃o:Nat→Prop,o=fun q=>own q∨(wc.heap.size≤q∧q<wa.heap.size):=⟨_,rfl⟩
      rw[←hownA] at HKA
      have HOA2:Hid (ownA wc.heap.size):=(show ownA _ from by rw[hownA];exact HOA.out)
      clear hownA HOA
      generalize wc.heap.size=xb at *
      obtain⟨pa,ca,hpa,-,-⟩:=SRow.form HKA.out.row
      subst hpa
      have hL60:all.length≤60:=by have:=HKA.out.len;have:=HLT.out.2;omega
      go_upto_region 17 with (first
       | (go_at_call 29;refine HNX.out.mono ?_;rintro e w5 ⟨rfl,h5⟩;obtain rfl:wa=w5:=h5.symm)
       | (at_builtin;refine wpList_sapp (E:=54) (sz:=2) (enc:=hasE) (v:=.slice none 0 0) (l:=[]) (m:=all) _ rfl _ _ 46 rfl hasE_len hasE_one i0 z0 by0 Tryz.underlying46 hi hz hs hb hzs (by decide) hb2 rfl (hrow_nil _) rfl (HRow.y HKA.out.row) (by simp;omega) all.length (by simp) ?_;intro pn cn w6 hap;have HAP:=Lib.hid hap;clear hap))
      have HN6:=Lib.hid (KNow.start HKA.out HAP.out)
      have HB6:=Lib.hid ((HAP.out.2.1.block xb (Array.getElem?_eq_some_iff.1 HBX.out).1 (by simp[Value.ownBlock])).trans HBX.out)
      obtain⟨own6,hown6⟩:∃o:Nat→Prop,o=fun q=>ownA q∨(wa.heap.size≤q∧q<w6.heap.size):=⟨_,rfl⟩
      rw[←hown6] at HN6
      have HO6:Hid (own6 xb):=(show own6 _ from by rw[hown6];exact Or.inl HOA2.out)
      clear hown6 HOA2
      clear HAP HKA HNX HBX
      have y0:w6.cell? ⟨xb,0,none⟩=some (.int .u8 x.kind):=(cell_block HB6.out 0).trans rfl
      have y3:w6.cell? ⟨xb,3,none⟩=some (.int .i64 x.n):=(cell_block HB6.out 3).trans rfl
      have HBG:Hid (∀w',w6.grownBy w' none→w'.heap[xb]? = some (.cells (callCells x).toArray 49 (0,0))):=(show ∀_,_→_=_ from fun w' hg=>(hg.block xb (Array.getElem?_eq_some_iff.1 HB6.out).1 (by simp)).trans HB6.out)
      have hk0:=HX.out.k
      go_upto_region 18 with fail
      go_cut [72] from 63 to 72 (fun c wx=>c = .bool (decide (x.kind%12=5∨x.kind%12=6))∧wx=w6)
      case first=>
       by_cases c5:x.kind%12=5
       ·go_wp2
        go_meet
        case rel=>exact⟨by simp[c5],rfl⟩
       ·by_cases c6:x.kind%12=6
        ·go_wp2
         go_meet
         case rel=>exact⟨by simp[c6],rfl⟩
        ·go_wp2
         go_meet
         case rel=>exact⟨by simp[c5,c6],rfl⟩
      case rest=>
       obtain⟨rfl,rfl⟩:=hcut
       generalize hwc:wc=w7 at *
       clear hwc
       go_upto_if 72 with fail
       go_cut [14,15,16,17] from 63 to 115 (fun nv f _ _ wx=>wx.heap[xb]? = some (.cells (callCells x).toArray 49 (0,0))∧∃pn' n' cn',nv = .slice pn' n' cn'∧KMid W st db all (.slice pa all.length ca) (k+1) (.slice pn' n' cn') f wx)
       case first=>
        by_cases hrm:x.kind%12=5∨x.kind%12=6
        ·by_cases hall:all = []
         ·subst hall
          go_wp2
          exact⟨⟨own6,st,S1,[],blk,k+1,by have:=HLT.out;omega,by simp,rfl,rfl,HN6.out.mem.up⟩,by have:=HLT.out;simp[intOf];omega⟩
         ·have hpos:0<all.length:=List.length_pos_iff.2 hall
          obtain⟨ix,hix,hixl⟩:=idx_of x.n hpos hL60
          go_upto_region 21 with fail
          rw[hix]
          clear hix
          obtain⟨ga,hga,cix⟩:∃ga,pa=some ⟨ga,0,none⟩∧w7.cell? ⟨ga,ix*2,none⟩=some (.int .i64 all[ix].1):=by
           rcases SRow.at hasE_len HN6.out.mem.row with h0|⟨g,c,e,hc,_⟩
           ·rw[h0] at hpos;simp at hpos
           ·injection e with e1
            exact⟨g,e1,hc ix hixl 0 _ rfl⟩
          subst hga
          have HRM:=Lib.hid (HN6.out.mem.kr.rem all[ix].1 (by rw[HN6.out.mem.inv.late];decide))
          have HREM:=Lib.hid (fun w2 w3 v3 hr ht hv hg hn=>HN6.out.rem hixl (by have:=HLT.out.2;omega) (w2:=w2) (w3:=w3) (v3:=v3) hr ht hv hg hn)
          have HTA:=Lib.hid (fun w2 (ht:Turn (fun k=>¬own6 k) w7 w2)=>HRow.turn HN6.out.mem.row (fun g hg=>(HN6.out.mem.own_ g hg).1) ht)
          generalize all[ix].1=qk at *
          generalize (S1.rem qk).2=fv at *
          generalize (S1.rem qk).1=SR at *
          have e1:(0:Int)≤(ix:Int):=by omega
          have e2:(ix:Int)<(all.length:Int):=by omega
          go_upto_region 22 with (go_at_call 30;refine HRM.out.mono ?_;rintro e w8 ⟨rfl,hr,ht⟩;have HR:=Lib.hid hr;have HT:=Lib.hid ht;clear hr ht)
          have HWO:=Lib.hid (without_any (HTA.out w8 HT.out) ix hixl (by omega))
          go_wp2_with (go_at_call 31;refine HWO.out.mono ?_;rintro e w9 ⟨v9,rfl,hv,hg,hn⟩;obtain⟨p9,n9,c9,h9⟩:=hrow_form3 hv;subst h9;have HV:=Lib.hid hv;have HG:=Lib.hid hg;have HNN:=Lib.hid hn;clear hv hg hn)
          go_meet
          case rel=>exact⟨(HG.out.block xb (Nat.lt_of_lt_of_le (Array.getElem?_eq_some_iff.1 HB6.out).1 HT.out.size) (by simp)).trans ((HT.out.block xb (Array.getElem?_eq_some_iff.1 HB6.out).1 (fun e=>e HO6.out)).trans HB6.out),_,_,_,rfl,HREM.out _ _ _ HR.out HT.out HV.out HG.out HNN.out⟩
        ·have HBY:=Lib.hid (bytes19_any (HX.out.grown HN6.out.mem.kr.gr))
         have HLX:=Lib.hid (bytesC_len x)
         have HBLX:=Lib.hid (bytesC_BL HX.out)
         have y0:=(cell_block HB6.out 0).trans rfl
         have hld:∀w':World,w'.heap[xb]? = some (.cells (callCells x).toArray 49 (0,0))→w'.cell? ⟨xb,0,none⟩=some (.int .u8 x.kind)∧w'.cell? ⟨xb,1,none⟩=some (.slice x.p x.B.length x.c)∧w'.cell? ⟨xb,2,none⟩=some (.int .u8 x.times)∧w'.cell? ⟨xb,3,none⟩=some (.int .i64 x.n)∧w'.cell? ⟨xb,4,none⟩=some (.slice x.fp x.F.length x.fc):=fun w' h=>⟨(cell_block h 0).trans rfl,(cell_block h 1).trans rfl,(cell_block h 2).trans rfl,(cell_block h 3).trans rfl,(cell_block h 4).trans rfl⟩
         have HLD:=Lib.hid hld
         obtain⟨z0',z1',z2',z3',z4'⟩:=hld w7 HB6.out
         clear hld y0 y3
         have HBY2:Hid (∀w',W.grownBy w' none→Calls Tryz.prog 32 #[.agg #[.int .u8 x.kind,.slice x.p x.B.length x.c,.int .u8 x.times,.int .i64 x.n,.slice x.fp x.F.length x.fc]] w' fun e w''=>e = .returned (.string (ofB (bytesC x)))∧w'.grownBy w'' none):=(show ∀_,_→Calls _ _ _ _ _ from fun w' hg=>bytes19_any (HX.out.grown hg))
         have HBS:=Lib.hid (strB_ofB HBLX.out)
         generalize bytesC x=bx at *
         go_upto_region 25 with (first
          | (rw[hcv])
          | (go_at_call 32;refine(HBY2.out _ HN6.out.mem.kr.gr).mono ?_;rintro e w8 ⟨rfl,hg8⟩;obtain⟨yv,w9,hcv,hg9,hy⟩:=conv_strP w8 (ofB bx) (by rw[ofB_size];have:=HLX.out;omega);have HN9:=Lib.hid ((HN6.out.grown hg8).more hg9);have HY:=Lib.hid hy;have HG9:=Lib.hid (grown_trans hg8 hg9);clear hg8 hg9 hy)
          | (go_at_call 20;refine(HN9.out.mem.kr.put (HY.out.mono fun k hk=>Or.inr hk) (by rw[HBS.out];exact HBLX.out) (by rw[HBS.out];have:=HLX.out;omega) (by rw[HN9.out.mem.inv.late];decide)).mono ?_;rintro e w10 ⟨rfl,hr,ht⟩;have HR:=Lib.hid hr;have HT:=Lib.hid ht;clear hr ht))
         rw[HBS.out] at HR ⊢
         have hkey:=KInv.put_key HN9.out.mem.inv (by have:=HN9.out.mem.next;have:=HLT.out.2;omega) (b:=bx) (by have:=HLX.out;omega)
         have HPUT:=Lib.hid (fun w5 w6 v' hg ha=>HN9.out.put (by have:=HLT.out.2;omega) (b:=bx) (by have:=HLX.out;omega) HR.out HT.out (w5:=w5) (w6:=w6) (v':=v') hg ha)
         have HGW:Hid (W.grownBy w10 none):=(show World.grownBy _ _ _ from HR.out.gr)
         have HNV:Hid (HRow w10 (.slice pn all.length cn) all):=(show HRow _ _ _ from HRow.turn HN9.out.row (fun g hg=>(HN9.out.own_ g hg).1) HT.out)
         have h9:=HBG.out w9 HG9.out
         have h10:w10.heap[xb]? = some (.cells (callCells x).toArray 49 (0,0)):=(HT.out.block xb (Array.getElem?_eq_some_iff.1 h9).1 (fun e=>e (Or.inl HO6.out))).trans h9
         have HB10:=Lib.hid h10
         have HXN:Hid (∀g,(Value.slice pn all.length cn).ownBlock=some g→g≠xb):=(show ∀_,_→_ from fun g hg e=>by
          subst e
          exact own_ne (HNV.out) h10 (by decide) hg)
         obtain⟨q0,q1,q2,q3,q4⟩:=HLD.out w10 h10
         have HBY3:=Lib.hid (HBY2.out w10 HGW.out)
         clear HR HT h9 h10 HN9 HY hcv HG9 HN6 HBY HBY2 HB6 z0' z1' z2' z3' z4'
         generalize (S1.put bx).2.2=fv at *
         generalize (S1.put bx).2.1=kv at *
         rcases hkey with ⟨rfl,rfl⟩|hne
         ·go_wp2_with (first
           | (go_at_call 32;refine HBY3.out.mono ?_;rintro e w11 ⟨rfl,hg⟩;have HG11:=Lib.hid hg;clear hg)
           | (at_builtin;refine wpList_sapp (E:=54) (sz:=2) (enc:=hasE) (v:=.slice pn all.length cn) (l:=all) (m:=[(S1.next,bx)]) _ rfl _ _ 46 rfl hasE_len hasE_one i0 z0 by0 Tryz.underlying46 hi hz hs hb hzs (by decide) hb2 rfl ((HNV.out.kept HG11.out).kept (World.grownBy_alloc _ _ none)) rfl (yhas_one _ (S1.next,bx)) (by simp;omega) (all.length+1) (by simp) ?_;intro p12 c12 w12 hap;have HAP:=Lib.hid hap;clear hap))
          go_meet
          case rel=>exact⟨(HAP.out.2.1.block xb (Nat.lt_of_lt_of_le (Array.getElem?_eq_some_iff.1 HB10.out).1 (Nat.le_trans HG11.out.size (by simp))) (fun e=>HXN.out _ e.symm rfl)).trans (((World.grownBy_alloc _ _ none).block xb (Nat.lt_of_lt_of_le (Array.getElem?_eq_some_iff.1 HB10.out).1 HG11.out.size) (by simp)).trans ((HG11.out.block xb (Array.getElem?_eq_some_iff.1 HB10.out).1 (by simp)).trans HB10.out)),_,_,_,rfl,HPUT.out _ _ _ (grown_trans HG11.out (World.grownBy_alloc _ _ none)) HAP.out⟩
         ·go_wp2_with (first
           | (go_at_call 32;refine HBY3.out.mono ?_;rintro e w11 ⟨rfl,hg⟩;have HG11:=Lib.hid hg;clear hg)
           | (at_builtin;refine wpList_sapp (E:=54) (sz:=2) (enc:=hasE) (v:=.slice pn all.length cn) (l:=all) (m:=[(S1.next,bx)]) _ rfl _ _ 46 rfl hasE_len hasE_one i0 z0 by0 Tryz.underlying46 hi hz hs hb hzs (by decide) hb2 rfl ((HNV.out.kept HG11.out).kept (World.grownBy_alloc _ _ none)) rfl (yhas_one _ (S1.next,bx)) (by simp;omega) (all.length+1) (by simp) ?_;intro p12 c12 w12 hap;have HAP:=Lib.hid hap;clear hap))
          go_meet
          case rel=>exact⟨(HAP.out.2.1.block xb (Nat.lt_of_lt_of_le (Array.getElem?_eq_some_iff.1 HB10.out).1 (Nat.le_trans HG11.out.size (by simp))) (fun e=>HXN.out _ e.symm rfl)).trans (((World.grownBy_alloc _ _ none).block xb (Nat.lt_of_lt_of_le (Array.getElem?_eq_some_iff.1 HB10.out).1 HG11.out.size) (by simp)).trans ((HG11.out.block xb (Array.getElem?_eq_some_iff.1 HB10.out).1 (by simp)).trans HB10.out)),_,_,_,rfl,HPUT.out _ _ _ (grown_trans HG11.out (World.grownBy_alloc _ _ none)) HAP.out⟩
       case rest=>
        obtain⟨hbx,pn',n',cn',rfl,own8,S8,now,blk8,⟨rfl,hm⟩|⟨rfl,hm⟩|⟨rfl,ho⟩⟩:=hcut
        ·clear HN6 HB6 HBG HO6 y0 y3
         go_wp2
         exact⟨⟨own8,st,S8,all,blk8,k+1,by have:=HLT.out;omega,by simp,rfl,rfl,hm⟩,by have:=HLT.out;simp[intOf];omega⟩
        ·have hoff:=hm.kr.off
         rw[hm.inv.off] at hoff
         have HOFF:=Lib.hid hoff
         obtain⟨p0,c0,e0,-,-⟩:=SRow.form hm.row
         injection e0 with e1 e2 e3
         subst e1 e2 e3
         have hml:=hm.len
         have HSM:=Lib.hid (same_true hm.kr hm.inv.recs hm.inv.good (by have:=hm.next;have:=HLT.out.2;omega) (by have:=HLT.out.2;omega) hm.row)
         have HMM:=Lib.hid hm
         clear HN6 HB6 HBG HO6 y0 y3 hm hoff
         go_wp2_with (first
          | (go_at_call 33;refine HOFF.out.mono ?_;rintro e w13 ⟨rfl,h5⟩;obtain rfl:wc=w13:=h5.symm)
          | (go_at_call 35;refine HSM.out.mono ?_;rintro e w14 ⟨rfl,hg⟩;have HG14:=Lib.hid hg;clear hg))
         exact⟨⟨own8,st,S8,now,blk8,k+1,by have:=HLT.out;omega,by simp,rfl,rfl,HMM.out.grown HG14.out⟩,by have:=HLT.out;simp[intOf];omega⟩
        ·obtain⟨nn,hnn,hbad⟩:=ho.bad
         have hoff:=ho.kr.off
         rw[hbad.off] at hoff
         have HOFF:=Lib.hid hoff
         have HON:=Lib.hid (ho.kr.on HX.out.f HX.out.fb (by have:=HXL.out.2;omega))
         have HBAD:=Lib.hid hbad
         have HHO:=Lib.hid ho
         have z4:wc.cell? ⟨xb,4,none⟩=some (.slice x.fp x.F.length x.fc):=(cell_block hbx 4).trans rfl
         clear HN6 HB6 HBG HO6 y0 y3 ho hbad hoff hbx
         go_upto_region 36 with (first
          | (go_at_call 33;refine HOFF.out.mono ?_;rintro e w13 ⟨rfl,h5⟩;obtain rfl:wc=w13:=h5.symm)
          | (go_at_call 34;refine HON.out.mono ?_;rintro e w14 ⟨rfl,hd,hg,ht⟩;have HT14:=Lib.hid ht;have HOP:=Lib.hid (kopen_any hg HHO.out.kr.old hd (HBAD.out.on x.F).1 (by rw[(HBAD.out.on x.F).2.1,(HBAD.out.on x.F).2.2];show 0+nn<1000000;omega));clear hd hg ht)
          | (go_at_call 18;refine HOP.out.mono ?_;rintro e w15 ⟨st2,ks,rfl,hks,hkr,ht⟩;have HKS:=Lib.hid hks;have HKR:=Lib.hid hkr;have HT15:=Lib.hid (HT14.out.trans ht);clear hks hkr ht))
         have hop:=HHO.out.opened HKS.out HKR.out HT15.out
         have hform:=SRow.form HHO.out.nrow
         obtain⟨p0,c0,e0,-,-⟩:=hform
         injection e0 with e1 e2 e3
         subst e1 e2 e3
         have HLL:Hid (k+1≤61):=(show _≤_ from by have:=HLT.out.2;omega)
         clear HON HBAD HHO HKS HKR HT15 HT14 HOP HOFF z4
         generalize openS (S8.d.on x.F) ks=S9 at *
         go_upto_region 38 with fail
         go_cut [148] from 141 to 148 (fun c wx=>(c = .bool false∧∃blk9,KMem W own8 st2 db S9 all blk9 (.slice pa all.length ca) (k+1) wx)∨(c = .bool true∧∃blk9,KMem W own8 st2 db S9 now blk9 (.slice pn' now.length cn') (k+1) wx))
         case first=>
          rcases hop with ⟨blk9,hm⟩|⟨blk9,hm,har,hne⟩
          ·have HSM:=Lib.hid (same_true hm.kr hm.inv.recs hm.inv.good (by have:=hm.next;have:=HLT.out.2;omega) (by have:=hm.len;have:=HLT.out.2;omega) hm.row)
           have HMM:=Lib.hid hm
           clear hm
           go_wp2_with (go_at_call 35;refine HSM.out.mono ?_;rintro e w16 ⟨rfl,hg⟩;have HG16:=Lib.hid hg;clear hg)
           go_meet
           case rel=>exact Or.inl ⟨rfl,blk9,HMM.out.grown HG16.out⟩
          ·have hkk:=hm.keys HLL.out
           have HSM:=Lib.hid (same_false hm.kr hkk.1 hkk.2 har hne)
           have HMM:=Lib.hid hm
           clear hm hkk har hne
           go_wp2_with (go_at_call 35;refine HSM.out.mono ?_;rintro e w16 ⟨rfl,hg⟩;have HG16:=Lib.hid hg;clear hg)
           go_meet
           case rel=>exact Or.inr ⟨rfl,blk9,HMM.out.grown HG16.out⟩
         case rest=>
         clear hop
         have hcut1:=hcut
         clear hcut
         generalize hwc0:wc=w20 at *
         clear hwc0
         go_upto_if 148 with fail
         go_cut [10] from 148 to 149 (fun v wx=>∃p n c al blk9,v = .slice p n c∧KMem W own8 st2 db S9 al blk9 (.slice p n c) (k+1) wx)
         case first=>
          rcases hcut1 with ⟨rfl,blk9,hm⟩|⟨rfl,blk9,hm⟩
          ·go_wp2
           go_meet
           case rel=>exact⟨_,_,_,all,blk9,rfl,hm⟩
          ·go_wp2
           go_meet
           case rel=>exact⟨_,_,_,now,blk9,rfl,hm⟩
         case rest=>
          clear hcut1
          obtain⟨p9,n9,c9,al,blk9,rfl,hm⟩:=hcut
          obtain⟨p0,c0,e0,-,-⟩:=SRow.form hm.row
          injection e0 with e1 e2 e3
          subst e1 e2 e3
          have hml:=hm.len
          have HSM:=Lib.hid (fun (w':World) (hg:wc.grownBy w' none)=>same_true (hm.grown hg).kr hm.inv.recs hm.inv.good (by have:=hm.next;have:=HLT.out.2;omega) (by have:=hm.len;have:=HLT.out.2;omega) (hm.grown hg).row)
          have HNX:=Lib.hid hm.kr.next
          have HMM:=Lib.hid hm
          have HFIN:Hid (∀w',wc.grownBy w' none→KLoop W m db (.pointer (some ⟨st2,0,none⟩)) (.int .i64 0) (.slice p9 al.length c9) (.int .i64 ((k:Int)+1)) w'):=(show ∀_,_→KLoop _ _ _ _ _ _ _ _ from fun w' hg=>⟨own8,st2,S9,al,blk9,k+1,by have:=HLT.out;omega,by simp,rfl,rfl,hm.grown hg⟩)
          generalize hwc9:wc=w17 at *
          clear hwc9
          go_upto_region 40 with fail
          rcases Nat.eq_zero_or_pos al.length with h0|h0
          ·have h00:al = []:=List.eq_nil_of_length_eq_zero h0
           subst h00
           clear hm h0 hml
           simp only[List.length_nil] at HSM HFIN ⊢
           refine wp_region_quiet_ext (by kernel_rfl) (by kernel_rfl) ?_
           repeat (any_goals (first|go_big_quiet_step (fail)|quiet_step (fail)))
           refine wpQuiet_nil ?_
           intro _ hw'
           obtain⟨xx,hw''⟩:=hw'
           subst hw''
           have HG9:=Lib.hid (grown_ext w17 xx)
           generalize ext w17 xx=w18 at *
           have HSM2:=Lib.hid (HSM.out w18 HG9.out)
           go_wp2_with (go_at_call 35;refine HSM2.out.mono ?_;rintro e w19 ⟨rfl,hg⟩;have HG19:=Lib.hid hg;clear hg)
           exact⟨HFIN.out _ (grown_trans HG9.out HG19.out),by have:=HLT.out;simp[intOf];omega⟩
          ·obtain⟨n1,hn1⟩:∃n1,al.length=n1+1:=⟨al.length-1,by omega⟩
           have hl1:n1<al.length:=by omega
           have hkey:=(hm.inv.good.key (List.getElem_mem hl1)).2
           obtain⟨g9,hg9,c9c⟩:∃g,p9=some ⟨g,0,none⟩∧w17.cell? ⟨g,n1*2,none⟩=some (.int .i64 al[n1].1):=by
            rcases SRow.at hasE_len hm.row with e0|⟨g,c,e,hc,_⟩
            ·rw[e0] at h0;simp at h0
            ·injection e with e1
             exact⟨g,e1,hc n1 hl1 0 _ rfl⟩
           subst hg9
           have hgl9:=cell_lt c9c
           have HNX2:Hid (∀x:Ext,Calls Tryz.prog 29 #[.pointer (some ⟨st2,0,none⟩)] (ext w17 x) fun e w'=>e = .returned (.int .i64 S9.next)∧(ext w17 x).grownBy w' none):=(show ∀x,Calls _ _ _ _ _ from fun x=>((hm.grown (grown_ext w17 x)).kr.next).mono (by rintro e w' ⟨rfl,rfl⟩;exact⟨rfl,grown_refl _⟩))
           clear hm
           generalize al[n1].1=q9 at *
           have hd:decide (S9.next≤q9)=false:=by rw[decide_eq_false_iff_not];omega
           have hb9:n1≤99:=by have:=HLT.out.2;omega
           rw[hn1] at HSM HFIN ⊢
           have f1:(0:Int)<((n1:Nat):Int)+1:=by omega
           have f2:(0:Int)≤(n1:Int):=by omega
           have f3:(n1:Int)<(n1:Int)+1:=by omega
           have f4:IntKind.i64.wrap ((n1:Nat):Int)=(n1:Int):=by rw[IntKind.wrap_i64];omega
           have f5:decide ((0:Int)<(n1:Int)+1)=true:=by rw[decide_eq_true_iff];omega
           have f6:((n1+1:Nat):Int)-1=(n1:Int):=by omega
           clear h0 hn1 hl1 hkey hml
           refine wp_region_quiet_ext (by kernel_rfl) (by kernel_rfl) ?_
           repeat (any_goals (first|go_big_quiet_step ((go_at_call 29;exact calls_ext (HNX2.out _)))|quiet_step ((go_at_call 29;exact calls_ext (HNX2.out _)))))
           refine wpQuiet_nil ?_
           intro _ hw'
           obtain⟨xx,hw''⟩:=hw'
           subst hw''
           have HG9:=Lib.hid (grown_ext w17 xx)
           generalize ext w17 xx=w18 at *
           have HSM2:=Lib.hid (HSM.out w18 HG9.out)
           go_wp2_with (go_at_call 35;refine HSM2.out.mono ?_;rintro e w19 ⟨rfl,hg⟩;have HG19:=Lib.hid hg;clear hg)
           exact⟨HFIN.out _ (grown_trans HG9.out HG19.out),by have:=HLT.out;simp[intOf];omega⟩
    ·go_wp2_with (go_at_call 17;refine(HW.out _).mono ?_;rintro e w9 ⟨rfl,hg⟩;have HG9:=Lib.hid hg;clear hg)
     go_ret
     exact⟨rfl,grown_trans HK.out.kr.gr HG9.out⟩
end Go.Proofs.YtbcbhlfjgobejaaGreat
namespace Go.Sf
open Go.ChangeShapes Go.WideShapes Go.ChangeAt Go.RowKit
variable {P : Program} {H : Type} {enc : TypeId × Value → H}
theorem post_of_grown {f:Func} {s:ChangeSpec} {apart fresh handsOn again:Bool} {W W':World} {args:Array Value} {v:Value} {ds gs:List (DataW H)} {before pa pv:List MemPlace}
  (hW:DataW.Whole enc P f.params.toList s.vars apart W args.toList ds gs before)
  (hres:∀(b:Nat) (sp:Nat→Bool) (hd:Bool),DataW.TrodAll enc P W' b sp hd f.resultTypes.toList (v.resultList f.resultTypes.size) (s.fn H (ds++gs)).results [])
  (hargs:∀sp:Nat→Bool,(∀p∈before,sp p.block=true)→DataW.TrodAll enc P W' 0 sp true f.params.toList args.toList (s.fn H (ds++gs)).args pa)
  (hvars:∀sp:Nat→Bool,(∀p∈before,sp p.block=true)→DataW.TrodVars enc P W' sp s.vars (s.fn H (ds++gs)).vars pv)
  (hps:before=pa++pv) (hg:W.grownBy W' none)
  (hok:∀(j:Nat) (t:TypeId) (r:Value),f.resultTypes[j]? = some t→(v.resultList f.resultTypes.size)[j]? = some r→Value.okWide P W' .any 0 t r) :
  s.post enc P f apart fresh handsOn again W args v W':=by
 have hold:∀p∈before,(fun b=>decide (b<W.heap.size)) p.block=true:=fun p hp=>by simpa using hW.lt p hp
 have hlt:∀p∈before,p.block<W.heap.size:=fun p hp=>hW.lt p hp
 refine⟨ds,gs,before,[],pa,pv,hW,hres _ _ _,hargs _ hold,hvars _ hold,⟨hg.os,hg.output,fun i hi=>by rw[hg.block i hi (by simp)];exact(World.keptBut_refl W (fun p=>p∈before∧(p∈[]∨p∈pa∨p∈pv))).2.2 i hi⟩,fun _=>?_⟩
 obtain⟨_,_,_,_,_,hz,hn⟩:=hW
 refine⟨hok,_,_,([]++pa)++pv,⟨[]++pa,pv,trodAll_append (hargs _ (fun _ _=>rfl)) (hres _ _ _),hvars _ (fun _ _=>rfl),rfl,?_,?_⟩,?_⟩
 ·intro b off hp
  have hp':MemPlace.cell b off∈before:=by rw[hps];simpa using hp
  rw[World.frozen?_of_block (a:=⟨b,off,none⟩) (hg.block b (hlt _ hp') (by simp))]
  exact hz b off hp'
 ·intro ha
  have:=hn ha
  rw[hps] at this
  simpa using this
 ·intro p hp _
  rw[hps]
  simpa using hp
end Go.Sf
namespace Go.Proofs.YtbcbhlfjgobejaaGreat
open Go.ChangeShapes Go.WideShapes Go.ChangeAt Go.RowKit Go.Deep Go.Sf Go.Joins
section
variable {H : Type} {enc : TypeId × Value → H} {P : Program} {w : World} {base : Nat} {spare : Nat → Bool} {held : Bool}
theorem open_slice_fields {t e:TypeId} {fs:Array Field} {fuel:Nat} {cs:List Value} {x:DataW H × List MemPlace} (ht:P.underlying t=some (.slice e)) (he:P.underlying e=some (.struct fs))
  (hone:oneCellFields P fs=true) (hC:P.cellsOf e=fs.size) (h:DataW.trod enc P w base spare held fuel t cs=some x) :
  (cs = [.slice none 0 0]∧x=(.nil,[]))∨
  ∃(a:Addr) (len cap m:Nat) (D:Nat→DataW H) (Pl:Nat→List MemPlace),cs = [.slice (some a) len cap]∧base≤a.block∧len≤cap∧cap≤maxLen∧m=(if spare a.block then cap else len)∧
   x=(.slice ((List.range len).map D) ((List.range (m-len)).map fun j=>D (len+j)),MemPlace.row a (m*fs.size)++(List.range m).flatMap Pl)∧
   ∀i,i<m→∃(ys:List (DataW H × List MemPlace)) (n:Nat),D i = .agg (ys.map (·.1))∧Pl i=ys.flatMap (·.2)∧ys.length=fs.size∧
    ∀(j:Nat) (f:Field),fs[j]? = some f→∃(v:Value) (y:DataW H × List MemPlace),w.cell? (a.add (i*fs.size+j))=some v∧ys[j]? = some y∧DataW.trod enc P w base spare held n f.type [v]=some y:=by
 rcases open_slice ht h with h0|⟨a,len,cap,m,n,D,Pl,hcs,hb,hl,hm,hmm,hx,hi⟩
 ·exact .inl h0
 ·refine .inr ⟨a,len,cap,m,D,Pl,hcs,hb,hl,hm,hmm,by rw[hC] at hx;exact hx,fun i him=>?_⟩
  obtain⟨cs',hc,ht'⟩:=hi i him
  rw[hC] at hc
  obtain⟨ys,n',hn',hy,hlen,hyl,hf⟩:=DataW.trod_struct he ht'
  obtain⟨_,hcl,hat⟩:=World.cells?_some hc
  simp only[Prod.mk.injEq] at hy
  refine⟨ys,n',hy.1,hy.2,hyl,fun j f hj=>?_⟩
  obtain⟨ho,hk⟩:=hone_of hone j f hj
  have hjl:j<fs.size:=(Array.getElem?_eq_some_iff.1 hj).1
  have hcell:=hat j hjl
  have hv:cs'[j]? = some (cs'[j]'(by omega)):=List.getElem?_eq_getElem (by omega)
  have h1:=hf j f hj
  rw[ho,hk] at h1
  have hone':(cs'.drop j).take 1 = [cs'[j]'(by omega)]:=by
   rw[List.drop_eq_getElem_cons (by omega)]
   rfl
  rw[hone'] at h1
  have hys:ys[j]? = some (ys[j]'(by omega)):=List.getElem?_eq_getElem (by omega)
  refine⟨_,_,?_,hys,h1.trans hys⟩
  rw[←Go.Deep.add_add,hcell,hv]
end
section
variable {H : Type} {enc : TypeId × Value → H} {P : Program} {w w' : World} {base : Nat} {spare : Nat → Bool} {held : Bool}
theorem same_grown (hg:w.grownBy w' none) {p:MemPlace} (hp:p.block<w.heap.size):w.sameAt w' p:=by
 cases p with
 | cell b off=>exact World.cell?_of_block (a:=⟨b,off,none⟩) (hg.block b hp (by simp))
 | map b=>exact hg.block b hp (by simp)
theorem all_carry (hg:w.grownBy w' none):∀{ts:List TypeId} {vs:List Value} {ds:List (DataW H)} {ps:List MemPlace},DataW.TrodAll enc P w base spare held ts vs ds ps→(∀p∈ps,p.block<w.heap.size)→DataW.TrodAll enc P w' base spare held ts vs ds ps
 | [],[],[],_,h,_=>h
 | _ :: _,_ :: _,_ :: _,_,⟨p,q,⟨n,h1⟩,h2,e⟩,hs=>⟨p,q,⟨n,DataW.trod_carry n _ _ _ h1 (fun x hx=>same_grown hg (hs x (by rw[e];exact List.mem_append_left _ hx)))⟩,all_carry hg h2 (fun x hx=>hs x (by rw[e];exact List.mem_append_right _ hx)),e⟩
end
theorem kids:Kids Tryz.prog (·< Tryz.prog.types.size):=kids_rows (by kernel_rfl) (by kernel_rfl)
theorem full:∀t e,t<Tryz.prog.types.size→Tryz.prog.underlying t=some (.slice e)→0<Tryz.prog.cellsOf e:=slices_full_of Tryz.prog (by kernel_rfl)
end Go.Proofs.YtbcbhlfjgobejaaGreat
