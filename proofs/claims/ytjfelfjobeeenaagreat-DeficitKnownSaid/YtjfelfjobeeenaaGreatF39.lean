/- DeficitEnds: the walk: it answers true. Conditions: a row of commands in memory. DeficitKnown: the walk: it answers true. Conditions: none. -/
import Derived.Test.YtjfelfjobeeenaaGreatF37
import Derived.Outline
import Derived.Test.YtjfelfjobeeenaaGreatF30
import Derived.Test.YtjfelfjobeeenaaGreatF38
set_option linter.unusedSimpArgs false
set_option linter.unusedVariables false
namespace Go.Proofs.YtjfelfjobeeenaaGreat
open Go.RowKit Go.Sf Go.Shelf
set_option maxHeartbeats 32000000 in
set_option maxRecDepth 100000 in
theorem ends_any (a b c:Nat) (ha:a≤255) (hb:b≤255) (hc:c≤255) (v:Value) (l:List Cmd) (w:World) (h:CmdRow w w.heap.size v l) :
  Calls Tryz.prog 4 #[.int .u8 a,.int .u8 b,v,.int .u8 c] w fun e w'=>e = .returned (.bool true)∧w.grownBy w' none:=by
 obtain⟨N,hN⟩:∃N,N=1+a%8:=⟨_,rfl⟩
 obtain⟨K,hM⟩:=made_any a b ha hb v l w h N hN
 have hN8:N≤8:=by omega
 obtain⟨k,hk⟩:∃k:Nat,k=1+c%5:=⟨_,rfl⟩
 have hk5:1≤k∧k≤5:=by omega
 have e1:1+(c:Int)%5=(k:Int):=by omega
 have HM:=Lib.hid hM
 clear hM hN hk h
 go_enter Tryz.func4,Tryz.ntmps4
 go_upto_region 2 with (go_at_call 16;refine HM.out.mono ?_;rintro e w1 (⟨rfl,hg⟩|⟨tb,rb,L,R,rfl,hd,hmd,hrn⟩))
 ·have HG:=Lib.hid hg
  clear hg
  go_wp2_with (go_at_call 17;refine(works27_any _).mono ?_;rintro e w2 ⟨rfl,hg⟩;have HG2:=Lib.hid hg;clear hg)
  go_ret
  exact⟨rfl,grown_trans HG.out HG2.out⟩
 ·have r0:=hd.rc0
  rw[hrn] at r0
  have HRN:=Lib.hid hrn
  have HD:=Lib.hid hd
  have HMD:=Lib.hid hmd
  clear HM hd hmd hrn
  have HCT:Hid (cntL L N≤480):=(show _≤_ from Nat.le_trans (cnt_le HMD.out) (by omega))
  have HNE:=Lib.hid (HD.out.needs HMD.out (by omega))
  have HTK:Hid (∀W v,NRow W v (needL L N)→Calls Tryz.prog 18 #[v] W fun e w'=>∃v',e = .returned v'∧TA W w' v' (nowT L N)):=(show ∀W v,_→Calls _ _ _ _ _ from fun W v hv=>tasks_any hv (by rw[cnt_raw];have:=HCT.out;omega) (by have:=need_len HMD.out;omega))
  go_wp2_with (first
   | (go_at_call 19;refine HNE.out.mono ?_;rintro e w2 ⟨nv,rfl,hn,hg⟩;have HN2:=Lib.hid hn;have HG2:=Lib.hid hg;clear hn hg)
   | (go_at_call 18;refine(HTK.out _ _ HN2.out).mono ?_;rintro e w3 ⟨tv,rfl,hta⟩;obtain⟨p3,c3,rfl⟩:=hta.len;rw[now_len];have HG3:=Lib.hid hta.2;clear hta))
  have H0:Hid (EJ w (fun _=>False) tb rb R N K [] (cntL L N) 0 L w3):=(show EJ _ _ _ _ _ _ _ _ _ _ _ _ from ⟨(HD.out.grown HG2.out).grown HG3.out,HMD.out,fun q t _ h=>by simp at h,fun q q' t t' h=>by simp at h,rfl⟩)
  clear HNE HTK HG2 HG3 HN2 HD HMD r0
  have hct:=HCT.out
  clear HCT e1
  go_loopw [13,14] (fun s t wr=>∃(turn cn:Nat) (L:Tab),s = .int .i64 cn∧t = .int .i64 turn∧turn+cn≤480∧Hid (EJ w (fun _=>False) tb rb R N K [] cn 0 L wr)) (fun _ t _=>481-(intOf t).toNat)
  case atStart=>exact⟨0,cntL L N,L,rfl,rfl,by omega,H0⟩
  case round=>
   clear H0 hct
   obtain⟨turn,cn,L,rfl,rfl,htn,hE⟩:=hrel
   have hcn:cntL L N=cn:=by have:=hE.out.ct;omega
   have HCN:=Lib.hid hcn
   have r0:=hE.out.duo.rc0
   rw[HRN.out] at r0
   have HE:=Lib.hid hE.out
   clear hcn hE
   have HNE:=Lib.hid (HE.out.duo.needs HE.out.md (by omega))
   have HTK:Hid (∀W v,NRow W v (needL L N)→Calls Tryz.prog 18 #[v] W fun e w'=>∃v',e = .returned v'∧TA W w' v' (nowT L N)):=(show ∀W v,_→Calls _ _ _ _ _ from fun W v hv=>tasks_any hv (by rw[cnt_raw,HCN.out];omega) (by have:=need_len HE.out.md;omega))
   have HNX:Hid (∀W v,NRow W v (needL L N)→Calls Tryz.prog 20 #[v,.slice none 0 0,.int .i64 k] W fun e w'=>∃v',e = .returned v'∧TA W w' v' (nxtT L N k)):=(show ∀W v,_→Calls _ _ _ _ _ from fun W v hv=>nextD_any k (by omega) (by omega) hv (by rw[cnt_raw,HCN.out];omega) (by have:=need_len HE.out.md;omega))
   go_upto_region 13 with (first
    | (go_at_call 19;refine HNE.out.mono ?_;rintro e w2 ⟨nv,rfl,hn,hg⟩;have HN2:=Lib.hid hn;have HG2:=Lib.hid hg;clear hn hg)
    | (go_at_call 18;refine(HTK.out _ _ HN2.out).mono ?_;rintro e w3 ⟨tv,rfl,hta⟩;obtain⟨p3,c3,rfl⟩:=hta.len;rw[now_len,HCN.out];rw[now_len,HCN.out] at hta;have HTA:=Lib.hid hta;clear hta))
   have HEW:=Lib.hid (HE.out.grown (grown_trans HG2.out HTA.out.2))
   have HNW:=Lib.hid (HN2.out.grown HTA.out.2)
   clear r0 HNE HTK HG2
   obtain⟨w3,hw3⟩:∃x:World,x=w3:=⟨_,rfl⟩
   rw[←hw3] at HEW HNW HTA ⊢
   clear hw3
   go_wp2
   go_loopw [17] (fun s wl=>∃i:Nat,1≤i∧s = .int .i64 i∧Hid (w3.grownBy wl none)) (fun s _=>cn-(intOf s).toNat)
   case atStart=>exact⟨1,Nat.le_refl _,rfl,(show w3.grownBy w3 none from grown_refl _)⟩
   case round=>
    obtain⟨i,hi,rfl,hgl⟩:=hrel
    have HGL:=Lib.hid hgl.out
    clear hgl
    by_cases hic:i<cn
    ·obtain⟨q,rfl⟩:∃q,i=q+1:=⟨i-1,by omega⟩
     obtain⟨ta,hta⟩:∃t,(nowT L N)[q]? = some t:=⟨_,List.getElem?_eq_getElem (by rw[now_len,HCN.out];omega)⟩
     obtain⟨tb2,htb2⟩:∃t,(nowT L N)[q+1]? = some t:=⟨_,List.getElem?_eq_getElem (by rw[now_len,HCN.out];omega)⟩
     have hnl:=now_held hta htb2
     obtain⟨g,cap,e,hca⟩:=tsk_at HTA.out hta
     obtain⟨g',cap',e',hcb⟩:=tsk_at HTA.out htb2
     injection e with ea eb ec
     injection e' with ea' eb' ec'
     have egg:g'=g:=by rw[ea] at ea';injection ea' with h1;injection h1 with h2;exact h2.symm
     subst egg ea
     have k1:=HGL.out.cell (hca 3 _ rfl) (by simp)
     have k2:=HGL.out.cell (hcb 3 _ rfl) (by simp)
     have hgw:=cell_lt k1
     simp only at hgw
     generalize ta.held=ha1 at *
     generalize tb2.held=hb1 at *
     clear hca hcb hta htb2 eb ec ea' eb' ec'
     have e0:((q:Int)+1).toNat=q+1:=by omega
     have p0:(0:Int)≤(q:Int)+1:=by omega
     have p1:(q:Int)+1<(cn:Int):=by omega
     have p2:(q:Int)<(cn:Int):=by omega
     have p3':IntKind.i64.wrap (q:Int)=(q:Int):=by rw[IntKind.wrap_i64];omega
     go_upto_region 16 with fail
     refine wp_region_quiet_ext (by kernel_rfl) (by kernel_rfl) ?_
     repeat (any_goals (first|go_big_quiet_step (fail)|quiet_step (fail)))
     refine wpQuiet_nil ?_
     intro _ hw'
     obtain⟨xq,hw''⟩:=hw'
     subst hw''
     have HX:=Lib.hid (grown_trans HGL.out (grown_ext wr xq))
     clear k1 k2 HGL
     generalize ext wr xq=wy at *
     go_wp2
     go_roundw
     case rel=>exact⟨q+1+1,by omega,by first|rfl|go_num,HX⟩
     case measure=>simp[intOf];omega
    ·have HNW2:=Lib.hid (HNW.out.grown HGL.out)
     have HEW2:=Lib.hid (HEW.out.grown HGL.out)
     have HTA2:=Lib.hid HTA.out
     clear HNW HEW
     obtain⟨w4,hw4⟩:∃x:World,x=wr:=⟨_,rfl⟩
     rw[←hw4] at HNW2 HEW2 HGL ⊢
     clear hw4
     by_cases hz:cn=0
     ·have hnl:(nxtT L N k).length=0:=by have:=(nxt_len L N k).2;rw[HCN.out] at this;omega
      have HNL:=Lib.hid hnl
      have HC0:Hid (cntL L N=0):=(show _=_ from by rw[HCN.out];exact hz)
      have hz1:((cn:Int) == 0)=true:=by simp;omega
      clear hz hnl
      go_wp2_with (go_at_call 20;refine(HNX.out _ _ HNW2.out).mono ?_;rintro e w5 ⟨xv,rfl,hta⟩;obtain⟨p5,c5,rfl⟩:=hta.len;rw[HNL.out];have HE5:=Lib.hid (HEW2.out.grown hta.2);clear hta)
      go_loopw [22] (fun s wl=>∃n:Nat,n≤N∧s = .int .i64 n∧Hid (EJ w (fun _=>False) tb rb R N K [] cn 0 L wl)) (fun s _=>N-(intOf s).toNat)
      case atStart=>exact⟨0,Nat.zero_le _,rfl,HE5⟩
      case round=>
       clear HE5
       obtain⟨n,hn,rfl,hE6⟩:=hrel
       have HE6:=Lib.hid hE6.out
       clear hE6
       have r0:=HE6.out.duo.rc0
       rw[HRN.out] at r0
       by_cases hnN:n<N
       ·have HL6:=Lib.hid (HE6.out.duo.life HE6.out.md (by omega) n)
        by_cases hl0:0<lifeV L n
        ·have HH6:=Lib.hid (fun W (hg:wr.grownBy W none)=>(HE6.out.duo.grown hg).healthy HE6.out.md (by omega) HC0.out n hnN hl0)
         generalize lifeV L n=lv at *
         go_wp2_with (first
          | (go_at_call 23;refine HL6.out.mono ?_;rintro e w7 ⟨rfl,hg⟩;have HG7:=Lib.hid hg;clear hg)
          | (go_at_call 24;refine(HH6.out _ HG7.out).mono ?_;rintro e w8 ⟨rfl,hg⟩;have HG8:=Lib.hid hg;clear hg))
         go_roundw
         case rel=>exact⟨n+1,by omega,by go_num,(show EJ _ _ _ _ _ _ _ _ _ _ _ _ from (HE6.out.grown HG7.out).grown HG8.out)⟩
         case measure=>simp[intOf];omega
        ·generalize lifeV L n=lv at *
         go_wp2_with (go_at_call 23;refine HL6.out.mono ?_;rintro e w7 ⟨rfl,hg⟩;have HG7:=Lib.hid hg;clear hg)
         go_roundw
         case rel=>exact⟨n+1,by omega,by go_num,(show EJ _ _ _ _ _ _ _ _ _ _ _ _ from HE6.out.grown HG7.out)⟩
         case measure=>simp[intOf];omega
       ·obtain rfl:n=N:=by omega
        go_wp2_with (go_at_call 17;refine(works27_any _).mono ?_;rintro e w8 ⟨rfl,hg⟩;have HG8:=Lib.hid hg;clear hg)
        go_ret
        exact⟨rfl,grown_trans HE6.out.duo.base HG8.out⟩
     ·obtain⟨t0,ht0⟩:∃t,(nowT L N)[0]? = some t:=⟨_,List.getElem?_eq_getElem (by rw[now_len,HCN.out];omega)⟩
      have hx0:=nxt_head hk5.1 ht0
      have hnl:=nxt_len L N k
      have hnp:=nxt_pos hk5.1 (by rw[HCN.out];omega:0<cntL L N)
      rw[HCN.out] at hnl
      have HMEM:=Lib.hid (fun (q:Nat) (t:Tsk) (h:(nxtT L N k)[q]? = some t)=>nxt_mem (List.mem_of_getElem? h))
      have HNEX:=Lib.hid (fun (q q':Nat) (t t':Tsk) (h:(nxtT L N k)[q]? = some t) (h':(nxtT L N k)[q']? = some t')=>nxt_ne h h')
      generalize nxtT L N k=nx at *
      obtain⟨nl,hnle⟩:∃nl,nl=nx.length:=⟨_,rfl⟩
      rw[←hnle] at hnl hnp
      have HNL:=Lib.hid hnle
      have hz1:((cn:Int) == 0)=false:=by simp;omega
      have hz2:((nl:Int) == 0)=false:=by simp;omega
      have hcp:0<cn:=by omega
      obtain⟨hnl1,hnl2⟩:=hnl
      have hz3:decide (k<nl)=false:=by simp;omega
      have HX0:=Lib.hid hx0
      have HT0:=Lib.hid ht0
      clear hz hnle hx0 ht0
      go_upto_region 22 with (go_at_call 20;refine(HNX.out _ _ HNW2.out).mono ?_;rintro e w5 ⟨xv,rfl,hta⟩;obtain⟨p5,c5,rfl⟩:=hta.len;rw[←HNL.out];rw[←HNL.out] at hta;have HTX:=Lib.hid hta;clear hta)
      obtain⟨g5,cap5,e5,hc5⟩:=tsk_at HTX.out HX0.out
      injection e5 with e5a e5b e5c
      obtain⟨g3,cap3,e3,hc3⟩:=tsk_at HTA2.out HT0.out
      injection e3 with e3a e3b e3c
      subst e5a e3a
      clear e5b e5c e3b e3c
      have hx0:=hc5 0 _ rfl
      have hx1:=hc5 1 _ rfl
      have hx2:=hc5 2 _ rfl
      have hx3:=hc5 3 _ rfl
      have hgr:w3.grownBy w5 none:=grown_trans HGL.out HTX.out.2
      have hy0:=hgr.cell (hc3 0 _ rfl) (by simp)
      have hy1:=hgr.cell (hc3 1 _ rfl) (by simp)
      have hy2:=hgr.cell (hc3 2 _ rfl) (by simp)
      have hy3:=hgr.cell (hc3 3 _ rfl) (by simp)
      simp only[Nat.zero_mul,Nat.zero_add,Nat.add_zero] at hx0 hx1 hx2 hx3 hy0 hy1 hy2 hy3
      have hg5w:=cell_lt hx0
      have hg3w:=cell_lt hy0
      simp only at hg5w hg3w
      obtain⟨⟨key,ver⟩,nd,held⟩:=t0
      simp only at hx0 hx1 hx2 hx3 hy0 hy1 hy2 hy3
      clear hc5 hc3 hgr
      refine wp_region_quiet_ext (by kernel_rfl) (by kernel_rfl) ?_
      repeat (any_goals (first|go_big_quiet_step ((go_at_call 21;exact calls_ext (lawtask_any _ _ _ _ _)))|quiet_step ((go_at_call 21;exact calls_ext (lawtask_any _ _ _ _ _)))))
      refine wpQuiet_nil ?_
      intro _ hw'
      obtain⟨xt,hw''⟩:=hw'
      subst hw''
      have HGX:=Lib.hid (grown_ext w5 xt)
      clear hx0 hx1 hx2 hx3 hy0 hy1 hy2 hy3 hg5w hg3w
      have HROW:Hid (∀(i:Nat) (t:Tsk),nx[i]? = some t→∀j u,(tskCells t)[j]? = some u→w5.cell? ⟨g5,i*4+j,none⟩=some u):=(show ∀_ _,_→_ from fun i t ht j u hu=>by
       obtain⟨g',cap',e',hc'⟩:=tsk_at HTX.out ht
       injection e' with ea eb ec
       injection ea with ea
       injection ea with ea
       rw[ea];exact hc' j u hu)
      have HG5:Hid (g5<w5.heap.size∧w4.heap.size≤g5):=(show _∧_ from ⟨by
       obtain⟨c,hc⟩:=own_ty HTX.out.1 (g:=g5) rfl
       exact(Array.getElem?_eq_some_iff.1 hc).1,row_base HTX.out.1 g5 rfl⟩)
      have H6:Hid (EJ w (fun q=>q=g5) tb rb R N K nx cn 0 L (ext w5 xt)):=(show EJ _ _ _ _ _ _ _ _ _ _ _ _ from by
       have hd:=(HEW2.out.duo.fresh HTX.out.2 g5 HG5.out.2 HG5.out.1).less (own':=fun q=>q=g5) (fun q h=>Or.inr h)
       exact⟨hd.grown HGX.out,HEW2.out.md,fun q t _ h=>HMEM.out q t h,fun q q' t t' h h' hne=>HNEX.out q q' t t' h h' hne,by rw[HCN.out];rfl⟩)
      have HB6:Hid ((ext w5 xt).heap[g5]? = w5.heap[g5]?):=(show _=_ from HGX.out.block g5 HG5.out.1 (by simp))
      clear HGX HTX HEW2 HMEM HNEX HX0 HT0 HTA2
      generalize ext w5 xt=w6 at *
      go_wp2
      go_loopw [13,19] (fun s t wl=>∃(i cj:Nat) (L':Tab),s = .int .i64 cj∧t = .int .i64 i∧i≤nl∧cj+i≤cn∧cn≤cj+i∧Hid (EJ w (fun q=>q=g5) tb rb R N K nx cn i L' wl)∧Hid (wl.heap[g5]? = w5.heap[g5]?)) (fun _ t _=>nl-(intOf t).toNat)
      case atStart=>exact⟨0,cn,L,rfl,rfl,Nat.zero_le _,by omega,by omega,H6,HB6⟩
      case round=>
       clear H6 HB6
       obtain⟨i,cj,L',rfl,rfl,hin,hc1,hc2,hE6,hB6⟩:=hrel
       have HE6:=Lib.hid hE6.out
       have HB6:=Lib.hid hB6.out
       clear hE6 hB6
       by_cases hil:i<nl
       ·obtain⟨t,ht⟩:∃t,nx[i]? = some t:=⟨_,List.getElem?_eq_getElem (by rw[←HNL.out];exact hil)⟩
        have HT:=Lib.hid ht
        clear ht
        obtain⟨w7,hw7⟩:∃x:World,x=wr:=⟨_,rfl⟩
        rw[←hw7] at HE6 HB6 ⊢
        clear hw7
        go_wp2
        go_loopw [20] (fun s wl=>∃j:Nat,j≤i∧s = .int .i64 j∧Hid (w7.grownBy wl none)) (fun s _=>i-(intOf s).toNat)
        case atStart=>exact⟨0,Nat.zero_le _,rfl,(show w7.grownBy w7 none from grown_refl _)⟩
        case round=>
         obtain⟨j,hji,rfl,hgl⟩:=hrel
         have HGJ:=Lib.hid hgl.out
         clear hgl
         have hbk:Hid (wr.heap[g5]? = w5.heap[g5]?):=(show _=_ from (HGJ.out.block g5 (by
          obtain⟨o,ho⟩:∃o,w5.heap[g5]? = some o:=⟨_,Array.getElem?_eq_getElem HG5.out.1⟩
          exact(Array.getElem?_eq_some_iff.1 (HB6.out.trans ho)).1) (by simp)).trans HB6.out)
         have HCELL:Hid (∀(i:Nat) (t:Tsk),nx[i]? = some t→∀j u,(tskCells t)[j]? = some u→wr.cell? ⟨g5,i*4+j,none⟩=some u):=(show ∀_ _,_→_ from fun i t ht j u hu=>(World.cell?_of_block (a:=⟨g5,i*4+j,none⟩) hbk.out).trans (HROW.out i t ht j u hu))
         by_cases hjl:j<i
         ·obtain⟨tj,htj⟩:∃t,nx[j]? = some t:=⟨_,List.getElem?_eq_getElem (by rw[←HNL.out];omega)⟩
          have hne:=HE6.out.ne j i tj t htj HT.out (by omega)
          have k1:=HCELL.out j tj htj 2 _ rfl
          have k2:=HCELL.out i t HT.out 2 _ rfl
          have hgw:=cell_lt k1
          simp only at hgw
          have hneb:(tj.nd == t.nd)=false:=by simpa using hne
          have hneb2:decide (tj.nd=t.nd)=false:=by simpa using hne
          generalize tj.nd=n1 at *
          generalize t.nd=n2 at *
          clear hne htj
          go_upto_region 30 with fail
          refine wp_region_quiet_ext (by kernel_rfl) (by kernel_rfl) ?_
          repeat (any_goals (first|go_big_quiet_step (fail)|quiet_step (fail)))
          refine wpQuiet_nil ?_
          intro _ hw'
          obtain⟨xj,hw''⟩:=hw'
          subst hw''
          have HX:=Lib.hid (grown_trans HGJ.out (grown_ext wr xj))
          clear k1 k2 HGJ hgw hbk HCELL
          generalize ext wr xj=wy at *
          go_wp2
          go_roundw
          case rel=>exact⟨j+1,by omega,by go_num,HX⟩
          case measure=>simp[intOf];omega
         ·have k0:=HCELL.out i t HT.out 0 _ rfl
          have k1:=HCELL.out i t HT.out 1 _ rfl
          have k2:=HCELL.out i t HT.out 2 _ rfl
          have k3:=HCELL.out i t HT.out 3 _ rfl
          simp only[Nat.add_zero] at k0
          have hbnd:(i:Int)<(nl:Int):=by omega
          have HE7:=Lib.hid (HE6.out.grown HGJ.out)
          obtain⟨hcur,hmis⟩:=HE6.out.lk i t (Nat.le_refl _) HT.out
          have HLK:=Lib.hid (And.intro hcur hmis)
          clear hcur hmis HCELL
          have HG5R:Hid (g5<wr.heap.size):=(show _<_ from by
           obtain⟨o,ho⟩:∃o,w5.heap[g5]? = some o:=⟨_,Array.getElem?_eq_getElem HG5.out.1⟩
           exact(Array.getElem?_eq_some_iff.1 (hbk.out.trans ho)).1)
          go_upto_region 33 with fail
          clear k0 k1 k2 k3
          have hga:=World.grownBy_alloc wr (.cells #[.string t.id.key,.int .i64 t.id.ver,.int .i64 t.nd,.int .i64 t.held] 56) none
          have hba:=World.alloc_heap_new wr (.cells #[.string t.id.key,.int .i64 t.id.ver,.int .i64 t.nd,.int .i64 t.held] 56)
          have hda:=HE7.out.duo.fresh hga wr.heap.size (Nat.le_refl _) (by simp)
          obtain⟨own2,hown⟩:∃o:Nat→Prop,o=fun q=>q=g5∨q=wr.heap.size:=⟨_,rfl⟩
          have HDA:Hid (Duo w own2 tb rb L' R (wr.alloc (.cells #[.string t.id.key,.int .i64 t.id.ver,.int .i64 t.nd,.int .i64 t.held] 56))):=(show Duo _ _ _ _ _ _ _ from by rw[hown];exact hda)
          have HOW:Hid (own2 wr.heap.size∧own2 g5∧∀q,q=g5→own2 q):=(show _∧_ from by rw[hown];exact⟨Or.inr rfl,Or.inl rfl,fun q h=>Or.inl h⟩)
          have hbka:Hid ((wr.alloc (.cells #[.string t.id.key,.int .i64 t.id.ver,.int .i64 t.nd,.int .i64 t.held] 56)).heap[g5]? = w5.heap[g5]?):=(show _=_ from (hga.block g5 HG5R.out (by simp)).trans hbk.out)
          have HBA:=Lib.hid hba
          have hbx:wr.heap.size<(wr.alloc (.cells #[.string t.id.key,.int .i64 t.id.ver,.int .i64 t.nd,.int .i64 t.held] 56)).heap.size:=by simp
          clear hown hda hga hba
          generalize wr.alloc (.cells #[.string t.id.key,.int .i64 t.id.ver,.int .i64 t.nd,.int .i64 t.held] 56)=wa at *
          generalize wr.heap.size=bx at *
          have HLF:Hid (∀W,wa.grownBy W none→Calls Tryz.prog 23 #[.pointer (some ⟨tb,0,none⟩),.int .i64 t.nd] W fun e w'=>e = .returned (.int .i64 (lifeV L' t.nd))∧W.grownBy w' none):=(show ∀W,_→Calls _ _ _ _ _ from fun W hg=>(HDA.out.grown hg).life HE6.out.md (by omega) t.nd)
          have HAC:Hid (∀W,wa.grownBy W none→Calls Tryz.prog 22 #[.pointer (some ⟨tb,0,none⟩),.agg #[.int .u8 4,.int .i64 t.nd,.int .i64 0,.int .i64 (lifeV L' t.nd),.int .i64 0,.int .i64 t.id.ver,.string t.id.key,.int .i64 0]] W fun e w'=>e = .returned (.int .i64 0)∧Duo w own2 tb rb (actT L' (ackC L' t.id t.nd)) R w'∧Same own2 W w'):=(show ∀W,_→Calls _ _ _ _ _ from fun W hg=>(HDA.out.grown hg).ack HE6.out.md (by omega) HLK.out.1 HLK.out.2)
          have HEA:Hid (∀W,Duo w own2 tb rb (actT L' (ackC L' t.id t.nd)) R W→EJ w (fun q=>q=g5) tb rb R N K nx cn (i+1) (actT L' (ackC L' t.id t.nd)) W):=(show ∀W,_→EJ _ _ _ _ _ _ _ _ _ _ _ _ from fun W hd=>HE6.out.act (by omega) HT.out (hd.less HOW.out.2.2))
          have hb4:=HBA.out
          have d0:wa.cell? ⟨bx,0,none⟩=some (.string t.id.key):=(cell_block hb4 0).trans rfl
          have d1:wa.cell? ⟨bx,1,none⟩=some (.int .i64 t.id.ver):=(cell_block hb4 1).trans rfl
          have d2:wa.cell? ⟨bx,2,none⟩=some (.int .i64 t.nd):=(cell_block hb4 2).trans rfl
          clear hb4
          generalize lifeV L' t.nd=lv at *
          generalize actT L' (ackC L' t.id t.nd)=L2 at *
          generalize t.id.key=key at *
          generalize t.id.ver=ver at *
          generalize t.nd=nd at *
          go_cut [163] from 148 to 162 (fun s wx=>s = .bool false∧Hid (Duo w own2 tb rb L2 R wx∧wx.heap[g5]? = w5.heap[g5]?))
          case first=>
           go_region_held3 (fun w'=>w'.cell? ⟨bx,0,none⟩=some (.string key)∧w'.cell? ⟨bx,1,none⟩=some (.int .i64 ver)∧w'.cell? ⟨bx,2,none⟩=some (.int .i64 nd)) (first|with_reducible exact⟨f0,f1,f2⟩|with_reducible exact⟨e0,e1,e2⟩|with_reducible exact⟨d0,d1,d2⟩|go_keep)
            (first
            | (go_at_call 23;refine(HLF.out _ (by repeat (first|exact grown_refl _|refine grown_alloc ?_ _|refine grown_drew ?_))).mono ?_;rintro e w8 ⟨rfl,hg⟩;have hgg:wa.grownBy w8 none:=grown_trans (by repeat (first|exact grown_refl _|refine grown_alloc ?_ _|refine grown_drew ?_)) hg;have e0:=hgg.cell d0 (by simp);have e1:=hgg.cell d1 (by simp);have e2:=hgg.cell d2 (by simp);have HGG:=Lib.hid hgg;clear hg hgg)
            | (go_at_call 22;refine(HAC.out _ (grown_trans HGG.out (by repeat (first|exact grown_refl _|refine grown_alloc ?_ _|refine grown_drew ?_)))).mono ?_;rintro e w9 ⟨rfl,hd,hs⟩;have hb8:=kept_block HBA.out (grown_trans HGG.out (by repeat (first|exact grown_refl _|refine grown_alloc ?_ _|refine grown_drew ?_)));have hb9:=(hs bx HOW.out.1).trans hb8;have f0:w9.cell? ⟨bx,0,none⟩=some (.string key):=(cell_block hb9 0).trans rfl;have f1:w9.cell? ⟨bx,1,none⟩=some (.int .i64 ver):=(cell_block hb9 1).trans rfl;have f2:w9.cell? ⟨bx,2,none⟩=some (.int .i64 nd):=(cell_block hb9 2).trans rfl;have HD9:=Lib.hid hd;have HB9:=Lib.hid ((hs g5 HOW.out.2.1).trans ((World.grownBy.block (grown_trans HGG.out (by repeat (first|exact grown_refl _|refine grown_alloc ?_ _|refine grown_drew ?_))) g5 (Nat.lt_trans HG5R.out hbx) (by simp)).trans hbka.out));clear hd hs hb8 hb9))
           all_goals
            go_wp2_with fail
            go_meet
           all_goals exact⟨rfl,(show _∧_ from ⟨HD9.out,HB9.out⟩)⟩
          case rest=>
           obtain⟨rfl,hD⟩:=hcut
           obtain⟨wx,hwx⟩:∃x:World,x=wc:=⟨_,rfl⟩
           rw[←hwx] at hD ⊢
           have HD9:=Lib.hid hD.out
           clear hwx hD
           go_wp2
           go_roundw
           case rel=>exact⟨i+1,cj-1,L2,by go_num,by go_num,by omega,by omega,by omega,(show EJ _ _ _ _ _ _ _ _ _ _ _ _ from HEA.out _ HD9.out.1),(show _=_ from HD9.out.2)⟩
           case measure=>simp[intOf];omega
       ·obtain rfl:i=nl:=by omega
        have H9:Hid (EJ w (fun _=>False) tb rb R N K [] cj 0 L' wr):=(show EJ _ _ _ _ _ _ _ _ _ _ _ _ from ⟨HE6.out.duo.less (fun _ h=>h.elim),HE6.out.md,fun q t _ h=>by simp at h,fun q q' t t' h=>by simp at h,by have:=HE6.out.ct;omega⟩)
        go_wp2
        go_roundw
        case rel=>exact⟨turn+1,cj,L',rfl,by go_num,by omega,H9⟩
        case measure=>simp[intOf];omega
theorem nil_current27 (W:World):Calls Tryz.prog 42 #[.pointer none] W fun e w'=>e = .returned (.slice none 0 0)∧W.grownBy w' none:=by
 go_enter Tryz.func42,Tryz.ntmps42
 go_wp2
 go_ret
 exact⟨rfl,(by repeat (first|exact grown_refl _|exact World.grownBy_alloc _ _ _|refine grown_ext' ?_ _|refine grown_alloc ?_ _|refine grown_drew ?_))⟩
theorem nil_life27 (W:World):Calls Tryz.prog 23 #[.pointer none,.int .i64 0] W fun e w'=>e = .returned (.int .i64 0)∧W.grownBy w' none:=by
 go_enter Tryz.func23,Tryz.ntmps23
 go_wp2
 go_ret
 exact⟨rfl,(by repeat (first|exact grown_refl _|exact World.grownBy_alloc _ _ _|refine grown_ext' ?_ _|refine grown_alloc ?_ _|refine grown_drew ?_))⟩
theorem nil_needs27 (W:World):Calls Tryz.prog 19 #[.pointer none,.int .i64 5] W fun e w'=>e = .returned (.slice none 0 0)∧W.grownBy w' none:=by
 go_enter Tryz.func19,Tryz.ntmps19
 go_wp2_with (go_at_call 42;refine(nil_current27 _).mono ?_;rintro e w1 ⟨rfl,hg⟩;have HG:=Lib.hid hg;clear hg)
 refine wp_loop_rounds 1 ?_
 rw[rounds_succ]
 go_wp2
 go_ret
 exact⟨rfl,HG.out⟩
theorem nil_healthy27 (W:World):Calls Tryz.prog 24 #[.pointer none,.int .i64 0] W fun e w'=>e = .returned (.bool false)∧W.grownBy w' none:=by
 go_enter Tryz.func24,Tryz.ntmps24
 go_wp2_with (go_at_call 23;refine(nil_life27 _).mono ?_;rintro e w1 ⟨rfl,hg⟩;have HG:=Lib.hid hg;clear hg)
 go_ret
 exact⟨rfl,HG.out⟩
theorem nrow_nil (W:World):NRow W (.slice none 0 0) []:=⟨none,0,rfl,Or.inl rfl⟩
theorem lread_nilT (W:World):LRead W 4 tskCells (.slice none 0 0) ([]:List Tsk):=⟨none,0,rfl,Or.inl rfl⟩
theorem nil_tasks27 (W:World):Calls Tryz.prog 18 #[.slice none 0 0] W fun e w'=>∃p c,e = .returned (.slice p 0 c)∧W.grownBy w' none:=
 (tasks_any (nrow_nil W) (by decide) (by decide)).mono fun e w' ⟨v,h1,h2⟩=>by
  obtain⟨p,c,rfl⟩:=h2.len
  exact⟨p,c,by rw[h1,(sortT_perm _).length_eq];rfl,h2.2⟩
theorem nil_next27 (W:World):Calls Tryz.prog 20 #[.slice none 0 0,.slice none 0 0,.int .i64 5] W fun e w'=>∃p c,e = .returned (.slice p 0 c)∧W.grownBy w' none:=
 (nextE_any 5 (nrow_nil W) (lread_nilT W) (by decide) (by decide) (by decide)).mono fun e w' ⟨v,h1,h2⟩=>by
  obtain⟨p,c,rfl⟩:=h2.len
  have h0:=nxB_len (([]:List Tsk).map (·.nd)) (sortT (rawT [])) 5
  rw[(sortT_perm _).length_eq] at h0
  have h3:(nxB (([]:List Tsk).map (·.nd)) (sortT (rawT [])) 5).length=0:=Nat.le_zero.1 h0
  exact⟨p,c,by rw[h1,h3],h2.2⟩
theorem nil_lost27 (W:World):Calls Tryz.prog 25 #[.slice none 0 0,.int .i64 5] W fun e w'=>∃p c,e = .returned (.slice p 0 c)∧W.grownBy w' none:=
 (lost_any (nrow_nil W) 5 (by decide) (by decide)).mono fun e w' ⟨v,h1,h2⟩=>by
  obtain⟨p,c,rfl⟩:=idRow_form h2.1
  exact⟨p,c,h1,h2.2⟩
def dkL:List Nd:=[⟨⟨⟨#[98]⟩,3⟩,1,[2,1,2]⟩,⟨⟨⟨#[97]⟩,9⟩,2,[0]⟩,⟨⟨⟨#[97]⟩,3⟩,1,[1,7]⟩,⟨⟨⟨#[98]⟩,3⟩,1,[2]⟩,⟨⟨⟨#[]⟩,0⟩,0,[]⟩]
def dkB:List Tsk:=[⟨⟨⟨#[113]⟩,1⟩,7,0⟩,⟨⟨⟨#[98]⟩,3⟩,5,1⟩]
theorem yrow_cells {α:Type} {enc:α→List Value} {w:World} {b:Nat} {t:TypeId} {fr:Nat × Nat} (m:List α) (n:Nat) (hn:n=m.length) (h:w.heap[b]? = some (.cells (m.flatMap enc).toArray t fr)):YRow w enc (.slice (some ⟨b,0,none⟩) n n) m:=by
 subst hn
 exact⟨_,_,rfl,Or.inr ⟨_,rfl,fun j u hu=>by
  have e:(⟨b,0,none⟩:Addr).add j=⟨b,j,none⟩:=by unfold Addr.add;split <;> simp_all
  rw[e,cell_block h]
  simpa using hu⟩⟩
theorem oneCmd:∀x,∀u∈cmdCells x,u.oneCell'=true:=fun x u hu=>by
 simp only[cmdCells,List.mem_cons,List.not_mem_nil,or_false] at hu
 rcases hu with rfl|rfl|rfl|rfl|rfl|rfl|rfl|rfl <;> rfl
theorem cmd_len:∀x,(cmdCells x).length=8:=fun _=>rfl
theorem infoCmd27:(Tryz.prog.info? 24).map (fun i=>(i.zero,i.size,i.bytes))=some (some (.agg #[.int .u8 0,.int .i64 0,.int .i64 0,.int .i64 0,.int .i64 0,.int .i64 0,.string ⟨#[]⟩,.int .i64 0]),8,72):=by kernel_rfl
def GoodC (W:World) (v:Value) (cs:List Cmd) (w:World):Prop:=Grows W 24 8 cmdCells v cs w∧∀c∈cs,c.key.size≤64
theorem GoodC.app {W w wx w1:World} {v v':Value} {cs m:List Cmd} (h:GoodC W v cs w) (hg:w.grownBy wx none) (ha:Apped wx 24 8 cmdCells v (cs++m) v' w1) (hm:∀c∈m,c.key.size≤64):GoodC W v' (cs++m) w1:=
 ⟨Grows.app (h.1.more hg) ha,fun c hc=>(List.mem_append.1 hc).elim (h.2 c) (hm c)⟩
theorem GoodC.row {W w:World} {p:Option Addr} {n c:Nat} {cs:List Cmd} (h:GoodC W (.slice p n c) cs w) (i:Nat) (hi:i≤cs.length) (w':World) (hg:w.grownBy w' none) (c':Nat):CmdRow w' w'.heap.size (.slice p i c') (cs.take i):=by
 have hl:(cs.take i).length=i:=by rw[List.length_take];omega
 have hlen:cs.length≤9223372036854775807:=by obtain⟨_,_,_,h1,h2⟩:=h.1.row.form;omega
 refine⟨p,c',by rw[hl],by omega,fun x hx=>?_,?_⟩
 ·have:=h.2 x (List.mem_of_mem_take hx);omega
 ·rcases h.1.row.at cmd_len with h0|⟨g,cap,e,hc,-⟩
  ·left;rw[h0];simp
  ·injection e with e1 e2 e3
   subst e1
   cases i with
   | zero=>left;simp
   | succ i=>
    have hgl:g<w.heap.size:=cell_lt (hc 0 (by omega) 0 _ rfl)
    refine Or.inr ⟨g,0,rfl,Nat.lt_of_lt_of_le hgl hg.size,fun j hj t u hu=>?_⟩
    have hj2:j<cs.length:=by omega
    have e4:(cs.take (i+1)).getD j wkD=cs[j]:=by
     rw[List.getD_eq_getElem?_getD,List.getElem?_take_of_lt (by omega),List.getElem?_eq_getElem hj2];rfl
    rw[e4] at hu
    have:=hg.cell (hc j hj2 t u hu) (by simp)
    simpa using this
end Go.Proofs.YtjfelfjobeeenaaGreat
