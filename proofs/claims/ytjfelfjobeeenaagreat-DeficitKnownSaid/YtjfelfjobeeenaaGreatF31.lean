/- The document's table: Pending, Current: walked. Conditions: a table that lies in memory. The document's table: Missing: walked. Conditions: a table that lies in memory. The document's Needs: walked. Conditions: a table that lies in memory, and what it tells. How long the document's rows are behind so many commands: the plain law. Conditions: none. sameIDs at rows that are the same: walked. Conditions: both rows read as the same list. -/
import Derived.Test.YtjfelfjobeeenaaGreatF20
import Derived.Test.YtjfelfjobeeenaaGreatF25
import Derived.Deep.RegionLaw
import Derived.Test.YtjfelfjobeeenaaGreatF26
import Derived.Test.YtjfelfjobeeenaaGreatF23
import Derived.Test.YtjfelfjobeeenaaGreatF19
set_option linter.unusedSimpArgs false
set_option linter.unusedVariables false
namespace Go.Proofs.YtjfelfjobeeenaaGreat
open Go.RowKit Go.Sf Go.Shelf
def idV (v:ByteArray × Val):ID:=⟨v.1,v.2.ver⟩
def liveV (v:ByteArray × Val):Bool:=!v.2.dead
section
variable {bs : Nat → Prop} {W : World} {rb : Nat} {R : RTab}
set_option maxHeartbeats 4000000 in
set_option maxRecDepth 100000 in
theorem rcurrent_any (h:RAt bs W rb R) (hl:R.vals.length≤1000000):Calls Tryz.prog 137 #[.pointer (some ⟨rb,0,none⟩)] W fun e w'=>∃v,e = .returned v∧Grows W 59 2 idCells v (rcurL R) w':=by
 obtain⟨vL,vC,vV,vP,vH,h⟩:=h.mem
 have HV:Hid (rcurL R=sortL ((R.vals.filter liveV).map idV)):=(show _=_ from rfl)
 generalize rcurL R=res at *
 obtain⟨i0,hi,hz0,hz1,hz2⟩:=info_parts infoRID
 have HR:=Lib.hid h
 clear h
 go_enter Tryz.func137,Tryz.ntmps137
 go_wp2
 go_loopw [3,4] (fun lv x wr=>∃k:Nat,k≤R.vals.length∧x = .int .i64 k∧Grows W 59 2 idCells lv ((keptF liveV R.vals k).map idV) wr) (fun _ x _=>R.vals.length-(intOf x).toNat)
 case atStart=>exact⟨0,Nat.zero_le _,rfl,by rw[keptF_zero];exact Grows.start W 59 2 idCells⟩
 case round=>
  obtain⟨k,hk,rfl,hgr⟩:=hrel
  have hR:=HR.out.grown hgr.grown
  obtain⟨p,cap,hv,hcap,hlc⟩:=hR.vals.form
  have c6:=hR.c6
  rw[hv] at c6
  have hql:((keptF liveV R.vals k).map idV).length≤1000000:=by rw[List.length_map];exact Nat.le_trans (keptF_len _ _ _) hl
  obtain⟨pl,cl,rfl,-,-⟩:=hgr.row.form
  have HGR:=Lib.hid hgr
  have hrb:=hR.lt
  by_cases hlt:k<R.vals.length
  ·obtain⟨g,cap',hv',hc,hfz⟩:=(hR.vals.at lenV).resolve_left (fun e=>by rw[e] at hlt;simp at hlt)
   rw[hv] at hv'
   injection hv' with hv1 hv2 hv3
   subst hv1
   have e0:wr.cell? ⟨g,k*3,none⟩=some (.string R.vals[k].1):=hc k hlt 0 _ rfl
   have e1:wr.cell? ⟨g,k*3+1,none⟩=some (.int .i64 R.vals[k].2.ver):=hc k hlt 1 _ rfl
   have e2:wr.cell? ⟨g,k*3+2,none⟩=some (.bool R.vals[k].2.dead):=hc k hlt 2 _ rfl
   have lg:=cell_lt e0
   cases hd:R.vals[k].2.dead with
   | true=>
    rw[hd] at e2
    have HK:Hid (keptF liveV R.vals (k+1)=keptF liveV R.vals k):=(show _=_ from keptF_no _ _ _ hlt (by simp[liveV,hd]))
    clear hR hgr hv hv2 hv3 hc hfz hd hql
    generalize R.vals[k]=z at *
    generalize keptF liveV R.vals k=q at *
    go_wp2
    go_roundw
    case rel=>exact⟨k+1,by omega,by go_num,by rw[HK.out];exact HGR.out⟩
    case measure=>simp[intOf];omega
   | false=>
    rw[hd] at e2
    have HK:Hid ((keptF liveV R.vals (k+1)).map idV=(keptF liveV R.vals k).map idV ++ [⟨R.vals[k].1,R.vals[k].2.ver⟩]):=(show _=_ from by rw[keptF_yes _ _ _ hlt (by simp[liveV,hd]),List.map_append];rfl)
    clear hR hgr hv hv2 hv3 hc hfz hd
    generalize R.vals[k].1=zk at *
    generalize R.vals[k].2.ver=zv at *
    generalize (keptF liveV R.vals k).map idV=q at *
    have HQL:=Lib.hid hql
    clear hql
    generalize hqn:q.length=n at *
    have HQN:=Lib.hid hqn
    clear hqn
    go_upto_region 6 with fail
    have hq1:(q ++ [(⟨zk,zv⟩:ID)]).length=n+1:=by have:=HQN.out;simp;omega
    have hq2:q.length + [(⟨zk,zv⟩:ID)].length≤1000000000:=by have:=HQL.out;have:=HQN.out;simp;omega
    have HQ1:=Lib.hid hq1
    have HQ2:=Lib.hid hq2
    clear hq1 hq2
    go_region_law (refine step_sapp rfl _ _ 139 rfl lenID oneID i0 _ 24 Tryz.underlying139 hi hz0 hz1 hz2 rfl (by decide) (by decide) (l:=q) (m:=[(⟨zk,zv⟩:ID)]) rfl (Grows.more HGR.out (by repeat (first|exact grown_refl _|refine grown_alloc ?_ _|refine grown_drew ?_))).row rfl (yrow_at (⟨zk,zv⟩:ID) (heap_alloc_new _ _)) HQ2.out (n+1) (by rw[←List.length_append];exact HQ1.out) ?_;intro p' c' w3 ha;have HA:=Lib.hid (Grows.app (Grows.more HGR.out (by repeat (first|exact grown_refl _|refine grown_alloc ?_ _|refine grown_drew ?_))) ha);clear ha)
    all_goals
     go_wp2
     go_roundw
     case rel=>exact⟨k+1,by omega,by go_num,by rw[HK.out];exact HA.out⟩
     case measure=>simp[intOf];omega
  ·obtain rfl:k=R.vals.length:=by omega
   have HQ:Hid (keptF liveV R.vals R.vals.length=R.vals.filter liveV):=(show _=_ from keptF_all _ _ _ (Nat.le_refl _))
   generalize hqn:((keptF liveV R.vals R.vals.length).map idV).length=n at *
   have HQN:=Lib.hid hqn
   clear hR hgr hv hqn
   go_wp2_with (go_at_call 176;refine(rsorted_any HGR.out.row (by rw[HQN.out];exact hql)).mono ?_;rintro e w4 ⟨v',rfl,hs⟩;have HS:=Lib.hid hs;clear hs)
   go_ret
   exact⟨_,rfl,by rw[HV.out,←HQ.out];exact HS.out.up HGR.out.grown⟩
end
section
variable {bs : Nat → Prop} {W : World} {rb : Nat} {R : RTab}
theorem rcur_len (R:RTab):(rcurL R).length≤R.vals.length:=by
 unfold rcurL
 rw[len_sortL,List.length_map]
 exact List.length_filter_le _ _
end
theorem LRead.id {W:World} {p:Option Addr} {n c k:Nat} {l:List ID} {i:ID} (h:LRead W 2 idCells (.slice p n c) l) (hk:l[k]? = some i):∃g,p=some ⟨g,0,none⟩∧W.cell? ⟨g,k*2,none⟩=some (.string i.key)∧W.cell? ⟨g,k*2+1,none⟩=some (.int .i64 i.ver):=by
 obtain⟨hl,rfl⟩:=List.getElem?_eq_some_iff.1 hk
 obtain⟨p',cap,e,h2⟩:=h
 injection e with e1 e2 e3
 rcases h2 with h0|⟨g,e4,hc⟩
 ·subst h0;simp at hl
 ·exact⟨g,e1.trans e4,hc k hl 0 _ rfl,hc k hl 1 _ rfl⟩
theorem misN_beyond {L:Tab} {i:ID} {j:Nat} (h:∀a:Nat,j≤a→lifeV L a≤0):∀K,j≤K→misN L i K=misN L i j
 | 0,hK=>by
  obtain rfl:j=0:=by omega
  rfl
 | K+1,hK=>by
  rcases Nat.lt_or_ge K j with hl|hl
  ·obtain rfl:j=K+1:=by omega
   rfl
  ·rw[misN_succ,misN_beyond h K hl]
   have:=h K hl
   rw[if_neg (by simp;omega),List.append_nil]
theorem srow_ints {W:World} {v:Value} {l:List Int} (h:SRow W 3 1 cellsI v l):W.ownsRow 0 3 1 v l.length (l.map (Value.int .i64)):=by
 have e:∀l:List Int,l.flatMap cellsI=l.map (Value.int .i64):=fun l=>by
  induction l with
  | nil=>rfl
  | cons a r ih=>rw[List.flatMap_cons,ih];rfl
 unfold SRow at h
 rwa [e] at h
theorem infoRND:(Tryz.prog.info? 143).map (fun i=>(i.zero,i.size,i.bytes))=some (some (.agg #[.string { data:=#[] },.int .i64 0,.slice none 0 0,.slice none 0 0]),4,72):=by kernel_rfl
section
variable {bs : Nat → Prop} {w : World} {rb : Nat} {R : RTab}
set_option maxHeartbeats 16000000 in
set_option maxRecDepth 100000 in
theorem rneeds_any (h:RAt bs w rb R) (L:Tab) (N K:Nat) (hK:K≤1000) (hRN:R.N=N) (hNl:R.lives.length=N) (hN1:N≤1000) (hcur:rcurL R=curL L) (hhold:∀i,rholdL R i=holdL L i) (hheld:∀i (a:Nat),heldB R i a=decide ((a:Int)∈holdL L i)) (hlife:∀a:Nat,a<N→R.lives.getD a 0=lifeV L a) (hout:∀a:Nat,N≤a→lifeV L a≤0) (hhl:∀i,(holdL L i).length≤1000) (hvl:R.vals.length≤1000000) :
  Calls Tryz.prog 76 #[.pointer (some ⟨rb,0,none⟩),.int .i64 K] w fun e w'=>∃v xs,e = .returned v∧NRow w' v (needL L K)∧NRowV w' 143 v xs∧xs.map (·.nd)=needL L K∧(∀x∈xs,x.hs=holdL L x.nd.id)∧w.grownBy w' none:=by
 have HCU:Hid (Calls Tryz.prog 137 #[.pointer (some ⟨rb,0,none⟩)] w fun e w'=>∃v,e = .returned v∧Grows w 59 2 idCells v (curL L) w'):=(show Calls _ _ _ _ _ from by rw[←hcur];exact rcurrent_any h hvl)
 have HHO:Hid (∀W i,w.grownBy W none→Calls Tryz.prog 138 #[.pointer (some ⟨rb,0,none⟩),encID i] W fun e w'=>∃v,e = .returned v∧Grows W 3 1 cellsI v (holdL L i) w'):=(show ∀_ _,_→Calls _ _ _ _ _ from fun W i hg=>by rw[←hhold];exact rholders_any (h.grown hg) i (by omega) (by omega))
 have HHE:Hid (∀W i (a:Nat),w.grownBy W none→Calls Tryz.prog 139 #[.pointer (some ⟨rb,0,none⟩),encID i,.int .i64 a] W fun e w'=>e = .returned (.bool (decide ((a:Int)∈holdL L i)))∧W.grownBy w' none):=(show ∀_ _ _,_→Calls _ _ _ _ _ from fun W i a hg=>by rw[←hheld];exact rheld_any (h.grown hg) i a)
 have HLV:Hid (∀W (a:Nat),w.grownBy W none→a<N→∃gL capL,W.cell? ⟨rb,4,none⟩=some (.slice (some ⟨gL,0,none⟩) N capL)∧W.cell? ⟨gL,a,none⟩=some (.int .i64 (lifeV L a))∧gL<W.heap.size):=(show ∀_ _,_→_→_ from fun W a hg ha=>by
  obtain⟨gL,capL,c4,cl,-,hcl1,hcl2⟩:=h.live (show a<R.lives.length by omega)
  rw[hlife a ha] at cl
  rw[hNl] at c4
  exact⟨gL,capL,hg.cell c4 (by simp),hg.cell cl (by simp),cell_lt (hg.cell cl (by simp))⟩)
 have HC0:Hid (∀W,w.grownBy W none→W.cell? ⟨rb,0,none⟩=some (.int .i64 N)):=(show ∀_,_→_=_ from fun W hg=>by have:=hg.cell h.c0 (by simp);rwa [hRN] at this)
 have HCL:Hid ((curL L).length≤1000000):=(show _≤_ from by rw[←hcur];exact Nat.le_trans (rcur_len R) hvl)
 have HEND:Hid (needK L K (curL L).length=needL L K):=(show _=_ from by unfold needK needL;rw[List.take_length])
 have HBY:Hid (∀i (j:Nat),N≤j→j≤K→misN L i K=misN L i j):=(show ∀_ _,_→_→_=_ from fun i j h1 h2=>misN_beyond (fun a ha=>hout a (by omega)) K h2)
 have htb:=h.lt
 obtain⟨i0,hi,hz0,hz1,hz2⟩:=info_parts infoRND
 obtain⟨j0,hj,gz0,gz1,gz2⟩:=info_parts infoZ
 have HHL:=Lib.hid hhl
 clear h hcur hhold hheld hlife hout hhl hvl hRN hNl
 go_enter Tryz.func76,Tryz.ntmps76
 go_wp2_with (go_at_call 137;refine HCU.out.mono ?_;rintro e w1 ⟨v,rfl,hv⟩;obtain⟨p,cap,rfl,-,-⟩:=hv.row.form;have HV:=Lib.hid (hv.row.lread lenID);have HG:=Lib.hid hv.grown;clear hv)
 have H0:Hid (NOut 143 (holdL L) w1 w1 (.slice none 0 0) [] (needK L K 0)):=(show NOut _ _ _ _ _ _ _ from ⟨World.ownsRow_nil _ _ _ _,fun x hx=>by simp at hx,by simp[needK],fun x hx=>by simp at hx,grown_refl _⟩)
 generalize hq:(curL L).length=q at *
 have HQ:=Lib.hid hq
 have hq1:=HCL.out
 clear hq HCU
 go_loopw [5,7] (fun x i wr=>∃(k:Nat) (xs:List Ndv),k≤q∧i = .int .i64 k∧Hid (NOut 143 (holdL L) w1 wr x xs (needK L K k))) (fun _ i _=>q-(intOf i).toNat)
 case atStart=>exact⟨0,[],Nat.zero_le _,rfl,H0⟩
 case round=>
  clear H0
  obtain⟨k,xs,hk,rfl,hO⟩:=hrel
  rcases Nat.lt_or_ge k q with hlt|hge
  ·obtain⟨i,hi2⟩:∃i,(curL L)[k]? = some i:=⟨_,List.getElem?_eq_getElem (by rw[HQ.out];exact hlt)⟩
   have HKS:=Lib.hid (needK_succ (N:=K) hi2)
   have HIR:Hid (∀W,w1.grownBy W none→∃g,p=some ⟨g,0,none⟩∧W.cell? ⟨g,k*2,none⟩=some (.string i.key)∧W.cell? ⟨g,k*2+1,none⟩=some (.int .i64 i.ver)):=(show ∀_,_→_ from fun W hg=>(HV.out.grown hg).id hi2)
   obtain⟨g,hp,c0,c1⟩:=HIR.out _ hO.out.gr
   subst hp
   have HO:=Lib.hid hO.out
   have hgw:=cell_lt c0
   simp only at hgw
   clear hi2 hO
   obtain⟨key,ver⟩:=i
   simp only at c0 c1
   have HMS:=fun j=>Lib.hid (misN_succ L ⟨key,ver⟩ j)
   have HML:=fun j=>Lib.hid (misN_len L ⟨key,ver⟩ j)
   have HNL:Hid (ndL L K ⟨key,ver⟩=⟨⟨key,ver⟩,(holdL L ⟨key,ver⟩).length,misN L ⟨key,ver⟩ K⟩):=(show _=_ from rfl)
   have HM0:Hid (misN L ⟨key,ver⟩ 0 = []):=(show _=_ from rfl)
   have HWA:Hid (w.grownBy wr none):=(show w.grownBy _ none from grown_trans HG.out HO.out.gr)
   have HHD1:Hid ((holdL L ⟨key,ver⟩).length≤1000):=(show _≤_ from HHL.out _)
   have HHO1:=Lib.hid (fun W (hg:w.grownBy W none)=>HHO.out W ⟨key,ver⟩ hg)
   have HHE1:=Lib.hid (fun W (a:Nat) (hg:w.grownBy W none)=>HHE.out W ⟨key,ver⟩ a hg)
   generalize hhd:holdL L ⟨key,ver⟩=hd at *
   have HHD:=Lib.hid hhd
   clear hhd
   obtain⟨wa,hwa⟩:∃x:World,x=wr:=⟨_,rfl⟩
   rw[←hwa] at HO HWA c0 c1 hgw ⊢
   clear hwa
   have hkq:(k:Int)<(q:Int):=by omega
   go_upto_region 6 with fail
   go_cut [8] (fun bp wx=>∃(bn:Nat) (ph:Option Addr) (ch:Nat),bp = .pointer (some ⟨bn,0,none⟩)∧Hid (wa.heap.size≤bn∧bn<wx.heap.size∧wx.heap[bn]? = some (.cells #[.string key,.int .i64 ver,.slice ph hd.length ch,.slice none 0 0] 143 (0,0))∧wa.grownBy wx none∧wx.ownsRow 0 3 1 (.slice ph hd.length ch) hd.length (hd.map (Value.int .i64))))
   case first=>
    have nb1:g≠wa.heap.size:=by omega
    have nb2:wa.heap.size≠g:=by omega
    go_region_held3 (fun w'=>w'.cell? ⟨g,k*2,none⟩=some (.string key)∧w'.cell? ⟨g,k*2+1,none⟩=some (.int .i64 ver)) (first|with_reducible exact⟨k3,k4⟩|with_reducible exact⟨c0,c1⟩|go_keep)
     ((go_at_call 138;refine(HHO1.out _ (grown_trans HWA.out (by repeat (first|exact grown_refl _|refine grown_alloc ?_ _|refine grown_drew ?_)))).mono ?_;rintro e w3 ⟨v,rfl,hv⟩;obtain⟨ph,ch,rfl,-,-⟩:=hv.row.form;have HRW:=Lib.hid (srow_ints hv.row);have hg:=hv.grown;clear hv;have hgg:wa.grownBy w3 none:=grown_trans (by repeat (first|exact grown_refl _|refine grown_alloc ?_ _|refine grown_drew ?_)) hg;have k3:=hgg.cell c0 (by simp);have k4:=hgg.cell c1 (by simp);have HGG:=Lib.hid hgg;(first|(have zb:=alloc_kept' hg;obtain⟨z0,z1,z2,z3,y0,y1,y2,y3⟩:=four zb)|(have zb:=alloc_kept hg;obtain⟨z0,z1,z2,z3,y0,y1,y2,y3⟩:=four zb)|skip);clear hg hgg))
    all_goals
     go_wp2_with fail
     go_meet
    ·exact⟨_,ph,ch,rfl,(show _∧_ from ⟨HGG.out.size,by simp,World.alloc_heap_new _ _,grown_trans HGG.out (World.grownBy_alloc _ _ none),HRW.out.alloc _⟩)⟩
    ·exact⟨_,ph,ch,rfl,(show _∧_ from ⟨Nat.le_refl _,(nbox_set (bi:=wa.heap.size-1) (by omega) HGG.out zb HRW.out).2⟩)⟩
   case rest=>
    obtain⟨bn,ph,ch,rfl,hB⟩:=hcut
    obtain⟨wx,hwx⟩:∃x:World,x=wc:=⟨_,rfl⟩
    rw[←hwx] at hB ⊢
    have HB:=Lib.hid hB.out
    clear hwx hB c0 c1
    have hbn:=HB.out.2.1
    have HWX:Hid (w.grownBy wx none):=(show w.grownBy _ none from grown_trans HWA.out HB.out.2.2.2.1)
    have H1:Hid (NBox 143 wx wx bn key ver ph hd.length ch none (misN L ⟨key,ver⟩ 0) 0):=(show NBox _ _ _ _ _ _ _ _ _ _ _ _ from by
     rw[HM0.out]
     exact⟨HB.out.2.2.1,World.ownsRow_nil _ _ _ _,⟨rfl,rfl,rfl,Nat.le_refl _,fun _ _ _=>rfl⟩⟩)
    have HOW:Hid (∀W,wx.grownBy W (some bn)→W.ownsRow 0 3 1 (.slice ph hd.length ch) hd.length (hd.map (Value.int .i64))):=(show ∀W,_→World.ownsRow _ _ _ _ _ _ _ from fun W hg=>own_sm HB.out.2.2.2.2 (fun g hg2=>by
     obtain⟨c2,hc2⟩:=own_ty HB.out.2.2.2.2 hg2
     refine hg.block g (Array.getElem?_eq_some_iff.1 hc2).1 (fun e=>?_)
     cases e
     rw[HB.out.2.2.1] at hc2
     injection hc2 with e1
     injection e1 with e2 e3
     exact absurd e3 (by decide)))
    have HWG:Hid (∀W,wx.grownBy W (some bn)→w.grownBy W none∧wa.grownBy W none):=(show ∀W,_→_ from fun W hg=>⟨grown_own HWX.out hg (fun k e=>by cases e;have:=HWA.out.size;have:=HB.out.1;omega),grown_own HB.out.2.2.2.1 hg (fun k e=>by cases e;have:=HB.out.1;omega)⟩)
    go_wp2
    go_loopw [9] (fun s wl=>∃(j:Nat) (pm:Option Addr) (cm:Nat),j≤K∧j≤N∧s = .int .i64 j∧Hid (NBox 143 wx wl bn key ver ph hd.length ch pm (misN L ⟨key,ver⟩ j) cm)) (fun s _=>K-(intOf s).toNat)
    case atStart=>exact⟨0,none,0,Nat.zero_le _,Nat.zero_le _,rfl,H1⟩
    case round=>
     clear H1
     obtain⟨j,pm,cm,hjK,hjN,rfl,hNB⟩:=hrel
     have HNB:=Lib.hid hNB.out
     clear hNB
     by_cases hjj:j<K∧j<N
     ·obtain⟨hlj,hlN⟩:=hjj
      have hms:=HMS j
      have hml:=(HML j).out
      obtain⟨ms,hmsd⟩:∃ms,ms=misN L ⟨key,ver⟩ j:=⟨_,rfl⟩
      rw[←hmsd] at HNB hms hml
      have HM1:=Lib.hid hms.out
      clear hms hmsd
      have hg1:=(HWG.out _ HNB.out.gr).1
      have c0r:=HC0.out wr hg1
      obtain⟨gL,capL,c4,cl,hgL⟩:=HLV.out wr j hg1 hlN
      obtain⟨g',hp',k0,k1⟩:=HIR.out wr (grown_trans HO.out.gr (HWG.out _ HNB.out.gr).2)
      injection hp' with hp'
      injection hp' with hp'
      subst hp'
      have HHEr:=Lib.hid (fun W (hg:wr.grownBy W none)=>HHE1.out W j (grown_trans hg1 hg))
      have hjN2:(j:Int)<(N:Int):=by omega
      have hjK2:(j:Int)<(K:Int):=by omega
      clear hg1
      by_cases hl0:0<lifeV L j
      ·cases hbq:decide ((j:Int)∈hd) with
       | true=>
        have HM2:Hid (misN L ⟨key,ver⟩ (j+1)=ms):=(show _=_ from by rw[HM1.out,hbq];simp)
        rw[hbq] at HHEr
        clear HM1 hbq
        generalize lifeV L j=lv at *
        go_wp2_with (go_at_call 139;refine(HHEr.out _ (grown_refl _)).mono ?_;rintro e w4 ⟨rfl,hg⟩;have HN4:=Lib.hid (HNB.out.kept hg);clear hg)
        go_roundw
        case rel=>exact⟨j+1,pm,cm,by omega,by omega,by go_num,by rw[HM2.out];exact HN4⟩
        case measure=>simp[intOf];omega
       | false=>
        have HM2:Hid (misN L ⟨key,ver⟩ (j+1)=ms ++ [(j:Int)]):=(show _=_ from by rw[HM1.out,hbq];simp[hl0])
        rw[hbq] at HHEr
        clear HM1 hbq
        generalize lifeV L j=lv at *
        go_wp2_with (first
         | (go_at_call 139;refine(HHEr.out _ (grown_refl _)).mono ?_;rintro e w4 ⟨rfl,hg⟩;have HN4:=Lib.hid (HNB.out.kept hg);have hb4:=HN4.out.box;have d3:w4.cell? ⟨bn,3,none⟩=some (.slice pm ms.length cm):=(cell_block hb4 3).trans rfl;clear hg hb4)
         | (at_builtin;refine wpList_append_own _ rfl _ _ 69 rfl wx.heap.size 3 j0 (.int .i64 0) 1 8 Tryz.underlying69 hj gz0 gz1 gz2 rfl (by decide) _ _ _ rfl (HN4.out.row.alloc _) ⟨w4.heap.size,0,none⟩ 1 1 [.int .i64 j] rfl rfl ?c1 ?c2 ?c3 ?c4 ?c5 ?_))
        case c1=>
         intro t u hu
         match t,hu with
         | 0,hu=>simp at hu;subst hu;simp[Addr.add,go_sem]
         | t+1,hu=>simp at hu
        case c2=>intro u hu;simp at hu;subst hu;rfl
        case c3=>unfold maxLen;omega
        case c4=>omega
        case c5=>have:=HN4.out.gr.size;simp;omega
        intro v' w9 ho hg9 _
        obtain⟨g9,cap9,rfl⟩:=ownsRow_succ ho
        obtain⟨hb9,hn9⟩:=HN4.out.add (World.grownBy_alloc _ _ none) (j:Int) hbn ho hg9
        have HN9:=Lib.hid hn9
        have e3:w9.cell? ⟨bn,3,none⟩=some (.slice pm ms.length cm):=(cell_block hb9 3).trans rfl
        have f3:w9.frozen? ⟨bn,3,none⟩=false:=free_block hb9 3
        clear ho hg9 hb9 hn9
        go_wp2
        go_roundw
        case rel=>exact⟨j+1,_,_,by omega,by omega,by go_num,by rw[HM2.out];exact HN9⟩
        case measure=>simp[intOf];omega
      ·have HM2:Hid (misN L ⟨key,ver⟩ (j+1)=ms):=(show _=_ from by rw[HM1.out];simp[hl0])
       clear HM1
       generalize lifeV L j=lv at *
       go_wp2
       go_roundw
       case rel=>exact⟨j+1,pm,cm,by omega,by omega,by go_num,by rw[HM2.out];exact HNB⟩
       case measure=>simp[intOf];omega
     ·have HBYj:Hid (misN L ⟨key,ver⟩ K=misN L ⟨key,ver⟩ j):=(show _=_ from by
       rcases Nat.lt_or_ge j K with h1|h1
       ·exact HBY.out _ j (by omega) hjK
       ·obtain rfl:j=K:=by omega
        rfl)
      rcases Nat.lt_or_ge j K with hlK|hgK
      ·have hNj:(N:Int)≤(j:Int):=by omega
       clear hjj
       have hb:=HNB.out.box
       have hml:=(HML j).out
       have HWQ:=Lib.hid (HWG.out _ HNB.out.gr).2
       have c0r:=HC0.out wr (HWG.out _ HNB.out.gr).1
       have d0:wr.cell? ⟨bn,0,none⟩=some (.string key):=(cell_block hb 0).trans rfl
       have d1:wr.cell? ⟨bn,1,none⟩=some (.int .i64 ver):=(cell_block hb 1).trans rfl
       have d2:wr.cell? ⟨bn,2,none⟩=some (.slice ph hd.length ch):=(cell_block hb 2).trans rfl
       have d3:wr.cell? ⟨bn,3,none⟩=some (.slice pm (misN L ⟨key,ver⟩ j).length cm):=(cell_block hb 3).trans rfl
       obtain⟨ms,hmsd⟩:∃ms,ms=misN L ⟨key,ver⟩ j:=⟨_,rfl⟩
       have HOK:Hid (NdvOk wr ⟨⟨⟨key,ver⟩,hd.length,ms⟩,ph,ch,pm,cm,hd⟩):=(show NdvOk _ _ from by
        refine⟨?_,rd_own (HOW.out _ HNB.out.gr),rfl⟩
        have hr:=HNB.out.row
        rw[←hmsd] at hr
        exact rd_own hr)
       have HND:Hid (ndL L K ⟨key,ver⟩=⟨⟨key,ver⟩,hd.length,ms⟩):=(show _=_ from by rw[HNL.out,HBYj.out,hmsd])
       have HOX:=Lib.hid (HO.out.kept HWQ.out)
       have HXL:Hid (xs.length≤1000000):=(show _≤_ from by
        rw[HO.out.len];exact Nat.le_trans (needK_len L K k) (by omega))
       rw[←hmsd] at d3 hml
       clear hb hmsd HNB
       by_cases hz:ms = []
       ·have HK2:Hid (needK L K (k+1)=needK L K k):=(show _=_ from by rw[HKS.out,HND.out];unfold ndS;rw[if_pos hz,List.append_nil])
        have hzl:ms.length=0:=by rw[hz];rfl
        rw[hzl] at d3
        clear hz hzl hml
        go_wp2
        go_roundw
        case rel=>exact⟨k+1,xs,by omega,by go_num,by rw[HK2.out];exact HOX⟩
        case measure=>simp[intOf];omega
       ·have HK2:Hid (needK L K (k+1)=needK L K k ++ [⟨⟨key,ver⟩,hd.length,ms⟩]):=(show _=_ from by rw[HKS.out,HND.out];unfold ndS;rw[if_neg hz])
        obtain⟨lm,hlm⟩:∃lm,lm=ms.length:=⟨_,rfl⟩
        have hlp:0<lm:=by rw[hlm];exact List.length_pos_iff.2 hz
        rw[←hlm] at d3 hml
        have HLM:=Lib.hid hlm
        clear hz hlm
        have HXL1:=HXL.out
        go_wp2_with (at_builtin;refine wpList_append_own _ rfl _ _ 133 rfl w1.heap.size 143 i0 (.agg #[.string { data:=#[] },.int .i64 0,.slice none 0 0,.slice none 0 0]) 4 72 Tryz.underlying133 hi hz0 hz1 hz2 rfl (by decide) _ _ _ rfl (HOX.out.row.alloc _) ⟨wr.heap.size,0,none⟩ 1 1 [.string key,.int .i64 ver,.slice ph hd.length ch,.slice pm lm cm] rfl rfl ?c1xa ?c2xa ?c3xa ?c4xa ?c5xa ?_)
        case c1xa=>exact task_new _ _ _ _ _ _
        case c2xa=>intro u hu;simp at hu;rcases hu with rfl|rfl|rfl|rfl <;> rfl
        case c3xa=>unfold maxLen;omega
        case c4xa=>omega
        case c5xa=>have:=HOX.out.gr.size;simp;omega
        intro v' w9 ho hg9 _
        have HN9:=Lib.hid (HOX.out.add (World.grownBy_alloc _ _ none) ⟨⟨⟨key,ver⟩,hd.length,ms⟩,ph,ch,pm,cm,hd⟩ HOK.out HHD.out.symm (by rw[HLM.out] at ho;exact ho) hg9)
        clear ho hg9 HXL1
        go_wp2
        go_roundw
        case rel=>exact⟨k+1,_,by omega,by go_num,by rw[HK2.out];exact HN9⟩
        case measure=>simp[intOf];omega
      ·have hKj:(K:Int)≤(j:Int):=by omega
       clear hjj
       have hb:=HNB.out.box
       have hml:=(HML j).out
       have HWQ:=Lib.hid (HWG.out _ HNB.out.gr).2
       have c0r:=HC0.out wr (HWG.out _ HNB.out.gr).1
       have d0:wr.cell? ⟨bn,0,none⟩=some (.string key):=(cell_block hb 0).trans rfl
       have d1:wr.cell? ⟨bn,1,none⟩=some (.int .i64 ver):=(cell_block hb 1).trans rfl
       have d2:wr.cell? ⟨bn,2,none⟩=some (.slice ph hd.length ch):=(cell_block hb 2).trans rfl
       have d3:wr.cell? ⟨bn,3,none⟩=some (.slice pm (misN L ⟨key,ver⟩ j).length cm):=(cell_block hb 3).trans rfl
       obtain⟨ms,hmsd⟩:∃ms,ms=misN L ⟨key,ver⟩ j:=⟨_,rfl⟩
       have HOK:Hid (NdvOk wr ⟨⟨⟨key,ver⟩,hd.length,ms⟩,ph,ch,pm,cm,hd⟩):=(show NdvOk _ _ from by
        refine⟨?_,rd_own (HOW.out _ HNB.out.gr),rfl⟩
        have hr:=HNB.out.row
        rw[←hmsd] at hr
        exact rd_own hr)
       have HND:Hid (ndL L K ⟨key,ver⟩=⟨⟨key,ver⟩,hd.length,ms⟩):=(show _=_ from by rw[HNL.out,HBYj.out,hmsd])
       have HOX:=Lib.hid (HO.out.kept HWQ.out)
       have HXL:Hid (xs.length≤1000000):=(show _≤_ from by
        rw[HO.out.len];exact Nat.le_trans (needK_len L K k) (by omega))
       rw[←hmsd] at d3 hml
       clear hb hmsd HNB
       by_cases hz:ms = []
       ·have HK2:Hid (needK L K (k+1)=needK L K k):=(show _=_ from by rw[HKS.out,HND.out];unfold ndS;rw[if_pos hz,List.append_nil])
        have hzl:ms.length=0:=by rw[hz];rfl
        rw[hzl] at d3
        clear hz hzl hml
        go_wp2
        go_roundw
        case rel=>exact⟨k+1,xs,by omega,by go_num,by rw[HK2.out];exact HOX⟩
        case measure=>simp[intOf];omega
       ·have HK2:Hid (needK L K (k+1)=needK L K k ++ [⟨⟨key,ver⟩,hd.length,ms⟩]):=(show _=_ from by rw[HKS.out,HND.out];unfold ndS;rw[if_neg hz])
        obtain⟨lm,hlm⟩:∃lm,lm=ms.length:=⟨_,rfl⟩
        have hlp:0<lm:=by rw[hlm];exact List.length_pos_iff.2 hz
        rw[←hlm] at d3 hml
        have HLM:=Lib.hid hlm
        clear hz hlm
        have HXL1:=HXL.out
        go_wp2_with (at_builtin;refine wpList_append_own _ rfl _ _ 133 rfl w1.heap.size 143 i0 (.agg #[.string { data:=#[] },.int .i64 0,.slice none 0 0,.slice none 0 0]) 4 72 Tryz.underlying133 hi hz0 hz1 hz2 rfl (by decide) _ _ _ rfl (HOX.out.row.alloc _) ⟨wr.heap.size,0,none⟩ 1 1 [.string key,.int .i64 ver,.slice ph hd.length ch,.slice pm lm cm] rfl rfl ?c1xb ?c2xb ?c3xb ?c4xb ?c5xb ?_)
        case c1xb=>exact task_new _ _ _ _ _ _
        case c2xb=>intro u hu;simp at hu;rcases hu with rfl|rfl|rfl|rfl <;> rfl
        case c3xb=>unfold maxLen;omega
        case c4xb=>omega
        case c5xb=>have:=HOX.out.gr.size;simp;omega
        intro v' w9 ho hg9 _
        have HN9:=Lib.hid (HOX.out.add (World.grownBy_alloc _ _ none) ⟨⟨⟨key,ver⟩,hd.length,ms⟩,ph,ch,pm,cm,hd⟩ HOK.out HHD.out.symm (by rw[HLM.out] at ho;exact ho) hg9)
        clear ho hg9 HXL1
        go_wp2
        go_roundw
        case rel=>exact⟨k+1,_,by omega,by go_num,by rw[HK2.out];exact HN9⟩
        case measure=>simp[intOf];omega
  ·obtain rfl:k=q:=by omega
   have hO2:=hO.out
   rw[HEND.out] at hO2
   have HO:=Lib.hid hO2
   clear hO hO2
   go_wp2
   go_ret
   exact⟨_,xs,rfl,HO.out.nrow,HO.out.rowv,HO.out.eq,HO.out.hh,grown_trans HG.out HO.out.gr⟩
end
structure RB (j:Nat) (R:RTab):Prop where
 lc:R.calls.length≤j
 lv:R.vals.length≤j
 lp:R.pends.length≤j
 lh:R.holds.length≤j
 o0:0≤R.offers
 o1:R.offers≤j
 x0:1≤R.next
 x1:R.next≤j+1
 ks:∀v∈R.vals,v.1.size≤64
theorem mput_len {K V:Type} [DecidableEq K] (m:List (K × V)) (k:K) (v:V):(mput m k v).length≤m.length+1:=by
 induction m with
 | nil=>simp[mput]
 | cons p r ih=>
  unfold mput
  split
  ·simp
  ·simp only[List.length_cons];omega
section
variable {j : Nat} {R : RTab}
theorem RB.le (h:RB j R) {i:Nat} (hi:j≤i):RB i R:=⟨by have:=h.lc;omega,by have:=h.lv;omega,by have:=h.lp;omega,by have:=h.lh;omega,h.o0,by have:=h.o1;omega,h.x0,by have:=h.x1;omega,h.ks⟩
theorem rclean_b (h:RB j R):RB j (rclean R):=⟨h.lc,h.lv,h.lp,Nat.le_trans (List.length_filter_le _ _) h.lh,h.o0,h.o1,h.x0,h.x1,h.ks⟩
theorem rsays_b (h:RB j R) (x:RHold):RB (j+1) (rsays R x):=by
 refine⟨Nat.le_succ_of_le h.lc,Nat.le_succ_of_le h.lv,Nat.le_succ_of_le h.lp,?_,h.o0,by have:=h.o1;show R.offers≤_;omega,h.x0,by have:=h.x1;show R.next≤_;omega,h.ks⟩
 have:=List.length_filter_le (fun x_1:RHold=>decide (x_1.id≠x.id) || decide (x_1.node≠x.node)) R.holds
 have h1:=h.lh
 unfold rsays
 simp only[List.length_append,List.length_cons,List.length_nil]
 omega
theorem eraseP_len {α:Type} (f:α→Bool) (l:List α):(l.eraseP f).length≤l.length:=List.Sublist.length_le List.eraseP_sublist
theorem rends_b (h:RB j R) (i:ID):RB j (rends R i):=⟨h.lc,h.lv,Nat.le_trans (eraseP_len _ _) h.lp,h.lh,h.o0,h.o1,h.x0,h.x1,h.ks⟩
theorem mput_keys {m:List (ByteArray × Val)} (h:∀v∈m,v.1.size≤64) {s:ByteArray} (hs:s.size≤64) (v:Val):∀x∈mput m s v,x.1.size≤64:=by
 intro x hx
 rcases mput_sub m s v x.1 (List.mem_map.2 ⟨x,hx,rfl⟩) with e|e
 ·rw[e];exact hs
 ·obtain⟨y,hy,e⟩:=List.mem_map.1 e
  rw[←e];exact h y hy
theorem rdo_b (h:RB j R) (c:Cmd) (hk:c.key.size≤64):RB (j+1) (rdo R c):=by
 have h1:=h.lc
 have h2:=h.lv
 have h3:=h.lp
 have h4:=h.lh
 have h5:=h.o0
 have h6:=h.o1
 have h7:=h.x0
 have h8:=h.x1
 have h9:=h.ks
 have e1:=fun (n:Int) (v:CallT)=>mput_len R.calls n v
 have e2:=fun (s:ByteArray) (v:Val)=>mput_len R.vals s v
 have e3:=fun (f:ID × Pend→Bool)=>eraseP_len f R.pends
 have e4:=fun (f:RHold→Bool)=>List.length_filter_le f R.holds
 unfold rdo
 split
 ·exact rclean_b ⟨by show R.calls.length≤_;omega,by show R.vals.length≤_;omega,by show R.pends.length≤_;omega,by show R.holds.length≤_;omega,by show 0≤R.offers+1;omega,by show R.offers+1≤_;omega,h7,by show R.next≤_;omega,h9⟩
 ·split
  ·refine rclean_b ?_
   split
   ·exact⟨by show R.calls.length≤_;omega,by show R.vals.length≤_;omega,by show R.pends.length≤_;omega,by show R.holds.length≤_;omega,h5,by show R.offers≤_;omega,h7,by show R.next≤_;omega,h9⟩
   ·exact h.le (Nat.le_succ j)
  ·split
   ·refine rclean_b ?_
    split
    ·refine⟨?_,by show R.vals.length≤_;omega,?_,by show R.holds.length≤_;omega,h5,by show R.offers≤_;omega,by show 1≤R.next+1;omega,by show R.next+1≤_;omega,h9⟩
     ·have:=e1 c.client ⟨c.req,R.next,false,0⟩
      show(mput R.calls c.client ⟨c.req,R.next,false,0⟩).length≤_
      omega
     ·have:=e3 fun p:ID × Pend=>decide (p.2.client=c.client)
      show((R.pends.eraseP fun p:ID × Pend=>decide (p.2.client=c.client)) ++ [_]).length≤_
      rw[List.length_append,List.length_singleton]
      omega
    ·exact h.le (Nat.le_succ j)
   ·split
    ·unfold rack
     split
     ·have hs:=rsays_b h ⟨⟨c.key,c.ver⟩,c.node,c.inc,false⟩
      split
      ·exact hs
      ·split
       ·exact hs
       ·refine rclean_b ?_
        have hr:=rends_b hs ⟨c.key,c.ver⟩
        have hv:RB (j+1) (rvalued (rends (rsays R ⟨⟨c.key,c.ver⟩,c.node,c.inc,false⟩) ⟨c.key,c.ver⟩) c):=by
         unfold rvalued
         split
         ·refine⟨hr.lc,?_,hr.lp,hr.lh,hr.o0,hr.o1,hr.x0,hr.x1,?_⟩
          ·have:=e2 c.key ⟨c.ver,false⟩
           show(mput R.vals c.key ⟨c.ver,false⟩).length≤_
           omega
          ·exact mput_keys h9 hk _
         ·exact hr
        have hcalls:(rvalued (rends (rsays R ⟨⟨c.key,c.ver⟩,c.node,c.inc,false⟩) ⟨c.key,c.ver⟩) c).calls=R.calls:=by
         unfold rvalued;split <;> rfl
        unfold rdone
        split
        ·refine⟨?_,hv.lv,hv.lp,hv.lh,hv.o0,hv.o1,hv.x0,hv.x1,hv.ks⟩
         show(mput _ _ _).length≤_
         rw[hcalls]
         exact Nat.le_trans (e1 _ _) (by omega)
        ·exact hv
     ·exact h.le (Nat.le_succ j)
    ·split
     ·unfold rrefuse
      split
      ·exact h.le (Nat.le_succ j)
      ·split
       ·refine rclean_b ?_
        have hs:=rsays_b h ⟨⟨c.key,c.ver⟩,c.node,c.inc,true⟩
        split
        ·have hr:=rends_b hs ⟨c.key,c.ver⟩
         unfold rdone
         split
         ·refine⟨?_,hr.lv,hr.lp,hr.lh,hr.o0,hr.o1,hr.x0,hr.x1,hr.ks⟩
          show(mput R.calls _ _).length≤_
          exact Nat.le_trans (e1 _ _) (by omega)
         ·exact hr
        ·exact hs
       ·exact h.le (Nat.le_succ j)
     ·split
      ·refine rclean_b ?_
       split
       ·refine⟨?_,?_,?_,by show R.holds.length≤_;omega,h5,by show R.offers≤_;omega,by show 1≤R.next+1;omega,by show R.next+1≤_;omega,?_⟩
        ·show(mput R.calls _ _).length≤_
         exact Nat.le_trans (e1 _ _) (by omega)
        ·show(mput R.vals _ _).length≤_
         exact Nat.le_trans (e2 _ _) (by omega)
        ·show(R.pends.eraseP _).length≤_
         exact Nat.le_trans (e3 _) (by omega)
        ·exact mput_keys h9 hk _
       ·exact h.le (Nat.le_succ j)
      ·refine rclean_b ?_
       split
       ·refine⟨?_,by show R.vals.length≤_;omega,?_,by show R.holds.length≤_;omega,h5,by show R.offers≤_;omega,h7,by show R.next≤_;omega,h9⟩
        ·show(mput R.calls _ _).length≤_
         exact Nat.le_trans (e1 _ _) (by omega)
        ·show(R.pends.eraseP _).length≤_
         exact Nat.le_trans (e3 _) (by omega)
       ·exact h.le (Nat.le_succ j)
theorem rnew_b (N:Nat) (w:Int):RB 0 (rnew N w):=⟨Nat.le_refl _,Nat.le_refl _,Nat.le_refl _,Nat.le_refl _,Int.le_refl _,Int.le_refl _,Int.le_refl _,Int.le_refl _,fun v hv=>by simp[rnew] at hv⟩
theorem RB.rok (h:RB j R) (hj:j≤1000) {T:Tab} {n k:Nat} (hI:Inv n k T) (hs:Sim T R) (hn:n≤1000) (hk:k≤1000):ROk R:=by
 have hN:=hs.s0.N
 have hl:=hs.s0.lives
 have hln:=hI.ln
 have hw:=hs.s0.W
 have hkw:=hI.w
 refine⟨by have:=h.lc;omega,by have:=h.lv;omega,by have:=h.lp;omega,by have:=h.lh;omega,by rw[hl];omega,fun x hx=>?_,by rw[hl];exact hN,h.o0,by have:=h.o1;omega,by have:=h.x0;omega,by have:=h.x1;omega,by omega,by omega⟩
 have:=hs.s0.hb x hx
 rw[hl]
 omega
end
section
variable {W : World}
end
end Go.Proofs.YtjfelfjobeeenaaGreat
