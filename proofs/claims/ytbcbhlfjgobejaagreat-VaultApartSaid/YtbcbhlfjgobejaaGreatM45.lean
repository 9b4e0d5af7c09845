/- VaultApart: the walk (printed by gen_vap.py). Conditions: none, or as the theorems say. -/
import Derived.Test.YtbcbhlfjgobejaaGreatM1
import Derived.Test.YtbcbhlfjgobejaaGreatM44
import Derived.Test.YtbcbhlfjgobejaaGreatRows
import Derived.WalkKit
import Derived.ProofKit
import Derived.OpenShut
set_option linter.unusedSimpArgs false
set_option linter.unusedVariables false
namespace Go.Proofs.YtbcbhlfjgobejaaGreat
set_option maxHeartbeats 200000000
open Go.RowKit Go.Sf Go.Shelf
attribute [local go_sem] Oper.semAt_some
section
variable {W : World}
set_option maxRecDepth 100000 in
theorem zf9 {v dv:Value} {L:List ShX} {D:List Int} (hL:ShIn W v L) (hD:yc W dv D) (hDb:BL D) (hDl:D.length≤9223372036854775807):Calls Tryz.prog 11 #[v,dv] W fun e w'=>e = .returned (.bool true)∧W.grownBy w' none:=by
 obtain⟨p,cap,rfl,hll,hok,hrow⟩:=hL;obtain⟨n,hn⟩:∃n,n=L.length:=⟨_,rfl⟩;have HN:=zd hn;have HWK:Hid (∀w,Calls Tryz.prog 60 #[] w fun e w'=>e = .returned (.bool true)∧w.grownBy w' none):=zd zgh
 rw[←hn] at hll ⊢;clear hn;obtain⟨dp,dc,rfl,hdc⟩:=hD.ex;obtain⟨dn,hdn⟩:∃n,n=D.length:=⟨_,rfl⟩;have HDN:=zd hdn;have HDB:=zd hDb;rw[←hdn] at hDl ⊢;clear hdn hDb hD;have HDC:=zd hdc;clear hdc
 by_cases h20:20<n
 ·have h1:(20:Int)<(n:Int):=by omega
  clear hok hrow
  go_enter Tryz.func11,Tryz.ntmps11
  go_wp2_with (go_at_call 60;refine(HWK.out _).mono ?_;rintro e w1 ⟨rfl,h5⟩;have H5:=zd h5;clear h5)
  go_ret
  exact⟨rfl,H5.out⟩
 ·have h1:¬(20:Int)<(n:Int):=by omega
  have HDW:=zd (dnew 600 W);have HOK:=zd hok;have HC:Hid (∀j (hj:j<L.length),∃b off,p=some ⟨b,off,none⟩∧W.cell? ⟨b,off+j*4,none⟩=some (.slice L[j].kp L[j].s.key.length L[j].kc)∧W.cell? ⟨b,off+j*4+1,none⟩=some (.int .i64 L[j].s.zms)∧W.cell? ⟨b,off+j*4+2,none⟩=some (.int .i64 L[j].s.node)∧W.cell? ⟨b,off+j*4+3,none⟩=some (.slice L[j].rp L[j].s.row.length L[j].rc)):=zd fun j hj=>by
   rcases hrow with h0|⟨b,off,e,hc⟩
   ·rw[h0] at hj;simp at hj
   ·have hget:L.getD j shXD=L[j]:=by simp[List.getD_eq_getElem?_getD,List.getElem?_eq_getElem hj]
    have hc2:=hc j hj;rw[hget] at hc2
    exact⟨b,off,e,hc2 0 _ rfl,hc2 1 _ rfl,hc2 2 _ rfl,hc2 3 _ rfl⟩
  clear hok hrow
  go_enter Tryz.func11,Tryz.ntmps11
  go_upto_region 4 with (first
   | (go_at_call 19;refine HDW.out.mono ?_;rintro e w1 ⟨db,rfl,hg1,-,hd1⟩;have HOP:=zd (zab (W:=W) (n:=600) (by decide) hg1 hd1);clear hg1 hd1)
   | (go_at_call 61;refine HOP.out.mono ?_;rintro e w2 ⟨vb,V0,rfl,hv,hj0,hn0⟩;have HV0:=zd hv;clear hv HOP))
  obtain⟨b1,al1,j1,x1,n1⟩:=hj0.born (n:=1) (by omega) (by decide) (by decide) (by
   obtain⟨-,blk,hi⟩:=hj0;have:=hi.lfE;have h0:(lifeOf []).1=0:=rfl;omega) (by decide)
  have HBN:=zd (HV0.out.born hj0.late 1);rw[b1] at HBN;have HST:Hid (∀w,VR W (fun k=>k<W.heap.size) vb db (V0.born 1).1 w→qo W (fun k=>k<W.heap.size) vb db (V0.born 1).1 al1 [] (.slice none 0 0) 0 w):=zd fun w h=>⟨h,j1,by rw[x1];rfl,by rw[x1];exact zmm.born 1,zgj _,fun g hg=>(by cases hg),by simp,by simp,by simp;omega⟩
  clear b1 j1 x1 n1 hj0 hn0 HDW;generalize (V0.born 1).1=V1 at *
  go_upto_region 6 with (go_at_call 62;refine HBN.out.mono ?_;rintro e w3 ⟨rfl,hv,-⟩;have HM0:=zd (HST.out w3 hv);clear hv)
  have HFR:Hid (Calls Tryz.prog 63 #[.pointer (some ⟨vb,0,none⟩)] w3 fun e w'=>e = .returned (.int .i64 599)∧w'=w3):=zd HM0.out.free
  clear HV0 HBN HST
  go_upto_region 8 with (go_at_call 63;refine HFR.out.mono ?_;rintro e w4 ⟨rfl,h5⟩;obtain rfl:w3=w4:=h5.symm)
  clear HFR;go_wp2
  go_loopw [8,9] (fun a i wr=>∃(j:Nat) (own:Nat→Prop) (V:Vlt) (al:List (Int × List Int)) (l:List ShM),j≤n∧i = .int .i64 j∧qo W own vb db V al l a j wr) (fun _ i _=>n-(intOf i).toNat)
  case atStart=>exact⟨0,_,V1,al1,[],Nat.zero_le _,rfl,HM0.out⟩
  case round=>
   clear HM0;obtain⟨j,own,V,al,l,hj,rfl,hm⟩:=hrel;have HM:=zd hm;obtain⟨pa,ca,rfl⟩:=hm.lenA;have hn20:n≤20:=by omega
   by_cases hjn:j<n
   ·as_aux_lemma=>
    have hjl:j<L.length:=by rw[←HN.out];exact hjn
    obtain⟨b,off,rfl,k0,k1,k2,k3⟩:=HC.out j hjl;have HX:=zd (HOK.out L[j] (List.getElem_mem hjl));have hgr:=hm.vr.gr;have HK:Hid (W.cell? ⟨b,off+j*4,none⟩=some (.slice L[j].kp L[j].s.key.length L[j].kc)∧W.cell? ⟨b,off+j*4+1,none⟩=some (.int .i64 L[j].s.zms)∧W.cell? ⟨b,off+j*4+2,none⟩=some (.int .i64 L[j].s.node)∧W.cell? ⟨b,off+j*4+3,none⟩=some (.slice L[j].rp L[j].s.row.length L[j].rc)):=zd ⟨k0,k1,k2,k3⟩;replace k0:=hgr.cell k0 (by simp)
    replace k1:=hgr.cell k1 (by simp)
    replace k2:=hgr.cell k2 (by simp)
    replace k3:=hgr.cell k3 (by simp)
    have hbl:=xg k0;have hkl:=HX.out.kl;have hrl:=HX.out.rl;clear hgr hm;generalize L[j]=x at *;obtain⟨⟨key,zms,node,row⟩,kp,kc,rp,rc⟩:=x;simp only at k0 k1 k2 k3 hkl hrl HK;have HS:Hid (∀s:ShM,s=⟨key,zms,node,row⟩→True):=zd fun _ _=>trivial
    have h0:(0:Int)≤(j:Int):=by omega
    have hjn2:(j:Int)<(n:Int):=by omega
    have hj20:j≤19:=by omega
    have HMAY:Hid (∀w,Calls Tryz.prog 65 #[.agg #[.slice kp key.length kc,.int .i64 zms,.int .i64 node,.slice rp row.length rc]] w fun e w'=>e = .returned (.bool (Ye key.length zms node row.length))∧w.grownBy w' none):=zd fun w=>Qg w kp key.length kc zms node rp row.length rc
    have HPL:Hid (∀w,W.grownBy w none→Calls Tryz.prog 67 #[.agg #[.slice kp key.length kc,.int .i64 zms,.int .i64 node,.slice rp row.length rc]] w fun e w'=>e = .returned (shA ⟨key,zms,node,row⟩)∧w.grownBy w' none):=zd fun w hg=>Jw (s:=⟨key,zms,node,row⟩) (HX.out.k.raw.grown hg (by simp)) (HX.out.r.raw.grown hg (by simp))
    --F0
    by_cases hr4:400<row.length
    ·have h2:(400:Int)<(row.length:Int):=by omega
     generalize row.length=ma at *;generalize key.length=la at *
     go_wp2_with (go_at_call 60;refine(HWK.out _).mono ?_;rintro e w5 ⟨rfl,h5⟩;have H5:=zd h5;clear h5)
     go_ret
     exact⟨rfl,zp HM.out.vr.gr H5.out⟩
    ·by_cases hk4:400<key.length
     ·have h2:¬(400:Int)<(row.length:Int):=by omega
      have h3:(400:Int)<(key.length:Int):=by omega
      generalize row.length=ma at *;generalize key.length=la at *
      go_wp2_with (go_at_call 60;refine(HWK.out _).mono ?_;rintro e w5 ⟨rfl,h5⟩;have H5:=zd h5;clear h5)
      go_ret
      exact⟨rfl,zp HM.out.vr.gr H5.out⟩
     ·have h2:¬(400:Int)<(row.length:Int):=by omega
      have h3:¬(400:Int)<(key.length:Int):=by omega
      cases hms:Ye key.length zms node row.length with
      | false=>
       have HPU:=zd (HM.out.put_no HX.out hms (by simp only;omega))
       rw[hms] at HMAY;simp only at HPU;clear hms HX;generalize row.length=ma at *;generalize key.length=la at *
       go_upto_region 14 with (go_at_call 64;refine HPU.out.mono ?_;rintro e w5 ⟨rfl,hm5⟩;have HM5:=zd hm5;clear hm5)
       obtain⟨k0',k1',k2',k3'⟩:=HK.out;replace k0:=HM5.out.vr.gr.cell k0' (by simp)
       replace k1:=HM5.out.vr.gr.cell k1' (by simp)
       replace k2:=HM5.out.vr.gr.cell k2' (by simp)
       replace k3:=HM5.out.vr.gr.cell k3' (by simp)
       have hbl5:=xg k0;clear k0' k1' k2' k3'
       go_upto_region 18 with (go_at_call 65;refine(HMAY.out w5).mono ?_;rintro e w6 ⟨rfl,hg⟩;have HM6:=zd (HM5.out.grown hg);clear hg)
       have HSM:=zd (HM6.out.same (by omega) rfl)
       go_wp2_with (go_at_call 68;refine HSM.out.mono ?_;rintro e w7 ⟨rfl,hg⟩;have HM7:=zd (HM6.out.grown hg);clear hg)
       exact⟨⟨j+1,own,V,al,l,by omega,by simp,HM7.out⟩,by simp[intOf];omega⟩
      | true=>
       have hmm:zb4 ⟨key,zms,node,row⟩:=(Zg ⟨key,zms,node,row⟩ HX.out.v.2).1 hms;have hk2':=hmm.k2;have HPU:=zd (HM.out.put (by omega) HX.out hmm (by simp only;omega))
       have HWO:Hid (∀w,Xx w (.slice pa l.length ca) l→Calls Tryz.prog 66 #[.slice pa l.length ca,shA ⟨key,zms,node,row⟩] w fun e w'=>∃v,e = .returned v∧WoI w l ⟨key,zms,node,row⟩ v w'):=zd fun w h=>Uh h (by have:=HM.out.few;omega) _
       have HBS:Hid (∀y∈woI l ⟨key,zms,node,row⟩ ++ [⟨key,zms,node,row⟩],BS y∧y.key.length≤64∧y.row.length≤400):=zd fun y hy=>by
        rcases List.mem_append.1 hy with e|e
        ·exact HM.out.bs y (Qj.1 e).1
        ·rw[List.mem_singleton.1 e]
         exact⟨HX.out.bl,by simpa using hk2',by simp only;omega⟩
       have HFW:Hid ((woI l ⟨key,zms,node,row⟩ ++ [(⟨key,zms,node,row⟩:ShM)]).length≤j+1):=zd (by
        rw[List.length_append];have h5:=Qi l ⟨key,zms,node,row⟩;have h6:=HM.out.few;simp only[List.length_singleton];omega)
       have HKP:Hid (∀w',zq (fun q=>¬own q) wr w'→Xx w' (.slice pa l.length ca) l):=zd fun w' ht=>HM.out.keep ht
       have HLN:Hid (l.length≤20):=zd (by have:=HM.out.few;omega)
       rw[hms] at HMAY;simp only at HPU;clear hms HX hmm hk2';obtain⟨sx,hsx⟩:∃sx:ShM,sx=⟨key,zms,node,row⟩:=⟨_,rfl⟩;rw[←hsx] at HPU HWO HBS HFW HPL;clear hsx;have h5:(key.length:Int)≤9223372036854775807:=by omega
       generalize row.length=ma at *;generalize key.length=la at *
       go_upto_region 14 with (go_at_call 64;refine HPU.out.mono ?_;rintro e w5 ⟨rfl,V5,al5,hv5,hj5,hl5,hx5,hn5,ht5⟩;have HV5:=zd hv5;have HJ5:=zd (show _∧_∧_∧_ from ⟨hj5,hl5,hx5,hn5⟩);have HR5:=zd (HKP.out _ ht5);clear hv5 hj5 hl5 hx5 hn5 ht5)
       obtain⟨k0',k1',k2',k3'⟩:=HK.out;replace k0:=HV5.out.gr.cell k0' (by simp)
       replace k1:=HV5.out.gr.cell k1' (by simp)
       replace k2:=HV5.out.gr.cell k2' (by simp)
       replace k3:=HV5.out.gr.cell k3' (by simp)
       have hbl5:=xg k0
       go_upto_region 17 with (go_at_call 65;refine(HMAY.out w5).mono ?_;rintro e w6 ⟨rfl,hg⟩;have HV6:=zd (HV5.out.grown hg);have HR6:=zd (uw.grown HR5.out hg (by simp));clear hg)
       replace k0:=HV6.out.gr.cell k0' (by simp)
       replace k1:=HV6.out.gr.cell k1' (by simp)
       replace k2:=HV6.out.gr.cell k2' (by simp)
       replace k3:=HV6.out.gr.cell k3' (by simp)
       have hbl6:=xg k0;clear k0' k1' k2' k3' HV5 HR5 HPU HMAY;obtain⟨i0,ze,by0,hi,hz,hs,hb,hzs,hb2⟩:=zie;have HR0:=zd (uw.grown HR6.out (zm (zl w6)) (by simp))
       have HV0:=zd (HV6.out.grown (zm (zl w6)));refine wp_region_held_drew (S:=fun w'=>w'.cell? ⟨b,off+j*4,none⟩=some (.slice kp la kc)∧w'.cell? ⟨b,off+j*4+1,none⟩=some (.int .i64 zms)∧w'.cell? ⟨b,off+j*4+2,none⟩=some (.int .i64 node)∧w'.cell? ⟨b,off+j*4+3,none⟩=some (.slice rp ma rc)) (by kernel_rfl) ⟨k0,k1,k2,k3⟩ (fun hHeld=>?_)
       clear k0 k1 k2 k3 HR6 HV6;generalize w6.drew=y0 at *;refine tk (i:=0) (oi:=⟨some 89,Op.move (Operand.tmp 8),_,_,_,none⟩) (v:=?_) rfl hHeld ?_ ?_;rotate_left
       ·rintro w -;go_simp;try with_reducible rfl
       (try simp only[Act.put,za,zb,zc])
       refine tk (i:=1) (oi:=⟨some 90,Op.move (Operand.tmp 0),_,_,_,none⟩) (v:=?_) rfl hHeld ?_ ?_;rotate_left
       ·rintro w -;go_simp;try with_reducible rfl
       (try simp only[Act.put,za,zb,zc])
       refine tk (i:=2) (oi:=⟨some 91,Op.move (Operand.tmp 9),_,_,_,none⟩) (v:=?_) rfl hHeld ?_ ?_;rotate_left
       ·rintro w -;go_simp;try with_reducible rfl
       (try simp only[Act.put,za,zb,zc])
       refine tk (i:=3) (oi:=⟨some 92,Op.indexAddr 91 (Operand.tmp 90) (Operand.tmp 91),_,_,_,none⟩) (v:=?_) rfl hHeld ?_ ?_;rotate_left
       ·rintro w -;go_simp;try with_reducible rfl
       (try simp only[Act.put,za,zb,zc])
       refine tk (i:=4) (oi:=⟨some 93,Op.load 97 (Operand.tmp 92),_,_,_,none⟩) (v:=?_) rfl hHeld ?_ ?_;rotate_left
       ·rintro w ⟨s1,s2,s3,s4⟩;go_simp;try with_reducible rfl
       (try simp only[Act.put,za,zb,zc])
       refine tk (i:=7) (oi:=⟨some 96,Op.move (Operand.tmp 0),_,_,_,none⟩) (v:=?_) rfl hHeld ?_ ?_;rotate_left
       ·rintro w -;go_simp;try with_reducible rfl
       (try simp only[Act.put,za,zb,zc])
       refine tk (i:=8) (oi:=⟨some 97,Op.move (Operand.tmp 9),_,_,_,none⟩) (v:=?_) rfl hHeld ?_ ?_;rotate_left
       ·rintro w -;go_simp;try with_reducible rfl
       (try simp only[Act.put,za,zb,zc])
       refine tk (i:=9) (oi:=⟨some 98,Op.indexAddr 91 (Operand.tmp 96) (Operand.tmp 97),_,_,_,none⟩) (v:=?_) rfl hHeld ?_ ?_;rotate_left
       ·rintro w -;go_simp;try with_reducible rfl
       (try simp only[Act.put,za,zb,zc])
       refine tk (i:=10) (oi:=⟨some 99,Op.load 97 (Operand.tmp 98),_,_,_,none⟩) (v:=?_) rfl hHeld ?_ ?_;rotate_left
       ·rintro w ⟨s1,s2,s3,s4⟩;go_simp;try with_reducible rfl
       (try simp only[Act.put,za,zb,zc])
       refine wpAnyH_ready (rs:=[5]) (by kernel_rfl) (by simp) ?_
       refine AllReadyH.cons (o:=⟨some 94,Op.call { callee:=Callee.value (Operand.func 67),args:=#[Operand.tmp 93],argTypes:=#[97] },_,_,_,none⟩) rfl (fun K hK=>?_) AllReadyH.nil
       go_simp
       go_at_call 67
       refine(HPL.out y0 HV0.out.gr).mono ?_;rintro e y1 ⟨rfl,hg⟩;have HR1:=zd (uw.grown HR0.out hg (by simp))
       have HV1:=zd (HV0.out.grown hg);have HG1:=zd hg;have HCL:Hid (y1.cell? ⟨b,off+j*4,none⟩=some (.slice kp la kc)∧y1.cell? ⟨b,off+j*4+1,none⟩=some (.int .i64 zms)∧y1.cell? ⟨b,off+j*4+2,none⟩=some (.int .i64 node)∧y1.cell? ⟨b,off+j*4+3,none⟩=some (.slice rp ma rc)):=zd ⟨hg.cell hHeld.1 (by simp),hg.cell hHeld.2.1 (by simp),hg.cell hHeld.2.2.1 (by simp),hg.cell hHeld.2.2.2 (by simp)⟩
       refine hK.out _ _ ⟨hg.cell hHeld.1 (by simp),hg.cell hHeld.2.1 (by simp),hg.cell hHeld.2.2.1 (by simp),hg.cell hHeld.2.2.2 (by simp)⟩ (fun hHeld=>?_)
       clear hK K
       (try simp only[Act.put,za,zb,zc])
       clear hg;refine wpAnyH_ready (rs:=[6]) (by kernel_rfl) (by simp) ?_
       refine AllReadyH.cons (o:=⟨some 95,Op.call { callee:=Callee.value (Operand.func 66),args:=#[Operand.tmp 89,Operand.tmp 94],argTypes:=#[95,102] },_,_,_,none⟩) rfl (fun K hK=>?_) AllReadyH.nil
       go_simp
       go_at_call 66
       refine(HWO.out y1 HR1.out).mono ?_;rintro e y2 ⟨v2,rfl,hw2⟩;have hg:y1.grownBy y2 none:=by obtain⟨_,_,_,_,h5,_⟩:=hw2;exact h5
       have HW2:=zd hw2;obtain⟨p2,c2,rfl,-,-,-⟩:=hw2;have HV2:=zd (HV1.out.grown hg);refine hK.out _ _ ⟨hg.cell hHeld.1 (by simp),hg.cell hHeld.2.1 (by simp),hg.cell hHeld.2.2.1 (by simp),hg.cell hHeld.2.2.2 (by simp)⟩ (fun hHeld=>?_)
       clear hK K
       (try simp only[Act.put,za,zb,zc])
       clear hg;refine wpAnyH_ready (rs:=[11]) (by kernel_rfl) (by simp) ?_
       refine AllReadyH.cons (o:=⟨some 100,Op.call { callee:=Callee.value (Operand.func 67),args:=#[Operand.tmp 99],argTypes:=#[97] },_,_,_,none⟩) rfl (fun K hK=>?_) AllReadyH.nil
       go_simp
       go_at_call 67
       refine(HPL.out y2 HV2.out.gr).mono ?_;rintro e y3 ⟨rfl,hg⟩;have HW3:=zd (HW2.out.grown hg);have HV3:=zd (HV2.out.grown hg);unfold shA;refine hK.out _ _ ⟨hg.cell hHeld.1 (by simp),hg.cell hHeld.2.1 (by simp),hg.cell hHeld.2.2.1 (by simp),hg.cell hHeld.2.2.2 (by simp)⟩ (fun hHeld=>?_)
       clear hK K
       (try simp only[Act.put,za,zb,zc])
       clear hg;refine wpAnyH_ready (rs:=[12]) (by kernel_rfl) (by simp) ?_
       refine AllReadyH.cons (o:=⟨some 101,Op.buildSlice 95 1 #[(0,Operand.tmp 100)],_,_,_,none⟩) rfl (fun K hK=>?_) AllReadyH.nil
       go_simp
       have hg:y3.grownBy (y3.alloc (.cells #[.string (ofB sx.key),.int .i64 sx.zms,.int .i64 sx.node,.string (ofB sx.row)] 102)) none:=zg _ _ _;have HY:=zd (zly y3 sx);have HW4:=zd (HW3.out.grown hg);have HV4:=zd (HV3.out.grown hg);refine hK.out _ _ ⟨hg.cell hHeld.1 (by simp),hg.cell hHeld.2.1 (by simp),hg.cell hHeld.2.2.1 (by simp),hg.cell hHeld.2.2.2 (by simp)⟩ (fun hHeld=>?_)
       clear hK K
       (try simp only[Act.put,za,zb,zc])
       clear hg;generalize y3.alloc (.cells #[.string (ofB sx.key),.int .i64 sx.zms,.int .i64 sx.node,.string (ofB sx.row)] 102)=y4 at *;refine wpAnyH_ready (rs:=[13]) (by kernel_rfl) (by simp) ?_
       refine AllReadyH.cons (o:=⟨some 102,Op.call { callee:=Callee.builtin Builtin.append,args:=#[Operand.tmp 95,Operand.tmp 101],argTypes:=#[95,95] },_,_,_,none⟩) rfl (fun K hK=>?_) AllReadyH.nil
       refine zdc (E:=102) (sz:=4) (enc:=shC) (v:=.slice p2 (woI l sx).length c2) (l:=woI l sx) (m:=[sx]) rfl _ _ 95 rfl zd3 zim i0 ze by0 Tryz.underlying95 hi hz hs hb hzs (by decide) hb2 rfl (by obtain⟨_,_,_,h5,_⟩:=HW4.out;exact h5) rfl HY.out (by have h5:=Qi l sx;have h6:=HLN.out;simp only[List.length_singleton];omega) ((woI l sx).length+1) (by simp only[List.length_singleton]) ?_
       intro p' cap' y5 hap;have hwo5:AppW y1 l sx (.slice p' ((woI l sx).length+1) cap') y5:=HW4.out.app5 hap;have hg:y1.grownBy y5 none:=hwo5.gr;have HA5:=zd hwo5;refine hK.out _ _ ⟨?_,?_,?_,?_⟩ (fun hHeld=>?_)
       ·exact hg.cell (HCL.out.1) (by simp)
       ·exact hg.cell (HCL.out.2.1) (by simp)
       ·exact hg.cell (HCL.out.2.2.1) (by simp)
       ·exact hg.cell (HCL.out.2.2.2) (by simp)
       clear hK K
       (try simp only[Act.put,za,zb,zc])
       clear hg hwo5 hap;refine tk (i:=14) (oi:=⟨some 8,Op.assign (Operand.tmp 102),_,_,_,none⟩) (v:=?_) rfl hHeld ?_ ?_;rotate_left
       ·rintro w -;go_simp;try with_reducible rfl
       (try simp only[Act.put,za,zb,zc])
       refine wpAnyH_done (by kernel_rfl) ?_ _
       have HM7:=zd (qo.next_ HBS.out HV1.out HJ5.out.1 HJ5.out.2.1 HJ5.out.2.2.1 HJ5.out.2.2.2 HFW.out HA5.out.gr HA5.out.row HA5.out.own);have hln:(woI l sx ++ [sx]).length=(woI l sx).length+1:=by simp
       clear hHeld HV0 HV1 HV2 HV3 HV4 HW2 HW3 HW4 HR0 HR1 HA5 HCL HY
       go_upto_region 18 with fail
       have HSM:=zd (HM7.out.same (p:=p') (c:=cap') (by omega) (by rw[hln]))
       rw[hln] at HSM
       go_wp2_with (go_at_call 68;refine HSM.out.mono ?_;rintro e w8 ⟨rfl,hg⟩;have HM8:=zd (HM7.out.grown hg);clear hg)
       exact⟨⟨j+1,_,V5,al5,_,by omega,by simp,HM8.out⟩,by simp[intOf];omega⟩
    --F1
   ·have hjn2:¬(j:Int)<(n:Int):=by omega
    have HMN:Hid (qo W own vb db V al l (.slice pa l.length ca) 20 wr):=zd ⟨hm.vr,hm.vj,hm.life,hm.xl,hm.row,hm.rowo,hm.bs,by have:=hm.few;omega,by have:=hm.next;omega⟩
    clear hm HM;generalize wr=wz at *;go_wp2
    go_loopw [8,11] (fun a i wr=>∃(j:Nat) (own:Nat→Prop) (V:Vlt) (al:List (Int × List Int)) (l:List ShM),j≤dn∧j≤30∧i = .int .i64 j∧qo W own vb db V al l a (20+j) wr) (fun _ i _=>dn-(intOf i).toNat)
    case atStart=>exact⟨0,own,V,al,l,Nat.zero_le _,Nat.zero_le _,rfl,HMN.out⟩
    case round=>
     clear HMN;obtain⟨i,own2,V2,al2,l2,hi1,hi2,rfl,hm⟩:=hrel;have HM:=zd hm;obtain⟨pb,cb,rfl⟩:=hm.lenA;obtain⟨m,hm1⟩:∃m,m=l2.length:=⟨_,rfl⟩;have HML:=zd hm1;rw[←hm1] at HM ⊢;have hm50:m≤50:=by have:=hm.few;omega
     clear hm hm1
     go_upto_region 21 with fail
     go_cut [120] (fun c wx=>∃r:Bool,c = .bool r∧(r=true→i<dn∧0<m∧i<30)∧wx=wr)
     case first=>
      by_cases q1:(i:Int)<(dn:Int)
      ·by_cases q2:0<m
       ·have q2':(0:Int)<(m:Int):=by omega
        by_cases q3:(i:Int)<30
        ·go_wp2_with fail
         go_meet
         case rel=>exact⟨true,rfl,fun _=>by omega,rfl⟩
        ·go_wp2_with fail
         go_meet
         case rel=>exact⟨false,rfl,fun e=>(by cases e),rfl⟩
       ·have q2':¬(0:Int)<(m:Int):=by omega
        go_wp2_with fail
        go_meet
        case rel=>exact⟨false,rfl,fun e=>(by cases e),rfl⟩
      ·go_wp2_with fail
       go_meet
       case rel=>exact⟨false,rfl,fun e=>(by cases e),rfl⟩
     case rest=>
      obtain⟨r,rfl,hr,hw⟩:=hcut;obtain rfl:wr=wc:=hw.symm
      cases r with
      | true=>
       obtain⟨q1,q2,q3⟩:=hr rfl;clear hr;have hiD:i<D.length:=by rw[←HDN.out];exact q1
       obtain⟨da,rfl,d0⟩:∃a,dp=some a∧W.cell? (a.add i)=some (.int .u8 D[i]):=by
        rcases HDC.out with e|⟨a,rfl,hc⟩
        ·rw[e] at hiD;simp at hiD
        ·exact⟨a,rfl,hc i _ (by simp[zi,hiD])⟩
       replace d0:=HM.out.vr.gr.cell d0 (by simp)
       have hdl:=xg d0;have hdb:=HDB.out D[i] (List.getElem_mem hiD);obtain⟨d,hd⟩:=Int.eq_ofNat_of_zero_le hdb.1;rw[hd] at d0 hdb;clear hd;have hd255:d≤255:=by omega
       clear hdb;have hrem:=zap d m;have HREM:=zd hrem;clear hrem;have hrm:d%m<m:=Nat.mod_lt _ q2;generalize d%m=r at *;have hrl:r<l2.length:=by rw[←HML.out];exact hrm
       obtain⟨g,rfl,k0,k1,k2,k3⟩:=Xx.cells (w:=wr) (p:=pb) (c:=cb) (n:=m) HM.out.row hrl;have hgl:=xg k0;have HSM:=zd (List.getElem_mem hrl);have hmz:(m:Int)≠0:=by omega
       have e0:(0:Int)≤(i:Int):=by omega
       have e1:(i:Int)<(dn:Int):=by omega
       have e2:(0:Int)≤(r:Int):=by omega
       have e3:(r:Int)<(m:Int):=by omega
       have hi30:i≤29:=by omega
       clear q1 q3 hiD;generalize l2[r]=s at *
       go_upto_region 24 with (refine Yi _ rfl _ _ _ _ rfl (d:Int) (m:Nat) (r:Int) rfl rfl hmz HREM.out ?_)
       have HG5:=zd (zg wr (.cells #[.string (ofB s.key),.int .i64 s.zms,.int .i64 s.node,.string (ofB s.row)] 102) none);have hbx:=heap_alloc_new wr (.cells #[.string (ofB s.key),.int .i64 s.zms,.int .i64 s.node,.string (ofB s.row)] 102);have HM5:=zd (HM.out.more HG5.out);have HBO:Hid (own2 wr.heap.size∨(wr.heap.size≤wr.heap.size∧wr.heap.size<(wr.alloc (.cells #[.string (ofB s.key),.int .i64 s.zms,.int .i64 s.node,.string (ofB s.row)] 102)).heap.size)):=zd (Or.inr ⟨Nat.le_refl _,(Array.getElem?_eq_some_iff.1 hbx).1⟩);have HBX:=zd hbx;obtain⟨a0,a1,a2,a3,-⟩:=xa hbx;clear k0 k1 k2 k3 d0 hdl hgl hbx HG5;generalize wr.alloc (.cells #[.string (ofB s.key),.int .i64 s.zms,.int .i64 s.node,.string (ofB s.row)] 102)=w5 at *;obtain⟨own3,ho3⟩:∃o:Nat→Prop,o=fun q=>own2 q∨(wr.heap.size≤q∧q<w5.heap.size):=⟨_,rfl⟩
       rw[←ho3] at HM5;have HBO3:Hid (own3 wr.heap.size):=zd (by rw[ho3];exact HBO.out)
       clear ho3 HBO;generalize wr.heap.size=b5 at *;have HDR:=zd (HM5.out.drop HSM.out);have HBT:Hid (∀w w',w.heap[b5]? = some (.cells #[.string (ofB s.key),.int .i64 s.zms,.int .i64 s.node,.string (ofB s.row)] 102 (0,0))→zq (fun q=>¬own3 q) w w'→w'.heap[b5]? = some (.cells #[.string (ofB s.key),.int .i64 s.zms,.int .i64 s.node,.string (ofB s.row)] 102 (0,0))):=zd fun w w' hb ht=>(ht.block b5 (Array.getElem?_eq_some_iff.1 hb).1 (fun e=>e HBO3.out)).trans hb
       go_upto_region 26 with (first
        | (go_at_call 69;refine(zhx HV6.out HJ6.out.1 HJ6.out.2.2.2.1).mono ?_;rintro e w7 ⟨rfl,hv7,ht7⟩;have HV7:=zd hv7;have HT7:=zd (HT6.out.trans ht7);have HB7:=zd (HBT.out _ _ HB6.out ht7);obtain⟨a0,a1,a2,a3,-⟩:=xa HB7.out;clear hv7 ht7)
        | (go_at_call 69;refine HDR.out.mono ?_;rintro e w6 ⟨rfl,V6,al6,hv6,hj6,hl6,hx6,hz6,hn6,ht6⟩;have HV6:=zd hv6;have HJ6:=zd (show _∧_∧_∧_∧_ from ⟨hj6,hl6,hx6,hz6,hn6⟩);have HT6:=zd ht6;have HB6:=zd (HBT.out _ _ HBX.out ht6);clear hv6 hj6 hl6 hx6 hz6 hn6 ht6;clear a0 a1 a2 a3;obtain⟨a0,a1,a2,a3,-⟩:=xa HB6.out))
       have HR7:Hid (Xx w7 (.slice (some ⟨g,0,none⟩) m cb) l2):=zd (HM5.out.keep HT7.out);have HWO:Hid (Calls Tryz.prog 66 #[.slice (some ⟨g,0,none⟩) m cb,.agg #[.string (ofB s.key),.int .i64 s.zms,.int .i64 s.node,.string (ofB s.row)]] w7 fun e w'=>∃v,e = .returned v∧WoI w7 l2 s v w'):=zd (by
        have h5:=HR7.out;rw[HML.out] at h5 ⊢
        exact Uh h5 (by rw[←HML.out];omega) s)
       go_upto_region 27 with (go_at_call 66;refine HWO.out.mono ?_;rintro e w8 ⟨v8,rfl,hw8⟩;obtain⟨p8,c8,rfl,g1,g2,g3⟩:=hw8;have HM8:Hid (qo W (fun q=>own3 q∨(w7.heap.size≤q∧q<w8.heap.size)) vb db V6 al6 (woI l2 s) (.slice p8 (woI l2 s).length c8) (20+(i+1)) w8):=zd (qo.next_ (fun y hy=>HM.out.bs y (Qj.1 hy).1) HV7.out HJ6.out.1 HJ6.out.2.1 HJ6.out.2.2.1 (by have h9:=HJ6.out.2.2.2.2;omega) (by have h8:=Qi l2 s;have h9:=HM.out.few;omega) g2 g1 g3);clear g1 g2 g3)
       have HS8:=zd (HM8.out.same (by omega) rfl)
       go_wp2_with (go_at_call 68;refine HS8.out.mono ?_;rintro e w9 ⟨rfl,hg⟩;have HM9:=zd (HM8.out.grown hg);clear hg)
       exact⟨⟨i+1,_,V6,al6,_,by omega,by omega,by simp,HM9.out⟩,by simp[intOf];omega⟩
      | false=>
       clear hr;generalize wr=wy at *;go_wp2
       go_loopw [13,14] (fun x i wr=>∃j:Nat,j≤m∧i = .int .i64 j∧x = .int .i64 (599-(((l2.take j).map fun x=>zo (19+x.key.length+x.row.length)).sum:Int))∧wy.grownBy wr none) (fun _ i _=>m-(intOf i).toNat)
       case atStart=>exact⟨0,Nat.zero_le _,rfl,by simp,zl _⟩
       case round=>
        obtain⟨j2,hj2,rfl,rfl,hg⟩:=hrel;have HG:=zd hg
        by_cases hjm:j2<m
        ·have hjl:j2<l2.length:=by rw[←HML.out];exact hjm
         obtain⟨g,rfl,k0,k1,k2,k3⟩:=Xx.cells (w:=wy) (p:=pb) (c:=cb) (n:=m) HM.out.row hjl;replace k0:=hg.cell k0 (by simp)
         replace k3:=hg.cell k3 (by simp)
         have hgl:=xg k0;have hbs:=HM.out.bs _ (List.getElem_mem hjl);have HT:Hid (((l2.take (j2+1)).map fun x=>zo (19+x.key.length+x.row.length)).sum=((l2.take j2).map fun x=>zo (19+x.key.length+x.row.length)).sum+zo (19+l2[j2].key.length+l2[j2].row.length)):=zd (by
          rw[List.take_succ_eq_append_getElem hjl,List.map_append,List.sum_append];simp)
         have hsum:((l2.take j2).map fun x=>zo (19+x.key.length+x.row.length)).sum≤3*50:=by
          have h5:=zd5 (l2.take j2) fun y hy=>HM.out.bs y (List.mem_of_mem_take hy)
          rw[List.length_take] at h5;omega
         generalize l2[j2]=x at *;have hk64:(ofB x.key).size=x.key.length:=zbj _;have hr64:(ofB x.row).size=x.row.length:=zbj _;have hb1:=hbs.2.1;have hb2:=hbs.2.2;have hp3:=Jh (n:=19+x.key.length+x.row.length) (by omega)
         have HPT:Hid (∀z:Int,z=((19+x.key.length+x.row.length:Nat):Int)→∀y:Ext,Calls Tryz.prog 16 #[.int .i64 z] (ext wr y) fun e w'=>e = .returned (.int .i64 (zo (19+x.key.length+x.row.length):Int))∧(ext wr y).grownBy w' none):=zd fun z hz y=>by
          rw[hz];refine(zfo _ (by omega) _).mono ?_
          rintro e w' ⟨rfl,rfl⟩
          exact⟨rfl,zl _⟩
         clear hbs k1 k2 hg;generalize ofB x.key=xk at *;generalize ofB x.row=xr at *;generalize hpn:zo (19+x.key.length+x.row.length)=pn at *;generalize ((l2.take j2).map fun x=>zo (19+x.key.length+x.row.length)).sum=sm at *
         generalize x.key.length=kl at *;generalize x.row.length=rl at *;have e0:(0:Int)≤(j2:Int):=by omega
         have e1:(j2:Int)<(m:Int):=by omega
         go_upto_region 33 with fail
         refine yb (by kernel_rfl) (by kernel_rfl) ?_
         repeat (any_goals (first|go_big_quiet_step ((go_at_call 16;exact yp (HPT.out _ (by omega) _)))|quiet_step ((go_at_call 16;exact yp (HPT.out _ (by omega) _)))))
         refine wpQuiet_nil ?_;intro _ hw';obtain⟨xx,hw''⟩:=hw';subst hw'';have HG9:=zd (vo wr xx);generalize ext wr xx=w9 at *;go_wp2
         exact⟨⟨j2+1,by omega,by simp,by rw[HT.out];simp;omega,zp HG.out HG9.out⟩,by simp[intOf];omega⟩
        ·have hjm2:¬(j2:Int)<(m:Int):=by omega
         have HFR:=zd (HM.out.grown hg).free;have HTL:Hid (l2.take j2=l2):=zd (List.take_of_length_le (by rw[←HML.out];omega))
         rw[HTL.out];clear hg;generalize (599-((l2.map fun x=>zo (19+x.key.length+x.row.length)).sum:Int))=fr at *
         go_wp2_with (first
          | (go_at_call 60;refine(HWK.out _).mono ?_;rintro e w9 ⟨rfl,hg⟩;have HG9:=zd hg;clear hg)
          | (go_at_call 63;refine HFR.out.mono ?_;rintro e w8 ⟨rfl,h5⟩;obtain rfl:wr=w8:=h5.symm))
         go_ret
         exact⟨rfl,zp HM.out.vr.gr (zp HG.out HG9.out)⟩
end
end Go.Proofs.YtbcbhlfjgobejaaGreat
namespace Go.Sf
open Go.ChangeShapes Go.WideShapes Go.ChangeAt Go.RowKit
variable {P : Program} {H : Type} {enc : TypeId × Value → H}
theorem post_of_grown {f:Func} {s:ChangeSpec} {apart fresh handsOn again:Bool} {W W':World} {args:Array Value} {v:Value} {ds gs:List (DataW H)} {before pa pv:List MemPlace}
  (hW:DataW.Whole enc P f.params.toList s.vars apart W args.toList ds gs before)
  (hres:∀(b:Nat) (sp:Nat→Bool) (hd:Bool),DataW.TrodAll enc P W' b sp hd f.resultTypes.toList (v.resultList f.resultTypes.size) (s.fn H (ds++gs)).results [])
  (hargs:∀sp:Nat→Bool,(∀p∈before,sp p.block=true)→DataW.TrodAll enc P W' 0 sp true f.params.toList args.toList (s.fn H (ds++gs)).args pa)
  (hvars:∀sp:Nat→Bool,(∀p∈before,sp p.block=true)→DataW.TrodVars enc P W' sp s.vars (s.fn H (ds++gs)).vars pv)
  (hps:before=pa++pv) (hg:W.grownBy W' none)
  (hok:∀(j:Nat) (t:TypeId) (r:Value),f.resultTypes[j]? = some t→(v.resultList f.resultTypes.size)[j]? = some r→Value.okWide P W' .any 0 t r) :
  s.post enc P f apart fresh handsOn again W args v W':=by
 have hold:∀p∈before,(fun b=>decide (b<W.heap.size)) p.block=true:=fun p hp=>by simpa using hW.lt p hp
 have hlt:∀p∈before,p.block<W.heap.size:=fun p hp=>hW.lt p hp
 refine⟨ds,gs,before,[],pa,pv,hW,hres _ _ _,hargs _ hold,hvars _ hold,⟨hg.os,hg.output,fun i hi=>by rw[hg.block i hi (by simp)];exact(World.keptBut_refl W (fun p=>p∈before∧(p∈[]∨p∈pa∨p∈pv))).2.2 i hi⟩,fun _=>?_⟩
 obtain⟨_,_,_,_,_,hz,hn⟩:=hW;refine⟨hok,_,_,([]++pa)++pv,⟨[]++pa,pv,trodAll_append (hargs _ (fun _ _=>rfl)) (hres _ _ _),hvars _ (fun _ _=>rfl),rfl,?_,?_⟩,?_⟩
 ·intro b off hp
  have hp':MemPlace.cell b off∈before:=by rw[hps];simpa using hp
  rw[World.frozen?_of_block (a:=⟨b,off,none⟩) (hg.block b (hlt _ hp') (by simp))]
  exact hz b off hp'
 ·intro ha
  have:=hn ha;rw[hps] at this;simpa using this
 ·intro p hp _
  rw[hps];simpa using hp
end Go.Sf
