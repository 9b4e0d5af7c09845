/- starfishref19's Remove: the walk. Conditions: none, or as the theorems say. -/
import Derived.Test.YtbcbhlfjgobejaaGreatS1
import Derived.Test.YtbcbhlfjgobejaaGreatS40
set_option linter.unusedSimpArgs false
set_option linter.unusedVariables false
namespace Go.Proofs.YtbcbhlfjgobejaaGreat
set_option maxHeartbeats 200000000
open Go.RowKit Go.Sf Go.Shelf
section
variable {rsd rss : Nat → Prop} {W : World} {sb db : Nat} {R : RDk} {L : List (Int × ye)} {next broken : Int} {b : List Int}
set_option maxRecDepth 100000 in
theorem zi5 (h:qg rsd rss W sb db R L next broken) (k:Int) (hb:broken≠0):Calls Tryz.prog 120 #[.pointer (some ⟨sb,0,none⟩),.int .i64 k] W (zgj rsd rss W sb db ⟨R,L,next,broken⟩ k):=by
 have HQ:Hid (zgj rsd rss W sb db ⟨R,L,next,broken⟩ k (.returned (.int .i64 broken)) W):=(show zgj _ _ _ _ _ _ _ _ _ from by
  have er:(⟨R,L,next,broken⟩:Doc).rem k=(⟨R,L,next,broken⟩,broken):=by unfold Doc.rem;rw[if_pos hb]
  unfold zgj;rw[er]
  exact⟨rfl,qg.here ⟨R,L,next,broken⟩ h (zi _)⟩)
 obtain⟨c0,c2,c3,y,hsl⟩:=h.s.all;clear h;generalize zgj rsd rss W sb db ⟨R,L,next,broken⟩ k=PP at *
 go_enter Tryz.func120,Tryz.ntmps120
 go_wp2
 first|exact HQ.out|(go_ret2;exact HQ.out)
set_option maxRecDepth 100000 in
theorem znn (h:qg rsd rss W sb db R L next 0) (hk:DOk ⟨R,L,next,0⟩) (k:Int) (hf:yf R<1000000):Calls Tryz.prog 120 #[.pointer (some ⟨sb,0,none⟩),.int .i64 k] W (zgj rsd rss W sb db ⟨R,L,next,0⟩ k):=by
 obtain⟨i0,z0,by0,hi,hz0,hz1,hz2,hz3,hz4⟩:=zkd;have H:=zd h;have HLN:Hid (L.length≤100000):=(show _≤_ from hk.len)
 have HBN:Hid (∀y∈L,y.2.2≠[]):=(λy hy=>(hk.bn y hy).1)
 have HSRT:Hid (L.Pairwise λa b=>a.1<b.1):=(show List.Pairwise _ _ from hk.srt)
 have HF:=zd hf;obtain⟨lv,ms,hA⟩:=h.s;have HA:=zd hA;obtain⟨c0,c1,c2,c3,y⟩:=hA.cells;have HL:Hid (ms.length=L.length):=(show _=_ from hA.ok.len)
 have HROW:=zd hA.row;have HOK:=zd hA.ok;have hsl:=hA.lt sb hA.rsb;obtain⟨PP,hPP⟩:∃PP,PP=zgj rsd rss W sb db ⟨R,L,next,0⟩ k:=⟨_,rfl⟩;have HREM:Hid (∀(D':Doc) (e':Int) (w':World),(⟨R,L,next,0⟩:Doc).rem k=(D',e')→DocP rsd rss W sb db D' w'→PP (.returned (.int .i64 e')) w'):=(λD' e' w' h1 h2=>by
  rw[hPP];unfold zgj;rw[h1]
  exact⟨rfl,h2⟩)
 rw[←hPP];clear hPP;obtain⟨p,cap,hlv,hcm,hlc⟩:=hA.row.form;obtain⟨N,hN⟩:∃N,N=ms.length:=⟨_,rfl⟩;have HN:=zd hN;have hlm:N≤100000:=by rw[hN,HL.out];exact HLN.out
 have hNC:N≤cap:=by rw[hN];exact hlc
 rw[←hN] at hlv;clear h hN hA hk hlc hf;subst hlv
 go_enter Tryz.func120,Tryz.ntmps120
 go_upto_region 4 with fail
 go_loopw [5] (λi wr=>∃j:Nat,j≤N∧i = .int .i64 j∧wr=W∧NoneK L j k) (λi _=>N-(intOf i).toNat)
 case atStart=>exact⟨0,by omega,rfl,rfl,λy hy=>by simp at hy⟩
 case round=>
  obtain⟨j,hj,rfl,rfl,hall⟩:=hrel;have HALL:=zd hall;clear hall
  by_cases hjN:j<N
  ·have hjm:j<ms.length:=by rw[←HN.out];exact hjN
   have hjL:j<L.length:=by rw[←HL.out];exact hjm
   have hxo:=HOK.out.get j hjm hjL;obtain⟨g,hg,x0,x2⟩:∃g,p=some ⟨g,0,none⟩∧wr.cell? ⟨g,j*3,none⟩=some (.int .i64 ms[j].k)∧wr.cell? ⟨g,j*3+2,none⟩=some (.slice ms[j].p ms[j].n ms[j].c):=by
    rcases yl.at qe HROW.out with e0|⟨g,c,e,hc,_⟩
    ·rw[e0] at hjm;simp at hjm
    ·injection e with e1
     exact⟨g,e1,hc j hjm 0 _ rfl,hc j hjm 2 _ rfl⟩
   subst hg;have hgl:=xi x0
   by_cases hk:ms[j].k=k
   ·have hGET:zgt L k=some L[j]:=getR_at HALL.out hjL (by rw[←hxo.1];exact hk)
    have hCUT:jq L k=L.take j++L.drop (j+1):=by rw[←zpb HSRT.out hjL,←hxo.1,hk]
    obtain⟨b0,t0,hb0⟩:∃b0 t0,L[j].2.2=b0 :: t0:=by
     cases e:L[j].2.2 with
     | nil=>exact absurd e (HBN.out _ (List.getElem_mem hjL))
     | cons a t=>exact⟨a,t,rfl⟩
    have HE:Hid ((⟨R,L,next,0⟩:Doc).rem k=if R.writeV (b0:Nat) []≠0 then (⟨R.written (b0:Nat) [],L,next,R.writeV (b0:Nat) []⟩,R.writeV (b0:Nat) [])
     else if (R.written (b0:Nat) []).syncV≠0 then (⟨(R.written (b0:Nat) []).synced,L,next,(R.written (b0:Nat) []).syncV⟩,(R.written (b0:Nat) []).syncV)
     else (⟨(R.written (b0:Nat) []).synced,L.take j++L.drop (j+1),next,0⟩,0)):=(show _=_ from by
     unfold Doc.rem;rw[if_neg (λe=>e rfl)]
     simp only[hGET,hb0,hCUT,List.headD_cons])
    obtain⟨nx,hnx⟩:∃nx,nx=ms[j].n:=⟨_,rfl⟩;have hnx1:0<nx:=by rw[hnx,hxo.len,hb0];simp
    obtain⟨b,off,hpx,hbr,hbc,HBS⟩:∃b off,ms[j].p=some ⟨b,off,none⟩∧rss b∧wr.cell? ⟨b,off,none⟩=some (.int .i64 (b0:Int))∧b≠sb:=by
     obtain⟨p9,c9,e,h0⟩:=hxo.2.2
     injection e with e1
     rcases h0 with h0|⟨b,off,e2,h1,h2⟩
     ·rw[hb0] at h0;cases h0
     ·have h3:=h2 0 (by rw[hb0];simp)
      simp only[hb0,List.getElem_cons_zero,Nat.add_zero] at h3
      exact⟨b,off,e1.trans e2,h1.1,h3,h1.2.1⟩
    have hgr:rss g:=HA.out.rlv g rfl;rw[hpx,←hnx] at x2;generalize ms[j].c=cx at *;have HMJ:Hid (ug (λk=>rss k∧k≠sb∧(Value.slice (some ⟨g,0,none⟩) N cap).ownBlock≠some k) wr (ms.take j++ms.drop (j+1)) (L.take j++L.drop (j+1))):=(show ug _ _ _ _ from (HOK.out.take j).app (HOK.out.drop (j+1)))
    clear hxo hpx hnx hGET hCUT hb0;generalize ms[j].k=kx at *;subst hk;have HKP:Hid (∀w',zm rsd wr.drew w'→w'.cell? ⟨sb,0,none⟩=some (.pointer (some ⟨db,0,none⟩))∧w'.cell? ⟨sb,1,none⟩=some (.slice (some ⟨g,0,none⟩) N cap)∧w'.cell? ⟨g,j*3+2,none⟩=some (.slice (some ⟨b,off,none⟩) nx cx)∧w'.cell? ⟨b,off,none⟩=some (.int .i64 (b0:Int))):=(λw' ht=>by
     have hq:∀q i u,rss q→wr.cell? ⟨q,i,none⟩=some u→w'.cell? ⟨q,i,none⟩=some u:=λq i u h1 h2=>(World.cell?_of_block (a:=⟨q,i,none⟩) (ht.block q (HA.out.lt q h1) (λe=>H.out.ap q e h1))).trans h2
     exact⟨hq sb 0 _ HA.out.rsb c0,hq sb 1 _ HA.out.rsb c1,hq g _ _ hgr x2,hq b _ _ hbr hbc⟩)
    have hw0:=HKP.out wr.drew (zm.refl _ _);have HS2:Hid (∀w',zm rsd wr.drew w'→jb rss w' sb db (.slice (some ⟨g,0,none⟩) N cap) ms L next 0):=(λw' ht=>HA.out.keep (λq hq=>ht.block q (HA.out.lt q hq) (λe=>H.out.ap q e hq)) ht.size)
    have HW:=zd (zhd (H.out.d.kept (zj (zi wr))) (b0:Int) ⟨#[]⟩ (by show(0:Nat)≤_;omega) HF.out)
    obtain⟨ev,hev⟩:∃ev,ev=R.writeV (b0:Int) []:=⟨_,rfl⟩;obtain⟨R1,hR1⟩:∃R1,R1=R.written (b0:Int) []:=⟨_,rfl⟩;have HW2:Hid (Calls Tryz.prog 44 #[.pointer (some ⟨db,0,none⟩),.int .i64 (b0:Int),.string ⟨#[]⟩] wr.drew λe w'=>e = .returned (.int .i64 ev)∧R18 (ua rsd wr.drew w') w' db R1∧zm rsd wr.drew w'):=(show Calls _ _ _ _ _ from by
     rw[hev,hR1]
     exact HW.out)
    rw[←hev,←hR1] at HE;have HLO:Hid (∀w' q,ua rsd wr.drew w' q→¬rss q):=(λw' q hq h2=>by
     rcases hq with e|e
     ·exact H.out.ap q e h2
     ·have:=HA.out.lt q h2;have h5:wr.drew.heap.size=wr.heap.size:=rfl;omega)
    have HUP:Hid (∀w' q,ua rsd wr.drew w' q→rsd q∨wr.heap.size≤q):=(λw' q hq=>hq.imp id λe=>e.1)
    have HRSB:=zd (show rss sb from HA.out.rsb)
    have hGS:g≠sb:=λe=>ji HA.out.row HA.out.box (by decide) (by rw[e];rfl)
    have hBS:b≠sb:=HBS;clear hev hR1 HW hbr hgr
    go_upto_region 7 with fail
    by_cases hez:ev=0
    ·subst hez
     obtain⟨sv,hsv⟩:∃sv,sv=R1.syncV:=⟨_,rfl⟩;have HE2:=zd (HE.out.trans (if_neg (λe=>e rfl)))
     have HSY:Hid (∀w' ws,R18 (ua rsd wr.drew w') ws db R1→Calls Tryz.prog 110 #[.pointer (some ⟨db,0,none⟩)] ws λe w2=>e = .returned (.int .i64 sv)∧R18 (ua rsd wr.drew w') w2 db R1.synced∧zm (ua rsd wr.drew w') ws w2):=(λw' ws h=>by
      rw[hsv]
      exact rsync h)
     rw[←hsv] at HE2;clear hsv HE
     by_cases hsz:sv=0
     ·subst hsz
      have HE3:=zd (HE2.out.trans (if_neg (λe=>e rfl)))
      clear HE2;refine qH (S:=λw':World=>w'.cell? ⟨sb,0,none⟩=some (.pointer (some ⟨db,0,none⟩))∧w'.cell? ⟨sb,1,none⟩=some (.slice (some ⟨g,0,none⟩) N cap)∧w'.cell? ⟨g,j*3+2,none⟩=some (.slice (some ⟨b,off,none⟩) nx cx)∧w'.cell? ⟨b,off,none⟩=some (.int .i64 (b0:Int))) hw0 (λhHeld=>?_)
      refine qT 0 ?_;refine qT 1 ?_;refine qT 2 ?_;refine qT 3 ?_;refine qT 4 ?_;refine qT 5 ?_;refine qT 6 ?_;refine qT 7 ?_;refine qT 8 ?_;refine qT 9 ?_;refine qT 10 ?_;refine qT 11 ?_;refine qT 12 ?_;refine qT 13 ?_;refine qT 14 ?_;refine qO 15 λK hK=>?_
      go_simp
      go_at_call 44
      refine HW2.out.mono ?_;rintro e w2 ⟨rfl,hd2,ht2⟩;have hk2:=HKP.out w2 ht2;have HT2:=zd ht2;have hss2:S19 rss w2 sb db L next 0:=⟨_,_,HS2.out w2 ht2⟩;have hc2:=hss2.all.2.2.1;refine hK.out _ _ hk2 (λhHeld=>?_)
      clear hK K;refine qO 16 λK hK=>?_
      go_simp
      go_at_call 180
      refine(Qe hss2).mono ?_;rintro e w3 ⟨rfl,h3⟩;obtain rfl:w2=w3:=h3.symm;refine hK.out _ _ hk2 (λhHeld=>?_)
      clear hK K;refine qT 17 ?_;refine qT 18 ?_;refine qT 19 ?_;refine qT 20 ?_;refine qT 21 ?_;refine qT 22 ?_;refine qT 23 ?_;refine qO 24 λK hK=>?_
      go_simp
      go_at_call 110
      refine(HSY.out w2 w2 hd2).mono ?_;rintro e w4 ⟨rfl,hd4,ht4⟩;have HT4:=zd (qo HT2.out ht4);have hk4:=HKP.out w4 HT4.out;have hss4:S19 rss w4 sb db L next 0:=⟨_,_,HS2.out w4 HT4.out⟩;have hc4:=hss4.all.2.2.1;refine hK.out _ _ hk4 (λhHeld=>?_)
      clear hK K;refine qO 25 λK hK=>?_
      go_simp
      go_at_call 180
      refine(Qe hss4).mono ?_;rintro e w5 ⟨rfl,h5⟩;obtain rfl:w4=w5:=h5.symm;refine hK.out _ _ hk4 (λhHeld=>?_)
      clear hK K;refine qT 26 ?_;refine qT 27 ?_;refine qD ?_;have HS4:=zd (HS2.out w4 HT4.out);have HD4:=zd hd4;have HROW4:=zd HS4.out.row;have HY4:=zd HS4.out.row.yrow;obtain⟨d0,d1,-,-,df⟩:=HS4.out.cells;have d5:=df 1;have H0:Hid (yl w4 198 3 rcE (.slice none 0 0) []):=(show yl _ _ _ _ _ _ from ⟨rfl,Or.inl ⟨rfl,rfl⟩⟩)
      have hsl4:=HS4.out.lt sb HRSB.out;clear c0 c1 c2 c3 y x0 x2 hbc hHeld hd4 HSY HW2 HKP;rw[HN.out] at HY4
      go_upto_region 11 with (at_builtin;refine xn (E:=198) (sz:=3) (enc:=rcE) (v:=.slice none 0 0) (l:=[]) (m:=ms.take j) _ rfl _ _ 191 rfl qe Zm i0 z0 by0 Tryz.underlying191 hi hz0 hz1 hz2 hz3 (by decide) hz4 rfl H0.out rfl (Zh.takeG HY4.out j (by rw[←HN.out];omega) (λ_=>rfl)) (by rw[List.length_take,←HN.out];simp;omega) j (by rw[List.length_take,←HN.out];simp;omega) ?_;intro p5 c5 w5 hap;have e0:=hap.2.1.cell d0 (by simp[Value.ownBlock]);have e1:=hap.2.1.cell d1 (by simp[Value.ownBlock]);have HAP:=zd hap;clear hap)
      have hg5:w4.grownBy w5 none:=HAP.out.2.1;have HY5:=zd (yl.yrow (HROW4.out.grown hg5 (by simp)))
      rw[HN.out] at HY5;have HG5:=zd hg5;have hr5:=HAP.out.1;rw[List.nil_append] at hr5;have HR5:=zd hr5;have HO5:Hid (∀b,(Value.slice p5 j c5).ownBlock=some b→w4.heap.size≤b):=(λb hb=>by
       rcases HAP.out.2.2 with e|e
       ·rw[e] at hb;simp[Value.ownBlock] at hb
       ·rw[e] at hb;injection hb with hb;omega)
      have HKL:Hid ((ms.take j).length=j):=(show _=_ from by rw[List.length_take,←HN.out];omega)
      have hsb5:sb<w5.heap.size:=Nat.lt_of_lt_of_le hsl4 hg5.size;have f5:w5.frozen? ⟨sb,1,none⟩=false:=by
       have h5:=(hg5.block sb hsl4 (by simp)).trans HS4.out.box
       simp[World.frozen?,h5]
      clear hg5 HAP hr5 H0 HY4 d0 d1
      go_wp2_with (at_builtin;refine xn (E:=198) (sz:=3) (enc:=rcE) (v:=.slice p5 j c5) (l:=ms.take j) (m:=ms.drop (j+1)) _ rfl _ _ 191 rfl qe Zm i0 z0 by0 Tryz.underlying191 hi hz0 hz1 hz2 hz3 (by decide) hz4 rfl HR5.out rfl (Zh.dropG qe HY5.out (j+1) (by rw[←HN.out];omega) (by rw[←HN.out]) (λhne=>by first|(have hcc:¬cap=j+1:=(by omega);simp[Addr.add,hcc])|(simp[Addr.add];omega))) (by rw[HKL.out,List.length_drop,←HN.out];omega) (j+(N-(j+1))) (by rw[HKL.out,List.length_drop,←HN.out]) ?_;intro p6 c6 w6 hap;have q1:=hap.2.1.cell e1 (λe=>by have:=HO5.out sb e.symm;omega);have q2:w6.frozen? ⟨sb,1,none⟩=false:=(by have h5:=(HG5.out.block sb hsl4 (by simp)).trans HS4.out.box;have h6:=(hap.2.1.block sb hsb5 (λe=>by have:=HO5.out sb e.symm;omega)).trans h5;simp[World.frozen?,h6]);have HAP:=zd hap;clear hap)
      have hG6:w4.grownBy w6 none:=xp HG5.out HAP.out.2.1 HO5.out;have HN6:Hid (∀q,(Value.slice p6 (j+(N-(j+1))) c6).ownBlock=some q→w4.heap.size≤q):=(λq hq=>by
       rcases HAP.out.2.2 with e|e
       ·exact HO5.out q (by rw[←e];exact hq)
       ·have hb2:=e.symm.trans hq
        injection hb2 with hb2
        have:=HG5.out.size;omega)
      have HC:=HS4.out.cut hG6 HAP.out.1 HN6.out (HMJ.out.turn λq hq=>HT4.out.block q (HA.out.lt q hq.1) (λe=>H.out.ap q e hq.1))
      have HQ:=HREM.out ⟨R1.synced,L.take j++L.drop (j+1),next,0⟩ 0 _ HE3.out ⟨ua rsd wr.drew w2,_,⟨HD4.out.turn (HC.2.mono λq hq e=>HLO.out _ q e hq),⟨_,_,HC.1⟩,λq hq h2=>by
       rcases h2 with e|e
       ·exact HLO.out _ q hq e
       ·have:=HD4.out.lt hq;omega⟩,HUP.out _,λq hq=>hq.imp id (λe=>by have:=HT4.out.size;have h5:wr.drew.heap.size=wr.heap.size:=rfl;omega),(vh (zj (zi _))).trans ((HT4.out.mono λq hq=>Or.inl hq).trans (HC.2.mono λq hq=>Or.inr hq))⟩
      first|exact HQ|(go_ret2;exact HQ)
     ·have HE3:=zd (HE2.out.trans (if_pos hsz))
      clear HE2;refine qH (S:=λw':World=>w'.cell? ⟨sb,0,none⟩=some (.pointer (some ⟨db,0,none⟩))∧w'.cell? ⟨sb,1,none⟩=some (.slice (some ⟨g,0,none⟩) N cap)∧w'.cell? ⟨g,j*3+2,none⟩=some (.slice (some ⟨b,off,none⟩) nx cx)∧w'.cell? ⟨b,off,none⟩=some (.int .i64 (b0:Int))) hw0 (λhHeld=>?_)
      refine qT 0 ?_;refine qT 1 ?_;refine qT 2 ?_;refine qT 3 ?_;refine qT 4 ?_;refine qT 5 ?_;refine qT 6 ?_;refine qT 7 ?_;refine qT 8 ?_;refine qT 9 ?_;refine qT 10 ?_;refine qT 11 ?_;refine qT 12 ?_;refine qT 13 ?_;refine qT 14 ?_;refine qO 15 λK hK=>?_
      go_simp
      go_at_call 44
      refine HW2.out.mono ?_;rintro e w2 ⟨rfl,hd2,ht2⟩;have hk2:=HKP.out w2 ht2;have HT2:=zd ht2;have hss2:S19 rss w2 sb db L next 0:=⟨_,_,HS2.out w2 ht2⟩;have hc2:=hss2.all.2.2.1;refine hK.out _ _ hk2 (λhHeld=>?_)
      clear hK K;refine qO 16 λK hK=>?_
      go_simp
      go_at_call 180
      refine(Qe hss2).mono ?_;rintro e w3 ⟨rfl,h3⟩;obtain rfl:w2=w3:=h3.symm;refine hK.out _ _ hk2 (λhHeld=>?_)
      clear hK K;refine qT 17 ?_;refine qT 18 ?_;refine qT 19 ?_;refine qT 20 ?_;refine qT 21 ?_;refine qT 22 ?_;refine qT 23 ?_;refine qO 24 λK hK=>?_
      go_simp
      go_at_call 110
      refine(HSY.out w2 w2 hd2).mono ?_;rintro e w4 ⟨rfl,hd4,ht4⟩;have HT4:=zd (qo HT2.out ht4);have hk4:=HKP.out w4 HT4.out;have hss4:S19 rss w4 sb db L next 0:=⟨_,_,HS2.out w4 HT4.out⟩;have hc4:=hss4.all.2.2.1;refine hK.out _ _ hk4 (λhHeld=>?_)
      clear hK K;refine qO 25 λK hK=>?_
      go_simp
      go_at_call 180
      refine(zi0 hss4 hsz).mono ?_;rintro e w5 ⟨rfl,rfl⟩;refine hK.out _ _ ⟨Ql hk4.1 (by decide),Ql hk4.2.1 (by decide),Qk hk4.2.2.1 hGS,Qk hk4.2.2.2 hBS⟩ (λhHeld=>?_)
      clear hK K;refine qT 26 ?_;refine qT 27 ?_;refine qD ?_;have z4:(w4.setCell ⟨sb,3,none⟩ (.int .i64 sv)).cell? ⟨sb,3,none⟩=some (.int .i64 sv):=zdf hc4 _;have HQ:Hid (PP (.returned (.int .i64 sv)) (w4.setCell ⟨sb,3,none⟩ (.int .i64 sv))):=(show PP _ _ from HREM.out ⟨R1.synced,L,next,sv⟩ sv _ HE3.out ⟨ua rsd wr.drew w2,rss,⟨hd4.turn ((yh w4 sb 3 _).mono λq hq e=>HLO.out _ q e (hq ▸ HRSB.out)),S19.brokenSet ⟨_,_,HS2.out w4 HT4.out⟩ sv,HLO.out _⟩,HUP.out _,λq hq=>Or.inl hq,(vh (zj (zi _))).trans ((HT4.out.mono λq hq=>Or.inl hq).trans ((yh w4 sb 3 _).mono λq hq=>Or.inr (hq ▸ HRSB.out)))⟩)
      generalize w4.setCell ⟨sb,3,none⟩ (.int .i64 sv)=w5 at *;clear hHeld
      go_wp2_with fail
      first|exact HQ.out|(go_ret2;exact HQ.out)
    ·have HE2:=zd (HE.out.trans (if_pos hez))
     clear HE;refine qH (S:=λw':World=>w'.cell? ⟨sb,0,none⟩=some (.pointer (some ⟨db,0,none⟩))∧w'.cell? ⟨sb,1,none⟩=some (.slice (some ⟨g,0,none⟩) N cap)∧w'.cell? ⟨g,j*3+2,none⟩=some (.slice (some ⟨b,off,none⟩) nx cx)∧w'.cell? ⟨b,off,none⟩=some (.int .i64 (b0:Int))) hw0 (λhHeld=>?_)
     refine qT 0 ?_;refine qT 1 ?_;refine qT 2 ?_;refine qT 3 ?_;refine qT 4 ?_;refine qT 5 ?_;refine qT 6 ?_;refine qT 7 ?_;refine qT 8 ?_;refine qT 9 ?_;refine qT 10 ?_;refine qT 11 ?_;refine qT 12 ?_;refine qT 13 ?_;refine qT 14 ?_;refine qO 15 λK hK=>?_
     go_simp
     go_at_call 44
     refine HW2.out.mono ?_;rintro e w2 ⟨rfl,hd2,ht2⟩;have hk2:=HKP.out w2 ht2;have HT2:=zd ht2;have hss2:S19 rss w2 sb db L next 0:=⟨_,_,HS2.out w2 ht2⟩;have hc2:=hss2.all.2.2.1;refine hK.out _ _ hk2 (λhHeld=>?_)
     clear hK K;refine qO 16 λK hK=>?_
     go_simp
     go_at_call 180
     refine(zi0 hss2 hez).mono ?_;rintro e w3 ⟨rfl,rfl⟩;refine hK.out _ _ ⟨Ql hk2.1 (by decide),Ql hk2.2.1 (by decide),Qk hk2.2.2.1 hGS,Qk hk2.2.2.2 hBS⟩ (λhHeld=>?_)
     clear hK K;refine qT 17 ?_;refine qT 18 ?_;refine qU 19 ?_;refine qU 20 ?_;refine qU 21 ?_;refine qU 22 ?_;refine qU 23 ?_;refine qU 24 ?_;refine qU 25 ?_;refine qU 26 ?_;refine qT 27 ?_;refine qD ?_;have z4:(w2.setCell ⟨sb,3,none⟩ (.int .i64 ev)).cell? ⟨sb,3,none⟩=some (.int .i64 ev):=zdf hc2 _;have HQ:Hid (PP (.returned (.int .i64 ev)) (w2.setCell ⟨sb,3,none⟩ (.int .i64 ev))):=(show PP _ _ from HREM.out ⟨R1,L,next,ev⟩ ev _ HE2.out ⟨ua rsd wr.drew w2,rss,⟨hd2.turn ((yh w2 sb 3 _).mono λq hq e=>HLO.out _ q e (hq ▸ HRSB.out)),S19.brokenSet ⟨_,_,HS2.out w2 HT2.out⟩ ev,HLO.out _⟩,HUP.out _,λq hq=>Or.inl hq,(vh (zj (zi _))).trans ((HT2.out.mono λq hq=>Or.inl hq).trans ((yh w2 sb 3 _).mono λq hq=>Or.inr (hq ▸ HRSB.out)))⟩)
     generalize w2.setCell ⟨sb,3,none⟩ (.int .i64 ev)=w5 at *;clear hHeld
     go_wp2_with fail
     first|exact HQ.out|(go_ret2;exact HQ.out)
   ·have HX:Hid (NoneK L (j+1) k):=(λy hy=>by
     rw[List.take_succ_eq_append_getElem hjL] at hy
     rcases List.mem_append.1 hy with h1|h1
     ·exact HALL.out y h1
     ·rw[List.mem_singleton.1 h1,←hxo.1];exact hk)
    clear hxo x2;generalize ms[j].k=kx at *;go_wp2
    exact⟨⟨j+1,by omega,by simp,by first|rfl|trivial,HX.out⟩,by simp[intOf];omega⟩
  ·obtain rfl:j=N:=by omega
   have HQ:=zd (HREM.out ⟨R,L,next,0⟩ 5 wr (by
    unfold Doc.rem;rw[if_neg (λe=>e rfl)]
    simp only[zmk (λy hy=>HALL.out y (by rw[HN.out,HL.out,List.take_length];exact hy))]) (qg.here ⟨R,L,next,0⟩ H.out (zi _)))
   go_wp2
   first|exact HQ.out|(go_ret2;exact HQ.out)
theorem rrem (h:qg rsd rss W sb db R L next broken) (hk:DOk ⟨R,L,next,broken⟩) (k:Int) (hf:yf R<1000000):Calls Tryz.prog 120 #[.pointer (some ⟨sb,0,none⟩),.int .i64 k] W (zgj rsd rss W sb db ⟨R,L,next,broken⟩ k):=by
 by_cases hb:broken=0
 ·subst hb
  exact znn h hk k hf
 ·exact zi5 h k hb
end
end Go.Proofs.YtbcbhlfjgobejaaGreat
