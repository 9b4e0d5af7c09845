/- VaultKeeps: the walk (printed by gen_kv6.py). Conditions: none, or as the theorems say. -/
import Derived.Test.YtbcbhlfjgobejaaGreatI1
import Derived.Test.YtbcbhlfjgobejaaGreatI46
import Derived.Deep.DeepCutAuto
import Derived.Deep.CutBlock
set_option linter.unusedSimpArgs false
set_option linter.unusedVariables false
namespace Go.Proofs.YtbcbhlfjgobejaaGreat
set_option maxHeartbeats 200000000
open Go.RowKit Go.Sf Go.Shelf
attribute [local go_sem] Oper.semAt_some
theorem ziw {α:Type} {enc:α→List Value} {w w':World} {v:Value} {l:List α} (h:ze6 w enc v l) (hg:w.grownBy w' none):ze6 w' enc v l:=by
 obtain⟨p,cap,e,h1⟩:=h
 exact⟨p,cap,e,h1.imp id fun ⟨a,e2,h2⟩=>⟨a,e2,fun j u hu=>hg.cell (h2 j u hu) (by simp)⟩⟩
set_option maxRecDepth 100000 in
theorem zg3 (nb0:Nat) (hnb:nb0<256) (v1 v2:Value) (l:List Vd) (inl:List Int) (W:World) (h1:zd4 W v1 l) (h2:zle W v2 inl):Calls Tryz.prog 12 #[.int .u8 (nb0:Int),v1,v2] W fun e w'=>e = .returned (.bool true)∧W.grownBy w' none:=by
 have HLA:=zd (zfp v1 l W h1);have HW:=zd zg8;obtain⟨p1,cap1,rfl,hl1,hok,hrow⟩:=h1;obtain⟨p2,cap2,rfl,hl2,hir,hirow⟩:=h2;have HOK:=zd hok;have HROW:=zd hrow;have HIR:=zd hir;have HIROW:=zd hirow;obtain⟨m,hm⟩:∃m,m=l.length:=⟨_,rfl⟩;obtain⟨mi,hmi⟩:∃m,m=inl.length:=⟨_,rfl⟩;have HM:=zd hm;have HMI:=zd hmi;rw[←hm] at HLA hl1 ⊢;rw[←hmi] at hl2 ⊢;clear hok hrow hir hirow hm hmi;have hN:∀w:World,Hid (Calls Tryz.prog 19 #[.int .i64 (3+(nb0:Int)%23)] w fun e w'=>∃db,e = .returned (.pointer (some ⟨db,0,none⟩))∧w.grownBy w' none∧w.heap.size≤db∧∀own:Nat→Prop,(∀k,own k→k<w.heap.size)→vl own w' db (Dk.new (3+(nb0:Int)%23))):=fun w=>zd (dnew _ w)
 have HN:=zd hN;clear hN
 by_cases hmi1:100<mi
 ·go_enter Tryz.func12,Tryz.ntmps12
  go_upto_region 3 with (first
   | (go_at_call 70;refine HLA.out.mono ?_;rintro e w1 ⟨r,rfl,hg,hr⟩;have HG1:=zd hg;clear hg hr HLA)
   | (go_at_call 60;refine(HW.out _).mono ?_;rintro e w2 ⟨rfl,hg⟩;have HG2:=zd hg;clear hg))
  all_goals go_ret
  all_goals exact⟨rfl,zo HG1.out HG2.out⟩
 ·go_enter Tryz.func12,Tryz.ntmps12
  go_upto_region 4 with (first
   | (go_at_call 70;refine HLA.out.mono ?_;rintro e w1 ⟨r,rfl,hg,hr⟩;have HG1:=zd hg;have HR1:=zd hr;clear hg hr HLA)
   | (go_at_call 60;refine(HW.out _).mono ?_;rintro e w2 ⟨rfl,hg⟩;have HG2:=zd hg;clear hg)
   | (go_at_call 19;refine(HN.out _).out.mono ?_;rintro e w2 ⟨db,rfl,hg,-,hd⟩;have HOP:=zd (zav (W:=W) (n:=3+(nb0:Int)%23) (by omega) (zo HG1.out hg) (fun own ho=>hd own fun k hk=>Nat.lt_of_lt_of_le (ho k hk) HG1.out.size));clear hg hd HN))
  ·go_ret
   exact⟨rfl,zo HG1.out HG2.out⟩
  ·have HLEN:=zd (HR1.out (by first|assumption|simp_all))
   clear HR1
   go_upto_region 5 with (go_at_call 61;refine HOP.out.mono ?_;rintro e w3 ⟨vb,V,rfl,hj,hk,hn⟩;have HK0:=zd (show _∧_∧_ from ⟨hj,hk,hn⟩);clear hj hk hn HOP)
   go_upto_region 6 with fail
   have HK1:Hid (∃(own:Nat→Prop) (blk:Int→List Nat),Qh W own vb db w3.heap.size V [] blk 0 [] (.slice none 0 0) 0 (w3.alloc (.cells #[.int .i64 0,.slice none 0 0] 106))):=zd (by
    obtain⟨hj,⟨hs,blk,hi⟩,hn⟩:=HK0.out;have hg:=zg w3 (.cells #[.int .i64 0,.slice none 0 0] 106) none;have hh:=heap_alloc_new w3 (.cells #[.int .i64 0,.slice none 0 0] 106);have hz:=hj.gr.size
    exact⟨_,blk,hj.more hg,hi,rfl,znh,by rw[hn];decide,by rw[hs.n];omega,⟨hh,⟨Or.inr ⟨Nat.le_refl _,xd hh⟩,hz⟩,zha _,fun g hg2=>by simp[Value.ownBlock] at hg2,by simp,Nat.le_refl _⟩⟩)
   clear HK0 HG1;generalize w3.alloc (.cells #[.int .i64 0,.slice none 0 0] 106)=wv at *;generalize w3.heap.size=nb at *;go_wp2
   go_loopw [8,9,11] (fun s e i wr=>VLoop W m db nb s e i wr) (fun _ _ i _=>m-(intOf i).toNat)
   case atStart=>
    obtain⟨own,blk,h⟩:=HK1.out
    exact⟨own,vb,V,[],blk,0,[],_,0,Nat.zero_le _,rfl,rfl,rfl,h⟩
   case round=>
    as_aux_lemma=>
    clear HK1;obtain⟨own,vb,V,al,blk,life,l0,a,k,hkm,rfl,rfl,rfl,hkmem⟩:=hrel;have HK:=zd hkmem;clear hkmem
    by_cases hlt:k<m
    ·go_upto_if 48 with fail
     have HKM:=zd hkm;have HLT:Hid (k<m∧k<50):=zd ⟨hlt,by have:=HLEN.out.1;have:=HM.out;omega⟩
     go_cut [] from 48 to 54 (fun wx=>∃V1,Qh W own vb db nb V1 al blk life l0 a k wx)
     case first=>
      by_cases hin:k<mi
      ·have hkl:k<inl.length:=by rw[←HMI.out];exact hin
       obtain⟨b2,off2,rfl,cin⟩:∃b off,p2=some ⟨b,off,none⟩∧wr.cell? ⟨b,off+k,none⟩=some (.int .i64 inl[k]):=by
        rcases HIROW.out with h0|⟨b,off,rfl,h1⟩
        ·rw[h0] at hkl;simp at hkl
        ·exact⟨b,off,rfl,HK.out.vr.gr.cell (h1 k hkl) (by simp)⟩
       have hir2:=HIR.out inl[k] (List.getElem_mem hkl);have HFA:=zd (HK.out.vr.fail inl[k] hir2.2);generalize inl[k]=fn at *
       go_wp2_with (go_at_call 28;refine HFA.out.mono ?_;rintro e w5 ⟨rfl,hk5,ht5⟩;have HK5:=zd (HK.out.failed _ hk5 ht5);clear hk5 ht5 HFA)
       go_meet
       case rel=>exact⟨_,HK5.out⟩
      ·go_wp2
       go_meet
       case rel=>exact⟨V,HK.out⟩
     case rest=>
      obtain⟨V1,hk1⟩:=hcut;clear HK;have HK:=zd hk1;clear hk1;have hkl:k<l.length:=by rw[←HM.out];exact HLT.out.1
      have hgetD:l.getD k zbi=l[k]:=by simp[List.getD_eq_getElem?_getD,List.getElem?_eq_getElem hkl]
      obtain⟨b1,off1,rfl,hcx⟩:∃b off,p1=some ⟨b,off,none⟩∧∀j u,(Vi l[k])[j]? = some u→wc.cell? ⟨b,off+k*8+j,none⟩=some u:=by
       rcases HROW.out with h0|⟨b,off,rfl,h1⟩
       ·rw[h0] at hkl;simp at hkl
       ·exact⟨b,off,rfl,fun j u hu=>HK.out.vr.gr.cell (h1 k hkl j u (by rw[hgetD];exact hu)) (by simp)⟩
      have HX:=zd (HOK.out l[k] (List.getElem_mem hkl));have HXL:=zd (HLEN.out.2 l[k] (List.getElem_mem hkl));clear hgetD;generalize l[k]=x at *;have x0:=hcx 0 _ rfl;have x1:=hcx 1 _ rfl;have x2:=hcx 2 _ rfl;have x3:=hcx 3 _ rfl;have x4:=hcx 4 _ rfl;have x5:=hcx 5 _ rfl;have x6:=hcx 6 _ rfl;have x7:=hcx 7 _ rfl;rw[Nat.add_zero] at x0;have hlt1:=xg x0;clear hcx hkl
      go_upto_region 14 with fail
      have hxb:=heap_alloc_new wc (.cells (Vi x).toArray 114);have hxg:=zg wc (.cells (Vi x).toArray 114) none;obtain⟨wx,hwx⟩:∃wx,wx=wc.alloc (.cells (Vi x).toArray 114):=⟨_,rfl⟩;rw[←hwx] at hxb hxg;have HXB:=zd hxb;have HXG:=zd hxg;have HWX:=zd hwx;have HWE:Hid (wc.alloc (.cells #[.int .u8 x.kind,.slice x.x.kp x.x.s.key.length x.x.kc,.int .i64 x.x.s.znm,.int .i64 x.x.s.node,.slice x.x.rp x.x.s.row.length x.x.rc,.slice x.bp x.bn x.bc,.int .i64 x.n,.slice x.fp x.F.length x.fc] 114)=wx):=zd (by rw[hwx];rfl)
      clear x0 x1 x2 x3 x4 x5 x6 x7 hlt1 hxb hxg hwx;rw[HWE.out];have HLD:Hid (∀(w':World) (b:Nat),w'.heap[b]? = some (.cells (Vi x).toArray 114 (0,0))→w'.cell? ⟨b,0,none⟩=some (.int .u8 x.kind)∧w'.cell? ⟨b,1,none⟩=some (.slice x.x.kp x.x.s.key.length x.x.kc)∧w'.cell? ⟨b,2,none⟩=some (.int .i64 x.x.s.znm)∧w'.cell? ⟨b,3,none⟩=some (.int .i64 x.x.s.node)∧w'.cell? ⟨b,4,none⟩=some (.slice x.x.rp x.x.s.row.length x.x.rc)∧w'.cell? ⟨b,6,none⟩=some (.int .i64 x.n)∧w'.cell? ⟨b,7,none⟩=some (.slice x.fp x.F.length x.fc)):=zd fun w' b h=>⟨(zh h 0).trans rfl,(zh h 1).trans rfl,(zh h 2).trans rfl,(zh h 3).trans rfl,(zh h 4).trans rfl,(zh h 6).trans rfl,(zh h 7).trans rfl⟩
      obtain⟨z0,z1,z2,z3,z4,z6,z7⟩:=HLD.out wx _ HXB.out;have HPL:Hid (Calls Tryz.prog 67 #[.agg #[.slice x.x.kp x.x.s.key.length x.x.kc,.int .i64 x.x.s.znm,.int .i64 x.x.s.node,.slice x.x.rp x.x.s.row.length x.x.rc]] wx fun e w'=>e = .returned (.agg #[.string (ofB x.x.s.key),.int .i64 x.x.s.znm,.int .i64 x.x.s.node,.string (ofB x.x.s.row)])∧wx.grownBy w' none):=zd (zap (s:=x.x.s) (HX.out.x.k.raw.grown (zo HK.out.vr.gr HXG.out) (by simp)) (HX.out.x.r.raw.grown (zo HK.out.vr.gr HXG.out) (by simp)))
      generalize hxbs:wc.heap.size=xb at *;have HXS:=zd hxbs;clear hxbs
      go_upto_region 15 with (go_at_call 67;refine HPL.out.mono ?_;rintro e wp ⟨rfl,hg⟩;have HGP:=zd hg;clear hg)
      have hsb:=heap_alloc_new wp (.cells #[.string (ofB x.x.s.key),.int .i64 x.x.s.znm,.int .i64 x.x.s.node,.string (ofB x.x.s.row)] 102);have HSG:=zd (zg wp (.cells #[.string (ofB x.x.s.key),.int .i64 x.x.s.znm,.int .i64 x.x.s.node,.string (ofB x.x.s.row)] 102) none);have HSB:=zd hsb;clear hsb z0 z1 z2 z3 z4 z6 z7 HPL;generalize wp.alloc (.cells #[.string (ofB x.x.s.key),.int .i64 x.x.s.znm,.int .i64 x.x.s.node,.string (ofB x.x.s.row)] 102)=ws at *;have HGS:Hid (wc.grownBy ws none):=zd (zo HXG.out (zo HGP.out HSG.out));have HNB:=zd (HK.out.hb.grown HGS.out);obtain⟨pa,ca,hpa,-,-⟩:=uk.form HK.out.hb.row;subst hpa;obtain⟨n0,n1,-⟩:=HNB.out.cells;have hnl:=xd HNB.out.box;have HSL:Hid (wp.heap.size<ws.heap.size):=zd (xd HSB.out);have HSZ:Hid (wc.heap.size≤wp.heap.size):=zd (Nat.le_trans HXG.out.size HGP.out.size);generalize hsbs:wp.heap.size=sb at *;have HSBS:=zd hsbs;clear hsbs
      go_upto_region 16 with fail
      have htb:=heap_alloc_new ws (.cells #[.int .i64 life,.slice pa l0.length ca] 106);have HTG:=zd (zg ws (.cells #[.int .i64 life,.slice pa l0.length ca] 106) none);have HTB:=zd htb;clear htb n0 n1;generalize ws.alloc (.cells #[.int .i64 life,.slice pa l0.length ca] 106)=wa at *;have HTS:Hid (ws.heap.size<wa.heap.size):=zd (xd HTB.out);generalize htbs:ws.heap.size=tb at *;have HTBS:=zd htbs;clear htbs;have HGA:Hid (wc.grownBy wa none):=zd (zo HGS.out HTG.out);obtain⟨ow,how⟩:∃o:Nat→Prop,o=fun q=>own q∨(wc.heap.size≤q∧q<wa.heap.size):=⟨_,rfl⟩
      have HOW:Hid (∀q,own q→ow q):=zd fun q hq=>by rw[how];exact Or.inl hq
      have HON:Hid (∀q,xb≤q→q<wa.heap.size→ow q):=zd fun q h1 h2=>by rw[how];exact Or.inr ⟨by rw[HXS.out];exact h1,h2⟩
      have HJ:Hid (VB W ow nb tb xb life l0 (.slice pa l0.length ca) life l0 (.slice pa l0.length ca) x (k+1) wa∧VR W ow vb db V1 wa∧wa.heap[sb]? = some (.cells #[.string (ofB x.x.s.key),.int .i64 x.x.s.znm,.int .i64 x.x.s.node,.string (ofB x.x.s.row)] 102 (0,0))∧ow sb∧sb≠tb):=zd (by
       have g1:=HGP.out.size;have g2:=HSG.out.size;have g3:=HTG.out.size;have g4:=xd HXB.out;have g5:=HK.out.vr.gr.size;have g6:=HSL.out;have g7:=HTS.out;have g8:=HSZ.out;have e1:=HXS.out;have e2:=HSBS.out;have e3:=HTBS.out;refine⟨⟨((HK.out.hb.grown HGA.out).mono HOW.out).up,⟨HTB.out,⟨HON.out tb (by omega) (by omega),by omega⟩,uk.grown HK.out.hb.row HGA.out (by simp),fun g hg=>⟨HOW.out g (HK.out.hb.rowo g hg).1,(HK.out.hb.rowo g hg).2⟩,HK.out.hb.bs,by have:=HK.out.hb.few;omega⟩,?_,⟨HON.out xb (Nat.le_refl _) (by omega),by omega⟩,?_⟩,?_,?_,HON.out sb (by omega) (by omega),by omega⟩
       ·exact((HGP.out.trans HSG.out).trans HTG.out).block xb g4 (by simp) |>.trans HXB.out
       ·have:=xd HNB.out.box;omega
       ·rw[how];exact HK.out.vr.more HGA.out
       ·exact(HTG.out.block sb (by omega) (by simp)).trans HSB.out)
      have HI:=zd (show _∧_∧_∧_∧_ from ⟨HK.out.vi,HK.out.lf,HK.out.xl,HK.out.next,HK.out.n⟩)
      have HBS:=zd HK.out.hb.bs;have HFEW:=zd HK.out.hb.few;have hk0:=HX.out.k;clear how HOW HON HGA HTS HTB HTG HTBS HSBS HSZ HSL HNB HGS HSB HSG HGP HXS HXG HXB HWX HWE HK hnl;have HXA:=zd HX.out.x;have HWO:Hid (∀w',Qi w' (.slice pa l0.length ca) l0→Calls Tryz.prog 66 #[.slice pa l0.length ca,.agg #[.string (ofB x.x.s.key),.int .i64 x.x.s.znm,.int .i64 x.x.s.node,.string (ofB x.x.s.row)]] w' fun e w''=>∃v,e = .returned v∧WoI w' l0 x.x.s v w''):=zd fun w' h=>zcx h (by have:=HFEW.out;have:=HLT.out.2;omega) x.x.s
      obtain⟨z0,z1,z2,z3,z4,z6,z7⟩:=HLD.out wa _ HJ.out.1.c;have hxl:=xg z0
      go_upto_block 2 with fail
      generalize x.kind%12=kq at *
      go_cut [15] from 70 to 104 (fun f wx=>VMid W vb db nb tb xb life l0 (.slice pa l0.length ca) x k f wx)
      case first=>
       obtain⟨n0,n1,nf⟩:=HJ.out.1.v.cells;obtain⟨t0,t1,tf⟩:=HJ.out.1.t.cells;obtain⟨s0,s1,s2,s3,-⟩:=yx HJ.out.2.2.1;have hnl:=xd HJ.out.1.v.box;have htl:=xd HJ.out.1.t.box;have hsl:=xd HJ.out.2.2.1
       by_cases c5:kq=5
       ·--F0
        subst c5
        go_upto_region 22 with (go_at_call 66;refine(HWO.out wa HJ.out.1.v.row).mono ?_;rintro e w5 ⟨v5,rfl,hw5⟩;have HW5:=zd hw5;obtain⟨p5,q5,rfl,-,hg5,-⟩:=hw5;obtain⟨t05,t15,tf5⟩:=(HJ.out.1.t.grown hg5).cells;clear hg5)
        obtain⟨p9,q9,-,g1,g2,g3⟩:=HW5.out;have hnw:=VB.newl HJ.out.1 HJ.out.2.1 g2 g1 g3 (fun y hy=>HBS.out y (Up.1 hy).1) (by have h8:=Uo l0 x.x.s;have h9:=HFEW.out;omega)
        have HN5:=zd hnw.1;have HR5:=zd hnw.2.1;have hs5:=hnw.2.2 sb _ HJ.out.2.2.2.2 HJ.out.2.2.1;clear n0 n1 nf t0 t1 tf s0 s1 s2 s3 hnl htl hsl g1 g2 g3 hnw t05 t15 tf5 z0 z1 z2 z3 z4 z6 z7 hxl;obtain⟨s0,s1,s2,s3,-⟩:=yx hs5;generalize w5.setCell ⟨tb,1,none⟩ (.slice p5 (woI l0 x.x.s).length q5)=w6 at *;have hsl:=xg s0;have HDR:=zd (HN5.out.drop HR5.out HI.out.1 HI.out.2.1 HI.out.2.2.1 HI.out.2.2.2.1 (by have:=HLT.out.2;omega) HI.out.2.2.2.2)
        go_wp2_with (go_at_call 69;refine HDR.out.mono ?_;rintro e w7 ⟨f,rfl,hm7⟩;have HM7:=zd hm7;clear hm7)
        go_meet
        case rel=>exact HM7.out
        --F1
       ·by_cases c6:kq=6
        ·--F0
         subst c6
         go_upto_region 25 with fail
         have HN5:=zd (HJ.out.1.setn (n:=x.n));have HR5:=zd (HJ.out.2.1.keepB HJ.out.1.t.nbo (yb wa tb 0 (.int .i64 x.n)) (by simp[World.setCell]))
         obtain⟨y0,y1,y2,y3,y4,y6,y7⟩:=HLD.out _ _ HN5.out.c;clear n0 n1 nf t0 t1 tf s0 s1 s2 s3 hnl htl hsl z0 z1 z2 z3 z4 z6 z7 hxl;generalize wa.setCell ⟨tb,0,none⟩ (.int .i64 x.n)=w6 at *;have hxl:=xg y6;have HBO:=zd (HN5.out.born HR5.out HI.out.1 HI.out.2.1 HI.out.2.2.1 HI.out.2.2.2.1 (by have:=HLT.out.2;omega) HI.out.2.2.2.2)
         go_wp2_with (go_at_call 62;refine HBO.out.mono ?_;rintro e w7 ⟨f,rfl,hm7⟩;have HM7:=zd hm7;clear hm7)
         go_meet
         case rel=>exact HM7.out
         --F1
        ·--F0
         obtain⟨i0,ze,by0,hi,hz,hs,hb,hzs,hb2⟩:=zi7
         go_upto_region 18 with fail
         have HBy0:=zd (HJ.out.1.grown (zl (zm wa)));have HVy0:=zd (HJ.out.2.1.grown (zl (zm wa)));have HSy0:Hid (wa.drew.heap[sb]? = some (.cells #[.string (ofB x.x.s.key),.int .i64 x.x.s.znm,.int .i64 x.x.s.node,.string (ofB x.x.s.row)] 102 (0,0))):=zd HJ.out.2.2.1;refine wp_region_held_drew (S:=fun w'=>w'.cell? ⟨nb,1,none⟩=some (.slice pa l0.length ca)∧w'.cell? ⟨sb,0,none⟩=some (.string (ofB x.x.s.key))∧w'.cell? ⟨sb,1,none⟩=some (.int .i64 x.x.s.znm)∧w'.cell? ⟨sb,2,none⟩=some (.int .i64 x.x.s.node)∧w'.cell? ⟨sb,3,none⟩=some (.string (ofB x.x.s.row))) (by kernel_rfl) ⟨n1,s0,s1,s2,s3⟩ (fun hHeld=>?_)
         clear n0 n1 nf t0 t1 tf s0 s1 s2 s3 hnl htl hsl z0 z1 z2 z3 z4 z6 z7 hxl;generalize wa.drew=y0 at *;refine tk (i:=0) (oi:=⟨some 70,Op.fieldAddr 106 (Operand.tmp 10) 1,_,_,_,none⟩) (v:=?_) rfl hHeld ?_ ?_;rotate_left
         ·rintro w -;go_simp;try with_reducible rfl
         (try simp only[Act.put,za,zb,zc])
         refine tk (i:=2) (oi:=⟨some 72,Op.load 102 (Operand.tmp 13),_,_,_,none⟩) (v:=?_) rfl hHeld ?_ ?_;rotate_left
         ·rintro w ⟨s1',s2',s3',s4',s5'⟩;go_simp;try with_reducible rfl
         (try simp only[Act.put,za,zb,zc])
         refine tk (i:=4) (oi:=⟨some 74,Op.load 102 (Operand.tmp 13),_,_,_,none⟩) (v:=?_) rfl hHeld ?_ ?_;rotate_left
         ·rintro w ⟨s1',s2',s3',s4',s5'⟩;go_simp;try with_reducible rfl
         (try simp only[Act.put,za,zb,zc])
         refine tk (i:=1) (oi:=⟨some 71,Op.load 95 (Operand.tmp 70),_,_,_,none⟩) (v:=?_) rfl hHeld ?_ ?_;rotate_left
         ·rintro w ⟨s1',s2',s3',s4',s5'⟩;go_simp;try with_reducible rfl
         (try simp only[Act.put,za,zb,zc])
         refine wpAnyH_ready (rs:=[3,5]) (by kernel_rfl) (by simp) ?_
         refine(AllReadyH.cons (o:=⟨some 73,Op.call { callee:=Callee.value (Operand.func 66),args:=#[Operand.tmp 71,Operand.tmp 72],argTypes:=#[95,102] },_,_,_,none⟩) rfl (fun K hK=>?_) (AllReadyH.cons (o:=⟨some 75,Op.buildSlice 95 1 #[(0,Operand.tmp 74)],_,_,_,none⟩) rfl (fun K hK=>?_) AllReadyH.nil))
         ·go_simp
          go_at_call 66
          refine(HWO.out y0 HBy0.out.v.row).mono ?_;rintro e y1 ⟨v2,rfl,hw2⟩;have hg:y0.grownBy y1 none:=by obtain⟨_,_,_,_,h5,_⟩:=hw2;exact h5
          have HWy1:=zd hw2;obtain⟨p2,c2,rfl,-,-,-⟩:=hw2;have HBy1:=zd (HBy0.out.grown hg);have HVy1:=zd (HVy0.out.grown hg);have HSy1:=zd ((hg.block sb (xd HSy0.out) (by simp)).trans HSy0.out)
          refine hK.out _ _ ⟨hg.cell hHeld.1 (by simp),hg.cell hHeld.2.1 (by simp),hg.cell hHeld.2.2.1 (by simp),hg.cell hHeld.2.2.2.1 (by simp),hg.cell hHeld.2.2.2.2 (by simp)⟩ (fun hHeld=>?_)
          clear hK K
          (try simp only[Act.put,za,zb,zc])
          clear hg;refine wpAnyH_ready (rs:=[5]) (by kernel_rfl) (by simp) ?_
          refine(AllReadyH.cons (o:=⟨some 75,Op.buildSlice 95 1 #[(0,Operand.tmp 74)],_,_,_,none⟩) rfl (fun K hK=>?_) AllReadyH.nil)
          go_simp
          have hg:y1.grownBy (y1.alloc (.cells #[.string (ofB x.x.s.key),.int .i64 x.x.s.znm,.int .i64 x.x.s.node,.string (ofB x.x.s.row)] 102)) none:=zg _ _ _;have HYy2:=zd (zhz y1 x.x.s);have HBy2:=zd (HBy1.out.grown hg);have HVy2:=zd (HVy1.out.grown hg);have HSy2:=zd ((hg.block sb (xd HSy1.out) (by simp)).trans HSy1.out)
          have HWy2:=zd (HWy1.out.grown hg);refine hK.out _ _ ⟨hg.cell hHeld.1 (by simp),hg.cell hHeld.2.1 (by simp),hg.cell hHeld.2.2.1 (by simp),hg.cell hHeld.2.2.2.1 (by simp),hg.cell hHeld.2.2.2.2 (by simp)⟩ (fun hHeld=>?_)
          clear hK K
          (try simp only[Act.put,za,zb,zc])
          clear hg;generalize y1.alloc (.cells #[.string (ofB x.x.s.key),.int .i64 x.x.s.znm,.int .i64 x.x.s.node,.string (ofB x.x.s.row)] 102)=y2 at *;refine wpAnyH_ready (rs:=[6]) (by kernel_rfl) (by simp) ?_
          refine(AllReadyH.cons (o:=⟨some 76,Op.call { callee:=Callee.builtin Builtin.append,args:=#[Operand.tmp 73,Operand.tmp 75],argTypes:=#[95,95] },_,_,_,none⟩) rfl (fun K hK=>?_) AllReadyH.nil)
          refine zad (E:=102) (sz:=4) (enc:=shC) (v:=.slice p2 (woI l0 x.x.s).length c2) (l:=woI l0 x.x.s) (m:=[x.x.s]) rfl _ _ 95 rfl zbb zeu i0 ze by0 Tryz.underlying95 hi hz hs hb hzs (by decide) hb2 rfl (by obtain⟨_,_,_,h5,_⟩:=HWy2.out;exact h5) rfl HYy2.out (by have h5:=Uo l0 x.x.s;have h6:=HFEW.out;have h7:=HLT.out.2;simp only[List.length_singleton];omega) ((woI l0 x.x.s).length+1) (by simp only[List.length_singleton]) ?_
          intro p' cap' y3 hap;have HA:=zd (HWy2.out.app5 hap);have hg:=HA.out.gr;have HBy3:=zd (HBy0.out.grown hg);obtain⟨t0',t1',tf'⟩:=HBy3.out.t.cells;have HCB:=zd (HBy0.out.v.cells);have HCS:=zd (yx ((hg.block sb (xd HSy0.out) (by simp)).trans HSy0.out))
          have hnc:=(HBy3.out.v.cells).2.1;refine hK.out _ _ ⟨hnc,HCS.out.1,HCS.out.2.1,HCS.out.2.2.1,HCS.out.2.2.2.1⟩ (fun hHeld=>?_)
          clear hK K
          (try simp only[Act.put,za,zb,zc])
          clear hg hap;refine tk (i:=7) (oi:=⟨some 77,Op.fieldAddr 106 (Operand.tmp 14) 1,_,_,_,none⟩) (v:=?_) rfl hHeld ?_ ?_;rotate_left
          ·rintro w -;go_simp;try with_reducible rfl
          (try simp only[Act.put,za,zb,zc])
          refine wpAnyH_ready (rs:=[8]) (by kernel_rfl) (by simp) ?_
          refine(AllReadyH.cons (o:=⟨none,Op.store 95 (Operand.tmp 77) (Operand.tmp 76),_,_,_,none⟩) rfl (fun K hK=>?_) AllReadyH.nil)
          go_simp
          have hnw:=VB.newl HBy0.out HVy0.out HA.out.gr HA.out.row HA.out.own (fun y hy=>by
           rcases List.mem_append.1 hy with e|e
           ·exact HBS.out y (Up.1 e).1
           ·rw[List.mem_singleton.1 e];exact HXA.out.bl) (by
           rw[List.length_append];have h5:=Uo l0 x.x.s;have h6:=HFEW.out;simp only[List.length_singleton];omega)
          have HN5:=zd hnw.1;have HR5:=zd hnw.2.1;have hs5:=hnw.2.2 sb _ HJ.out.2.2.2.2 HSy0.out;have hc5:=yx hs5;clear hnw hs5;refine hK.out _ _ ⟨(HN5.out.v.cells).2.1,hc5.1,hc5.2.1,hc5.2.2.1,hc5.2.2.2.1⟩ (fun hHeld=>?_)
          clear hK K hc5
          (try simp only[Act.put,za,zb,zc])
          refine wpAnyH_done (by kernel_rfl) ?_ _
          clear hHeld t0' t1' tf' hnc;generalize y3.setCell ⟨tb,1,none⟩ (.slice p' ((woI l0 x.x.s).length+1) cap')=w6 at *;obtain⟨u0,u1,u2,u3,u4,u6,u7⟩:=HLD.out w6 _ HN5.out.c;have hul:=xg u0;have HPU:=zd (HN5.out.put HR5.out HI.out.1 HI.out.2.1 HI.out.2.2.1 HI.out.2.2.2.1 (by have:=HLT.out.2;omega) HI.out.2.2.2.2 HXA.out ⟨HXL.out.1,HXL.out.2.1⟩)
          go_wp2_with (go_at_call 64;refine HPU.out.mono ?_;rintro e w7 ⟨f,rfl,hm7⟩;have HM7:=zd hm7;clear hm7)
          go_meet
          case rel=>exact HM7.out
         ·go_simp
          have hg:y0.grownBy (y0.alloc (.cells #[.string (ofB x.x.s.key),.int .i64 x.x.s.znm,.int .i64 x.x.s.node,.string (ofB x.x.s.row)] 102)) none:=zg _ _ _;have HYy1:=zd (zhz y0 x.x.s);have HBy1:=zd (HBy0.out.grown hg);have HVy1:=zd (HVy0.out.grown hg);have HSy1:=zd ((hg.block sb (xd HSy0.out) (by simp)).trans HSy0.out)
          refine hK.out _ _ ⟨hg.cell hHeld.1 (by simp),hg.cell hHeld.2.1 (by simp),hg.cell hHeld.2.2.1 (by simp),hg.cell hHeld.2.2.2.1 (by simp),hg.cell hHeld.2.2.2.2 (by simp)⟩ (fun hHeld=>?_)
          clear hK K
          (try simp only[Act.put,za,zb,zc])
          clear hg;generalize y0.alloc (.cells #[.string (ofB x.x.s.key),.int .i64 x.x.s.znm,.int .i64 x.x.s.node,.string (ofB x.x.s.row)] 102)=y1 at *;refine wpAnyH_ready (rs:=[3]) (by kernel_rfl) (by simp) ?_
          refine(AllReadyH.cons (o:=⟨some 73,Op.call { callee:=Callee.value (Operand.func 66),args:=#[Operand.tmp 71,Operand.tmp 72],argTypes:=#[95,102] },_,_,_,none⟩) rfl (fun K hK=>?_) AllReadyH.nil)
          go_simp
          go_at_call 66
          refine(HWO.out y1 HBy1.out.v.row).mono ?_;rintro e y2 ⟨v2,rfl,hw2⟩;have hg:y1.grownBy y2 none:=by obtain⟨_,_,_,_,h5,_⟩:=hw2;exact h5
          have HWy2:=zd hw2;obtain⟨p2,c2,rfl,-,-,-⟩:=hw2;have HBy2:=zd (HBy1.out.grown hg);have HVy2:=zd (HVy1.out.grown hg);have HSy2:=zd ((hg.block sb (xd HSy1.out) (by simp)).trans HSy1.out)
          have HYy2:=zd (ziw HYy1.out hg);refine hK.out _ _ ⟨hg.cell hHeld.1 (by simp),hg.cell hHeld.2.1 (by simp),hg.cell hHeld.2.2.1 (by simp),hg.cell hHeld.2.2.2.1 (by simp),hg.cell hHeld.2.2.2.2 (by simp)⟩ (fun hHeld=>?_)
          clear hK K
          (try simp only[Act.put,za,zb,zc])
          clear hg;refine wpAnyH_ready (rs:=[6]) (by kernel_rfl) (by simp) ?_
          refine(AllReadyH.cons (o:=⟨some 76,Op.call { callee:=Callee.builtin Builtin.append,args:=#[Operand.tmp 73,Operand.tmp 75],argTypes:=#[95,95] },_,_,_,none⟩) rfl (fun K hK=>?_) AllReadyH.nil)
          refine zad (E:=102) (sz:=4) (enc:=shC) (v:=.slice p2 (woI l0 x.x.s).length c2) (l:=woI l0 x.x.s) (m:=[x.x.s]) rfl _ _ 95 rfl zbb zeu i0 ze by0 Tryz.underlying95 hi hz hs hb hzs (by decide) hb2 rfl (by obtain⟨_,_,_,h5,_⟩:=HWy2.out;exact h5) rfl HYy2.out (by have h5:=Uo l0 x.x.s;have h6:=HFEW.out;have h7:=HLT.out.2;simp only[List.length_singleton];omega) ((woI l0 x.x.s).length+1) (by simp only[List.length_singleton]) ?_
          intro p' cap' y3 hap;have HA:=zd (HWy2.out.app5 hap);have hg:=HA.out.gr;have HBy3:=zd (HBy1.out.grown hg);obtain⟨t0',t1',tf'⟩:=HBy3.out.t.cells;have HCB:=zd (HBy1.out.v.cells);have HCS:=zd (yx ((hg.block sb (xd HSy1.out) (by simp)).trans HSy1.out))
          have hnc:=(HBy3.out.v.cells).2.1;refine hK.out _ _ ⟨hnc,HCS.out.1,HCS.out.2.1,HCS.out.2.2.1,HCS.out.2.2.2.1⟩ (fun hHeld=>?_)
          clear hK K
          (try simp only[Act.put,za,zb,zc])
          clear hg hap;refine tk (i:=7) (oi:=⟨some 77,Op.fieldAddr 106 (Operand.tmp 14) 1,_,_,_,none⟩) (v:=?_) rfl hHeld ?_ ?_;rotate_left
          ·rintro w -;go_simp;try with_reducible rfl
          (try simp only[Act.put,za,zb,zc])
          refine wpAnyH_ready (rs:=[8]) (by kernel_rfl) (by simp) ?_
          refine(AllReadyH.cons (o:=⟨none,Op.store 95 (Operand.tmp 77) (Operand.tmp 76),_,_,_,none⟩) rfl (fun K hK=>?_) AllReadyH.nil)
          go_simp
          have hnw:=VB.newl HBy1.out HVy1.out HA.out.gr HA.out.row HA.out.own (fun y hy=>by
           rcases List.mem_append.1 hy with e|e
           ·exact HBS.out y (Up.1 e).1
           ·rw[List.mem_singleton.1 e];exact HXA.out.bl) (by
           rw[List.length_append];have h5:=Uo l0 x.x.s;have h6:=HFEW.out;simp only[List.length_singleton];omega)
          have HN5:=zd hnw.1;have HR5:=zd hnw.2.1;have hs5:=hnw.2.2 sb _ HJ.out.2.2.2.2 HSy1.out;have hc5:=yx hs5;clear hnw hs5;refine hK.out _ _ ⟨(HN5.out.v.cells).2.1,hc5.1,hc5.2.1,hc5.2.2.1,hc5.2.2.2.1⟩ (fun hHeld=>?_)
          clear hK K hc5
          (try simp only[Act.put,za,zb,zc])
          refine wpAnyH_done (by kernel_rfl) ?_ _
          clear hHeld t0' t1' tf' hnc;generalize y3.setCell ⟨tb,1,none⟩ (.slice p' ((woI l0 x.x.s).length+1) cap')=w6 at *;obtain⟨u0,u1,u2,u3,u4,u6,u7⟩:=HLD.out w6 _ HN5.out.c;have hul:=xg u0;have HPU:=zd (HN5.out.put HR5.out HI.out.1 HI.out.2.1 HI.out.2.2.1 HI.out.2.2.2.1 (by have:=HLT.out.2;omega) HI.out.2.2.2.2 HXA.out ⟨HXL.out.1,HXL.out.2.1⟩)
          go_wp2_with (go_at_call 64;refine HPU.out.mono ?_;rintro e w7 ⟨f,rfl,hm7⟩;have HM7:=zd hm7;clear hm7)
          go_meet
          case rel=>exact HM7.out
         --F1
      case rest=>
       clear HWO HBS HFEW HI hk0 z0 z1 z2 z3 z4 z6 z7 hxl HJ;obtain⟨ow3,life3,l3,nv3,hjb,⟨rfl,V3,al3,bl3,hr3,hi3,hlf3,hxl3,hn3,h43⟩|⟨e3,V3,al3,bl3,rfl,he0,he180,hr3,hi3,hlf3,hxl3,hn3,h43⟩|⟨rfl,d3,n3,X1,X2,hd3,ho3,h43,hg3,hX1,hXL1,hX2,hXL2⟩⟩:=hcut
       ·--F0
        obtain⟨pn,cn,hpn,-,-⟩:=uk.form hjb.t.row;subst hpn;obtain⟨n0,n1,nf⟩:=hjb.v.cells;obtain⟨t0,t1,-⟩:=hjb.t.cells;have hnl:=xd hjb.v.box;have htl:=xd hjb.t.box
        go_upto_region 28 with fail
        have HZ:Hid (HBv W ow3 nb life3 l3 (.slice pn l3.length cn) (k+1) ((wc.setCell ⟨nb,0,none⟩ (.int .i64 life3)).setCell ⟨nb,1,none⟩ (.slice pn l3.length cn))∧VR W ow3 vb db V3 ((wc.setCell ⟨nb,0,none⟩ (.int .i64 life3)).setCell ⟨nb,1,none⟩ (.slice pn l3.length cn))):=zd ⟨hjb.take.1,hr3.keepB hjb.v.nbo hjb.take.2.1 hjb.take.2.2⟩;clear n0 n1 nf t0 t1 hr3 hjb hnl htl;generalize (wc.setCell ⟨nb,0,none⟩ (.int .i64 life3)).setCell ⟨nb,1,none⟩ (.slice pn l3.length cn)=w9 at *;have hoff:=HZ.out.2.dr.off;rw[show V3.S.d.off=false from hi3.inv.off] at hoff
        have HOFF:=zd hoff;have HSM:=zd (Xu HZ.out.2 hi3 hlf3 hxl3 HZ.out.1 (by have:=HLT.out.2;omega) rfl)
        have HMM:Hid (Qh W ow3 vb db nb V3 al3 bl3 life3 l3 (.slice pn l3.length cn) (k+1) w9):=zd ⟨HZ.out.2,hi3,hlf3,hxl3,by simp only[Int.natCast_add,Int.natCast_one];omega,h43,HZ.out.1⟩
        obtain⟨n0,n1,-⟩:=HZ.out.1.cells;have hnl:=xd HZ.out.1.box;clear hi3 hoff HZ hlf3 hxl3
        go_wp2_with (first
         | (go_at_call 33;refine HOFF.out.mono ?_;rintro e w13 ⟨rfl,h5⟩;obtain rfl:w9=w13:=h5.symm)
         | (go_at_call 68;refine HSM.out.mono ?_;rintro e w14 ⟨rfl,hg⟩;have HG14:=zd hg;clear hg))
        exact⟨⟨ow3,vb,V3,al3,bl3,life3,l3,_,k+1,by have:=HLT.out;omega,by simp,rfl,rfl,HMM.out.grown HG14.out⟩,by have:=HLT.out;simp[intOf];omega⟩
        --F1
       ·--F0
        have hoff:=hr3.dr.off;rw[show V3.S.d.off=false from hi3.inv.off] at hoff
        have HOFF:=zd hoff;have HSM:=zd (Xu hr3 hi3 hlf3 hxl3 hjb.v (by have:=HLT.out.2;omega) rfl)
        have HMM:Hid (Qh W ow3 vb db nb V3 al3 bl3 life l0 (.slice pa l0.length ca) (k+1) wc):=zd ⟨hr3,hi3,hlf3,hxl3,by simp only[Int.natCast_add,Int.natCast_one];omega,h43,hjb.v⟩
        obtain⟨n0,n1,-⟩:=hjb.v.cells;have hnl:=xd hjb.v.box;have hb1:(e3 == 0)=false:=by simp[he0]
        have hb2:(e3 == 180)=false:=by simp[he180]
        clear hi3 hoff hr3 hjb hlf3 hxl3
        go_wp2_with (first
         | (go_at_call 33;refine HOFF.out.mono ?_;rintro e w13 ⟨rfl,h5⟩;obtain rfl:wc=w13:=h5.symm)
         | (go_at_call 68;refine HSM.out.mono ?_;rintro e w14 ⟨rfl,hg⟩;have HG14:=zd hg;clear hg))
        exact⟨⟨ow3,vb,V3,al3,bl3,life,l0,_,k+1,by have:=HLT.out;omega,by simp,rfl,rfl,HMM.out.grown HG14.out⟩,by have:=HLT.out;simp[intOf];omega⟩
        --F1
       ·--F0
        obtain⟨pn,cn,hpn,-,-⟩:=uk.form hjb.t.row;subst hpn;have hoff:=hd3.off;rw[ho3] at hoff;have HOFF:=zd hoff;have HON:=zd (hd3.on HX.out.f HX.out.fb (by have:=HXL.out.2.2;omega))
        obtain⟨a1,a2,a3,a4,al4,blk4,hP,hgood⟩:=hg3.on ho3 x.F;obtain⟨Xx,hvx,hsel⟩:∃Xx,Zx Xx al4∧(Xx=X1∨Xx=X2):=hP.elim (fun e=>⟨X1,e,Or.inl rfl⟩) (fun e=>⟨X2,e,Or.inr rfl⟩)
        have HA:=zd (show _∧_∧_∧_∧_∧_ from ⟨a1,a2,a3,a4,hgood,hvx⟩)
        have HJB:=zd hjb;have HSEL:=zd hsel;have HX12:=zd (show _∧_∧_∧_ from ⟨hX1,hXL1,hX2,hXL2⟩)
        obtain⟨z0,z1,z2,z3,z4,z6,z7⟩:=HLD.out wc _ hjb.c;have hxl:=xg z0;clear hd3 ho3 hg3 a1 a2 a3 a4 hP hgood hvx hjb hsel hoff hX1 hXL1 hX2 hXL2
        go_upto_region 32 with (first
         | (go_at_call 33;refine HOFF.out.mono ?_;rintro e w13 ⟨rfl,h5⟩;obtain rfl:wc=w13:=h5.symm)
         | (go_at_call 34;refine HON.out.mono ?_;rintro e w14 ⟨rfl,hd,ht⟩;have HD14:=zd hd;have HT14:=zd ht;clear hd ht))
        have HJB1:=zd (HJB.out.turn HT14.out);clear z0 z1 z2 z3 z4 z6 z7 hxl;obtain⟨z0,z1,z2,z3,z4,z6,z7⟩:=HLD.out w14 _ HJB1.out.c;have hxl:=xg z0;have HFA:=zd (HD14.out.fail (bits .and .i64 x.n 7) (zlj _ _ _));have HMID:Hid (∀w,DR W ow3 db ((d3.on x.F).failed (bits .and .i64 x.n 7)) w→Calls Tryz.prog 61 #[.pointer (some ⟨db,0,none⟩)] w fun e w'=>∃y z d',e = .returned (.tuple #[y,z])∧DR W ow3 db d' w'∧DG d' n3 (Zx Xx) ((k:Int)+2)∧zq (fun q=>¬ow3 q) w w'):=zd fun w h=>by
         have h1:=h.vmid HA.out.1.1 HA.out.2.1 (fun i _=>HA.out.2.2.2.1 i) (by show(d3.on x.F).n≤4096;rw[HA.out.2.2.1];exact h43) (show(k:Int)+2≤1000 by have:=HLT.out.2;omega) (by rw[show((d3.on x.F).failed (bits .and .i64 x.n 7)).n=n3 from HA.out.2.2.1];exact HA.out.2.2.2.2.1) HA.out.2.2.2.2.2
         rw[show((d3.on x.F).failed (bits .and .i64 x.n 7)).n=n3 from HA.out.2.2.1] at h1
         exact h1
        go_upto_region 35 with (first
         | (go_at_call 28;refine HFA.out.mono ?_;rintro e w15 ⟨rfl,hd,ht⟩;have HD15:=zd hd;have HT15:=zd ht;clear hd ht)
         | (go_at_call 61;refine(HMID.out _ HD15.out).mono ?_;rintro e w16 ⟨y,z,d5,rfl,hd,hg,ht⟩;have HD16:=zd hd;have HG16:=zd hg;have HT16:=zd ht;clear hd hg ht)
         | (go_at_call 41;refine HD16.out.crash.mono ?_;rintro e w17 ⟨rfl,hd,ht⟩;have HD17:=zd hd;have HT17:=zd ht;clear hd ht))
        have HJB2:=zd (((HJB1.out.turn HT15.out).turn HT16.out).turn HT17.out);clear z0 z1 z2 z3 z4 z6 z7 hxl;obtain⟨z0,z1,z2,z3,z4,z6,z7⟩:=HLD.out w17 _ HJB2.out.c;have hxl:=xg z0;have HON2:=zd (HD17.out.on HX.out.f HX.out.fb (by have:=HXL.out.2.2;omega))
        obtain⟨a1,a2,a3,a4,al5,blk5,hP,hgood⟩:=HG16.out.crashed.on rfl x.F;have HOP:Hid (∀w,DR W ow3 db (d5.crashed.on x.F) w→Calls Tryz.prog 61 #[.pointer (some ⟨db,0,none⟩)] w fun e w'=>∃vb V al blk,e = .returned (.tuple #[.pointer (some ⟨vb,0,none⟩),.int .i64 0])∧VR W ow3 vb db V w'∧VI V al blk∧vx al=Xx∧yi V.S.d∧V.S.next≤(k:Int)+2∧V.S.d.n≤4096∧zq (fun q=>¬ow3 q) w w'):=zd fun w h=>by
         refine(h.vopen_ a1 a2 (fun i _=>a4 i) (by rw[a3];exact h43) (show(k:Int)+2≤1000 by have:=HLT.out.2;omega) (by rw[a3];exact hgood) hP).mono ?_
         rintro e w' ⟨vb,V,al,blk,rfl,h1,h2,h3,h4,h5,h6,h7,-,-⟩
         exact⟨vb,V,al,blk,rfl,h1,h2,h3,h4,h5,by rw[h6,a3];exact h43,h7⟩
        clear HA HFA HMID HON HOFF HJB HJB1 HD14 HD15 HD16 HD17 HT14 HT15 HT16 HT17 HG16 a1 a2 a3 a4 hP hgood
        go_upto_region 37 with (first
         | (go_at_call 34;refine HON2.out.mono ?_;rintro e w18 ⟨rfl,hd,ht⟩;have HD18:=zd hd;have HT18:=zd ht;clear hd ht)
         | (go_at_call 61;refine(HOP.out _ HD18.out).mono ?_;rintro e w19 ⟨vb2,V5,al6,blk6,rfl,hr,hi,hx6,hs,hn,hn4,ht⟩;have HR19:=zd hr;have HI19:=zd (show _∧_∧_∧_∧_ from ⟨hi,hs,hn,hn4,hx6⟩);have HJB3:=zd ((HJB2.out.turn HT18.out).turn ht);clear hr hi hx6 hs hn hn4 ht))
        clear HON2 HOP HD18 HT18 HJB2 z0 z1 z2 z3 z4 z6 z7 hxl;have hvl:V5.sh.length≤1000:=by
         have hsm:∃life9 l9,l9.length≤k+1∧Ur V5 life9 l9:=by
          rcases HSEL.out with e|e
          ·exact⟨_,l0,HJB3.out.v.few,HI19.out.1.same (by rw[HI19.out.2.2.2.2,e];exact HX12.out.2.1)⟩
          ·exact⟨_,l3,HJB3.out.t.few,HI19.out.1.same (by rw[HI19.out.2.2.2.2,e];exact HX12.out.2.2.2)⟩
         obtain⟨life9,l9,h1,h2⟩:=hsm;have:=h2.2.1;have:=HLT.out.2;omega
        have HSM:=zd (zla HR19.out hvl HJB3.out.v (by have:=HLT.out.2;omega) rfl)
        obtain⟨n0,n1,nf⟩:=HJB3.out.v.cells;obtain⟨t0,t1,-⟩:=HJB3.out.t.cells;have hnl:=xd HJB3.out.v.box;have htl:=xd HJB3.out.t.box;clear hvl
        go_upto_region 39 with fail
        go_cut [148] from 141 to 148 (fun o wx=>∃r:Bool,o = .bool r∧(r=true↔¬Ur V5 life l0)∧w19.grownBy wx none)
        case first=>
         go_wp2_with (go_at_call 68;refine HSM.out.mono ?_;rintro e w20 ⟨r,rfl,hg,hr⟩;have HG20:=zd hg;have HR20:=zd hr;clear hg hr)
         go_meet
         case rel=>exact⟨!r,rfl,by rw[←HR20.out];simp,HG20.out⟩
        case rest=>
         obtain⟨r,rfl,hr,hg⟩:=hcut;have HJB4:=zd (HJB3.out.grown hg);have HR20:=zd (HR19.out.grown hg);have HRR:=zd hr;clear n0 n1 nf t0 t1 hnl htl HSM HR19 HJB3 hg hr;generalize wc=wd at *
         go_upto_if 148 with fail
         go_cut [] from 149 to 149 (fun wx=>∃life9 l9 a9,Qh W ow3 vb2 db nb V5 al6 blk6 life9 l9 a9 (k+1) wx)
         case first=>
          obtain⟨n0,n1,nf⟩:=HJB4.out.v.cells;obtain⟨t0,t1,-⟩:=HJB4.out.t.cells;have hnl:=xd HJB4.out.v.box;have htl:=xd HJB4.out.t.box
          cases r with
          | false=>
           have hsw:Ur V5 life l0:=Classical.byContradiction fun e=>by have:=HRR.out.2 e;cases this
           have hof:=HI19.out.1.of_same HX12.out.2.1.nd hsw;have HMM:Hid (Qh W ow3 vb2 db nb V5 al6 blk6 life l0 (.slice pa l0.length ca) (k+1) wd):=zd ⟨HR20.out,HI19.out.1,hof.1,hof.2,by have:=HI19.out.2.2.1;simp only[Int.natCast_add,Int.natCast_one];omega,HI19.out.2.2.2.1,HJB4.out.v⟩
           clear hsw hof;go_wp2
           go_meet
           case rel=>exact⟨life,l0,_,HMM.out⟩
          | true=>
           have hns:¬Ur V5 life l0:=HRR.out.1 rfl;have hx2:Xx=X2:=HSEL.out.elim (fun e=>absurd (by
            have h5:=HI19.out.1.same (l:=l0) (by rw[HI19.out.2.2.2.2,e];exact HX12.out.2.1)
            rw[HI19.out.2.2.2.2,e,HX12.out.1] at h5
            exact h5) hns) id
           have HMM:Hid (Qh W ow3 vb2 db nb V5 al6 blk6 life3 l3 (.slice pn l3.length cn) (k+1) ((wd.setCell ⟨nb,0,none⟩ (.int .i64 life3)).setCell ⟨nb,1,none⟩ (.slice pn l3.length cn))):=zd ⟨HR20.out.keepB HJB4.out.v.nbo HJB4.out.take.2.1 HJB4.out.take.2.2,HI19.out.1,by rw[HI19.out.2.2.2.2,hx2];exact HX12.out.2.2.1,by rw[HI19.out.2.2.2.2,hx2];exact HX12.out.2.2.2,by have:=HI19.out.2.2.1;simp only[Int.natCast_add,Int.natCast_one];omega,HI19.out.2.2.2.1,HJB4.out.take.1⟩
           clear hns hx2;go_wp2
           go_meet
           case rel=>exact⟨life3,l3,_,HMM.out⟩
         case rest=>
          obtain⟨life9,l9,a9,hm9⟩:=hcut;have HM9:=zd hm9;obtain⟨p9,c9,h9,-,-⟩:=uk.form hm9.hb.row;subst h9;clear hm9 HJB4 HR20 HRR HSEL HX12;have HAG:=zd (HM9.out.vr.again HM9.out.vi HI19.out.2.1 (by have:=HI19.out.2.2.1;have:=HLT.out.2;omega) HM9.out.n)
          go_upto_region 42 with (go_at_call 61;refine HAG.out.mono ?_;rintro e w22 ⟨vb3,V6,rfl,hr,hr2,hi2,ht⟩;have HRA:=zd hr;have HRB:=zd hr2;have HI6:=zd hi2;have HBY:=zd (HM9.out.hb.turn ht);clear hr hr2 hi2 ht)
          obtain⟨n0,n1,-⟩:=HBY.out.cells;have hnl:=xd HBY.out.box;have HS1:=zd (Xu HRB.out HI6.out HM9.out.lf HM9.out.xl HBY.out (by have:=HLT.out.2;omega) rfl)
          go_upto_region 44 with (go_at_call 68;refine HS1.out.mono ?_;rintro e w23 ⟨rfl,hg⟩;have HG23:=zd hg;clear hg)
          have HBZ:=zd (HBY.out.grown HG23.out);have HRZ:=zd (HRA.out.grown HG23.out);clear n0 n1 hnl HS1 HBY HRA HRB HG23 HAG;obtain⟨n0,n1,-⟩:=HBZ.out.cells;have hnl:=xd HBZ.out.box;have HS2:=zd (Xu HRZ.out HM9.out.vi HM9.out.lf HM9.out.xl HBZ.out (by have:=HLT.out.2;omega) rfl)
          go_wp2_with (go_at_call 68;refine HS2.out.mono ?_;rintro e w24 ⟨rfl,hg⟩;have HG24:=zd hg;clear hg)
          exact⟨⟨ow3,vb2,V5,al6,blk6,life9,l9,_,k+1,by have:=HLT.out;omega,by simp,rfl,rfl,⟨HRZ.out.grown HG24.out,HM9.out.vi,HM9.out.lf,HM9.out.xl,HM9.out.next,HM9.out.n,HBZ.out.grown HG24.out⟩⟩,by have:=HLT.out;simp[intOf];omega⟩
        --F1
    ·go_wp2_with (go_at_call 60;refine(HW.out _).mono ?_;rintro e w9 ⟨rfl,hg⟩;have HG9:=zd hg;clear hg)
     go_ret
     exact⟨rfl,zo HK.out.vr.gr HG9.out⟩
end Go.Proofs.YtbcbhlfjgobejaaGreat
