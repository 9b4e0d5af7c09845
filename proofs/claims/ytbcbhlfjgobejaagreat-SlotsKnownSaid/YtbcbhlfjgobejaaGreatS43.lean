/- starfishref19's Put, whole: the walk. Conditions: none, or as the theorems say. -/
import Derived.Test.YtbcbhlfjgobejaaGreatS1
import Derived.Test.YtbcbhlfjgobejaaGreatS42
set_option linter.unusedSimpArgs false
set_option linter.unusedVariables false
namespace Go.Proofs.YtbcbhlfjgobejaaGreat
set_option maxHeartbeats 200000000
open Go.RowKit Go.Sf Go.Shelf
section
variable {rsd rss : Nat → Prop} {W : World} {sb db : Nat} {R : RDk} {L : List (Int × ye)} {next broken : Int} {b : List Int}
set_option maxRecDepth 100000 in
theorem znl (h:qg rsd rss W sb db R L next 0) (hk:DOk ⟨R,L,next,0⟩) (hbb:BL b) (hl:b.length≤131072) (hn:next≤4611686018427387904) (hf:yf R+600<1000000):Calls Tryz.prog 121 #[.pointer (some ⟨sb,0,none⟩),.string (ofB b)] W (Xr rsd rss W sb db ⟨R,L,next,0⟩ b):=by
 obtain⟨i0,z0,by0,hi,hz0,hz1,hz2,hz3,hz4⟩:=zkd;have H:=zd h;have hn0:1≤next:=hk.n0;have HLN:Hid (L.length≤100000):=(show _≤_ from hk.len)
 obtain⟨kn,hkn⟩:∃kn:Nat,next=(kn:Int):=⟨next.toNat,by omega⟩
 have HKN:=zd hkn;have HFR:=zd (rfree h.d h.s hk.bl (λy hy=>(hk.bn y hy).2))
 have HBB:=zd hbb;have HF:=zd hf;obtain⟨c0,c2,c3,y,hsl⟩:=h.s.all;have hp0:=qu b.length;have hp1:zk b.length≤570:=by unfold zk;omega
 have HX:Hid (∀j,(⟨R,L,next,0⟩:Doc).part b j=((jg (qh L) R.blocks.length).getD j 0,xe zo ⟨next,j,zk b.length,xy b j⟩)):=(λ_=>rfl)
 have HE:Hid ((⟨R,L,next,0⟩:Doc).put b=if (jg (qh L) R.blocks.length).length<zk b.length then (⟨R,L,next,0⟩,0,181)
  else if (putsR R ((⟨R,L,next,0⟩:Doc).part b) (zk b.length)).2≠0 then (⟨(putsR R ((⟨R,L,next,0⟩:Doc).part b) (zk b.length)).1,L,next,(putsR R ((⟨R,L,next,0⟩:Doc).part b) (zk b.length)).2⟩,0,(putsR R ((⟨R,L,next,0⟩:Doc).part b) (zk b.length)).2)
  else if (putsR R ((⟨R,L,next,0⟩:Doc).part b) (zk b.length)).1.syncV≠0 then (⟨(putsR R ((⟨R,L,next,0⟩:Doc).part b) (zk b.length)).1.synced,L,next,(putsR R ((⟨R,L,next,0⟩:Doc).part b) (zk b.length)).1.syncV⟩,0,(putsR R ((⟨R,L,next,0⟩:Doc).part b) (zk b.length)).1.syncV)
  else (⟨(putsR R ((⟨R,L,next,0⟩:Doc).part b) (zk b.length)).1.synced,L ++ [(next,(b,(jg (qh L) R.blocks.length).take (zk b.length)))],next+1,0⟩,next,0)):=(show _=_ from by
  unfold Doc.put;rw[if_neg (λe=>e rfl),if_neg (show ¬(131072<b.length∨4611686018427387904<next) by omega)]
  rfl)
 obtain⟨PP,hPP⟩:∃PP,PP=Xr rsd rss W sb db ⟨R,L,next,0⟩ b:=⟨_,rfl⟩;have HPUT:Hid (∀(D':Doc) (k' e':Int) (w':World),(⟨R,L,next,0⟩:Doc).put b=(D',k',e')→DocP rsd rss W sb db D' w'→PP (.returned (.tuple #[.int .i64 k',.int .i64 e'])) w'):=(λD' k' e' w' h1 h2=>by
  rw[hPP];unfold Xr;rw[h1]
  exact⟨rfl,h2⟩)
 rw[←hPP];clear hPP;have HPT:Hid (∀w,Calls Tryz.prog 16 #[.int .i64 ((ofB b).size:Int)] w λe w'=>e = .returned (.int .i64 (zk b.length:Int))∧w'=w):=(λw=>by
  have:=Ud (b.length:Int) (by omega) w
  rw[if_neg (by omega),Int.toNat_natCast] at this
  rw[yu]
  exact this)
 have HSZ:Hid ((ofB b).size=b.length):=(show _=_ from yu b)
 have hs1:(ofB b).size≤131072:=by rw[yu];exact hl
 have HEXT:Hid (∀lo hi,(ofB b).extract lo hi=ofB ((b.take hi).drop lo)):=(λlo hi=>zlg b lo hi)
 have HSB:Hid (ofB b=ofB b):=(show _=_ from rfl)
 obtain⟨s,hs⟩:∃s,s=ofB b:=⟨_,rfl⟩;rw[←hs] at HPT HSZ hs1 HEXT ⊢;have HSE:=zd hs;have HLB:=zd hl;clear h hk hs hbb hf hkn hl HSB;generalize hx:(⟨R,L,next,0⟩:Doc).part b=x at *;generalize hfr:jg (qh L) R.blocks.length=fr at *;clear hx hfr;generalize hnn:zk b.length=n at *;have HNN:=zd hnn;clear hnn
 go_enter Tryz.func121,Tryz.ntmps121
 go_upto_region 7 with (first
  | (go_at_call 16;refine(HPT.out _).mono ?_;rintro e w1 ⟨rfl,h5⟩;obtain rfl:W=w1:=h5.symm)
  | (go_at_call 115;refine HFR.out.mono ?_;rintro e w1 ⟨v,rfl,hrow,hg⟩;obtain⟨pf,cf,hv,hcm,hlc⟩:=hrow.1.form;subst hv;have HROW:=zd hrow;have HG:=zd hg;clear hrow hg HFR HPT))
 by_cases hfn:fr.length<n
 ·have HQ:=zd (HPUT.out _ _ _ w1 (by rw[HE.out,if_pos hfn]) (qg.here ⟨R,L,next,0⟩ H.out HG.out))
  clear HPUT HE;go_wp2
  first|exact HQ.out|(go_ret2;exact HQ.out)
 ·have HE2:=zd (show _=_ from HE.out.trans (if_neg hfn))
  have hncf:n≤cf:=by omega
  obtain⟨a0,a2,a3,ay,asl⟩:=(H.out.s.kept HG.out).all;clear HE hlc
  go_upto_region 9 with fail
  refine qH (S:=λw':World=>w'.cell? ⟨sb,2,none⟩=some (.int .i64 next)∧True) ⟨a2,trivial⟩ (λhHeld=>?_)
  refine qT 0 ?_;refine qT 1 ?_;refine qT 2 ?_;refine qT 3 ?_;refine qT 4 ?_;refine qT 5 ?_;refine qT 6 ?_;refine qT 7 ?_ (v:=.slice pf n cf);refine qT 8 ?_ (v:=.agg #[.int .i64 next,.string s,.slice pf n cf]);refine qO 9 λK hK=>?_
  refine ui rfl (Yk 198 rfl zeroRc) ?_;have hg5:=ze w1.drew (.cells #[.int .i64 0,.string ⟨#[]⟩,.slice none 0 0] 198) none;refine hK.out _ _ ⟨hg5.cell hHeld.1 (by simp),trivial⟩ (λhHeld=>?_)
  clear hK K;refine qO 10 λK hK=>?_
  refine uq rfl (jt 198 _ _ rfl _ #[.int .i64 next,.string s,.slice pf n cf] _ rfl rfl (by kernel_rfl) rfl (rc_all _ _ _ _ _)) ?_
  have hg6:=ze w1.drew (.cells #[.int .i64 next,.string s,.slice pf n cf] 198) none;refine hK.out _ _ ⟨hg6.cell a2 (by simp),trivial⟩ (λhHeld=>?_)
  clear hK K;refine qD ?_;have HGZ:=zd (zp (zj HG.out) (.cells #[.int .i64 next,.string s,.slice pf n cf] 198));have HRB:=zd (heap_alloc_new w1.drew (.cells #[.int .i64 next,.string s,.slice pf n cf] 198));have HZ1:Hid (W.heap.size≤w1.drew.heap.size∧w1.drew.heap.size<(w1.drew.alloc (.cells #[.int .i64 next,.string s,.slice pf n cf] 198)).heap.size):=(show _∧_ from ⟨HG.out.size,by simp⟩)
  have HROWZ:=zd (HROW.out.1.grown (zp (zj (zi w1)) (.cells #[.int .i64 next,.string s,.slice pf n cf] 198)) (by simp))
  have HRWB:Hid (∀g,(Value.slice pf fr.length cf).ownBlock=some g→W.heap.size≤g∧g<w1.drew.heap.size):=(λg hg=>⟨HROW.out.2 g hg,yl.lt HROW.out.1 hg⟩)
  clear hHeld a0 a2 a3 ay asl HROW HG;generalize w1.drew.alloc (.cells #[.int .i64 next,.string s,.slice pf n cf] 198)=wz at *;generalize w1.drew.heap.size=rb at *;have HD0:Hid (R18 (ua rsd wz wz) wz db (putsR R x 0).1):=(show R18 _ _ _ _ from (H.out.d.kept HGZ.out).new (zi _))
  have HRS:Hid (∀q,rsd q→q<W.heap.size):=(λq hq=>H.out.d.lt hq)
  have HSS:Hid (∀q,rss q→q<W.heap.size):=(λq hq=>by
   obtain⟨lv,ms,hA⟩:=H.out.s
   exact hA.lt q hq)
  go_upto_region 11 with fail
  go_loopw [9] (λi wr=>∃j:Nat,j≤n∧i = .int .i64 (j:Int)∧(putsR R x j).2=0∧R18 (ua rsd wz wr) wr db (putsR R x j).1∧zm rsd wz wr) (λi _=>n-(intOf i).toNat)
  case atStart=>exact⟨0,by omega,rfl,rfl,HD0.out,zm.refl _ _⟩
  case round=>
   clear HD0;obtain⟨j,hj,rfl,h0,hr,ht⟩:=hrel;have HH0:=zd h0;have HR:=zd hr;have HT:=zd ht;have HS:=zd ((H.out.s.kept HGZ.out).past H.out.ap ht);have hrb:wr.heap[rb]? = some (.cells #[.int .i64 next,.string s,.slice pf n cf] 198 (0,0)):=(ht.block rb HZ1.out.2 (λe=>by have:=HRS.out rb e;have:=HZ1.out.1;omega)).trans HRB.out
   have HRBW:=zd hrb;have r0:wr.cell? ⟨rb,0,none⟩=some (.int .i64 next):=(zf hrb 0).trans rfl;obtain⟨a0,a2,a3,ay,asl⟩:=HS.out.all;clear h0 hr ht hrb
   by_cases hjn:j<n
   ·have hjf:j<fr.length:=by omega
    obtain⟨gb,hgb,hgz,hcz⟩:∃gb,pf=some ⟨gb,0,none⟩∧(W.heap.size≤gb∧gb<wz.heap.size)∧wz.cell? ⟨gb,j,none⟩=some (.int .i64 (fr[j]:Int)):=by
     rcases yl.at zau HROWZ.out with e0|⟨g,c,e,hc,_⟩
     ·rw[e0] at hjf;simp at hjf
     ·injection e with e1
      have h1:=hc j hjf 0 _ rfl;rw[Nat.mul_one,Nat.add_zero] at h1;have h2:=HRWB.out g (by rw[e1];rfl)
      exact⟨g,e1,⟨h2.1,by have:=HZ1.out.2;omega⟩,h1⟩
    have HCC:Hid (∀w',zm rsd wz w'→w'.cell? ⟨gb,j,none⟩=some (.int .i64 (fr[j]:Int))∧w'.cell? ⟨rb,0,none⟩=some (.int .i64 next)∧gb≠sb∧rb≠sb∧gb<w'.heap.size∧rb<w'.heap.size):=(λw' ht=>⟨(World.cell?_of_block (a:=⟨gb,j,none⟩) (ht.block gb hgz.2 (λe=>by have:=HRS.out gb e;omega))).trans hcz,(World.cell?_of_block (a:=⟨rb,0,none⟩) (ht.block rb HZ1.out.2 (λe=>by have:=HRS.out rb e;have:=HZ1.out.1;omega))).trans ((zf HRB.out 0).trans rfl),by omega,by have:=HZ1.out.1;omega,by have:=ht.size;omega,by have:=ht.size;have:=HZ1.out.2;omega⟩)
    have hca:=(HCC.out wr HT.out).1;clear hcz hgz;subst hgb;have hgl:=xi hca;have hpj:j*230≤s.size:=by
     have h1:j<zk b.length:=by rw[HNN.out];exact hjn
     rw[HSZ.out];unfold zk at h1;omega
    have HXJ:Hid (x j=(fr[j],xe zo ⟨next,j,n,xy b j⟩)):=(show _=_ from by
     rw[HX.out j,List.getD_eq_getElem?_getD,List.getElem?_eq_getElem hjf]
     rfl)
    generalize fr[j]=at_ at *;obtain⟨lo,hlo⟩:∃lo,lo=j*230:=⟨_,rfl⟩;obtain⟨l2,hl2⟩:∃l2,l2=(j+1)*230:=⟨_,rfl⟩;obtain⟨hi_,hhi⟩:∃hi,hi=min s.size l2:=⟨_,rfl⟩;have hm1:IntKind.i64.wrap ((j:Int)*230)=(lo:Int):=by rw[IntKind.wrap_i64];omega
    have hm2:IntKind.i64.wrap ((j:Int)+1)=(j:Int)+1:=by rw[IntKind.wrap_i64];omega
    have hm3:IntKind.i64.wrap (((j:Int)+1)*230)=(l2:Int):=by rw[IntKind.wrap_i64];omega
    have hm4:min (s.size:Int) (l2:Int)=(hi_:Int):=by omega
    have hm5:hi_≤s.size∧lo≤hi_:=by omega
    have hex:s.extract lo hi_=ofB (xy b j):=by
     rw[HEXT.out]
     congr 1
     unfold xy;rw[List.drop_take,←hlo];have hsz:=HSZ.out
     rcases Nat.le_total 230 (b.length-lo) with h1|h1
     ·rw[show hi_-lo=230 by omega]
     ·rw[List.take_of_length_le (by rw[List.length_drop];omega),List.take_of_length_le (by rw[List.length_drop];omega)]
    have hch:(xy b j).length=hi_-lo:=by have:=HSZ.out;rw[Qm];omega
    have hcb:BL (xy b j):=(HBB.out.drop _).take _;obtain⟨EX,hEX⟩:∃EX,EX=xe zo ⟨next,j,n,xy b j⟩:=⟨_,rfl⟩;have hEXB:BL EX:=by rw[hEX];exact Qn hcb
    have HBK:Hid (Calls Tryz.prog 23 #[.int .i64 next,.int .i64 (j:Int),.int .i64 (n:Int),.string (ofB (xy b j))] wr.drew λe w'=>e = .returned (.string (ofB EX))∧wr.drew.grownBy w' none):=(by
     have:=Xn kn j n (ofB (xy b j)) (by have:=HKN.out;omega) (by omega) (by omega) (by rw[yu];omega) wr.drew
     rw[qy hcb,←HKN.out,←hEX] at this
     exact this)
    have HWR:Hid (∀w5,wr.drew.grownBy w5 none→Calls Tryz.prog 44 #[.pointer (some ⟨db,0,none⟩),.int .i64 (at_:Int),.string (ofB EX)] w5 λe w'=>e = .returned (.int .i64 ((putsR R x j).1.writeV (at_:Int) EX))∧R18 (ua rsd wz w') w' db ((putsR R x j).1.written (at_:Int) EX)∧zm rsd wz w'∧zm (ua rsd wz w5) w5 w'):=(λw5 hg5=>by
     have hg:wr.grownBy w5 none:=zh (zj (zi _)) hg5;have hlow:∀q,rsd q→q<wz.heap.size:=λq hq=>Nat.lt_of_lt_of_le (HRS.out q hq) HGZ.out.size
     have h1:=HR.out.upn hg hlow HT.out.size;refine(zhd h1 (at_:Int) (ofB EX) (by rw[yu,hEX,js (by show(xy b j).length≤230;omega)];omega) (by have:=zkr (R:=R) (x:=x) j;have:=HF.out;omega)).mono ?_
     rintro e w' ⟨rfl,h2,h3⟩;rw[qy hEXB] at h2 ⊢
     exact⟨rfl,h2.upw hlow (Nat.le_trans HT.out.size hg.size) h3.size,qo (HT.out.trans (vh hg)) h3,h3⟩)
    have HXE:Hid (x j=(at_,EX)):=(show _=_ from by rw[HXJ.out,hEX])
    have HPO:Hid ((putsR R x (j+1))=((putsR R x j).1.written (at_:Int) EX,(putsR R x j).1.writeV (at_:Int) EX)):=(show _=_ from by rw[zee HH0.out,HXE.out])
    have HM1:=zd hm1;have HM2:=zd hm2;have HM3:=zd hm3;have HM4:=zd hm4;have HM5:=zd hm5;have HEXX:=zd hex;obtain⟨ev,hev⟩:∃ev,ev=(putsR R x j).1.writeV (at_:Int) EX:=⟨_,rfl⟩;rw[←hev] at HWR HPO;have HSD:Hid (∀w5 w6,wr.drew.grownBy w5 none→zm (ua rsd wz w5) w5 w6→zm rsd wz w6→S19 rss w6 sb db L next 0):=(λw5 w6 _ _ ht=>(H.out.s.kept HGZ.out).past H.out.ap ht)
    clear hm1 hm2 hm3 hm4 hm5 hex hch hcb hEX hEXB hpj hlo hl2 hhi hev HXJ HXE
    go_upto_region 13 with fail
    by_cases hez:ev=0
    ·subst hez
     refine qH (S:=λw':World=>w'.cell? ⟨sb,0,none⟩=some (.pointer (some ⟨db,0,none⟩))∧w'.cell? ⟨gb,j,none⟩=some (.int .i64 (at_:Int))∧w'.cell? ⟨rb,0,none⟩=some (.int .i64 next)∧True) ⟨a0,hca,r0,trivial⟩ (λhHeld=>?_)
     refine qT 0 ?_;refine qT 1 ?_;refine qT 2 ?_;refine qT 3 ?_;refine qT 4 ?_;refine qT 5 ?_;refine qT 6 ?_;refine qT 7 ?_;refine qT 8 ?_;refine qT 9 ?_;refine qT 10 ?_;refine qT 11 ?_;refine qT 12 ?_;refine qT 13 ?_;refine qT 14 ?_;refine qT 15 ?_ (v:=.int .i64 (lo:Int)) (he:=λw hSw=>by go_simp;first|done|(rw[HM1.out];done)|(simp only[HM1.out];done))
     refine qT 16 ?_;refine qT 17 ?_;refine qT 18 ?_;refine qT 19 ?_ (v:=.int .i64 ((j:Int)+1)) (he:=λw hSw=>by go_simp;first|done|(rw[HM2.out];done)|(simp only[HM2.out];done))
     refine qT 20 ?_ (v:=.int .i64 (l2:Int)) (he:=λw hSw=>by go_simp;first|done|(rw[HM3.out];done)|(simp only[HM3.out];done))
     refine qT 21 ?_ (v:=.int .i64 (hi_:Int)) (he:=λw hSw=>by go_simp;first|done|(rw[HM4.out];done)|(simp only[HM4.out];done))
     refine qT 22 ?_ (v:=.string (ofB (xy b j))) (he:=λw hSw=>by go_simp;rw[if_pos HM5.out.1,if_pos HM5.out.2,HEXX.out])
     refine qO 23 λK hK=>?_
     go_simp
     go_at_call 23
     refine HBK.out.mono ?_;rintro e w5 ⟨rfl,hg5⟩;have HG5:=zd hg5;refine hK.out _ _ ⟨hg5.cell a0 (by simp),hg5.cell hca (by simp),hg5.cell r0 (by simp),trivial⟩ (λhHeld=>?_)
     clear hK K
     (try simp only[Act.put,List.setIfInBounds_toArray,List.set_cons_zero,List.set_cons_succ])
     have HWR5:=zd (HWR.out w5 HG5.out);refine qO 24 λK hK=>?_
     go_simp
     go_at_call 44
     refine HWR5.out.mono ?_;rintro e w6 ⟨rfl,hr6,ht6,hn6⟩;have HD6:=zd hr6;have HT6:=zd ht6;have HS6:=zd (HSD.out w5 w6 HG5.out hn6 ht6);have u0:=HS6.out.all.1;obtain⟨uca,ucr,une1,une2,ul1,ul2⟩:=HCC.out w6 ht6;clear hr6 ht6 hn6;refine hK.out _ _ ⟨u0,uca,ucr,trivial⟩ (λhHeld=>?_)
     clear hK K
     (try simp only[Act.put,List.setIfInBounds_toArray,List.set_cons_zero,List.set_cons_succ])
     have HDO:=zd (Qe HS6.out);refine qO 25 λK hK=>?_
     go_simp
     go_at_call 180
     refine HDO.out.mono ?_;rintro e w7 ⟨rfl,h7⟩;obtain rfl:w6=w7:=h7.symm;refine hK.out _ _ ⟨u0,uca,ucr,trivial⟩ (λhHeld=>?_)
     clear hK K;refine qT 26 ?_;refine qD ?_
     go_wp2_with fail
     go_roundw
     case rel=>exact⟨j+1,by omega,by simp,by rw[HPO.out],by rw[HPO.out];exact HD6.out,HT6.out⟩
     case measure=>simp[intOf];omega
    ·refine qH (S:=λw':World=>w'.cell? ⟨sb,0,none⟩=some (.pointer (some ⟨db,0,none⟩))∧w'.cell? ⟨gb,j,none⟩=some (.int .i64 (at_:Int))∧w'.cell? ⟨rb,0,none⟩=some (.int .i64 next)∧True) ⟨a0,hca,r0,trivial⟩ (λhHeld=>?_)
     refine qT 0 ?_;refine qT 1 ?_;refine qT 2 ?_;refine qT 3 ?_;refine qT 4 ?_;refine qT 5 ?_;refine qT 6 ?_;refine qT 7 ?_;refine qT 8 ?_;refine qT 9 ?_;refine qT 10 ?_;refine qT 11 ?_;refine qT 12 ?_;refine qT 13 ?_;refine qT 14 ?_;refine qT 15 ?_ (v:=.int .i64 (lo:Int)) (he:=λw hSw=>by go_simp;first|done|(rw[HM1.out];done)|(simp only[HM1.out];done))
     refine qT 16 ?_;refine qT 17 ?_;refine qT 18 ?_;refine qT 19 ?_ (v:=.int .i64 ((j:Int)+1)) (he:=λw hSw=>by go_simp;first|done|(rw[HM2.out];done)|(simp only[HM2.out];done))
     refine qT 20 ?_ (v:=.int .i64 (l2:Int)) (he:=λw hSw=>by go_simp;first|done|(rw[HM3.out];done)|(simp only[HM3.out];done))
     refine qT 21 ?_ (v:=.int .i64 (hi_:Int)) (he:=λw hSw=>by go_simp;first|done|(rw[HM4.out];done)|(simp only[HM4.out];done))
     refine qT 22 ?_ (v:=.string (ofB (xy b j))) (he:=λw hSw=>by go_simp;rw[if_pos HM5.out.1,if_pos HM5.out.2,HEXX.out])
     refine qO 23 λK hK=>?_
     go_simp
     go_at_call 23
     refine HBK.out.mono ?_;rintro e w5 ⟨rfl,hg5⟩;have HG5:=zd hg5;refine hK.out _ _ ⟨hg5.cell a0 (by simp),hg5.cell hca (by simp),hg5.cell r0 (by simp),trivial⟩ (λhHeld=>?_)
     clear hK K
     (try simp only[Act.put,List.setIfInBounds_toArray,List.set_cons_zero,List.set_cons_succ])
     have HWR5:=zd (HWR.out w5 HG5.out);refine qO 24 λK hK=>?_
     go_simp
     go_at_call 44
     refine HWR5.out.mono ?_;rintro e w6 ⟨rfl,hr6,ht6,hn6⟩;have HD6:=zd hr6;have HT6:=zd ht6;have HS6:=zd (HSD.out w5 w6 HG5.out hn6 ht6);have u0:=HS6.out.all.1;obtain⟨uca,ucr,une1,une2,ul1,ul2⟩:=HCC.out w6 ht6;clear hr6 ht6 hn6;refine hK.out _ _ ⟨u0,uca,ucr,trivial⟩ (λhHeld=>?_)
     clear hK K
     (try simp only[Act.put,List.setIfInBounds_toArray,List.set_cons_zero,List.set_cons_succ])
     have HDO:=zd (rdoes HS6.out ev);rw[decide_eq_false hez,if_neg hez] at HDO;refine qO 25 λK hK=>?_
     go_simp
     go_at_call 180
     refine HDO.out.mono ?_;rintro e w7 ⟨rfl,hs7,ht7⟩;have HS7:=zd hs7;have HTB7:=zd ht7;have v0:=hs7.all.1;have v1:=(World.cell?_of_block (a:=⟨gb,j,none⟩) (ht7.block gb ul1 une1)).trans uca;have v2:=(World.cell?_of_block (a:=⟨rb,0,none⟩) (ht7.block rb ul2 une2)).trans ucr;clear hs7 ht7;refine hK.out _ _ ⟨v0,v1,v2,trivial⟩ (λhHeld=>?_)
     clear hK K;refine qT 26 ?_;refine qD ?_;have HPE:=zd (zf0 (R:=R) (x:=x) (i:=j+1) (by rw[HPO.out];exact hez) (n-(j+1)))
     have HQ:Hid (PP (.returned (.tuple #[.int .i64 0,.int .i64 ev])) w7.drew):=(show PP _ _ from by
      refine HPUT.out ⟨(putsR R x j).1.written (at_:Int) EX,L,next,ev⟩ _ _ _ ?_ ⟨ua rsd wz w6,rss,⟨(HD6.out.turn (HTB7.out.mono λq hq e=>by
       subst hq
       rcases e with e|e
       ·obtain⟨lv,ms,hA⟩:=H.out.s
        exact H.out.ap _ e hA.rsb
       ·have:=HGZ.out.size;omega)).kept (zj (zi _)),HS7.out.kept (zj (zi _)),?_⟩,?_,λq hq=>Or.inl hq,?_⟩
      ·have h1:=HPE.out
       rw[show j+1+(n-(j+1))=n by omega,HPO.out] at h1
       rw[HE2.out,h1];simp only;rw[if_pos hez]
      ·intro q hq h2
       rcases hq with e|e
       ·exact H.out.ap q e h2
       ·have:=HSS.out q h2;have:=HGZ.out.size;omega
      ·intro q hq
       rcases hq with e|e
       ·exact Or.inl e
       ·exact Or.inr (by have:=HGZ.out.size;omega)
      ·exact(vh HGZ.out).trans ((HT6.out.mono λq hq=>Or.inl hq).trans ((HTB7.out.mono λq hq=>Or.inr (by
        subst hq;obtain⟨lv,ms,hA⟩:=H.out.s
        exact hA.rsb)).trans (vh (zj (zi _))))))
     obtain⟨-,-,z3,-,-⟩:=HS7.out.all
     go_upto_region 14 with fail
     refine qH (S:=λw':World=>w'.cell? ⟨sb,3,none⟩=some (.int .i64 ev)∧True) ⟨z3,trivial⟩ (λhHeld=>?_)
     refine qT 0 ?_;refine qT 1 ?_;refine qT 2 ?_;refine qT 3 ?_;refine qT 4 ?_;refine qT 5 ?_;refine qD ?_
     go_wp2_with fail
     first|exact HQ.out|(go_ret2;exact HQ.out)
   ·obtain rfl:j=n:=by omega
    have HHJ:=zd (HE2.out.trans (if_neg (λe=>e HH0.out)))
    have HSY:=zd (rsync HR.out);obtain⟨e2,he2⟩:∃e2,e2=(putsR R x j).1.syncV:=⟨_,rfl⟩;rw[←he2] at HSY HHJ;have HLOW:Hid (∀q,ua rsd wz wr q→¬rss q):=(λq hq h2=>by
     rcases hq with e|e
     ·exact H.out.ap q e h2
     ·have:=HSS.out q h2;have:=HGZ.out.size;omega)
    have HUP:Hid (∀q,ua rsd wz wr q→rsd q∨W.heap.size≤q):=(λq hq=>by
     rcases hq with e|e
     ·exact Or.inl e
     ·exact Or.inr (by have:=HGZ.out.size;omega))
    have HFN:=zd (show j≤fr.length by omega)
    clear he2 HE2 HX hfn
    by_cases hez:e2=0
    ·subst hez
     go_upto_region 17 with (first
      | (go_at_call 110;refine HSY.out.mono ?_;rintro e w6 ⟨rfl,hr6,ht6⟩;have HD6:=zd hr6;have HT6:=zd (qo HT.out ht6);have HZ6:=zd ht6.size;have HS6:=zd ((H.out.s.kept HGZ.out).past H.out.ap (qo HT.out ht6));have b0:=HS6.out.all.1;clear hr6 ht6)
      | (go_at_call 180;refine(Qe HS6.out).mono ?_;rintro e w7 ⟨rfl,h7⟩;obtain rfl:w6=w7:=h7.symm))
     obtain⟨lv,ms,hA⟩:=HS6.out;have HA:=zd hA;obtain⟨-,b1,b2,-,bf⟩:=hA.cells;have HML:Hid (ms.length=L.length):=(show _=_ from hA.ok.len)
     have hrb6:w6.heap[rb]? = some (.cells #[.int .i64 next,.string s,.slice pf j cf] 198 (0,0)):=(HT6.out.block rb HZ1.out.2 (λe=>by have:=HRS.out rb e;have:=HZ1.out.1;omega)).trans HRB.out
     have HRB6:=zd hrb6;have k0:w6.cell? ⟨rb,0,none⟩=some (.int .i64 next):=(zf hrb6 0).trans rfl;have k1:w6.cell? ⟨rb,1,none⟩=some (.string s):=(zf hrb6 1).trans rfl;have k2:w6.cell? ⟨rb,2,none⟩=some (.slice pf j cf):=(zf hrb6 2).trans rfl;obtain⟨pl,cl,hlv,-,-⟩:=hA.row.form;subst hlv;have HOL:Hid (∀g,(Value.slice pl ms.length cl).ownBlock=some g→g<W.heap.size):=(λg hg=>HSS.out g (HA.out.rlv g hg))
     have hsr:rb≠sb:=by have:=HZ1.out.1;omega
     have HPOS:Hid (jy (λq=>(Value.slice pf fr.length cf).ownBlock=some q) w6 (.slice pf j cf) (fr.take j)):=(show jy _ _ _ _ from by
      have h1:Jc W wz (.slice pf fr.length cf) fr:=⟨HROWZ.out,λg hg=>(HRWB.out g hg).1⟩
      refine ziy ((zfw h1 (P:=λq=>(Value.slice pf fr.length cf).ownBlock=some q) λk hk=>hk).turn λq hq=>?_) HFN.out cf
      have h2:=HRWB.out q hq
      exact HT6.out.block q (by have:=HZ1.out.2;omega) (λe=>by have:=HRS.out q e;omega))
     have HNS:Hid ((Value.slice pl ms.length cl).ownBlock≠some sb):=(ji hA.row hA.box (by decide))
     clear hA hrb6 a0 a2 a3 ay asl r0;refine qH (S:=λw':World=>w'.cell? ⟨rb,0,none⟩=some (.int .i64 next)∧w'.cell? ⟨rb,1,none⟩=some (.string s)∧w'.cell? ⟨rb,2,none⟩=some (.slice pf j cf)) ⟨k0,k1,k2⟩ (λhHeld=>?_)
     refine qT 0 ?_;refine qT 1 ?_;refine qT 2 ?_;refine qT 3 ?_;refine qT 5 ?_ (v:=.agg #[.int .i64 next,.string s,.slice pf j cf]) (he:=λw hSw=>by(try dsimp only at hSw);obtain⟨s1,s2,s3⟩:=hSw;go_simp;try with_reducible rfl)
     refine qR [4,6] ?_;refine(qC 4 (λK hK=>?_) (qC 6 (λK hK=>?_) qN))
     ·go_simp
      refine hK.out _ _ ⟨k0,k1,k2⟩ (λhHeld=>?_)
      clear hK K;refine qO 6 λK hK=>?_
      refine ui rfl (Jw next s pf j cf _ rfl (by go_simp;try with_reducible rfl)) ?_
      have hgb:=zp (zj (zi w6)) (.cells #[.int .i64 next,.string s,.slice pf j cf] 198);have hyr:=Yz w6.drew ⟨next,b,pf,j,cf⟩;simp only at hyr;rw[←HSE.out] at hyr;have HYR:=zd hyr;clear hyr;generalize w6.drew.alloc (.cells #[.int .i64 next,.string s,.slice pf j cf] 198)=wg at *;refine hK.out _ _ ⟨hgb.cell k0 (by simp),hgb.cell k1 (by simp),hgb.cell k2 (by simp)⟩ (λhHeld=>?_)
      clear hK K;refine qO 7 λK hK=>?_
      refine Zf (E:=198) (sz:=3) (enc:=rcE) (v:=.slice pl ms.length cl) (l:=ms) (m:=[⟨next,b,pf,j,cf⟩]) rfl _ _ 191 rfl qe Zm i0 z0 by0 Tryz.underlying191 hi hz0 hz1 hz2 hz3 (by decide) hz4 rfl (HA.out.row.grown hgb (by simp)) rfl HYR.out (by have:=HML.out;have:=HLN.out;simp;omega) (ms.length+1) (by simp) ?_
      intro p9 c9 w9 hap;have HAP:=zd hap;have hx:∀g,g=sb∨g=rb→(Value.slice pl ms.length cl).ownBlock≠some g:=λg hg e=>by
       rcases hg with h|h
       ·exact HNS.out (h ▸ e)
       ·have:=HOL.out g e;have:=HZ1.out.1;omega
      have y1:=hap.2.1.cell (hgb.cell b1 (by simp)) (λe=>hx sb (Or.inl rfl) e.symm)
      have y2:=hap.2.1.cell (hgb.cell k0 (by simp)) (λe=>hx rb (Or.inr rfl) e.symm)
      have y3:=hap.2.1.cell (hgb.cell k1 (by simp)) (λe=>hx rb (Or.inr rfl) e.symm)
      have y4:=hap.2.1.cell (hgb.cell k2 (by simp)) (λe=>hx rb (Or.inr rfl) e.symm)
      have y5:=hap.2.1.cell (hgb.cell b2 (by simp)) (λe=>hx sb (Or.inl rfl) e.symm)
      have y6:∀i,w9.frozen? ⟨sb,i,none⟩=false:=(λi=>by have:=(hap.2.1.block sb (Array.getElem?_eq_some_iff.1 ((hgb.block sb (Array.getElem?_eq_some_iff.1 HA.out.box).1 (by simp)).trans HA.out.box)).1 (λe=>hx sb (Or.inl rfl) e.symm)).trans ((hgb.block sb (Array.getElem?_eq_some_iff.1 HA.out.box).1 (by simp)).trans HA.out.box);simp[World.frozen?,this])
      have y7:=y6 1;clear hap hx;refine hK.out _ _ ⟨y2,y3,y4⟩ (λhHeld=>?_)
      clear hK K;refine qT 8 ?_;refine qT 9 ?_;refine qO 10 λK hK=>?_
      go_simp
      refine hK.out _ _ ⟨(zv w9 sb 1 _).cell y2 (λe=>hsr (by injection e)),(zv w9 sb 1 _).cell y3 (λe=>hsr (by injection e)),(zv w9 sb 1 _).cell y4 (λe=>hsr (by injection e))⟩ (λhHeld=>?_)
      clear hK K;refine qD ?_;have y56:=y6 1;have y57:=y6 2;have HPU:=zd (HA.out.push (rss':=λq=>rss q∨(W.heap.size≤q∧q<wz.heap.size)∨(w6.heap.size≤q∧q<w9.heap.size)) (rm:=⟨next,b,pf,j,cf⟩) (rq:=(next,(b,fr.take j))) hgb HAP.out (λq hq=>Or.inl hq) (λq h1 h2=>Or.inr (Or.inr ⟨h1,h2⟩)) (λq hq=>by
        have h1:=HGZ.out.size;have h2:=HT6.out.size;have h3:=hgb.size;have h4:=HAP.out.2.1.size
        rcases hq with e|e|e
        ·have:=HSS.out q e;omega
        ·omega
        ·exact e.2) (P:=λq=>(Value.slice pf fr.length cf).ownBlock=some q) ⟨rfl,rfl,HPOS.out⟩ (λq hq=>by
        have h2:=HRWB.out q hq;have h3:=HZ1.out.2;have h4:=HT6.out.size;refine⟨Or.inr (Or.inl ⟨h2.1,by omega⟩),by omega,by omega,λe=>by have:=HOL.out q e;omega⟩) (next+1))
      have HQ:Hid (PP (.returned (.tuple #[.int .i64 next,.int .i64 0])) ((w9.setCell ⟨sb,1,none⟩ (.slice p9 (ms.length+1) c9)).setCell ⟨sb,2,none⟩ (.int .i64 (next+1)))):=(show PP _ _ from by
       refine HPUT.out ⟨(putsR R x j).1.synced,L ++ [(next,(b,fr.take j))],next+1,0⟩ _ _ _ (by rw[HHJ.out,if_neg (λe=>e rfl)]) ⟨ua rsd wz wr,_,⟨HD6.out.turn (HPU.out.2.mono λq hq e=>HLOW.out q e hq),⟨_,_,HPU.out.1⟩,λq hq h2=>?_⟩,HUP.out,λq hq=>?_,?_⟩
       ·rcases h2 with e|e|e
        ·exact HLOW.out q hq e
        ·rcases hq with e2|e2
         ·have:=HRS.out q e2;omega
         ·omega
        ·have:=HZ6.out
         have:=HGZ.out.size
         rcases hq with e2|e2
         ·have:=HRS.out q e2;have:=HT6.out.size;omega
         ·omega
       ·have:=HGZ.out.size
        have:=HT6.out.size
        rcases hq with e|e|e
        ·exact Or.inl e
        ·exact Or.inr e.1
        ·exact Or.inr (by omega)
       ·exact(vh HGZ.out).trans ((HT6.out.mono λq hq=>Or.inl hq).trans (HPU.out.2.mono λq hq=>Or.inr hq)))
      have hwn:IntKind.i64.wrap (next+1)=next+1:=by rw[IntKind.wrap_i64];omega
      clear HPU HPUT HAP hHeld;go_wp2
      first|exact HQ.out|(go_ret2;exact HQ.out)
     ·refine ui rfl (Jw next s pf j cf _ rfl (by go_simp;try with_reducible rfl)) ?_
      have hgb:=zp (zj (zi w6)) (.cells #[.int .i64 next,.string s,.slice pf j cf] 198);have hyr:=Yz w6.drew ⟨next,b,pf,j,cf⟩;simp only at hyr;rw[←HSE.out] at hyr;have HYR:=zd hyr;clear hyr;generalize w6.drew.alloc (.cells #[.int .i64 next,.string s,.slice pf j cf] 198)=wg at *;refine hK.out _ _ ⟨hgb.cell k0 (by simp),hgb.cell k1 (by simp),hgb.cell k2 (by simp)⟩ (λhHeld=>?_)
      clear hK K;refine qO 4 λK hK=>?_
      have c9:=hgb.cell b1 (by simp)
      go_simp
      clear c9;refine hK.out _ _ ⟨hgb.cell k0 (by simp),hgb.cell k1 (by simp),hgb.cell k2 (by simp)⟩ (λhHeld=>?_)
      clear hK K;refine qO 7 λK hK=>?_
      refine Zf (E:=198) (sz:=3) (enc:=rcE) (v:=.slice pl ms.length cl) (l:=ms) (m:=[⟨next,b,pf,j,cf⟩]) rfl _ _ 191 rfl qe Zm i0 z0 by0 Tryz.underlying191 hi hz0 hz1 hz2 hz3 (by decide) hz4 rfl (HA.out.row.grown hgb (by simp)) rfl HYR.out (by have:=HML.out;have:=HLN.out;simp;omega) (ms.length+1) (by simp) ?_
      intro p9 c9 w9 hap;have HAP:=zd hap;have hx:∀g,g=sb∨g=rb→(Value.slice pl ms.length cl).ownBlock≠some g:=λg hg e=>by
       rcases hg with h|h
       ·exact HNS.out (h ▸ e)
       ·have:=HOL.out g e;have:=HZ1.out.1;omega
      have y1:=hap.2.1.cell (hgb.cell b1 (by simp)) (λe=>hx sb (Or.inl rfl) e.symm)
      have y2:=hap.2.1.cell (hgb.cell k0 (by simp)) (λe=>hx rb (Or.inr rfl) e.symm)
      have y3:=hap.2.1.cell (hgb.cell k1 (by simp)) (λe=>hx rb (Or.inr rfl) e.symm)
      have y4:=hap.2.1.cell (hgb.cell k2 (by simp)) (λe=>hx rb (Or.inr rfl) e.symm)
      have y5:=hap.2.1.cell (hgb.cell b2 (by simp)) (λe=>hx sb (Or.inl rfl) e.symm)
      have y6:∀i,w9.frozen? ⟨sb,i,none⟩=false:=(λi=>by have:=(hap.2.1.block sb (Array.getElem?_eq_some_iff.1 ((hgb.block sb (Array.getElem?_eq_some_iff.1 HA.out.box).1 (by simp)).trans HA.out.box)).1 (λe=>hx sb (Or.inl rfl) e.symm)).trans ((hgb.block sb (Array.getElem?_eq_some_iff.1 HA.out.box).1 (by simp)).trans HA.out.box);simp[World.frozen?,this])
      have y7:=y6 1;clear hap hx;refine hK.out _ _ ⟨y2,y3,y4⟩ (λhHeld=>?_)
      clear hK K;refine qT 8 ?_;refine qT 9 ?_;refine qO 10 λK hK=>?_
      go_simp
      refine hK.out _ _ ⟨(zv w9 sb 1 _).cell y2 (λe=>hsr (by injection e)),(zv w9 sb 1 _).cell y3 (λe=>hsr (by injection e)),(zv w9 sb 1 _).cell y4 (λe=>hsr (by injection e))⟩ (λhHeld=>?_)
      clear hK K;refine qD ?_;have y56:=y6 1;have y57:=y6 2;have HPU:=zd (HA.out.push (rss':=λq=>rss q∨(W.heap.size≤q∧q<wz.heap.size)∨(w6.heap.size≤q∧q<w9.heap.size)) (rm:=⟨next,b,pf,j,cf⟩) (rq:=(next,(b,fr.take j))) hgb HAP.out (λq hq=>Or.inl hq) (λq h1 h2=>Or.inr (Or.inr ⟨h1,h2⟩)) (λq hq=>by
        have h1:=HGZ.out.size;have h2:=HT6.out.size;have h3:=hgb.size;have h4:=HAP.out.2.1.size
        rcases hq with e|e|e
        ·have:=HSS.out q e;omega
        ·omega
        ·exact e.2) (P:=λq=>(Value.slice pf fr.length cf).ownBlock=some q) ⟨rfl,rfl,HPOS.out⟩ (λq hq=>by
        have h2:=HRWB.out q hq;have h3:=HZ1.out.2;have h4:=HT6.out.size;refine⟨Or.inr (Or.inl ⟨h2.1,by omega⟩),by omega,by omega,λe=>by have:=HOL.out q e;omega⟩) (next+1))
      have HQ:Hid (PP (.returned (.tuple #[.int .i64 next,.int .i64 0])) ((w9.setCell ⟨sb,1,none⟩ (.slice p9 (ms.length+1) c9)).setCell ⟨sb,2,none⟩ (.int .i64 (next+1)))):=(show PP _ _ from by
       refine HPUT.out ⟨(putsR R x j).1.synced,L ++ [(next,(b,fr.take j))],next+1,0⟩ _ _ _ (by rw[HHJ.out,if_neg (λe=>e rfl)]) ⟨ua rsd wz wr,_,⟨HD6.out.turn (HPU.out.2.mono λq hq e=>HLOW.out q e hq),⟨_,_,HPU.out.1⟩,λq hq h2=>?_⟩,HUP.out,λq hq=>?_,?_⟩
       ·rcases h2 with e|e|e
        ·exact HLOW.out q hq e
        ·rcases hq with e2|e2
         ·have:=HRS.out q e2;omega
         ·omega
        ·have:=HZ6.out
         have:=HGZ.out.size
         rcases hq with e2|e2
         ·have:=HRS.out q e2;have:=HT6.out.size;omega
         ·omega
       ·have:=HGZ.out.size
        have:=HT6.out.size
        rcases hq with e|e|e
        ·exact Or.inl e
        ·exact Or.inr e.1
        ·exact Or.inr (by omega)
       ·exact(vh HGZ.out).trans ((HT6.out.mono λq hq=>Or.inl hq).trans (HPU.out.2.mono λq hq=>Or.inr hq)))
      have hwn:IntKind.i64.wrap (next+1)=next+1:=by rw[IntKind.wrap_i64];omega
      clear HPU HPUT HAP hHeld;go_wp2
      first|exact HQ.out|(go_ret2;exact HQ.out)
    ·go_upto_region 16 with (first
      | (go_at_call 110;refine HSY.out.mono ?_;rintro e w6 ⟨rfl,hr6,ht6⟩;have HD6:=zd hr6;have HT6:=zd (qo HT.out ht6);have HS6:=zd ((H.out.s.kept HGZ.out).past H.out.ap (qo HT.out ht6));have HDO:=zd (rdoes HS6.out e2);have b0:=HS6.out.all.1;rw[decide_eq_false hez,if_neg hez] at HDO;clear hr6 ht6)
      | (go_at_call 180;refine HDO.out.mono ?_;rintro e w7 ⟨rfl,hs7,ht7⟩;have HS7:=zd hs7;have HTB7:=zd ht7;clear hs7 ht7))
     have HSBR:=zd (show rss sb from by
      obtain⟨lv,ms,hA⟩:=H.out.s
      exact hA.rsb)
     have HQ:Hid (PP (.returned (.tuple #[.int .i64 0,.int .i64 e2])) w7.drew):=(show PP _ _ from by
      refine HPUT.out ⟨(putsR R x j).1.synced,L,next,e2⟩ _ _ _ (by rw[HHJ.out,if_pos hez]) ⟨ua rsd wz wr,rss,⟨(HD6.out.turn (HTB7.out.mono λq hq e=>by
       subst hq
       exact HLOW.out _ e HSBR.out)).kept (zj (zi _)),HS7.out.kept (zj (zi _)),HLOW.out⟩,HUP.out,λq hq=>Or.inl hq,?_⟩
      exact(vh HGZ.out).trans ((HT6.out.mono λq hq=>Or.inl hq).trans ((HTB7.out.mono λq hq=>Or.inr (by
        subst hq
        exact HSBR.out)).trans (vh (zj (zi _))))))
     obtain⟨-,-,z3,-,-⟩:=HS7.out.all;refine qH (S:=λw':World=>w'.cell? ⟨sb,3,none⟩=some (.int .i64 e2)∧True) ⟨z3,trivial⟩ (λhHeld=>?_)
     refine qT 0 ?_;refine qT 1 ?_;refine qT 2 ?_;refine qT 3 ?_;refine qT 4 ?_;refine qT 5 ?_;refine qD ?_
     go_wp2_with fail
     first|exact HQ.out|(go_ret2;exact HQ.out)
theorem rput (h:qg rsd rss W sb db R L next broken) (hk:DOk ⟨R,L,next,broken⟩) (hbb:BL b) (hl:b.length≤100000000) (hf:yf R+600<1000000):Calls Tryz.prog 121 #[.pointer (some ⟨sb,0,none⟩),.string (ofB b)] W (Xr rsd rss W sb db ⟨R,L,next,broken⟩ b):=by
 by_cases hb:broken=0
 ·by_cases h1:131072<b.length
  ·exact zkv h hl hb h1
  ·by_cases h2:4611686018427387904<next
   ·exact znm h hl hb h1 h2
   ·subst hb
    exact znl h hk hbb (by omega) (by omega) hf
 ·exact zi4 h hl hb
end
end Go.Proofs.YtbcbhlfjgobejaaGreat
