/- starfishref19's Put, whole: the walk. Conditions: none, or as the theorems say. -/
import Derived.Test.YtbcbhlfjgobejaaGreatJ1
import Derived.Test.YtbcbhlfjgobejaaGreatJ44
set_option linter.unusedSimpArgs false
set_option linter.unusedVariables false
namespace Go.Proofs.YtbcbhlfjgobejaaGreat
set_option maxHeartbeats 200000000
open Go.RowKit Go.Sf Go.Shelf
section
variable {rsd rss : Nat → Prop} {W : World} {sb db : Nat} {R : RDk} {L : List (Int × ye)} {next broken : Int} {b : List Int}
set_option maxRecDepth 100000 in
theorem zkj (h:ux rsd rss W sb db R L next 0) (hk:DOk ⟨R,L,next,0⟩) (hbb:BL b) (hl:b.length≤131072) (hn:next≤4611686018427387904) (hf:yf R+600<1000000):Calls Tryz.prog 121 #[.pointer (some ⟨sb,0,none⟩),.string (ofB b)] W (Yj rsd rss W sb db ⟨R,L,next,0⟩ b):=by
 obtain⟨i0,z0,by0,hi,hz0,hz1,hz2,hz3,hz4⟩:=zhl;have H:=zd h;have hn0:1≤next:=hk.n0;have HLN:Hid (L.length≤100000):=(show _≤_ from hk.len)
 obtain⟨kn,hkn⟩:∃kn:Nat,next=(kn:Int):=⟨next.toNat,by omega⟩
 have HKN:=zd hkn;have HFR:=zd (rfree h.d h.s hk.bl (fun y hy=>(hk.bn y hy).2))
 have HBB:=zd hbb;have HF:=zd hf;obtain⟨c0,c2,c3,y,hsl⟩:=h.s.all;have hp0:=Xp b.length;have hp1:zo b.length≤570:=by unfold zo;omega
 have HX:Hid (∀j,(⟨R,L,next,0⟩:Doc).part b j=((qp (uy L) R.blocks.length).getD j 0,qn zu ⟨next,j,zo b.length,uu b j⟩)):=(fun _=>rfl)
 have HE:Hid ((⟨R,L,next,0⟩:Doc).put b=if (qp (uy L) R.blocks.length).length<zo b.length then (⟨R,L,next,0⟩,0,181)
  else if (putsR R ((⟨R,L,next,0⟩:Doc).part b) (zo b.length)).2≠0 then (⟨(putsR R ((⟨R,L,next,0⟩:Doc).part b) (zo b.length)).1,L,next,(putsR R ((⟨R,L,next,0⟩:Doc).part b) (zo b.length)).2⟩,0,(putsR R ((⟨R,L,next,0⟩:Doc).part b) (zo b.length)).2)
  else if (putsR R ((⟨R,L,next,0⟩:Doc).part b) (zo b.length)).1.syncV≠0 then (⟨(putsR R ((⟨R,L,next,0⟩:Doc).part b) (zo b.length)).1.synced,L,next,(putsR R ((⟨R,L,next,0⟩:Doc).part b) (zo b.length)).1.syncV⟩,0,(putsR R ((⟨R,L,next,0⟩:Doc).part b) (zo b.length)).1.syncV)
  else (⟨(putsR R ((⟨R,L,next,0⟩:Doc).part b) (zo b.length)).1.synced,L ++ [(next,(b,(qp (uy L) R.blocks.length).take (zo b.length)))],next+1,0⟩,next,0)):=(show _=_ from by
  unfold Doc.put;rw[if_neg (fun e=>e rfl),if_neg (show ¬(131072<b.length∨4611686018427387904<next) by omega)]
  rfl)
 obtain⟨PP,hPP⟩:∃PP,PP=Yj rsd rss W sb db ⟨R,L,next,0⟩ b:=⟨_,rfl⟩;have HPUT:Hid (∀(D':Doc) (k' e':Int) (w':World),(⟨R,L,next,0⟩:Doc).put b=(D',k',e')→DocP rsd rss W sb db D' w'→PP (.returned (.tuple #[.int .i64 k',.int .i64 e'])) w'):=(fun D' k' e' w' h1 h2=>by
  rw[hPP];unfold Yj;rw[h1]
  exact⟨rfl,h2⟩)
 rw[←hPP];clear hPP;have HPT:Hid (∀w,Calls Tryz.prog 16 #[.int .i64 ((ofB b).size:Int)] w fun e w'=>e = .returned (.int .i64 (zo b.length:Int))∧w'=w):=(fun w=>by
  have:=zci (b.length:Int) (by omega) w
  rw[if_neg (by omega),Int.toNat_natCast] at this
  rw[xr]
  exact this)
 have HSZ:Hid ((ofB b).size=b.length):=(show _=_ from xr b)
 have hs1:(ofB b).size≤131072:=by rw[xr];exact hl
 have HEXT:Hid (∀lo hi,(ofB b).extract lo hi=ofB ((b.take hi).drop lo)):=(fun lo hi=>zik b lo hi)
 have HSB:Hid (ofB b=ofB b):=(show _=_ from rfl)
 obtain⟨s,hs⟩:∃s,s=ofB b:=⟨_,rfl⟩;rw[←hs] at HPT HSZ hs1 HEXT ⊢;have HSE:=zd hs;have HLB:=zd hl;clear h hk hs hbb hf hkn hl HSB;generalize hx:(⟨R,L,next,0⟩:Doc).part b=x at *;generalize hfr:qp (uy L) R.blocks.length=fr at *;clear hx hfr;generalize hnn:zo b.length=n at *;have HNN:=zd hnn;clear hnn
 go_enter Tryz.func121,Tryz.ntmps121
 go_upto_region 7 with (first
  | (go_at_call 16;refine(HPT.out _).mono ?_;rintro e w1 ⟨rfl,h5⟩;obtain rfl:W=w1:=h5.symm)
  | (go_at_call 115;refine HFR.out.mono ?_;rintro e w1 ⟨v,rfl,hrow,hg⟩;obtain⟨pf,cf,hv,hcm,hlc⟩:=hrow.1.form;subst hv;have HROW:=zd hrow;have HG:=zd hg;clear hrow hg HFR HPT))
 by_cases hfn:fr.length<n
 ·have HQ:=zd (HPUT.out _ _ _ w1 (by rw[HE.out,if_pos hfn]) (ux.here ⟨R,L,next,0⟩ H.out HG.out))
  clear HPUT HE;go_wp2
  first|exact HQ.out|(go_ret2;exact HQ.out)
 ·have HE2:=zd (show _=_ from HE.out.trans (if_neg hfn))
  have hncf:n≤cf:=by omega
  obtain⟨a0,a2,a3,ay,asl⟩:=(H.out.s.kept HG.out).all;clear HE hlc
  go_upto_region 9 with fail
  refine wp_region_held_drew (S:=fun w':World=>w'.cell? ⟨sb,2,none⟩=some (.int .i64 next)∧True) (by kernel_rfl) ⟨a2,trivial⟩ (fun hHeld=>?_)
  refine tk (i:=0) (oi:=⟨some 38,Op.move (Operand.tmp 0),_,_,_,none⟩) (v:=?_) rfl hHeld ?_ ?_;rotate_left
  ·rintro w -;go_simp;try with_reducible rfl
  (try simp only[Act.put,za,zb,zc])
  refine tk (i:=1) (oi:=⟨some 39,Op.nilCheck (Operand.tmp 38),_,_,_,none⟩) (v:=?_) rfl hHeld ?_ ?_;rotate_left
  ·rintro w -;go_simp;try with_reducible rfl
  (try simp only[Act.put,za,zb,zc])
  refine tk (i:=2) (oi:=⟨some 40,Op.fieldAddr 193 (Operand.tmp 39) 2,_,_,_,none⟩) (v:=?_) rfl hHeld ?_ ?_;rotate_left
  ·rintro w -;go_simp;try with_reducible rfl
  (try simp only[Act.put,za,zb,zc])
  refine tk (i:=3) (oi:=⟨some 41,Op.load 2 (Operand.tmp 40),_,_,_,none⟩) (v:=?_) rfl hHeld ?_ ?_;rotate_left
  ·rintro w ⟨s1,-⟩;go_simp;try with_reducible rfl
  (try simp only[Act.put,za,zb,zc])
  refine tk (i:=4) (oi:=⟨some 42,Op.move (Operand.tmp 1),_,_,_,none⟩) (v:=?_) rfl hHeld ?_ ?_;rotate_left
  ·rintro w -;go_simp;try with_reducible rfl
  (try simp only[Act.put,za,zb,zc])
  refine tk (i:=5) (oi:=⟨some 43,Op.move (Operand.tmp 7),_,_,_,none⟩) (v:=?_) rfl hHeld ?_ ?_;rotate_left
  ·rintro w -;go_simp;try with_reducible rfl
  (try simp only[Act.put,za,zb,zc])
  refine tk (i:=6) (oi:=⟨some 44,Op.move (Operand.tmp 6),_,_,_,none⟩) (v:=?_) rfl hHeld ?_ ?_;rotate_left
  ·rintro w -;go_simp;try with_reducible rfl
  (try simp only[Act.put,za,zb,zc])
  refine tk (i:=7) (oi:=⟨some 45,Op.slice 44 (Operand.tmp 43) none (some (Operand.tmp 44)) none,_,_,_,none⟩) (v:=.slice pf n cf) rfl hHeld (fun w hSw=>by go_simp) ?_
  (try simp only[Act.put,za,zb,zc])
  refine tk (i:=8) (oi:=⟨some 46,Op.build 198 #[(0,Operand.tmp 41),(1,Operand.tmp 42),(2,Operand.tmp 45)],_,_,_,none⟩) (v:=.agg #[.int .i64 next,.string s,.slice pf n cf]) rfl hHeld (fun w hSw=>by go_simp;try with_reducible rfl) ?_
  (try simp only[Act.put,za,zb,zc])
  refine wpAnyH_ready (rs:=[9]) (by kernel_rfl) (by simp) ?_
  refine AllReadyH.cons (o:=⟨some 8,Op.alloc 198,_,_,_,none⟩) rfl (fun K hK=>?_) AllReadyH.nil
  refine ua rfl (Zf 198 rfl zeroRc) ?_;have hg5:=ze w1.drew (.cells #[.int .i64 0,.string ⟨#[]⟩,.slice none 0 0] 198) none;refine hK.out _ _ ⟨hg5.cell hHeld.1 (by simp),trivial⟩ (fun hHeld=>?_)
  clear hK K
  (try simp only[Act.put,za,zb,zc])
  refine wpAnyH_ready (rs:=[10]) (by kernel_rfl) (by simp) ?_
  refine AllReadyH.cons (o:=⟨none,Op.store 198 (Operand.tmp 8) (Operand.tmp 46),_,_,_,none⟩) rfl (fun K hK=>?_) AllReadyH.nil
  refine ui rfl (qz 198 _ _ rfl _ #[.int .i64 next,.string s,.slice pf n cf] _ rfl rfl (by kernel_rfl) rfl (rc_all _ _ _ _ _)) ?_
  have hg6:=ze w1.drew (.cells #[.int .i64 next,.string s,.slice pf n cf] 198) none;refine hK.out _ _ ⟨hg6.cell a2 (by simp),trivial⟩ (fun hHeld=>?_)
  clear hK K
  (try simp only[Act.put,za,zb,zc])
  refine wpAnyH_done (by kernel_rfl) ?_ _
  have HGZ:=zd (zp (zk HG.out) (.cells #[.int .i64 next,.string s,.slice pf n cf] 198));have HRB:=zd (heap_alloc_new w1.drew (.cells #[.int .i64 next,.string s,.slice pf n cf] 198));have HZ1:Hid (W.heap.size≤w1.drew.heap.size∧w1.drew.heap.size<(w1.drew.alloc (.cells #[.int .i64 next,.string s,.slice pf n cf] 198)).heap.size):=(show _∧_ from ⟨HG.out.size,by simp⟩)
  have HROWZ:=zd (HROW.out.1.grown (zp (zk (zj w1)) (.cells #[.int .i64 next,.string s,.slice pf n cf] 198)) (by simp))
  have HRWB:Hid (∀g,(Value.slice pf fr.length cf).ownBlock=some g→W.heap.size≤g∧g<w1.drew.heap.size):=(fun g hg=>⟨HROW.out.2 g hg,yo.lt HROW.out.1 hg⟩)
  clear hHeld a0 a2 a3 ay asl HROW HG;generalize w1.drew.alloc (.cells #[.int .i64 next,.string s,.slice pf n cf] 198)=wz at *;generalize w1.drew.heap.size=rb at *;have HD0:Hid (R18 (vk rsd wz wz) wz db (putsR R x 0).1):=(show R18 _ _ _ _ from (H.out.d.kept HGZ.out).new (zj _))
  have HRS:Hid (∀q,rsd q→q<W.heap.size):=(fun q hq=>H.out.d.lt hq)
  have HSS:Hid (∀q,rss q→q<W.heap.size):=(fun q hq=>by
   obtain⟨lv,ms,hA⟩:=H.out.s
   exact hA.lt q hq)
  go_upto_region 11 with fail
  go_loopw [9] (fun i wr=>∃j:Nat,j≤n∧i = .int .i64 (j:Int)∧(putsR R x j).2=0∧R18 (vk rsd wz wr) wr db (putsR R x j).1∧zm rsd wz wr) (fun i _=>n-(intOf i).toNat)
  case atStart=>exact⟨0,by omega,rfl,rfl,HD0.out,zm.refl _ _⟩
  case round=>
   clear HD0;obtain⟨j,hj,rfl,h0,hr,ht⟩:=hrel;have HH0:=zd h0;have HR:=zd hr;have HT:=zd ht;have HS:=zd ((H.out.s.kept HGZ.out).past H.out.ap ht);have hrb:wr.heap[rb]? = some (.cells #[.int .i64 next,.string s,.slice pf n cf] 198 (0,0)):=(ht.block rb HZ1.out.2 (fun e=>by have:=HRS.out rb e;have:=HZ1.out.1;omega)).trans HRB.out
   have HRBW:=zd hrb;have r0:wr.cell? ⟨rb,0,none⟩=some (.int .i64 next):=(zf hrb 0).trans rfl;obtain⟨a0,a2,a3,ay,asl⟩:=HS.out.all;clear h0 hr ht hrb
   by_cases hjn:j<n
   ·have hjf:j<fr.length:=by omega
    obtain⟨gb,hgb,hgz,hcz⟩:∃gb,pf=some ⟨gb,0,none⟩∧(W.heap.size≤gb∧gb<wz.heap.size)∧wz.cell? ⟨gb,j,none⟩=some (.int .i64 (fr[j]:Int)):=by
     rcases yo.at Qr HROWZ.out with e0|⟨g,c,e,hc,_⟩
     ·rw[e0] at hjf;simp at hjf
     ·injection e with e1
      have h1:=hc j hjf 0 _ rfl;rw[Nat.mul_one,Nat.add_zero] at h1;have h2:=HRWB.out g (by rw[e1];rfl)
      exact⟨g,e1,⟨h2.1,by have:=HZ1.out.2;omega⟩,h1⟩
    have HCC:Hid (∀w',zm rsd wz w'→w'.cell? ⟨gb,j,none⟩=some (.int .i64 (fr[j]:Int))∧w'.cell? ⟨rb,0,none⟩=some (.int .i64 next)∧gb≠sb∧rb≠sb∧gb<w'.heap.size∧rb<w'.heap.size):=(fun w' ht=>⟨(World.cell?_of_block (a:=⟨gb,j,none⟩) (ht.block gb hgz.2 (fun e=>by have:=HRS.out gb e;omega))).trans hcz,(World.cell?_of_block (a:=⟨rb,0,none⟩) (ht.block rb HZ1.out.2 (fun e=>by have:=HRS.out rb e;have:=HZ1.out.1;omega))).trans ((zf HRB.out 0).trans rfl),by omega,by have:=HZ1.out.1;omega,by have:=ht.size;omega,by have:=ht.size;have:=HZ1.out.2;omega⟩)
    have hca:=(HCC.out wr HT.out).1;clear hcz hgz;subst hgb;have hgl:=xo hca;have hpj:j*230≤s.size:=by
     have h1:j<zo b.length:=by rw[HNN.out];exact hjn
     rw[HSZ.out];unfold zo at h1;omega
    have HXJ:Hid (x j=(fr[j],qn zu ⟨next,j,n,uu b j⟩)):=(show _=_ from by
     rw[HX.out j,List.getD_eq_getElem?_getD,List.getElem?_eq_getElem hjf]
     rfl)
    generalize fr[j]=at_ at *;obtain⟨lo,hlo⟩:∃lo,lo=j*230:=⟨_,rfl⟩;obtain⟨l2,hl2⟩:∃l2,l2=(j+1)*230:=⟨_,rfl⟩;obtain⟨hi_,hhi⟩:∃hi,hi=min s.size l2:=⟨_,rfl⟩;have hm1:IntKind.i64.wrap ((j:Int)*230)=(lo:Int):=by rw[IntKind.wrap_i64];omega
    have hm2:IntKind.i64.wrap ((j:Int)+1)=(j:Int)+1:=by rw[IntKind.wrap_i64];omega
    have hm3:IntKind.i64.wrap (((j:Int)+1)*230)=(l2:Int):=by rw[IntKind.wrap_i64];omega
    have hm4:min (s.size:Int) (l2:Int)=(hi_:Int):=by omega
    have hm5:hi_≤s.size∧lo≤hi_:=by omega
    have hex:s.extract lo hi_=ofB (uu b j):=by
     rw[HEXT.out]
     congr 1
     unfold uu;rw[List.drop_take,←hlo];have hsz:=HSZ.out
     rcases Nat.le_total 230 (b.length-lo) with h1|h1
     ·rw[show hi_-lo=230 by omega]
     ·rw[List.take_of_length_le (by rw[List.length_drop];omega),List.take_of_length_le (by rw[List.length_drop];omega)]
    have hch:(uu b j).length=hi_-lo:=by have:=HSZ.out;rw[Vt];omega
    have hcb:BL (uu b j):=(HBB.out.drop _).take _;obtain⟨EX,hEX⟩:∃EX,EX=qn zu ⟨next,j,n,uu b j⟩:=⟨_,rfl⟩;have hEXB:BL EX:=by rw[hEX];exact za6 hcb
    have HBK:Hid (Calls Tryz.prog 23 #[.int .i64 next,.int .i64 (j:Int),.int .i64 (n:Int),.string (ofB (uu b j))] wr.drew fun e w'=>e = .returned (.string (ofB EX))∧wr.drew.grownBy w' none):=(by
     have:=zcg kn j n (ofB (uu b j)) (by have:=HKN.out;omega) (by omega) (by omega) (by rw[xr];omega) wr.drew
     rw[Zm hcb,←HKN.out,←hEX] at this
     exact this)
    have HWR:Hid (∀w5,wr.drew.grownBy w5 none→Calls Tryz.prog 44 #[.pointer (some ⟨db,0,none⟩),.int .i64 (at_:Int),.string (ofB EX)] w5 fun e w'=>e = .returned (.int .i64 ((putsR R x j).1.writeV (at_:Int) EX))∧R18 (vk rsd wz w') w' db ((putsR R x j).1.written (at_:Int) EX)∧zm rsd wz w'∧zm (vk rsd wz w5) w5 w'):=(fun w5 hg5=>by
     have hg:wr.grownBy w5 none:=zh (zk (zj _)) hg5;have hlow:∀q,rsd q→q<wz.heap.size:=fun q hq=>Nat.lt_of_lt_of_le (HRS.out q hq) HGZ.out.size
     have h1:=HR.out.upn hg hlow HT.out.size;refine(zey h1 (at_:Int) (ofB EX) (by rw[xr,hEX,Vi (by show(uu b j).length≤230;omega)];omega) (by have:=zhw (R:=R) (x:=x) j;have:=HF.out;omega)).mono ?_
     rintro e w' ⟨rfl,h2,h3⟩;rw[Zm hEXB] at h2 ⊢
     exact⟨rfl,h2.upw hlow (Nat.le_trans HT.out.size hg.size) h3.size,qc (HT.out.trans (xp hg)) h3,h3⟩)
    have HXE:Hid (x j=(at_,EX)):=(show _=_ from by rw[HXJ.out,hEX])
    have HPO:Hid ((putsR R x (j+1))=((putsR R x j).1.written (at_:Int) EX,(putsR R x j).1.writeV (at_:Int) EX)):=(show _=_ from by rw[zce HH0.out,HXE.out])
    have HM1:=zd hm1;have HM2:=zd hm2;have HM3:=zd hm3;have HM4:=zd hm4;have HM5:=zd hm5;have HEXX:=zd hex;obtain⟨ev,hev⟩:∃ev,ev=(putsR R x j).1.writeV (at_:Int) EX:=⟨_,rfl⟩;rw[←hev] at HWR HPO;have HSD:Hid (∀w5 w6,wr.drew.grownBy w5 none→zm (vk rsd wz w5) w5 w6→zm rsd wz w6→S19 rss w6 sb db L next 0):=(fun w5 w6 _ _ ht=>(H.out.s.kept HGZ.out).past H.out.ap ht)
    clear hm1 hm2 hm3 hm4 hm5 hex hch hcb hEX hEXB hpj hlo hl2 hhi hev HXJ HXE
    go_upto_region 13 with fail
    by_cases hez:ev=0
    ·subst hez
     refine wp_region_held_drew (S:=fun w':World=>w'.cell? ⟨sb,0,none⟩=some (.pointer (some ⟨db,0,none⟩))∧w'.cell? ⟨gb,j,none⟩=some (.int .i64 (at_:Int))∧w'.cell? ⟨rb,0,none⟩=some (.int .i64 next)∧True) (by kernel_rfl) ⟨a0,hca,r0,trivial⟩ (fun hHeld=>?_)
     refine tk (i:=0) (oi:=⟨some 52,Op.move (Operand.tmp 0),_,_,_,none⟩) (v:=?_) rfl hHeld ?_ ?_;rotate_left
     ·rintro w -;go_simp;try with_reducible rfl
     (try simp only[Act.put,za,zb,zc])
     refine tk (i:=1) (oi:=⟨some 53,Op.move (Operand.tmp 0),_,_,_,none⟩) (v:=?_) rfl hHeld ?_ ?_;rotate_left
     ·rintro w -;go_simp;try with_reducible rfl
     (try simp only[Act.put,za,zb,zc])
     refine tk (i:=2) (oi:=⟨some 54,Op.nilCheck (Operand.tmp 53),_,_,_,none⟩) (v:=?_) rfl hHeld ?_ ?_;rotate_left
     ·rintro w -;go_simp;try with_reducible rfl
     (try simp only[Act.put,za,zb,zc])
     refine tk (i:=3) (oi:=⟨some 55,Op.fieldAddr 193 (Operand.tmp 54) 0,_,_,_,none⟩) (v:=?_) rfl hHeld ?_ ?_;rotate_left
     ·rintro w -;go_simp;try with_reducible rfl
     (try simp only[Act.put,za,zb,zc])
     refine tk (i:=4) (oi:=⟨some 56,Op.load 60 (Operand.tmp 55),_,_,_,none⟩) (v:=?_) rfl hHeld ?_ ?_;rotate_left
     ·rintro w ⟨s1,-⟩;go_simp;try with_reducible rfl
     (try simp only[Act.put,za,zb,zc])
     refine tk (i:=5) (oi:=⟨some 57,Op.move (Operand.tmp 7),_,_,_,none⟩) (v:=?_) rfl hHeld ?_ ?_;rotate_left
     ·rintro w -;go_simp;try with_reducible rfl
     (try simp only[Act.put,za,zb,zc])
     refine tk (i:=6) (oi:=⟨some 58,Op.move (Operand.tmp 9),_,_,_,none⟩) (v:=?_) rfl hHeld ?_ ?_;rotate_left
     ·rintro w -;go_simp;try with_reducible rfl
     (try simp only[Act.put,za,zb,zc])
     refine tk (i:=7) (oi:=⟨some 59,Op.indexAddr 44 (Operand.tmp 57) (Operand.tmp 58),_,_,_,none⟩) (v:=?_) rfl hHeld ?_ ?_;rotate_left
     ·rintro w -;go_simp;try with_reducible rfl
     (try simp only[Act.put,za,zb,zc])
     refine tk (i:=8) (oi:=⟨some 60,Op.load 3 (Operand.tmp 59),_,_,_,none⟩) (v:=?_) rfl hHeld ?_ ?_;rotate_left
     ·rintro w ⟨-,s1,-⟩;go_simp;try with_reducible rfl
     (try simp only[Act.put,za,zb,zc])
     refine tk (i:=9) (oi:=⟨some 61,Op.fieldAddr 198 (Operand.tmp 8) 0,_,_,_,none⟩) (v:=?_) rfl hHeld ?_ ?_;rotate_left
     ·rintro w -;go_simp;try with_reducible rfl
     (try simp only[Act.put,za,zb,zc])
     refine tk (i:=10) (oi:=⟨some 62,Op.load 2 (Operand.tmp 61),_,_,_,none⟩) (v:=?_) rfl hHeld ?_ ?_;rotate_left
     ·rintro w ⟨-,-,s1,-⟩;go_simp;try with_reducible rfl
     (try simp only[Act.put,za,zb,zc])
     refine tk (i:=11) (oi:=⟨some 63,Op.move (Operand.tmp 9),_,_,_,none⟩) (v:=?_) rfl hHeld ?_ ?_;rotate_left
     ·rintro w -;go_simp;try with_reducible rfl
     (try simp only[Act.put,za,zb,zc])
     refine tk (i:=12) (oi:=⟨some 64,Op.move (Operand.tmp 6),_,_,_,none⟩) (v:=?_) rfl hHeld ?_ ?_;rotate_left
     ·rintro w -;go_simp;try with_reducible rfl
     (try simp only[Act.put,za,zb,zc])
     refine tk (i:=13) (oi:=⟨some 65,Op.move (Operand.tmp 1),_,_,_,none⟩) (v:=?_) rfl hHeld ?_ ?_;rotate_left
     ·rintro w -;go_simp;try with_reducible rfl
     (try simp only[Act.put,za,zb,zc])
     refine tk (i:=14) (oi:=⟨some 66,Op.move (Operand.tmp 9),_,_,_,none⟩) (v:=?_) rfl hHeld ?_ ?_;rotate_left
     ·rintro w -;go_simp;try with_reducible rfl
     (try simp only[Act.put,za,zb,zc])
     refine tk (i:=15) (oi:=⟨some 67,Op.binOp BinOp.mul 3 (Operand.tmp 66) (Operand.const (Value.int IntKind.i64 230)) 3,_,_,_,none⟩) (v:=.int .i64 (lo:Int)) rfl hHeld (fun w hSw=>by go_simp;first|done|(rw[HM1.out];done)|(simp only[HM1.out];done)) ?_
     (try simp only[Act.put,za,zb,zc])
     refine tk (i:=16) (oi:=⟨some 68,Op.move (Operand.tmp 1),_,_,_,none⟩) (v:=?_) rfl hHeld ?_ ?_;rotate_left
     ·rintro w -;go_simp;try with_reducible rfl
     (try simp only[Act.put,za,zb,zc])
     refine tk (i:=17) (oi:=⟨some 69,Op.call { callee:=Callee.builtin Builtin.len,args:=#[Operand.tmp 68],argTypes:=#[9] },_,_,_,none⟩) (v:=?_) rfl hHeld ?_ ?_;rotate_left
     ·rintro w -;go_simp;try with_reducible rfl
     (try simp only[Act.put,za,zb,zc])
     refine tk (i:=18) (oi:=⟨some 70,Op.move (Operand.tmp 9),_,_,_,none⟩) (v:=?_) rfl hHeld ?_ ?_;rotate_left
     ·rintro w -;go_simp;try with_reducible rfl
     (try simp only[Act.put,za,zb,zc])
     refine tk (i:=19) (oi:=⟨some 71,Op.binOp BinOp.add 3 (Operand.tmp 70) (Operand.const (Value.int IntKind.i64 1)) 3,_,_,_,none⟩) (v:=.int .i64 ((j:Int)+1)) rfl hHeld (fun w hSw=>by go_simp;first|done|(rw[HM2.out];done)|(simp only[HM2.out];done)) ?_
     (try simp only[Act.put,za,zb,zc])
     refine tk (i:=20) (oi:=⟨some 72,Op.binOp BinOp.mul 3 (Operand.tmp 71) (Operand.const (Value.int IntKind.i64 230)) 3,_,_,_,none⟩) (v:=.int .i64 (l2:Int)) rfl hHeld (fun w hSw=>by go_simp;first|done|(rw[HM3.out];done)|(simp only[HM3.out];done)) ?_
     (try simp only[Act.put,za,zb,zc])
     refine tk (i:=21) (oi:=⟨some 73,Op.call { callee:=Callee.builtin Builtin.min,args:=#[Operand.tmp 69,Operand.tmp 72],argTypes:=#[3,3] },_,_,_,none⟩) (v:=.int .i64 (hi_:Int)) rfl hHeld (fun w hSw=>by go_simp;first|done|(rw[HM4.out];done)|(simp only[HM4.out];done)) ?_
     (try simp only[Act.put,za,zb,zc])
     refine tk (i:=22) (oi:=⟨some 74,Op.slice 9 (Operand.tmp 65) (some (Operand.tmp 67)) (some (Operand.tmp 73)) none,_,_,_,none⟩) (v:=.string (ofB (uu b j))) rfl hHeld (fun w hSw=>by go_simp;rw[if_pos HM5.out.1,if_pos HM5.out.2,HEXX.out]) ?_
     (try simp only[Act.put,za,zb,zc])
     refine wpAnyH_ready (rs:=[23]) (by kernel_rfl) (by simp) ?_
     refine AllReadyH.cons (o:=⟨some 75,Op.call { callee:=Callee.value (Operand.func 23),args:=#[Operand.tmp 62,Operand.tmp 63,Operand.tmp 64,Operand.tmp 74],argTypes:=#[2,3,3,9] },_,_,_,none⟩) rfl (fun K hK=>?_) AllReadyH.nil
     go_simp
     go_at_call 23
     refine HBK.out.mono ?_;rintro e w5 ⟨rfl,hg5⟩;have HG5:=zd hg5;refine hK.out _ _ ⟨hg5.cell a0 (by simp),hg5.cell hca (by simp),hg5.cell r0 (by simp),trivial⟩ (fun hHeld=>?_)
     clear hK K
     (try simp only[Act.put,za,zb,zc])
     have HWR5:=zd (HWR.out w5 HG5.out);refine wpAnyH_ready (rs:=[24]) (by kernel_rfl) (by simp) ?_
     refine AllReadyH.cons (o:=⟨some 76,Op.call { callee:=Callee.value (Operand.func 44),args:=#[Operand.tmp 56,Operand.tmp 60,Operand.tmp 75],argTypes:=#[60,3,9] },_,_,_,none⟩) rfl (fun K hK=>?_) AllReadyH.nil
     go_simp
     go_at_call 44
     refine HWR5.out.mono ?_;rintro e w6 ⟨rfl,hr6,ht6,hn6⟩;have HD6:=zd hr6;have HT6:=zd ht6;have HS6:=zd (HSD.out w5 w6 HG5.out hn6 ht6);have u0:=HS6.out.all.1;obtain⟨uca,ucr,une1,une2,ul1,ul2⟩:=HCC.out w6 ht6;clear hr6 ht6 hn6;refine hK.out _ _ ⟨u0,uca,ucr,trivial⟩ (fun hHeld=>?_)
     clear hK K
     (try simp only[Act.put,za,zb,zc])
     have HDO:=zd (Vm HS6.out);refine wpAnyH_ready (rs:=[25]) (by kernel_rfl) (by simp) ?_
     refine AllReadyH.cons (o:=⟨some 77,Op.call { callee:=Callee.value (Operand.func 180),args:=#[Operand.tmp 52,Operand.tmp 76],argTypes:=#[62,25] },_,_,_,none⟩) rfl (fun K hK=>?_) AllReadyH.nil
     go_simp
     go_at_call 180
     refine HDO.out.mono ?_;rintro e w7 ⟨rfl,h7⟩;obtain rfl:w6=w7:=h7.symm;refine hK.out _ _ ⟨u0,uca,ucr,trivial⟩ (fun hHeld=>?_)
     clear hK K
     (try simp only[Act.put,za,zb,zc])
     refine tk (i:=26) (oi:=⟨some 78,Op.unOp UnOp.not 4 (Operand.tmp 77),_,_,_,none⟩) (v:=?_) rfl hHeld ?_ ?_;rotate_left
     ·rintro w -;go_simp;try with_reducible rfl
     (try simp only[Act.put,za,zb,zc])
     refine wpAnyH_done (by kernel_rfl) ?_ _
     go_wp2_with fail
     go_roundw
     case rel=>exact⟨j+1,by omega,by simp,by rw[HPO.out],by rw[HPO.out];exact HD6.out,HT6.out⟩
     case measure=>simp[intOf];omega
    ·refine wp_region_held_drew (S:=fun w':World=>w'.cell? ⟨sb,0,none⟩=some (.pointer (some ⟨db,0,none⟩))∧w'.cell? ⟨gb,j,none⟩=some (.int .i64 (at_:Int))∧w'.cell? ⟨rb,0,none⟩=some (.int .i64 next)∧True) (by kernel_rfl) ⟨a0,hca,r0,trivial⟩ (fun hHeld=>?_)
     refine tk (i:=0) (oi:=⟨some 52,Op.move (Operand.tmp 0),_,_,_,none⟩) (v:=?_) rfl hHeld ?_ ?_;rotate_left
     ·rintro w -;go_simp;try with_reducible rfl
     (try simp only[Act.put,za,zb,zc])
     refine tk (i:=1) (oi:=⟨some 53,Op.move (Operand.tmp 0),_,_,_,none⟩) (v:=?_) rfl hHeld ?_ ?_;rotate_left
     ·rintro w -;go_simp;try with_reducible rfl
     (try simp only[Act.put,za,zb,zc])
     refine tk (i:=2) (oi:=⟨some 54,Op.nilCheck (Operand.tmp 53),_,_,_,none⟩) (v:=?_) rfl hHeld ?_ ?_;rotate_left
     ·rintro w -;go_simp;try with_reducible rfl
     (try simp only[Act.put,za,zb,zc])
     refine tk (i:=3) (oi:=⟨some 55,Op.fieldAddr 193 (Operand.tmp 54) 0,_,_,_,none⟩) (v:=?_) rfl hHeld ?_ ?_;rotate_left
     ·rintro w -;go_simp;try with_reducible rfl
     (try simp only[Act.put,za,zb,zc])
     refine tk (i:=4) (oi:=⟨some 56,Op.load 60 (Operand.tmp 55),_,_,_,none⟩) (v:=?_) rfl hHeld ?_ ?_;rotate_left
     ·rintro w ⟨s1,-⟩;go_simp;try with_reducible rfl
     (try simp only[Act.put,za,zb,zc])
     refine tk (i:=5) (oi:=⟨some 57,Op.move (Operand.tmp 7),_,_,_,none⟩) (v:=?_) rfl hHeld ?_ ?_;rotate_left
     ·rintro w -;go_simp;try with_reducible rfl
     (try simp only[Act.put,za,zb,zc])
     refine tk (i:=6) (oi:=⟨some 58,Op.move (Operand.tmp 9),_,_,_,none⟩) (v:=?_) rfl hHeld ?_ ?_;rotate_left
     ·rintro w -;go_simp;try with_reducible rfl
     (try simp only[Act.put,za,zb,zc])
     refine tk (i:=7) (oi:=⟨some 59,Op.indexAddr 44 (Operand.tmp 57) (Operand.tmp 58),_,_,_,none⟩) (v:=?_) rfl hHeld ?_ ?_;rotate_left
     ·rintro w -;go_simp;try with_reducible rfl
     (try simp only[Act.put,za,zb,zc])
     refine tk (i:=8) (oi:=⟨some 60,Op.load 3 (Operand.tmp 59),_,_,_,none⟩) (v:=?_) rfl hHeld ?_ ?_;rotate_left
     ·rintro w ⟨-,s1,-⟩;go_simp;try with_reducible rfl
     (try simp only[Act.put,za,zb,zc])
     refine tk (i:=9) (oi:=⟨some 61,Op.fieldAddr 198 (Operand.tmp 8) 0,_,_,_,none⟩) (v:=?_) rfl hHeld ?_ ?_;rotate_left
     ·rintro w -;go_simp;try with_reducible rfl
     (try simp only[Act.put,za,zb,zc])
     refine tk (i:=10) (oi:=⟨some 62,Op.load 2 (Operand.tmp 61),_,_,_,none⟩) (v:=?_) rfl hHeld ?_ ?_;rotate_left
     ·rintro w ⟨-,-,s1,-⟩;go_simp;try with_reducible rfl
     (try simp only[Act.put,za,zb,zc])
     refine tk (i:=11) (oi:=⟨some 63,Op.move (Operand.tmp 9),_,_,_,none⟩) (v:=?_) rfl hHeld ?_ ?_;rotate_left
     ·rintro w -;go_simp;try with_reducible rfl
     (try simp only[Act.put,za,zb,zc])
     refine tk (i:=12) (oi:=⟨some 64,Op.move (Operand.tmp 6),_,_,_,none⟩) (v:=?_) rfl hHeld ?_ ?_;rotate_left
     ·rintro w -;go_simp;try with_reducible rfl
     (try simp only[Act.put,za,zb,zc])
     refine tk (i:=13) (oi:=⟨some 65,Op.move (Operand.tmp 1),_,_,_,none⟩) (v:=?_) rfl hHeld ?_ ?_;rotate_left
     ·rintro w -;go_simp;try with_reducible rfl
     (try simp only[Act.put,za,zb,zc])
     refine tk (i:=14) (oi:=⟨some 66,Op.move (Operand.tmp 9),_,_,_,none⟩) (v:=?_) rfl hHeld ?_ ?_;rotate_left
     ·rintro w -;go_simp;try with_reducible rfl
     (try simp only[Act.put,za,zb,zc])
     refine tk (i:=15) (oi:=⟨some 67,Op.binOp BinOp.mul 3 (Operand.tmp 66) (Operand.const (Value.int IntKind.i64 230)) 3,_,_,_,none⟩) (v:=.int .i64 (lo:Int)) rfl hHeld (fun w hSw=>by go_simp;first|done|(rw[HM1.out];done)|(simp only[HM1.out];done)) ?_
     (try simp only[Act.put,za,zb,zc])
     refine tk (i:=16) (oi:=⟨some 68,Op.move (Operand.tmp 1),_,_,_,none⟩) (v:=?_) rfl hHeld ?_ ?_;rotate_left
     ·rintro w -;go_simp;try with_reducible rfl
     (try simp only[Act.put,za,zb,zc])
     refine tk (i:=17) (oi:=⟨some 69,Op.call { callee:=Callee.builtin Builtin.len,args:=#[Operand.tmp 68],argTypes:=#[9] },_,_,_,none⟩) (v:=?_) rfl hHeld ?_ ?_;rotate_left
     ·rintro w -;go_simp;try with_reducible rfl
     (try simp only[Act.put,za,zb,zc])
     refine tk (i:=18) (oi:=⟨some 70,Op.move (Operand.tmp 9),_,_,_,none⟩) (v:=?_) rfl hHeld ?_ ?_;rotate_left
     ·rintro w -;go_simp;try with_reducible rfl
     (try simp only[Act.put,za,zb,zc])
     refine tk (i:=19) (oi:=⟨some 71,Op.binOp BinOp.add 3 (Operand.tmp 70) (Operand.const (Value.int IntKind.i64 1)) 3,_,_,_,none⟩) (v:=.int .i64 ((j:Int)+1)) rfl hHeld (fun w hSw=>by go_simp;first|done|(rw[HM2.out];done)|(simp only[HM2.out];done)) ?_
     (try simp only[Act.put,za,zb,zc])
     refine tk (i:=20) (oi:=⟨some 72,Op.binOp BinOp.mul 3 (Operand.tmp 71) (Operand.const (Value.int IntKind.i64 230)) 3,_,_,_,none⟩) (v:=.int .i64 (l2:Int)) rfl hHeld (fun w hSw=>by go_simp;first|done|(rw[HM3.out];done)|(simp only[HM3.out];done)) ?_
     (try simp only[Act.put,za,zb,zc])
     refine tk (i:=21) (oi:=⟨some 73,Op.call { callee:=Callee.builtin Builtin.min,args:=#[Operand.tmp 69,Operand.tmp 72],argTypes:=#[3,3] },_,_,_,none⟩) (v:=.int .i64 (hi_:Int)) rfl hHeld (fun w hSw=>by go_simp;first|done|(rw[HM4.out];done)|(simp only[HM4.out];done)) ?_
     (try simp only[Act.put,za,zb,zc])
     refine tk (i:=22) (oi:=⟨some 74,Op.slice 9 (Operand.tmp 65) (some (Operand.tmp 67)) (some (Operand.tmp 73)) none,_,_,_,none⟩) (v:=.string (ofB (uu b j))) rfl hHeld (fun w hSw=>by go_simp;rw[if_pos HM5.out.1,if_pos HM5.out.2,HEXX.out]) ?_
     (try simp only[Act.put,za,zb,zc])
     refine wpAnyH_ready (rs:=[23]) (by kernel_rfl) (by simp) ?_
     refine AllReadyH.cons (o:=⟨some 75,Op.call { callee:=Callee.value (Operand.func 23),args:=#[Operand.tmp 62,Operand.tmp 63,Operand.tmp 64,Operand.tmp 74],argTypes:=#[2,3,3,9] },_,_,_,none⟩) rfl (fun K hK=>?_) AllReadyH.nil
     go_simp
     go_at_call 23
     refine HBK.out.mono ?_;rintro e w5 ⟨rfl,hg5⟩;have HG5:=zd hg5;refine hK.out _ _ ⟨hg5.cell a0 (by simp),hg5.cell hca (by simp),hg5.cell r0 (by simp),trivial⟩ (fun hHeld=>?_)
     clear hK K
     (try simp only[Act.put,za,zb,zc])
     have HWR5:=zd (HWR.out w5 HG5.out);refine wpAnyH_ready (rs:=[24]) (by kernel_rfl) (by simp) ?_
     refine AllReadyH.cons (o:=⟨some 76,Op.call { callee:=Callee.value (Operand.func 44),args:=#[Operand.tmp 56,Operand.tmp 60,Operand.tmp 75],argTypes:=#[60,3,9] },_,_,_,none⟩) rfl (fun K hK=>?_) AllReadyH.nil
     go_simp
     go_at_call 44
     refine HWR5.out.mono ?_;rintro e w6 ⟨rfl,hr6,ht6,hn6⟩;have HD6:=zd hr6;have HT6:=zd ht6;have HS6:=zd (HSD.out w5 w6 HG5.out hn6 ht6);have u0:=HS6.out.all.1;obtain⟨uca,ucr,une1,une2,ul1,ul2⟩:=HCC.out w6 ht6;clear hr6 ht6 hn6;refine hK.out _ _ ⟨u0,uca,ucr,trivial⟩ (fun hHeld=>?_)
     clear hK K
     (try simp only[Act.put,za,zb,zc])
     have HDO:=zd (rdoes HS6.out ev);rw[decide_eq_false hez,if_neg hez] at HDO;refine wpAnyH_ready (rs:=[25]) (by kernel_rfl) (by simp) ?_
     refine AllReadyH.cons (o:=⟨some 77,Op.call { callee:=Callee.value (Operand.func 180),args:=#[Operand.tmp 52,Operand.tmp 76],argTypes:=#[62,25] },_,_,_,none⟩) rfl (fun K hK=>?_) AllReadyH.nil
     go_simp
     go_at_call 180
     refine HDO.out.mono ?_;rintro e w7 ⟨rfl,hs7,ht7⟩;have HS7:=zd hs7;have HTB7:=zd ht7;have v0:=hs7.all.1;have v1:=(World.cell?_of_block (a:=⟨gb,j,none⟩) (ht7.block gb ul1 une1)).trans uca;have v2:=(World.cell?_of_block (a:=⟨rb,0,none⟩) (ht7.block rb ul2 une2)).trans ucr;clear hs7 ht7;refine hK.out _ _ ⟨v0,v1,v2,trivial⟩ (fun hHeld=>?_)
     clear hK K
     (try simp only[Act.put,za,zb,zc])
     refine tk (i:=26) (oi:=⟨some 78,Op.unOp UnOp.not 4 (Operand.tmp 77),_,_,_,none⟩) (v:=?_) rfl hHeld ?_ ?_;rotate_left
     ·rintro w -;go_simp;try with_reducible rfl
     (try simp only[Act.put,za,zb,zc])
     refine wpAnyH_done (by kernel_rfl) ?_ _
     have HPE:=zd (zdu (R:=R) (x:=x) (i:=j+1) (by rw[HPO.out];exact hez) (n-(j+1)))
     have HQ:Hid (PP (.returned (.tuple #[.int .i64 0,.int .i64 ev])) w7.drew):=(show PP _ _ from by
      refine HPUT.out ⟨(putsR R x j).1.written (at_:Int) EX,L,next,ev⟩ _ _ _ ?_ ⟨vk rsd wz w6,rss,⟨(HD6.out.turn (HTB7.out.mono fun q hq e=>by
       subst hq
       rcases e with e|e
       ·obtain⟨lv,ms,hA⟩:=H.out.s
        exact H.out.ap _ e hA.rsb
       ·have:=HGZ.out.size;omega)).kept (zk (zj _)),HS7.out.kept (zk (zj _)),?_⟩,?_,fun q hq=>Or.inl hq,?_⟩
      ·have h1:=HPE.out
       rw[show j+1+(n-(j+1))=n by omega,HPO.out] at h1
       rw[HE2.out,h1];simp only;rw[if_pos hez]
      ·intro q hq h2
       rcases hq with e|e
       ·exact H.out.ap q e h2
       ·have:=HSS.out q h2;have:=HGZ.out.size;omega
      ·intro q hq
       rcases hq with e|e
       ·exact Or.inl e
       ·exact Or.inr (by have:=HGZ.out.size;omega)
      ·exact(xp HGZ.out).trans ((HT6.out.mono fun q hq=>Or.inl hq).trans ((HTB7.out.mono fun q hq=>Or.inr (by
        subst hq;obtain⟨lv,ms,hA⟩:=H.out.s
        exact hA.rsb)).trans (xp (zk (zj _))))))
     obtain⟨-,-,z3,-,-⟩:=HS7.out.all
     go_upto_region 14 with fail
     refine wp_region_held_drew (S:=fun w':World=>w'.cell? ⟨sb,3,none⟩=some (.int .i64 ev)∧True) (by kernel_rfl) ⟨z3,trivial⟩ (fun hHeld=>?_)
     refine tk (i:=0) (oi:=⟨some 79,Op.move (Operand.tmp 0),_,_,_,none⟩) (v:=?_) rfl hHeld ?_ ?_;rotate_left
     ·rintro w -;go_simp;try with_reducible rfl
     (try simp only[Act.put,za,zb,zc])
     refine tk (i:=1) (oi:=⟨some 80,Op.nilCheck (Operand.tmp 79),_,_,_,none⟩) (v:=?_) rfl hHeld ?_ ?_;rotate_left
     ·rintro w -;go_simp;try with_reducible rfl
     (try simp only[Act.put,za,zb,zc])
     refine tk (i:=2) (oi:=⟨some 81,Op.fieldAddr 193 (Operand.tmp 80) 3,_,_,_,none⟩) (v:=?_) rfl hHeld ?_ ?_;rotate_left
     ·rintro w -;go_simp;try with_reducible rfl
     (try simp only[Act.put,za,zb,zc])
     refine tk (i:=3) (oi:=⟨some 82,Op.load 25 (Operand.tmp 81),_,_,_,none⟩) (v:=?_) rfl hHeld ?_ ?_;rotate_left
     ·rintro w ⟨s1,-⟩;go_simp;try with_reducible rfl
     (try simp only[Act.put,za,zb,zc])
     refine tk (i:=4) (oi:=⟨some 4,Op.assign (Operand.const (Value.int IntKind.i64 0)),_,_,_,none⟩) (v:=?_) rfl hHeld ?_ ?_;rotate_left
     ·rintro w -;go_simp;try with_reducible rfl
     (try simp only[Act.put,za,zb,zc])
     refine tk (i:=5) (oi:=⟨some 5,Op.assign (Operand.tmp 82),_,_,_,none⟩) (v:=?_) rfl hHeld ?_ ?_;rotate_left
     ·rintro w -;go_simp;try with_reducible rfl
     (try simp only[Act.put,za,zb,zc])
     refine wpAnyH_done (by kernel_rfl) ?_ _
     go_wp2_with fail
     first|exact HQ.out|(go_ret2;exact HQ.out)
   ·obtain rfl:j=n:=by omega
    have HHJ:=zd (HE2.out.trans (if_neg (fun e=>e HH0.out)))
    have HSY:=zd (rsync HR.out);obtain⟨e2,he2⟩:∃e2,e2=(putsR R x j).1.syncV:=⟨_,rfl⟩;rw[←he2] at HSY HHJ;have HLOW:Hid (∀q,vk rsd wz wr q→¬rss q):=(fun q hq h2=>by
     rcases hq with e|e
     ·exact H.out.ap q e h2
     ·have:=HSS.out q h2;have:=HGZ.out.size;omega)
    have HUP:Hid (∀q,vk rsd wz wr q→rsd q∨W.heap.size≤q):=(fun q hq=>by
     rcases hq with e|e
     ·exact Or.inl e
     ·exact Or.inr (by have:=HGZ.out.size;omega))
    have HFN:=zd (show j≤fr.length by omega)
    clear he2 HE2 HX hfn
    by_cases hez:e2=0
    ·subst hez
     go_upto_region 17 with (first
      | (go_at_call 110;refine HSY.out.mono ?_;rintro e w6 ⟨rfl,hr6,ht6⟩;have HD6:=zd hr6;have HT6:=zd (qc HT.out ht6);have HZ6:=zd ht6.size;have HS6:=zd ((H.out.s.kept HGZ.out).past H.out.ap (qc HT.out ht6));have b0:=HS6.out.all.1;clear hr6 ht6)
      | (go_at_call 180;refine(Vm HS6.out).mono ?_;rintro e w7 ⟨rfl,h7⟩;obtain rfl:w6=w7:=h7.symm))
     obtain⟨lv,ms,hA⟩:=HS6.out;have HA:=zd hA;obtain⟨-,b1,b2,-,bf⟩:=hA.cells;have HML:Hid (ms.length=L.length):=(show _=_ from hA.ok.len)
     have hrb6:w6.heap[rb]? = some (.cells #[.int .i64 next,.string s,.slice pf j cf] 198 (0,0)):=(HT6.out.block rb HZ1.out.2 (fun e=>by have:=HRS.out rb e;have:=HZ1.out.1;omega)).trans HRB.out
     have HRB6:=zd hrb6;have k0:w6.cell? ⟨rb,0,none⟩=some (.int .i64 next):=(zf hrb6 0).trans rfl;have k1:w6.cell? ⟨rb,1,none⟩=some (.string s):=(zf hrb6 1).trans rfl;have k2:w6.cell? ⟨rb,2,none⟩=some (.slice pf j cf):=(zf hrb6 2).trans rfl;obtain⟨pl,cl,hlv,-,-⟩:=hA.row.form;subst hlv;have HOL:Hid (∀g,(Value.slice pl ms.length cl).ownBlock=some g→g<W.heap.size):=(fun g hg=>HSS.out g (HA.out.rlv g hg))
     have hsr:rb≠sb:=by have:=HZ1.out.1;omega
     have HPOS:Hid (ji (fun q=>(Value.slice pf fr.length cf).ownBlock=some q) w6 (.slice pf j cf) (fr.take j)):=(show ji _ _ _ _ from by
      have h1:Uc W wz (.slice pf fr.length cf) fr:=⟨HROWZ.out,fun g hg=>(HRWB.out g hg).1⟩
      refine zge ((zdr h1 (P:=fun q=>(Value.slice pf fr.length cf).ownBlock=some q) fun k hk=>hk).turn fun q hq=>?_) HFN.out cf
      have h2:=HRWB.out q hq
      exact HT6.out.block q (by have:=HZ1.out.2;omega) (fun e=>by have:=HRS.out q e;omega))
     have HNS:Hid ((Value.slice pl ms.length cl).ownBlock≠some sb):=(qf hA.row hA.box (by decide))
     clear hA hrb6 a0 a2 a3 ay asl r0;refine wp_region_held_drew (S:=fun w':World=>w'.cell? ⟨rb,0,none⟩=some (.int .i64 next)∧w'.cell? ⟨rb,1,none⟩=some (.string s)∧w'.cell? ⟨rb,2,none⟩=some (.slice pf j cf)) (by kernel_rfl) ⟨k0,k1,k2⟩ (fun hHeld=>?_)
     refine tk (i:=0) (oi:=⟨some 95,Op.move (Operand.tmp 0),_,_,_,none⟩) (v:=?_) rfl hHeld ?_ ?_;rotate_left
     ·rintro w -;go_simp;try with_reducible rfl
     (try simp only[Act.put,za,zb,zc])
     refine tk (i:=1) (oi:=⟨some 96,Op.move (Operand.tmp 0),_,_,_,none⟩) (v:=?_) rfl hHeld ?_ ?_;rotate_left
     ·rintro w -;go_simp;try with_reducible rfl
     (try simp only[Act.put,za,zb,zc])
     refine tk (i:=2) (oi:=⟨some 97,Op.nilCheck (Operand.tmp 96),_,_,_,none⟩) (v:=?_) rfl hHeld ?_ ?_;rotate_left
     ·rintro w -;go_simp;try with_reducible rfl
     (try simp only[Act.put,za,zb,zc])
     refine tk (i:=3) (oi:=⟨some 98,Op.fieldAddr 193 (Operand.tmp 97) 1,_,_,_,none⟩) (v:=?_) rfl hHeld ?_ ?_;rotate_left
     ·rintro w -;go_simp;try with_reducible rfl
     (try simp only[Act.put,za,zb,zc])
     refine tk (i:=5) (oi:=⟨some 100,Op.load 198 (Operand.tmp 8),_,_,_,none⟩) (v:=.agg #[.int .i64 next,.string s,.slice pf j cf]) rfl hHeld (fun w hSw=>by(try dsimp only at hSw);obtain⟨s1,s2,s3⟩:=hSw;go_simp;try with_reducible rfl) ?_
     (try simp only[Act.put,za,zb,zc])
     refine wpAnyH_ready (rs:=[4,6]) (by kernel_rfl) (by simp) ?_
     refine(AllReadyH.cons (o:=⟨some 99,Op.load 191 (Operand.tmp 98),_,_,_,none⟩) rfl (fun K hK=>?_) (AllReadyH.cons (o:=⟨some 101,Op.buildSlice 191 1 #[(0,Operand.tmp 100)],_,_,_,none⟩) rfl (fun K hK=>?_) AllReadyH.nil))
     ·go_simp
      refine hK.out _ _ ⟨k0,k1,k2⟩ (fun hHeld=>?_)
      clear hK K
      (try simp only[Act.put,za,zb,zc])
      refine wpAnyH_ready (rs:=[6]) (by kernel_rfl) (by simp) ?_
      refine(AllReadyH.cons (o:=⟨some 101,Op.buildSlice 191 1 #[(0,Operand.tmp 100)],_,_,_,none⟩) rfl (fun K hK=>?_) AllReadyH.nil)
      refine ua rfl (Uv next s pf j cf _ rfl (by go_simp;try with_reducible rfl)) ?_
      have hgb:=zp (zk (zj w6)) (.cells #[.int .i64 next,.string s,.slice pf j cf] 198);have hyr:=Zu w6.drew ⟨next,b,pf,j,cf⟩;simp only at hyr;rw[←HSE.out] at hyr;have HYR:=zd hyr;clear hyr;generalize w6.drew.alloc (.cells #[.int .i64 next,.string s,.slice pf j cf] 198)=wg at *;refine hK.out _ _ ⟨hgb.cell k0 (by simp),hgb.cell k1 (by simp),hgb.cell k2 (by simp)⟩ (fun hHeld=>?_)
      clear hK K
      (try simp only[Act.put,za,zb,zc])
      refine wpAnyH_ready (rs:=[7]) (by kernel_rfl) (by simp) ?_
      refine(AllReadyH.cons (o:=⟨some 102,Op.call { callee:=Callee.builtin Builtin.append,args:=#[Operand.tmp 99,Operand.tmp 101],argTypes:=#[191,191] },_,_,_,none⟩) rfl (fun K hK=>?_) AllReadyH.nil)
      refine xc (E:=198) (sz:=3) (enc:=rcE) (v:=.slice pl ms.length cl) (l:=ms) (m:=[⟨next,b,pf,j,cf⟩]) rfl _ _ 191 rfl uv jq i0 z0 by0 Tryz.underlying191 hi hz0 hz1 hz2 hz3 (by decide) hz4 rfl (HA.out.row.grown hgb (by simp)) rfl HYR.out (by have:=HML.out;have:=HLN.out;simp;omega) (ms.length+1) (by simp) ?_
      intro p9 c9 w9 hap;have HAP:=zd hap;have hx:∀g,g=sb∨g=rb→(Value.slice pl ms.length cl).ownBlock≠some g:=fun g hg e=>by
       rcases hg with h|h
       ·exact HNS.out (h ▸ e)
       ·have:=HOL.out g e;have:=HZ1.out.1;omega
      have y1:=hap.2.1.cell (hgb.cell b1 (by simp)) (fun e=>hx sb (Or.inl rfl) e.symm)
      have y2:=hap.2.1.cell (hgb.cell k0 (by simp)) (fun e=>hx rb (Or.inr rfl) e.symm)
      have y3:=hap.2.1.cell (hgb.cell k1 (by simp)) (fun e=>hx rb (Or.inr rfl) e.symm)
      have y4:=hap.2.1.cell (hgb.cell k2 (by simp)) (fun e=>hx rb (Or.inr rfl) e.symm)
      have y5:=hap.2.1.cell (hgb.cell b2 (by simp)) (fun e=>hx sb (Or.inl rfl) e.symm)
      have y6:∀i,w9.frozen? ⟨sb,i,none⟩=false:=(fun i=>by have:=(hap.2.1.block sb (Array.getElem?_eq_some_iff.1 ((hgb.block sb (Array.getElem?_eq_some_iff.1 HA.out.box).1 (by simp)).trans HA.out.box)).1 (fun e=>hx sb (Or.inl rfl) e.symm)).trans ((hgb.block sb (Array.getElem?_eq_some_iff.1 HA.out.box).1 (by simp)).trans HA.out.box);simp[World.frozen?,this])
      have y7:=y6 1;clear hap hx;refine hK.out _ _ ⟨y2,y3,y4⟩ (fun hHeld=>?_)
      clear hK K
      (try simp only[Act.put,za,zb,zc])
      refine tk (i:=8) (oi:=⟨some 103,Op.nilCheck (Operand.tmp 95),_,_,_,none⟩) (v:=?_) rfl hHeld ?_ ?_;rotate_left
      ·rintro w -;go_simp;try with_reducible rfl
      (try simp only[Act.put,za,zb,zc])
      refine tk (i:=9) (oi:=⟨some 104,Op.fieldAddr 193 (Operand.tmp 103) 1,_,_,_,none⟩) (v:=?_) rfl hHeld ?_ ?_;rotate_left
      ·rintro w -;go_simp;try with_reducible rfl
      (try simp only[Act.put,za,zb,zc])
      refine wpAnyH_ready (rs:=[10]) (by kernel_rfl) (by simp) ?_
      refine(AllReadyH.cons (o:=⟨none,Op.store 191 (Operand.tmp 104) (Operand.tmp 102),_,_,_,none⟩) rfl (fun K hK=>?_) AllReadyH.nil)
      go_simp
      refine hK.out _ _ ⟨(zw w9 sb 1 _).cell y2 (fun e=>hsr (by injection e)),(zw w9 sb 1 _).cell y3 (fun e=>hsr (by injection e)),(zw w9 sb 1 _).cell y4 (fun e=>hsr (by injection e))⟩ (fun hHeld=>?_)
      clear hK K
      (try simp only[Act.put,za,zb,zc])
      refine wpAnyH_done (by kernel_rfl) ?_ _
      have y56:=y6 1;have y57:=y6 2;have HPU:=zd (HA.out.push (rss':=fun q=>rss q∨(W.heap.size≤q∧q<wz.heap.size)∨(w6.heap.size≤q∧q<w9.heap.size)) (rm:=⟨next,b,pf,j,cf⟩) (rq:=(next,(b,fr.take j))) hgb HAP.out (fun q hq=>Or.inl hq) (fun q h1 h2=>Or.inr (Or.inr ⟨h1,h2⟩)) (fun q hq=>by
        have h1:=HGZ.out.size;have h2:=HT6.out.size;have h3:=hgb.size;have h4:=HAP.out.2.1.size
        rcases hq with e|e|e
        ·have:=HSS.out q e;omega
        ·omega
        ·exact e.2) (P:=fun q=>(Value.slice pf fr.length cf).ownBlock=some q) ⟨rfl,rfl,HPOS.out⟩ (fun q hq=>by
        have h2:=HRWB.out q hq;have h3:=HZ1.out.2;have h4:=HT6.out.size;refine⟨Or.inr (Or.inl ⟨h2.1,by omega⟩),by omega,by omega,fun e=>by have:=HOL.out q e;omega⟩) (next+1))
      have HQ:Hid (PP (.returned (.tuple #[.int .i64 next,.int .i64 0])) ((w9.setCell ⟨sb,1,none⟩ (.slice p9 (ms.length+1) c9)).setCell ⟨sb,2,none⟩ (.int .i64 (next+1)))):=(show PP _ _ from by
       refine HPUT.out ⟨(putsR R x j).1.synced,L ++ [(next,(b,fr.take j))],next+1,0⟩ _ _ _ (by rw[HHJ.out,if_neg (fun e=>e rfl)]) ⟨vk rsd wz wr,_,⟨HD6.out.turn (HPU.out.2.mono fun q hq e=>HLOW.out q e hq),⟨_,_,HPU.out.1⟩,fun q hq h2=>?_⟩,HUP.out,fun q hq=>?_,?_⟩
       ·rcases h2 with e|e|e
        ·exact HLOW.out q hq e
        ·rcases hq with e2|e2
         ·have:=HRS.out q e2;omega
         ·omega
        ·have:=HZ6.out
         have:=HGZ.out.size
         rcases hq with e2|e2
         ·have:=HRS.out q e2;have:=HT6.out.size;omega
         ·omega
       ·have:=HGZ.out.size
        have:=HT6.out.size
        rcases hq with e|e|e
        ·exact Or.inl e
        ·exact Or.inr e.1
        ·exact Or.inr (by omega)
       ·exact(xp HGZ.out).trans ((HT6.out.mono fun q hq=>Or.inl hq).trans (HPU.out.2.mono fun q hq=>Or.inr hq)))
      have hwn:IntKind.i64.wrap (next+1)=next+1:=by rw[IntKind.wrap_i64];omega
      clear HPU HPUT HAP hHeld;go_wp2
      first|exact HQ.out|(go_ret2;exact HQ.out)
     ·refine ua rfl (Uv next s pf j cf _ rfl (by go_simp;try with_reducible rfl)) ?_
      have hgb:=zp (zk (zj w6)) (.cells #[.int .i64 next,.string s,.slice pf j cf] 198);have hyr:=Zu w6.drew ⟨next,b,pf,j,cf⟩;simp only at hyr;rw[←HSE.out] at hyr;have HYR:=zd hyr;clear hyr;generalize w6.drew.alloc (.cells #[.int .i64 next,.string s,.slice pf j cf] 198)=wg at *;refine hK.out _ _ ⟨hgb.cell k0 (by simp),hgb.cell k1 (by simp),hgb.cell k2 (by simp)⟩ (fun hHeld=>?_)
      clear hK K
      (try simp only[Act.put,za,zb,zc])
      refine wpAnyH_ready (rs:=[4]) (by kernel_rfl) (by simp) ?_
      refine(AllReadyH.cons (o:=⟨some 99,Op.load 191 (Operand.tmp 98),_,_,_,none⟩) rfl (fun K hK=>?_) AllReadyH.nil)
      have c9:=hgb.cell b1 (by simp)
      go_simp
      clear c9;refine hK.out _ _ ⟨hgb.cell k0 (by simp),hgb.cell k1 (by simp),hgb.cell k2 (by simp)⟩ (fun hHeld=>?_)
      clear hK K
      (try simp only[Act.put,za,zb,zc])
      refine wpAnyH_ready (rs:=[7]) (by kernel_rfl) (by simp) ?_
      refine(AllReadyH.cons (o:=⟨some 102,Op.call { callee:=Callee.builtin Builtin.append,args:=#[Operand.tmp 99,Operand.tmp 101],argTypes:=#[191,191] },_,_,_,none⟩) rfl (fun K hK=>?_) AllReadyH.nil)
      refine xc (E:=198) (sz:=3) (enc:=rcE) (v:=.slice pl ms.length cl) (l:=ms) (m:=[⟨next,b,pf,j,cf⟩]) rfl _ _ 191 rfl uv jq i0 z0 by0 Tryz.underlying191 hi hz0 hz1 hz2 hz3 (by decide) hz4 rfl (HA.out.row.grown hgb (by simp)) rfl HYR.out (by have:=HML.out;have:=HLN.out;simp;omega) (ms.length+1) (by simp) ?_
      intro p9 c9 w9 hap;have HAP:=zd hap;have hx:∀g,g=sb∨g=rb→(Value.slice pl ms.length cl).ownBlock≠some g:=fun g hg e=>by
       rcases hg with h|h
       ·exact HNS.out (h ▸ e)
       ·have:=HOL.out g e;have:=HZ1.out.1;omega
      have y1:=hap.2.1.cell (hgb.cell b1 (by simp)) (fun e=>hx sb (Or.inl rfl) e.symm)
      have y2:=hap.2.1.cell (hgb.cell k0 (by simp)) (fun e=>hx rb (Or.inr rfl) e.symm)
      have y3:=hap.2.1.cell (hgb.cell k1 (by simp)) (fun e=>hx rb (Or.inr rfl) e.symm)
      have y4:=hap.2.1.cell (hgb.cell k2 (by simp)) (fun e=>hx rb (Or.inr rfl) e.symm)
      have y5:=hap.2.1.cell (hgb.cell b2 (by simp)) (fun e=>hx sb (Or.inl rfl) e.symm)
      have y6:∀i,w9.frozen? ⟨sb,i,none⟩=false:=(fun i=>by have:=(hap.2.1.block sb (Array.getElem?_eq_some_iff.1 ((hgb.block sb (Array.getElem?_eq_some_iff.1 HA.out.box).1 (by simp)).trans HA.out.box)).1 (fun e=>hx sb (Or.inl rfl) e.symm)).trans ((hgb.block sb (Array.getElem?_eq_some_iff.1 HA.out.box).1 (by simp)).trans HA.out.box);simp[World.frozen?,this])
      have y7:=y6 1;clear hap hx;refine hK.out _ _ ⟨y2,y3,y4⟩ (fun hHeld=>?_)
      clear hK K
      (try simp only[Act.put,za,zb,zc])
      refine tk (i:=8) (oi:=⟨some 103,Op.nilCheck (Operand.tmp 95),_,_,_,none⟩) (v:=?_) rfl hHeld ?_ ?_;rotate_left
      ·rintro w -;go_simp;try with_reducible rfl
      (try simp only[Act.put,za,zb,zc])
      refine tk (i:=9) (oi:=⟨some 104,Op.fieldAddr 193 (Operand.tmp 103) 1,_,_,_,none⟩) (v:=?_) rfl hHeld ?_ ?_;rotate_left
      ·rintro w -;go_simp;try with_reducible rfl
      (try simp only[Act.put,za,zb,zc])
      refine wpAnyH_ready (rs:=[10]) (by kernel_rfl) (by simp) ?_
      refine(AllReadyH.cons (o:=⟨none,Op.store 191 (Operand.tmp 104) (Operand.tmp 102),_,_,_,none⟩) rfl (fun K hK=>?_) AllReadyH.nil)
      go_simp
      refine hK.out _ _ ⟨(zw w9 sb 1 _).cell y2 (fun e=>hsr (by injection e)),(zw w9 sb 1 _).cell y3 (fun e=>hsr (by injection e)),(zw w9 sb 1 _).cell y4 (fun e=>hsr (by injection e))⟩ (fun hHeld=>?_)
      clear hK K
      (try simp only[Act.put,za,zb,zc])
      refine wpAnyH_done (by kernel_rfl) ?_ _
      have y56:=y6 1;have y57:=y6 2;have HPU:=zd (HA.out.push (rss':=fun q=>rss q∨(W.heap.size≤q∧q<wz.heap.size)∨(w6.heap.size≤q∧q<w9.heap.size)) (rm:=⟨next,b,pf,j,cf⟩) (rq:=(next,(b,fr.take j))) hgb HAP.out (fun q hq=>Or.inl hq) (fun q h1 h2=>Or.inr (Or.inr ⟨h1,h2⟩)) (fun q hq=>by
        have h1:=HGZ.out.size;have h2:=HT6.out.size;have h3:=hgb.size;have h4:=HAP.out.2.1.size
        rcases hq with e|e|e
        ·have:=HSS.out q e;omega
        ·omega
        ·exact e.2) (P:=fun q=>(Value.slice pf fr.length cf).ownBlock=some q) ⟨rfl,rfl,HPOS.out⟩ (fun q hq=>by
        have h2:=HRWB.out q hq;have h3:=HZ1.out.2;have h4:=HT6.out.size;refine⟨Or.inr (Or.inl ⟨h2.1,by omega⟩),by omega,by omega,fun e=>by have:=HOL.out q e;omega⟩) (next+1))
      have HQ:Hid (PP (.returned (.tuple #[.int .i64 next,.int .i64 0])) ((w9.setCell ⟨sb,1,none⟩ (.slice p9 (ms.length+1) c9)).setCell ⟨sb,2,none⟩ (.int .i64 (next+1)))):=(show PP _ _ from by
       refine HPUT.out ⟨(putsR R x j).1.synced,L ++ [(next,(b,fr.take j))],next+1,0⟩ _ _ _ (by rw[HHJ.out,if_neg (fun e=>e rfl)]) ⟨vk rsd wz wr,_,⟨HD6.out.turn (HPU.out.2.mono fun q hq e=>HLOW.out q e hq),⟨_,_,HPU.out.1⟩,fun q hq h2=>?_⟩,HUP.out,fun q hq=>?_,?_⟩
       ·rcases h2 with e|e|e
        ·exact HLOW.out q hq e
        ·rcases hq with e2|e2
         ·have:=HRS.out q e2;omega
         ·omega
        ·have:=HZ6.out
         have:=HGZ.out.size
         rcases hq with e2|e2
         ·have:=HRS.out q e2;have:=HT6.out.size;omega
         ·omega
       ·have:=HGZ.out.size
        have:=HT6.out.size
        rcases hq with e|e|e
        ·exact Or.inl e
        ·exact Or.inr e.1
        ·exact Or.inr (by omega)
       ·exact(xp HGZ.out).trans ((HT6.out.mono fun q hq=>Or.inl hq).trans (HPU.out.2.mono fun q hq=>Or.inr hq)))
      have hwn:IntKind.i64.wrap (next+1)=next+1:=by rw[IntKind.wrap_i64];omega
      clear HPU HPUT HAP hHeld;go_wp2
      first|exact HQ.out|(go_ret2;exact HQ.out)
    ·go_upto_region 16 with (first
      | (go_at_call 110;refine HSY.out.mono ?_;rintro e w6 ⟨rfl,hr6,ht6⟩;have HD6:=zd hr6;have HT6:=zd (qc HT.out ht6);have HS6:=zd ((H.out.s.kept HGZ.out).past H.out.ap (qc HT.out ht6));have HDO:=zd (rdoes HS6.out e2);have b0:=HS6.out.all.1;rw[decide_eq_false hez,if_neg hez] at HDO;clear hr6 ht6)
      | (go_at_call 180;refine HDO.out.mono ?_;rintro e w7 ⟨rfl,hs7,ht7⟩;have HS7:=zd hs7;have HTB7:=zd ht7;clear hs7 ht7))
     have HSBR:=zd (show rss sb from by
      obtain⟨lv,ms,hA⟩:=H.out.s
      exact hA.rsb)
     have HQ:Hid (PP (.returned (.tuple #[.int .i64 0,.int .i64 e2])) w7.drew):=(show PP _ _ from by
      refine HPUT.out ⟨(putsR R x j).1.synced,L,next,e2⟩ _ _ _ (by rw[HHJ.out,if_pos hez]) ⟨vk rsd wz wr,rss,⟨(HD6.out.turn (HTB7.out.mono fun q hq e=>by
       subst hq
       exact HLOW.out _ e HSBR.out)).kept (zk (zj _)),HS7.out.kept (zk (zj _)),HLOW.out⟩,HUP.out,fun q hq=>Or.inl hq,?_⟩
      exact(xp HGZ.out).trans ((HT6.out.mono fun q hq=>Or.inl hq).trans ((HTB7.out.mono fun q hq=>Or.inr (by
        subst hq
        exact HSBR.out)).trans (xp (zk (zj _))))))
     obtain⟨-,-,z3,-,-⟩:=HS7.out.all;refine wp_region_held_drew (S:=fun w':World=>w'.cell? ⟨sb,3,none⟩=some (.int .i64 e2)∧True) (by kernel_rfl) ⟨z3,trivial⟩ (fun hHeld=>?_)
     refine tk (i:=0) (oi:=⟨some 91,Op.move (Operand.tmp 0),_,_,_,none⟩) (v:=?_) rfl hHeld ?_ ?_;rotate_left
     ·rintro w -;go_simp;try with_reducible rfl
     (try simp only[Act.put,za,zb,zc])
     refine tk (i:=1) (oi:=⟨some 92,Op.nilCheck (Operand.tmp 91),_,_,_,none⟩) (v:=?_) rfl hHeld ?_ ?_;rotate_left
     ·rintro w -;go_simp;try with_reducible rfl
     (try simp only[Act.put,za,zb,zc])
     refine tk (i:=2) (oi:=⟨some 93,Op.fieldAddr 193 (Operand.tmp 92) 3,_,_,_,none⟩) (v:=?_) rfl hHeld ?_ ?_;rotate_left
     ·rintro w -;go_simp;try with_reducible rfl
     (try simp only[Act.put,za,zb,zc])
     refine tk (i:=3) (oi:=⟨some 94,Op.load 25 (Operand.tmp 93),_,_,_,none⟩) (v:=?_) rfl hHeld ?_ ?_;rotate_left
     ·rintro w ⟨s1,-⟩;go_simp;try with_reducible rfl
     (try simp only[Act.put,za,zb,zc])
     refine tk (i:=4) (oi:=⟨some 4,Op.assign (Operand.const (Value.int IntKind.i64 0)),_,_,_,none⟩) (v:=?_) rfl hHeld ?_ ?_;rotate_left
     ·rintro w -;go_simp;try with_reducible rfl
     (try simp only[Act.put,za,zb,zc])
     refine tk (i:=5) (oi:=⟨some 5,Op.assign (Operand.tmp 94),_,_,_,none⟩) (v:=?_) rfl hHeld ?_ ?_;rotate_left
     ·rintro w -;go_simp;try with_reducible rfl
     (try simp only[Act.put,za,zb,zc])
     refine wpAnyH_done (by kernel_rfl) ?_ _
     go_wp2_with fail
     first|exact HQ.out|(go_ret2;exact HQ.out)
theorem rput (h:ux rsd rss W sb db R L next broken) (hk:DOk ⟨R,L,next,broken⟩) (hbb:BL b) (hl:b.length≤100000000) (hf:yf R+600<1000000):Calls Tryz.prog 121 #[.pointer (some ⟨sb,0,none⟩),.string (ofB b)] W (Yj rsd rss W sb db ⟨R,L,next,broken⟩ b):=by
 by_cases hb:broken=0
 ·by_cases h1:131072<b.length
  ·exact zh0 h hl hb h1
  ·by_cases h2:4611686018427387904<next
   ·exact zkk h hl hb h1 h2
   ·subst hb
    exact zkj h hk hbb (by omega) (by omega) hf
 ·exact zgk h hl hb
end
end Go.Proofs.YtbcbhlfjgobejaaGreat
