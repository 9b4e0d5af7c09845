/- law19's tells: both stores tell the same: the walk. Conditions: none, or as the theorems say. -/
import Derived.Test.YtbcbhlfjgobejaaGreatS1
import Derived.Test.YtbcbhlfjgobejaaGreatS41
import Derived.Test.YtbcbhlfjgobejaaGreatS40
import Derived.Test.YtbcbhlfjgobejaaGreatS27
import Derived.Deep.DeepCutAuto
set_option linter.unusedSimpArgs false
set_option linter.unusedVariables false
namespace Go.Proofs.YtbcbhlfjgobejaaGreat
set_option maxHeartbeats 200000000
open Go.RowKit Go.Sf Go.Shelf
variable {n:Nat} {p:Option Addr} {w:World}
def zdp (k:Int):List Value:=[.int .i64 k]
theorem zdq (k:Int):(zdp k).length=1:=rfl
theorem zh0:∀l:List Int,l.flatMap zdp=l.map (Value.int .i64)
 | []=>rfl
 | a :: t=>by
  show zdp a++t.flatMap zdp=_
  rw[zh0 t]
  rfl
theorem zmm {w1 w2:World} {r:Option Nat} (h:w.grownBy w1 r) (g:w1.grownBy w2 r):w.grownBy w2 r:=
 ⟨g.os.trans h.os,g.tape.trans h.tape,g.output.trans h.output,Nat.le_trans h.size g.size,λk hk hn=>(g.block k (Nat.lt_of_lt_of_le hk h.size) hn).trans (h.block k hk hn)⟩
def Xu (w:World) (p:Option Addr) (n:Nat):Prop:=n=0∨∃g,p=some ⟨g,0,none⟩∧(∀i,i<n→∃z,w.cell? ⟨g,i,none⟩=some (.int .u8 z))∧∀i,i<n→w.frozen? ⟨g,i,none⟩=false
theorem Xu.set {g:Nat} (h:Xu w (some ⟨g,0,none⟩) n) (k:Nat) (z:Int):Xu (w.setCell ⟨g,k,none⟩ (.int .u8 z)) (some ⟨g,0,none⟩) n:=by
 rcases h with h|⟨g',e,h1,h2⟩
 ·exact Or.inl h
 ·cases e
  refine Or.inr ⟨g,rfl,λi hi=>?_,λi hi=>?_⟩
  ·by_cases hik:i=k
   ·subst hik
    obtain⟨z',hz⟩:=h1 i hi
    exact⟨z,by go_simp⟩
   ·obtain⟨z',hz⟩:=h1 i hi
    exact⟨z',by go_simp⟩
  ·have h3:=h2 i hi
   go_simp
theorem Xu.same {w':World} (h:Xu w p n) (hs:∀g,p=some ⟨g,0,none⟩→w'.heap[g]? = w.heap[g]?):Xu w' p n:=by
 rcases h with h|⟨g,e,h1,h2⟩
 ·exact Or.inl h
 ·refine Or.inr ⟨g,e,λi hi=>?_,λi hi=>?_⟩
  ·obtain⟨z,hz⟩:=h1 i hi
   exact⟨z,(World.cell?_of_block (a:=⟨g,i,none⟩) (hs g e)).trans hz⟩
  ·rw[←h2 i hi]
   unfold World.frozen?;rw[hs g e]
theorem jx.spoil {W:World} {c:Nat} {l:List Int} (h:jx W w (.slice p n c) l):Xu w p n∧∀g,(Value.slice p n c).ownBlock=some g→W.heap.size≤g∧g<w.heap.size:=by
 refine⟨?_,λg hg=>World.ownsRow.lt h g hg⟩
 have hn:n=l.length:=by
  rcases h.2 with ⟨e1,h0⟩|⟨g,cap,cur,e1,_⟩
  ·injection e1 with _ e2 _;omega
  ·injection e1 with _ e2 _
 rcases h.2 with ⟨e1,h0⟩|⟨g,cap,cur,e1,hb,hg,hnc,_⟩
 ·exact Or.inl (by omega)
 ·injection e1 with e2 _ _
  refine Or.inr ⟨g,e2,λi hi=>?_,λi hi=>by simp[World.frozen?,hg]⟩
  subst e2;have h1:=World.ownsRow.cells h (g:=g) rfl i (.int .u8 (l[i]'(by omega))) (by simp[zg])
  rw[ut] at h1
  exact⟨_,h1⟩
theorem zp9 {B E sz:Nat} {v:Value} {xs:List Value} (h:w.ownsRow B E sz v n xs):w.ownsRow 0 E sz v n xs:=
 ⟨h.1,h.2.imp id λ⟨b,c,cur,e,_,h2⟩=>⟨b,c,cur,e,Nat.zero_le _,h2⟩⟩
section
variable {own rsd rss : Nat → Prop} {W : World} {st db sb mb : Nat} {S : Sto} {R : RDk} {L : List (Int × ye)} {next broken : Int}
set_option maxRecDepth 100000 in
theorem zn3 (hS:Jk own W st db S) (hp:qg rsd rss W sb mb R L next broken) (hs:jd S ⟨R,L,next,broken⟩) (hl:L.length≤1000):Calls Tryz.prog 39 #[.pointer (some ⟨st,0,none⟩),.pointer (some ⟨sb,0,none⟩)] W λe w'=>e = .returned (.bool true)∧W.grownBy w' none:=by
 have HL:=zd hl;have hsrt:=hs.srt;have hnd:=zfq hsrt;simp only at hsrt hnd;obtain⟨fr,hfr⟩:∃fr,fr=jg (qh L) R.blocks.length:=⟨_,rfl⟩;have HNX:Hid (∀w,W.grownBy w none→Calls Tryz.prog 29 #[.pointer (some ⟨st,0,none⟩)] w λe w'=>e = .returned (.int .i64 next)∧w'=w):=(λw h=>by
  obtain⟨m,t,rv,rb,hA⟩:=hS.kept h;have:=snext hA;rw[hs.next] at this
  exact this)
 have HBR:Hid (∀w,W.grownBy w none→Calls Tryz.prog 46 #[.pointer (some ⟨st,0,none⟩)] w λe w'=>e = .returned (.int .i64 broken)∧w'=w):=(λw h=>by
  obtain⟨m,t,rv,rb,hA⟩:=hS.kept h;have:=Qw hA;rw[hs.broken] at this
  exact this)
 have HFS:Hid (∀w,W.grownBy w none→Calls Tryz.prog 22 #[.pointer (some ⟨st,0,none⟩)] w λe w'=>e = .returned (.int .i64 (fr.length:Int))∧w'=w):=(λw h=>by
  obtain⟨m,t,rv,rb,hA⟩:=hS.kept h;have:=sfree hA;rw[hs.freeN] at this;rw[hfr]
  exact this)
 have HFD:Hid (∀w,W.grownBy w none→Calls Tryz.prog 115 #[.pointer (some ⟨sb,0,none⟩)] w λe w'=>∃v,e = .returned v∧Jc w w' v fr∧w.grownBy w' none):=(λw h=>by
  rw[hfr];have hb:=λy hy=>(hs.blk y hy).2.1
  rw[←hs.d.n] at hb
  exact rfree (hp.d.kept h) (hp.s.kept h) hb (λy hy=>(hs.blk y hy).2.2))
 have HGET:Hid (∀w,W.grownBy w none→∀k,Calls Tryz.prog 21 #[.pointer (some ⟨st,0,none⟩),.int .i64 k] w λe w'=>w.grownBy w' none∧∃v,e = .returned (.tuple #[v,.bool (zw L k).isSome])∧((zw L k=none∧v = .slice none 0 0)∨∃r,zw L k=some r∧jx w w' v r.1)):=(λw h k=>by
  obtain⟨m,t,rv,rb,hA⟩:=hS.kept h;have:=sget hA k;rw[hs.L] at this
  exact this)
 have HNUM:Hid (Calls Tryz.prog 26 #[.pointer (some ⟨st,0,none⟩)] W λe w'=>W.grownBy w' none∧∃v,e = .returned v∧w'.ownsRow W.heap.size 2 1 v L.length ((L.map (·.1)).flatMap zdp)):=(by
  obtain⟨m,t,rv,rb,hA⟩:=hS;have:=zek hA (λr hr=>by
   rw[hs.L] at hr;have h1:=hs.key r hr;have h2:=hs.n1;simp only at h1 h2;omega) (by rw[hs.L];show L.length≤_;omega)
  rw[hs.L] at this;simp only at this;rw[List.mergeSort_of_pairwise (by
   rw[List.pairwise_map]
   exact hsrt.imp λ{a b} h=>by simp;omega)] at this
  have e:((L.map (·.1)).flatMap zdp)=(L.map (·.1)).map (Value.int .i64):=by
   exact zh0 _
  rw[e]
  exact this)
 have HGK:Hid (∀y∈L,zw L y.1=some y.2):=(λy hy=>Yn hnd hy)
 have HGN:Hid (zw L next=none):=(show _=_ from Qq (λy hy=>by have:=hs.key y hy;simp only at this;omega))
 have HBY:Hid (∀y∈L,y.2.1.length≤9223372036854775807):=(λy hy=>by
  obtain⟨m,t,rv,rb,hA⟩:=hS;have:=(hA.ok.bytes y (by rw[hs.L];exact hy)).2
  omega)
 obtain⟨lv,ms,hA⟩:=hp.s;have HM:Hid (ms.length=L.length):=(show _=_ from hA.ok.len)
 have HROW:=zd hA.row;have HOK:=zd hA.ok;obtain⟨c0,c1,c2,c3,y⟩:=hA.cells;have hsl:=hA.lt sb hA.rsb;obtain⟨p,cap,hlv,hcm,hlc⟩:=hA.row.form;subst hlv;have HNM:Hid (ms.length=ms.length):=(show _=_ from rfl)
 generalize hN:ms.length=N at *;have HN:=zd hN;rw[←HM.out] at HNUM;have hN1:N≤1000:=by have:=HM.out;omega
 clear hS hp hs hA hfr hsrt hnd hN hl HNM
 go_enter Tryz.func39,Tryz.ntmps39
 go_upto_region 2 with (go_at_call 26;refine HNUM.out.mono ?_;rintro e w1 ⟨hg1,v,rfl,hrow⟩;have HG1:=zd hg1;have HNR:=zd hrow;clear hg1 hrow HNUM)
 have hvl:∀g,v.ownBlock=some g→W.heap.size≤g∧g<w1.heap.size:=λg hg=>World.ownsRow.lt HNR.out g hg
 have HVL:=zd hvl;have hr0:yl w1 2 1 zdp v (L.map (·.1)):=(show World.ownsRow _ _ _ _ _ _ _ from by rw[List.length_map,←HM.out];exact zp9 HNR.out)
 obtain⟨pl,cl,hv,-,-⟩:=hr0.form;rw[List.length_map,←HM.out] at hv;subst hv;have HR0:=zd hr0;clear hvl hr0 HNR;have hk1:w1.cell? ⟨sb,1,none⟩=some (.slice p N cap)∧w1.cell? ⟨sb,2,none⟩=some (.int .i64 next)∧w1.cell? ⟨sb,3,none⟩=some (.int .i64 broken):=⟨HG1.out.cell c1 (by simp),HG1.out.cell c2 (by simp),HG1.out.cell c3 (by simp)⟩
 have hg2:W.grownBy w1.drew none:=zj HG1.out;refine qH (S:=λw':World=>w'.cell? ⟨sb,1,none⟩=some (.slice p N cap)∧w'.cell? ⟨sb,2,none⟩=some (.int .i64 next)∧w'.cell? ⟨sb,3,none⟩=some (.int .i64 broken)) hk1 (λhHeld=>?_)
 refine qT 0 ?_;refine qT 1 ?_;refine qT 2 ?_;refine qT 3 ?_;refine qT 4 ?_;refine qT 5 ?_;refine qT 6 ?_;refine qT 7 ?_;refine qT 8 ?_;refine qT 9 ?_;refine qT 11 ?_;refine qT 12 ?_;refine qT 13 ?_;refine qT 14 ?_;refine qO 10 λK hK=>?_
 go_simp
 go_at_call 29
 refine(HNX.out _ hg2).mono ?_;rintro e w2 ⟨rfl,h2⟩;obtain rfl:w2=w1.drew:=h2;refine hK.out _ _ hk1 (λhHeld=>?_)
 clear hK K;refine qT 15 ?_;refine qT 16 ?_;refine qT 17 ?_;refine qT 18 ?_;refine qT 20 ?_;refine qO 19 λK hK=>?_
 go_simp
 go_at_call 22
 refine(HFS.out _ hg2).mono ?_;rintro e w3 ⟨rfl,h3⟩;obtain rfl:w3=w1.drew:=h3;refine hK.out _ _ hk1 (λhHeld=>?_)
 clear hK K;refine qO 21 λK hK=>?_
 go_simp
 go_at_call 115
 refine(HFD.out _ hg2).mono ?_;rintro e w4 ⟨v4,rfl,hv4,hg4⟩;obtain⟨p4,c4,hv,-,-⟩:=hv4.1.form;subst hv;have hk4:w4.cell? ⟨sb,1,none⟩=some (.slice p N cap)∧w4.cell? ⟨sb,2,none⟩=some (.int .i64 next)∧w4.cell? ⟨sb,3,none⟩=some (.int .i64 broken):=⟨hg4.cell hk1.1 (by simp),hg4.cell hk1.2.1 (by simp),hg4.cell hk1.2.2 (by simp)⟩
 have HG4a:=zd hg4;clear hg4 hv4;refine hK.out _ _ hk4 (λhHeld=>?_)
 clear hK K;refine qT 22 ?_;refine qT 23 ?_;refine qT 24 ?_;refine qT 25 ?_;refine qT 26 ?_;refine qT 28 ?_;refine qT 29 ?_;refine qT 30 ?_;refine qT 31 ?_;refine qO 27 λK hK=>?_
 go_simp
 go_at_call 46
 refine(HBR.out _ (zh hg2 HG4a.out)).mono ?_;rintro e w6 ⟨rfl,h6⟩;obtain rfl:w4=w6:=h6.symm;refine hK.out _ _ hk4 (λhHeld=>?_)
 clear hK K;refine qT 32 ?_;refine qT 33 ?_;refine qD ?_;clear hHeld hk1 hk4;have HG4:=zd (zh hg2 HG4a.out);have HR4:=zd (yl.grown (W':=w4) HR0.out (zh (zj (zi _)) HG4a.out) (by simp))
 clear hg2 HG4a HG1 HR0
 go_upto_region 5 with fail
 go_loopw [6] (λt wr=>∃(tn:Nat) (xs:List Int),tn≤2∧t = .int .i64 (tn:Int)∧W.grownBy wr none∧yl wr 2 1 zdp (.slice pl N cl) xs∧xs.length=N∧(tn=0→xs=L.map (·.1))) (λt _=>2-(intOf t).toNat)
 case atStart=>exact⟨0,_,by omega,rfl,HG4.out,HR4.out,by rw[List.length_map,←HM.out],λ_=>rfl⟩
 case round=>
  clear HG4 HR4;obtain⟨tn,xs,htn,rfl,hg,hrw,hxl,hx0⟩:=hrel;have HG:=zd hg;have HRW:=zd hrw;have HXL:=zd hxl;have HX0:=zd hx0;clear hg hrw hxl hx0
  by_cases ht2:tn<2
  ·go_upto_region 8 with fail
   go_loopw [7] (λi w=>∃(j:Nat) (xs:List Int),j≤N∧i = .int .i64 (j:Int)∧W.grownBy w none∧yl w 2 1 zdp (.slice pl N cl) xs∧xs.length=N∧(tn=0→∀q,j≤q→xs[q]? = (L.map (·.1))[q]?)) (λi _=>N-(intOf i).toNat)
   case atStart=>exact⟨0,xs,by omega,rfl,HG.out,HRW.out,HXL.out,λh0 q _=>by rw[HX0.out h0]⟩
   case round=>
    clear HG HRW HXL HX0 xs;obtain⟨j,xs,hj,rfl,hg,hrw,hxl,hx0⟩:=hrel;have HG:=zd hg;have HRW:=zd hrw;have HXL:=zd hxl;have HX0:=zd hx0;clear hg hrw hxl hx0
    by_cases hjN:j<N
    ·have hjm:j<ms.length:=by rw[HN.out];exact hjN
     have hjL:j<L.length:=by rw[←HM.out];exact hjN
     have hxo:=HOK.out.get j hjm hjL;obtain⟨g,hgp,x0,x1⟩:∃g,p=some ⟨g,0,none⟩∧W.cell? ⟨g,j*3,none⟩=some (.int .i64 ms[j].k)∧W.cell? ⟨g,j*3+1,none⟩=some (.string (ofB ms[j].b)):=by
      rcases yl.at qe HROW.out with e0|⟨g,c,e,hc,_⟩
      ·rw[e0] at hjm;simp at hjm
      ·injection e with e1
       exact⟨g,e1,hc j hjm 0 _ rfl,hc j hjm 1 _ rfl⟩
     subst hgp;rw[hxo.1] at x0;rw[hxo.2.1] at x1;obtain⟨gl,hgl,xl⟩:∃gl,pl=some ⟨gl,0,none⟩∧wr.cell? ⟨gl,j,none⟩=some (.int .i64 (xs.getD j 0)):=by
      rcases yl.at zdq HRW.out with e0|⟨g',c',e,hc,_⟩
      ·have:=HXL.out;rw[e0] at this;simp at this;omega
      ·injection e with e1
       have hjx:j<xs.length:=by rw[HXL.out];exact hjN
       have h1:=hc j hjx 0 _ rfl;rw[Nat.mul_one,Nat.add_zero] at h1;refine⟨g',e1,?_⟩;rw[h1,List.getD_eq_getElem?_getD,List.getElem?_eq_getElem hjx]
       rfl
     subst hgl;have HXJ:Hid (tn=0→xs.getD j 0=L[j].1):=(λh0=>by
      rw[List.getD_eq_getElem?_getD,HX0.out h0 j (Nat.le_refl _),List.getElem?_map,List.getElem?_eq_getElem hjL]
      rfl)
     have HGJ:=zd (HGK.out _ (List.getElem_mem hjL));have HBJ:=zd (HBY.out _ (List.getElem_mem hjL));clear hxo;generalize xs.getD j 0=xj at *;generalize L[j]=yq at *;obtain⟨yk,yb,yp⟩:=yq;simp only at x0 x1;have e1:=HG.out.cell c1 (by simp)
     have e2:=HG.out.cell x0 (by simp)
     have e3:=HG.out.cell x1 (by simp)
     have HCE:Hid (∀w',wr.grownBy w' none→w'.cell? ⟨sb,1,none⟩=some (.slice (some ⟨g,0,none⟩) N cap)∧w'.cell? ⟨g,j*3,none⟩=some (.int .i64 yk)∧w'.cell? ⟨g,j*3+1,none⟩=some (.string (ofB yb))∧w'.cell? ⟨gl,j,none⟩=some (.int .i64 xj)):=(λw' h=>⟨h.cell e1 (by simp),h.cell e2 (by simp),h.cell e3 (by simp),h.cell xl (by simp)⟩)
     have hlg:=xi e2;have HGT:Hid (Calls Tryz.prog 21 #[.pointer (some ⟨st,0,none⟩),.int .i64 yk] wr λe w'=>wr.grownBy w' none∧∃v,e = .returned (.tuple #[v,.bool true])∧jx wr w' v yb):=((HGET.out wr HG.out yk).mono λe w' ⟨h1,v,h2,h3⟩=>by
      have hgj:zw L yk=some (yb,yp):=HGJ.out;rw[hgj] at h2 h3;refine⟨h1,v,h2,?_⟩
      rcases h3 with ⟨h4,_⟩|⟨r,h4,h5⟩
      ·cases h4
      ·cases h4;exact h5)
     go_upto_region 11 with (go_at_call 21;refine HGT.out.mono ?_;rintro e w5 ⟨hg5,v5,rfl,hv5⟩;have HG5:=zd hg5;have HV5:=zd hv5;clear hg5 hv5)
     obtain⟨p5,c5,hv5,-,-⟩:∃p5 c5,v5 = .slice p5 yb.length c5∧True∧True:=by
      rcases HV5.out.2 with ⟨h1,h2⟩|⟨g',c',cur,h1,_⟩
      ·exact⟨none,0,by rw[h1,h2],trivial,trivial⟩
      ·exact⟨_,_,h1,trivial,trivial⟩
     subst hv5;have hcv:=Jv (jx.rowP (W:=wr) (w:=w5) HV5.out HBJ.out);obtain⟨q1,q2,q3,q4⟩:=HCE.out w5 HG5.out;have hl1:=xi q2;have hl2:=xi q4;have hcvd:(convert 32 9 (.slice p5 yb.length c5)).run Tryz.prog w5.drew = .ok (.string (ofB yb)) w5.drew:=Jv (jx.rowP (W:=wr) (w:=w5.drew) HV5.out HBJ.out);clear e1 e2 e3 xl x0 x1 hcv
     go_cut [105] from 72 to 105 (λcnd wx=>cnd = .bool false∧wx=w5.drew)
     case first=>
      rcases Nat.eq_zero_or_pos tn with h0|h0
      ·subst h0
       have hxk:=HXJ.out rfl;subst hxk;refine qH (S:=λw':World=>w'=w5.drew) rfl (λhHeld=>?_)
       refine qT 0 ?_;refine qT 1 ?_;refine qT 2 ?_;refine qT 3 ?_;refine qT 4 ?_;refine qT 5 ?_;refine qT 6 ?_;refine qT 7 ?_;refine qT 8 ?_;refine qT 9 ?_;refine qT 10 ?_;refine qT 11 ?_;refine qT 12 ?_;refine qT 13 ?_;refine qT 14 ?_;refine qT 15 ?_;refine qT 16 ?_;refine qT 17 ?_;refine qT 18 ?_;refine qT 19 ?_;refine qT 20 ?_;refine qT 21 ?_;refine qT 22 ?_;refine qT 23 ?_;refine qT 24 ?_;refine qT 25 ?_;refine qT 26 ?_;refine qT 27 ?_;refine qT 28 ?_;refine qT 29 ?_;refine qT 30 ?_;refine qT 31 ?_;refine qT 32 ?_;refine qT 33 ?_;refine qD ?_
       go_wp2_with fail
       go_meet
       case rel=>exact⟨rfl,rfl⟩
      ·obtain rfl:tn=1:=by omega
       refine qH (S:=λw':World=>w'=w5.drew) rfl (λhHeld=>?_)
       refine qT 0 ?_;refine qT 1 ?_;refine qT 2 ?_;refine qU 3 ?_;refine qU 4 ?_;refine qU 5 ?_;refine qU 6 ?_;refine qU 7 ?_;refine qU 8 ?_;refine qU 9 ?_;refine qU 10 ?_;refine qU 11 ?_;refine qU 12 ?_;refine qU 13 ?_;refine qU 14 ?_;refine qU 15 ?_;refine qT 16 ?_;refine qT 17 ?_;refine qT 18 ?_;refine qT 19 ?_;refine qT 20 ?_;refine qT 21 ?_;refine qT 22 ?_;refine qT 23 ?_;refine qT 24 ?_;refine qT 25 ?_;refine qT 26 ?_;refine qT 27 ?_;refine qT 28 ?_;refine qT 29 ?_;refine qT 30 ?_;refine qT 31 ?_;refine qT 32 ?_;refine qT 33 ?_;refine qD ?_
       go_wp2_with fail
       go_meet
       case rel=>exact⟨rfl,rfl⟩
     case rest=>
      obtain⟨rfl,rfl⟩:=hcut;obtain⟨hsp,hsb⟩:=jx.spoil HV5.out;have HSP:Hid (Xu w5.drew p5 yb.length):=(show Xu _ _ _ from hsp)
      have HPB:Hid (∀b,(Value.slice p5 yb.length c5).ownBlock=some b→wr.heap.size≤b∧b<w5.drew.heap.size):=(show ∀_,_→_ from hsb)
      have HGW:Hid (wr.grownBy w5.drew none):=(show World.grownBy _ _ _ from zj HG5.out)
      clear hsp hsb HV5 HG5 hcvd q1 q2 q3 q4 hl1 hl2 HCE;generalize w5.drew=w7 at *;obtain⟨n,hn⟩:∃n,n=yb.length:=⟨_,rfl⟩;have hnl:n≤9223372036854775807:=by rw[hn];exact HBJ.out
      rw[←hn] at HSP HPB ⊢;clear hn;generalize wr=w0 at *;have HRW7:=zd (yl.grown HRW.out HGW.out (by simp))
      go_upto_region 14 with fail
      go_loopw [10] (λq w=>∃k:Nat,k≤n∧q = .int .i64 (k:Int)∧Xu w p5 n∧w7.grownBy w (Value.slice p5 n c5).ownBlock) (λq _=>n-(intOf q).toNat)
      case atStart=>exact⟨0,by omega,rfl,HSP.out,⟨rfl,rfl,rfl,Nat.le_refl _,λ_ _ _=>rfl⟩⟩
      case round=>
       obtain⟨k,hk,rfl,hs8,hg8⟩:=hrel;have HS8:=zd hs8;have HG8:=zd hg8;clear hg8
       by_cases hkn:k<n
       ·obtain⟨g8,rfl,z,hz,hf⟩:∃g,p5=some ⟨g,0,none⟩∧∃z,wr.cell? ⟨g,k,none⟩=some (.int .u8 z)∧wr.frozen? ⟨g,k,none⟩=false:=by
         rcases hs8 with h|⟨g',e,h1,h2⟩
         ·omega
         ·obtain⟨z,hz⟩:=h1 k hkn
          exact⟨g',e,z,hz,h2 k hkn⟩
        have hgl8:=xi hz;clear hs8;go_wp2
        exact⟨⟨k+1,by omega,by simp,HS8.out.set k _,zmm HG8.out (zv wr g8 k _)⟩,by simp[intOf];omega⟩
       ·obtain rfl:k=n:=by omega
        clear hs8;have hb8:∀b,(Value.slice p5 k c5).ownBlock=some b→b≠gl:=λb hb e=>by
         have h1:=(HPB.out b hb).1;have h2:=yl.lt HRW.out (g:=gl) rfl;omega
        have hr8:=yl.grown HRW7.out HG8.out (λg hg e=>hb8 g e (by injection hg with hg;exact hg.symm))
        have HR8:=zd hr8;have hjx:j<xs.length:=by rw[HXL.out];exact hjN
        have hgl2:=HVL.out gl rfl;obtain⟨xz,hxz,hfz⟩:∃u,wr.cell? ⟨gl,j,none⟩=some u∧wr.frozen? ⟨gl,j,none⟩=false:=by
         rcases yl.at zdq hr8 with e0|⟨g',c',e,hc,hf⟩
         ·rw[e0] at hjx;simp at hjx
         ·injection e with e1
          injection e1 with e1
          injection e1 with e1
          subst e1;have h1:=hc j hjx 0 _ rfl;rw[Nat.mul_one,Nat.add_zero] at h1
          exact⟨_,h1,hf j⟩
        have hset:yl (wr.setCell ⟨gl,j,none⟩ (.int .i64 0)) 2 1 zdp (.slice (some ⟨gl,0,none⟩) N cl) (xs.set j 0):=by
         have h0:yl wr 2 1 zdp (.slice (some ⟨gl,0,none⟩) xs.length cl) xs:=by rw[HXL.out];exact hr8
         have:=yl.set zdq h0 j 0 hjx (by decide) 0 (.int .i64 0) rfl
         rw[Nat.mul_one,Nat.add_zero,HXL.out] at this
         exact this
        have HSET:=zd hset;have HGF:Hid (W.grownBy (wr.setCell ⟨gl,j,none⟩ (.int .i64 0)) none):=(show World.grownBy _ _ _ from xp (xp (zh HG.out HGW.out) HG8.out (λb hb=>by have:=(HPB.out b hb).1;have:=HG.out.size;omega)) (zv wr gl j _) (λb hb=>by injection hb with hb;rw[←hb];exact hgl2.1))
        have HXN:Hid (tn=0→∀q,j+1≤q→(xs.set j 0)[q]? = (L.map (·.1))[q]?):=(λh0 q hq=>by
         rw[List.getElem?_set_ne (by omega)]
         exact HX0.out h0 q (by omega))
        have hgl9:=xi hxz;clear hset hr8 hb8 HX0;go_wp2
        exact⟨⟨j+1,by omega,by simp,HGF.out,xs.set j 0,HSET.out,by rw[List.length_set];exact HXL.out,λh0 q hq=>by simpa using HXN.out h0 q hq⟩,by simp[intOf];omega⟩
    ·obtain rfl:j=N:=by omega
     go_wp2
     exact⟨⟨tn+1,xs,by omega,by simp,HG.out,HRW.out,HXL.out,λh=>by omega⟩,by simp[intOf];omega⟩
  ·obtain rfl:tn=2:=by omega
   have HGT:Hid (Calls Tryz.prog 21 #[.pointer (some ⟨st,0,none⟩),.int .i64 next] wr λe w'=>wr.grownBy w' none∧e = .returned (.tuple #[.slice none 0 0,.bool false])):=((HGET.out wr HG.out next).mono λe w' ⟨h1,v,h2,h3⟩=>by
    rw[HGN.out] at h2 h3
    rcases h3 with ⟨_,h4⟩|⟨r,h4,_⟩
    ·rw[h4] at h2;exact⟨h1,h2⟩
    ·cases h4)
   have e2:=HG.out.cell c2 (by simp)
   go_wp2_with (go_at_call 21;refine HGT.out.mono ?_;rintro e w5 ⟨hg5,rfl⟩;have HG5:=zd hg5;clear hg5)
   go_ret
   exact⟨rfl,zh HG.out HG5.out⟩
end
theorem zi6 (k:Int) (s:ByteArray) (p:Option Addr) (n c:Nat) (w:World):(Instr.buildSlice 191 1 #[(0,.agg #[.int .i64 k,.string s,.slice p n c])]).run Tryz.prog w = .ok (.slice (some ⟨w.heap.size,0,none⟩) 1 1) (w.alloc (.cells #[.int .i64 k,.string s,.slice p n c] 198)):=by kernel_rfl
theorem Jw (k:Int) (s:ByteArray) (p:Option Addr) (n c:Nat) {o:Oper} {a:Act} (y:Operand) (hop:o.op=Op.buildSlice 191 1 #[(0,y)]) (hy:a.eval y = .agg #[.int .i64 k,.string s,.slice p n c]):(execOp a.eval o).run Tryz.prog w = .ok (.value (.slice (some ⟨w.heap.size,0,none⟩) 1 1)) (w.alloc (.cells #[.int .i64 k,.string s,.slice p n c] 198)):=by
 have hb:=zi6 k s p n c w;unfold execOp;rw[hop]
 change (do pure (Next.value (←Instr.buildSlice 191 1 ((#[(0,y)]:Array (Nat × Operand)).map λp=>(p.1,a.eval p.2)))):Sem Next).run Tryz.prog w=_
 have e:((#[(0,y)]:Array (Nat × Operand)).map λp=>(p.1,a.eval p.2)) = #[(0,.agg #[.int .i64 k,.string s,.slice p n c])]:=by simp[hy]
 rw[e];generalize Instr.buildSlice 191 1 #[(0,.agg #[.int .i64 k,.string s,.slice p n c])]=q at *;simp[go_sem,hb]
theorem rc_all (k:Int) (s:ByteArray) (p:Option Addr) (n c:Nat):(#[Value.int .i64 k,.string s,.slice p n c]:Array Value).all (·.oneCell')=true:=
 all_oneCell_toArray (cs:=[Value.int .i64 k,.string s,.slice p n c]) (λv hv=>by
  simp only[List.mem_cons,List.not_mem_nil,or_false] at hv
  rcases hv with rfl|rfl|rfl <;> rfl)
theorem zeroRc (w:World):(zeroValue 198).run Tryz.prog w = .ok (.agg #[.int .i64 0,.string ⟨#[]⟩,.slice none 0 0]) w:=by kernel_rfl
section
variable {rsd rss : Nat → Prop} {W : World} {sb db : Nat} {R : RDk} {L : List (Int × ye)} {next broken : Int} {b : List Int}
set_option maxRecDepth 100000 in
theorem zi4 (h:qg rsd rss W sb db R L next broken) (hbl:b.length≤100000000) (hb:broken≠0):Calls Tryz.prog 121 #[.pointer (some ⟨sb,0,none⟩),.string (ofB b)] W (Xr rsd rss W sb db ⟨R,L,next,broken⟩ b):=by
 have HQ:Hid (Xr rsd rss W sb db ⟨R,L,next,broken⟩ b (.returned (.tuple #[.int .i64 0,.int .i64 broken])) W):=(show Xr _ _ _ _ _ _ _ _ _ from by
  have er:(⟨R,L,next,broken⟩:Doc).put b=(⟨R,L,next,broken⟩,0,broken):=by unfold Doc.put;rw[if_pos hb]
  unfold Xr;rw[er]
  exact⟨rfl,qg.here ⟨R,L,next,broken⟩ h (zi _)⟩)
 obtain⟨c0,c2,c3,y,hsl⟩:=h.s.all;have HQ2:Hid (Xr rsd rss W sb db ⟨R,L,next,broken⟩ b (.returned (.tuple #[.int .i64 0,.int .i64 broken])) W.drew):=(show Xr _ _ _ _ _ _ _ _ _ from by
  have er:(⟨R,L,next,broken⟩:Doc).put b=(⟨R,L,next,broken⟩,0,broken):=by unfold Doc.put;rw[if_pos hb]
  unfold Xr;rw[er]
  exact⟨rfl,qg.here ⟨R,L,next,broken⟩ h (zj (zi _))⟩)
 generalize Xr rsd rss W sb db ⟨R,L,next,broken⟩ b=PP at *;have hsz:(ofB b).size=b.length:=yu b;have HSZ:=zd hsz;rw[←hsz] at hbl;generalize ofB b=s at *;clear hsz
 go_enter Tryz.func121,Tryz.ntmps121
 go_upto_region 2 with fail
 refine qH (S:=λw':World=>w'.cell? ⟨sb,3,none⟩=some (.int .i64 broken)∧True) ⟨c3,trivial⟩ (λhHeld=>?_)
 refine qT 0 ?_;refine qT 1 ?_;refine qT 2 ?_;refine qT 3 ?_;refine qT 4 ?_;refine qT 5 ?_;refine qD ?_
 go_wp2_with fail
 first|exact HQ2.out|(go_ret2;exact HQ2.out)
set_option maxRecDepth 100000 in
theorem zkv (h:qg rsd rss W sb db R L next broken) (hbl:b.length≤100000000) (hb:broken=0) (hl:131072<b.length):Calls Tryz.prog 121 #[.pointer (some ⟨sb,0,none⟩),.string (ofB b)] W (Xr rsd rss W sb db ⟨R,L,next,broken⟩ b):=by
 have HQ:Hid (Xr rsd rss W sb db ⟨R,L,next,broken⟩ b (.returned (.tuple #[.int .i64 0,.int .i64 3])) W):=(show Xr _ _ _ _ _ _ _ _ _ from by
  have er:(⟨R,L,next,broken⟩:Doc).put b=(⟨R,L,next,broken⟩,0,3):=by subst hb;unfold Doc.put;rw[if_neg (λe=>e rfl),if_pos (Or.inl hl)]
  unfold Xr;rw[er]
  exact⟨rfl,qg.here ⟨R,L,next,broken⟩ h (zi _)⟩)
 obtain⟨c0,c2,c3,y,hsl⟩:=h.s.all;clear h;generalize Xr rsd rss W sb db ⟨R,L,next,broken⟩ b=PP at *;have hsz:(ofB b).size=b.length:=yu b;have HSZ:=zd hsz;rw[←hsz] at hbl;subst hb;rw[←hsz] at hl;generalize ofB b=s at *;clear hsz
 go_enter Tryz.func121,Tryz.ntmps121
 go_wp2
 first|exact HQ.out|(go_ret2;exact HQ.out)|(go_ret;exact HQ.out)
set_option maxRecDepth 100000 in
theorem znm (h:qg rsd rss W sb db R L next broken) (hbl:b.length≤100000000) (hb:broken=0) (hl:¬131072<b.length) (hn:4611686018427387904<next):Calls Tryz.prog 121 #[.pointer (some ⟨sb,0,none⟩),.string (ofB b)] W (Xr rsd rss W sb db ⟨R,L,next,broken⟩ b):=by
 have HQ:Hid (Xr rsd rss W sb db ⟨R,L,next,broken⟩ b (.returned (.tuple #[.int .i64 0,.int .i64 3])) W):=(show Xr _ _ _ _ _ _ _ _ _ from by
  have er:(⟨R,L,next,broken⟩:Doc).put b=(⟨R,L,next,broken⟩,0,3):=by subst hb;unfold Doc.put;rw[if_neg (λe=>e rfl),if_pos (Or.inr hn)]
  unfold Xr;rw[er]
  exact⟨rfl,qg.here ⟨R,L,next,broken⟩ h (zi _)⟩)
 obtain⟨c0,c2,c3,y,hsl⟩:=h.s.all;clear h;generalize Xr rsd rss W sb db ⟨R,L,next,broken⟩ b=PP at *;have hsz:(ofB b).size=b.length:=yu b;have HSZ:=zd hsz;rw[←hsz] at hbl;subst hb;rw[←hsz] at hl;generalize ofB b=s at *;clear hsz
 go_enter Tryz.func121,Tryz.ntmps121
 go_wp2
 first|exact HQ.out|(go_ret2;exact HQ.out)|(go_ret;exact HQ.out)
end
end Go.Proofs.YtbcbhlfjgobejaaGreat
