/- law19's does: a call on both stores: the walk. Conditions: none, or as the theorems say. -/
import Derived.Test.YtbcbhlfjgobejaaGreatJ1
import Derived.Test.YtbcbhlfjgobejaaGreatJ43
import Derived.Test.YtbcbhlfjgobejaaGreatJ45
import Derived.Test.YtbcbhlfjgobejaaGreatJ46
import Derived.Test.YtbcbhlfjgobejaaGreatJ35
set_option linter.unusedSimpArgs false
set_option linter.unusedVariables false
namespace Go.Proofs.YtbcbhlfjgobejaaGreat
set_option maxHeartbeats 200000000
open Go.RowKit Go.Sf Go.Shelf
theorem zjg (W:World) (s:ByteArray) (hs:s.size≤1000000):∃p c W2,(convert 9 32 (.string s)).run Tryz.prog W = .ok (.slice p s.size c) W2∧W.grownBy W2 none∧xy (fun k=>W.heap.size≤k∧k<W2.heap.size) W2 (.slice p s.size c) (zg (xu s))∧Ym W2 p s.size∧∀g,p=some ⟨g,0,none⟩→W.heap.size≤g∧g<W2.heap.size:=by
 obtain⟨y,W2,h1,h2,h3⟩:=zjf W s hs;have h4:=Lib.run_convert_string_bytes (P:=Tryz.prog) W 9 32 5 s (u:=.string) Tryz.underlying9 Tryz.underlying32 Tryz.underlying5;rw[h4] at h1
 injection h1 with e1 e2
 subst e1 e2;have hge:=grownCap_ge W s.size 0 5;refine⟨_,_,_,h4,h2,h3,Or.inr ⟨W.heap.size,rfl,fun i hi=>⟨_,Lib.bytesWorld_cell W 5 s i hi⟩,fun i hi=>?_⟩,fun g hg=>?_⟩
 ·unfold World.frozen?
  rw[Lib.bytesWorld_at_new];have:¬((Lib.bytesCells W 5 s).size≤i):=by
   unfold Lib.bytesCells;simp;have:s.data.size=s.size:=rfl;omega
  simp[this]
 ·injection hg with hg
  injection hg with hg
  have:=Lib.bytesWorld_size W 5 s;omega
section
variable {own rsd rss : Nat → Prop} {B W : World} {st db sb mb : Nat} {S : Sto} {D : Doc} {x : qk}
def zbc (B:World) (st db sb mb:Nat) (S:Sto) (D:Doc) (e:Ending) (w':World):Prop:=e = .returned (.bool true)∧∃own' rsd' rss' S' D',JM B own' rsd' rss' st db sb mb S' D' w'∧qm S' D'∧zig S D S' D'
def zc3 (B:World) (st db sb mb:Nat) (rsd2 rss2:Nat→Prop) (S':Sto) (D':Doc) (py:Option Addr) (sz:Nat) (wr:World):Prop:=Ym wr py sz∧∃own',JM B own' rsd2 rss2 st db sb mb S' D' wr∧∀g,py=some ⟨g,0,none⟩→own' g
theorem zc3.set {rsd2 rss2:Nat→Prop} {S':Sto} {D':Doc} {g sz:Nat} {wr:World} (h:zc3 B st db sb mb rsd2 rss2 S' D' (some ⟨g,0,none⟩) sz wr) (h1:¬rsd2 g∧¬rss2 g∧B.heap.size≤g) (k:Nat) (z:Int):zc3 B st db sb mb rsd2 rss2 S' D' (some ⟨g,0,none⟩) sz (wr.setCell ⟨g,k,none⟩ (.int .u8 z)):=by
 obtain⟨hs,own',hj,ho⟩:=h
 exact⟨hs.set k z,_,hj.poke (ho g rfl) h1.2.2 h1.1 h1.2.1 (zw wr g k _),fun g' hg'=>Or.inl (ho g' hg')⟩
set_option maxRecDepth 100000 in
theorem zfg (h:JM B own rsd rss st db sb mb S D W) (hs:qm S D) (hf:S.d.late.length+600<1000000) (hlen:D.L.length≤1000) (hx:jh B x) (hkind:x.kind%12=5∨x.kind%12=6):Calls Tryz.prog 45 #[.pointer (some ⟨st,0,none⟩),.pointer (some ⟨sb,0,none⟩),.agg (yr x).toArray] W (zbc B st db sb mb S D):=by
 have H:=zd h;have HS:=zd hs;have HF:=zd hf;have HL:=zd hlen;have hk0:=hx.k;have hg1:=ze W (.cells (yr x).toArray 49) none;have hb1:=heap_alloc_new W (.cells (yr x).toArray 49);have x0:(W.alloc (.cells (yr x).toArray 49)).cell? ⟨W.heap.size,0,none⟩=some (.int .u8 x.kind):=(zf hb1 0).trans rfl;have x3:(W.alloc (.cells (yr x).toArray 49)).cell? ⟨W.heap.size,3,none⟩=some (.int .i64 x.n):=(zf hb1 3).trans rfl;have HM:=zd ((h.more hg1).grown (zk (zj _)));have HQ:Hid (∀e w',zbc B st db sb mb S D e w'→zbc B st db sb mb S D e w'):=(fun _ _ h=>h)
 obtain⟨PP,hPP⟩:∃PP,PP=zbc B st db sb mb S D:=⟨_,rfl⟩;rw[←hPP];have HPP:=zd hPP;clear h hs hf hlen hx hb1 hPP HQ
 go_enter Tryz.func45,Tryz.ntmps45
 go_upto_region 1 with fail
 generalize W.alloc (.cells (yr x).toArray 49)=wa at *;obtain⟨ownA,hownA⟩:∃o:Nat→Prop,o=Ql own W wa:=⟨_,rfl⟩;rw[←hownA] at HM;have HXB:Hid (ownA W.heap.size∧W.heap.size<wa.heap.size∧B.heap.size≤W.heap.size∧¬rsd W.heap.size∧¬rss W.heap.size):=(show _∧_ from by
  have h1:=xo x0;refine⟨by rw[hownA];exact Or.inr ⟨Nat.le_refl _,h1⟩,h1,H.out.gr.size,fun e=>?_,fun e=>?_⟩
  ·have:=H.out.rp.d.lt e;omega
  ·have:=H.out.rp.s.lt e;omega)
 generalize W.heap.size=xb at *;clear hownA hg1;have hxlt:=xo x0;have HRM:=zd (HM.out.kr.rem x.n (by have:=HF.out;omega))
 have HSR:=zd (zm2 HS.out x.n);have HRR:Hid (∀own' w',JM B own' rsd rss st db sb mb (S.rem x.n).1 D w'→Calls Tryz.prog 120 #[.pointer (some ⟨sb,0,none⟩),.int .i64 x.n] w' fun e w2=>e = .returned (.int .i64 (S.rem x.n).2)∧∃own2 rsd2 rss2,JM B own2 rsd2 rss2 st db sb mb (S.rem x.n).1 (D.rem x.n).1 w2∧zm (fun q=>rsd q∨rss q) w' w2):=(fun own' w' hj=>by
  refine(rrem hj.rp (HS.out.dok (by have:=HL.out;omega)) x.n (by rw[HS.out.d.open];have:=HF.out;omega)).mono ?_
  rintro e w2 ⟨rfl,rsd2,rss2,h1,h2,h3,h4⟩
  exact⟨by rw[HSR.out.1],_,_,_,hj.doc h1 h4 h2 h3,h4⟩)
 have HST:=zd (zky S D x.n);clear HF HL HS;generalize (S.rem x.n).2=ev at *
 go_cut [23] from 14 to 23 (fun cnd wx=>cnd = .bool true∧wx=wa)
 case first=>
  by_cases c5:x.kind%12=5
  ·go_wp2
   go_meet
   case rel=>exact⟨by simp,rfl⟩
  ·have c6:x.kind%12=6:=hkind.resolve_left c5
   clear hkind;go_wp2
   go_meet
   case rel=>exact⟨by simp,rfl⟩
 case rest=>
 obtain⟨rfl,rfl⟩:=hcut;clear hkind
 go_upto_region 2 with fail
 refine wp_region_held_drew (S:=fun w':World=>w'.cell? ⟨xb,3,none⟩=some (.int .i64 x.n)∧True) (by kernel_rfl) ⟨x3,trivial⟩ (fun hHeld=>?_)
 refine tk (i:=0) (oi:=⟨some 24,Op.move (Operand.tmp 0),_,_,_,none⟩) (v:=?_) rfl hHeld ?_ ?_;rotate_left
 ·rintro w ⟨s1,-⟩;go_simp;try with_reducible rfl
 (try simp only[Act.put,za,zb,zc])
 refine tk (i:=1) (oi:=⟨some 25,Op.fieldAddr 49 (Operand.tmp 5) 3,_,_,_,none⟩) (v:=?_) rfl hHeld ?_ ?_;rotate_left
 ·rintro w ⟨s1,-⟩;go_simp;try with_reducible rfl
 (try simp only[Act.put,za,zb,zc])
 refine tk (i:=2) (oi:=⟨some 26,Op.load 2 (Operand.tmp 25),_,_,_,none⟩) (v:=?_) rfl hHeld ?_ ?_;rotate_left
 ·rintro w ⟨s1,-⟩;go_simp;try with_reducible rfl
 (try simp only[Act.put,za,zb,zc])
 refine tk (i:=4) (oi:=⟨some 28,Op.move (Operand.tmp 1),_,_,_,none⟩) (v:=?_) rfl hHeld ?_ ?_;rotate_left
 ·rintro w ⟨s1,-⟩;go_simp;try with_reducible rfl
 (try simp only[Act.put,za,zb,zc])
 refine tk (i:=5) (oi:=⟨some 29,Op.fieldAddr 49 (Operand.tmp 5) 3,_,_,_,none⟩) (v:=?_) rfl hHeld ?_ ?_;rotate_left
 ·rintro w ⟨s1,-⟩;go_simp;try with_reducible rfl
 (try simp only[Act.put,za,zb,zc])
 refine tk (i:=6) (oi:=⟨some 30,Op.load 2 (Operand.tmp 29),_,_,_,none⟩) (v:=?_) rfl hHeld ?_ ?_;rotate_left
 ·rintro w ⟨s1,-⟩;go_simp;try with_reducible rfl
 (try simp only[Act.put,za,zb,zc])
 refine wpAnyH_ready (rs:=[3]) (by kernel_rfl) (by simp) ?_
 refine AllReadyH.cons (o:=⟨some 27,Op.call { callee:=Callee.value (Operand.func 30),args:=#[Operand.tmp 24,Operand.tmp 26],argTypes:=#[24,2] },_,_,_,none⟩) rfl (fun K hK=>?_) AllReadyH.nil
 go_simp
 go_at_call 30
 refine HRM.out.mono ?_;rintro e w6 ⟨rfl,hk6,ht6⟩;have HJ6:=zd (HM.out.prog hk6.rep ht6);have z6:=(World.cell?_of_block (a:=⟨xb,3,none⟩) (ht6.block xb HXB.out.2.1 (fun e=>e HXB.out.1))).trans x3
 clear hk6 ht6;refine hK.out _ _ ⟨z6,trivial⟩ (fun hHeld=>?_)
 clear hK K
 (try simp only[Act.put,za,zb,zc])
 refine wpAnyH_ready (rs:=[7]) (by kernel_rfl) (by simp) ?_
 refine AllReadyH.cons (o:=⟨some 31,Op.call { callee:=Callee.value (Operand.func 120),args:=#[Operand.tmp 28,Operand.tmp 30],argTypes:=#[62,2] },_,_,_,none⟩) rfl (fun K hK=>?_) AllReadyH.nil
 go_simp
 go_at_call 120
 refine(HRR.out _ _ HJ6.out).mono ?_;rintro e w7 ⟨rfl,own2,rsd2,rss2,hj7,ht7⟩;have HJ7:=zd hj7;have z7:=(World.cell?_of_block (a:=⟨xb,3,none⟩) (ht7.block xb (xo z6) (fun e=>e.elim HXB.out.2.2.2.1 HXB.out.2.2.2.2))).trans z6
 clear hj7 ht7;refine hK.out _ _ ⟨z7,trivial⟩ (fun hHeld=>?_)
 clear hK K
 (try simp only[Act.put,za,zb,zc])
 refine tk (i:=8) (oi:=⟨some 32,Op.binOp BinOp.eql 25 (Operand.tmp 27) (Operand.tmp 31) 25,_,_,_,none⟩) (v:=?_) rfl hHeld ?_ ?_;rotate_left
 ·rintro w -;go_simp;try with_reducible rfl
 (try simp only[Act.put,za,zb,zc])
 refine tk (i:=9) (oi:=⟨some 6,Op.assign (Operand.tmp 32),_,_,_,none⟩) (v:=?_) rfl hHeld ?_ ?_;rotate_left
 ·rintro w -;go_simp;try with_reducible rfl
 (try simp only[Act.put,za,zb,zc])
 refine wpAnyH_done (by kernel_rfl) ?_ _
 go_wp2_with fail
 have HQ:PP (.returned (.bool true)) w7:=by
  rw[HPP.out]
  exact⟨rfl,own2,rsd2,rss2,_,_,HJ7.out,HSR.out.2,HST.out⟩
 first|exact HQ|(go_ret2;exact HQ)
set_option maxRecDepth 100000 in
theorem zll (h:JM B own rsd rss st db sb mb S D W) (hs:qm S D) (hf:S.d.late.length+600<1000000) (hlen:D.L.length≤1000) (hx:jh B x) (h5:¬x.kind%12=5) (h6:¬x.kind%12=6):Calls Tryz.prog 45 #[.pointer (some ⟨st,0,none⟩),.pointer (some ⟨sb,0,none⟩),.agg (yr x).toArray] W (zbc B st db sb mb S D):=by
 have H:=zd h;have HS:=zd hs;have HF:=zd hf;have HL:=zd hlen;have HX:=zd hx;have hk0:=hx.k;have HLX:=zd (zhe x);have HBL:=zd (zje hx);have hg1:=ze W (.cells (yr x).toArray 49) none;have hb1:=heap_alloc_new W (.cells (yr x).toArray 49);have HM:=zd (h.more hg1);obtain⟨PP,hPP⟩:∃PP,PP=zbc B st db sb mb S D:=⟨_,rfl⟩;rw[←hPP];have HPP:=zd hPP;have HBY:Hid (∀w',B.grownBy w' none→Calls Tryz.prog 32 #[.agg #[.int .u8 x.kind,.slice x.p x.B.length x.c,.int .u8 x.times,.int .i64 x.n,.slice x.fp x.F.length x.fc]] w' fun e w''=>e = .returned (.string (ofB (yz x)))∧w'.grownBy w'' none):=(fun w' hg=>zfe (HX.out.grown hg))
 have HPUT:Hid (∀own' w' p c,JM B own' rsd rss st db sb mb S D w'→xy own' w' (.slice p (ofB (yz x)).size c) (zg (yz x))→Calls Tryz.prog 20 #[.pointer (some ⟨st,0,none⟩),.slice p (ofB (yz x)).size c] w' fun e w2=>e = .returned (.tuple #[.int .i64 (S.put (yz x)).2.1,.int .i64 (S.put (yz x)).2.2])∧JM B own' rsd rss st db sb mb (S.put (yz x)).1 D w2∧zm (fun k=>¬own' k) w' w2):=(fun own' w' p c hj hr=>by
  refine(hj.kr.put hr HBL.out (by have:=HLX.out;omega) HF.out).mono ?_
  rintro e w2 ⟨rfl,h1,h2⟩
  exact⟨rfl,hj.prog h1.rep h2,h2⟩)
 have HSR:=zd (zm1 HS.out (yz x));have HRP:Hid (∀own' w',JM B own' rsd rss st db sb mb (S.put (yz x)).1 D w'→Calls Tryz.prog 121 #[.pointer (some ⟨sb,0,none⟩),.string (ofB (yz x))] w' fun e w2=>e = .returned (.tuple #[.int .i64 (S.put (yz x)).2.1,.int .i64 (S.put (yz x)).2.2])∧∃rsd2 rss2,JM B (Ql own' w' w2) rsd2 rss2 st db sb mb (S.put (yz x)).1 (D.put (yz x)).1 w2∧(∀q,rsd2 q→rsd q∨w'.heap.size≤q)∧(∀q,rss2 q→rss q∨w'.heap.size≤q)∧zm (fun q=>rsd q∨rss q) w' w2):=(fun own' w' hj=>by
  refine(rput hj.rp (HS.out.dok (by have:=HL.out;omega)) HBL.out (by have:=HLX.out;omega) (by rw[HS.out.d.open];have:=HF.out;omega)).mono ?_
  rintro e w2 ⟨rfl,rsd2,rss2,h1,h2,h3,h4⟩
  exact⟨by rw[HSR.out.1],_,_,hj.doc h1 h4 h2 h3,h2,h3,h4⟩)
 have HST:=zd (zkx S D (yz x));have hbs:xu (ofB (yz x))=yz x:=Zm HBL.out;have HCV:Hid (∀w,∃p c w2,(convert 9 32 (.string (ofB (yz x)))).run Tryz.prog w = .ok (.slice p (ofB (yz x)).size c) w2∧w.grownBy w2 none∧xy (fun k=>w.heap.size≤k∧k<w2.heap.size) w2 (.slice p (ofB (yz x)).size c) (zg (yz x))∧Ym w2 p (ofB (yz x)).size∧∀g,p=some ⟨g,0,none⟩→w.heap.size≤g∧g<w2.heap.size):=(fun w=>by
  have:=zjg w (ofB (yz x)) (by rw[xr];have:=HLX.out;omega)
  rw[hbs] at this
  exact this)
 have HCB:Hid (∀w own' p c,xy own' w (.slice p (ofB (yz x)).size c) (zg (yz x))→(convert 32 9 (.slice p (ofB (yz x)).size c)).run Tryz.prog w = .ok (.string (ofB (yz x))) w):=(fun w own' p c h=>Uu h)
 have hsz:(ofB (yz x)).size≤700:=by rw[xr];exact HLX.out
 clear h hs hf hlen hx hPP hbs HLX HBL HS HF HL;obtain⟨sz,hsz2⟩:∃n,n=(ofB (yz x)).size:=⟨_,rfl⟩;rw[←hsz2] at hsz HPUT HCV HCB;clear hsz2;generalize ofB (yz x)=bs at *;generalize (S.put (yz x)).2.1=kv at *;generalize (S.put (yz x)).2.2=ev at *;generalize (S.put (yz x)).1=S' at *;generalize (D.put (yz x)).1=D' at *;generalize yz x=bx at *
 go_enter Tryz.func45,Tryz.ntmps45
 go_upto_region 1 with fail
 have HXC:Hid (∀w':World,w'.heap[W.heap.size]? = some (.cells (yr x).toArray 49 (0,0))→w'.cell? ⟨W.heap.size,0,none⟩=some (.int .u8 x.kind)∧w'.cell? ⟨W.heap.size,1,none⟩=some (.slice x.p x.B.length x.c)∧w'.cell? ⟨W.heap.size,2,none⟩=some (.int .u8 x.times)∧w'.cell? ⟨W.heap.size,3,none⟩=some (.int .i64 x.n)∧w'.cell? ⟨W.heap.size,4,none⟩=some (.slice x.fp x.F.length x.fc)):=(fun w' h=>⟨(zf h 0).trans rfl,(zf h 1).trans rfl,(zf h 2).trans rfl,(zf h 3).trans rfl,(zf h 4).trans rfl⟩)
 generalize W.alloc (.cells (yr x).toArray 49)=wa at *;obtain⟨ownA,hownA⟩:∃o:Nat→Prop,o=Ql own W wa:=⟨_,rfl⟩;rw[←hownA] at HM;have HXB:Hid (ownA W.heap.size∧W.heap.size<wa.heap.size∧B.heap.size≤W.heap.size∧¬rsd W.heap.size∧¬rss W.heap.size):=(show _∧_ from by
  have h1:=(Array.getElem?_eq_some_iff.1 hb1).1;refine⟨by rw[hownA];exact Or.inr ⟨Nat.le_refl _,h1⟩,h1,H.out.gr.size,fun e=>?_,fun e=>?_⟩
  ·have:=H.out.rp.d.lt e;omega
  ·have:=H.out.rp.s.lt e;omega)
 generalize W.heap.size=xb at *;have HB1:=zd hb1;obtain⟨x0,x1,x2,x3,x4⟩:=HXC.out wa hb1;have hxlt:=xo x0;have HRS:Hid (∀q,rsd q∨rss q→q<wa.heap.size∧q≠xb):=(fun q hq=>by
  have h1:=HXB.out;refine⟨Nat.lt_of_lt_of_le (hq.elim (fun e=>H.out.rp.d.lt e) (fun e=>H.out.rp.s.lt e)) hg1.size,fun e=>?_⟩
  subst e
  exact hq.elim h1.2.2.2.1 h1.2.2.2.2)
 clear hownA hg1 hb1 H
 go_cut [23] from 14 to 23 (fun cnd wx=>cnd = .bool false∧wx=wa)
 case first=>
  go_wp2
  go_meet
  case rel=>exact⟨by simp[h5,h6],rfl⟩
 case rest=>
 obtain⟨rfl,rfl⟩:=hcut;clear h5 h6
 go_upto_region 4 with (first
  | (rw[hcv])
  | (go_at_call 32;refine(HBY.out _ HM.out.gr).mono ?_;rintro e w2 ⟨rfl,hg2⟩;obtain⟨py,cy,w3,hcv,hg3,hry,hsy,hgy⟩:=HCV.out w2;have HG2:=zd hg2;have HG3:=zd hg3;have HRY:=zd hry;have HSY:=zd hsy;have HGY:=zd hgy;clear hg2 hg3 hry hsy hgy))
 have HG23:=zd (zh HG2.out HG3.out);obtain⟨own4,hown4⟩:∃o:Nat→Prop,o=Ql ownA wc w3:=⟨_,rfl⟩;have HM4:Hid (JM B own4 rsd rss st db sb mb S D w3):=(show JM _ _ _ _ _ _ _ _ _ _ _ from by rw[hown4];exact HM.out.more HG23.out)
 have HR4:Hid (xy own4 w3 (.slice py sz cy) (zg bx)):=(show xy _ _ _ _ from HRY.out.mono fun k hk=>by rw[hown4];exact Or.inr ⟨by have:=HG2.out.size;omega,hk.2⟩)
 have HYB:Hid (∀g,py=some ⟨g,0,none⟩→own4 g∧B.heap.size≤g∧wc.heap.size≤g∧g<w3.heap.size∧¬rsd g∧¬rss g):=(fun g hg=>by
  obtain⟨h1,h2⟩:=HGY.out g hg;have h3:=HG2.out.size;have h4:=HXB.out;refine⟨by rw[hown4];exact Or.inr ⟨by omega,h2⟩,by omega,by omega,h2,fun e=>?_,fun e=>?_⟩
  ·have:=(HRS.out g (Or.inl e)).1;omega
  ·have:=(HRS.out g (Or.inr e)).1;omega)
 have HX4:Hid (own4 xb∧xb<w3.heap.size∧w3.heap[xb]? = some (.cells (yr x).toArray 49 (0,0))):=(show _∧_ from by
  have h1:=HXB.out.2.1;have h2:=HG23.out.size
  exact⟨by rw[hown4];exact Or.inl HXB.out.1,by omega,(HG23.out.block xb h1 (by simp)).trans HB1.out⟩)
 have HNB:Hid (∀k,w2.heap.size≤k∧k<w3.heap.size→own4 k∧¬rsd k∧¬rss k):=(fun k hk=>by
  have h3:=HG2.out.size;refine⟨by rw[hown4];exact Or.inr ⟨by omega,hk.2⟩,fun e=>?_,fun e=>?_⟩
  ·have:=(HRS.out k (Or.inl e)).1;omega
  ·have:=(HRS.out k (Or.inr e)).1;omega)
 have HFX:Hid (∀w':World,(∀q,own4 q→¬rsd q→¬rss q→w'.heap[q]? = w3.heap[q]?)→w'.heap[xb]? = some (.cells (yr x).toArray 49 (0,0))∧xy (fun k=>w2.heap.size≤k∧k<w3.heap.size) w' (.slice py sz cy) (zg bx)∧Ym w' py sz):=(fun w' hk=>by
  refine⟨(hk xb HX4.out.1 HXB.out.2.2.2.1 HXB.out.2.2.2.2).trans HX4.out.2.2,HRY.out.turn fun k hk2=>?_,HSY.out.same fun g hg=>?_⟩
  ·obtain⟨a1,a2,a3⟩:=HNB.out k hk2
   exact hk k a1 a2 a3
  ·obtain⟨a1,_,_,_,a5,a6⟩:=HYB.out g hg
   exact hk g a1 a5 a6)
 clear hown4 HRY HSY HCV x0 x1 x2 x3 x4 hcv;have HPU:=zd (HPUT.out own4 w3 py cy HM4.out HR4.out)
 go_upto_region 5 with (go_at_call 20;refine HPU.out.mono ?_;rintro e w4 ⟨rfl,hj4,ht4⟩;have HJ4:=zd hj4;have HK4:Hid (∀q,own4 q→¬rsd q→¬rss q→w4.heap[q]? = w3.heap[q]?):=(fun q h1 _ _=>ht4.block q (HM4.out.kr.lt h1) (fun e=>e h1));have HZ4:=zd ht4.size;clear hj4 ht4)
 obtain⟨y0,y1,y2,y3,y4⟩:=HXC.out w4 (HFX.out w4 HK4.out).1;have hylt:=xo y0
 go_upto_region 6 with (first
  | (go_at_call 32;refine(HBY.out _ HJ4.out.gr).mono ?_;rintro e w5 ⟨rfl,hg5⟩;have HG5:=zd hg5;have HRP5:=zd (HRP.out own4 w5 (HJ4.out.grown hg5));have HK5:Hid (∀q,own4 q→¬rsd q→¬rss q→w5.heap[q]? = w3.heap[q]?):=(fun q h1 h2 h3=>(hg5.block q (HJ4.out.kr.lt h1) (by simp)).trans (HK4.out q h1 h2 h3));clear hg5)
  | (go_at_call 121;refine HRP5.out.mono ?_;rintro e w6 ⟨rfl,rsd2,rss2,hj6,hd6,hs6,ht6⟩;have HJ6:=zd hj6;have HD6:=zd hd6;have HS6:=zd hs6;have HK6:Hid (∀q,own4 q→¬rsd q→¬rss q→w6.heap[q]? = w3.heap[q]?):=(fun q h1 h2 h3=>(ht6.block q (Nat.lt_of_lt_of_le (HJ4.out.kr.lt h1) HG5.out.size) (fun e=>e.elim h2 h3)).trans (HK5.out q h1 h2 h3));have HZ6:=zd ht6.size;clear hj6 hd6 hs6 ht6))
 obtain⟨y0',y1',y2',y3',y4'⟩:=HXC.out w6 (HFX.out w6 HK6.out).1;have hylt2:=xo y0';have HCX:Hid (∀w',w6.drew.grownBy w' none→(w'.cell? ⟨xb,0,none⟩=some (.int .u8 x.kind)∧w'.cell? ⟨xb,1,none⟩=some (.slice x.p x.B.length x.c)∧w'.cell? ⟨xb,2,none⟩=some (.int .u8 x.times)∧w'.cell? ⟨xb,3,none⟩=some (.int .i64 x.n)∧w'.cell? ⟨xb,4,none⟩=some (.slice x.fp x.F.length x.fc))∧(convert 32 9 (.slice py sz cy)).run Tryz.prog w' = .ok (.string bs) w'∧xb<w'.heap.size):=(fun w' hg=>by
  have hg':w6.grownBy w' none:=zh (zk (zj _)) hg;have hb:w'.heap[xb]? = some (.cells (yr x).toArray 49 (0,0)):=(hg'.block xb hylt2 (by simp)).trans (HFX.out w6 HK6.out).1
  refine⟨HXC.out w' hb,HCB.out w' _ py cy ((HFX.out w6 HK6.out).2.1.turn fun k hk=>hg'.block k ?_ (by simp)),(Array.getElem?_eq_some_iff.1 hb).1⟩
  exact HJ6.out.kr.lt (Or.inl (HNB.out k hk).1))
 have HBY6:=zd (HBY.out w6.drew (zk HJ6.out.gr));clear y0 y1 y2 y3 y4 y0' y1' y2' y3' y4' HPU HRP5 HRP HPUT
 go_cut [12] from 49 to 63 (fun o wx=>o = .bool true∧w6.grownBy wx none)
 case first=>
  refine wp_region_held_drew (S:=fun w':World=>w6.drew.grownBy w' none) (by kernel_rfl) (zj _) (fun hHeld=>?_)
  refine tk (i:=0) (oi:=⟨some 49,Op.move (Operand.tmp 8),_,_,_,none⟩) (v:=?_) rfl hHeld ?_ ?_;rotate_left
  ·intro w hSx;go_simp;try with_reducible rfl
  (try simp only[Act.put,za,zb,zc])
  refine tk (i:=1) (oi:=⟨some 50,Op.move (Operand.tmp 10),_,_,_,none⟩) (v:=?_) rfl hHeld ?_ ?_;rotate_left
  ·intro w hSx;go_simp;try with_reducible rfl
  (try simp only[Act.put,za,zb,zc])
  refine tk (i:=2) (oi:=⟨some 51,Op.binOp BinOp.eql 2 (Operand.tmp 49) (Operand.tmp 50) 2,_,_,_,none⟩) (v:=?_) rfl hHeld ?_ ?_;rotate_left
  ·intro w hSx;go_simp;try with_reducible rfl
  (try simp only[Act.put,za,zb,zc])
  refine tk (i:=3) (oi:=⟨some 52,Op.move (Operand.tmp 51),_,_,_,none⟩) (v:=?_) rfl hHeld ?_ ?_;rotate_left
  ·intro w hSx;go_simp;try with_reducible rfl
  (try simp only[Act.put,za,zb,zc])
  refine tk (i:=4) (oi:=⟨some 53,Op.move (Operand.tmp 9),_,_,_,some (3,true)⟩) (v:=?_) rfl hHeld ?_ ?_;rotate_left
  ·intro w hSx;go_simp;try with_reducible rfl
  (try simp only[Act.put,za,zb,zc])
  refine tk (i:=5) (oi:=⟨some 54,Op.move (Operand.tmp 11),_,_,_,some (3,true)⟩) (v:=?_) rfl hHeld ?_ ?_;rotate_left
  ·intro w hSx;go_simp;try with_reducible rfl
  (try simp only[Act.put,za,zb,zc])
  refine tk (i:=6) (oi:=⟨some 55,Op.binOp BinOp.eql 25 (Operand.tmp 53) (Operand.tmp 54) 25,_,_,_,some (3,true)⟩) (v:=?_) rfl hHeld ?_ ?_;rotate_left
  ·intro w hSx;go_simp;try with_reducible rfl
  (try simp only[Act.put,za,zb,zc])
  refine tk (i:=7) (oi:=⟨some 56,Op.pick (Operand.tmp 52) (Operand.tmp 55) (Operand.const (Value.bool false)),_,_,_,none⟩) (v:=?_) rfl hHeld ?_ ?_;rotate_left
  ·intro w hSx;go_simp;try with_reducible rfl
  (try simp only[Act.put,za,zb,zc])
  refine tk (i:=8) (oi:=⟨some 57,Op.move (Operand.tmp 56),_,_,_,none⟩) (v:=?_) rfl hHeld ?_ ?_;rotate_left
  ·intro w hSx;go_simp;try with_reducible rfl
  (try simp only[Act.put,za,zb,zc])
  refine tk (i:=9) (oi:=⟨some 58,Op.move (Operand.tmp 7),_,_,_,some (8,true)⟩) (v:=?_) rfl hHeld ?_ ?_;rotate_left
  ·intro w hSx;go_simp;try with_reducible rfl
  (try simp only[Act.put,za,zb,zc])
  refine tk (i:=10) (oi:=⟨some 59,Op.convert 32 9 (Operand.tmp 58),_,_,_,some (8,true)⟩) (v:=.string bs) rfl hHeld (fun w hSw=>by obtain⟨-,hcv,-⟩:=HCX.out w hSw;go_simp) ?_
  (try simp only[Act.put,za,zb,zc])
  refine tk (i:=11) (oi:=⟨some 60,Op.load 49 (Operand.tmp 5),_,_,_,some (8,true)⟩) (v:=.agg #[.int .u8 x.kind,.slice x.p x.B.length x.c,.int .u8 x.times,.int .i64 x.n,.slice x.fp x.F.length x.fc]) rfl hHeld (fun w hSw=>by obtain⟨⟨s0,s1,s2,s3,s4⟩,-,hlt⟩:=HCX.out w hSw;go_simp;try with_reducible rfl) ?_
  (try simp only[Act.put,za,zb,zc])
  refine wpAnyH_ready (rs:=[12]) (by kernel_rfl) (by simp) ?_
  refine AllReadyH.cons (o:=⟨some 61,Op.call { callee:=Callee.value (Operand.func 32),args:=#[Operand.tmp 60],argTypes:=#[49] },_,_,_,some (8,true)⟩) rfl (fun K hK=>?_) AllReadyH.nil
  go_simp
  go_at_call 32
  refine HBY6.out.mono ?_;rintro e w7 ⟨rfl,hg7⟩;have HG7:=zd hg7;refine hK.out _ _ hg7 (fun hHeld=>?_)
  clear hK K
  (try simp only[Act.put,za,zb,zc])
  refine tk (i:=13) (oi:=⟨some 62,Op.binOp BinOp.eql 9 (Operand.tmp 59) (Operand.tmp 61) 9,_,_,_,some (8,true)⟩) (v:=?_) rfl hHeld ?_ ?_;rotate_left
  ·intro w hSx;go_simp;try with_reducible rfl
  (try simp only[Act.put,za,zb,zc])
  refine tk (i:=14) (oi:=⟨some 63,Op.pick (Operand.tmp 57) (Operand.tmp 62) (Operand.const (Value.bool false)),_,_,_,none⟩) (v:=?_) rfl hHeld ?_ ?_;rotate_left
  ·intro w hSx;go_simp;try with_reducible rfl
  (try simp only[Act.put,za,zb,zc])
  refine tk (i:=15) (oi:=⟨some 12,Op.assign (Operand.tmp 63),_,_,_,none⟩) (v:=?_) rfl hHeld ?_ ?_;rotate_left
  ·intro w hSx;go_simp;try with_reducible rfl
  (try simp only[Act.put,za,zb,zc])
  refine wpAnyH_done (by kernel_rfl) ?_ _
  go_wp2_with fail
  go_meet
  case rel=>exact⟨rfl,zh (zk (zj _)) HG7.out⟩
 case rest=>
  obtain⟨rfl,hg7⟩:=hcut;have HPO:Hid (∀g,py=some ⟨g,0,none⟩→¬rsd2 g∧¬rss2 g∧B.heap.size≤g):=(fun g hg=>by
   obtain⟨a1,a2,a3,a4,a5,a6⟩:=HYB.out g hg;have z1:=HZ4.out;have z2:=HG5.out.size
   exact⟨fun e=>(HD6.out g e).elim a5 (fun e=>by omega),fun e=>(HS6.out g e).elim a6 (fun e=>by omega),a2⟩)
  have HSR0:Hid (zc3 B st db sb mb rsd2 rss2 S' D' py sz wc):=(show zc3 _ _ _ _ _ _ _ _ _ _ _ _ from by
   refine⟨(HFX.out w6 HK6.out).2.2.same fun g hg=>hg7.block g ?_ (by simp),_,HJ6.out.grown hg7,fun g hg=>Or.inl (HYB.out g hg).1⟩
   exact HJ6.out.kr.lt (Or.inl (HYB.out g hg).1))
  clear HCX HBY6 HBY HYB HFX HX4 hylt hylt2 HXC;generalize hwc:wc=w8 at *;clear hwc hg7
  go_upto_region 8 with fail
  go_loopw [13] (fun i wr=>∃j:Nat,j≤sz∧i = .int .i64 (j:Int)∧zc3 B st db sb mb rsd2 rss2 S' D' py sz wr) (fun i _=>sz-(intOf i).toNat)
  case atStart=>exact⟨0,by omega,rfl,HSR0.out⟩
  case round=>
   clear HSR0;obtain⟨j,hj,rfl,hsr⟩:=hrel;have HR:=zd hsr
   by_cases hjs:j<sz
   ·obtain⟨g8,rfl,z,hz,hf⟩:∃g,py=some ⟨g,0,none⟩∧∃z,wr.cell? ⟨g,j,none⟩=some (.int .u8 z)∧wr.frozen? ⟨g,j,none⟩=false:=by
     rcases hsr.1 with h|⟨g',e,h1,h2⟩
     ·omega
     ·obtain⟨z,hz⟩:=h1 j hjs
      exact⟨g',e,z,hz,h2 j hjs⟩
    have hgl8:=xo hz;clear hsr;go_wp2
    exact⟨⟨j+1,by omega,by simp,HR.out.set (HPO.out g8 rfl) j _⟩,by simp[intOf];omega⟩
   ·obtain rfl:j=sz:=by omega
    have HQ:Hid (PP (.returned (.bool true)) wr):=(show PP _ _ from by
     rw[HPP.out];obtain⟨_,own',hj8,_⟩:=hsr
     exact⟨rfl,own',rsd2,rss2,S',D',hj8,HSR.out.2,HST.out⟩)
    clear hsr;go_wp2
    first|exact HQ.out|(go_ret2;exact HQ.out)
theorem zlk (h:JM B own rsd rss st db sb mb S D W) (hs:qm S D) (hf:S.d.late.length+600<1000000) (hlen:D.L.length≤1000) (hx:jh B x):Calls Tryz.prog 45 #[.pointer (some ⟨st,0,none⟩),.pointer (some ⟨sb,0,none⟩),.agg (yr x).toArray] W (zbc B st db sb mb S D):=by
 by_cases h5:x.kind%12=5
 ·exact zfg h hs hf hlen hx (Or.inl h5)
 ·by_cases h6:x.kind%12=6
  ·exact zfg h hs hf hlen hx (Or.inr h6)
  ·exact zll h hs hf hlen hx h5 h6
end
section
variable {own rsd rss : Nat → Prop} {W w w' : World} {db mb st sb : Nat} {d : Dk} {R : RDk} {S : Sto} {D : Doc} {k : Nat}
set_option maxRecDepth 100000 in
theorem zkr (h:vj own W db d) (hoff:d.off=true):Calls Tryz.prog 18 #[.pointer (some ⟨db,0,none⟩)] W fun e w'=>e = .returned (.tuple #[.pointer none,.int .i64 180])∧W.grownBy w' none:=by
 have HO:Hid (∀W',W.grownBy W' none→Calls Tryz.prog 33 #[.pointer (some ⟨db,0,none⟩)] W' fun e w'=>e = .returned (.bool true)∧w'=W'):=(show ∀W',_→Calls _ _ _ _ _ from fun W' hg=>by have:=doff (h.kept hg);rw[hoff] at this;exact this)
 clear h
 go_enter Tryz.func18,Tryz.ntmps18
 go_wp2_with (go_at_call 33;refine(HO.out _ (by repeat (first|exact zj _|refine zp ?_ _))).mono ?_;rintro e w1 ⟨rfl,rfl⟩)
 refine bodyPost_ret (zar rfl _ _ (W.heap.size+1) (W.heap.size+2) none 180 (by simp) (by simp) ?_ ?_) rfl ?_
 ·exact(zd6 W _ _ _).2.1
 ·exact(zd6 W _ _ _).2.2
 ·refine⟨rfl,?_⟩
  repeat (first|exact zj _|refine zp ?_ _|refine ym ?_ (by simp;try omega) _)
theorem zdn (d:Dk):∀n,(opnD d n).1.late.length≤d.late.length+n
 | 0=>Nat.le_refl _
 | n+1=>by
  have ih:=zdn d n;unfold opnD
  split
  ·omega
  ·split
   ·omega
   ·have:=Zb (opnD d n).1 (n:Int) []
    show((opnD d n).1.written (n:Int) []).late.length≤_
    omega
theorem zf4 (d:Dk):d.opened.1.late.length≤d.late.length+d.n:=by
 have h:=zdn d d.n;unfold Dk.opened
 split
 ·exact h
 ·split
  ·exact Nat.le_trans (Vp _) h
  ·exact h
def POpen (W:World) (db mb:Nat) (R:RDk) (k:Nat) (sv:Value) (ev:Int) (w:World):Prop:=
 (yf R+R.blocks.length<1000000∧R.blocks.length≤39)∧((ev≠0∧sv = .pointer none∧R.opened.2=ev∧∃own rsd d',JE W own rsd db mb d' R w∧yx d' R.opened.1∧d'.late.length≤1000*k∧d'.n≤39)∨
 (ev=0∧R.opened.2=0∧∃st own rsd S,sv = .pointer (some ⟨st,0,none⟩)∧JX W own rsd st db mb S R w∧qm S R.docO∧S.d.late.length≤1000*k∧S.d.n≤39))
def uw (W:World) (db mb k:Nat) (sv:Value) (ev:Int) (kv:Value) (fv:Int) (w:World):Prop:=
 (ev≠0∧fv=ev∧sv = .pointer none∧kv = .pointer none∧∃own rsd d R,JE W own rsd db mb d R w∧yx d R∧d.late.length≤1000*k∧d.n≤39)∨
 (ev=0∧fv=0∧∃st sb own rsd rss S D,sv = .pointer (some ⟨st,0,none⟩)∧kv = .pointer (some ⟨sb,0,none⟩)∧JM W own rsd rss st db sb mb S D w∧qm S D∧S.d.late.length≤1000*k∧S.d.n≤39∧D.L.length≤40+k)
theorem vj.w0 (h:vj own w db d) : -1≤d.well:=by
 obtain⟨_,_,_,h⟩:=h.ex
 exact h.w0
theorem zds (h:JE W own rsd db mb d R w) (hs:yx d R) (hl:d.late.length+100≤1000*k) (hk:k≤100) (hn:d.n≤39):Calls Tryz.prog 18 #[.pointer (some ⟨db,0,none⟩)] w fun e w'=>∃sv ev,e = .returned (.tuple #[sv,.int .i64 ev])∧POpen W db mb R k sv ev w':=by
 have hb:yf R+R.blocks.length<1000000∧R.blocks.length≤39:=by
  have h1:=hs.open;have h2:=hs.n;omega
 cases ho:d.off with
 | true=>
  refine(zkr h.dr ho).mono ?_;rintro e w' ⟨rfl,hg⟩;have hR:R.opened=(R,180):=by unfold RDk.opened;rw[if_pos (by rw[hs.gone,ho])]
  exact⟨_,_,rfl,hb,Or.inl ⟨by decide,rfl,by rw[hR],own,rsd,d,h.grown hg,by rw[hR];exact hs,by omega,hn⟩⟩
 | false=>
  obtain⟨o1,o2⟩:=zas hs h.dr.w0 ho;have hol:=zf4 d;refine(sopen h.dr ho (by omega)).mono ?_
  rintro e w' ⟨ht,⟨h1,rfl,h2⟩|⟨h1,st,ks,rfl,hks,h2⟩⟩
  ·exact⟨_,_,rfl,hb,Or.inl ⟨h1,rfl,o1,own,rsd,_,h.prog h2 ht,o2,by omega,by rw[zb9];exact hn⟩⟩
  ·have hd:(openS d ks).d=d.opened.1:=(Xg _ _ _).1
   exact⟨_,_,rfl,hb,Or.inr ⟨rfl,by rw[o1,h1],st,own,rsd,_,rfl,h.opened h2 ht,zh4 hs h.dr.w0 ho hks,by rw[hd];omega,by rw[hd,zb9];exact hn⟩⟩
theorem Yz {sv:Value} {ev:Int} (h:POpen W db mb R k sv ev w) (hk:k≤100):Calls Tryz.prog 37 #[.pointer (some ⟨mb,0,none⟩)] w fun e w'=>∃kv fv,e = .returned (.tuple #[kv,.int .i64 fv])∧uw W db mb k sv ev kv fv w':=by
 obtain⟨⟨hb1,hb2⟩,h⟩:=h
 rcases h with ⟨h1,rfl,h3,own,rsd,d',hj,hs,hl,hn⟩|⟨rfl,h2,st,own,rsd,S,rfl,hj,hs,hl,hn⟩
 ·refine(zi2 hj.rr hb1).mono ?_
  rintro e w' ⟨ht,⟨g1,rfl,g2⟩|⟨g1,_⟩⟩
  ·exact⟨_,_,rfl,Or.inl ⟨h1,h3,rfl,rfl,_,_,d',_,hj.doc g2 ht (fun q hq=>hq.imp id fun e=>e.1),hs,hl,hn⟩⟩
  ·rw[h3] at g1;exact absurd g1 h1
 ·refine(zi2 hj.rr hb1).mono ?_
  rintro e w' ⟨ht,⟨g1,_⟩|⟨_,sb,rsd2,rss2,rfl,g2,g3,g4⟩⟩
  ·exact absurd h2 g1
  ·exact⟨_,_,rfl,Or.inr ⟨rfl,rfl,st,sb,_,rsd2,rss2,S,R.docO,rfl,rfl,hj.opened (D':=R.docO) g2 ht (fun q hq=>(g3 q hq).imp id fun e=>e.1) (fun q hq=>(g4 q hq).1),hs,hl,hn,by
    have h5:=Jr (fX R.all) R.blocks.length R.blocks.length
    show(openR zu (fX R.all) R.blocks.length R.blocks.length).length≤40+k
    omega⟩⟩
end
end Go.Proofs.YtbcbhlfjgobejaaGreat
