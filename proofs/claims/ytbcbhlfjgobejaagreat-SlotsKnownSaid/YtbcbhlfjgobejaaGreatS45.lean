/- law19's does: a call on both stores: the walk. Conditions: none, or as the theorems say. -/
import Derived.Test.YtbcbhlfjgobejaaGreatS1
import Derived.Test.YtbcbhlfjgobejaaGreatS42
import Derived.Test.YtbcbhlfjgobejaaGreatS43
import Derived.Test.YtbcbhlfjgobejaaGreatS44
import Derived.Test.YtbcbhlfjgobejaaGreatS35
set_option linter.unusedSimpArgs false
set_option linter.unusedVariables false
namespace Go.Proofs.YtbcbhlfjgobejaaGreat
set_option maxHeartbeats 200000000
open Go.RowKit Go.Sf Go.Shelf
variable {n:Int} {rsd:Nat→Prop}
theorem zmf (W:World) (s:ByteArray) (hs:s.size≤1000000):∃p c W2,(convert 9 32 (.string s)).run Tryz.prog W = .ok (.slice p s.size c) W2∧W.grownBy W2 none∧xw (λk=>W.heap.size≤k∧k<W2.heap.size) W2 (.slice p s.size c) (zg (yz s))∧Xu W2 p s.size∧∀g,p=some ⟨g,0,none⟩→W.heap.size≤g∧g<W2.heap.size:=by
 obtain⟨y,W2,h1,h2,h3⟩:=zfd W s hs;have h4:=Lib.run_convert_string_bytes (P:=Tryz.prog) W 9 32 5 s (u:=.string) Tryz.underlying9 Tryz.underlying32 Tryz.underlying5;rw[h4] at h1
 injection h1 with e1 e2
 subst e1 e2;have hge:=grownCap_ge W s.size 0 5;refine⟨_,_,_,h4,h2,h3,Or.inr ⟨W.heap.size,rfl,λi hi=>⟨_,Lib.bytesWorld_cell W 5 s i hi⟩,λi hi=>?_⟩,λg hg=>?_⟩
 ·unfold World.frozen?
  rw[Lib.bytesWorld_at_new];have:¬((Lib.bytesCells W 5 s).size≤i):=by
   unfold Lib.bytesCells;simp;have:s.data.size=s.size:=rfl;omega
  simp[this]
 ·injection hg with hg
  injection hg with hg
  have:=Lib.bytesWorld_size W 5 s;omega
section
variable {own rsd rss : Nat → Prop} {B W : World} {st db sb mb : Nat} {S : Sto} {D : Doc} {x : vn}
def zc6 (B:World) (st db sb mb:Nat) (S:Sto) (D:Doc) (e:Ending) (w':World):Prop:=e = .returned (.bool true)∧∃own' rsd' rss' S' D',JM B own' rsd' rss' st db sb mb S' D' w'∧jd S' D'∧ze5 S D S' D'
def ze4 (B:World) (st db sb mb:Nat) (rsd2 rss2:Nat→Prop) (S':Sto) (D':Doc) (py:Option Addr) (sz:Nat) (wr:World):Prop:=Xu wr py sz∧∃own',JM B own' rsd2 rss2 st db sb mb S' D' wr∧∀g,py=some ⟨g,0,none⟩→own' g
theorem ze4.set {rsd2 rss2:Nat→Prop} {S':Sto} {D':Doc} {g sz:Nat} {wr:World} (h:ze4 B st db sb mb rsd2 rss2 S' D' (some ⟨g,0,none⟩) sz wr) (h1:¬rsd2 g∧¬rss2 g∧B.heap.size≤g) (k:Nat) (z:Int):ze4 B st db sb mb rsd2 rss2 S' D' (some ⟨g,0,none⟩) sz (wr.setCell ⟨g,k,none⟩ (.int .u8 z)):=by
 obtain⟨hs,own',hj,ho⟩:=h
 exact⟨hs.set k z,_,hj.poke (ho g rfl) h1.2.2 h1.1 h1.2.1 (zv wr g k _),λg' hg'=>Or.inl (ho g' hg')⟩
set_option maxRecDepth 100000 in
theorem zhv (h:JM B own rsd rss st db sb mb S D W) (hs:jd S D) (hf:S.d.late.length+600<1000000) (hlen:D.L.length≤1000) (hx:qr B x) (hkind:x.kind%12=5∨x.kind%12=6):Calls Tryz.prog 45 #[.pointer (some ⟨st,0,none⟩),.pointer (some ⟨sb,0,none⟩),.agg (yd x).toArray] W (zc6 B st db sb mb S D):=by
 have H:=zd h;have HS:=zd hs;have HF:=zd hf;have HL:=zd hlen;have hk0:=hx.k;have hg1:=ze W (.cells (yd x).toArray 49) none;have hb1:=heap_alloc_new W (.cells (yd x).toArray 49);have x0:(W.alloc (.cells (yd x).toArray 49)).cell? ⟨W.heap.size,0,none⟩=some (.int .u8 x.kind):=(zf hb1 0).trans rfl;have x3:(W.alloc (.cells (yd x).toArray 49)).cell? ⟨W.heap.size,3,none⟩=some (.int .i64 x.n):=(zf hb1 3).trans rfl;have HM:=zd ((h.more hg1).grown (zj (zi _)));have HQ:Hid (∀e w',zc6 B st db sb mb S D e w'→zc6 B st db sb mb S D e w'):=(λ_ _ h=>h)
 obtain⟨PP,hPP⟩:∃PP,PP=zc6 B st db sb mb S D:=⟨_,rfl⟩;rw[←hPP];have HPP:=zd hPP;clear h hs hf hlen hx hb1 hPP HQ
 go_enter Tryz.func45,Tryz.ntmps45
 go_upto_region 1 with fail
 generalize W.alloc (.cells (yd x).toArray 49)=wa at *;obtain⟨ownA,hownA⟩:∃o:Nat→Prop,o=zao own W wa:=⟨_,rfl⟩;rw[←hownA] at HM;have HXB:Hid (ownA W.heap.size∧W.heap.size<wa.heap.size∧B.heap.size≤W.heap.size∧¬rsd W.heap.size∧¬rss W.heap.size):=(show _∧_ from by
  have h1:=xi x0;refine⟨by rw[hownA];exact Or.inr ⟨Nat.le_refl _,h1⟩,h1,H.out.gr.size,λe=>?_,λe=>?_⟩
  ·have:=H.out.rp.d.lt e;omega
  ·have:=H.out.rp.s.lt e;omega)
 generalize W.heap.size=xb at *;clear hownA hg1;have hxlt:=xi x0;have HRM:=zd (HM.out.kr.rem x.n (by have:=HF.out;omega))
 have HSR:=zd (zp7 HS.out x.n);have HRR:Hid (∀own' w',JM B own' rsd rss st db sb mb (S.rem x.n).1 D w'→Calls Tryz.prog 120 #[.pointer (some ⟨sb,0,none⟩),.int .i64 x.n] w' λe w2=>e = .returned (.int .i64 (S.rem x.n).2)∧∃own2 rsd2 rss2,JM B own2 rsd2 rss2 st db sb mb (S.rem x.n).1 (D.rem x.n).1 w2∧zm (λq=>rsd q∨rss q) w' w2):=(λown' w' hj=>by
  refine(rrem hj.rp (HS.out.dok (by have:=HL.out;omega)) x.n (by rw[HS.out.d.open];have:=HF.out;omega)).mono ?_
  rintro e w2 ⟨rfl,rsd2,rss2,h1,h2,h3,h4⟩
  exact⟨by rw[HSR.out.1],_,_,_,hj.doc h1 h4 h2 h3,h4⟩)
 have HST:=zd (zn0 S D x.n);clear HF HL HS;generalize (S.rem x.n).2=ev at *
 go_cut [23] from 14 to 23 (λcnd wx=>cnd = .bool true∧wx=wa)
 case first=>
  by_cases c5:x.kind%12=5
  ·go_wp2
   go_meet
   case rel=>exact⟨by simp,rfl⟩
  ·have c6:x.kind%12=6:=hkind.resolve_left c5
   clear hkind;go_wp2
   go_meet
   case rel=>exact⟨by simp,rfl⟩
 case rest=>
 obtain⟨rfl,rfl⟩:=hcut;clear hkind
 go_upto_region 2 with fail
 refine qH (S:=λw':World=>w'.cell? ⟨xb,3,none⟩=some (.int .i64 x.n)∧True) ⟨x3,trivial⟩ (λhHeld=>?_)
 refine qT 0 ?_;refine qT 1 ?_;refine qT 2 ?_;refine qT 4 ?_;refine qT 5 ?_;refine qT 6 ?_;refine qO 3 λK hK=>?_
 go_simp
 go_at_call 30
 refine HRM.out.mono ?_;rintro e w6 ⟨rfl,hk6,ht6⟩;have HJ6:=zd (HM.out.prog hk6.rep ht6);have z6:=(World.cell?_of_block (a:=⟨xb,3,none⟩) (ht6.block xb HXB.out.2.1 (λe=>e HXB.out.1))).trans x3
 clear hk6 ht6;refine hK.out _ _ ⟨z6,trivial⟩ (λhHeld=>?_)
 clear hK K;refine qO 7 λK hK=>?_
 go_simp
 go_at_call 120
 refine(HRR.out _ _ HJ6.out).mono ?_;rintro e w7 ⟨rfl,own2,rsd2,rss2,hj7,ht7⟩;have HJ7:=zd hj7;have z7:=(World.cell?_of_block (a:=⟨xb,3,none⟩) (ht7.block xb (xi z6) (λe=>e.elim HXB.out.2.2.2.1 HXB.out.2.2.2.2))).trans z6
 clear hj7 ht7;refine hK.out _ _ ⟨z7,trivial⟩ (λhHeld=>?_)
 clear hK K;refine qT 8 ?_;refine qT 9 ?_;refine qD ?_
 go_wp2_with fail
 have HQ:PP (.returned (.bool true)) w7:=by
  rw[HPP.out]
  exact⟨rfl,own2,rsd2,rss2,_,_,HJ7.out,HSR.out.2,HST.out⟩
 first|exact HQ|(go_ret2;exact HQ)
set_option maxRecDepth 100000 in
theorem zoo (h:JM B own rsd rss st db sb mb S D W) (hs:jd S D) (hf:S.d.late.length+600<1000000) (hlen:D.L.length≤1000) (hx:qr B x) (h5:¬x.kind%12=5) (h6:¬x.kind%12=6):Calls Tryz.prog 45 #[.pointer (some ⟨st,0,none⟩),.pointer (some ⟨sb,0,none⟩),.agg (yd x).toArray] W (zc6 B st db sb mb S D):=by
 have H:=zd h;have HS:=zd hs;have HF:=zd hf;have HL:=zd hlen;have HX:=zd hx;have hk0:=hx.k;have HLX:=zd (zdc x);have HBL:=zd (zfa hx);have hg1:=ze W (.cells (yd x).toArray 49) none;have hb1:=heap_alloc_new W (.cells (yd x).toArray 49);have HM:=zd (h.more hg1);obtain⟨PP,hPP⟩:∃PP,PP=zc6 B st db sb mb S D:=⟨_,rfl⟩;rw[←hPP];have HPP:=zd hPP;have HBY:Hid (∀w',B.grownBy w' none→Calls Tryz.prog 32 #[.agg #[.int .u8 x.kind,.slice x.p x.B.length x.c,.int .u8 x.times,.int .i64 x.n,.slice x.fp x.F.length x.fc]] w' λe w''=>e = .returned (.string (ofB (yx x)))∧w'.grownBy w'' none):=(λw' hg=>Ux (HX.out.grown hg))
 have HPUT:Hid (∀own' w' p c,JM B own' rsd rss st db sb mb S D w'→xw own' w' (.slice p (ofB (yx x)).size c) (zg (yx x))→Calls Tryz.prog 20 #[.pointer (some ⟨st,0,none⟩),.slice p (ofB (yx x)).size c] w' λe w2=>e = .returned (.tuple #[.int .i64 (S.put (yx x)).2.1,.int .i64 (S.put (yx x)).2.2])∧JM B own' rsd rss st db sb mb (S.put (yx x)).1 D w2∧zm (λk=>¬own' k) w' w2):=(λown' w' p c hj hr=>by
  refine(hj.kr.put hr HBL.out (by have:=HLX.out;omega) HF.out).mono ?_
  rintro e w2 ⟨rfl,h1,h2⟩
  exact⟨rfl,hj.prog h1.rep h2,h2⟩)
 have HSR:=zd (zp6 HS.out (yx x));have HRP:Hid (∀own' w',JM B own' rsd rss st db sb mb (S.put (yx x)).1 D w'→Calls Tryz.prog 121 #[.pointer (some ⟨sb,0,none⟩),.string (ofB (yx x))] w' λe w2=>e = .returned (.tuple #[.int .i64 (S.put (yx x)).2.1,.int .i64 (S.put (yx x)).2.2])∧∃rsd2 rss2,JM B (zao own' w' w2) rsd2 rss2 st db sb mb (S.put (yx x)).1 (D.put (yx x)).1 w2∧(∀q,rsd2 q→rsd q∨w'.heap.size≤q)∧(∀q,rss2 q→rss q∨w'.heap.size≤q)∧zm (λq=>rsd q∨rss q) w' w2):=(λown' w' hj=>by
  refine(rput hj.rp (HS.out.dok (by have:=HL.out;omega)) HBL.out (by have:=HLX.out;omega) (by rw[HS.out.d.open];have:=HF.out;omega)).mono ?_
  rintro e w2 ⟨rfl,rsd2,rss2,h1,h2,h3,h4⟩
  exact⟨by rw[HSR.out.1],_,_,hj.doc h1 h4 h2 h3,h2,h3,h4⟩)
 have HST:=zd (znz S D (yx x));have hbs:yz (ofB (yx x))=yx x:=qy HBL.out;have HCV:Hid (∀w,∃p c w2,(convert 9 32 (.string (ofB (yx x)))).run Tryz.prog w = .ok (.slice p (ofB (yx x)).size c) w2∧w.grownBy w2 none∧xw (λk=>w.heap.size≤k∧k<w2.heap.size) w2 (.slice p (ofB (yx x)).size c) (zg (yx x))∧Xu w2 p (ofB (yx x)).size∧∀g,p=some ⟨g,0,none⟩→w.heap.size≤g∧g<w2.heap.size):=(λw=>by
  have:=zmf w (ofB (yx x)) (by rw[yu];have:=HLX.out;omega)
  rw[hbs] at this
  exact this)
 have HCB:Hid (∀w own' p c,xw own' w (.slice p (ofB (yx x)).size c) (zg (yx x))→(convert 32 9 (.slice p (ofB (yx x)).size c)).run Tryz.prog w = .ok (.string (ofB (yx x))) w):=(λw own' p c h=>Jv h)
 have hsz:(ofB (yx x)).size≤700:=by rw[yu];exact HLX.out
 clear h hs hf hlen hx hPP hbs HLX HBL HS HF HL;obtain⟨sz,hsz2⟩:∃n,n=(ofB (yx x)).size:=⟨_,rfl⟩;rw[←hsz2] at hsz HPUT HCV HCB;clear hsz2;generalize ofB (yx x)=bs at *;generalize (S.put (yx x)).2.1=kv at *;generalize (S.put (yx x)).2.2=ev at *;generalize (S.put (yx x)).1=S' at *;generalize (D.put (yx x)).1=D' at *;generalize yx x=bx at *
 go_enter Tryz.func45,Tryz.ntmps45
 go_upto_region 1 with fail
 have HXC:Hid (∀w':World,w'.heap[W.heap.size]? = some (.cells (yd x).toArray 49 (0,0))→w'.cell? ⟨W.heap.size,0,none⟩=some (.int .u8 x.kind)∧w'.cell? ⟨W.heap.size,1,none⟩=some (.slice x.p x.B.length x.c)∧w'.cell? ⟨W.heap.size,2,none⟩=some (.int .u8 x.times)∧w'.cell? ⟨W.heap.size,3,none⟩=some (.int .i64 x.n)∧w'.cell? ⟨W.heap.size,4,none⟩=some (.slice x.fp x.F.length x.fc)):=(λw' h=>⟨(zf h 0).trans rfl,(zf h 1).trans rfl,(zf h 2).trans rfl,(zf h 3).trans rfl,(zf h 4).trans rfl⟩)
 generalize W.alloc (.cells (yd x).toArray 49)=wa at *;obtain⟨ownA,hownA⟩:∃o:Nat→Prop,o=zao own W wa:=⟨_,rfl⟩;rw[←hownA] at HM;have HXB:Hid (ownA W.heap.size∧W.heap.size<wa.heap.size∧B.heap.size≤W.heap.size∧¬rsd W.heap.size∧¬rss W.heap.size):=(show _∧_ from by
  have h1:=(Array.getElem?_eq_some_iff.1 hb1).1;refine⟨by rw[hownA];exact Or.inr ⟨Nat.le_refl _,h1⟩,h1,H.out.gr.size,λe=>?_,λe=>?_⟩
  ·have:=H.out.rp.d.lt e;omega
  ·have:=H.out.rp.s.lt e;omega)
 generalize W.heap.size=xb at *;have HB1:=zd hb1;obtain⟨x0,x1,x2,x3,x4⟩:=HXC.out wa hb1;have hxlt:=xi x0;have HRS:Hid (∀q,rsd q∨rss q→q<wa.heap.size∧q≠xb):=(λq hq=>by
  have h1:=HXB.out;refine⟨Nat.lt_of_lt_of_le (hq.elim (λe=>H.out.rp.d.lt e) (λe=>H.out.rp.s.lt e)) hg1.size,λe=>?_⟩
  subst e
  exact hq.elim h1.2.2.2.1 h1.2.2.2.2)
 clear hownA hg1 hb1 H
 go_cut [23] from 14 to 23 (λcnd wx=>cnd = .bool false∧wx=wa)
 case first=>
  go_wp2
  go_meet
  case rel=>exact⟨by simp[h5,h6],rfl⟩
 case rest=>
 obtain⟨rfl,rfl⟩:=hcut;clear h5 h6
 go_upto_region 4 with (first
  | (rw[hcv])
  | (go_at_call 32;refine(HBY.out _ HM.out.gr).mono ?_;rintro e w2 ⟨rfl,hg2⟩;obtain⟨py,cy,w3,hcv,hg3,hry,hsy,hgy⟩:=HCV.out w2;have HG2:=zd hg2;have HG3:=zd hg3;have HRY:=zd hry;have HSY:=zd hsy;have HGY:=zd hgy;clear hg2 hg3 hry hsy hgy))
 have HG23:=zd (zh HG2.out HG3.out);obtain⟨own4,hown4⟩:∃o:Nat→Prop,o=zao ownA wc w3:=⟨_,rfl⟩;have HM4:Hid (JM B own4 rsd rss st db sb mb S D w3):=(show JM _ _ _ _ _ _ _ _ _ _ _ from by rw[hown4];exact HM.out.more HG23.out)
 have HR4:Hid (xw own4 w3 (.slice py sz cy) (zg bx)):=(show xw _ _ _ _ from HRY.out.mono λk hk=>by rw[hown4];exact Or.inr ⟨by have:=HG2.out.size;omega,hk.2⟩)
 have HYB:Hid (∀g,py=some ⟨g,0,none⟩→own4 g∧B.heap.size≤g∧wc.heap.size≤g∧g<w3.heap.size∧¬rsd g∧¬rss g):=(λg hg=>by
  obtain⟨h1,h2⟩:=HGY.out g hg;have h3:=HG2.out.size;have h4:=HXB.out;refine⟨by rw[hown4];exact Or.inr ⟨by omega,h2⟩,by omega,by omega,h2,λe=>?_,λe=>?_⟩
  ·have:=(HRS.out g (Or.inl e)).1;omega
  ·have:=(HRS.out g (Or.inr e)).1;omega)
 have HX4:Hid (own4 xb∧xb<w3.heap.size∧w3.heap[xb]? = some (.cells (yd x).toArray 49 (0,0))):=(show _∧_ from by
  have h1:=HXB.out.2.1;have h2:=HG23.out.size
  exact⟨by rw[hown4];exact Or.inl HXB.out.1,by omega,(HG23.out.block xb h1 (by simp)).trans HB1.out⟩)
 have HNB:Hid (∀k,w2.heap.size≤k∧k<w3.heap.size→own4 k∧¬rsd k∧¬rss k):=(λk hk=>by
  have h3:=HG2.out.size;refine⟨by rw[hown4];exact Or.inr ⟨by omega,hk.2⟩,λe=>?_,λe=>?_⟩
  ·have:=(HRS.out k (Or.inl e)).1;omega
  ·have:=(HRS.out k (Or.inr e)).1;omega)
 have HFX:Hid (∀w':World,(∀q,own4 q→¬rsd q→¬rss q→w'.heap[q]? = w3.heap[q]?)→w'.heap[xb]? = some (.cells (yd x).toArray 49 (0,0))∧xw (λk=>w2.heap.size≤k∧k<w3.heap.size) w' (.slice py sz cy) (zg bx)∧Xu w' py sz):=(λw' hk=>by
  refine⟨(hk xb HX4.out.1 HXB.out.2.2.2.1 HXB.out.2.2.2.2).trans HX4.out.2.2,HRY.out.turn λk hk2=>?_,HSY.out.same λg hg=>?_⟩
  ·obtain⟨a1,a2,a3⟩:=HNB.out k hk2
   exact hk k a1 a2 a3
  ·obtain⟨a1,_,_,_,a5,a6⟩:=HYB.out g hg
   exact hk g a1 a5 a6)
 clear hown4 HRY HSY HCV x0 x1 x2 x3 x4 hcv;have HPU:=zd (HPUT.out own4 w3 py cy HM4.out HR4.out)
 go_upto_region 5 with (go_at_call 20;refine HPU.out.mono ?_;rintro e w4 ⟨rfl,hj4,ht4⟩;have HJ4:=zd hj4;have HK4:Hid (∀q,own4 q→¬rsd q→¬rss q→w4.heap[q]? = w3.heap[q]?):=(λq h1 _ _=>ht4.block q (HM4.out.kr.lt h1) (λe=>e h1));have HZ4:=zd ht4.size;clear hj4 ht4)
 obtain⟨y0,y1,y2,y3,y4⟩:=HXC.out w4 (HFX.out w4 HK4.out).1;have hylt:=xi y0
 go_upto_region 6 with (first
  | (go_at_call 32;refine(HBY.out _ HJ4.out.gr).mono ?_;rintro e w5 ⟨rfl,hg5⟩;have HG5:=zd hg5;have HRP5:=zd (HRP.out own4 w5 (HJ4.out.grown hg5));have HK5:Hid (∀q,own4 q→¬rsd q→¬rss q→w5.heap[q]? = w3.heap[q]?):=(λq h1 h2 h3=>(hg5.block q (HJ4.out.kr.lt h1) (by simp)).trans (HK4.out q h1 h2 h3));clear hg5)
  | (go_at_call 121;refine HRP5.out.mono ?_;rintro e w6 ⟨rfl,rsd2,rss2,hj6,hd6,hs6,ht6⟩;have HJ6:=zd hj6;have HD6:=zd hd6;have HS6:=zd hs6;have HK6:Hid (∀q,own4 q→¬rsd q→¬rss q→w6.heap[q]? = w3.heap[q]?):=(λq h1 h2 h3=>(ht6.block q (Nat.lt_of_lt_of_le (HJ4.out.kr.lt h1) HG5.out.size) (λe=>e.elim h2 h3)).trans (HK5.out q h1 h2 h3));have HZ6:=zd ht6.size;clear hj6 hd6 hs6 ht6))
 obtain⟨y0',y1',y2',y3',y4'⟩:=HXC.out w6 (HFX.out w6 HK6.out).1;have hylt2:=xi y0';have HCX:Hid (∀w',w6.drew.grownBy w' none→(w'.cell? ⟨xb,0,none⟩=some (.int .u8 x.kind)∧w'.cell? ⟨xb,1,none⟩=some (.slice x.p x.B.length x.c)∧w'.cell? ⟨xb,2,none⟩=some (.int .u8 x.times)∧w'.cell? ⟨xb,3,none⟩=some (.int .i64 x.n)∧w'.cell? ⟨xb,4,none⟩=some (.slice x.fp x.F.length x.fc))∧(convert 32 9 (.slice py sz cy)).run Tryz.prog w' = .ok (.string bs) w'∧xb<w'.heap.size):=(λw' hg=>by
  have hg':w6.grownBy w' none:=zh (zj (zi _)) hg;have hb:w'.heap[xb]? = some (.cells (yd x).toArray 49 (0,0)):=(hg'.block xb hylt2 (by simp)).trans (HFX.out w6 HK6.out).1
  refine⟨HXC.out w' hb,HCB.out w' _ py cy ((HFX.out w6 HK6.out).2.1.turn λk hk=>hg'.block k ?_ (by simp)),(Array.getElem?_eq_some_iff.1 hb).1⟩
  exact HJ6.out.kr.lt (Or.inl (HNB.out k hk).1))
 have HBY6:=zd (HBY.out w6.drew (zj HJ6.out.gr));clear y0 y1 y2 y3 y4 y0' y1' y2' y3' y4' HPU HRP5 HRP HPUT
 go_cut [12] from 49 to 63 (λo wx=>o = .bool true∧w6.grownBy wx none)
 case first=>
  refine qH (S:=λw':World=>w6.drew.grownBy w' none) (zi _) (λhHeld=>?_)
  refine qT 0 ?_;refine qT 1 ?_;refine qT 2 ?_;refine qT 3 ?_;refine qT 4 ?_;refine qT 5 ?_;refine qT 6 ?_;refine qT 7 ?_;refine qT 8 ?_;refine qT 9 ?_;refine qT 10 ?_ (v:=.string bs) (he:=λw hSw=>by obtain⟨-,hcv,-⟩:=HCX.out w hSw;go_simp)
  refine qT 11 ?_ (v:=.agg #[.int .u8 x.kind,.slice x.p x.B.length x.c,.int .u8 x.times,.int .i64 x.n,.slice x.fp x.F.length x.fc]) (he:=λw hSw=>by obtain⟨⟨s0,s1,s2,s3,s4⟩,-,hlt⟩:=HCX.out w hSw;go_simp;try with_reducible rfl)
  refine qO 12 λK hK=>?_
  go_simp
  go_at_call 32
  refine HBY6.out.mono ?_;rintro e w7 ⟨rfl,hg7⟩;have HG7:=zd hg7;refine hK.out _ _ hg7 (λhHeld=>?_)
  clear hK K;refine qT 13 ?_;refine qT 14 ?_;refine qT 15 ?_;refine qD ?_
  go_wp2_with fail
  go_meet
  case rel=>exact⟨rfl,zh (zj (zi _)) HG7.out⟩
 case rest=>
  obtain⟨rfl,hg7⟩:=hcut;have HPO:Hid (∀g,py=some ⟨g,0,none⟩→¬rsd2 g∧¬rss2 g∧B.heap.size≤g):=(λg hg=>by
   obtain⟨a1,a2,a3,a4,a5,a6⟩:=HYB.out g hg;have z1:=HZ4.out;have z2:=HG5.out.size
   exact⟨λe=>(HD6.out g e).elim a5 (λe=>by omega),λe=>(HS6.out g e).elim a6 (λe=>by omega),a2⟩)
  have HSR0:Hid (ze4 B st db sb mb rsd2 rss2 S' D' py sz wc):=(show ze4 _ _ _ _ _ _ _ _ _ _ _ _ from by
   refine⟨(HFX.out w6 HK6.out).2.2.same λg hg=>hg7.block g ?_ (by simp),_,HJ6.out.grown hg7,λg hg=>Or.inl (HYB.out g hg).1⟩
   exact HJ6.out.kr.lt (Or.inl (HYB.out g hg).1))
  clear HCX HBY6 HBY HYB HFX HX4 hylt hylt2 HXC;generalize hwc:wc=w8 at *;clear hwc hg7
  go_upto_region 8 with fail
  go_loopw [13] (λi wr=>∃j:Nat,j≤sz∧i = .int .i64 (j:Int)∧ze4 B st db sb mb rsd2 rss2 S' D' py sz wr) (λi _=>sz-(intOf i).toNat)
  case atStart=>exact⟨0,by omega,rfl,HSR0.out⟩
  case round=>
   clear HSR0;obtain⟨j,hj,rfl,hsr⟩:=hrel;have HR:=zd hsr
   by_cases hjs:j<sz
   ·obtain⟨g8,rfl,z,hz,hf⟩:∃g,py=some ⟨g,0,none⟩∧∃z,wr.cell? ⟨g,j,none⟩=some (.int .u8 z)∧wr.frozen? ⟨g,j,none⟩=false:=by
     rcases hsr.1 with h|⟨g',e,h1,h2⟩
     ·omega
     ·obtain⟨z,hz⟩:=h1 j hjs
      exact⟨g',e,z,hz,h2 j hjs⟩
    have hgl8:=xi hz;clear hsr;go_wp2
    exact⟨⟨j+1,by omega,by simp,HR.out.set (HPO.out g8 rfl) j _⟩,by simp[intOf];omega⟩
   ·obtain rfl:j=sz:=by omega
    have HQ:Hid (PP (.returned (.bool true)) wr):=(show PP _ _ from by
     rw[HPP.out];obtain⟨_,own',hj8,_⟩:=hsr
     exact⟨rfl,own',rsd2,rss2,S',D',hj8,HSR.out.2,HST.out⟩)
    clear hsr;go_wp2
    first|exact HQ.out|(go_ret2;exact HQ.out)
theorem zon (h:JM B own rsd rss st db sb mb S D W) (hs:jd S D) (hf:S.d.late.length+600<1000000) (hlen:D.L.length≤1000) (hx:qr B x):Calls Tryz.prog 45 #[.pointer (some ⟨st,0,none⟩),.pointer (some ⟨sb,0,none⟩),.agg (yd x).toArray] W (zc6 B st db sb mb S D):=by
 by_cases h5:x.kind%12=5
 ·exact zhv h hs hf hlen hx (Or.inl h5)
 ·by_cases h6:x.kind%12=6
  ·exact zhv h hs hf hlen hx (Or.inr h6)
  ·exact zoo h hs hf hlen hx h5 h6
end
section
variable {own rsd rss : Nat → Prop} {W w w' : World} {db mb st sb : Nat} {d : Dk} {R : RDk} {S : Sto} {D : Doc} {k : Nat}
set_option maxRecDepth 100000 in
theorem zgd (h:vk own W db d) (hoff:d.off=true):Calls Tryz.prog 18 #[.pointer (some ⟨db,0,none⟩)] W λe w'=>e = .returned (.tuple #[.pointer none,.int .i64 180])∧W.grownBy w' none:=by
 have HO:Hid (∀W',W.grownBy W' none→Calls Tryz.prog 33 #[.pointer (some ⟨db,0,none⟩)] W' λe w'=>e = .returned (.bool true)∧w'=W'):=(show ∀W',_→Calls _ _ _ _ _ from λW' hg=>by have:=doff (h.kept hg);rw[hoff] at this;exact this)
 clear h
 go_enter Tryz.func18,Tryz.ntmps18
 go_wp2_with (go_at_call 33;refine(HO.out _ (by repeat (first|exact zi _|refine zp ?_ _))).mono ?_;rintro e w1 ⟨rfl,rfl⟩)
 refine bodyPost_ret (Qf rfl _ _ (W.heap.size+1) (W.heap.size+2) none 180 (by simp) (by simp) ?_ ?_) rfl ?_
 ·exact(zcl W _ _ _).2.1
 ·exact(zcl W _ _ _).2.2
 ·refine⟨rfl,?_⟩
  repeat (first|exact zi _|refine zp ?_ _|refine yi ?_ (by simp;try omega) _)
theorem zfr (d:Dk):∀n,(opnD d n).1.late.length≤d.late.length+n
 | 0=>Nat.le_refl _
 | n+1=>by
  have ih:=zfr d n;unfold opnD
  split
  ·omega
  ·split
   ·omega
   ·have:=Ye (opnD d n).1 (n:Int) []
    show((opnD d n).1.written (n:Int) []).late.length≤_
    omega
theorem zim (d:Dk):d.opened.1.late.length≤d.late.length+d.n:=by
 have h:=zfr d d.n;unfold Dk.opened
 split
 ·exact h
 ·split
  ·exact Nat.le_trans (Qi _) h
  ·exact h
def POpen (W:World) (db mb:Nat) (R:RDk) (k:Nat) (sv:Value) (ev:Int) (w:World):Prop:=
 (yf R+R.blocks.length<1000000∧R.blocks.length≤39)∧((ev≠0∧sv = .pointer none∧R.opened.2=ev∧∃own rsd d',JE W own rsd db mb d' R w∧xh d' R.opened.1∧d'.late.length≤1000*k∧d'.n≤39)∨
 (ev=0∧R.opened.2=0∧∃st own rsd S,sv = .pointer (some ⟨st,0,none⟩)∧JX W own rsd st db mb S R w∧jd S R.docO∧S.d.late.length≤1000*k∧S.d.n≤39))
def qf (W:World) (db mb k:Nat) (sv:Value) (ev:Int) (kv:Value) (fv:Int) (w:World):Prop:=
 (ev≠0∧fv=ev∧sv = .pointer none∧kv = .pointer none∧∃own rsd d R,JE W own rsd db mb d R w∧xh d R∧d.late.length≤1000*k∧d.n≤39)∨
 (ev=0∧fv=0∧∃st sb own rsd rss S D,sv = .pointer (some ⟨st,0,none⟩)∧kv = .pointer (some ⟨sb,0,none⟩)∧JM W own rsd rss st db sb mb S D w∧jd S D∧S.d.late.length≤1000*k∧S.d.n≤39∧D.L.length≤40+k)
theorem vk.w0 (h:vk own w db d) : -1≤d.well:=by
 obtain⟨_,_,_,h⟩:=h.ex
 exact h.w0
theorem zfx (h:JE W own rsd db mb d R w) (hs:xh d R) (hl:d.late.length+100≤1000*k) (hk:k≤100) (hn:d.n≤39):Calls Tryz.prog 18 #[.pointer (some ⟨db,0,none⟩)] w λe w'=>∃sv ev,e = .returned (.tuple #[sv,.int .i64 ev])∧POpen W db mb R k sv ev w':=by
 have hb:yf R+R.blocks.length<1000000∧R.blocks.length≤39:=by
  have h1:=hs.open;have h2:=hs.n;omega
 cases ho:d.off with
 | true=>
  refine(zgd h.dr ho).mono ?_;rintro e w' ⟨rfl,hg⟩;have hR:R.opened=(R,180):=by unfold RDk.opened;rw[if_pos (by rw[hs.gone,ho])]
  exact⟨_,_,rfl,hb,Or.inl ⟨by decide,rfl,by rw[hR],own,rsd,d,h.grown hg,by rw[hR];exact hs,by omega,hn⟩⟩
 | false=>
  obtain⟨o1,o2⟩:=zcj hs h.dr.w0 ho;have hol:=zim d;refine(zl5 h.dr ho (by omega)).mono ?_
  rintro e w' ⟨ht,⟨h1,rfl,h2⟩|⟨h1,st,ks,rfl,hks,h2⟩⟩
  ·exact⟨_,_,rfl,hb,Or.inl ⟨h1,rfl,o1,own,rsd,_,h.prog h2 ht,o2,by omega,by rw[zd7];exact hn⟩⟩
  ·have hd:(openS d ks).d=d.opened.1:=(Xe _ _ _).1
   exact⟨_,_,rfl,hb,Or.inr ⟨rfl,by rw[o1,h1],st,own,rsd,_,rfl,h.opened h2 ht,zkz hs h.dr.w0 ho hks,by rw[hd];omega,by rw[hd,zd7];exact hn⟩⟩
theorem Vl {sv:Value} {ev:Int} (h:POpen W db mb R k sv ev w) (hk:k≤100):Calls Tryz.prog 37 #[.pointer (some ⟨mb,0,none⟩)] w λe w'=>∃kv fv,e = .returned (.tuple #[kv,.int .i64 fv])∧qf W db mb k sv ev kv fv w':=by
 obtain⟨⟨hb1,hb2⟩,h⟩:=h
 rcases h with ⟨h1,rfl,h3,own,rsd,d',hj,hs,hl,hn⟩|⟨rfl,h2,st,own,rsd,S,rfl,hj,hs,hl,hn⟩
 ·refine(zl1 hj.rr hb1).mono ?_
  rintro e w' ⟨ht,⟨g1,rfl,g2⟩|⟨g1,_⟩⟩
  ·exact⟨_,_,rfl,Or.inl ⟨h1,h3,rfl,rfl,_,_,d',_,hj.doc g2 ht (λq hq=>hq.imp id λe=>e.1),hs,hl,hn⟩⟩
  ·rw[h3] at g1;exact absurd g1 h1
 ·refine(zl1 hj.rr hb1).mono ?_
  rintro e w' ⟨ht,⟨g1,_⟩|⟨_,sb,rsd2,rss2,rfl,g2,g3,g4⟩⟩
  ·exact absurd h2 g1
  ·exact⟨_,_,rfl,Or.inr ⟨rfl,rfl,st,sb,_,rsd2,rss2,S,R.docO,rfl,rfl,hj.opened (D':=R.docO) g2 ht (λq hq=>(g3 q hq).imp id λe=>e.1) (λq hq=>(g4 q hq).1),hs,hl,hn,by
    have h5:=zbn (fX R.all) R.blocks.length R.blocks.length
    show(openR zo (fX R.all) R.blocks.length R.blocks.length).length≤40+k
    omega⟩⟩
end
def zex (xb:Nat) (x:vn) (w:World):Prop:=w.heap[xb]? = some (.cells (yd x).toArray 49 (0,0))
theorem zex.cells {xb:Nat} {x:vn} {w:World} (h:zex xb x w):w.cell? ⟨xb,0,none⟩=some (.int .u8 x.kind)∧w.cell? ⟨xb,1,none⟩=some (.slice x.p x.B.length x.c)∧w.cell? ⟨xb,2,none⟩=some (.int .u8 x.times)∧w.cell? ⟨xb,3,none⟩=some (.int .i64 x.n)∧w.cell? ⟨xb,4,none⟩=some (.slice x.fp x.F.length x.fc)∧xb<w.heap.size:=
 ⟨(zf h 0).trans rfl,(zf h 1).trans rfl,(zf h 2).trans rfl,(zf h 3).trans rfl,(zf h 4).trans rfl,(Array.getElem?_eq_some_iff.1 h).1⟩
def JEx (W:World) (db mb xb:Nat) (x:vn) (d:Dk) (R:RDk) (w:World):Prop:=∃own rsd,JE W own rsd db mb d R w∧own xb∧¬rsd xb∧zex xb x w
def JMx (W:World) (st db sb mb xb:Nat) (x:vn) (S:Sto) (D:Doc) (w:World):Prop:=∃own rsd rss,JM W own rsd rss st db sb mb S D w∧own xb∧¬rsd xb∧¬rss xb∧zex xb x w
section
variable {own rsd rss : Nat → Prop} {W w w' : World} {db mb st sb xb : Nat} {x : vn} {d d' : Dk} {R R' : RDk} {S : Sto} {D : Doc} {k : Nat} {sv kv : Value} {ev fv : Int}
theorem JE.more (h:JE W own rsd db mb d R w) (hg:w.grownBy w' none):JE W (zao own w w') rsd db mb d R w':=
 ⟨h.dr.more hg zaq (zap (λq hq=>h.dr.own_lt hq) hg.size),h.rr.kept hg,λq hq=>Or.inl (h.old q hq),zh h.gr hg,λq hq=>⟨Or.inl (h.od q hq).1,(h.od q hq).2⟩⟩
theorem JEx.of_prog (hj:JE W own rsd db mb d R w) (h1:own xb) (h2:¬rsd xb) (hx:zex xb x w) (hd:vk own w' db d') (ht:zm (λq=>¬own q) w w'):JEx W db mb xb x d' R w':=
 ⟨own,rsd,hj.prog hd ht,h1,h2,(ht.block xb hx.cells.2.2.2.2.2 (λe=>e h1)).trans hx⟩
theorem JEx.of_doc {rsd':Nat→Prop} (hj:JE W own rsd db mb d R w) (h1:own xb) (h2:¬rsd xb) (hx:zex xb x w) (hr:R18 rsd' w' mb R') (ht:zm rsd w w') (hn:∀q,rsd' q→rsd q∨w.heap.size≤q):JEx W db mb xb x d R' w':=
 ⟨_,rsd',hj.doc hr ht hn,Or.inl h1,λe=>(hn xb e).elim h2 (λe=>by have:=hx.cells.2.2.2.2.2;omega),(ht.block xb hx.cells.2.2.2.2.2 h2).trans hx⟩
theorem JEx.gr (h:JEx W db mb xb x d R w):W.grownBy w none:=by
 obtain⟨_,_,h,_⟩:=h
 exact h.gr
theorem JEx.box (h:JEx W db mb xb x d R w):zex xb x w:=by
 obtain⟨_,_,_,_,_,h⟩:=h
 exact h
theorem JEx.pcrash (h:JEx W db mb xb x d R w):Calls Tryz.prog 41 #[.pointer (some ⟨db,0,none⟩)] w λe w'=>e = .returned (.tuple #[])∧JEx W db mb xb x d.crashed R w':=by
 obtain⟨own,rsd,hj,h1,h2,hx⟩:=h;refine(dcrash hj.dr).mono ?_;rintro e w' ⟨rfl,hd,ht⟩
 exact⟨rfl,.of_prog hj h1 h2 hx hd ht⟩
theorem JEx.dcrash (h:JEx W db mb xb x d R w):Calls Tryz.prog 42 #[.pointer (some ⟨mb,0,none⟩)] w λe w'=>e = .returned (.tuple #[])∧JEx W db mb xb x d R.off w':=by
 obtain⟨own,rsd,hj,h1,h2,hx⟩:=h;refine(zpv hj.rr).mono ?_;rintro e w' ⟨rfl,hd,ht⟩
 exact⟨rfl,.of_doc hj h1 h2 hx hd ht λq hq=>Or.inl hq⟩
theorem JEx.pon (h:JEx W db mb xb x d R w) (hc:qr W x) (hl:x.F.length≤1000000):Calls Tryz.prog 34 #[.pointer (some ⟨db,0,none⟩),.slice x.fp x.F.length x.fc] w λe w'=>e = .returned (.tuple #[])∧JEx W db mb xb x (d.on x.F) R w':=by
 obtain⟨own,rsd,hj,h1,h2,hx⟩:=h;refine(don hj.dr (λw1 ht=>hc.f.grown (xa hj.gr hj.old ht) (by simp)) hc.fb hl).mono ?_
 rintro e w' ⟨rfl,hd,ht⟩
 exact⟨rfl,.of_prog hj h1 h2 hx hd ht⟩
theorem JEx.don (h:JEx W db mb xb x d R w) (hc:qr W x) (hl:x.F.length≤1000000):Calls Tryz.prog 43 #[.pointer (some ⟨mb,0,none⟩),.slice x.fp x.F.length x.fc] w λe w'=>e = .returned (.tuple #[])∧JEx W db mb xb x d (R.on x.F) w':=by
 obtain⟨own,rsd,hj,h1,h2,hx⟩:=h;refine(ron hj.rr (λw1 ht=>hc.f.grown (za1 hj.gr (λq hq=>(hj.od q hq).2) ht) (by simp)) hc.fb hl).mono ?_
 rintro e w' ⟨rfl,hd,ht⟩
 exact⟨rfl,.of_doc hj h1 h2 hx hd ht λq hq=>Or.inl hq⟩
theorem JEx.pwrite (h:JEx W db mb xb x d R w) (hc:qr W x) (hl:d.late.length<1000000):Calls Tryz.prog 24 #[.pointer (some ⟨db,0,none⟩),.int .i64 x.n,.slice x.p x.B.length x.c] w λe w'=>e = .returned (.int .i64 (d.writeV x.n x.B))∧JEx W db mb xb x (d.written x.n x.B) R w':=by
 obtain⟨own,rsd,hj,h1,h2,hx⟩:=h;refine(dwrite hj.dr x.n (hc.b.grown hj.gr (by simp)) hc.bb hl).mono ?_
 rintro e w' ⟨rfl,hd,ht⟩
 exact⟨rfl,.of_prog hj h1 h2 hx hd ht⟩
theorem JEx.dwrite (h:JEx W db mb xb x d R w) (hc:qr W x) (hl:yf R<1000000):Calls Tryz.prog 44 #[.pointer (some ⟨mb,0,none⟩),.int .i64 x.n,.string (ofB x.B)] w λe w'=>e = .returned (.int .i64 (R.writeV x.n x.B))∧JEx W db mb xb x d (R.written x.n x.B) w':=by
 obtain⟨own,rsd,hj,h1,h2,hx⟩:=h;have h3:=zhd hj.rr x.n (ofB x.B) (by rw[yu];exact hc.bl) hl
 rw[qy hc.bb] at h3;refine h3.mono ?_;rintro e w' ⟨rfl,hd,ht⟩
 exact⟨rfl,.of_doc hj h1 h2 hx hd ht λq hq=>hq.imp id λe=>e.1⟩
def jw (W:World) (db mb xb k:Nat) (x:vn) (sv:Value) (ev:Int) (kv:Value) (fv:Int) (w:World):Prop:=
 (ev≠0∧fv=ev∧sv = .pointer none∧kv = .pointer none∧∃d R,JEx W db mb xb x d R w∧xh d R∧d.late.length≤1000*k∧d.n≤39)∨
 (ev=0∧fv=0∧∃st sb S D,sv = .pointer (some ⟨st,0,none⟩)∧kv = .pointer (some ⟨sb,0,none⟩)∧JMx W st db sb mb xb x S D w∧jd S D∧S.d.late.length≤1000*k∧S.d.n≤39∧D.L.length≤40+k)
theorem qf.boxed (h:qf W db mb k sv ev kv fv w) (hg:w.grownBy w' none) (hl:w.heap.size≤xb) (hx:zex xb x w'):jw W db mb xb k x sv ev kv fv w':=by
 have hlt:=hx.cells.2.2.2.2.2
 rcases h with ⟨a1,a2,a3,a4,own,rsd,d,R,hj,a5⟩|⟨a1,a2,st,sb,own,rsd,rss,S,D,a3,a4,hj,a5⟩
 ·exact Or.inl ⟨a1,a2,a3,a4,d,R,⟨_,rsd,hj.more hg,Or.inr ⟨hl,hlt⟩,λe=>by have:=hj.rr.lt e;omega,hx⟩,a5⟩
 ·exact Or.inr ⟨a1,a2,st,sb,S,D,a3,a4,⟨_,rsd,rss,hj.more hg,Or.inr ⟨hl,hlt⟩,λe=>by have:=hj.rp.d.lt e;omega,λe=>by have:=hj.rp.s.lt e;omega,hx⟩,a5⟩
theorem jw.plain (h:jw W db mb xb k x sv ev kv fv w):qf W db mb k sv ev kv fv w:=by
 rcases h with ⟨a1,a2,a3,a4,d,R,⟨own,rsd,hj,_⟩,a5⟩|⟨a1,a2,st,sb,S,D,a3,a4,⟨own,rsd,rss,hj,_⟩,a5⟩
 ·exact Or.inl ⟨a1,a2,a3,a4,own,rsd,d,R,hj,a5⟩
 ·exact Or.inr ⟨a1,a2,st,sb,own,rsd,rss,S,D,a3,a4,hj,a5⟩
theorem jw.box (h:jw W db mb xb k x sv ev kv fv w):zex xb x w:=by
 rcases h with ⟨a1,a2,a3,a4,d,R,⟨own,rsd,hj,_,_,hx⟩,a5⟩|⟨a1,a2,st,sb,S,D,a3,a4,⟨own,rsd,rss,hj,_,_,_,hx⟩,a5⟩ <;> exact hx
theorem jw.disk (h:jw W db mb xb k x sv ev kv fv w):∃d R,JEx W db mb xb x d R w∧xh d R∧d.late.length≤1000*k∧d.n≤39:=by
 rcases h with ⟨a1,a2,a3,a4,d,R,hj,a5⟩|⟨a1,a2,st,sb,S,D,a3,a4,⟨own,rsd,rss,hj,h1,h2,_,hx⟩,a5,a6,a7,_⟩
 ·exact⟨d,R,hj,a5⟩
 ·exact⟨S.d,D.R,⟨own,rsd,hj.disks,h1,h2,hx⟩,a5.d,a6,a7⟩
def zhk (W:World) (db mb xb k:Nat) (x:vn) (n:Int) (sv:Value) (ev:Int) (kv:Value) (fv:Int) (w:World):Prop:=
 (ev≠0∧fv=ev∧sv = .pointer none∧kv = .pointer none∧∃d R,JEx W db mb xb x (d.failed n) R w∧xh d R∧d.late.length≤1000*k∧d.n≤39)∨
 (ev=0∧fv=0∧∃st sb S D,sv = .pointer (some ⟨st,0,none⟩)∧kv = .pointer (some ⟨sb,0,none⟩)∧JMx W st db sb mb xb x { S with d:=S.d.failed n } D w∧jd S D∧S.d.late.length≤1000*k∧S.d.n≤39∧D.L.length≤40+k)
theorem zhk.box (h:zhk W db mb xb k x n sv ev kv fv w):zex xb x w:=by
 rcases h with ⟨a1,a2,a3,a4,d,R,⟨own,rsd,hj,_,_,hx⟩,a5⟩|⟨a1,a2,st,sb,S,D,a3,a4,⟨own,rsd,rss,hj,_,_,_,hx⟩,a5⟩ <;> exact hx
theorem jw.pfail (h:jw W db mb xb k x sv ev kv fv w) (n:Int) (hn:n<9223372036854775808):Calls Tryz.prog 28 #[.pointer (some ⟨db,0,none⟩),.int .i64 n] w λe w'=>e = .returned (.tuple #[])∧zhk W db mb xb k x n sv ev kv fv w':=by
 rcases h with ⟨a1,a2,a3,a4,d,R,⟨own,rsd,hj,h1,h2,hx⟩,a5⟩|⟨a1,a2,st,sb,S,D,a3,a4,⟨own,rsd,rss,hj,h1,h2,h3,hx⟩,a5⟩
 ·refine(dfail hj.dr n hn).mono ?_
  rintro e w' ⟨rfl,hd,ht⟩
  exact⟨rfl,Or.inl ⟨a1,a2,a3,a4,d,R,.of_prog hj h1 h2 hx hd ht,a5⟩⟩
 ·refine(hj.kr.fail n hn).mono ?_
  rintro e w' ⟨rfl,hk,ht⟩
  exact⟨rfl,Or.inr ⟨a1,a2,st,sb,S,D,a3,a4,⟨own,rsd,rss,hj.prog hk.rep ht,h1,h2,h3,(ht.block xb hx.cells.2.2.2.2.2 (λe=>e h1)).trans hx⟩,a5⟩⟩
theorem zhk.dfail (h:zhk W db mb xb k x n sv ev kv fv w) (hn:n<9223372036854775808):Calls Tryz.prog 40 #[.pointer (some ⟨mb,0,none⟩),.int .i64 n] w λe w'=>e = .returned (.tuple #[])∧qf W db mb k sv ev kv fv w':=by
 rcases h with ⟨a1,a2,a3,a4,d,R,⟨own,rsd,hj,h1,h2,hx⟩,a5,a6⟩|⟨a1,a2,st,sb,S,D,a3,a4,⟨own,rsd,rss,hj,h1,h2,h3,hx⟩,a5,a6⟩
 ·refine(rfail hj.rr n hn).mono ?_
  rintro e w' ⟨rfl,hd,ht⟩
  exact⟨rfl,Or.inl ⟨a1,a2,a3,a4,_,rsd,_,_,hj.doc hd ht (λq hq=>Or.inl hq),zf7 a5 n,a6⟩⟩
 ·refine(rfail hj.rp.d n hn).mono ?_
  rintro e w' ⟨rfl,hd,ht⟩;refine⟨rfl,Or.inr ⟨a1,a2,st,sb,_,rsd,rss,_,{ D with R:=D.R.failed n },a3,a4,hj.doc (D':={ D with R:=D.R.failed n }) ⟨hd,hj.rp.s.past hj.rp.ap ht,hj.rp.ap⟩ (ht.mono λq hq=>Or.inl hq) (λq hq=>Or.inl hq) (λq hq=>Or.inl hq),?_,a6⟩⟩
  exact a5.disk (zf7 a5.d n) (by show -1≤max (-1) n;omega) rfl S.broken D.broken a5.broken
end
end Go.Proofs.YtbcbhlfjgobejaaGreat
