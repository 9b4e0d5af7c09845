/- Bytes told as a string. Conditions: none, or as the theorems say. -/
import Derived.Test.YtbcbhlfjgobejaaGreatJ32
import Derived.Test.YtbcbhlfjgobejaaGreatJ1
import Derived.Lib.SlBytesConst
import Derived.Test.YtbcbhlfjgobejaaGreatJ23
import Derived.Test.YtbcbhlfjgobejaaGreatJ24
set_option linter.unusedSimpArgs false
set_option linter.unusedVariables false
namespace Go.Proofs.YtbcbhlfjgobejaaGreat
set_option maxHeartbeats 200000000
open Go.RowKit Go.Sf
theorem Uu {rb:Nat→Prop} {w:World} {v:Value} {l:List Int} (h:xy rb w v (zg l)):(convert 32 9 v).run Tryz.prog w = .ok (.string (ofB l)) w:=by
 obtain⟨p,cap,rfl,-,-,hc⟩:=h;rw[run_convert_bytes_string w _ _ 5 p _ cap Tryz.underlying32 Tryz.underlying5 Tryz.underlying9];rw[zt]
 cases p with
 | none=>
  have h0:l = []:=by
   rcases hc with h0|⟨a,h1,_⟩
   ·simpa[zg] using h0
   ·cases h1
  subst h0;simp[Conv.bytesToString,ofB]
  rfl
 | some a=>
  have hl:(loadCells a l.length).run Tryz.prog w = .ok (l.map (Value.int .u8)).toArray w:=by
   have:=run_loadCells_list (P:=Tryz.prog) w a (l.map (Value.int .u8)) (fun j v hj=>by
    rcases hc with h0|⟨a',h1,_,h2⟩
    ·simp[zg] at h0;subst h0;simp at hj
    ·cases h1;exact h2 j v (by simpa[zg] using hj))
   simpa using this
  rw[run_bytesToString w a l.length cap l hl,zdt];simp[ofB,ByteArray.empty,ByteArray.emptyWithCapacity]
  rfl
theorem zgh {w:World} {b:List Int} {T:TypeId} {cap:Nat} (fz:Nat × Nat) (hb:b.length≤cap) (hc:cap≤9223372036854775807) (lo:Nat) (hlo:lo≤w.heap.size):xy (fun k=>lo≤k∧k<(w.alloc (.cells (zg b).toArray T fz)).heap.size) (w.alloc (.cells (zg b).toArray T fz)) (.slice (some ⟨w.heap.size,0,none⟩) b.length cap) (zg b):=by
 refine⟨some ⟨w.heap.size,0,none⟩,cap,by rw[zt],by rw[zt];exact hb,hc,Or.inr ⟨_,rfl,⟨hlo,by simp⟩,fun j u hu=>?_⟩⟩
 rw[qe]
 exact(zf (heap_alloc_new w _) j).trans (by simpa using hu)
theorem Zo.rowP {W w:World} {v:Value} {l:List Int} (h:Zo W w v l) (hl:l.length≤9223372036854775807):xy (fun k=>W.heap.size≤k∧k<w.heap.size) w v (zg l):=by
 rcases h.2 with ⟨rfl,h0⟩|⟨g,cap,cur,rfl,hg,hh,h1,h2,h3,h4⟩
 ·have:l = []:=List.length_eq_zero_iff.mp h0
  subst this
  exact⟨none,0,rfl,by simp[zg],by omega,Or.inl rfl⟩
 ·refine⟨some ⟨g,0,none⟩,cap,by rw[zt],by rw[zt];exact h1,h2,Or.inr ⟨_,rfl,⟨hg,?_⟩,fun j u hu=>?_⟩⟩
  ·rcases Nat.lt_or_ge g w.heap.size with h|h
   ·exact h
   ·rw[Array.getElem?_eq_none h] at hh;cases hh
  ·rw[qe]
   refine(zf hh j).trans ?_;have hj:j<(zg l).length:=by
    rcases Nat.lt_or_ge j (zg l).length with h|h
    ·exact h
    ·rw[List.getElem?_eq_none h] at hu;cases hu
   rw[←h4,List.getElem?_take,if_pos (by rw[zt] at hj;omega)] at hu
   simpa using hu
def Jg:List Int:=List.replicate 500 0
theorem Jh:Jg.length=500:=List.length_replicate
theorem z_BL (n:Nat):BL (List.replicate n 0):=fun b hb=>by have:=List.eq_of_mem_replicate hb;omega
structure Ex9 (d1 d2 d3 d4:Dk):Prop where
 n:d1.n=4∧d2.n=4∧d3.n=4∧d4.n=4
 late:d1.late = []∧d2.late = []∧d3.late = []∧d4.late = []
 p1:(S0 4).put [97,98]=(⟨d1,[(1,([97,98],[0]))],[true,false,false,false],2,0⟩,1,0)
 p2:Sto.put ⟨d1,[(1,([97,98],[0]))],[true,false,false,false],2,0⟩ Jg=(⟨d2,[(1,([97,98],[0])),(2,(Jg,[1,2,3]))],[true,true,true,true],3,0⟩,2,0)
 p3:Sto.put ⟨d2,[(1,([97,98],[0])),(2,(Jg,[1,2,3]))],[true,true,true,true],3,0⟩ []=(⟨d2,[(1,([97,98],[0])),(2,(Jg,[1,2,3]))],[true,true,true,true],3,0⟩,0,181)
 r:Sto.rem ⟨d2,[(1,([97,98],[0])),(2,(Jg,[1,2,3]))],[true,true,true,true],3,0⟩ 2=(⟨d3,[(1,([97,98],[0]))],[true,false,false,false],3,0⟩,0)
 p4:Sto.put ⟨d3,[(1,([97,98],[0]))],[true,false,false,false],3,0⟩ []=(⟨d4,[(1,([97,98],[0])),(3,([],[1]))],[true,true,false,false],4,0⟩,3,0)
theorem ex9:∃d1 d2 d3 d4,Ex9 d1 d2 d3 d4:=by
 obtain⟨d1,s1,n1,l1,e1⟩:=zhv (S:=S0 4) (zic 4) rfl (by decide) rfl (b:=[97,98]) (by decide) (by decide)
 have n1:d1.n=4:=n1;obtain⟨d2,s2,n2,l2,e2⟩:=zhv (S:=⟨d1,[(1,([97,98],[0]))],[true,false,false,false],2,0⟩) s1 rfl (by show(2:Int)≤_;decide) n1.symm (b:=Jg) (by rw[Jh];decide) (by
  have:zo Jg.length=3:=by rw[Jh];rfl
  rw[this];show(yn [true,false,false,false] 3 4).length=3;decide)
 have n2:d2.n=4:=n2.trans n1;obtain⟨d3,s3,n3,l3,e3⟩:=rem_ok (S:=⟨d2,[(1,([97,98],[0])),(2,(Jg,[1,2,3]))],[true,true,true,true],3,0⟩) s2 rfl (k:=2) (r:=(Jg,[1,2,3])) rfl (by show 1<d2.n;omega)
 have n3:d3.n=4:=n3.trans n2;obtain⟨d4,s4,n4,l4,e4⟩:=zhv (S:=⟨d3,[(1,([97,98],[0]))],[true,false,false,false],3,0⟩) s3 rfl (by show(3:Int)≤_;decide) n3.symm (b:=[]) (by decide) (by show(yn [true,false,false,false] 1 4).length=1;decide)
 have n4:d4.n=4:=n4.trans n3;refine⟨d1,d2,d3,d4,⟨⟨n1,n2,n3,n4⟩,⟨l1,l2,l3,l4⟩,?_,?_,?_,?_,?_⟩⟩
 ·rw[e1];rfl
 ·rw[e2]
  have:zo Jg.length=3:=by rw[Jh];rfl
  rw[this];rfl
 ·exact zmo rfl (by show(3:Int)≤_;decide) (by decide) (by show(yn [true,true,true,true] 1 4).length<1;decide)
 ·rw[e3];rfl
 ·rw[e4];rfl
set_option maxRecDepth 100000 in
theorem zid (W:World):Calls Tryz.prog 17 #[] W fun e w'=>e = .returned (.bool true)∧W.grownBy w' none:=by
 have HN:=zd (dnew 4 W);obtain⟨d1,d2,d3,d4,HEX⟩:=ex9;have HE:=zd HEX;clear HEX;have hmk:∀w:World,(Instr.makeSlice 32 (.int .i64 500) (.int .i64 500)).run Tryz.prog w=_:=Vo 500 (by omega)
 have hcv:=fun (w:World) (C:Array Value) (n c:Nat)=>Lib.run_convert_bytes_const (P:=Tryz.prog) w 32 5 C n c Tryz.underlying32 Tryz.underlying5
 go_enter Tryz.func17,Tryz.ntmps17
 go_upto_region 4 with (first
  | (go_at_call 19;refine HN.out.mono ?_;rintro e w1 ⟨db,rfl,hg1,-,hd1⟩;have HOP:=zd (zmh (W:=W) 4 hg1 hd1);clear hg1 hd1)
  | (go_at_call 18;refine HOP.out.mono ?_;rintro e w2 ⟨st,rfl,hst⟩;have HS:=zd hst;clear hst HOP))
 have HP1:Hid (∀w,w2.grownBy w none→∀v,xy (fun k=>w2.heap.size≤k∧k<w.heap.size) w v (zg [97,98])→Calls Tryz.prog 20 #[.pointer (some ⟨st,0,none⟩),v] w fun e w'=>e = .returned (.tuple #[.int .i64 1,.int .i64 0])∧Va W st ⟨d1,[(1,([97,98],[0]))],[true,false,false,false],2,0⟩ w'):=(show ∀w,_→∀v,_→Calls _ _ _ _ _ from fun w hg v hv=>by
  have:=HS.out.put hg hv (fun b hb=>by simp at hb;omega) (by decide) (by decide)
  rw[HE.out.p1] at this
  exact this)
 go_upto_region 5 with (go_at_call 20;refine(HP1.out _ (ze _ _ none) _ (zgh (b:=[97,98]) (cap:=2) _ (by decide) (by decide) _ (Nat.le_refl _))).mono ?_;rintro e w3 ⟨rfl,hst⟩;have HS1:=zd hst;clear hst)
 have HP2:Hid (∀w,w3.grownBy w none→∀v,xy (fun k=>w3.heap.size≤k∧k<w.heap.size) w v (zg Jg)→Calls Tryz.prog 20 #[.pointer (some ⟨st,0,none⟩),v] w fun e w'=>e = .returned (.tuple #[.int .i64 2,.int .i64 0])∧Va W st ⟨d2,[(1,([97,98],[0])),(2,(Jg,[1,2,3]))],[true,true,true,true],3,0⟩ w'):=(show ∀w,_→∀v,_→Calls _ _ _ _ _ from fun w hg v hv=>by
  have:=HS1.out.put hg hv (z_BL 500) (by rw[Jh];decide) (by rw[HE.out.late.1];decide)
  rw[HE.out.p2] at this
  exact this)
 go_upto_region 6 with (go_at_call 20;refine(HP2.out _ (ze _ _ none) _ (zhz (b:=List.replicate 500 0) (cap:=500) (by rw[List.length_replicate];exact Nat.le_refl _) (by decide) _ (Nat.le_refl _))).mono ?_;rintro e w4 ⟨rfl,hst⟩;have HS2:=zd hst;clear hst)
 go_upto_region 7 with (go_at_call 22;refine HS2.out.free.mono ?_;rintro e w5 ⟨rfl,h5⟩;obtain rfl:w4=w5:=h5.symm)
 have HP3:Hid (∀w,w4.grownBy w none→∀v,xy (fun k=>w4.heap.size≤k∧k<w.heap.size) w v (zg [])→Calls Tryz.prog 20 #[.pointer (some ⟨st,0,none⟩),v] w fun e w'=>e = .returned (.tuple #[.int .i64 0,.int .i64 181])∧Va W st ⟨d2,[(1,([97,98],[0])),(2,(Jg,[1,2,3]))],[true,true,true,true],3,0⟩ w'):=(show ∀w,_→∀v,_→Calls _ _ _ _ _ from fun w hg v hv=>by
  have:=HS2.out.put hg hv (fun b hb=>by simp at hb) (by decide) (by rw[HE.out.late.2.1];decide)
  rw[HE.out.p3] at this
  exact this)
 go_upto_region 8 with (go_at_call 20;refine(HP3.out _ (zj _) _ (zgi _ _)).mono ?_;rintro e w5 ⟨rfl,hst⟩;have HS3:=zd hst;clear hst)
 have HR4:Hid (Calls Tryz.prog 30 #[.pointer (some ⟨st,0,none⟩),.int .i64 2] w5 fun e w'=>e = .returned (.int .i64 0)∧Va W st ⟨d3,[(1,([97,98],[0]))],[true,false,false,false],3,0⟩ w'):=(show Calls _ _ _ _ _ from by
  have:=HS3.out.rem 2 (by rw[HE.out.late.2.1];decide)
  rw[HE.out.r] at this
  exact this)
 go_upto_region 9 with (go_at_call 30;refine HR4.out.mono ?_;rintro e w6 ⟨rfl,hst⟩;have HS4:=zd hst;clear hst)
 go_upto_region 10 with (go_at_call 22;refine HS4.out.free.mono ?_;rintro e w7 ⟨rfl,h5⟩;obtain rfl:w6=w7:=h5.symm)
 have HP5:Hid (∀w,w6.grownBy w none→∀v,xy (fun k=>w6.heap.size≤k∧k<w.heap.size) w v (zg [])→Calls Tryz.prog 20 #[.pointer (some ⟨st,0,none⟩),v] w fun e w'=>e = .returned (.tuple #[.int .i64 3,.int .i64 0])∧Va W st ⟨d4,[(1,([97,98],[0])),(3,([],[1]))],[true,true,false,false],4,0⟩ w'):=(show ∀w,_→∀v,_→Calls _ _ _ _ _ from fun w hg v hv=>by
  have:=HS4.out.put hg hv (fun b hb=>by simp at hb) (by decide) (by rw[HE.out.late.2.2.1];decide)
  rw[HE.out.p4] at this
  exact this)
 go_upto_region 11 with (go_at_call 20;refine(HP5.out _ (zj _) _ (zgi _ _)).mono ?_;rintro e w7 ⟨rfl,hst⟩;have HS5:=zd hst;clear hst)
 have HG6:Hid (Calls Tryz.prog 21 #[.pointer (some ⟨st,0,none⟩),.int .i64 1] w7 fun e w'=>w7.grownBy w' none∧∃p c,e = .returned (.tuple #[.slice p 2 c,.bool true])∧Zo w7 w' (.slice p 2 c) [97,98]):=(show Calls _ _ _ _ _ from by
  refine(HS5.out.get 1).mono ?_;rintro e w' ⟨hg,v,rfl,⟨h0,-⟩|⟨r,h0,hr⟩⟩
  ·simp[zx] at h0
  ·simp[zx] at h0
   subst h0;obtain⟨p,c,rfl⟩:∃p c,v = .slice p 2 c:=by
    rcases hr.2 with ⟨e,h0⟩|⟨g,c,cur,e,_⟩
    ·simp at h0
    ·exact⟨_,_,e⟩
   exact⟨hg,p,c,rfl,hr⟩)
 go_upto_region 12 with (go_at_call 21;refine HG6.out.mono ?_;rintro e w8 ⟨hg,p,c,rfl,hr⟩;have HG8:=zd hg;have HR8:=zd hr;clear hg hr)
 have hcz:(convert 32 9 (.slice p 2 c)).run Tryz.prog w8 = .ok (.string (ofB [97,98])) w8:=Uu (HR8.out.rowP (by decide))
 have hez:((ofB [97,98]).toList == [97,98])=true:=by
  have e : ofB [97, 98] = "ab".toUTF8 := by rfl
  decide +kernel
 go_wp2
 go_ret
 exact⟨rfl,zh HS5.out.gr HG8.out⟩
open Go.Sf
theorem mix_str {NL OL:List Int} (cut:Nat) (ho:OL.length=256):(ofB NL).extract 0 cut++(ofB OL).extract cut 256=ofB (qx cut NL OL):=by
 apply ByteArray.ext
 rw[ByteArray.data_append,ByteArray.data_extract,ByteArray.data_extract]
 apply Array.ext'
 rw[Array.toList_append,Array.toList_extract,Array.toList_extract];unfold ofB qx;simp only[List.extract_eq_take_drop,List.map_append,List.drop_zero,List.map_take,List.map_drop,Nat.sub_zero];rw[List.take_of_length_le (l:=List.drop cut _) (by simp;omega)]
open Go.RowKit Go.Sf Go.Shelf
def RDk.onK (R:RDk) (fates:List Int):Nat→RDk
 | 0=>R
 | k+1=>match (R.onK fates k).blocks[k]? with
  | none=>R.onK fates k
  | some x=>(R.onK fates k).setB k (jv fates x.late x.settled)
def RDk.on (R:RDk) (fates:List Int):RDk:=if R.gone=true then RDk.onK { R with well:=-1,gone:=false } fates R.blocks.length else { R with well:=-1 }
theorem zba (R:RDk) (fates:List Int):∀k,(R.onK fates k).blocks.length=R.blocks.length
 | 0=>rfl
 | k+1=>by
  unfold RDk.onK
  split
  ·exact zba R fates k
  ·simp[RDk.setB,zba R fates k]
theorem zjy (fates:List Int) (l:List (Nat × List Int)) (w:Nat × List Int) (x:List Int):jv fates (l ++ [w]) x=qx (qj fates w.1) w.2 (jv fates l x):=by simp[jv]
theorem zen (fates:List Int):∀(l:List (Nat × List Int)) (x:List Int),(x.length=256∧BL x)→(∀w∈l,w.2.length=256∧BL w.2)→(jv fates l x).length=256∧BL (jv fates l x)
 | [],x,hx,_=>hx
 | w :: r,x,hx,h=>zen fates r _ (za8 (h w (by simp)) hx _) (fun w' hw=>h w' (List.mem_cons_of_mem _ hw))
section
variable {rs rs' : Nat → Prop} {W W' : World} {db : Nat} {bv : Value} {bs : List (List Int × Value)} {R R' : RDk}
theorem Yv.at {m:List (Nat × List Int)} {p:Option Addr} {n c:Nat} (h:Yv rs W (.slice p n c) m) {q:Nat} (hq:q<m.length):∃b off,p=some ⟨b,off,none⟩∧rs b∧W.cell? ⟨b,off+q*2,none⟩=some (.int .i64 (m[q].1:Int))∧W.cell? ⟨b,off+q*2+1,none⟩=some (.string (ofB m[q].2)):=by
 obtain⟨p',c',e,hc⟩:=h
 injection e with e1 e2 e3
 subst e1 e2 e3
 rcases hc with hm|⟨b,off,rfl,hrs,hc⟩
 ·rw[hm] at hq;simp at hq
 ·refine⟨b,off,rfl,hrs,?_,?_⟩
  ·refine hc _ _ ?_
   have:=Uw xt 2 yv m q 0 hq (by omega)
   rw[Nat.add_zero] at this;rw[this];rfl
  ·rw[Nat.add_assoc]
   refine hc _ _ ?_;rw[Uw xt 2 yv m q 1 hq (by omega)];rfl
set_option maxRecDepth 100000 in
theorem ron (h:R18 rs W db R) {fv:Value} {fates:List Int} (hf:∀w',zm rs W w'→yi w' fv fates) (hfb:BL fates) (hfl:fates.length≤1000000):Calls Tryz.prog 43 #[.pointer (some ⟨db,0,none⟩),fv] W fun e w'=>e = .returned (.tuple #[])∧R18 rs w' db (R.on fates)∧zm rs W w':=by
 obtain⟨bv,bs,h⟩:=h;have h1:=h.set (R':={ R with well:=-1 }) 2 (.int .i64 (-1)) rfl rfl (by show(-1:Int)≤-1;omega) (by show(-1:Int)<_;omega)
 have ht1:=h.turnSet 2 (.int .i64 (-1))
 cases hgn:R.gone
 ·have e2:R.on fates = { R with well:=-1 }:=by unfold RDk.on;rw[hgn];rfl
  rw[e2];clear e2;have HR:Hid (R18 rs (W.setCell ⟨db,2,none⟩ (.int .i64 (-1))) db { R with well:=-1 }∧zm rs W (W.setCell ⟨db,2,none⟩ (.int .i64 (-1)))):=(show _∧_ from ⟨⟨_,_,h1⟩,ht1⟩)
  obtain⟨c0,c1,c2,c3,y⟩:=h.cells;rw[hgn] at c3;clear h h1 ht1 hf;generalize ({ R with well:=-1 }:RDk)=R9 at *
  go_enter Tryz.func43,Tryz.ntmps43
  go_wp2
  all_goals first|go_end0|refine bodyPost_ret (results_none rfl _ _ _) rfl ?_
  all_goals exact⟨rfl,HR.out.1,HR.out.2⟩
 ·have e2:R.on fates=RDk.onK { R with well:=-1,gone:=false } fates R.blocks.length:=by unfold RDk.on;rw[hgn];rfl
  rw[e2];clear e2;have h2:=h1.set (R':={ R with well:=-1,gone:=false }) 3 (.bool false) rfl rfl (by show(-1:Int)≤-1;omega) (by show(-1:Int)<_;omega)
  have HT0:=zd (ht1.trans (h1.turnSet 3 (.bool false)));have hn:=h.n;obtain⟨m,hm⟩:∃m,m=R.blocks.length:=⟨_,rfl⟩;obtain⟨R1,hR1⟩:∃R1:RDk,R1 = { R with well:=-1,gone:=false }:=⟨_,rfl⟩
  have HM:Hid (R1.blocks.length=m):=(show _=_ from by rw[hR1,hm])
  rw[←hm] at hn ⊢;rw[←hR1] at h2 ⊢;have HR0:Hid (R18 rs ((W.setCell ⟨db,2,none⟩ (.int .i64 (-1))).setCell ⟨db,3,none⟩ (.bool false)) db (R1.onK fates 0)):=(show R18 _ _ _ _ from ⟨_,_,h2⟩)
  have HF:=zd hf;obtain⟨c0,c1,c2,c3,y⟩:=h.cells;rw[hgn] at c3;clear h h1 h2 ht1 hf hm hR1
  go_enter Tryz.func43,Tryz.ntmps43
  go_upto_region 4 with fail
  clear c0 c1 c2 c3 y;generalize (W.setCell ⟨db,2,none⟩ (.int .i64 (-1))).setCell ⟨db,3,none⟩ (.bool false)=w0 at *
  go_loopw [4] (fun i wr=>∃k:Nat,k≤m∧i = .int .i64 k∧R18 rs wr db (R1.onK fates k)∧zm rs W wr) (fun i _=>m-(intOf i).toNat)
  case atStart=>exact⟨0,by omega,rfl,HR0.out,HT0.out⟩
  case round=>
   obtain⟨k,hk,rfl,hr,ht⟩:=hrel;clear HR0 HT0;have HT:=zd ht;have HRK:=zd hr;obtain⟨bv,bs,h⟩:=hr;have hlen:=zba R1 fates k;rw[HM.out] at hlen;obtain⟨p,cap,rfl,-,-⟩:=h.form;obtain⟨c0,c1,c2,c3,y⟩:=h.cells;rw[hlen] at c0
   by_cases hkm:k<m
   ·have hkl:k<(R1.onK fates k).blocks.length:=by omega
    have hx:(R1.onK fates k).blocks[k]? = some (R1.onK fates k).blocks[k]:=List.getElem?_eq_getElem hkl;obtain⟨g,cap',p1,n,c,e9,-,cs,cl,hnn,hl,hfr,hbs,hgd⟩:=h.blk hx
    injection e9 with e9 _ e10
    subst e9 e10;have hok:=h.ok _ (List.getElem_mem hkl);have hfew:n≤1000000:=by
     have h1:n≤yf (R1.onK fates k):=by
      rw[hnn];unfold yf
      exact Yf _ _ (List.mem_map.2 ⟨_,List.getElem_mem hkl,rfl⟩)
     have:=h.few;omega
    have HN:Hid (R1.onK fates (k+1)=(R1.onK fates k).setB k (jv fates (R1.onK fates k).blocks[k].late (R1.onK fates k).blocks[k].settled)):=(show _=_ from by
     conv=>lhs;unfold RDk.onK
     rw[hx])
    have HSB:Hid (∀w',wr.grownBy w' none→R18 rs ((w'.setCell ⟨g,k*2,none⟩ (.string (ofB (jv fates (R1.onK fates k).blocks[k].late (R1.onK fates k).blocks[k].settled)))).setCell ⟨g,k*2+1,none⟩ (.slice none 0 0)) db (R1.onK fates (k+1))∧zm rs W ((w'.setCell ⟨g,k*2,none⟩ (.string (ofB (jv fates (R1.onK fates k).blocks[k].late (R1.onK fates k).blocks[k].settled)))).setCell ⟨g,k*2+1,none⟩ (.slice none 0 0))):=(show ∀_,_→_∧_ from fun w' hg=>by
     have h':=h.same (fun k hk=>hg.block k (h.lt k hk) (by simp)) hg.size
     have:=h'.setB (vl:=.slice p1 n c) hx hbs (zen fates _ _ hok.1 hok.2);rw[HN.out]
     exact⟨⟨_,_,this.1⟩,ht.trans (zm.trans (xp hg) this.2)⟩)
    have hgl:=h.lt g (h.rbv g rfl);have HL:=zd hl;have HO:=zd hok;have HFR:Hid (∀w',wr.grownBy w' none→w'.cell? ⟨db,0,none⟩=some (.slice (some ⟨g,0,none⟩) m cap)∧w'.cell? ⟨g,k*2,none⟩=some (.string (ofB (R1.onK fates k).blocks[k].settled))∧w'.cell? ⟨g,k*2+1,none⟩=some (.slice p1 n c)∧w'.frozen? ⟨g,k*2,none⟩=false∧w'.frozen? ⟨g,k*2+1,none⟩=false):=(show ∀_,_→_∧_ from fun w' hg=>by
     have hb:=hg.block g hgl (by simp)
     have hfz:∀i,w'.frozen? ⟨g,i,none⟩=false:=fun i=>by
      rw[←hfr i];unfold World.frozen?;simp only[hb]
     exact⟨hg.cell c0 (by simp),hg.cell cs (by simp),hg.cell cl (by simp),hfz _,hfz _⟩)
    have HRC:Hid (∀w',wr.grownBy w' none→∀N:Nat,Calls Tryz.prog 116 #[.int .i64 (N:Int),fv] w' fun e w''=>e = .returned (.int .i64 (qj fates N:Int))∧w''=w'):=(show ∀_,_→∀_,Calls _ _ _ _ _ from fun w' hg N=>zmu (HF.out w' (ht.trans (xp hg))) hfb hfl N)
    have HDB:Hid (db<wr.heap.size∧g<wr.heap.size):=(show _∧_ from ⟨h.lt db h.rdb,hgl⟩)
    have HB4:Hid (k<m):=(show _<_ from hkm)
    clear h hx hl hbs hok ht;generalize (R1.onK fates k).blocks[k]=x at *;obtain⟨xs,xl⟩:=x;simp only at *;have HNN:=zd hnn;clear hnn
    go_upto_region 8 with fail
    have h1g:=ze wr (.cells #[.string (ofB xs),.slice p1 n c] 188) none;have h1n:=heap_alloc_new wr (.cells #[.string (ofB xs),.slice p1 n c] 188);generalize wr.alloc (.cells #[.string (ofB xs),.slice p1 n c] 188)=W1 at *;have HG1:=zd h1g;have HB1:=zd h1n;obtain⟨mb,hmb⟩:∃mb,mb=wr.heap.size:=⟨_,rfl⟩;have HMB:=zd hmb;rw[←hmb] at HB1 HDB ⊢;clear hmb h1g h1n cs cl c0 c1 c2 c3 y hfr;generalize wr=wz at *
    go_loopw [6] (fun j w=>∃q:Nat,q≤n∧j = .int .i64 q∧wz.grownBy w none∧w.heap[mb]? = some (.cells #[.string (ofB (jv fates (xl.take q) xs)),.slice p1 n c] 188 (0,0))) (fun j _=>n-(intOf j).toNat)
    case atStart=>exact⟨0,by omega,rfl,HG1.out,HB1.out⟩
    case round=>
     clear HB1 HG1;obtain⟨q,hq,rfl,hg,hbx⟩:=hrel;have b0:wr.cell? ⟨mb,0,none⟩=some (.string (ofB (jv fates (xl.take q) xs))):=(zf hbx 0).trans rfl;have b1:wr.cell? ⟨mb,1,none⟩=some (.slice p1 n c):=(zf hbx 1).trans rfl;have bf0:wr.frozen? ⟨mb,0,none⟩=false:=by simp[World.frozen?,hbx]
     obtain⟨d0,d1,d2,d3,d4⟩:=HFR.out _ hg;have HG:=zd hg;have HBX:=zd hbx
     by_cases hqn:q<n
     ·have hql:q<xl.length:=by rw[←HNN.out];exact hqn
      obtain⟨a,off,rfl,hrs,l0,l1⟩:=HL.out.at hql;have l0':=hg.cell l0 (by simp)
      have l1':=hg.cell l1 (by simp)
      have HRE:=zd (HRC.out _ hg xl[q].1);have hmix:jv fates (xl.take (q+1)) xs=qx (qj fates xl[q].1) xl[q].2 (jv fates (xl.take q) xs):=by
       rw[List.take_succ_eq_append_getElem hql,zjy]
      have hyo:=zen fates (xl.take q) xs HO.out.1 (fun w hw=>HO.out.2 w (List.mem_of_mem_take hw))
      have hzo:=HO.out.2 xl[q] (List.getElem_mem hql);have hrl:=zmr fates hfb xl[q].1;have hms:=mix_str (NL:=xl[q].2) (OL:=jv fates (xl.take q) xs) (qj fates xl[q].1) hyo.1;rw[←hmix] at hms;have HMS:=zd hms;have hs1:(ofB xl[q].2).size=256:=by rw[xr];exact hzo.1
      have hs2:(ofB (jv fates (xl.take q) xs)).size=256:=by rw[xr];exact hyo.1
      have hne:mb≠a:=fun e=>by have:=HMB.out;have:=xo l0;simp only at this;omega
      clear hg l0 l1 hmix hyo hzo hms hbx;generalize xl[q].2=zq at *;generalize xl[q].1=N at *;generalize hY:jv fates (xl.take q) xs=Y at *;generalize qj fates N=r at *;have e1:(0:Int)≤(r:Int):=by omega
      have e2:(r:Int)≤256:=by omega
      have e3:(0:Int)≤(q:Int):=by omega
      have e4:(q:Int)<(n:Int):=by omega
      go_upto_region 11 with (go_at_call 116;refine HRE.out.mono ?_;rintro e w9 ⟨rfl,h5⟩;obtain rfl:wr=w9:=h5.symm)
      refine wp_region_held_drew (S:=fun w'=>w'.cell? ⟨mb,1,none⟩=some (.slice (some ⟨a,off,none⟩) n c)∧w'.cell? ⟨a,off+q*2+1,none⟩=some (.string (ofB zq))) (by kernel_rfl) ⟨b1,l1'⟩ (fun hHeld=>?_)
      replace b0:wr.drew.cell? ⟨mb,0,none⟩=some (.string (ofB Y)):=b0
      replace bf0:wr.drew.frozen? ⟨mb,0,none⟩=false:=bf0
      refine tk (i:=0) (oi:=⟨some 50,Op.fieldAddr 188 (Operand.tmp 5) 1,_,_,_,none⟩) (v:=?_) rfl hHeld ?_ ?_
      rotate_left
      ·rintro w ⟨s1,s2⟩;go_simp;try with_reducible rfl
      (try simp only[Act.put,za,zb,zc])
      refine tk (i:=1) (oi:=⟨some 51,Op.load 186 (Operand.tmp 50),_,_,_,none⟩) (v:=?_) rfl hHeld ?_ ?_
      rotate_left
      ·rintro w ⟨s1,s2⟩;go_simp;try with_reducible rfl
      (try simp only[Act.put,za,zb,zc])
      refine tk (i:=2) (oi:=⟨some 52,Op.move (Operand.tmp 6),_,_,_,none⟩) (v:=?_) rfl hHeld ?_ ?_
      rotate_left
      ·rintro w ⟨s1,s2⟩;go_simp;try with_reducible rfl
      (try simp only[Act.put,za,zb,zc])
      refine tk (i:=3) (oi:=⟨some 53,Op.indexAddr 186 (Operand.tmp 51) (Operand.tmp 52),_,_,_,none⟩) (v:=?_) rfl hHeld ?_ ?_
      rotate_left
      ·rintro w ⟨s1,s2⟩;go_simp;try with_reducible rfl
      (try simp only[Act.put,za,zb,zc])
      refine tk (i:=4) (oi:=⟨some 54,Op.fieldAddr 206 (Operand.tmp 53) 1,_,_,_,none⟩) (v:=?_) rfl hHeld ?_ ?_
      rotate_left
      ·rintro w ⟨s1,s2⟩;go_simp;try with_reducible rfl
      (try simp only[Act.put,za,zb,zc])
      refine tk (i:=5) (oi:=⟨some 55,Op.load 9 (Operand.tmp 54),_,_,_,none⟩) (v:=?_) rfl hHeld ?_ ?_
      rotate_left
      ·rintro w ⟨s1,s2⟩;go_simp;try with_reducible rfl
      (try simp only[Act.put,za,zb,zc])
      refine tk (i:=6) (oi:=⟨some 56,Op.move (Operand.tmp 7),_,_,_,none⟩) (v:=?_) rfl hHeld ?_ ?_
      rotate_left
      ·rintro w ⟨s1,s2⟩;go_simp;try with_reducible rfl
      (try simp only[Act.put,za,zb,zc])
      refine tk (i:=7) (oi:=⟨some 57,Op.slice 9 (Operand.tmp 55) none (some (Operand.tmp 56)) none,_,_,_,none⟩) (v:=?_) rfl hHeld ?_ ?_
      rotate_left
      ·rintro w ⟨s1,s2⟩;go_simp;try with_reducible rfl
      (try simp only[Act.put,za,zb,zc])
      refine tk (i:=8) (oi:=⟨some 58,Op.fieldAddr 188 (Operand.tmp 5) 0,_,_,_,none⟩) (v:=?_) rfl hHeld ?_ ?_
      rotate_left
      ·rintro w ⟨s1,s2⟩;go_simp;try with_reducible rfl
      (try simp only[Act.put,za,zb,zc])
      refine tk (i:=10) (oi:=⟨some 60,Op.move (Operand.tmp 7),_,_,_,none⟩) (v:=?_) rfl hHeld ?_ ?_
      rotate_left
      ·rintro w ⟨s1,s2⟩;go_simp;try with_reducible rfl
      (try simp only[Act.put,za,zb,zc])
      refine wpAnyH_ready (rs:=[9]) (by kernel_rfl) (by simp) ?_
      refine AllReadyH.cons (o:=⟨some 59,Op.load 9 (Operand.tmp 58),_,_,_,none⟩) rfl (fun K hK=>?_) AllReadyH.nil
      go_simp
      refine hK.out _ _ hHeld (fun hHeld=>?_)
      clear hK K
      (try simp only[Act.put,za,zb,zc])
      refine tk (i:=11) (oi:=⟨some 61,Op.slice 9 (Operand.tmp 59) (some (Operand.tmp 60)) none none,_,_,_,none⟩) (v:=?_) rfl hHeld ?_ ?_
      rotate_left
      ·rintro w ⟨-,-⟩;go_simp;try with_reducible rfl
      (try simp only[Act.put,za,zb,zc])
      refine tk (i:=12) (oi:=⟨some 62,Op.binOp BinOp.add 9 (Operand.tmp 57) (Operand.tmp 61) 9,_,_,_,none⟩) (v:=?_) rfl hHeld ?_ ?_
      rotate_left
      ·rintro w ⟨-,-⟩;go_simp;try with_reducible rfl
      (try simp only[Act.put,za,zb,zc])
      refine tk (i:=13) (oi:=⟨some 63,Op.fieldAddr 188 (Operand.tmp 5) 0,_,_,_,none⟩) (v:=?_) rfl hHeld ?_ ?_
      rotate_left
      ·rintro w ⟨-,-⟩;go_simp;try with_reducible rfl
      (try simp only[Act.put,za,zb,zc])
      refine wpAnyH_ready (rs:=[14]) (by kernel_rfl) (by simp) ?_
      refine AllReadyH.cons (o:=⟨none,Op.store 9 (Operand.tmp 63) (Operand.tmp 62),_,_,_,none⟩) rfl (fun K hK=>?_) AllReadyH.nil
      go_simp
      refine hK.out _ _ ⟨ya (Or.inr (by decide)) hHeld.1,ya (Or.inl (Ne.symm hne)) hHeld.2⟩ (fun hHeld=>?_)
      clear hK K
      (try simp only[Act.put,za,zb,zc])
      refine wpAnyH_done (by kernel_rfl) ?_ _
      rw[HMS.out];have hgs:=zw wr mb 0 (.string (ofB (jv fates (xl.take (q+1)) xs)));have HG2:Hid (wz.grownBy (wr.setCell ⟨mb,0,none⟩ (.string (ofB (jv fates (xl.take (q+1)) xs)))).drew none):=(show World.grownBy _ _ _ from zk (yd HG.out hgs (fun b hb=>by injection hb with hb;rw[←hb,HMB.out];exact Nat.le_refl _)))
      have HX2:Hid ((wr.setCell ⟨mb,0,none⟩ (.string (ofB (jv fates (xl.take (q+1)) xs)))).drew.heap[mb]? = some (.cells #[.string (ofB (jv fates (xl.take (q+1)) xs)),.slice (some ⟨a,off,none⟩) n c] 188 (0,0))):=(show _=_ from by
       show(wr.setCell ⟨mb,0,none⟩ _).heap[mb]? = _
       simp only[World.setCell,Array.getElem?_modify,HBX.out,if_true,Option.map_some]
       rfl)
      generalize (wr.setCell ⟨mb,0,none⟩ (.string (ofB (jv fates (xl.take (q+1)) xs)))).drew=w7 at *;go_wp2
      exact⟨⟨q+1,by omega,by simp,HG2.out,HX2.out⟩,by simp[intOf];omega⟩
     ·obtain rfl:q=n:=by omega
      have htk:xl.take q=xl:=List.take_of_length_le (by rw[←HNN.out];exact Nat.le_refl _)
      have HSB2:=zd (HSB.out _ hg);rw[htk] at b0;clear hg hbx HBX htk;generalize jv fates xl xs=z at *;have e3:(0:Int)≤(k:Int):=by omega
      have e4:(k:Int)<(m:Int):=by have:=HB4.out;omega
      have hk1:db≠g:=Ne.symm hgd;have hk2:g≠mb:=by have:=HDB.out;omega
      go_upto_region 12 with fail
      go_region_held3 (fun w'=>w'.cell? ⟨db,0,none⟩=some (.slice (some ⟨g,0,none⟩) m cap)∧w'.cell? ⟨mb,0,none⟩=some (.string (ofB z))) (first|assumption|go_keep) (fail)
      go_wp2;refine⟨⟨k+1,by omega,by simp,?_,?_⟩,by simp[intOf];omega⟩
      ·exact R18.kept HSB2.out.1 (zk (zj _))
      ·exact HSB2.out.2.trans (xp (zk (zj _)))
   ·obtain rfl:k=m:=by omega
    go_wp2
    all_goals first|go_end0|refine bodyPost_ret (results_none rfl _ _ _) rfl ?_
    all_goals exact⟨rfl,HRK.out,HT.out⟩
end
end Go.Proofs.YtbcbhlfjgobejaaGreat
