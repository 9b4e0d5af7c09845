/- law19's tells: both stores tell the same: the walk. Conditions: none, or as the theorems say. -/
import Derived.Test.YtbcbhlfjgobejaaGreatJ1
import Derived.Test.YtbcbhlfjgobejaaGreatJ42
set_option linter.unusedSimpArgs false
set_option linter.unusedVariables false
namespace Go.Proofs.YtbcbhlfjgobejaaGreat
set_option maxHeartbeats 200000000
open Go.RowKit Go.Sf Go.Shelf
def zbt (k:Int):List Value:=[.int .i64 k]
theorem zbu (k:Int):(zbt k).length=1:=rfl
theorem zfl:∀l:List Int,l.flatMap zbt=l.map (Value.int .i64)
 | []=>rfl
 | a :: t=>by
  show zbt a++t.flatMap zbt=_
  rw[zfl t]
  rfl
theorem zjn {w w1 w2:World} {r:Option Nat} (h:w.grownBy w1 r) (g:w1.grownBy w2 r):w.grownBy w2 r:=
 ⟨g.os.trans h.os,g.tape.trans h.tape,g.output.trans h.output,Nat.le_trans h.size g.size,fun k hk hn=>(g.block k (Nat.lt_of_lt_of_le hk h.size) hn).trans (h.block k hk hn)⟩
def Ym (w:World) (p:Option Addr) (n:Nat):Prop:=n=0∨∃g,p=some ⟨g,0,none⟩∧(∀i,i<n→∃z,w.cell? ⟨g,i,none⟩=some (.int .u8 z))∧∀i,i<n→w.frozen? ⟨g,i,none⟩=false
theorem Ym.set {w:World} {g n:Nat} (h:Ym w (some ⟨g,0,none⟩) n) (k:Nat) (z:Int):Ym (w.setCell ⟨g,k,none⟩ (.int .u8 z)) (some ⟨g,0,none⟩) n:=by
 rcases h with h|⟨g',e,h1,h2⟩
 ·exact Or.inl h
 ·cases e
  refine Or.inr ⟨g,rfl,fun i hi=>?_,fun i hi=>?_⟩
  ·by_cases hik:i=k
   ·subst hik
    obtain⟨z',hz⟩:=h1 i hi
    exact⟨z,by go_simp⟩
   ·obtain⟨z',hz⟩:=h1 i hi
    exact⟨z',by go_simp⟩
  ·have h3:=h2 i hi
   go_simp
theorem Ym.same {w w':World} {p:Option Addr} {n:Nat} (h:Ym w p n) (hs:∀g,p=some ⟨g,0,none⟩→w'.heap[g]? = w.heap[g]?):Ym w' p n:=by
 rcases h with h|⟨g,e,h1,h2⟩
 ·exact Or.inl h
 ·refine Or.inr ⟨g,e,fun i hi=>?_,fun i hi=>?_⟩
  ·obtain⟨z,hz⟩:=h1 i hi
   exact⟨z,(World.cell?_of_block (a:=⟨g,i,none⟩) (hs g e)).trans hz⟩
  ·rw[←h2 i hi]
   unfold World.frozen?;rw[hs g e]
theorem Zo.spoil {W w:World} {p:Option Addr} {n c:Nat} {l:List Int} (h:Zo W w (.slice p n c) l):Ym w p n∧∀g,(Value.slice p n c).ownBlock=some g→W.heap.size≤g∧g<w.heap.size:=by
 refine⟨?_,fun g hg=>World.ownsRow.lt h g hg⟩
 have hn:n=l.length:=by
  rcases h.2 with ⟨e1,h0⟩|⟨g,cap,cur,e1,_⟩
  ·injection e1 with _ e2 _;omega
  ·injection e1 with _ e2 _
 rcases h.2 with ⟨e1,h0⟩|⟨g,cap,cur,e1,hb,hg,hnc,_⟩
 ·exact Or.inl (by omega)
 ·injection e1 with e2 _ _
  refine Or.inr ⟨g,e2,fun i hi=>?_,fun i hi=>by simp[World.frozen?,hg]⟩
  subst e2;have h1:=World.ownsRow.cells h (g:=g) rfl i (.int .u8 (l[i]'(by omega))) (by simp[zg])
  rw[qe] at h1
  exact⟨_,h1⟩
theorem zm5 {w:World} {B E sz n:Nat} {v:Value} {xs:List Value} (h:w.ownsRow B E sz v n xs):w.ownsRow 0 E sz v n xs:=
 ⟨h.1,h.2.imp id fun ⟨b,c,cur,e,_,h2⟩=>⟨b,c,cur,e,Nat.zero_le _,h2⟩⟩
section
variable {own rsd rss : Nat → Prop} {W : World} {st db sb mb : Nat} {S : Sto} {R : RDk} {L : List (Int × ye)} {next broken : Int}
set_option maxRecDepth 100000 in
theorem zk1 (hS:Ul own W st db S) (hp:ux rsd rss W sb mb R L next broken) (hs:qm S ⟨R,L,next,broken⟩) (hl:L.length≤1000):Calls Tryz.prog 39 #[.pointer (some ⟨st,0,none⟩),.pointer (some ⟨sb,0,none⟩)] W fun e w'=>e = .returned (.bool true)∧W.grownBy w' none:=by
 have HL:=zd hl;have hsrt:=hs.srt;have hnd:=zdm hsrt;simp only at hsrt hnd;obtain⟨fr,hfr⟩:∃fr,fr=qp (uy L) R.blocks.length:=⟨_,rfl⟩;have HNX:Hid (∀w,W.grownBy w none→Calls Tryz.prog 29 #[.pointer (some ⟨st,0,none⟩)] w fun e w'=>e = .returned (.int .i64 next)∧w'=w):=(fun w h=>by
  obtain⟨m,t,rv,rb,hA⟩:=hS.kept h;have:=snext hA;rw[hs.next] at this
  exact this)
 have HBR:Hid (∀w,W.grownBy w none→Calls Tryz.prog 46 #[.pointer (some ⟨st,0,none⟩)] w fun e w'=>e = .returned (.int .i64 broken)∧w'=w):=(fun w h=>by
  obtain⟨m,t,rv,rb,hA⟩:=hS.kept h;have:=Vz hA;rw[hs.broken] at this
  exact this)
 have HFS:Hid (∀w,W.grownBy w none→Calls Tryz.prog 22 #[.pointer (some ⟨st,0,none⟩)] w fun e w'=>e = .returned (.int .i64 (fr.length:Int))∧w'=w):=(fun w h=>by
  obtain⟨m,t,rv,rb,hA⟩:=hS.kept h;have:=sfree hA;rw[hs.freeN] at this;rw[hfr]
  exact this)
 have HFD:Hid (∀w,W.grownBy w none→Calls Tryz.prog 115 #[.pointer (some ⟨sb,0,none⟩)] w fun e w'=>∃v,e = .returned v∧Uc w w' v fr∧w.grownBy w' none):=(fun w h=>by
  rw[hfr];have hb:=fun y hy=>(hs.blk y hy).2.1
  rw[←hs.d.n] at hb
  exact rfree (hp.d.kept h) (hp.s.kept h) hb (fun y hy=>(hs.blk y hy).2.2))
 have HGET:Hid (∀w,W.grownBy w none→∀k,Calls Tryz.prog 21 #[.pointer (some ⟨st,0,none⟩),.int .i64 k] w fun e w'=>w.grownBy w' none∧∃v,e = .returned (.tuple #[v,.bool (zx L k).isSome])∧((zx L k=none∧v = .slice none 0 0)∨∃r,zx L k=some r∧Zo w w' v r.1)):=(fun w h k=>by
  obtain⟨m,t,rv,rb,hA⟩:=hS.kept h;have:=sget hA k;rw[hs.L] at this
  exact this)
 have HNUM:Hid (Calls Tryz.prog 26 #[.pointer (some ⟨st,0,none⟩)] W fun e w'=>W.grownBy w' none∧∃v,e = .returned v∧w'.ownsRow W.heap.size 2 1 v L.length ((L.map (·.1)).flatMap zbt)):=(by
  obtain⟨m,t,rv,rb,hA⟩:=hS;have:=zm3 hA (fun r hr=>by
   rw[hs.L] at hr;have h1:=hs.key r hr;have h2:=hs.n1;simp only at h1 h2;omega) (by rw[hs.L];show L.length≤_;omega)
  rw[hs.L] at this;simp only at this;rw[List.mergeSort_of_pairwise (by
   rw[List.pairwise_map]
   exact hsrt.imp fun {a b} h=>by simp;omega)] at this
  have e:((L.map (·.1)).flatMap zbt)=(L.map (·.1)).map (Value.int .i64):=by
   exact zfl _
  rw[e]
  exact this)
 have HGK:Hid (∀y∈L,zx L y.1=some y.2):=(fun y hy=>Zi hnd hy)
 have HGN:Hid (zx L next=none):=(show _=_ from Jq (fun y hy=>by have:=hs.key y hy;simp only at this;omega))
 have HBY:Hid (∀y∈L,y.2.1.length≤9223372036854775807):=(fun y hy=>by
  obtain⟨m,t,rv,rb,hA⟩:=hS;have:=(hA.ok.bytes y (by rw[hs.L];exact hy)).2
  omega)
 obtain⟨lv,ms,hA⟩:=hp.s;have HM:Hid (ms.length=L.length):=(show _=_ from hA.ok.len)
 have HROW:=zd hA.row;have HOK:=zd hA.ok;obtain⟨c0,c1,c2,c3,y⟩:=hA.cells;have hsl:=hA.lt sb hA.rsb;obtain⟨p,cap,hlv,hcm,hlc⟩:=hA.row.form;subst hlv;have HNM:Hid (ms.length=ms.length):=(show _=_ from rfl)
 generalize hN:ms.length=N at *;have HN:=zd hN;rw[←HM.out] at HNUM;have hN1:N≤1000:=by have:=HM.out;omega
 clear hS hp hs hA hfr hsrt hnd hN hl HNM
 go_enter Tryz.func39,Tryz.ntmps39
 go_upto_region 2 with (go_at_call 26;refine HNUM.out.mono ?_;rintro e w1 ⟨hg1,v,rfl,hrow⟩;have HG1:=zd hg1;have HNR:=zd hrow;clear hg1 hrow HNUM)
 have hvl:∀g,v.ownBlock=some g→W.heap.size≤g∧g<w1.heap.size:=fun g hg=>World.ownsRow.lt HNR.out g hg
 have HVL:=zd hvl;have hr0:yo w1 2 1 zbt v (L.map (·.1)):=(show World.ownsRow _ _ _ _ _ _ _ from by rw[List.length_map,←HM.out];exact zm5 HNR.out)
 obtain⟨pl,cl,hv,-,-⟩:=hr0.form;rw[List.length_map,←HM.out] at hv;subst hv;have HR0:=zd hr0;clear hvl hr0 HNR;have hk1:w1.cell? ⟨sb,1,none⟩=some (.slice p N cap)∧w1.cell? ⟨sb,2,none⟩=some (.int .i64 next)∧w1.cell? ⟨sb,3,none⟩=some (.int .i64 broken):=⟨HG1.out.cell c1 (by simp),HG1.out.cell c2 (by simp),HG1.out.cell c3 (by simp)⟩
 have hg2:W.grownBy w1.drew none:=zk HG1.out;refine wp_region_held_drew (S:=fun w':World=>w'.cell? ⟨sb,1,none⟩=some (.slice p N cap)∧w'.cell? ⟨sb,2,none⟩=some (.int .i64 next)∧w'.cell? ⟨sb,3,none⟩=some (.int .i64 broken)) (by kernel_rfl) hk1 (fun hHeld=>?_)
 refine tk (i:=0) (oi:=⟨some 15,Op.move (Operand.tmp 5),_,_,_,none⟩) (v:=?_) rfl hHeld ?_ ?_;rotate_left
 ·rintro w ⟨s1,s2,s3⟩;go_simp;try with_reducible rfl
 (try simp only[Act.put,za,zb,zc])
 refine tk (i:=1) (oi:=⟨some 16,Op.call { callee:=Callee.builtin Builtin.len,args:=#[Operand.tmp 15],argTypes:=#[40] },_,_,_,none⟩) (v:=?_) rfl hHeld ?_ ?_;rotate_left
 ·rintro w ⟨s1,s2,s3⟩;go_simp;try with_reducible rfl
 (try simp only[Act.put,za,zb,zc])
 refine tk (i:=2) (oi:=⟨some 17,Op.move (Operand.tmp 1),_,_,_,none⟩) (v:=?_) rfl hHeld ?_ ?_;rotate_left
 ·rintro w ⟨s1,s2,s3⟩;go_simp;try with_reducible rfl
 (try simp only[Act.put,za,zb,zc])
 refine tk (i:=3) (oi:=⟨some 18,Op.nilCheck (Operand.tmp 17),_,_,_,none⟩) (v:=?_) rfl hHeld ?_ ?_;rotate_left
 ·rintro w ⟨s1,s2,s3⟩;go_simp;try with_reducible rfl
 (try simp only[Act.put,za,zb,zc])
 refine tk (i:=4) (oi:=⟨some 19,Op.fieldAddr 193 (Operand.tmp 18) 1,_,_,_,none⟩) (v:=?_) rfl hHeld ?_ ?_;rotate_left
 ·rintro w ⟨s1,s2,s3⟩;go_simp;try with_reducible rfl
 (try simp only[Act.put,za,zb,zc])
 refine tk (i:=5) (oi:=⟨some 20,Op.load 191 (Operand.tmp 19),_,_,_,none⟩) (v:=?_) rfl hHeld ?_ ?_;rotate_left
 ·rintro w ⟨s1,s2,s3⟩;go_simp;try with_reducible rfl
 (try simp only[Act.put,za,zb,zc])
 refine tk (i:=6) (oi:=⟨some 21,Op.call { callee:=Callee.builtin Builtin.len,args:=#[Operand.tmp 20],argTypes:=#[191] },_,_,_,none⟩) (v:=?_) rfl hHeld ?_ ?_;rotate_left
 ·rintro w ⟨s1,s2,s3⟩;go_simp;try with_reducible rfl
 (try simp only[Act.put,za,zb,zc])
 refine tk (i:=7) (oi:=⟨some 22,Op.binOp BinOp.neq 3 (Operand.tmp 16) (Operand.tmp 21) 3,_,_,_,none⟩) (v:=?_) rfl hHeld ?_ ?_;rotate_left
 ·rintro w ⟨s1,s2,s3⟩;go_simp;try with_reducible rfl
 (try simp only[Act.put,za,zb,zc])
 refine tk (i:=8) (oi:=⟨some 23,Op.move (Operand.tmp 22),_,_,_,none⟩) (v:=?_) rfl hHeld ?_ ?_;rotate_left
 ·rintro w ⟨s1,s2,s3⟩;go_simp;try with_reducible rfl
 (try simp only[Act.put,za,zb,zc])
 refine tk (i:=9) (oi:=⟨some 24,Op.move (Operand.tmp 0),_,_,_,some (8,false)⟩) (v:=?_) rfl hHeld ?_ ?_;rotate_left
 ·rintro w ⟨s1,s2,s3⟩;go_simp;try with_reducible rfl
 (try simp only[Act.put,za,zb,zc])
 refine tk (i:=11) (oi:=⟨some 26,Op.move (Operand.tmp 1),_,_,_,some (8,false)⟩) (v:=?_) rfl hHeld ?_ ?_;rotate_left
 ·rintro w ⟨s1,s2,s3⟩;go_simp;try with_reducible rfl
 (try simp only[Act.put,za,zb,zc])
 refine tk (i:=12) (oi:=⟨some 27,Op.nilCheck (Operand.tmp 26),_,_,_,some (8,false)⟩) (v:=?_) rfl hHeld ?_ ?_;rotate_left
 ·rintro w ⟨s1,s2,s3⟩;go_simp;try with_reducible rfl
 (try simp only[Act.put,za,zb,zc])
 refine tk (i:=13) (oi:=⟨some 28,Op.fieldAddr 193 (Operand.tmp 27) 2,_,_,_,some (8,false)⟩) (v:=?_) rfl hHeld ?_ ?_;rotate_left
 ·rintro w ⟨s1,s2,s3⟩;go_simp;try with_reducible rfl
 (try simp only[Act.put,za,zb,zc])
 refine tk (i:=14) (oi:=⟨some 29,Op.load 2 (Operand.tmp 28),_,_,_,some (8,false)⟩) (v:=?_) rfl hHeld ?_ ?_;rotate_left
 ·rintro w ⟨s1,s2,s3⟩;go_simp;try with_reducible rfl
 (try simp only[Act.put,za,zb,zc])
 refine wpAnyH_ready (rs:=[10]) (by kernel_rfl) (by simp) ?_
 refine AllReadyH.cons (o:=⟨some 25,Op.call { callee:=Callee.value (Operand.func 29),args:=#[Operand.tmp 24],argTypes:=#[24] },_,_,_,some (8,false)⟩) rfl (fun K hK=>?_) AllReadyH.nil
 go_simp
 go_at_call 29
 refine(HNX.out _ hg2).mono ?_;rintro e w2 ⟨rfl,h2⟩;obtain rfl:w2=w1.drew:=h2;refine hK.out _ _ hk1 (fun hHeld=>?_)
 clear hK K
 (try simp only[Act.put,za,zb,zc])
 refine tk (i:=15) (oi:=⟨some 30,Op.binOp BinOp.neq 2 (Operand.tmp 25) (Operand.tmp 29) 2,_,_,_,some (8,false)⟩) (v:=?_) rfl hHeld ?_ ?_;rotate_left
 ·rintro w ⟨s1,s2,s3⟩;go_simp;try with_reducible rfl
 (try simp only[Act.put,za,zb,zc])
 refine tk (i:=16) (oi:=⟨some 31,Op.pick (Operand.tmp 23) (Operand.const (Value.bool true)) (Operand.tmp 30),_,_,_,none⟩) (v:=?_) rfl hHeld ?_ ?_;rotate_left
 ·rintro w ⟨s1,s2,s3⟩;go_simp;try with_reducible rfl
 (try simp only[Act.put,za,zb,zc])
 refine tk (i:=17) (oi:=⟨some 32,Op.move (Operand.tmp 31),_,_,_,none⟩) (v:=?_) rfl hHeld ?_ ?_;rotate_left
 ·rintro w ⟨s1,s2,s3⟩;go_simp;try with_reducible rfl
 (try simp only[Act.put,za,zb,zc])
 refine tk (i:=18) (oi:=⟨some 33,Op.move (Operand.tmp 0),_,_,_,some (17,false)⟩) (v:=?_) rfl hHeld ?_ ?_;rotate_left
 ·rintro w ⟨s1,s2,s3⟩;go_simp;try with_reducible rfl
 (try simp only[Act.put,za,zb,zc])
 refine tk (i:=20) (oi:=⟨some 35,Op.move (Operand.tmp 1),_,_,_,some (17,false)⟩) (v:=?_) rfl hHeld ?_ ?_;rotate_left
 ·rintro w ⟨s1,s2,s3⟩;go_simp;try with_reducible rfl
 (try simp only[Act.put,za,zb,zc])
 refine wpAnyH_ready (rs:=[19]) (by kernel_rfl) (by simp) ?_
 refine AllReadyH.cons (o:=⟨some 34,Op.call { callee:=Callee.value (Operand.func 22),args:=#[Operand.tmp 33],argTypes:=#[24] },_,_,_,some (17,false)⟩) rfl (fun K hK=>?_) AllReadyH.nil
 go_simp
 go_at_call 22
 refine(HFS.out _ hg2).mono ?_;rintro e w3 ⟨rfl,h3⟩;obtain rfl:w3=w1.drew:=h3;refine hK.out _ _ hk1 (fun hHeld=>?_)
 clear hK K
 (try simp only[Act.put,za,zb,zc])
 refine wpAnyH_ready (rs:=[21]) (by kernel_rfl) (by simp) ?_
 refine AllReadyH.cons (o:=⟨some 36,Op.call { callee:=Callee.value (Operand.func 115),args:=#[Operand.tmp 35],argTypes:=#[62] },_,_,_,some (17,false)⟩) rfl (fun K hK=>?_) AllReadyH.nil
 go_simp
 go_at_call 115
 refine(HFD.out _ hg2).mono ?_;rintro e w4 ⟨v4,rfl,hv4,hg4⟩;obtain⟨p4,c4,hv,-,-⟩:=hv4.1.form;subst hv;have hk4:w4.cell? ⟨sb,1,none⟩=some (.slice p N cap)∧w4.cell? ⟨sb,2,none⟩=some (.int .i64 next)∧w4.cell? ⟨sb,3,none⟩=some (.int .i64 broken):=⟨hg4.cell hk1.1 (by simp),hg4.cell hk1.2.1 (by simp),hg4.cell hk1.2.2 (by simp)⟩
 have HG4a:=zd hg4;clear hg4 hv4;refine hK.out _ _ hk4 (fun hHeld=>?_)
 clear hK K
 (try simp only[Act.put,za,zb,zc])
 refine tk (i:=22) (oi:=⟨some 37,Op.call { callee:=Callee.builtin Builtin.len,args:=#[Operand.tmp 36],argTypes:=#[44] },_,_,_,some (17,false)⟩) (v:=?_) rfl hHeld ?_ ?_;rotate_left
 ·rintro w ⟨s1,s2,s3⟩;go_simp;try with_reducible rfl
 (try simp only[Act.put,za,zb,zc])
 refine tk (i:=23) (oi:=⟨some 38,Op.binOp BinOp.neq 3 (Operand.tmp 34) (Operand.tmp 37) 3,_,_,_,some (17,false)⟩) (v:=?_) rfl hHeld ?_ ?_;rotate_left
 ·rintro w ⟨s1,s2,s3⟩;go_simp;try with_reducible rfl
 (try simp only[Act.put,za,zb,zc])
 refine tk (i:=24) (oi:=⟨some 39,Op.pick (Operand.tmp 32) (Operand.const (Value.bool true)) (Operand.tmp 38),_,_,_,none⟩) (v:=?_) rfl hHeld ?_ ?_;rotate_left
 ·rintro w ⟨s1,s2,s3⟩;go_simp;try with_reducible rfl
 (try simp only[Act.put,za,zb,zc])
 refine tk (i:=25) (oi:=⟨some 40,Op.move (Operand.tmp 39),_,_,_,none⟩) (v:=?_) rfl hHeld ?_ ?_;rotate_left
 ·rintro w ⟨s1,s2,s3⟩;go_simp;try with_reducible rfl
 (try simp only[Act.put,za,zb,zc])
 refine tk (i:=26) (oi:=⟨some 41,Op.move (Operand.tmp 0),_,_,_,some (25,false)⟩) (v:=?_) rfl hHeld ?_ ?_;rotate_left
 ·rintro w ⟨s1,s2,s3⟩;go_simp;try with_reducible rfl
 (try simp only[Act.put,za,zb,zc])
 refine tk (i:=28) (oi:=⟨some 43,Op.move (Operand.tmp 1),_,_,_,some (25,false)⟩) (v:=?_) rfl hHeld ?_ ?_;rotate_left
 ·rintro w ⟨s1,s2,s3⟩;go_simp;try with_reducible rfl
 (try simp only[Act.put,za,zb,zc])
 refine tk (i:=29) (oi:=⟨some 44,Op.nilCheck (Operand.tmp 43),_,_,_,some (25,false)⟩) (v:=?_) rfl hHeld ?_ ?_;rotate_left
 ·rintro w ⟨s1,s2,s3⟩;go_simp;try with_reducible rfl
 (try simp only[Act.put,za,zb,zc])
 refine tk (i:=30) (oi:=⟨some 45,Op.fieldAddr 193 (Operand.tmp 44) 3,_,_,_,some (25,false)⟩) (v:=?_) rfl hHeld ?_ ?_;rotate_left
 ·rintro w ⟨s1,s2,s3⟩;go_simp;try with_reducible rfl
 (try simp only[Act.put,za,zb,zc])
 refine tk (i:=31) (oi:=⟨some 46,Op.load 25 (Operand.tmp 45),_,_,_,some (25,false)⟩) (v:=?_) rfl hHeld ?_ ?_;rotate_left
 ·rintro w ⟨s1,s2,s3⟩;go_simp;try with_reducible rfl
 (try simp only[Act.put,za,zb,zc])
 refine wpAnyH_ready (rs:=[27]) (by kernel_rfl) (by simp) ?_
 refine AllReadyH.cons (o:=⟨some 42,Op.call { callee:=Callee.value (Operand.func 46),args:=#[Operand.tmp 41],argTypes:=#[24] },_,_,_,some (25,false)⟩) rfl (fun K hK=>?_) AllReadyH.nil
 go_simp
 go_at_call 46
 refine(HBR.out _ (zh hg2 HG4a.out)).mono ?_;rintro e w6 ⟨rfl,h6⟩;obtain rfl:w4=w6:=h6.symm;refine hK.out _ _ hk4 (fun hHeld=>?_)
 clear hK K
 (try simp only[Act.put,za,zb,zc])
 refine tk (i:=32) (oi:=⟨some 47,Op.binOp BinOp.neq 25 (Operand.tmp 42) (Operand.tmp 46) 25,_,_,_,some (25,false)⟩) (v:=?_) rfl hHeld ?_ ?_;rotate_left
 ·rintro w ⟨s1,s2,s3⟩;go_simp;try with_reducible rfl
 (try simp only[Act.put,za,zb,zc])
 refine tk (i:=33) (oi:=⟨some 48,Op.pick (Operand.tmp 40) (Operand.const (Value.bool true)) (Operand.tmp 47),_,_,_,none⟩) (v:=?_) rfl hHeld ?_ ?_;rotate_left
 ·rintro w ⟨s1,s2,s3⟩;go_simp;try with_reducible rfl
 (try simp only[Act.put,za,zb,zc])
 refine wpAnyH_done (by kernel_rfl) ?_ _
 clear hHeld hk1 hk4;have HG4:=zd (zh hg2 HG4a.out);have HR4:=zd (yo.grown (W':=w4) HR0.out (zh (zk (zj _)) HG4a.out) (by simp))
 clear hg2 HG4a HG1 HR0
 go_upto_region 5 with fail
 go_loopw [6] (fun t wr=>∃(tn:Nat) (xs:List Int),tn≤2∧t = .int .i64 (tn:Int)∧W.grownBy wr none∧yo wr 2 1 zbt (.slice pl N cl) xs∧xs.length=N∧(tn=0→xs=L.map (·.1))) (fun t _=>2-(intOf t).toNat)
 case atStart=>exact⟨0,_,by omega,rfl,HG4.out,HR4.out,by rw[List.length_map,←HM.out],fun _=>rfl⟩
 case round=>
  clear HG4 HR4;obtain⟨tn,xs,htn,rfl,hg,hrw,hxl,hx0⟩:=hrel;have HG:=zd hg;have HRW:=zd hrw;have HXL:=zd hxl;have HX0:=zd hx0;clear hg hrw hxl hx0
  by_cases ht2:tn<2
  ·go_upto_region 8 with fail
   go_loopw [7] (fun i w=>∃(j:Nat) (xs:List Int),j≤N∧i = .int .i64 (j:Int)∧W.grownBy w none∧yo w 2 1 zbt (.slice pl N cl) xs∧xs.length=N∧(tn=0→∀q,j≤q→xs[q]? = (L.map (·.1))[q]?)) (fun i _=>N-(intOf i).toNat)
   case atStart=>exact⟨0,xs,by omega,rfl,HG.out,HRW.out,HXL.out,fun h0 q _=>by rw[HX0.out h0]⟩
   case round=>
    clear HG HRW HXL HX0 xs;obtain⟨j,xs,hj,rfl,hg,hrw,hxl,hx0⟩:=hrel;have HG:=zd hg;have HRW:=zd hrw;have HXL:=zd hxl;have HX0:=zd hx0;clear hg hrw hxl hx0
    by_cases hjN:j<N
    ·have hjm:j<ms.length:=by rw[HN.out];exact hjN
     have hjL:j<L.length:=by rw[←HM.out];exact hjN
     have hxo:=HOK.out.get j hjm hjL;obtain⟨g,hgp,x0,x1⟩:∃g,p=some ⟨g,0,none⟩∧W.cell? ⟨g,j*3,none⟩=some (.int .i64 ms[j].k)∧W.cell? ⟨g,j*3+1,none⟩=some (.string (ofB ms[j].b)):=by
      rcases yo.at uv HROW.out with e0|⟨g,c,e,hc,_⟩
      ·rw[e0] at hjm;simp at hjm
      ·injection e with e1
       exact⟨g,e1,hc j hjm 0 _ rfl,hc j hjm 1 _ rfl⟩
     subst hgp;rw[hxo.1] at x0;rw[hxo.2.1] at x1;obtain⟨gl,hgl,xl⟩:∃gl,pl=some ⟨gl,0,none⟩∧wr.cell? ⟨gl,j,none⟩=some (.int .i64 (xs.getD j 0)):=by
      rcases yo.at zbu HRW.out with e0|⟨g',c',e,hc,_⟩
      ·have:=HXL.out;rw[e0] at this;simp at this;omega
      ·injection e with e1
       have hjx:j<xs.length:=by rw[HXL.out];exact hjN
       have h1:=hc j hjx 0 _ rfl;rw[Nat.mul_one,Nat.add_zero] at h1;refine⟨g',e1,?_⟩;rw[h1,List.getD_eq_getElem?_getD,List.getElem?_eq_getElem hjx]
       rfl
     subst hgl;have HXJ:Hid (tn=0→xs.getD j 0=L[j].1):=(fun h0=>by
      rw[List.getD_eq_getElem?_getD,HX0.out h0 j (Nat.le_refl _),List.getElem?_map,List.getElem?_eq_getElem hjL]
      rfl)
     have HGJ:=zd (HGK.out _ (List.getElem_mem hjL));have HBJ:=zd (HBY.out _ (List.getElem_mem hjL));clear hxo;generalize xs.getD j 0=xj at *;generalize L[j]=yq at *;obtain⟨yk,yb,yp⟩:=yq;simp only at x0 x1;have e1:=HG.out.cell c1 (by simp)
     have e2:=HG.out.cell x0 (by simp)
     have e3:=HG.out.cell x1 (by simp)
     have HCE:Hid (∀w',wr.grownBy w' none→w'.cell? ⟨sb,1,none⟩=some (.slice (some ⟨g,0,none⟩) N cap)∧w'.cell? ⟨g,j*3,none⟩=some (.int .i64 yk)∧w'.cell? ⟨g,j*3+1,none⟩=some (.string (ofB yb))∧w'.cell? ⟨gl,j,none⟩=some (.int .i64 xj)):=(fun w' h=>⟨h.cell e1 (by simp),h.cell e2 (by simp),h.cell e3 (by simp),h.cell xl (by simp)⟩)
     have hlg:=xo e2;have HGT:Hid (Calls Tryz.prog 21 #[.pointer (some ⟨st,0,none⟩),.int .i64 yk] wr fun e w'=>wr.grownBy w' none∧∃v,e = .returned (.tuple #[v,.bool true])∧Zo wr w' v yb):=((HGET.out wr HG.out yk).mono fun e w' ⟨h1,v,h2,h3⟩=>by
      have hgj:zx L yk=some (yb,yp):=HGJ.out;rw[hgj] at h2 h3;refine⟨h1,v,h2,?_⟩
      rcases h3 with ⟨h4,_⟩|⟨r,h4,h5⟩
      ·cases h4
      ·cases h4;exact h5)
     go_upto_region 11 with (go_at_call 21;refine HGT.out.mono ?_;rintro e w5 ⟨hg5,v5,rfl,hv5⟩;have HG5:=zd hg5;have HV5:=zd hv5;clear hg5 hv5)
     obtain⟨p5,c5,hv5,-,-⟩:∃p5 c5,v5 = .slice p5 yb.length c5∧True∧True:=by
      rcases HV5.out.2 with ⟨h1,h2⟩|⟨g',c',cur,h1,_⟩
      ·exact⟨none,0,by rw[h1,h2],trivial,trivial⟩
      ·exact⟨_,_,h1,trivial,trivial⟩
     subst hv5;have hcv:=Uu (Zo.rowP (W:=wr) (w:=w5) HV5.out HBJ.out);obtain⟨q1,q2,q3,q4⟩:=HCE.out w5 HG5.out;have hl1:=xo q2;have hl2:=xo q4;have hcvd:(convert 32 9 (.slice p5 yb.length c5)).run Tryz.prog w5.drew = .ok (.string (ofB yb)) w5.drew:=Uu (Zo.rowP (W:=wr) (w:=w5.drew) HV5.out HBJ.out);clear e1 e2 e3 xl x0 x1 hcv
     go_cut [105] from 72 to 105 (fun cnd wx=>cnd = .bool false∧wx=w5.drew)
     case first=>
      rcases Nat.eq_zero_or_pos tn with h0|h0
      ·subst h0
       have hxk:=HXJ.out rfl;subst hxk;refine wp_region_held_drew (S:=fun w':World=>w'=w5.drew) (by kernel_rfl) rfl (fun hHeld=>?_)
       refine tk (i:=0) (oi:=⟨some 72,Op.move (Operand.tmp 6),_,_,_,none⟩) (v:=?_) rfl hHeld ?_ ?_;rotate_left
       ·rintro w rfl;go_simp;try with_reducible rfl
       (try simp only[Act.put,za,zb,zc])
       refine tk (i:=1) (oi:=⟨some 73,Op.binOp BinOp.eql 3 (Operand.tmp 72) (Operand.const (Value.int IntKind.i64 0)) 3,_,_,_,none⟩) (v:=?_) rfl hHeld ?_ ?_;rotate_left
       ·rintro w rfl;go_simp;try with_reducible rfl
       (try simp only[Act.put,za,zb,zc])
       refine tk (i:=2) (oi:=⟨some 74,Op.move (Operand.tmp 73),_,_,_,none⟩) (v:=?_) rfl hHeld ?_ ?_;rotate_left
       ·rintro w rfl;go_simp;try with_reducible rfl
       (try simp only[Act.put,za,zb,zc])
       refine tk (i:=3) (oi:=⟨some 75,Op.move (Operand.tmp 5),_,_,_,some (2,true)⟩) (v:=?_) rfl hHeld ?_ ?_;rotate_left
       ·rintro w rfl;go_simp;try with_reducible rfl
       (try simp only[Act.put,za,zb,zc])
       refine tk (i:=4) (oi:=⟨some 76,Op.move (Operand.tmp 7),_,_,_,some (2,true)⟩) (v:=?_) rfl hHeld ?_ ?_;rotate_left
       ·rintro w rfl;go_simp;try with_reducible rfl
       (try simp only[Act.put,za,zb,zc])
       refine tk (i:=5) (oi:=⟨some 77,Op.indexAddr 40 (Operand.tmp 75) (Operand.tmp 76),_,_,_,some (2,true)⟩) (v:=?_) rfl hHeld ?_ ?_;rotate_left
       ·rintro w rfl;go_simp;try with_reducible rfl
       (try simp only[Act.put,za,zb,zc])
       refine tk (i:=6) (oi:=⟨some 78,Op.load 2 (Operand.tmp 77),_,_,_,some (2,true)⟩) (v:=?_) rfl hHeld ?_ ?_;rotate_left
       ·rintro w rfl;go_simp;try with_reducible rfl
       (try simp only[Act.put,za,zb,zc])
       refine tk (i:=7) (oi:=⟨some 79,Op.move (Operand.tmp 1),_,_,_,some (2,true)⟩) (v:=?_) rfl hHeld ?_ ?_;rotate_left
       ·rintro w rfl;go_simp;try with_reducible rfl
       (try simp only[Act.put,za,zb,zc])
       refine tk (i:=8) (oi:=⟨some 80,Op.nilCheck (Operand.tmp 79),_,_,_,some (2,true)⟩) (v:=?_) rfl hHeld ?_ ?_;rotate_left
       ·rintro w rfl;go_simp;try with_reducible rfl
       (try simp only[Act.put,za,zb,zc])
       refine tk (i:=9) (oi:=⟨some 81,Op.fieldAddr 193 (Operand.tmp 80) 1,_,_,_,some (2,true)⟩) (v:=?_) rfl hHeld ?_ ?_;rotate_left
       ·rintro w rfl;go_simp;try with_reducible rfl
       (try simp only[Act.put,za,zb,zc])
       refine tk (i:=10) (oi:=⟨some 82,Op.load 191 (Operand.tmp 81),_,_,_,some (2,true)⟩) (v:=?_) rfl hHeld ?_ ?_;rotate_left
       ·rintro w rfl;go_simp;try with_reducible rfl
       (try simp only[Act.put,za,zb,zc])
       refine tk (i:=11) (oi:=⟨some 83,Op.move (Operand.tmp 7),_,_,_,some (2,true)⟩) (v:=?_) rfl hHeld ?_ ?_;rotate_left
       ·rintro w rfl;go_simp;try with_reducible rfl
       (try simp only[Act.put,za,zb,zc])
       refine tk (i:=12) (oi:=⟨some 84,Op.indexAddr 191 (Operand.tmp 82) (Operand.tmp 83),_,_,_,some (2,true)⟩) (v:=?_) rfl hHeld ?_ ?_;rotate_left
       ·rintro w rfl;go_simp;try with_reducible rfl
       (try simp only[Act.put,za,zb,zc])
       refine tk (i:=13) (oi:=⟨some 85,Op.fieldAddr 198 (Operand.tmp 84) 0,_,_,_,some (2,true)⟩) (v:=?_) rfl hHeld ?_ ?_;rotate_left
       ·rintro w rfl;go_simp;try with_reducible rfl
       (try simp only[Act.put,za,zb,zc])
       refine tk (i:=14) (oi:=⟨some 86,Op.load 2 (Operand.tmp 85),_,_,_,some (2,true)⟩) (v:=?_) rfl hHeld ?_ ?_;rotate_left
       ·rintro w rfl;go_simp;try with_reducible rfl
       (try simp only[Act.put,za,zb,zc])
       refine tk (i:=15) (oi:=⟨some 87,Op.binOp BinOp.neq 2 (Operand.tmp 78) (Operand.tmp 86) 2,_,_,_,some (2,true)⟩) (v:=?_) rfl hHeld ?_ ?_;rotate_left
       ·rintro w rfl;go_simp;try with_reducible rfl
       (try simp only[Act.put,za,zb,zc])
       refine tk (i:=16) (oi:=⟨some 88,Op.pick (Operand.tmp 74) (Operand.tmp 87) (Operand.const (Value.bool false)),_,_,_,none⟩) (v:=?_) rfl hHeld ?_ ?_;rotate_left
       ·rintro w rfl;go_simp;try with_reducible rfl
       (try simp only[Act.put,za,zb,zc])
       refine tk (i:=17) (oi:=⟨some 89,Op.move (Operand.tmp 88),_,_,_,none⟩) (v:=?_) rfl hHeld ?_ ?_;rotate_left
       ·rintro w rfl;go_simp;try with_reducible rfl
       (try simp only[Act.put,za,zb,zc])
       refine tk (i:=18) (oi:=⟨some 90,Op.move (Operand.tmp 9),_,_,_,some (17,false)⟩) (v:=?_) rfl hHeld ?_ ?_;rotate_left
       ·rintro w rfl;go_simp;try with_reducible rfl
       (try simp only[Act.put,za,zb,zc])
       refine tk (i:=19) (oi:=⟨some 91,Op.unOp UnOp.not 4 (Operand.tmp 90),_,_,_,some (17,false)⟩) (v:=?_) rfl hHeld ?_ ?_;rotate_left
       ·rintro w rfl;go_simp;try with_reducible rfl
       (try simp only[Act.put,za,zb,zc])
       refine tk (i:=20) (oi:=⟨some 92,Op.pick (Operand.tmp 89) (Operand.const (Value.bool true)) (Operand.tmp 91),_,_,_,none⟩) (v:=?_) rfl hHeld ?_ ?_;rotate_left
       ·rintro w rfl;go_simp;try with_reducible rfl
       (try simp only[Act.put,za,zb,zc])
       refine tk (i:=21) (oi:=⟨some 93,Op.move (Operand.tmp 92),_,_,_,none⟩) (v:=?_) rfl hHeld ?_ ?_;rotate_left
       ·rintro w rfl;go_simp;try with_reducible rfl
       (try simp only[Act.put,za,zb,zc])
       refine tk (i:=22) (oi:=⟨some 94,Op.move (Operand.tmp 8),_,_,_,some (21,false)⟩) (v:=?_) rfl hHeld ?_ ?_;rotate_left
       ·rintro w rfl;go_simp;try with_reducible rfl
       (try simp only[Act.put,za,zb,zc])
       refine tk (i:=23) (oi:=⟨some 95,Op.convert 32 9 (Operand.tmp 94),_,_,_,some (21,false)⟩) (v:=?_) rfl hHeld ?_ ?_;rotate_left
       ·rintro w rfl;go_simp;try with_reducible rfl
       (try simp only[Act.put,za,zb,zc])
       refine tk (i:=24) (oi:=⟨some 96,Op.move (Operand.tmp 1),_,_,_,some (21,false)⟩) (v:=?_) rfl hHeld ?_ ?_;rotate_left
       ·rintro w rfl;go_simp;try with_reducible rfl
       (try simp only[Act.put,za,zb,zc])
       refine tk (i:=25) (oi:=⟨some 97,Op.nilCheck (Operand.tmp 96),_,_,_,some (21,false)⟩) (v:=?_) rfl hHeld ?_ ?_;rotate_left
       ·rintro w rfl;go_simp;try with_reducible rfl
       (try simp only[Act.put,za,zb,zc])
       refine tk (i:=26) (oi:=⟨some 98,Op.fieldAddr 193 (Operand.tmp 97) 1,_,_,_,some (21,false)⟩) (v:=?_) rfl hHeld ?_ ?_;rotate_left
       ·rintro w rfl;go_simp;try with_reducible rfl
       (try simp only[Act.put,za,zb,zc])
       refine tk (i:=27) (oi:=⟨some 99,Op.load 191 (Operand.tmp 98),_,_,_,some (21,false)⟩) (v:=?_) rfl hHeld ?_ ?_;rotate_left
       ·rintro w rfl;go_simp;try with_reducible rfl
       (try simp only[Act.put,za,zb,zc])
       refine tk (i:=28) (oi:=⟨some 100,Op.move (Operand.tmp 7),_,_,_,some (21,false)⟩) (v:=?_) rfl hHeld ?_ ?_;rotate_left
       ·rintro w rfl;go_simp;try with_reducible rfl
       (try simp only[Act.put,za,zb,zc])
       refine tk (i:=29) (oi:=⟨some 101,Op.indexAddr 191 (Operand.tmp 99) (Operand.tmp 100),_,_,_,some (21,false)⟩) (v:=?_) rfl hHeld ?_ ?_;rotate_left
       ·rintro w rfl;go_simp;try with_reducible rfl
       (try simp only[Act.put,za,zb,zc])
       refine tk (i:=30) (oi:=⟨some 102,Op.fieldAddr 198 (Operand.tmp 101) 1,_,_,_,some (21,false)⟩) (v:=?_) rfl hHeld ?_ ?_;rotate_left
       ·rintro w rfl;go_simp;try with_reducible rfl
       (try simp only[Act.put,za,zb,zc])
       refine tk (i:=31) (oi:=⟨some 103,Op.load 9 (Operand.tmp 102),_,_,_,some (21,false)⟩) (v:=?_) rfl hHeld ?_ ?_;rotate_left
       ·rintro w rfl;go_simp;try with_reducible rfl
       (try simp only[Act.put,za,zb,zc])
       refine tk (i:=32) (oi:=⟨some 104,Op.binOp BinOp.neq 9 (Operand.tmp 95) (Operand.tmp 103) 9,_,_,_,some (21,false)⟩) (v:=?_) rfl hHeld ?_ ?_;rotate_left
       ·rintro w rfl;go_simp;try with_reducible rfl
       (try simp only[Act.put,za,zb,zc])
       refine tk (i:=33) (oi:=⟨some 105,Op.pick (Operand.tmp 93) (Operand.const (Value.bool true)) (Operand.tmp 104),_,_,_,none⟩) (v:=?_) rfl hHeld ?_ ?_;rotate_left
       ·rintro w rfl;go_simp;try with_reducible rfl
       (try simp only[Act.put,za,zb,zc])
       refine wpAnyH_done (by kernel_rfl) ?_ _
       go_wp2_with fail
       go_meet
       case rel=>exact⟨rfl,rfl⟩
      ·obtain rfl:tn=1:=by omega
       refine wp_region_held_drew (S:=fun w':World=>w'=w5.drew) (by kernel_rfl) rfl (fun hHeld=>?_)
       refine tk (i:=0) (oi:=⟨some 72,Op.move (Operand.tmp 6),_,_,_,none⟩) (v:=?_) rfl hHeld ?_ ?_;rotate_left
       ·rintro w rfl;go_simp;try with_reducible rfl
       (try simp only[Act.put,za,zb,zc])
       refine tk (i:=1) (oi:=⟨some 73,Op.binOp BinOp.eql 3 (Operand.tmp 72) (Operand.const (Value.int IntKind.i64 0)) 3,_,_,_,none⟩) (v:=?_) rfl hHeld ?_ ?_;rotate_left
       ·rintro w rfl;go_simp;try with_reducible rfl
       (try simp only[Act.put,za,zb,zc])
       refine tk (i:=2) (oi:=⟨some 74,Op.move (Operand.tmp 73),_,_,_,none⟩) (v:=?_) rfl hHeld ?_ ?_;rotate_left
       ·rintro w rfl;go_simp;try with_reducible rfl
       (try simp only[Act.put,za,zb,zc])
       refine wpAnyH_take (i:=3) (oi:=⟨some 75,Op.move (Operand.tmp 5),_,_,_,some (2,true)⟩) (v:=undef) rfl (by kernel_rfl) (by kernel_rfl) (by kernel_rfl) (fun _ _ _ h=>h) (Or.inr ⟨by rfl,rfl⟩) hHeld ?_
       (try simp only[Act.put,za,zb,zc])
       refine wpAnyH_take (i:=4) (oi:=⟨some 76,Op.move (Operand.tmp 7),_,_,_,some (2,true)⟩) (v:=undef) rfl (by kernel_rfl) (by kernel_rfl) (by kernel_rfl) (fun _ _ _ h=>h) (Or.inr ⟨by rfl,rfl⟩) hHeld ?_
       (try simp only[Act.put,za,zb,zc])
       refine wpAnyH_take (i:=5) (oi:=⟨some 77,Op.indexAddr 40 (Operand.tmp 75) (Operand.tmp 76),_,_,_,some (2,true)⟩) (v:=undef) rfl (by kernel_rfl) (by kernel_rfl) (by kernel_rfl) (fun _ _ _ h=>h) (Or.inr ⟨by rfl,rfl⟩) hHeld ?_
       (try simp only[Act.put,za,zb,zc])
       refine wpAnyH_take (i:=6) (oi:=⟨some 78,Op.load 2 (Operand.tmp 77),_,_,_,some (2,true)⟩) (v:=undef) rfl (by kernel_rfl) (by kernel_rfl) (by kernel_rfl) (fun _ _ _ h=>h) (Or.inr ⟨by rfl,rfl⟩) hHeld ?_
       (try simp only[Act.put,za,zb,zc])
       refine wpAnyH_take (i:=7) (oi:=⟨some 79,Op.move (Operand.tmp 1),_,_,_,some (2,true)⟩) (v:=undef) rfl (by kernel_rfl) (by kernel_rfl) (by kernel_rfl) (fun _ _ _ h=>h) (Or.inr ⟨by rfl,rfl⟩) hHeld ?_
       (try simp only[Act.put,za,zb,zc])
       refine wpAnyH_take (i:=8) (oi:=⟨some 80,Op.nilCheck (Operand.tmp 79),_,_,_,some (2,true)⟩) (v:=undef) rfl (by kernel_rfl) (by kernel_rfl) (by kernel_rfl) (fun _ _ _ h=>h) (Or.inr ⟨by rfl,rfl⟩) hHeld ?_
       (try simp only[Act.put,za,zb,zc])
       refine wpAnyH_take (i:=9) (oi:=⟨some 81,Op.fieldAddr 193 (Operand.tmp 80) 1,_,_,_,some (2,true)⟩) (v:=undef) rfl (by kernel_rfl) (by kernel_rfl) (by kernel_rfl) (fun _ _ _ h=>h) (Or.inr ⟨by rfl,rfl⟩) hHeld ?_
       (try simp only[Act.put,za,zb,zc])
       refine wpAnyH_take (i:=10) (oi:=⟨some 82,Op.load 191 (Operand.tmp 81),_,_,_,some (2,true)⟩) (v:=undef) rfl (by kernel_rfl) (by kernel_rfl) (by kernel_rfl) (fun _ _ _ h=>h) (Or.inr ⟨by rfl,rfl⟩) hHeld ?_
       (try simp only[Act.put,za,zb,zc])
       refine wpAnyH_take (i:=11) (oi:=⟨some 83,Op.move (Operand.tmp 7),_,_,_,some (2,true)⟩) (v:=undef) rfl (by kernel_rfl) (by kernel_rfl) (by kernel_rfl) (fun _ _ _ h=>h) (Or.inr ⟨by rfl,rfl⟩) hHeld ?_
       (try simp only[Act.put,za,zb,zc])
       refine wpAnyH_take (i:=12) (oi:=⟨some 84,Op.indexAddr 191 (Operand.tmp 82) (Operand.tmp 83),_,_,_,some (2,true)⟩) (v:=undef) rfl (by kernel_rfl) (by kernel_rfl) (by kernel_rfl) (fun _ _ _ h=>h) (Or.inr ⟨by rfl,rfl⟩) hHeld ?_
       (try simp only[Act.put,za,zb,zc])
       refine wpAnyH_take (i:=13) (oi:=⟨some 85,Op.fieldAddr 198 (Operand.tmp 84) 0,_,_,_,some (2,true)⟩) (v:=undef) rfl (by kernel_rfl) (by kernel_rfl) (by kernel_rfl) (fun _ _ _ h=>h) (Or.inr ⟨by rfl,rfl⟩) hHeld ?_
       (try simp only[Act.put,za,zb,zc])
       refine wpAnyH_take (i:=14) (oi:=⟨some 86,Op.load 2 (Operand.tmp 85),_,_,_,some (2,true)⟩) (v:=undef) rfl (by kernel_rfl) (by kernel_rfl) (by kernel_rfl) (fun _ _ _ h=>h) (Or.inr ⟨by rfl,rfl⟩) hHeld ?_
       (try simp only[Act.put,za,zb,zc])
       refine wpAnyH_take (i:=15) (oi:=⟨some 87,Op.binOp BinOp.neq 2 (Operand.tmp 78) (Operand.tmp 86) 2,_,_,_,some (2,true)⟩) (v:=undef) rfl (by kernel_rfl) (by kernel_rfl) (by kernel_rfl) (fun _ _ _ h=>h) (Or.inr ⟨by rfl,rfl⟩) hHeld ?_
       (try simp only[Act.put,za,zb,zc])
       refine tk (i:=16) (oi:=⟨some 88,Op.pick (Operand.tmp 74) (Operand.tmp 87) (Operand.const (Value.bool false)),_,_,_,none⟩) (v:=?_) rfl hHeld ?_ ?_;rotate_left
       ·rintro w rfl;go_simp;try with_reducible rfl
       (try simp only[Act.put,za,zb,zc])
       refine tk (i:=17) (oi:=⟨some 89,Op.move (Operand.tmp 88),_,_,_,none⟩) (v:=?_) rfl hHeld ?_ ?_;rotate_left
       ·rintro w rfl;go_simp;try with_reducible rfl
       (try simp only[Act.put,za,zb,zc])
       refine tk (i:=18) (oi:=⟨some 90,Op.move (Operand.tmp 9),_,_,_,some (17,false)⟩) (v:=?_) rfl hHeld ?_ ?_;rotate_left
       ·rintro w rfl;go_simp;try with_reducible rfl
       (try simp only[Act.put,za,zb,zc])
       refine tk (i:=19) (oi:=⟨some 91,Op.unOp UnOp.not 4 (Operand.tmp 90),_,_,_,some (17,false)⟩) (v:=?_) rfl hHeld ?_ ?_;rotate_left
       ·rintro w rfl;go_simp;try with_reducible rfl
       (try simp only[Act.put,za,zb,zc])
       refine tk (i:=20) (oi:=⟨some 92,Op.pick (Operand.tmp 89) (Operand.const (Value.bool true)) (Operand.tmp 91),_,_,_,none⟩) (v:=?_) rfl hHeld ?_ ?_;rotate_left
       ·rintro w rfl;go_simp;try with_reducible rfl
       (try simp only[Act.put,za,zb,zc])
       refine tk (i:=21) (oi:=⟨some 93,Op.move (Operand.tmp 92),_,_,_,none⟩) (v:=?_) rfl hHeld ?_ ?_;rotate_left
       ·rintro w rfl;go_simp;try with_reducible rfl
       (try simp only[Act.put,za,zb,zc])
       refine tk (i:=22) (oi:=⟨some 94,Op.move (Operand.tmp 8),_,_,_,some (21,false)⟩) (v:=?_) rfl hHeld ?_ ?_;rotate_left
       ·rintro w rfl;go_simp;try with_reducible rfl
       (try simp only[Act.put,za,zb,zc])
       refine tk (i:=23) (oi:=⟨some 95,Op.convert 32 9 (Operand.tmp 94),_,_,_,some (21,false)⟩) (v:=?_) rfl hHeld ?_ ?_;rotate_left
       ·rintro w rfl;go_simp;try with_reducible rfl
       (try simp only[Act.put,za,zb,zc])
       refine tk (i:=24) (oi:=⟨some 96,Op.move (Operand.tmp 1),_,_,_,some (21,false)⟩) (v:=?_) rfl hHeld ?_ ?_;rotate_left
       ·rintro w rfl;go_simp;try with_reducible rfl
       (try simp only[Act.put,za,zb,zc])
       refine tk (i:=25) (oi:=⟨some 97,Op.nilCheck (Operand.tmp 96),_,_,_,some (21,false)⟩) (v:=?_) rfl hHeld ?_ ?_;rotate_left
       ·rintro w rfl;go_simp;try with_reducible rfl
       (try simp only[Act.put,za,zb,zc])
       refine tk (i:=26) (oi:=⟨some 98,Op.fieldAddr 193 (Operand.tmp 97) 1,_,_,_,some (21,false)⟩) (v:=?_) rfl hHeld ?_ ?_;rotate_left
       ·rintro w rfl;go_simp;try with_reducible rfl
       (try simp only[Act.put,za,zb,zc])
       refine tk (i:=27) (oi:=⟨some 99,Op.load 191 (Operand.tmp 98),_,_,_,some (21,false)⟩) (v:=?_) rfl hHeld ?_ ?_;rotate_left
       ·rintro w rfl;go_simp;try with_reducible rfl
       (try simp only[Act.put,za,zb,zc])
       refine tk (i:=28) (oi:=⟨some 100,Op.move (Operand.tmp 7),_,_,_,some (21,false)⟩) (v:=?_) rfl hHeld ?_ ?_;rotate_left
       ·rintro w rfl;go_simp;try with_reducible rfl
       (try simp only[Act.put,za,zb,zc])
       refine tk (i:=29) (oi:=⟨some 101,Op.indexAddr 191 (Operand.tmp 99) (Operand.tmp 100),_,_,_,some (21,false)⟩) (v:=?_) rfl hHeld ?_ ?_;rotate_left
       ·rintro w rfl;go_simp;try with_reducible rfl
       (try simp only[Act.put,za,zb,zc])
       refine tk (i:=30) (oi:=⟨some 102,Op.fieldAddr 198 (Operand.tmp 101) 1,_,_,_,some (21,false)⟩) (v:=?_) rfl hHeld ?_ ?_;rotate_left
       ·rintro w rfl;go_simp;try with_reducible rfl
       (try simp only[Act.put,za,zb,zc])
       refine tk (i:=31) (oi:=⟨some 103,Op.load 9 (Operand.tmp 102),_,_,_,some (21,false)⟩) (v:=?_) rfl hHeld ?_ ?_;rotate_left
       ·rintro w rfl;go_simp;try with_reducible rfl
       (try simp only[Act.put,za,zb,zc])
       refine tk (i:=32) (oi:=⟨some 104,Op.binOp BinOp.neq 9 (Operand.tmp 95) (Operand.tmp 103) 9,_,_,_,some (21,false)⟩) (v:=?_) rfl hHeld ?_ ?_;rotate_left
       ·rintro w rfl;go_simp;try with_reducible rfl
       (try simp only[Act.put,za,zb,zc])
       refine tk (i:=33) (oi:=⟨some 105,Op.pick (Operand.tmp 93) (Operand.const (Value.bool true)) (Operand.tmp 104),_,_,_,none⟩) (v:=?_) rfl hHeld ?_ ?_;rotate_left
       ·rintro w rfl;go_simp;try with_reducible rfl
       (try simp only[Act.put,za,zb,zc])
       refine wpAnyH_done (by kernel_rfl) ?_ _
       go_wp2_with fail
       go_meet
       case rel=>exact⟨rfl,rfl⟩
     case rest=>
      obtain⟨rfl,rfl⟩:=hcut;obtain⟨hsp,hsb⟩:=Zo.spoil HV5.out;have HSP:Hid (Ym w5.drew p5 yb.length):=(show Ym _ _ _ from hsp)
      have HPB:Hid (∀b,(Value.slice p5 yb.length c5).ownBlock=some b→wr.heap.size≤b∧b<w5.drew.heap.size):=(show ∀_,_→_ from hsb)
      have HGW:Hid (wr.grownBy w5.drew none):=(show World.grownBy _ _ _ from zk HG5.out)
      clear hsp hsb HV5 HG5 hcvd q1 q2 q3 q4 hl1 hl2 HCE;generalize w5.drew=w7 at *;obtain⟨n,hn⟩:∃n,n=yb.length:=⟨_,rfl⟩;have hnl:n≤9223372036854775807:=by rw[hn];exact HBJ.out
      rw[←hn] at HSP HPB ⊢;clear hn;generalize wr=w0 at *;have HRW7:=zd (yo.grown HRW.out HGW.out (by simp))
      go_upto_region 14 with fail
      go_loopw [10] (fun q w=>∃k:Nat,k≤n∧q = .int .i64 (k:Int)∧Ym w p5 n∧w7.grownBy w (Value.slice p5 n c5).ownBlock) (fun q _=>n-(intOf q).toNat)
      case atStart=>exact⟨0,by omega,rfl,HSP.out,⟨rfl,rfl,rfl,Nat.le_refl _,fun _ _ _=>rfl⟩⟩
      case round=>
       obtain⟨k,hk,rfl,hs8,hg8⟩:=hrel;have HS8:=zd hs8;have HG8:=zd hg8;clear hg8
       by_cases hkn:k<n
       ·obtain⟨g8,rfl,z,hz,hf⟩:∃g,p5=some ⟨g,0,none⟩∧∃z,wr.cell? ⟨g,k,none⟩=some (.int .u8 z)∧wr.frozen? ⟨g,k,none⟩=false:=by
         rcases hs8 with h|⟨g',e,h1,h2⟩
         ·omega
         ·obtain⟨z,hz⟩:=h1 k hkn
          exact⟨g',e,z,hz,h2 k hkn⟩
        have hgl8:=xo hz;clear hs8;go_wp2
        exact⟨⟨k+1,by omega,by simp,HS8.out.set k _,zjn HG8.out (zw wr g8 k _)⟩,by simp[intOf];omega⟩
       ·obtain rfl:k=n:=by omega
        clear hs8;have hb8:∀b,(Value.slice p5 k c5).ownBlock=some b→b≠gl:=fun b hb e=>by
         have h1:=(HPB.out b hb).1;have h2:=yo.lt HRW.out (g:=gl) rfl;omega
        have hr8:=yo.grown HRW7.out HG8.out (fun g hg e=>hb8 g e (by injection hg with hg;exact hg.symm))
        have HR8:=zd hr8;have hjx:j<xs.length:=by rw[HXL.out];exact hjN
        have hgl2:=HVL.out gl rfl;obtain⟨xz,hxz,hfz⟩:∃u,wr.cell? ⟨gl,j,none⟩=some u∧wr.frozen? ⟨gl,j,none⟩=false:=by
         rcases yo.at zbu hr8 with e0|⟨g',c',e,hc,hf⟩
         ·rw[e0] at hjx;simp at hjx
         ·injection e with e1
          injection e1 with e1
          injection e1 with e1
          subst e1;have h1:=hc j hjx 0 _ rfl;rw[Nat.mul_one,Nat.add_zero] at h1
          exact⟨_,h1,hf j⟩
        have hset:yo (wr.setCell ⟨gl,j,none⟩ (.int .i64 0)) 2 1 zbt (.slice (some ⟨gl,0,none⟩) N cl) (xs.set j 0):=by
         have h0:yo wr 2 1 zbt (.slice (some ⟨gl,0,none⟩) xs.length cl) xs:=by rw[HXL.out];exact hr8
         have:=yo.set zbu h0 j 0 hjx (by decide) 0 (.int .i64 0) rfl
         rw[Nat.mul_one,Nat.add_zero,HXL.out] at this
         exact this
        have HSET:=zd hset;have HGF:Hid (W.grownBy (wr.setCell ⟨gl,j,none⟩ (.int .i64 0)) none):=(show World.grownBy _ _ _ from yd (yd (zh HG.out HGW.out) HG8.out (fun b hb=>by have:=(HPB.out b hb).1;have:=HG.out.size;omega)) (zw wr gl j _) (fun b hb=>by injection hb with hb;rw[←hb];exact hgl2.1))
        have HXN:Hid (tn=0→∀q,j+1≤q→(xs.set j 0)[q]? = (L.map (·.1))[q]?):=(fun h0 q hq=>by
         rw[List.getElem?_set_ne (by omega)]
         exact HX0.out h0 q (by omega))
        have hgl9:=xo hxz;clear hset hr8 hb8 HX0;go_wp2
        exact⟨⟨j+1,by omega,by simp,HGF.out,xs.set j 0,HSET.out,by rw[List.length_set];exact HXL.out,fun h0 q hq=>by simpa using HXN.out h0 q hq⟩,by simp[intOf];omega⟩
    ·obtain rfl:j=N:=by omega
     go_wp2
     exact⟨⟨tn+1,xs,by omega,by simp,HG.out,HRW.out,HXL.out,fun h=>by omega⟩,by simp[intOf];omega⟩
  ·obtain rfl:tn=2:=by omega
   have HGT:Hid (Calls Tryz.prog 21 #[.pointer (some ⟨st,0,none⟩),.int .i64 next] wr fun e w'=>wr.grownBy w' none∧e = .returned (.tuple #[.slice none 0 0,.bool false])):=((HGET.out wr HG.out next).mono fun e w' ⟨h1,v,h2,h3⟩=>by
    rw[HGN.out] at h2 h3
    rcases h3 with ⟨_,h4⟩|⟨r,h4,_⟩
    ·rw[h4] at h2;exact⟨h1,h2⟩
    ·cases h4)
   have e2:=HG.out.cell c2 (by simp)
   go_wp2_with (go_at_call 21;refine HGT.out.mono ?_;rintro e w5 ⟨hg5,rfl⟩;have HG5:=zd hg5;clear hg5)
   go_ret
   exact⟨rfl,zh HG.out HG5.out⟩
end
end Go.Proofs.YtbcbhlfjgobejaaGreat
