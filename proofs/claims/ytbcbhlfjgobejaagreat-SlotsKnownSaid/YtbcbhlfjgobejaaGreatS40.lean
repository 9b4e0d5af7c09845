/- starfishref19's Free: plain words, the row of marks in memory. Conditions: none, or as the theorems say. -/
import Derived.Test.YtbcbhlfjgobejaaGreatS39
set_option linter.unusedSimpArgs false
set_option linter.unusedVariables false
namespace Go.Proofs.YtbcbhlfjgobejaaGreat
set_option maxHeartbeats 200000000
open Go.RowKit Go.Sf Go.Shelf
variable {k:Int} {B:List Nat} {c cap i j n sz:Nat} {p q:Option Addr} {u v:Value} {w:World}
theorem zo1:(Tryz.prog.info? 4).map (λi=>(i.zero,i.size,i.bytes))=some (some (.bool false),1,1):=by kernel_rfl
def Ym (n:Nat) (B:List Nat):List Bool:=(List.range n).map λi=>decide (i∈B)
theorem zmv (n:Nat) (B:List Nat):(Ym n B).length=n:=by simp[Ym]
theorem zdv (B:List Nat) (hi:i<n):(Ym n B)[i]'(by rw[zmv];exact hi)=decide (i∈B):=by simp[Ym]
theorem zmw (n:Nat) (B:List Nat) (b:Nat):(Ym n B).set b true=Ym n (B ++ [b]):=by
 apply List.ext_getElem
 ·simp[Ym]
 ·intro i h1 h2
  have hi:i<n:=by simpa[Ym] using h2
  rw[List.getElem_set,zdv _ hi]
  by_cases hb:b=i
  ·subst hb;rw[if_pos rfl,zdv _ hi];simp
  ·rw[if_neg hb,zdv _ hi]
   have:(i∈B ++ [b])↔i∈B:=by
    simp only[List.mem_append,List.mem_singleton]
    exact⟨λh=>h.elim id λe=>absurd e.symm hb,Or.inl⟩
   simp[this]
theorem zi7 (n:Nat) (hn:n≤4096) (w:World):(Instr.makeSlice 130 (.int .i64 (n:Int)) (.int .i64 (n:Int))).run Tryz.prog w = .ok (.slice (some ⟨w.heap.size,0,none⟩) n n) (w.alloc (.cells ((Ym n []).map Value.bool).toArray 4)):=by
 have:=run_make_row' (P:=Tryz.prog) 130 4 (.bool false) 1 Tryz.underlying130 zo1 rfl .i64 .i64 n (by omega) (by omega) w
 rw[this];have e:madeCells #[Value.bool false] n=((Ym n []).map Value.bool).toArray:=by
  apply Array.ext'
  rw[toList_madeCells_one]
  apply List.ext_getElem
  ·simp[Ym]
  ·intro i h1 h2
   simp[Ym]
 rw[e]
def jg (B:List Nat) (i:Nat):List Nat:=(List.range i).filter λk=>decide (k ∉ B)
theorem zow (h:i∈B):jg B (i+1)=jg B i:=by
 unfold jg;rw[List.range_succ,List.filter_append];simp[h]
theorem zmj (h:i ∉ B):jg B (i+1)=jg B i ++ [i]:=by
 unfold jg;rw[List.range_succ,List.filter_append];simp[h]
structure TBx (W w:World) (tb n:Nat) (B:List Nat):Prop where
 gr:W.grownBy w none
 box:w.heap[tb]? = some (.cells ((Ym n B).map Value.bool).toArray 4 (0,0))
 lo:W.heap.size≤tb
section
variable {W w w' : World} {tb n : Nat} {B : List Nat}
theorem TBx.kept (h:TBx W w tb n B) (hg:w.grownBy w' none):TBx W w' tb n B:=
 ⟨zh h.gr hg,(hg.block _ (Array.getElem?_eq_some_iff.1 h.box).1 (by simp)).trans h.box,h.lo⟩
theorem TBx.cell (h:TBx W w tb n B) (hi:i<n):w.cell? ⟨tb,i,none⟩=some (.bool (decide (i∈B))):=by
 refine(zf h.box i).trans ?_;simp[Ym,hi]
theorem TBx.set (h:TBx W w tb n B) (b:Nat):TBx W (w.setCell ⟨tb,b,none⟩ (.bool true)) tb n (B ++ [b]):=by
 have hs:=zv w tb b (.bool true);refine⟨xp h.gr hs (λk hk=>by injection hk with hk;rw[←hk];exact h.lo),?_,h.lo⟩
 simp only[World.setCell,Array.getElem?_modify,h.box,if_true,Option.map_some];rw[←zmw,List.map_set];simp
end
section
variable {rs : Nat → Prop} {W : World} {sb db : Nat} {lv : Value} {ms : List RcM} {L : List (Int × ye)} {next broken : Int}
theorem jb.setBroken (h:jb rs W sb db lv ms L next broken) (n:Int):jb rs (W.setCell ⟨sb,3,none⟩ (.int .i64 n)) sb db lv ms L next n:=by
 have hs:=zv W sb 3 (.int .i64 n);have hne:lv.ownBlock≠some sb:=ji h.row h.box (by decide)
 refine⟨?_,h.row.grown hs (λg hg e=>hne (by rw[hg];exact e.symm)),h.ok.turn (λk hk=>hs.block k (h.lt k hk.1) (λe=>hk.2.1 (by injection e))),h.rsb,h.rlv,λk hk=>Nat.lt_of_lt_of_le (h.lt k hk) hs.size⟩
 simp only[World.setCell,Array.getElem?_modify,h.box,if_true,Option.map_some]
 rfl
theorem S19.brokenSet (h:S19 rs W sb db L next broken) (n:Int):S19 rs (W.setCell ⟨sb,3,none⟩ (.int .i64 n)) sb db L next n:=by
 obtain⟨lv,ms,h⟩:=h
 exact⟨lv,ms,h.setBroken n⟩
theorem S19.all (h:S19 rs W sb db L next broken):W.cell? ⟨sb,0,none⟩=some (.pointer (some ⟨db,0,none⟩))∧W.cell? ⟨sb,2,none⟩=some (.int .i64 next)∧W.cell? ⟨sb,3,none⟩=some (.int .i64 broken)∧(∀i,W.frozen? ⟨sb,i,none⟩=false)∧sb<W.heap.size:=by
 obtain⟨lv,ms,hA⟩:=h
 exact⟨hA.cells.1,hA.cells.2.2.1,hA.cells.2.2.2.1,hA.cells.2.2.2.2,hA.lt sb hA.rsb⟩
theorem rdoes (h:S19 rs W sb db L next broken) (e0:Int):Calls Tryz.prog 180 #[.pointer (some ⟨sb,0,none⟩),.int .i64 e0] W λe w'=>e = .returned (.bool (decide (e0=0)))∧S19 rs w' sb db L next (if e0=0 then broken else e0)∧zm (λq=>q=sb) W w':=by
 have H:=zd h;have HB:=zd (h.brokenSet e0);obtain⟨c0,c2,c3,y,hsb⟩:=h.all;have y3:=y 3;clear h
 by_cases he:e0=0
 ·subst he
  go_enter Tryz.func180,Tryz.ntmps180
  go_wp2
  go_ret
  exact⟨by simp,H.out,zm.refl _ _⟩
 ·have hd:decide (e0=0)=false:=by simpa using he
  rw[hd,if_neg he]
  go_enter Tryz.func180,Tryz.ntmps180
  go_wp2
  go_ret
  exact⟨by simp[he],HB.out,yh _ _ _ _⟩
def zgt (L:List (Int × ye)) (k:Int):Option (Int × ye):=L.find? λy=>decide (y.1=k)
theorem getR_at (h:∀y∈L.take j,y.1≠k) (hj:j<L.length) (hk:L[j].1=k):zgt L k=some L[j]:=by
 unfold zgt;rw[List.find?_eq_some_iff_append];refine⟨by simpa using hk,L.take j,L.drop (j+1),?_,λa ha=>by simpa using h a ha⟩
 rw[←List.drop_eq_getElem_cons hj,List.take_append_drop]
theorem zmk (h:∀y∈L,y.1≠k):zgt L k=none:=by
 unfold zgt;rw[List.find?_eq_none]
 exact λy hy=>by simpa using h y hy
def NoneK (L:List (Int × ye)) (j:Nat) (k:Int):Prop:=∀y∈L.take j,y.1≠k
end
section
variable {rsd rss : Nat → Prop} {W : World} {sb db : Nat} {R : RDk} {L : List (Int × ye)} {next broken : Int}
def qh (L:List (Int × ye)):List Nat:=L.flatMap λy=>y.2.2
theorem zmc (hj:j<L.length):qh (L.take (j+1))=qh (L.take j)++L[j].2.2:=by
 unfold qh;rw[List.take_succ_eq_append_getElem hj,List.flatMap_append];simp[-List.take_append_getElem]
set_option maxRecDepth 100000 in
theorem rfree (hd:R18 rsd W db R) (hs:S19 rss W sb db L next broken) (hb:∀y∈L,∀b∈y.2.2,b<R.blocks.length) (hc:∀y∈L,y.2.2.length≤100000):Calls Tryz.prog 115 #[.pointer (some ⟨sb,0,none⟩)] W λe w'=>∃v,e = .returned v∧Jc W w' v (jg (qh L) R.blocks.length)∧W.grownBy w' none:=by
 obtain⟨i0,z0,by0,hi,hz0,hz1,hz2,hz3,hz4⟩:=zli;obtain⟨bv,bs,hA⟩:=hd;obtain⟨pd,cd,rfl,-,-⟩:=hA.form;obtain⟨d0,d1,d2,d3,dy⟩:=hA.cells;have hn4:=hA.n;obtain⟨lv,ms,h⟩:=hs;obtain⟨c0,c1,c2,c3,y⟩:=h.cells;have HL:Hid (ms.length=L.length):=(show _=_ from h.ok.len)
 have HROW:=zd h.row;have HOK:=zd h.ok;have HRS:=zd h.lt;have hsl:=h.lt sb h.rsb;have HB:=zd hb;have HC:=zd hc;obtain⟨p,cap,hlv,hcm,hlc⟩:=h.row.form;obtain⟨N,hN⟩:∃N,N=ms.length:=⟨_,rfl⟩;have HN:=zd hN;have hlm:N≤9223372036854775807:=by rw[hN];omega
 rw[←hN] at hlv;clear h hN hcm hlc hA hb hc;generalize R.blocks.length=n at *;subst hlv
 go_enter Tryz.func115,Tryz.ntmps115
 have hmk:=zi7 n hn4
 go_upto_region 3 with fail
 clear hmk;have HT0:Hid (TBx W (W.alloc (.cells ((Ym n []).map Value.bool).toArray 4)) W.heap.size n (qh (L.take 0))):=(show TBx _ _ _ _ _ from ⟨ze _ _ none,heap_alloc_new _ _,Nat.le_refl _⟩)
 generalize W.alloc (.cells ((Ym n []).map Value.bool).toArray 4)=w1 at *;obtain⟨tb,htb⟩:∃tb,tb=W.heap.size:=⟨_,rfl⟩;rw[←htb] at HT0 ⊢;clear htb
 go_loopw [4] (λi wr=>∃j:Nat,j≤N∧i = .int .i64 j∧TBx W wr tb n (qh (L.take j))) (λi _=>N-(intOf i).toNat)
 case atStart=>exact⟨0,by omega,rfl,HT0.out⟩
 case round=>
  clear HT0;obtain⟨j,hj,rfl,ht⟩:=hrel;have HT:=zd ht;have w1':=ht.gr.cell c1 (by simp)
  clear ht
  by_cases hjN:j<N
  ·have hjm:j<ms.length:=by rw[←HN.out];exact hjN
   have hjL:j<L.length:=by rw[←HL.out];exact hjm
   have hxo:=HOK.out.get j hjm hjL;obtain⟨g,hg,x2⟩:∃g,p=some ⟨g,0,none⟩∧W.cell? ⟨g,j*3+2,none⟩=some (.slice ms[j].p ms[j].n ms[j].c):=by
    rcases yl.at qe HROW.out with e0|⟨g,c,e,hc,_⟩
    ·rw[e0] at hjm;simp at hjm
    ·injection e with e1
     exact⟨g,e1,hc j hjm 2 _ rfl⟩
   subst hg;have HXL:=zd hxo.len;have HXP:=zd hxo.2.2;have HSU:=zd (zmc hjL);have HBL:Hid (∀b∈L[j].2.2,b<n):=(λb hb=>HB.out _ (List.getElem_mem hjL) b hb)
   have hnx:ms[j].n≤100000:=by rw[hxo.len];exact HC.out _ (List.getElem_mem hjL)
   clear hxo;generalize L[j]=xq at *;generalize ms[j]=xm at *;obtain⟨kx,bx,px,nx,cx⟩:=xm;simp only at *;have hgl:=xi x2;have HT0:Hid (TBx W wr tb n (qh (L.take j)++xq.2.2.take 0)):=(show TBx _ _ _ _ _ from by rw[List.take_zero,List.append_nil];exact HT.out)
   go_upto_region 6 with fail
   clear w1'
   go_loopw [5] (λi w=>∃q:Nat,q≤nx∧i = .int .i64 q∧TBx W w tb n (qh (L.take j)++xq.2.2.take q)) (λi _=>nx-(intOf i).toNat)
   case atStart=>exact⟨0,by omega,rfl,HT0.out⟩
   case round=>
    clear HT0 HT;obtain⟨q,hq,rfl,ht⟩:=hrel;have w1':=ht.gr.cell c1 (by simp)
    have x2':=ht.gr.cell x2 (by simp)
    have hgl':=xi x2';have HT:=zd ht
    by_cases hqn:q<nx
    ·have hql:q<xq.2.2.length:=by rw[←HXL.out];exact hqn
     obtain⟨b,off,rfl,z0'⟩:∃b off,px=some ⟨b,off,none⟩∧W.cell? ⟨b,off+q,none⟩=some (.int .i64 (xq.2.2[q]:Int)):=by
      obtain⟨p9,c9,e,h0⟩:=HXP.out
      injection e with e1
      rcases h0 with h0|⟨b,off,e2,h1,h2⟩
      ·rw[h0] at hql;simp at hql
      ·exact⟨b,off,e1.trans e2,h2 q hql⟩
     have z1':=ht.gr.cell z0' (by simp)
     have hbl':=xi z1';have hbn:=HBL.out _ (List.getElem_mem hql);have HS:Hid (xq.2.2.take (q+1)=xq.2.2.take q ++ [xq.2.2[q]]):=(show _=_ from List.take_succ_eq_append_getElem hql)
     generalize xq.2.2[q]=v at *;have t0:=ht.cell hbn;have tf:wr.frozen? ⟨tb,v,none⟩=false:=by
      simp[World.frozen?,ht.box]
     have htl:=xi t0;clear ht;go_wp2
     exact⟨⟨q+1,by omega,by simp,by rw[HS.out,←List.append_assoc];exact HT.out.set v⟩,by simp[intOf];omega⟩
    ·obtain rfl:q=nx:=by omega
     clear ht;go_wp2
     exact⟨⟨j+1,by omega,by simp,by rw[HSU.out];have h1:=HT.out;rw[List.take_of_length_le (Nat.le_of_eq HXL.out.symm)] at h1;exact h1⟩,by simp[intOf];omega⟩
  ·obtain rfl:j=N:=by omega
   have HT1:Hid (TBx W wr tb n (qh L)):=(show TBx _ _ _ _ _ from by
    have h1:=HT.out;rw[List.take_of_length_le (by rw[HN.out,HL.out];exact Nat.le_refl _)] at h1
    exact h1)
   have HSZ:Hid (tb<wr.heap.size):=(show _<_ from (Array.getElem?_eq_some_iff.1 HT.out.box).1)
   go_upto_region 11 with fail
   clear w1' HT;obtain⟨B,hB⟩:∃B,B=qh L:=⟨_,rfl⟩;rw[←hB] at HT1;have HBQ:=zd hB;clear hB
   go_loopw [6,7] (λl i w=>∃q:Nat,q≤n∧i = .int .i64 q∧Jc wr w l (jg B q)∧TBx W w tb n B∧wr.heap.size≤w.heap.size) (λ_ i _=>n-(intOf i).toNat)
   case atStart=>exact⟨0,by omega,rfl,⟨⟨rfl,Or.inl ⟨rfl,rfl⟩⟩,λg hg=>by simp[Value.ownBlock] at hg⟩,HT1.out,Nat.le_refl _⟩
   case round=>
    clear HT1;obtain⟨q,hq,rfl,hrow,ht,hz⟩:=hrel;obtain⟨pl,cl,hlo,-,-⟩:=hrow.1.form;subst hlo;have HR:=zd hrow;have HT:=zd ht;have HZ:=zd hz;have HFL:Hid ((jg B q).length≤q):=(show _≤_ from by
     have:=List.length_filter_le (λk=>decide (k ∉ B)) (List.range q)
     rw[List.length_range] at this
     exact this)
    clear hrow hz
    by_cases hqn:q<n
    ·have t0:=ht.cell hqn
     have htl:=xi t0;clear ht
     by_cases hm:q∈B
     ·have hdz:decide (q∈B)=true:=by simpa using hm
      rw[hdz] at t0;have HF:=zd (zow hm);clear hm hdz;go_wp2
      exact⟨⟨q+1,by omega,by simp,by rw[HF.out];exact HR.out,HT.out,HZ.out⟩,by simp[intOf];omega⟩
     ·have hdz:decide (q∈B)=false:=by simpa using hm
      rw[hdz] at t0;have HF:=zd (zmj hm);clear hm hdz;generalize jg B q=F at *
      go_wp2_with (at_builtin;refine xn (E:=3) (sz:=1) (enc:=zec) (v:=.slice pl F.length cl) (l:=F) (m:=[q]) _ rfl _ _ 44 rfl zau ziw i0 z0 by0 Tryz.underlying44 hi hz0 hz1 hz2 hz3 (by decide) hz4 rfl (HR.out.1.grown (ze _ _ none) (by simp)) rfl (zjx _ q) (by have:=HFL.out;simp;omega) (F.length+1) (by simp) ?_;intro p9 c9 w9 hap;have HAP:=zd hap;clear hap)
      have hx1:=HT.out.kept (ze wr (.cells #[.int .i64 (q:Int)] 3) none);have hown:∀g,(Value.slice pl F.length cl).ownBlock=some g→tb<g:=λg hg=>by
       have:=HR.out.2 g hg;have:=HSZ.out;omega
      obtain⟨a1,a2,a3⟩:=HAP.out;refine⟨⟨q+1,by omega,by simp,⟨by rw[HF.out];exact a1,λg hg=>?_⟩,⟨xp hx1.gr a2 (λg hg=>by have:=hown g hg;have:=hx1.lo;omega),(a2.block tb (Array.getElem?_eq_some_iff.1 hx1.box).1 (λe=>by have:=hown tb e.symm;omega)).trans hx1.box,hx1.lo⟩,by have:=HZ.out;have:=a2.size;simp at this;omega⟩,by simp[intOf];omega⟩
      rcases a3 with e|e
      ·exact HR.out.2 g (e ▸ hg)
      ·rw[hg] at e
       injection e with e
       have:=HZ.out;simp at e;omega
    ·obtain rfl:q=n:=by omega
     clear ht;have HPN:Hid (Jc W wr (.slice pl (jg B q).length cl) (jg (qh L) q)):=(show Jc _ _ _ _ from by rw[←HBQ.out];exact⟨HR.out.1,λg hg=>by
      have:=HR.out.2 g hg;have:=HSZ.out;have:=HT.out.lo;omega⟩)
     go_wp2
     go_ret
     exact⟨.slice pl (jg B q).length cl,rfl,HPN.out,HT.out.gr⟩
end
noncomputable def putsR (R:RDk) (x:Nat→Nat × List Int):Nat→RDk × Int
 | 0=>(R,0)
 | i+1=>if (putsR R x i).2=0 then ((putsR R x i).1.written ((x i).1:Int) (x i).2,(putsR R x i).1.writeV ((x i).1:Int) (x i).2) else putsR R x i
section
variable {R : RDk} {x : Nat → Nat × List Int}
theorem zee (h:(putsR R x i).2=0):putsR R x (i+1)=((putsR R x i).1.written ((x i).1:Int) (x i).2,(putsR R x i).1.writeV ((x i).1:Int) (x i).2):=by
 conv=>lhs;unfold putsR
 rw[if_pos h]
theorem zbq (h:(putsR R x i).2≠0):putsR R x (i+1)=putsR R x i:=by
 conv=>lhs;unfold putsR
 rw[if_neg h]
theorem zf0 (h:(putsR R x i).2≠0):∀n,putsR R x (i+n)=putsR R x i
 | 0=>rfl
 | n+1=>by
  have ih:=zf0 h n;rw[←Nat.add_assoc,zbq (by rw[ih];exact h),ih]
theorem zkr (i:Nat):yf (putsR R x i).1≤yf R+i:=by
 induction i with
 | zero=>exact Nat.le_refl _
 | succ i ih=>
  by_cases h:(putsR R x i).2=0
  ·rw[zee h]
   exact Nat.le_trans (za6 _ _ _) (by omega)
  ·rw[zbq h];omega
end
structure Doc where
 R:RDk
 L:List (Int × ye)
 next:Int
 broken:Int
def Doc.free (D:Doc):List Nat:=jg (qh D.L) D.R.blocks.length
noncomputable def Doc.part (D:Doc) (b:List Int) (j:Nat):Nat × List Int:=(D.free.getD j 0,xe zo ⟨D.next,j,zk b.length,xy b j⟩)
noncomputable def Doc.puts (D:Doc) (b:List Int):RDk × Int:=putsR D.R (D.part b) (zk b.length)
noncomputable def Doc.put (D:Doc) (b:List Int):Doc × Int × Int:=
 if D.broken≠0 then (D,0,D.broken)
 else if 131072<b.length∨4611686018427387904<D.next then (D,0,3)
 else if D.free.length<zk b.length then (D,0,181)
 else if (D.puts b).2≠0 then ({ D with R:=(D.puts b).1,broken:=(D.puts b).2 },0,(D.puts b).2)
 else if (D.puts b).1.syncV≠0 then ({ D with R:=(D.puts b).1.synced,broken:=(D.puts b).1.syncV },0,(D.puts b).1.syncV)
 else ({ D with R:=(D.puts b).1.synced,L:=D.L ++ [(D.next,(b,D.free.take (zk b.length)))],next:=D.next+1 },D.next,0)
def Doc.rem (D:Doc) (k:Int):Doc × Int:=
 if D.broken≠0 then (D,D.broken)
 else match zgt D.L k with
  | none=>(D,5)
  | some y=>
   if D.R.writeV (y.2.2.headD 0:Nat) []≠0 then ({ D with R:=D.R.written (y.2.2.headD 0:Nat) [],broken:=D.R.writeV (y.2.2.headD 0:Nat) [] },D.R.writeV (y.2.2.headD 0:Nat) [])
   else if (D.R.written (y.2.2.headD 0:Nat) []).syncV≠0 then ({ D with R:=(D.R.written (y.2.2.headD 0:Nat) []).synced,broken:=(D.R.written (y.2.2.headD 0:Nat) []).syncV },(D.R.written (y.2.2.headD 0:Nat) []).syncV)
   else ({ D with R:=(D.R.written (y.2.2.headD 0:Nat) []).synced,L:=jq D.L k },0)
def DocP (rsd rss:Nat→Prop) (W:World) (sb db:Nat) (D:Doc) (w':World):Prop:=∃rsd' rss',qg rsd' rss' w' sb db D.R D.L D.next D.broken∧(∀q,rsd' q→rsd q∨W.heap.size≤q)∧(∀q,rss' q→rss q∨W.heap.size≤q)∧zm (λq=>rsd q∨rss q) W w'
def zgj (rsd rss:Nat→Prop) (W:World) (sb db:Nat) (D:Doc) (k:Int) (e:Ending) (w':World):Prop:=e = .returned (.int .i64 (D.rem k).2)∧DocP rsd rss W sb db (D.rem k).1 w'
def Xr (rsd rss:Nat→Prop) (W:World) (sb db:Nat) (D:Doc) (b:List Int) (e:Ending) (w':World):Prop:=e = .returned (.tuple #[.int .i64 (D.put b).2.1,.int .i64 (D.put b).2.2])∧DocP rsd rss W sb db (D.put b).1 w'
structure DOk (D:Doc):Prop where
 bl:∀y∈D.L,∀b∈y.2.2,b<D.R.blocks.length
 bn:∀y∈D.L,y.2.2≠[]∧y.2.2.length≤100000
 srt:D.L.Pairwise λa b=>a.1<b.1
 len:D.L.length≤100000
 n0:1≤D.next
section
variable {rsd rss : Nat → Prop} {W w w' : World} {sb db : Nat} {R : RDk} {L : List (Int × ye)} {next broken : Int}
theorem qg.kept (h:qg rsd rss w sb db R L next broken) (hg:w.grownBy w' none):qg rsd rss w' sb db R L next broken:=⟨h.d.kept hg,h.s.kept hg,h.ap⟩
theorem qg.here (D:Doc) (h:qg rsd rss w sb db D.R D.L D.next D.broken) (hg:w.grownBy w' none):DocP rsd rss w sb db D w':=⟨rsd,rss,h.kept hg,λq hq=>Or.inl hq,λq hq=>Or.inl hq,vh hg⟩
theorem S19.past (h:S19 rss w sb db L next broken) (hap:∀q,rsd q→¬rss q) (ht:zm rsd w w'):S19 rss w' sb db L next broken:=by
 obtain⟨lv,ms,hA⟩:=h
 exact S19.same ⟨lv,ms,hA⟩ (λq hq=>ht.block q (hA.lt q hq) (λe=>hap q e hq)) ht.size
theorem ziy {rs:Nat→Prop} {m:Nat} {l:List Nat} (h:jy rs w (.slice p n c) l) (hm:m≤l.length) (c':Nat):jy rs w (.slice p m c') (l.take m):=by
 obtain⟨p',cap,e,hc⟩:=h
 injection e with e1 e2 e3
 subst e1;refine⟨p,c',by rw[List.length_take,Nat.min_eq_left hm],?_⟩
 rcases hc with h0|⟨b,off,h1,h2,h3⟩
 ·left;rw[h0];simp
 ·refine Or.inr ⟨b,off,h1,h2,λj hj=>?_⟩
  rw[List.getElem_take]
  exact h3 j (by rw[List.length_take] at hj;omega)
theorem jb.push {lv v':Value} {ms:List RcM} {rss':Nat→Prop} {w1 w2:World} {rm:RcM} {rq:Int × ye} (h:jb rss w sb db lv ms L next broken) (hg:w.grownBy w1 none) (ha:Yg w1 198 3 rcE lv (ms ++ [rm]) v' w2)
 (hup:∀q,rss q→rss' q) (hnew:∀q,w.heap.size≤q→q<w2.heap.size→rss' q) (hlt:∀q,rss' q→q<w2.heap.size) {P:Nat→Prop} (hr:Jj P w rm rq) (hP:∀q,P q→rss' q∧q<w.heap.size∧q≠sb∧lv.ownBlock≠some q) (nx:Int) :
  jb rss' ((w2.setCell ⟨sb,1,none⟩ v').setCell ⟨sb,2,none⟩ (.int .i64 nx)) sb db v' (ms ++ [rm]) (L ++ [rq]) nx broken∧zm (λq=>rss q) w ((w2.setCell ⟨sb,1,none⟩ v').setCell ⟨sb,2,none⟩ (.int .i64 nx)):=by
 obtain⟨h1,h2,h3⟩:=ha;have hsbl:=h.lt sb h.rsb;have hne:lv.ownBlock≠some sb:=ji h.row h.box (by decide)
 have hz1:=hg.size;have hz2:=h2.size;have hnev:v'.ownBlock≠some sb:=λe=>by
  rcases h3 with g|g
  ·rw[g] at e;exact hne e
  ·rw[g] at e;injection e with e;omega
 have hbox:w2.heap[sb]? = some (.cells #[.pointer (some ⟨db,0,none⟩),lv,.int .i64 next,.int .i64 broken] 193 (0,0)):=(h2.block sb (by omega) (λe=>hne e.symm)).trans ((hg.block sb hsbl (by simp)).trans h.box)
 have s1:=zv w2 sb 1 v';have s2:=zv (w2.setCell ⟨sb,1,none⟩ v') sb 2 (.int .i64 nx);have hs:∀q,q≠sb→((w2.setCell ⟨sb,1,none⟩ v').setCell ⟨sb,2,none⟩ (.int .i64 nx)).heap[q]? = w2.heap[q]?:=λq hq=>by
  simp[World.setCell,Array.getElem?_modify,Ne.symm hq]
 have hz:((w2.setCell ⟨sb,1,none⟩ v').setCell ⟨sb,2,none⟩ (.int .i64 nx)).heap.size=w2.heap.size:=by simp[World.setCell]
 have hold:∀q,q<w.heap.size→q≠sb→lv.ownBlock≠some q→((w2.setCell ⟨sb,1,none⟩ v').setCell ⟨sb,2,none⟩ (.int .i64 nx)).heap[q]? = w.heap[q]?:=λq hq h0 hl=>
  (hs q h0).trans ((h2.block q (by omega) (λe=>hl e.symm)).trans (hg.block q hq (by simp)))
 have hvn:∀q,q<w.heap.size→lv.ownBlock≠some q→v'.ownBlock≠some q:=λq hq hl e=>by
  rcases h3 with g|g
  ·rw[g] at e;exact hl e
  ·rw[g] at e;injection e with e;omega
 refine⟨⟨?_,h1.same (λg hg2=>hs g (λe=>hnev (by rw[hg2,e]))),?_,hup _ h.rsb,λg hg2=>?_,λq hq=>by rw[hz];exact hlt q hq⟩,?_⟩
 ·simp only[World.setCell,Array.getElem?_modify,hbox,if_true,Option.map_some]
  rfl
 ·refine ug.app ((h.ok.turn λq hq=>hold q (h.lt q hq.1) hq.2.1 hq.2.2).mono λq hq=>⟨hup q hq.1,hq.2.1,hvn q (h.lt q hq.1) hq.2.2⟩) (ug.one ((hr.turn λq hq=>?_).mono λq hq=>?_))
  ·obtain⟨_,a2,a3,a4⟩:=hP q hq
   exact hold q a2 a3 a4
  ·obtain⟨a1,a2,a3,a4⟩:=hP q hq
   exact⟨a1,a3,hvn q a2 a4⟩
 ·rcases h3 with g'|g'
  ·rw[g'] at hg2;exact hup _ (h.rlv g hg2)
  ·rw[g'] at hg2;injection hg2 with hg2
   have:=yl.lt h1 (g:=g) (by rw[g',hg2])
   exact hnew g (by omega) this
 ·refine⟨?_,?_,?_,by rw[hz];omega,λq hq hn=>hold q hq (λe=>hn (e ▸ h.rsb)) (λe=>hn (h.rlv q e))⟩
  ·exact(s2.os.trans s1.os).trans (h2.os.trans hg.os)
  ·exact(s2.tape.trans s1.tape).trans (h2.tape.trans hg.tape)
  ·exact(s2.output.trans s1.output).trans (h2.output.trans hg.output)
end
section
theorem Zh.dropG {α:Type} {enc:α→List Value} (he:∀x,(enc x).length=sz) {l:List α} (h:Zh w enc (.slice p n cap) l) (lo:Nat) (hlo:lo≤l.length) {k:Nat} (hk:k=l.length-lo) (hq:k≠0→q=p.map λa=>a.add (lo*sz)):Zh w enc (.slice q k c) (l.drop lo):=by
 obtain⟨p',cap',e,hc⟩:=h
 injection e with e1 e2 e3
 subst e1 e2 e3;refine⟨q,c,by rw[List.length_drop,hk],?_⟩
 rcases Nat.eq_zero_or_pos k with h0|h0
 ·left;exact List.drop_of_length_le (by omega)
 ·right
  rw[hq (by omega)]
  rcases hc with h1|⟨a,rfl,h1⟩
  ·rw[h1] at hk;simp at hk;omega
  ·refine⟨_,rfl,λj u hu=>?_⟩
   rw[Addr.add_add];refine h1 _ _ ?_;have e2:l.flatMap enc=(l.take lo).flatMap enc++(l.drop lo).flatMap enc:=by rw[←List.flatMap_append,List.take_append_drop]
   have hl:lo*sz+j-lo*sz=j:=by omega
   rw[e2,List.getElem?_append_right (by rw[Xc enc sz he,List.length_take,Nat.min_eq_left hlo];omega),Xc enc sz he,List.length_take,Nat.min_eq_left hlo,hl]
   exact hu
theorem Zh.takeG {α:Type} {enc:α→List Value} {l:List α} (h:Zh w enc (.slice p n cap) l) (k:Nat) (hk:k≤l.length) (hq:k≠0→q=p):Zh w enc (.slice q k c) (l.take k):=by
 obtain⟨p',cap',e,hc⟩:=h
 injection e with e1 e2 e3
 subst e1 e2 e3;refine⟨q,c,by rw[List.length_take];congr 1;omega,?_⟩
 rcases Nat.eq_zero_or_pos k with h0|h0
 ·left;rw[h0];rfl
 ·right
  rw[hq (by omega)]
  rcases hc with h1|⟨a,rfl,h1⟩
  ·rw[h1] at hk;simp at hk;omega
  ·refine⟨_,rfl,λj u hu=>h1 _ _ ?_⟩
   have e2:l.flatMap enc=(l.take k).flatMap enc++(l.drop k).flatMap enc:=by rw[←List.flatMap_append,List.take_append_drop]
   rw[e2,List.getElem?_append_left (List.getElem?_eq_some_iff.1 hu).1]
   exact hu
theorem yl.yrow {α:Type} {W:World} {E:TypeId} {enc:α→List Value} {l:List α} (h:yl W E sz enc v l):Zh W enc v l:=by
 obtain⟨p,cap,e,_,_⟩:=h.form;refine⟨p,cap,e,?_⟩
 rcases h.2 with ⟨e1,h0⟩|⟨g,c,cur,e1,_,hb,_⟩
 ·exact Or.inl (List.eq_nil_of_length_eq_zero h0)
 ·right
  have h0:W.ownsRow 0 E sz v l.length (l.flatMap enc):=h;rw[e1] at e h0
  injection e with e2
  exact⟨_,e2.symm,λj u hu=>h0.cells (g:=g) rfl j u hu⟩
variable {P : Nat → Prop} {w w' : World}
theorem ug.take {ms:List RcM} {L:List (Int × ye)} (h:ug P w ms L):∀i,ug P w (ms.take i) (L.take i):=by
 induction h with
 | nil=>intro i;simp;exact .nil
 | cons h1 _ ih=>
  intro i
  cases i with
  | zero=>exact .nil
  | succ i=>exact .cons h1 (ih i)
theorem ug.drop {ms:List RcM} {L:List (Int × ye)} (h:ug P w ms L):∀i,ug P w (ms.drop i) (L.drop i):=by
 induction h with
 | nil=>intro i;simp;exact .nil
 | cons h1 h2 ih=>
  intro i
  cases i with
  | zero=>exact .cons h1 h2
  | succ i=>exact ih i
theorem zpb {L:List (Int × ye)} (h:L.Pairwise λa b=>a.1<b.1) (hj:j<L.length):jq L L[j].1=L.take j++L.drop (j+1):=by
 rw[zlm (by
  rw[List.nodup_iff_pairwise_ne,List.pairwise_map]
  exact h.imp λh=>by omega) (List.getElem?_eq_getElem hj),List.eraseIdx_eq_take_drop_succ]
variable {rss : Nat → Prop} {sb db : Nat} {lv v2 : Value} {ms ms2 : List RcM} {L L2 : List (Int × ye)} {next broken : Int} {w2 : World}
theorem jb.keep (h:jb rss w sb db lv ms L next broken) (hs:∀k,rss k→w'.heap[k]? = w.heap[k]?) (hz:w.heap.size≤w'.heap.size):jb rss w' sb db lv ms L next broken:=
 ⟨(hs _ h.rsb).trans h.box,h.row.same λg hg=>hs g (h.rlv g hg),h.ok.turn λk hk=>hs k hk.1,h.rsb,h.rlv,λk hk=>Nat.lt_of_lt_of_le (h.lt k hk) hz⟩
theorem jb.cut (h:jb rss w sb db lv ms L next broken) (hg:w.grownBy w2 none) (hr:yl w2 198 3 rcE v2 ms2) (hnew:∀q,v2.ownBlock=some q→w.heap.size≤q) (hok:ug (λk=>rss k∧k≠sb∧lv.ownBlock≠some k) w ms2 L2) :
  jb (λq=>rss q∨(w.heap.size≤q∧q<w2.heap.size)) (w2.setCell ⟨sb,1,none⟩ v2) sb db v2 ms2 L2 next broken∧zm (λq=>rss q) w (w2.setCell ⟨sb,1,none⟩ v2):=by
 have hsbl:=h.lt sb h.rsb;have hz:=hg.size;have s1:=zv w2 sb 1 v2;have hz1:(w2.setCell ⟨sb,1,none⟩ v2).heap.size=w2.heap.size:=by simp[World.setCell]
 have hne:v2.ownBlock≠some sb:=λe=>by have:=hnew sb e;omega
 have hold:∀q,q<w.heap.size→q≠sb→(w2.setCell ⟨sb,1,none⟩ v2).heap[q]? = w.heap[q]?:=λq hq h0=>
  (s1.block q (by omega) (λe=>h0 (by injection e))).trans (hg.block q hq (by simp))
 refine⟨⟨?_,hr.grown s1 (λg hg2 e=>hne (by rw[hg2];exact e.symm)),(hok.turn λq hq=>hold q (h.lt q hq.1) hq.2.1).mono λq hq=>⟨Or.inl hq.1,hq.2.1,λe=>by have:=hnew q e;have:=h.lt q hq.1;omega⟩,Or.inl h.rsb,λg hg2=>Or.inr ⟨hnew g hg2,yl.lt hr hg2⟩,λq hq=>?_⟩,?_⟩
 ·simp only[World.setCell,Array.getElem?_modify,(hg.block sb hsbl (by simp)).trans h.box,if_true,Option.map_some]
  rfl
 ·rw[hz1]
  rcases hq with e|e
  ·have:=h.lt q e;omega
  ·exact e.2
 ·exact⟨s1.os.trans hg.os,s1.tape.trans hg.tape,s1.output.trans hg.output,by rw[hz1];exact hz,λq hq hn=>hold q hq (λe=>hn (e ▸ h.rsb))⟩
theorem Qk {b:Nat} (h:w.cell? ⟨b,i,none⟩=some u) (hb:b≠sb):(w.setCell ⟨sb,3,none⟩ v).cell? ⟨b,i,none⟩=some u:=
 (zv w sb 3 v).cell h (λe=>hb (by injection e))
theorem Ql (h:w.cell? ⟨sb,i,none⟩=some u) (hi:i≠3):(w.setCell ⟨sb,3,none⟩ v).cell? ⟨sb,i,none⟩=some u:=by
 go_simp
theorem zdf (h:w.cell? ⟨sb,3,none⟩=some u) (v:Value):(w.setCell ⟨sb,3,none⟩ v).cell? ⟨sb,3,none⟩=some v:=by
 go_simp
set_option maxRecDepth 100000 in
theorem Qe (h:S19 rss w sb db L next broken):Calls Tryz.prog 180 #[.pointer (some ⟨sb,0,none⟩),.int .i64 0] w λe w'=>e = .returned (.bool true)∧w'=w:=by
 obtain⟨c0,c2,c3,y,hsb⟩:=h.all;clear h
 go_enter Tryz.func180,Tryz.ntmps180
 go_wp2
 go_ret
 exact⟨rfl,rfl⟩
set_option maxRecDepth 100000 in
theorem zi0 (h:S19 rss w sb db L next broken) {e0:Int} (he:e0≠0):Calls Tryz.prog 180 #[.pointer (some ⟨sb,0,none⟩),.int .i64 e0] w λe w'=>e = .returned (.bool false)∧w'=w.setCell ⟨sb,3,none⟩ (.int .i64 e0):=by
 obtain⟨c0,c2,c3,y,hsb⟩:=h.all;have y3:=y 3;clear h
 go_enter Tryz.func180,Tryz.ntmps180
 go_wp2
 go_ret
 exact⟨by simp[he],rfl⟩
end
end Go.Proofs.YtbcbhlfjgobejaaGreat
