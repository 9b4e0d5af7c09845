/- starfishref19.find: the walk. Conditions: none, or as the theorems say. -/
import Derived.Test.YtbcbhlfjgobejaaGreatS36
set_option linter.unusedSimpArgs false
set_option linter.unusedVariables false
namespace Go.Proofs.YtbcbhlfjgobejaaGreat
set_option maxHeartbeats 200000000
open Go.RowKit Go.Sf Go.Shelf
variable {k:Int} {X:List (List Int)} {B:List Int} {L l:List Nat} {xb:Nat} {rs rs':Nat→Prop} {bv v:Value} {W w w':World}
structure Xt (w:World) (v:Value) (X:List (List Int)):Prop where
 ex:∃p cap,v = .slice p X.length cap∧(X = []∨∃b off,p=some ⟨b,off,none⟩∧∀i (hi:i<X.length),w.cell? ⟨b,off+i,none⟩=some (.string (ofB X[i])))
 ok:∀x∈X,x.length=256∧BL x
 n:X.length≤4096
theorem Xt.grown (h:Xt w v X) (hg:w.grownBy w' none):Xt w' v X:=by
 obtain⟨p,cap,rfl,hc⟩:=h.ex;refine⟨⟨p,cap,rfl,?_⟩,h.ok,h.n⟩
 rcases hc with h0|⟨b,off,rfl,h1⟩
 ·exact Or.inl h0
 ·exact Or.inr ⟨b,off,rfl,λi hi=>hg.cell (h1 i hi) (by simp)⟩
def fX (X:List (List Int)) (i:Nat):List Int:=X.getD i []
theorem zhy {i:Nat} (hi:i<X.length):fX X i=X[i]:=by simp[fX,List.getD_eq_getElem?_getD,List.getElem?_eq_getElem hi]
def zec (i:Nat):List Value:=[.int .i64 (i:Int)]
theorem zau (i:Nat):(zec i).length=1:=rfl
theorem ziw (i:Nat):∀u∈zec i,u.oneCell'=true:=λu hu=>by
 simp only[zec,List.mem_cons,List.not_mem_nil,or_false] at hu;subst hu;rfl
theorem zjx (X:World) (i:Nat):Zh (X.alloc (.cells #[.int .i64 (i:Int)] 3)) zec (.slice (some ⟨X.heap.size,0,none⟩) 1 1) [i]:=by
 refine⟨_,1,rfl,Or.inr ⟨_,rfl,λj u hu=>?_⟩⟩
 rw[ut]
 exact(zf (heap_alloc_new X _) j).trans (by simpa[zec] using hu)
def Jc (W w:World) (v:Value) (l:List Nat):Prop:=yl w 3 1 zec v l∧∀g,v.ownBlock=some g→W.heap.size≤g
structure Js (W w:World) (xb:Nat) (k:Int) (B:List Int) (L:List Nat) (bv:Value):Prop where
 res:w.heap[W.heap.size]? = some (.cells #[.int .i64 0,.string ⟨#[]⟩,.slice none 0 0] 198 (0,0))
 box:w.heap[xb]? = some (.cells #[.int .i64 k,.string (ofB B),bv] 198 (0,0))
 row:Jc W w bv L
 gr:W.grownBy w none
 lt:W.heap.size<xb
 bl:B.length≤L.length*230
theorem Js.kept (h:Js W w xb k B L bv) (hg:w.grownBy w' none):Js W w' xb k B L bv:=
 ⟨(hg.block _ (Array.getElem?_eq_some_iff.1 h.res).1 (by simp)).trans h.res,(hg.block _ (Array.getElem?_eq_some_iff.1 h.box).1 (by simp)).trans h.box,⟨h.row.1.grown hg (by simp),h.row.2⟩,zh h.gr hg,h.lt,h.bl⟩
theorem Js.add {W w w5 w6:World} {xb:Nat} {k:Int} {B b:List Int} {L:List Nat} {bv v':Value} {i:Nat} (h:Js W w xb k B L bv) (hb:b.length≤230) (hg:(w.setCell ⟨xb,1,none⟩ (.string (ofB (B++b)))).grownBy w5 none)
  (ha:Yg w5 3 1 zec bv (L ++ [i]) v' w6):Js W (w6.setCell ⟨xb,2,none⟩ v') xb k (B++b) (L ++ [i]) v':=by
 obtain⟨h1,h2,h3⟩:=ha;have hs1:=zv w xb 1 (.string (ofB (B++b)));have hs2:=zv w6 xb 2 v';have hrl:=(Array.getElem?_eq_some_iff.1 h.res).1;have hxl:=(Array.getElem?_eq_some_iff.1 h.box).1;have hne:bv.ownBlock≠some xb:=ji h.row.1 h.box (by decide)
 have hne2:bv.ownBlock≠some W.heap.size:=ji h.row.1 h.res (by decide)
 have hxr:xb≠W.heap.size:=by have:=h.lt;omega
 have r1:(w.setCell ⟨xb,1,none⟩ (.string (ofB (B++b)))).heap[W.heap.size]? = some (.cells #[.int .i64 0,.string ⟨#[]⟩,.slice none 0 0] 198 (0,0)):=(hs1.block _ hrl (λe=>hxr (by injection e with e;exact e.symm))).trans h.res
 have x1:(w.setCell ⟨xb,1,none⟩ (.string (ofB (B++b)))).heap[xb]? = some (.cells #[.int .i64 k,.string (ofB (B++b)),bv] 198 (0,0)):=by
  simp only[World.setCell,Array.getElem?_modify,h.box,if_true,Option.map_some]
  rfl
 have hsz:(w.setCell ⟨xb,1,none⟩ (.string (ofB (B++b)))).heap.size=w.heap.size:=by simp[World.setCell]
 have r5:=(hg.block _ (by rw[hsz];exact hrl) (by simp)).trans r1
 have x5:=(hg.block _ (by rw[hsz];exact hxl) (by simp)).trans x1
 have l5:=hg.size;rw[hsz] at l5;have r6:=(h2.block _ (Nat.lt_of_lt_of_le hrl l5) (λe=>hne2 e.symm)).trans r5
 have x6:=(h2.block _ (Nat.lt_of_lt_of_le hxl l5) (λe=>hne e.symm)).trans x5
 have g1:W.grownBy (w.setCell ⟨xb,1,none⟩ (.string (ofB (B++b)))) none:=xp h.gr hs1 (λg hg=>by injection hg with hg;have:=h.lt;omega)
 have g5:=zh g1 hg;have g6:W.grownBy w6 none:=xp g5 h2 h.row.2;have ho:∀g,v'.ownBlock=some g→W.heap.size≤g:=λg hg2=>by
  rcases h3 with e|e
  ·exact h.row.2 g (e ▸ hg2)
  ·rw[hg2] at e
   injection e with e
   have:=g5.size;omega
 have hbl:=h.bl;refine⟨(hs2.block _ (Nat.lt_of_lt_of_le (Nat.lt_of_lt_of_le hrl l5) h2.size) (λe=>hxr (by injection e with e;exact e.symm))).trans r6,?_,⟨h1.grown hs2 (λg hg2 e=>ji h1 x6 (by decide) (by rw[hg2];exact e.symm ▸ rfl)),ho⟩,xp g6 hs2 (λg hg=>by injection hg with hg;have:=h.lt;omega),h.lt,by rw[List.length_append,List.length_append,Nat.add_mul];simp;omega⟩
 simp only[World.setCell,Array.getElem?_modify,x6,if_true,Option.map_some]
 rfl
theorem zli:∃(i:TypeInfo) (z:Value) (by_:Nat),Tryz.prog.info? 3=some i∧i.zero=some z∧i.size=1∧i.bytes=by_∧z.cells.size=1∧by_≤1000:=by
 have h:((Tryz.prog.info? 3).bind λi=>i.zero.map λz=>(i.size,decide (i.bytes≤1000),z.cells.size))=some (1,true,1):=by kernel_rfl
 cases hi:Tryz.prog.info? 3 with
 | none=>rw[hi] at h;cases h
 | some i=>
  rw[hi] at h
  cases hz:i.zero with
  | none=>simp[hz] at h
  | some z=>
   simp[hz] at h
   exact⟨i,z,_,rfl,hz,h.1,rfl,h.2.2,h.2.1⟩
def zc7 (W:World) (k:Int) (R:Option ye) (e:Ending) (w':World):Prop:=W.grownBy w' none∧match R with
 | none=>e = .returned (.tuple #[.agg #[.int .i64 0,.string ⟨#[]⟩,.slice none 0 0],.bool false])
 | some r=>∃bv,e = .returned (.tuple #[.agg #[.int .i64 k,.string (ofB r.1),bv],.bool true])∧Jc W w' bv r.2
theorem zdj (f:Nat→List Int) (N:Nat) (k:Int) (c j:Nat) (B:List Int) (L:List Nat) (h:findR zo f N k c j=some (B,L)):findR zo f N k c (j+1)=match firstP zo f ⟨k,c⟩ j N with
  | none=>none
  | some x=>some (B++x.2,L ++ [x.1]):=by
 conv=>lhs;unfold findR
 rw[h]
 rfl
theorem zfi {f:Nat→List Int} {K:zt} {j q:Nat} {x:Nat × List Int} (h:firstP zo f K j q=some x):∀n,q≤n→firstP zo f K j n=some x
 | 0,hn=>by
  obtain rfl:q=0:=by omega
  exact h
 | n+1,hn=>by
  rcases Nat.lt_or_ge q (n+1) with hl|hl
  ·unfold firstP
   rw[zfi h n (by omega)]
  ·obtain rfl:q=n+1:=by omega
   exact h
theorem Js.cells (h:Js W w xb k B L bv):w.cell? ⟨xb,0,none⟩=some (.int .i64 k)∧w.cell? ⟨xb,1,none⟩=some (.string (ofB B))∧w.cell? ⟨xb,2,none⟩=some bv∧(∀i,w.frozen? ⟨xb,i,none⟩=false)∧(∀i,w.frozen? ⟨W.heap.size,i,none⟩=false)∧w.cell? ⟨W.heap.size,0,none⟩=some (.int .i64 0)∧w.cell? ⟨W.heap.size,1,none⟩=some (.string ⟨#[]⟩)∧w.cell? ⟨W.heap.size,2,none⟩=some (.slice none 0 0):=by
 have h1:=h.box;have h2:=h.res;refine⟨?_,?_,?_,λi=>?_,λi=>?_,?_,?_,?_⟩ <;> simp[World.cell?,World.frozen?,h1,h2]
theorem Js.out (h:Js W w xb k B L bv) (a b d:Value):(((w.setCell ⟨W.heap.size,0,none⟩ a).setCell ⟨W.heap.size,1,none⟩ b).setCell ⟨W.heap.size,2,none⟩ d).heap[W.heap.size]? = some (.cells #[a,b,d] 198 (0,0))∧W.grownBy (((w.setCell ⟨W.heap.size,0,none⟩ a).setCell ⟨W.heap.size,1,none⟩ b).setCell ⟨W.heap.size,2,none⟩ d) none∧Jc W (((w.setCell ⟨W.heap.size,0,none⟩ a).setCell ⟨W.heap.size,1,none⟩ b).setCell ⟨W.heap.size,2,none⟩ d) bv L:=by
 have hne:bv.ownBlock≠some W.heap.size:=ji h.row.1 h.res (by decide)
 have hr:=h.res;have g1:=zv w W.heap.size 0 a;have g2:=zv (w.setCell ⟨W.heap.size,0,none⟩ a) W.heap.size 1 b;have g3:=zv ((w.setCell ⟨W.heap.size,0,none⟩ a).setCell ⟨W.heap.size,1,none⟩ b) W.heap.size 2 d;have hle:∀g,some W.heap.size=some g→W.heap.size≤g:=λg hg=>by injection hg with hg;omega
 refine⟨?_,xp (xp (xp h.gr g1 hle) g2 hle) g3 hle,⟨((h.row.1.grown g1 (λg hg e=>hne (by rw[hg];exact e.symm))).grown g2 (λg hg e=>hne (by rw[hg];exact e.symm))).grown g3 (λg hg e=>hne (by rw[hg];exact e.symm)),h.row.2⟩⟩
 simp only[World.setCell,Array.getElem?_modify,hr,if_true,Option.map_some]
 rfl
theorem zb6 (f:Nat→List Int) (N:Nat) (k:Int) (c:Nat):∀n j,findR zo f N k c j=none→findR zo f N k c (j+n)=none
 | 0,j,h=>h
 | n+1,j,h=>by
  show findR zo f N k c (j+n+1)=none
  unfold findR;rw[zb6 f N k c n j h]
set_option maxRecDepth 100000 in
theorem znf (h:Xt W v X) (hk:1≤k) (c:Nat) (hc:c≤570):Calls Tryz.prog 111 #[v,.int .i64 k,.int .i64 (c:Int)] W (zc7 W k (findR zo (fX X) X.length k c c)):=by
 obtain⟨i0,z0,by0,hi,hz0,hz1,hz2,hz3,hz4⟩:=zli;have HB:=zd h;obtain⟨p,cap,rfl,-⟩:=h.ex;obtain⟨N,hN⟩:∃N,N=X.length:=⟨_,rfl⟩;have HN:=zd hN;have hN4:=h.n;rw[←hN] at hN4 ⊢;clear h hN;have HPF:=zd (show ∀e w',zc7 W k (findR zo (fX X) N k c c) e w'→zc7 W k (findR zo (fX X) N k c c) e w' from λ_ _ h=>h)
 have HPART:Hid (∀w,∀i,(hi:i<X.length)→Calls Tryz.prog 108 #[.string (ofB X[i])] w λe w'=>e = .returned (.tuple (partV X[i]))∧w.grownBy w' none):=(λw i hi=>zbt (HB.out.ok _ (List.getElem_mem hi)).1 (HB.out.ok _ (List.getElem_mem hi)).2 w)
 generalize hPP:zc7 W k (findR zo (fX X) N k c c)=PP at *;have HPP:=zd hPP;clear hPP HPF
 go_enter Tryz.func111,Tryz.ntmps111
 go_upto_region 3 with fail
 have hF0:Js W ((W.alloc (.cells #[.int .i64 0,.string ⟨#[]⟩,.slice none 0 0] 198)).alloc (.cells #[.int .i64 k,.string ⟨#[]⟩,.slice none 0 0] 198)) (W.heap.size+1) k [] [] (.slice none 0 0):=by
  have e:(W.alloc (.cells #[.int .i64 0,.string ⟨#[]⟩,.slice none 0 0] 198)).heap.size=W.heap.size+1:=by simp
  refine⟨?_,?_,⟨⟨rfl,Or.inl ⟨rfl,rfl⟩⟩,λg hg=>by simp[Value.ownBlock] at hg⟩,zh (ze _ _ none) (ze _ _ none),by omega,by simp⟩
  ·exact((ze _ _ none).block _ (by rw[e];omega) (by simp)).trans (heap_alloc_new _ _)
  ·rw[←e];exact heap_alloc_new _ _
 have HF0:=zd hF0;clear hF0;obtain⟨xb,hxb⟩:∃xb,xb=W.heap.size+1:=⟨_,rfl⟩;rw[←hxb] at HF0 ⊢;have HXB:Hid (W.heap.size≠xb):=(show _≠_ from by omega)
 clear hxb
 go_loopw [9] (λi wr=>∃(j:Nat) (B:List Int) (L:List Nat) (bv:Value),j≤c∧i = .int .i64 j∧L.length=j∧findR zo (fX X) N k c j=some (B,L)∧Js W wr xb k B L bv) (λi _=>c-(intOf i).toNat)
 case atStart=>exact⟨0,[],[],_,by omega,rfl,rfl,rfl,HF0.out⟩
 case round=>
  clear HF0;obtain⟨j,B,L,bv,hj,rfl,hLl,hfr,hfb⟩:=hrel;have HF:=zd hfb;have HFR:=zd hfr;have HLL:=zd hLl;clear hfb hfr hLl
  by_cases hjc:j<c
  ·go_upto_region 7 with fail
   generalize wr=wz at *
   go_loopw [10,11] (λfd n w=>∃q:Nat,q≤N∧n = .int .i64 q∧((fd = .bool false∧firstP zo (fX X) ⟨k,c⟩ j q=none∧Js W w xb k B L bv)∨(fd = .bool true∧∃x bv',firstP zo (fX X) ⟨k,c⟩ j q=some x∧Js W w xb k (B++x.2) (L ++ [x.1]) bv'))) (λ_ n _=>N-(intOf n).toNat)
   case atStart=>exact⟨0,by omega,rfl,Or.inl ⟨rfl,rfl,HF.out⟩⟩
   case round=>
    clear HF;obtain⟨q,hq,rfl,⟨rfl,hfp,hfb⟩|⟨rfl,x,bv',hfp,hfb⟩⟩:=hrel
    ·have HF:=zd hfb
     have HFP:=zd hfp;clear hfb hfp
     by_cases hqN:q<N
     ·have hql:q<X.length:=by rw[←HN.out];exact hqN
      have HPA:=zd (HPART.out wr q hql);obtain⟨b1,off1,rfl,cq⟩:∃b off,p=some ⟨b,off,none⟩∧wr.cell? ⟨b,off+q,none⟩=some (.string (ofB X[q])):=by
       obtain⟨p',cap',e,h1⟩:=HB.out.ex
       injection e with e1
       subst e1
       rcases h1 with h0|⟨b,off,rfl,h1⟩
       ·rw[h0] at hql;simp at hql
       ·exact⟨b,off,rfl,HF.out.gr.cell (h1 q hql) (by simp)⟩
      have hfs:fX X q=X[q]:=zhy hql;have HNO:Hid ((∀b,saidP zo X[q]≠some ⟨k,j,c,b⟩)→firstP zo (fX X) ⟨k,c⟩ j (q+1)=none):=(λhno=>by
       unfold firstP;rw[HFP.out,hfs];simp only
       cases e:saidP zo X[q] with
       | none=>rfl
       | some p=>
        simp only;rw[if_neg (λe2=>by
         obtain⟨pk,pi,pc,pb⟩:=p;obtain⟨e3,e4,e5⟩:=e2;simp only at e3 e4 e5;subst e3 e4 e5
         exact hno _ e)])
      have HYES:Hid (∀b,saidP zo X[q]=some ⟨k,j,c,b⟩→firstP zo (fX X) ⟨k,c⟩ j (q+1)=some (q,b)):=(λb hy=>by
       unfold firstP;rw[HFP.out,hfs,hy];simp)
      clear hfs;unfold partV at HPA
      cases hsd:saidP zo X[q] with
      | none=>
       rw[hsd] at HPA;simp only at HPA;have HNO2:=zd (HNO.out (λb e=>by rw[hsd] at e;cases e))
       have hk0:((0:Int) == k)=false:=by simp;omega
       clear HNO HYES hsd
       go_wp2_with (go_at_call 108;refine HPA.out.mono ?_;rintro e w5 ⟨rfl,hg⟩;have HG5:=zd hg;clear hg)
       exact⟨⟨q+1,by omega,by simp,Or.inl ⟨rfl,HNO2.out,HF.out.kept HG5.out⟩⟩,by simp[intOf];omega⟩
      | some pp=>
       obtain⟨pk,pi,pc,pb⟩:=pp;rw[hsd] at HPA;simp only at HPA;have hml:=(yr hsd).1.l1;simp only at hml;have HSD:=zd hsd;have HML:Hid (pb.length≤230):=(show _≤_ from hml)
       clear hsd
       by_cases t1:pk=k
       ·have T1:=zd t1
        have t1b:((pk:Int) == k)=true:=by simp;omega
        clear t1
        by_cases t2:pi=j
        ·have T2:=zd t2
         have t2b:((pi:Int) == (j:Int))=true:=by simp;omega
         clear t2
         by_cases t3:pc=c
         ·have T3:=zd t3
          have t3b:((pc:Int) == (c:Int))=true:=by simp;omega
          clear t3;have HYS:=zd (HYES.out pb (by rw[HSD.out,T1.out,T2.out,T3.out]))
          clear HNO HYES;obtain⟨pl,cl,hbv,-,-⟩:=HF.out.row.1.form;subst hbv
          go_upto_region 12 with (go_at_call 108;refine HPA.out.mono ?_;rintro e w5 ⟨rfl,hg⟩;have HG5:=zd hg;clear hg)
          have HF5:=zd (HF.out.kept HG5.out);obtain⟨s0,s1,s2,s3,s4,s5,s6,s7⟩:=HF5.out.cells;have hcat:ofB B++ofB pb=ofB (B++pb):=zg5 _ _;have hsum:¬(9223372036854775807<(ofB B).size+(ofB pb).size):=by rw[yu,yu];have:=HF.out.bl;have:=HLL.out;omega
          have hLb:L.length≤1000:=by have:=HLL.out;omega
          have hs3:=s3 1;have hs4:=s3 2;have HROW:Hid (yl ((w5.setCell ⟨xb,1,none⟩ (.string (ofB (B++pb)))).alloc (.cells #[.int .i64 (q:Int)] 3)) 3 1 zec (.slice pl L.length cl) L):=(show yl _ _ _ _ _ _ from (HF5.out.row.1.grown (zv w5 xb 1 (.string (ofB (B++pb)))) (λg hg e=>ji HF5.out.row.1 HF5.out.box (by decide) (by rw[hg];exact e.symm))).grown (ze _ _ none) (by simp))
          have HY:Hid (Zh ((w5.setCell ⟨xb,1,none⟩ (.string (ofB (B++pb)))).alloc (.cells #[.int .i64 (q:Int)] 3)) zec (.slice (some ⟨w5.heap.size,0,none⟩) 1 1) [q]):=(show Zh _ _ _ _ from by
           have h1:=zjx (w5.setCell ⟨xb,1,none⟩ (.string (ofB (B++pb)))) q;rw[show(w5.setCell ⟨xb,1,none⟩ (.string (ofB (B++pb)))).heap.size=w5.heap.size by simp[World.setCell]] at h1
           exact h1)
          have HX1:Hid (((w5.setCell ⟨xb,1,none⟩ (.string (ofB (B++pb)))).alloc (.cells #[.int .i64 (q:Int)] 3)).heap[xb]? = some (.cells #[.int .i64 k,.string (ofB (B++pb)),.slice pl L.length cl] 198 (0,0))):=(show _=_ from by
           have hxl:=(Array.getElem?_eq_some_iff.1 HF5.out.box).1;rw[(ze _ _ none).block xb (by simp[World.setCell];exact hxl) (by simp)]
           simp only[World.setCell,Array.getElem?_modify,HF5.out.box,if_true,Option.map_some]
           rfl)
          go_wp2_with (at_builtin;refine xn (E:=3) (sz:=1) (enc:=zec) (v:=.slice pl L.length cl) (l:=L) (m:=[q]) _ rfl _ _ 44 rfl zau ziw i0 z0 by0 Tryz.underlying44 hi hz0 hz1 hz2 hz3 (by decide) hz4 rfl HROW.out rfl HY.out (by simp;omega) (L.length+1) (by simp) ?_;intro p9 c9 w9 hap;have hx9:=(hap.2.1.block xb (Array.getElem?_eq_some_iff.1 HX1.out).1 (λe=>ji HROW.out HX1.out (by decide) e.symm)).trans HX1.out;have HAP:=zd hap;have f91:=(zf hx9 2).trans rfl;have f92:w9.frozen? ⟨xb,2,none⟩=false:=(by simp[World.frozen?,hx9]);clear hap hx9)
          exact⟨⟨q+1,by omega,by simp,Or.inr ⟨rfl,(q,pb),_,HYS.out,HF5.out.add HML.out (ze _ _ none) HAP.out⟩⟩,by simp[intOf];omega⟩
         ·have T3:=zd (show ¬pc=c from t3)
          have t3b:((pc:Int) == (c:Int))=false:=by simp;omega
          clear t3;have HNO2:=zd (HNO.out (λb e=>by rw[HSD.out] at e;injection e with e;have e1:=congrArg Prt.count e;exact T3.out e1))
          clear HNO HYES
          go_wp2_with (go_at_call 108;refine HPA.out.mono ?_;rintro e w5 ⟨rfl,hg⟩;have HG5:=zd hg;clear hg)
          exact⟨⟨q+1,by omega,by simp,Or.inl ⟨rfl,HNO2.out,HF.out.kept HG5.out⟩⟩,by simp[intOf];omega⟩
        ·have T2:=zd (show ¬pi=j from t2)
         have t2b:((pi:Int) == (j:Int))=false:=by simp;omega
         clear t2;have HNO2:=zd (HNO.out (λb e=>by rw[HSD.out] at e;injection e with e;have e1:=congrArg Prt.index e;exact T2.out e1))
         clear HNO HYES
         go_wp2_with (go_at_call 108;refine HPA.out.mono ?_;rintro e w5 ⟨rfl,hg⟩;have HG5:=zd hg;clear hg)
         exact⟨⟨q+1,by omega,by simp,Or.inl ⟨rfl,HNO2.out,HF.out.kept HG5.out⟩⟩,by simp[intOf];omega⟩
       ·have T1:=zd (show ¬pk=k from t1)
        have t1b:((pk:Int) == k)=false:=by simp;omega
        clear t1;have HNO2:=zd (HNO.out (λb e=>by rw[HSD.out] at e;injection e with e;have e1:=congrArg Prt.k e;exact T1.out e1))
        clear HNO HYES
        go_wp2_with (go_at_call 108;refine HPA.out.mono ?_;rintro e w5 ⟨rfl,hg⟩;have HG5:=zd hg;clear hg)
        exact⟨⟨q+1,by omega,by simp,Or.inl ⟨rfl,HNO2.out,HF.out.kept HG5.out⟩⟩,by simp[intOf];omega⟩
     ·obtain rfl:q=N:=by omega
      obtain⟨s0,s1,s2,s3,s4,s5,s6,s7⟩:=HF.out.cells;have z3:=s4 0;have z4:=s4 1;have z5:=s4 2;have HOUT:=zd (HF.out.out (.int .i64 0) (.string ⟨#[]⟩) (.slice none 0 0));have HFN:Hid (findR zo (fX X) q k c c=none):=(show _=_ from by
       have h1:=zdj (fX X) q k c j B L HFR.out;rw[HFP.out] at h1;have h2:=zb6 (fX X) q k c (c-(j+1)) (j+1) h1;rw[show j+1+(c-(j+1))=c by omega] at h2
       exact h2)
      clear HF HFP s3 s4;go_wp2;refine bodyPost_ret (ql rfl _ _ W.heap.size 198 _ (0,0) _ rfl HOUT.out.1 rfl Tryz.underlying198 (by kernel_rfl)) rfl ?_
      rw[←HPP.out];unfold zc7;rw[HFN.out]
      exact⟨HOUT.out.2.1,rfl⟩
    ·obtain⟨s0,s1,s2,s3,s4,s5,s6,s7⟩:=hfb.cells
     have HF2:=zd hfb;have HFN:Hid (findR zo (fX X) N k c (j+1)=some (B++x.2,L ++ [x.1])):=(show _=_ from by
      rw[zdj (fX X) N k c j B L HFR.out,zfi hfp N hq])
     clear hfb hfp s3 s4;go_wp2
     all_goals exact⟨⟨j+1,_,_,_,by omega,by simp,by have:=HLL.out;simp;omega,HFN.out,HF2.out⟩,by simp[intOf];omega⟩
  ·obtain rfl:j=c:=by omega
   obtain⟨pl,cl,hbv,-,-⟩:=HF.out.row.1.form;subst hbv;obtain⟨s0,s1,s2,s3,s4,s5,s6,s7⟩:=HF.out.cells;have z3:=s4 0;have z4:=s4 1;have z5:=s4 2;have HOUT:=zd (HF.out.out (.int .i64 k) (.string (ofB B)) (.slice pl L.length cl));clear HF s3 s4;go_wp2;refine bodyPost_ret (ql rfl _ _ W.heap.size 198 _ (0,0) _ rfl HOUT.out.1 rfl Tryz.underlying198 (by kernel_rfl)) rfl ?_
   rw[←HPP.out];unfold zc7;rw[HFR.out]
   exact⟨HOUT.out.2.1,_,rfl,HOUT.out.2.2⟩
structure RcM where
 k:Int
 b:List Int
 p:Option Addr
 n:Nat
 c:Nat
def rcE (r:RcM):List Value:=[.int .i64 r.k,.string (ofB r.b),.slice r.p r.n r.c]
theorem qe (r:RcM):(rcE r).length=3:=rfl
theorem Zm (r:RcM):∀u∈rcE r,u.oneCell'=true:=λu hu=>by
 simp only[rcE,List.mem_cons,List.not_mem_nil,or_false] at hu
 rcases hu with rfl|rfl|rfl <;> rfl
def jy (rs:Nat→Prop) (w:World) (v:Value) (l:List Nat):Prop:=∃p cap,v = .slice p l.length cap∧(l = []∨∃b off,p=some ⟨b,off,none⟩∧rs b∧∀j (hj:j<l.length),w.cell? ⟨b,off+j,none⟩=some (.int .i64 (l[j]:Int)))
theorem jy.turn (h:jy rs w v l) (hs:∀k,rs k→w'.heap[k]? = w.heap[k]?):jy rs w' v l:=by
 obtain⟨p,cap,rfl,hc⟩:=h;refine⟨p,cap,rfl,?_⟩
 rcases hc with h0|⟨b,off,rfl,h1,h2⟩
 ·exact Or.inl h0
 ·refine Or.inr ⟨b,off,rfl,h1,λj hj=>?_⟩
  rw[←h2 j hj]
  exact World.cell?_of_block (a:=⟨b,off+j,none⟩) (hs b h1)
theorem jy.mono (h:jy rs w v l) (hs:∀k,rs k→rs' k):jy rs' w v l:=by
 obtain⟨p,cap,rfl,hc⟩:=h;refine⟨p,cap,rfl,?_⟩
 rcases hc with h0|⟨b,off,rfl,h1,h2⟩
 ·exact Or.inl h0
 ·exact Or.inr ⟨b,off,rfl,hs _ h1,h2⟩
theorem zfw (h:Jc W w v l) {P:Nat→Prop} (hP:∀k,v.ownBlock=some k→P k):jy P w v l:=by
 obtain⟨p,cap,e,hcm,hlc⟩:=h.1.form;refine⟨p,cap,e,?_⟩
 rcases yl.at zau h.1 with h0|⟨g,c,e2,hc,_⟩
 ·exact Or.inl h0
 ·rw[e2] at e
  injection e with e1
  refine Or.inr ⟨g,0,e1.symm,hP g (by rw[e2];rfl),λj hj=>?_⟩
  rw[Nat.zero_add];have:=hc j hj 0 _ rfl;rw[Nat.mul_one,Nat.add_zero] at this
  exact this
def Jj (rs:Nat→Prop) (w:World) (r:RcM) (q:Int × ye):Prop:=r.k=q.1∧r.b=q.2.1∧jy rs w (.slice r.p r.n r.c) q.2.2
theorem Jj.turn {r:RcM} {q:Int × ye} (h:Jj rs w r q) (hs:∀k,rs k→w'.heap[k]? = w.heap[k]?):Jj rs w' r q:=⟨h.1,h.2.1,h.2.2.turn hs⟩
theorem Jj.mono {r:RcM} {q:Int × ye} (h:Jj rs w r q) (hs:∀k,rs k→rs' k):Jj rs' w r q:=⟨h.1,h.2.1,h.2.2.mono hs⟩
theorem Jj.len {r:RcM} {q:Int × ye} (h:Jj rs w r q):r.n=q.2.2.length:=by
 obtain⟨p,cap,e,_⟩:=h.2.2
 injection e
inductive ug (rs:Nat→Prop) (w:World):List RcM→List (Int × ye)→Prop
 | nil:ug rs w [] []
 | cons {r q ms L}:Jj rs w r q→ug rs w ms L→ug rs w (r :: ms) (q :: L)
section
variable {rs rs' : Nat → Prop} {w w' : World}
theorem ug.turn {ms:List RcM} {L:List (Int × ye)} (h:ug rs w ms L) (hs:∀k,rs k→w'.heap[k]? = w.heap[k]?):ug rs w' ms L:=by
 induction h with
 | nil=>exact .nil
 | cons h1 _ ih=>exact .cons (h1.turn hs) ih
theorem ug.mono {ms:List RcM} {L:List (Int × ye)} (h:ug rs w ms L) (hs:∀k,rs k→rs' k):ug rs' w ms L:=by
 induction h with
 | nil=>exact .nil
 | cons h1 _ ih=>exact .cons (h1.mono hs) ih
theorem ug.len {ms:List RcM} {L:List (Int × ye)} (h:ug rs w ms L):ms.length=L.length:=by
 induction h with
 | nil=>rfl
 | cons _ _ ih=>simp[ih]
theorem ug.app {ms ms2:List RcM} {L L2:List (Int × ye)} (h:ug rs w ms L) (g:ug rs w ms2 L2):ug rs w (ms++ms2) (L++L2):=by
 induction h with
 | nil=>exact g
 | cons h1 _ ih=>exact .cons h1 ih
theorem ug.one {r:RcM} {q:Int × ye} (h:Jj rs w r q):ug rs w [r] [q]:=.cons h .nil
theorem ug.get {ms:List RcM} {L:List (Int × ye)} (h:ug rs w ms L):∀i (hi:i<ms.length) (hj:i<L.length),Jj rs w ms[i] L[i]:=by
 induction h with
 | nil=>intro i hi;simp at hi
 | cons h1 _ ih=>
  intro i hi hj
  cases i with
  | zero=>exact h1
  | succ i=>exact ih i (by simpa using hi) (by simpa using hj)
end
structure jb (rs:Nat→Prop) (w:World) (sb db:Nat) (lv:Value) (ms:List RcM) (L:List (Int × ye)) (next broken:Int):Prop where
 box:w.heap[sb]? = some (.cells #[.pointer (some ⟨db,0,none⟩),lv,.int .i64 next,.int .i64 broken] 193 (0,0))
 row:yl w 198 3 rcE lv ms
 ok:ug (λk=>rs k∧k≠sb∧lv.ownBlock≠some k) w ms L
 rsb:rs sb
 rlv:∀g,lv.ownBlock=some g→rs g
 lt:∀k,rs k→k<w.heap.size
def S19 (rs:Nat→Prop) (w:World) (sb db:Nat) (L:List (Int × ye)) (next broken:Int):Prop:=∃lv ms,jb rs w sb db lv ms L next broken
section
variable {L P : List (Int × ye)} {r x : Int × ye}
theorem Xa (y:Int × ye) (t:List (Int × ye)):jp (y :: t) r=if y.1=r.1 then (if r.2.2.length<y.2.2.length then r else y) :: t else if r.1<y.1 then r :: y :: t else y :: jp t r:=by
 conv=>lhs;unfold jp
theorem Ju:∀(P:List (Int × ye)),(∀y∈P,y.1<r.1)→∀Q,jp (P++Q) r=P++jp Q r
 | [],_,Q=>rfl
 | y :: t,h,Q=>by
  have h1:=h y (by simp)
  show jp (y :: (t++Q)) r=y :: (t++jp Q r)
  rw[Xa,if_neg (by omega),if_neg (by omega),Ju t (λz hz=>h z (List.mem_cons_of_mem _ hz)) Q]
theorem ze7:∀(P:List (Int × ye)),(∃y∈P,r.1≤y.1)→∀Q,jp (P++Q) r=jp P r++Q
 | [],h,Q=>by obtain⟨y,hy,_⟩:=h;simp at hy
 | y :: t,h,Q=>by
  show jp (y :: (t++Q)) r=jp (y :: t) r++Q
  rw[Xa,Xa]
  by_cases h1:y.1=r.1
  ·rw[if_pos h1,if_pos h1];rfl
  ·rw[if_neg h1,if_neg h1]
   by_cases h2:r.1<y.1
   ·rw[if_pos h2,if_pos h2];rfl
   ·rw[if_neg h2,if_neg h2]
    have:∃z∈t,r.1≤z.1:=by
     obtain⟨z,hz,hl⟩:=h
     rcases List.mem_cons.1 hz with rfl|hz
     ·omega
     ·exact⟨z,hz,hl⟩
    rw[ze7 t this Q]
    rfl
theorem zmb (hx:x.1=r.1):jp [x] r = [if r.2.2.length<x.2.2.length then r else x]:=by
 rw[Xa,if_pos hx]
theorem addR_gt (hx:r.1<x.1):jp [x] r = [r,x]:=by
 rw[Xa,if_neg (by omega),if_pos hx]
end
end Go.Proofs.YtbcbhlfjgobejaaGreat
