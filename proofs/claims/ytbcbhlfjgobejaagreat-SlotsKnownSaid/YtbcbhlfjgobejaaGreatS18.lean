/- A part takes its place in a row, unless there is one: the walk. Conditions: none, or as the theorems say. -/
import Derived.Test.YtbcbhlfjgobejaaGreatS1
import Derived.Test.YtbcbhlfjgobejaaGreatS17
import Derived.RangeFuncNested
import Derived.RangeFuncLeaves
import Derived.Shelf.SlSortCmp.WholeK
import Derived.Deep.RegionHeld3
import Derived.Test.YtbcbhlfjgobejaaGreatS15
set_option linter.unusedSimpArgs false
set_option linter.unusedVariables false
namespace Go.Proofs.YtbcbhlfjgobejaaGreat
set_option maxHeartbeats 200000000
open Go.RowKit Go.Sf
variable {b:List Int} {ab i j pb tb:Nat} {rp:Nat→Prop} {v:Value} {W:World}
theorem zh1:∀(cs:List (Nat × Value × List Int)) (j:Nat) (c:Nat × Value × List Int),j<cs.length→(((cs.flatMap ym).set (j*2) (.int .i64 (c.1:Int))).set (j*2+1) c.2.1)=(cs.set j c).flatMap ym
 | [],j,c,h=>absurd h (by simp)
 | x :: t,0,c,h=>by simp[ym]
 | x :: t,j+1,c,h=>by
  have ih:=zh1 t j c (by simpa using h)
  rw[List.flatMap_cons,List.set_cons_succ,List.flatMap_cons,←ih];rw[show(j+1)*2=(j*2+1)+1 by omega]
  simp[ym]
theorem zot (cs:List (Nat × Value × List Int)):(cs.flatMap ym).length=cs.length*2:=by
 induction cs with
 | nil=>rfl
 | cons x t ih=>rw[List.flatMap_cons,List.length_append,ih];simp[ym];omega
theorem Ys.set {cs:List (Nat × Value × List Int)} {r:xr} (h:Ys W rp pb ab tb cs r) (hj:j<r.there.length) (hf:r.there.getD j true=false) (hv:xw rp W v (zg b)) (hrp:∀k,rp k→k≠ab∧k≠tb) (hne:pb≠ab∧pb≠tb∧ab≠tb) :
  Ys (((W.setCell ⟨ab,j*2,none⟩ (.int .i64 i)).setCell ⟨ab,j*2+1,none⟩ v).setCell ⟨tb,j,none⟩ (.bool true)) rp pb ab tb (cs.set j (i,v,b)) (ja r j (i,b))∧zm (λk=>k=ab∨k=tb) W (((W.setCell ⟨ab,j*2,none⟩ (.int .i64 i)).setCell ⟨ab,j*2+1,none⟩ v).setCell ⟨tb,j,none⟩ (.bool true)):=by
 have t1:=(yh W ab (j*2) (.int .i64 i)).mono (cs:=λk=>k=ab∨k=tb) (λk hk=>Or.inl hk)
 have t2:=(yh (W.setCell ⟨ab,j*2,none⟩ (.int .i64 i)) ab (j*2+1) v).mono (cs:=λk=>k=ab∨k=tb) (λk hk=>Or.inl hk)
 have t3:=(yh ((W.setCell ⟨ab,j*2,none⟩ (.int .i64 i)).setCell ⟨ab,j*2+1,none⟩ v) tb j (.bool true)).mono (cs:=λk=>k=ab∨k=tb) (λk hk=>Or.inr hk)
 have ht:=(t1.trans t2).trans t3;have er:ja r j (i,b)=⟨r.cells.set j (i,b),r.there.set j true⟩:=by unfold ja;rw[hf];rfl
 have hl:=h.lt;refine⟨⟨?_,?_,?_,?_,λc hc=>?_,?_,?_⟩,ht⟩
 ·rw[er]
  simp only[List.length_set]
  exact(ht.block pb hl.1 (λe=>by rcases e with e|e;exact hne.1 e;exact hne.2.1 e)).trans h.box
 ·rw[←zh1 cs j (i,v,b) (by rw[h.len];exact hj)]
  simp[World.setCell,Array.getElem?_modify,h.at_,Ne.symm hne.2.2,hne.2.2]
 ·rw[er,←ze9]
  simp[World.setCell,Array.getElem?_modify,h.there,Ne.symm hne.2.2,hne.2.2]
 ·rw[er,List.map_set,←h.cells]
 ·have hk:∀k,rp k→(((W.setCell ⟨ab,j*2,none⟩ (.int .i64 i)).setCell ⟨ab,j*2+1,none⟩ v).setCell ⟨tb,j,none⟩ (.bool true)).heap[k]? = W.heap[k]?:=λk hk=>by
   obtain⟨n1,n2⟩:=hrp k hk;simp[World.setCell,Array.getElem?_modify,Ne.symm n1,Ne.symm n2]
  rcases List.mem_or_eq_of_mem_set hc with h1|h1
  ·exact(h.rows c h1).turn hk
  ·subst h1;exact hv.turn hk
 ·rw[er];simpa using h.len
 ·rw[er];simpa using h.few
set_option maxRecDepth 100000 in
theorem rset {cs:List (Nat × Value × List Int)} {r:xr} (h:Ys W rp pb ab tb cs r) (hj:j<r.there.length) (hv:xw rp W v (zg b)) (hrp:∀k,rp k→k≠ab∧k≠tb∧k<W.heap.size) (hne:pb≠ab∧pb≠tb∧ab≠tb) :
  Calls Tryz.prog 86 #[.pointer (some ⟨pb,0,none⟩),.int .i64 (j:Int),.agg #[.int .i64 (i:Int),v]] W λe w'=>e = .returned (.tuple #[])∧(∃cs',Ys w' rp pb ab tb cs' (ja r j (i,b)))∧zm (λk=>k=ab∨k=tb) W w':=by
 obtain⟨pv,cv,rfl,-,-,-⟩:=hv.ex;generalize hnn:(zg b).length=nb at *;have hl:=h.lt;have hfew:=h.few;have c0:W.cell? ⟨pb,0,none⟩=some (.slice (some ⟨ab,0,none⟩) r.there.length r.there.length):=(zf h.box 0).trans rfl;have c1:W.cell? ⟨pb,1,none⟩=some (.slice (some ⟨tb,0,none⟩) r.there.length r.there.length):=(zf h.box 1).trans rfl;obtain⟨x,hx⟩:∃x,r.there[j]? = some x:=⟨_,List.getElem?_eq_getElem hj⟩;have ct:W.cell? ⟨tb,j,none⟩=some (.bool x):=by rw[zf h.there];simp[ul,hx]
 have HG:Hid (W.grownBy (W.alloc (.cells #[.int .i64 (i:Int),.slice pv nb cv] 146)) none):=(ze _ _ none);have HK:Hid (∀w',W.grownBy w' none→Ys w' rp pb ab tb cs r∧xw rp w' (.slice pv nb cv) (zg b)):=(λw' hg=>⟨h.kept (hg.block _ hl.1 (by simp)) (hg.block _ hl.2.1 (by simp)) (hg.block _ hl.2.2 (by simp)) (λk hk=>hg.block k (hrp k hk).2.2 (by simp)),hv.turn λk hk=>hg.block k (hrp k hk).2.2 (by simp)⟩)
 cases x
 ·have HS:Hid (∀w',W.grownBy w' none→Ys (((w'.setCell ⟨ab,j*2,none⟩ (.int .i64 i)).setCell ⟨ab,j*2+1,none⟩ (.slice pv nb cv)).setCell ⟨tb,j,none⟩ (.bool true)) rp pb ab tb (cs.set j (i,.slice pv nb cv,b)) (ja r j (i,b))∧zm (λk=>k=ab∨k=tb) W (((w'.setCell ⟨ab,j*2,none⟩ (.int .i64 i)).setCell ⟨ab,j*2+1,none⟩ (.slice pv nb cv)).setCell ⟨tb,j,none⟩ (.bool true))):=(λw' hg=>by
   obtain⟨a1,a2⟩:=HK.out w' hg;have h5:=a1.set hj (by simp[List.getD_eq_getElem?_getD,hx]) a2 (λk hk=>⟨(hrp k hk).1,(hrp k hk).2.1⟩) hne (i:=i)
   exact⟨h5.1,zm.trans ⟨hg.os,hg.tape,hg.output,hg.size,λk hk _=>hg.block k hk (by simp)⟩ h5.2⟩)
  clear h hv hx;generalize hrn:r.there.length=n at *
  go_enter Tryz.func86,Tryz.ntmps86
  go_upto_region 2 with fail
  have b0:(W.alloc (.cells #[.int .i64 (i:Int),.slice pv nb cv] 146)).cell? ⟨W.heap.size,0,none⟩=some (.int .i64 i):=(zf (heap_alloc_new _ _) 0).trans rfl;have b1:(W.alloc (.cells #[.int .i64 (i:Int),.slice pv nb cv] 146)).cell? ⟨W.heap.size,1,none⟩=some (.slice pv nb cv):=(zf (heap_alloc_new _ _) 1).trans rfl;have p0:=HG.out.cell c0 (by simp)
  have p1:=HG.out.cell c1 (by simp)
  have ha:=(HK.out _ HG.out).1;have hab:=ha.at_;have htb:=ha.there;have hlen:cs.length=n:=ha.len.trans hrn;clear hrn;clear ha;generalize W.alloc (.cells #[.int .i64 (i:Int),.slice pv nb cv] 146)=W1 at *;have HAB:=zd hab;have HTB:=zd htb;have hn0:(0:Int)≤(j:Int)∧(j:Int)<n:=by omega
  have hfl:=zot cs;obtain⟨u0,hu0⟩:∃u,W1.cell? ⟨ab,j*2,none⟩=some u:=⟨_,(zf hab _).trans (List.getElem?_toArray.trans (List.getElem?_eq_getElem (by rw[hfl,hlen];omega)))⟩
  obtain⟨u1,hu1⟩:∃u,W1.cell? ⟨ab,j*2+1,none⟩=some u:=⟨_,(zf hab _).trans (List.getElem?_toArray.trans (List.getElem?_eq_getElem (by rw[hfl,hlen];omega)))⟩
  have hf0:∀q,W1.frozen? ⟨ab,q,none⟩=false:=λq=>by simp[World.frozen?,hab]
  have hu2:(W1.setCell ⟨ab,j*2,none⟩ (.int .i64 i)).cell? ⟨ab,j*2+1,none⟩=some u1:=yn (Or.inr (by omega)) hu1
  have hf2:∀q,(W1.setCell ⟨ab,j*2,none⟩ (.int .i64 i)).frozen? ⟨ab,q,none⟩=false:=λq=>by simp[World.frozen?,World.setCell,Array.getElem?_modify,hab]
  have ht0:((W1.setCell ⟨ab,j*2,none⟩ (.int .i64 i)).setCell ⟨ab,j*2+1,none⟩ (.slice pv nb cv)).cell? ⟨tb,j,none⟩=some (.bool false):=yn (Or.inl (Ne.symm hne.2.2)) (yn (Or.inl (Ne.symm hne.2.2)) (HG.out.cell ct (by simp)))
  have hf3:((W1.setCell ⟨ab,j*2,none⟩ (.int .i64 i)).setCell ⟨ab,j*2+1,none⟩ (.slice pv nb cv)).frozen? ⟨tb,j,none⟩=false:=by simp[World.frozen?,World.setCell,Array.getElem?_modify,htb,hne.2.2]
  have HSF:=zd (HS.out W1 HG.out);have hwa:W.heap.size≠ab∧W.heap.size≠tb:=⟨by omega,by omega⟩
  clear hab htb hfl;refine qH (S:=λw':World=>w'.cell? ⟨pb,0,none⟩=some (.slice (some ⟨ab,0,none⟩) n n)∧w'.cell? ⟨pb,1,none⟩=some (.slice (some ⟨tb,0,none⟩) n n)∧w'.cell? ⟨W.heap.size,0,none⟩=some (.int .i64 i)∧w'.cell? ⟨W.heap.size,1,none⟩=some (.slice pv nb cv)) ⟨p0,p1,b0,b1⟩ (λhHeld=>?_)
  refine qT 0 ?_;refine qT 1 ?_;refine qT 2 ?_;refine qT 3 ?_;refine qT 4 ?_;refine qT 5 ?_;refine qT 6 ?_;refine qT 7 ?_;refine qT 8 ?_;refine qT 9 ?_;refine qT 10 ?_;refine qT 11 ?_;refine qO 12 λK hK=>?_
  go_simp
  have hH1:(W1.setCell ⟨ab,j*2,none⟩ (.int .i64 i)).cell? ⟨pb,0,none⟩=some (.slice (some ⟨ab,0,none⟩) n n)∧(W1.setCell ⟨ab,j*2,none⟩ (.int .i64 i)).cell? ⟨pb,1,none⟩=some (.slice (some ⟨tb,0,none⟩) n n)∧(W1.setCell ⟨ab,j*2,none⟩ (.int .i64 i)).cell? ⟨W.heap.size,0,none⟩=some (.int .i64 i)∧(W1.setCell ⟨ab,j*2,none⟩ (.int .i64 i)).cell? ⟨W.heap.size,1,none⟩=some (.slice pv nb cv):=⟨yn (Or.inl hne.1) p0,yn (Or.inl hne.1) p1,yn (Or.inl hwa.1) b0,yn (Or.inl hwa.1) b1⟩;refine hK.out _ _ ⟨yn (Or.inl hne.1) hH1.1,yn (Or.inl hne.1) hH1.2.1,yn (Or.inl hwa.1) hH1.2.2.1,yn (Or.inl hwa.1) hH1.2.2.2⟩ (λhHeld=>?_)
  clear hK K;refine qT 13 ?_;refine qO 14 λK hK=>?_
  go_simp
  refine hK.out _ _ ⟨yn (Or.inl hne.2.1) hHeld.1,yn (Or.inl hne.2.1) hHeld.2.1,yn (Or.inl hwa.2) hHeld.2.2.1,yn (Or.inl hwa.2) hHeld.2.2.2⟩ (λhHeld=>?_)
  clear hK K;refine qD ?_
  go_wp2_with fail
  first|go_end0|refine bodyPost_ret (results_none rfl _ _ _) rfl ?_
  exact⟨rfl,⟨_,HSF.out.1.kept rfl rfl rfl (λ_ _=>rfl)⟩,HSF.out.2.trans ⟨rfl,rfl,rfl,Nat.le_refl _,λ_ _ _=>rfl⟩⟩
 ·have HQ:Hid (ja r j (i,b)=r):=(show _=_ from by unfold ja;rw[List.getD_eq_getElem?_getD,hx];rfl)
  clear h hv hx;generalize r.there.length=n at *
  go_enter Tryz.func86,Tryz.ntmps86
  go_wp2
  first|go_end0|refine bodyPost_ret (results_none rfl _ _ _) rfl ?_
  rw[HQ.out]
  exact⟨rfl,⟨_,(HK.out _ HG.out).1⟩,HG.out.os,HG.out.tape,HG.out.output,HG.out.size,λk hk _=>HG.out.block k hk (by simp)⟩
set_option maxRecDepth 100000 in
theorem sblocks (W:World) (db:Nat):Calls Tryz.prog 83 #[.pointer (some ⟨db,0,none⟩)] W λe w'=>e = .returned (.func (.func 162) #[] #[.pointer (some ⟨W.heap.size,0,none⟩)])∧w'=W.alloc (.cells #[.pointer (some ⟨db,0,none⟩)] 28):=by
 go_enter Tryz.func83,Tryz.ntmps83
 go_wp2
 go_ret
 exact⟨rfl,rfl⟩
set_option maxRecDepth 100000 in
theorem sopen1 (W:World):Calls Tryz.prog 82 #[] W λe w'=>e = .returned (.int .i64 0)∧w'=W:=by
 go_enter Tryz.func82,Tryz.ntmps82
 go_wp2
 go_ret
 exact⟨rfl,rfl⟩
end Go.Proofs.YtbcbhlfjgobejaaGreat
namespace Go.Sf
open Go.RowKit Go
variable {F : Fence} {n : Nat} {P : Program}
def zoa (F:Fence) (n:Nat) (P:Program) (gf:Nat) (lb:Array Value) (f:Nat→Array Value) (N:Nat) (Need:Nat→World→Prop) (W:World):Prop:=
 ∀(l:Nat) (J:Nat→World→Prop) (Jx:World→Prop),(∀i X Y,J i X→X.grownBy Y none→J i Y)→(∀i X,J i X→Need i X)→
  (∀i W1,J i W1→i<N→YieldAt F (n-1) P l (f i) W1 λe W'=>(e = .returned (.bool true)∧J (i+1) W')∨(e = .returned (.bool false)∧Jx W'))→
  J 0 W→CallsIn F n P gf (#[.func (.yield l) #[] #[]]++lb) W λe W'=>(∃v,e = .returned v)∧(J N W'∨Jx W')
def uy (B:Nat) (W W':World):Prop:=W.heap.size≤W'.heap.size∧W'.heap[B]? = W.heap[B]?∧W'.heap[B+1]? = W.heap[B+1]?
def Yx (B:Nat) (I:Nat→World→Prop) (Ix:Code→World→Prop) (i:Nat) (W:World):Exit→Act→World→Prop
 | .normal,_,W'=>uy B W W'∧I (i+1) W'
 | .ret,_,W'=>uy B W W'∧Ix .ret W'
 | .exit id,_,W'=>uy B W W'∧Ix (.exit id) W'
 | .goto t,_,W'=>uy B W W'∧Ix (.goto t) W'
 | _,_,_=>False
theorem ze1 {g:Operand} {ps:Array Tmp} {assign body:Code} {Q:Exit→Act→World→Prop} {a:Act} {w:World}
 (hro:F.round=none) (h1:1≤n) {gf:Nat} {lb:Array Value} (hg:a.eval g = .func (.func gf) #[] lb) (hFg:F.fn gf) (eg:∀args w,(callFunc gf args).run P w = .ok (.enter gf args) w)
 {f:Nat→Array Value} (hps:∀i,(f i).size=ps.size) {N:Nat} {Need:Nat→World→Prop}
 (hcall:∀W1,w.grownBy W1 none→W1.heap.size=w.heap.size+2→zoa F (n-1) P gf lb f N Need W1)
 (I:Nat→World→Prop) (Ix:Code→World→Prop) (hIg:∀i X Y,I i X→X.grownBy Y none→I i Y)
 (hIl:∀i X r r',I i X→X.heap[w.heap.size+1]? = some (.loop r)→I i (X.putObj (w.heap.size+1) (.loop r')))
 (hIx:∀c X r r',Ix c X→X.heap[w.heap.size+1]? = some (.loop r)→Ix c (X.putObj (w.heap.size+1) (.loop r')))
 (hIn:∀i X,I i X→Need i X)
 (h0:∀W1,w.grownBy W1 none→W1.heap.size=w.heap.size+2→I 0 W1)
 (Ax:Nat→Act→World→Prop) (hAx:∀i a' X r r',Ax i a' X→X.heap[w.heap.size+1]? = some (.loop r)→Ax i a' (X.putObj (w.heap.size+1) (.loop r')))
 (hassign:∀(l i:Nat) (W:World) (K:Act→World→Prop),w.heap.size+2≤W.heap.size→I i W→i<N→(∀a' W',uy w.heap.size W W'→I i W'→Ax i a' W'→K a' W')→
 assign.wpIn (F.inRound l) (n-1-1) P (Exit.then K (λ_ _ _=>False)) { tmps:=(ps.zip (f i)).foldl (λt (p,v)=>t.setIfInBounds p v) a.tmps,defers:=[] } W)
 (hbody:∀(l i:Nat) (a':Act) (W:World),w.heap.size+2≤W.heap.size→I i W→Ax i a' W→i<N→body.wpIn (F.inRound l) (n-1-1) P (Yx w.heap.size I Ix i W) a' W)
 (hdone:∀(W:World),I N W→W.heap[w.heap.size]? = some (.deferred (some []))→Q .normal { a with defers:={ target:=.collected w.heap.size,args:=#[] } :: a.defers } W)
 (hstop:∀(c:Code) (W:World),Ix c W→W.heap[w.heap.size]? = some (.deferred (some []))→c.wpIn F n P Q { a with defers:={ target:=.collected w.heap.size,args:=#[] } :: a.defers } W) :
  (Code.rangeFunc g ps assign body).wpIn F n P Q a w:=by
 refine wpIn_rangeFunc ?_;intro fn hfn;rw[hro];obtain⟨rec,hrec⟩:∃rec:LoopState→Option Code→Loop,rec=λst pe=>{ state:=st,pending:=pe,fn,tmps:=a.tmps,params:=ps,assign,body,defers:=w.heap.size }:=⟨_,rfl⟩
 obtain⟨W1,hW1⟩:∃W1,(w.alloc (.deferred (some []))).alloc (.loop (rec .ready none))=W1:=⟨_,rfl⟩;have hs1:W1.heap.size=w.heap.size+2:=by rw[←hW1];simp
 have hg1:w.grownBy W1 none:=by rw[←hW1];exact zh (ze _ _ none) (ze _ _ none)
 have hL1:W1.heap[w.heap.size+1]? = some (.loop (rec .ready none)):=by
  have:=World.alloc_heap_new (w.alloc (.deferred (some []))) (.loop (rec .ready none));rw[←hW1];rwa [World.size_alloc] at this
 have hK1:W1.heap[w.heap.size]? = some (.deferred (some [])):=by
  rw[←hW1];exact(Below.heap_alloc _ _ _ (by simp)).trans (World.alloc_heap_new w _)
 refine⟨w.heap.size+1,[{ target:=.collected w.heap.size,args:=#[] }],W1,{ target:=.fn (.func gf) lb,args:=#[.func (.yield (w.heap.size+1)) #[] #[]] },W1,gf,
  #[.func (.yield (w.heap.size+1)) #[] #[]]++lb,W1,?_,?_,?_,?_,λ_=>h1,?_⟩
 ·rw[←hW1,hrec];exact run_enterLoop_outer _ _ _ _ _
 ·simp only[resolve,hg]
  simp[go_sem]
 ·intro f' hf';simp[Target.leads] at hf';subst hf';exact hFg
 ·simp[invoke,go_sem,eg]
 ·refine(hcall W1 hg1 hs1 (w.heap.size+1)
   (λi W=>I i W∧W.heap[w.heap.size+1]? = some (.loop (rec .ready none))∧W.heap[w.heap.size]? = some (.deferred (some [])))
   (λW=>∃c,Ix c W∧W.heap[w.heap.size+1]? = some (.loop (rec .done (some c)))∧W.heap[w.heap.size]? = some (.deferred (some [])))
   (λi X Y hs hgr=>⟨hIg i X Y hs.1 hgr,(hgr.block _ (Array.getElem?_eq_some_iff.1 hs.2.1).1 (by simp)).trans hs.2.1,(hgr.block _ (Array.getElem?_eq_some_iff.1 hs.2.2).1 (by simp)).trans hs.2.2⟩)
   (λi X hs=>hIn i X hs.1)
   ?_ ⟨h0 W1 hg1 hs1,hL1,hK1⟩).mono ?_
  ·rintro i Wa ⟨hi,hl,hk⟩ hlen
   have hy:=run_yield (P:=P) (args:=f i) hl (by rw[hrec];exact hps i)
   rw[hrec] at hy;refine⟨fn,_,assign,body,hy,roundIn_of_wpIn hfn (hassign _ i Wa _ (by have:=(Array.getElem?_eq_some_iff.1 hl).1;omega) hi hlen ?_)⟩
   clear hy;intro a' W hkf hia hax;replace hl:=hkf.2.2.trans hl;replace hk:=hkf.2.1.trans hk;have hlt:w.heap.size+1<W.heap.size:=(Array.getElem?_eq_some_iff.1 hl).1;have hl2:(W.putObj (w.heap.size+1) (.loop { rec .ready none with state:=.busy })).heap[w.heap.size+1]? = some (.loop { rec .ready none with state:=.busy }):=World.putObj_heap_same hlt
   have hk2:(W.putObj (w.heap.size+1) (.loop { rec .ready none with state:=.busy })).heap[w.heap.size]? = some (.deferred (some [])):=(World.putObj_heap_other (by omega)).trans hk
   refine⟨_,run_beginRound hl (by rw[hrec]),?_⟩
   refine wpIn_mono (hbody _ i a' _ (by rw[World.putObj_size];omega) (hIl i _ _ _ hia hl) (hAx i a' _ _ _ hax hl) hlen) ?_
   have fin:∀(jump:Option Code) (W3:World),uy w.heap.size (W.putObj (w.heap.size+1) (.loop { rec .ready none with state:=.busy })) W3→
     (Instr.endRound (w.heap.size+1) jump).run P W3 = .ok (.bool jump.isNone) (W3.putObj (w.heap.size+1) (.loop (rec (if jump.isNone then .ready else .done) jump)))∧
     W3.heap[w.heap.size+1]? = some (.loop { rec .ready none with state:=.busy })∧
     (W3.putObj (w.heap.size+1) (.loop (rec (if jump.isNone then .ready else .done) jump))).heap[w.heap.size+1]? = some (.loop (rec (if jump.isNone then .ready else .done) jump))∧
     (W3.putObj (w.heap.size+1) (.loop (rec (if jump.isNone then .ready else .done) jump))).heap[w.heap.size]? = some (.deferred (some [])):=λjump W3 hk3=>by
    have hl3:=hk3.2.2.trans hl2;have hend:=run_endRound (P:=P) jump hl3;rw[hrec] at hend ⊢
    exact⟨hend,by rw[hrec] at hl3;exact hl3,World.putObj_heap_same (Array.getElem?_eq_some_iff.1 hl3).1,(World.putObj_heap_other (by omega)).trans (hk3.2.1.trans hk2)⟩
   rintro e a3 W3 hp
   cases e with
   | normal=>
    obtain⟨hk3,hi3⟩:=hp;obtain⟨hr,hl3,hl4,hk4⟩:=fin none W3 hk3
    exact⟨_,_,hr,.inl ⟨rfl,hIl _ _ _ _ hi3 hl3,hl4,hk4⟩⟩
   | ret=>
    obtain⟨hk3,hi3⟩:=hp;obtain⟨hr,hl3,hl4,hk4⟩:=fin (some .ret) W3 hk3
    exact⟨_,_,hr,.inr ⟨rfl,.ret,hIx _ _ _ _ hi3 hl3,hl4,hk4⟩⟩
   | exit id=>
    obtain⟨hk3,hi3⟩:=hp;obtain⟨hr,hl3,hl4,hk4⟩:=fin (some (.exit id)) W3 hk3
    exact⟨_,_,hr,.inr ⟨rfl,.exit id,hIx _ _ _ _ hi3 hl3,hl4,hk4⟩⟩
   | goto t=>
    obtain⟨hk3,hi3⟩:=hp;obtain⟨hr,hl3,hl4,hk4⟩:=fin (some (.goto t)) W3 hk3
    exact⟨_,_,hr,.inr ⟨rfl,.goto t,hIx _ _ _ _ hi3 hl3,hl4,hk4⟩⟩
   | panic ch=>exact hp.elim
   | outgrown=>exact hp.elim
  ·rintro e W2 ⟨⟨v,rfl⟩,(⟨hi,hl,hk⟩|⟨c,hi,hl,hk⟩)⟩
   ·exact⟨none,_,by have:=run_endLoop (P:=P) hl (by rw[hrec];simp);rw[hrec] at this;exact this,hdone _ (hIl _ _ _ _ hi hl) ((World.putObj_heap_other (by omega)).trans hk)⟩
   ·exact⟨some c,_,by have:=run_endLoop (P:=P) hl (by rw[hrec];simp);rw[hrec] at this;exact this,hstop c _ (hIx _ _ _ _ hi hl) ((World.putObj_heap_other (by omega)).trans hk)⟩
end Go.Sf
namespace Go.Proofs.YtbcbhlfjgobejaaGreat
open Go.RowKit Go.Sf Go.Shelf Go.Sort Go.Lib
def jr (k:zt):Value:=.agg #[.int .i64 k.k,.int .i64 (k.count:Int)]
def xg (k:zt):List Value:=[.int .i64 k.k,.int .i64 (k.count:Int)]
def Ul (pb:Nat):Value:=.pointer (some ⟨pb,0,none⟩)
theorem zhw (a b:zt) (h:jr a=jr b):a=b:=by
 cases a;cases b;simp[jr] at h;obtain⟨h1,h2⟩:=h;subst h1;congr 1;omega
theorem checkK (em:Bool) (k:zt) (w:World):(Instr.checkKey em 10000 142 (jr k)).run Tryz.prog w = .ok () w:=by
 cases k;kernel_rfl
theorem equalK (a b:zt) (w:World):(Op.equal 142 (jr a) (jr b)).run Tryz.prog w = .ok (decide (a=b)) w:=by
 obtain⟨k,n⟩:=a;obtain⟨k',n'⟩:=b;have e0:((n:Int) == (n':Int))=decide (n=n'):=by
  by_cases e:n=n'
  ·simp[e]
  ·simp[e];omega
 simp[Op.equal,Op.maxDepth,jr,go_sem,e0]
 by_cases e1:k=k' <;> by_cases e2:n=n' <;> simp[e1,e2]
theorem sameK (k:zt):Instr.sameBits 10000 (jr k) (jr k)=true:=by
 cases k;simp[jr,Instr.sameBits]
theorem keK:zbe Tryz.prog 142 jr:=zmq (by kernel_rfl) checkK sameK zhw equalK
theorem infoK:(Tryz.prog.info? 142).map (λi=>(i.zero,i.size,i.bytes))=some (some (.agg #[.int .i64 0,.int .i64 0]),2,16):=by kernel_rfl
def Xs (a b:Int):Int:=if a<b then -1 else if b<a then 1 else 0
def ordK (a b:zt):Int:=if Xs a.k b.k=0 then Xs (a.count:Int) (b.count:Int) else Xs a.k b.k
theorem zol (a b:Int) (W:World):Calls Tryz.prog 91 #[.int .i64 a,.int .i64 b] W λe w'=>e = .returned (.int .i64 (Xs a b))∧w'=W:=by
 by_cases h1:a<b
 ·have hc:Xs a b = -1:=by unfold Xs;rw[if_pos h1]
  rw[hc]
  go_enter Tryz.func91,Tryz.ntmps91
  go_wp2
  go_ret
  exact⟨rfl,rfl⟩
 ·by_cases h2:b<a
  ·have hc:Xs a b=1:=by unfold Xs;rw[if_neg h1,if_pos h2]
   rw[hc]
   go_enter Tryz.func91,Tryz.ntmps91
   go_wp2
   go_ret
   exact⟨rfl,rfl⟩
  ·have hc:Xs a b=0:=by unfold Xs;rw[if_neg h1,if_neg h2]
   rw[hc]
   go_enter Tryz.func91,Tryz.ntmps91
   go_wp2
   go_ret
   exact⟨rfl,rfl⟩
theorem zom (a b:Int) (W:World):Calls Tryz.prog 92 #[.int .i64 a,.int .i64 b] W λe w'=>e = .returned (.int .i64 (Xs a b))∧w'=W:=by
 by_cases h1:a<b
 ·have hc:Xs a b = -1:=by unfold Xs;rw[if_pos h1]
  rw[hc]
  go_enter Tryz.func92,Tryz.ntmps92
  go_wp2
  go_ret
  exact⟨rfl,rfl⟩
 ·by_cases h2:b<a
  ·have hc:Xs a b=1:=by unfold Xs;rw[if_neg h1,if_pos h2]
   rw[hc]
   go_enter Tryz.func92,Tryz.ntmps92
   go_wp2
   go_ret
   exact⟨rfl,rfl⟩
  ·have hc:Xs a b=0:=by unfold Xs;rw[if_neg h1,if_neg h2]
   rw[hc]
   go_enter Tryz.func92,Tryz.ntmps92
   go_wp2
   go_ret
   exact⟨rfl,rfl⟩
theorem or_any (x y:Int) (g:Nat) (W:World) (h0:W.cell? ⟨g,0,none⟩=some (.int .i64 x)) (h1:W.cell? ⟨g,1,none⟩=some (.int .i64 y)):Calls Tryz.prog 90 #[.slice (some ⟨g,0,none⟩) 2 2] W λe w'=>e = .returned (.int .i64 (if x=0 then y else x))∧w'=W:=by
 obtain⟨r,hr⟩:∃r,r=if x=0 then y else x:=⟨_,rfl⟩
 rw[←hr]
 go_enter Tryz.func90,Tryz.ntmps90
 go_wp2
 go_loopw [5,8] (λ_ i wr=>wr=W∧(i = .int .i64 0∨(i = .int .i64 1∧x=0)∨(i = .int .i64 2∧x=0∧y=0))) (λ_ i _=>2-(intOf i).toNat)
 case atStart=>exact⟨rfl,Or.inl rfl⟩
 case round=>
  obtain⟨rfl,rfl|⟨rfl,hx⟩|⟨rfl,hx,hy⟩⟩:=hrel
  ·by_cases hx:x=0
   ·subst hx
    go_wp2
    go_roundw
    case rel=>simp
    case measure=>simp[intOf]
   ·rw[if_neg hx] at hr
    subst hr;go_wp2
    go_ret
    exact⟨rfl,rfl⟩
  ·subst hx
   rw[if_pos rfl] at hr;subst hr
   by_cases hy:r=0
   ·subst hy
    go_wp2
    go_roundw
    case rel=>simp
    case measure=>simp[intOf]
   ·go_wp2
    go_ret
    exact⟨rfl,rfl⟩
  ·subst hx;subst hy
   rw[if_pos rfl] at hr;subst hr;go_wp2
   go_ret
   exact⟨rfl,rfl⟩
set_option maxRecDepth 100000 in
theorem zko (a b:zt) (W:World):Calls Tryz.prog 89 #[jr a,jr b] W λe w'=>e = .returned (.int .i64 (ordK a b))∧∃q os',w'=grow (W.drewN q) os':=by
 obtain⟨ak,av⟩:=a;obtain⟨bk,bv⟩:=b;simp only[jr,ordK];have HB:=λW=>zol ak bk W
 have HI:=λW=>zom (av:Int) (bv:Int) W
 have HO:=λg W=>or_any (Xs ak bk) (Xs (av:Int) (bv:Int)) g W
 generalize Xs ak bk=x at *;generalize Xs (av:Int) (bv:Int)=y at *;generalize (if x=0 then y else x)=r at *
 go_enter Tryz.func89,Tryz.ntmps89
 go_wp2;have c0:((W.alloc (.cells #[.int .i64 ak,.int .i64 (av:Int)] 142)).alloc (.cells #[.int .i64 bk,.int .i64 (bv:Int)] 142)).cell? ⟨W.heap.size,0,none⟩=some (.int .i64 ak):=by simp[go_sem]
 have c1:((W.alloc (.cells #[.int .i64 ak,.int .i64 (av:Int)] 142)).alloc (.cells #[.int .i64 bk,.int .i64 (bv:Int)] 142)).cell? ⟨W.heap.size,1,none⟩=some (.int .i64 (av:Int)):=by simp[go_sem]
 have c2:((W.alloc (.cells #[.int .i64 ak,.int .i64 (av:Int)] 142)).alloc (.cells #[.int .i64 bk,.int .i64 (bv:Int)] 142)).cell? ⟨W.heap.size+1,0,none⟩=some (.int .i64 bk):=by simp[go_sem]
 have c3:((W.alloc (.cells #[.int .i64 ak,.int .i64 (av:Int)] 142)).alloc (.cells #[.int .i64 bk,.int .i64 (bv:Int)] 142)).cell? ⟨W.heap.size+1,1,none⟩=some (.int .i64 (bv:Int)):=by simp[go_sem]
 have hg:(W.alloc (.cells #[.int .i64 ak,.int .i64 (av:Int)] 142)).alloc (.cells #[.int .i64 bk,.int .i64 (bv:Int)] 142)=grow (W.drewN 0) #[.cells #[.int .i64 ak,.int .i64 (av:Int)] 142,.cells #[.int .i64 bk,.int .i64 (bv:Int)] 142]:=by rw[alloc_eq_grow,alloc_eq_grow,grow_grow];rfl
 generalize (W.alloc (.cells #[.int .i64 ak,.int .i64 (av:Int)] 142)).alloc (.cells #[.int .i64 bk,.int .i64 (bv:Int)] 142)=W2 at *;have HG:=zd hg;clear hg
 go_region_held3 (λw'=>w'.cell? ⟨W.heap.size,0,none⟩=some (.int .i64 ak)∧w'.cell? ⟨W.heap.size,1,none⟩=some (.int .i64 (av:Int))∧w'.cell? ⟨W.heap.size+1,0,none⟩=some (.int .i64 bk)∧w'.cell? ⟨W.heap.size+1,1,none⟩=some (.int .i64 (bv:Int))) (go_keep)
  (first
  | (go_at_call 91;refine(HB _).mono ?_;rintro e w3 ⟨rfl,rfl⟩)
  | (go_at_call 92;refine(HI _).mono ?_;rintro e w3 ⟨rfl,rfl⟩)
  | (go_at_call 90;refine(HO _ _ (by simp[go_sem]) (by simp[go_sem])).mono ?_;rintro e w3 ⟨rfl,rfl⟩))
 all_goals
  go_wp2
  go_ret
  exact⟨rfl,1,_,by rw[HG.out,alloc_eq_grow,grow_grow];rfl⟩
open Go.Sf
abbrev ye:=List Int × List Nat
def Yt (rows:List (zt × xr)) (K:zt):Option ye:=match zw rows K with
 | none=>none
 | some r=>if r.whole=true then some (vp r,xo r) else none
structure zda (got:zt→Option ye) (L:List (Int × ye)):Prop where
 srt:L.Pairwise (λa b=>a.1<b.1)
 mem:∀y,y∈L↔∃c,got ⟨y.1,c⟩=some y.2∧∀c',c'<c→got ⟨y.1,c'⟩=none
theorem zda.uniq {got:zt→Option ye} {L M:List (Int × ye)} (h:zda got L) (g:zda got M):L=M:=
 Qh (λy=>y.1) h.srt g.srt λy=>(h.mem y).trans (g.mem y).symm
structure zc8 (got:zt→Option ye) (ks:List zt) (acc:List (Int × ye)):Prop where
 srt:acc.Pairwise (λa b=>a.1<b.1)
 mem:∀y,y∈acc↔∃K∈ks,K.k=y.1∧got K=some y.2∧∀K'∈ks,K'.k=y.1→K'.count<K.count→got K'=none
theorem zg1 {acc:List (Int × ye)} {k:Int} (h:(zw acc k).isSome=true):∃r,(k,r)∈acc:=by
 obtain⟨r,hr⟩:=Option.isSome_iff_exists.1 h
 exact⟨r,qj hr⟩
theorem ziv {rows:List (zt × xr)} {ks:List zt} {acc:List (Int × ye)} {K:zt} (h:zc8 (Yt rows) ks acc) (hlt:∀K'∈ks,Yl K' K) :
  zc8 (Yt rows) (ks ++ [K]) (match Yt rows K with
   | none=>acc
   | some r=>if (zw acc K.k).isSome=true then acc else acc ++ [(K.k,r)]):=by
 have hne:∀K'∈ks,∀K2,K2=K→K'.k=K.k→K'.count<K.count:=λK' hK' _ _ e=>by
  rcases hlt K' hK' with h1|⟨_,h1⟩
  ·omega
  ·exact h1
 have stay:(∀y:Int × ye,(∃K2,K2=K∧K.k=y.1∧Yt rows K=some y.2∧∀K'∈ks ++ [K],K'.k=y.1→K'.count<K.count→Yt rows K'=none)→False)→zc8 (Yt rows) (ks ++ [K]) acc:=λhno=>by
  refine⟨h.srt,λy=>?_⟩
  rw[h.mem]
  constructor
  ·rintro⟨K1,h1,h2,h3,h4⟩
   refine⟨K1,List.mem_append_left _ h1,h2,h3,λK' hK' hk hc=>?_⟩
   rcases List.mem_append.1 hK' with g|g
   ·exact h4 K' g hk hc
   ·rw[List.mem_singleton.1 g] at hk hc
    have:=hne K1 h1 K rfl (by omega)
    omega
  ·rintro⟨K1,h1,h2,h3,h4⟩
   rcases List.mem_append.1 h1 with g|g
   ·exact⟨K1,g,h2,h3,λK' hK'=>h4 K' (List.mem_append_left _ hK')⟩
   ·obtain rfl:=List.mem_singleton.1 g
    exact(hno y ⟨K1,rfl,h2,h3,h4⟩).elim
 cases e:Yt rows K with
 | none=>exact stay λy ⟨_,_,_,h3,_⟩=>by rw[e] at h3;cases h3
 | some r=>
  simp only
  by_cases hs:(zw acc K.k).isSome=true
  ·rw[if_pos hs]
   obtain⟨r0,hr0⟩:=zg1 hs;obtain⟨K1,g1,g2,g3,g4⟩:=(h.mem _).1 hr0;refine stay λy ⟨_,_,h2,h3,h4⟩=>?_
   have:=h4 K1 (List.mem_append_left _ g1) (by simp only at g2;omega) (hne K1 g1 K rfl g2)
   rw[g3] at this;cases this
  ·rw[if_neg hs]
   have hn:∀y∈acc,y.1≠K.k:=by
    have:zw acc K.k=none:=by cases e2:zw acc K.k with
     | none=>rfl
     | some v=>rw[e2] at hs;simp at hs
    exact uz.1 this
   refine⟨?_,λy=>?_⟩
   ·rw[List.pairwise_append]
    refine⟨h.srt,by simp,λy hy z hz=>?_⟩
    rw[List.mem_singleton.1 hz];obtain⟨K1,g1,g2,_,_⟩:=(h.mem y).1 hy;have:=hn y hy
    rcases hlt K1 g1 with h1|⟨h1,_⟩ <;> simp only <;> omega
   ·rw[List.mem_append,h.mem]
    constructor
    ·rintro(⟨K1,h1,h2,h3,h4⟩|h1)
     ·refine⟨K1,List.mem_append_left _ h1,h2,h3,λK' hK' hk hc=>?_⟩
      rcases List.mem_append.1 hK' with g|g
      ·exact h4 K' g hk hc
      ·rw[List.mem_singleton.1 g] at hk hc
       have:=hne K1 h1 K rfl (by omega)
       omega
     ·obtain rfl:=List.mem_singleton.1 h1
      refine⟨K,by simp,rfl,e,λK' hK' hk hc=>?_⟩
      rcases List.mem_append.1 hK' with g|g
      ·cases e2:Yt rows K' with
       | none=>rfl
       | some r2=>
        -- then the least of them stands in acc
        exfalso
        have hex:∃K0∈ks,K0.k=K.k∧(Yt rows K0).isSome=true:=⟨K',g,hk,by rw[e2];rfl⟩
        have:∀n,∀K0∈ks,K0.count=n→K0.k=K.k→(Yt rows K0).isSome=true→False:=by
         intro n
         induction n using Nat.strongRecOn with
         | ind n ih=>
          intro K0 h0 hcn hk0 hs0;obtain⟨r0,hr0⟩:=Option.isSome_iff_exists.1 hs0
          by_cases hmin:∀K'∈ks,K'.k=K.k→K'.count<K0.count→Yt rows K'=none
          ·exact hn (K.k,r0) ((h.mem _).2 ⟨K0,h0,hk0,hr0,hmin⟩) rfl
          ·simp only[Classical.not_forall] at hmin
           obtain⟨K3,a1,a2,a3,a4⟩:=hmin
           exact ih K3.count (by omega) K3 a1 rfl a2 (by cases e5:Yt rows K3 with
            | none=>exact absurd e5 a4
            | some _=>rfl)
        obtain⟨K0,b1,b2,b3⟩:=hex
        exact this K0.count K0 b1 rfl b2 b3
      ·rw[List.mem_singleton.1 g] at hc
       omega
    ·rintro⟨K1,h1,h2,h3,h4⟩
     rcases List.mem_append.1 h1 with g|g
     ·exact Or.inl ⟨K1,g,h2,h3,λK' hK'=>h4 K' (List.mem_append_left _ hK')⟩
     ·obtain rfl:=List.mem_singleton.1 g
      right
      rw[e] at h3
      cases h3
      obtain⟨y1,y2⟩:=y;simp only at h2;subst h2;simp
theorem pick_eq (rows:List (zt × xr)) (K:zt) (t:List zt) (acc:List (Int × ye)):Xm rows (K :: t) acc=Xm rows t (match Yt rows K with
   | none=>acc
   | some r=>if (zw acc K.k).isSome=true then acc else acc ++ [(K.k,r)]):=by
 conv=>lhs;unfold Xm
 unfold Yt
 cases e:zw rows K with
 | none=>rfl
 | some r=>
  cases hw:r.whole with
  | false=>simp[hw]
  | true=>
   simp only[hw,if_true,Bool.true_eq_false,or_false]
   by_cases hs:(zw acc K.k).isSome=true
   ·rw[if_pos hs,if_pos hs]
   ·rw[if_neg hs,if_neg hs]
    have:zw acc K.k=none:=by cases e2:zw acc K.k with
     | none=>rfl
     | some v=>rw[e2] at hs;simp at hs
    rw[qz this]
theorem zch (rows:List (zt × xr)):∀(t ks:List zt) (acc:List (Int × ye)),zc8 (Yt rows) ks acc→(ks++t).Pairwise Yl→zc8 (Yt rows) (ks++t) (Xm rows t acc)
 | [],ks,acc,h,_=>by rw[List.append_nil];exact h
 | K :: t,ks,acc,h,hs=>by
  rw[pick_eq];have hs2:((ks ++ [K])++t).Pairwise Yl:=by rw[List.append_assoc];exact hs
  have hlt:∀K'∈ks,Yl K' K:=λK' hK'=>by
   rw[List.pairwise_append] at hs
   exact hs.2.2 K' hK' K (by simp)
  have:=zch rows t (ks ++ [K]) _ (ziv h hlt) hs2
  rwa [List.append_assoc] at this
theorem zna {rows:List (zt × xr)} {ks:List zt} (hks:∀K,K∈ks↔∃r,zw rows K=some r) (hsrt:ks.Pairwise Yl):zda (Yt rows) (Xm rows ks []):=by
 have h:=zch rows ks [] [] ⟨by simp,λy=>by simp⟩ (by simpa using hsrt)
 rw[List.nil_append] at h;have hin:∀K r,Yt rows K=some r→K∈ks:=λK r hg=>by
  rw[hks];unfold Yt at hg
  cases e:zw rows K with
  | none=>rw[e] at hg;cases hg
  | some r0=>exact⟨r0,rfl⟩
 refine⟨h.srt,λy=>?_⟩
 rw[h.mem]
 constructor
 ·rintro⟨K,h1,h2,h3,h4⟩
  obtain⟨k,c⟩:=K;simp only at h2;subst h2;refine⟨c,h3,λc' hc'=>?_⟩
  cases e:Yt rows ⟨y.1,c'⟩ with
  | none=>rfl
  | some r2=>
   have:=h4 ⟨y.1,c'⟩ (hin _ _ e) rfl hc';rw[e] at this;cases this
 ·rintro⟨c,h1,h2⟩
  refine⟨⟨y.1,c⟩,hin _ _ h1,rfl,h1,λK' hK' hk hc=>?_⟩
  obtain⟨k',c'⟩:=K';simp only at hk hc;subst hk
  exact h2 c' hc
end Go.Proofs.YtbcbhlfjgobejaaGreat
