/- A new row of parts: the walk. Conditions: none, or as the theorems say. -/
import Derived.Test.YtbcbhlfjgobejaaGreatI1
import Derived.Test.YtbcbhlfjgobejaaGreatI19
import Derived.Deep.OwnRows
import Derived.RangeFuncNested
import Derived.RangeFuncLeaves
set_option linter.unusedSimpArgs false
set_option linter.unusedVariables false
namespace Go.Proofs.YtbcbhlfjgobejaaGreat
set_option maxHeartbeats 200000000
open Go.RowKit Go.Sf
theorem infoBl:(Tryz.prog.info? 4).map (fun i=>(i.zero,i.size,i.bytes))=some (some (.bool false),1,1):=by kernel_rfl
theorem zfm:(Tryz.prog.info? 146).map (fun i=>(i.zero,i.size,i.bytes))=some (some (.agg #[.int .i64 0,.slice none 0 0]),2,32):=by kernel_rfl
def cs0 (n:Nat):List (Nat × Value × List Int):=List.replicate n (0,.slice none 0 0,[])
theorem zl8 (a b:Value) (n:Nat):(madeCells #[a,b] (n*2))=((List.replicate n [a,b]).flatten).toArray:=by
 have h:∀n,(List.range (n*2)).map (fun i=>(#[a,b]:Array Value)[i%2]!)=(List.replicate n [a,b]).flatten:=by
  intro n
  induction n with
  | zero=>rfl
  | succ n ih=>
   rw[show(n+1)*2=n*2+1+1 by omega,List.range_succ,List.range_succ,List.map_append,List.map_append,ih,List.replicate_succ',List.flatten_append]
   simp[Nat.mul_mod_left,Nat.mul_add_mod]
 unfold madeCells
 apply Array.ext'
 rw[Array.toList_map,Array.toList_range]
 exact h n
theorem zfu (n:Nat):madeCells #[.int .i64 0,.slice none 0 0] (n*2)=((cs0 n).flatMap ym).toArray:=by
 rw[zl8]
 congr 1
 unfold cs0;rw[List.flatMap_replicate]
 rfl
theorem Qv (n:Nat) (hn:n≤570) (w:World):(Instr.makeSlice 160 (.int .i64 (n:Int)) (.int .i64 (n:Int))).run Tryz.prog w = .ok (.slice (some ⟨w.heap.size,0,none⟩) n n) (w.alloc (.cells ((cs0 n).flatMap ym).toArray 146)):=by
 obtain⟨i,hi,hz⟩:=Option.map_eq_some_iff.1 zfm;simp only[Prod.mk.injEq] at hz;obtain⟨z1,z2,z3⟩:=hz;have:=run_makeSlice (P:=Tryz.prog) (w:=w) 160 146 i (.agg #[.int .i64 0,.slice none 0 0]) Tryz.underlying160 hi z1 .i64 .i64 (n:Int) (n:Int) (by omega) (by omega) (by rw[z2,Int.toNat_natCast];omega) (by rw[z3];omega) (by omega)
 rw[z2,Int.toNat_natCast] at this;rw[this]
 show Result.ok _ (w.alloc (.cells (madeCells #[.int .i64 0,.slice none 0 0] (n*2)) _))=_
 rw[zfu]
theorem Yt (n:Nat) (hn:n≤4096) (w:World):(Instr.makeSlice 130 (.int .i64 (n:Int)) (.int .i64 (n:Int))).run Tryz.prog w = .ok (.slice (some ⟨w.heap.size,0,none⟩) n n) (w.alloc (.cells (um (List.replicate n false)).toArray 4)):=by
 have:=run_make_row' (P:=Tryz.prog) 130 4 (.bool false) 1 Tryz.underlying130 infoBl rfl .i64 .i64 n (by omega) (by omega) w
 rw[this];have e:madeCells #[Value.bool false] n=(um (List.replicate n false)).toArray:=by
  apply Array.ext'
  rw[toList_madeCells_one];simp[um]
 rw[e]
theorem Xc {o:Oper} {a:Act} {w w':World} {t:TypeId} {vx vy v:Value} (x y:Operand) (hop:o.op=Op.makeSlice t x y) (hx:a.eval x=vx) (hy:a.eval y=vy) (hr:(Instr.makeSlice t vx vy).run Tryz.prog w = .ok v w'):(execOp a.eval o).run Tryz.prog w = .ok (.value v) w':=by
 unfold execOp;rw[hop]
 change (do pure (Next.value (←Instr.makeSlice t (a.eval x) (a.eval y))):Sem Next).run Tryz.prog w=_
 rw[hx,hy];generalize Instr.makeSlice t vx vy=s at *;simp[go_sem,hr]
theorem zm5 {w2:World} {ab tb n:Nat} (hn:n≤570) (ha:w2.heap[ab]? = some (.cells ((cs0 n).flatMap ym).toArray 146 (0,0))) (ht:w2.heap[tb]? = some (.cells (um (List.replicate n false)).toArray 4 (0,0))) :
  Zq (w2.alloc (.cells #[.slice (some ⟨ab,0,none⟩) n n,.slice (some ⟨tb,0,none⟩) n n] 162)) (fun _=>False) w2.heap.size ab tb (cs0 n) (ua n):=by
 have hg:=zg w2 (.cells #[.slice (some ⟨ab,0,none⟩) n n,.slice (some ⟨tb,0,none⟩) n n] 162) none;have hl:(ua n).there.length=n:=by simp[ua]
 refine⟨?_,?_,?_,?_,fun c hc=>?_,by rw[hl];simp[cs0],by rw[hl];omega⟩
 ·rw[hl];exact heap_alloc_new _ _
 ·exact(hg.block ab (Array.getElem?_eq_some_iff.1 ha).1 (by simp)).trans ha
 ·exact(hg.block tb (Array.getElem?_eq_some_iff.1 ht).1 (by simp)).trans ht
 ·simp[ua,cs0]
 ·have:=List.eq_of_mem_replicate hc
  subst this
  exact⟨none,0,rfl,by simp[zi],by omega,Or.inl rfl⟩
set_option maxRecDepth 100000 in
theorem rowof {W:World} (n:Nat) (hn:n≤570):Calls Tryz.prog 85 #[.int .i64 (n:Int)] W fun e w'=>W.grownBy w' none∧∃pb ab tb cs,e = .returned (.pointer (some ⟨pb,0,none⟩))∧W.heap.size≤pb∧W.heap.size≤ab∧W.heap.size≤tb∧pb≠ab∧pb≠tb∧ab≠tb∧Zq w' (fun _=>False) pb ab tb cs (ua n):=by
 go_enter Tryz.func85,Tryz.ntmps85
 go_upto_region 1 with fail
 refine wp_region_held_drew (S:=fun w':World=>True∧True) (by kernel_rfl) ⟨trivial,trivial⟩ (fun hHeld=>?_)
 refine tk (i:=0) (oi:=⟨some 3,Op.move (Operand.tmp 0),_,_,_,none⟩) (v:=?_) rfl hHeld ?_ ?_;rotate_left
 ·rintro w -;go_simp;try with_reducible rfl
 (try simp only[Act.put,za,zb,zc])
 refine tk (i:=2) (oi:=⟨some 5,Op.move (Operand.tmp 0),_,_,_,none⟩) (v:=?_) rfl hHeld ?_ ?_;rotate_left
 ·rintro w -;go_simp;try with_reducible rfl
 (try simp only[Act.put,za,zb,zc])
 refine wpAnyH_ready (rs:=[1,3]) (by kernel_rfl) (by simp) ?_
 refine AllReadyH.cons (o:=⟨some 4,Op.makeSlice 160 (Operand.tmp 3) (Operand.tmp 3),_,_,_,none⟩) rfl (fun K hK=>?_) (AllReadyH.cons (o:=⟨some 6,Op.makeSlice 130 (Operand.tmp 5) (Operand.tmp 5),_,_,_,none⟩) rfl (fun K hK=>?_) AllReadyH.nil)
 ·refine xw rfl (Xc _ _ rfl rfl rfl (Qv n hn _)) ?_
  refine hK.out _ _ ⟨trivial,trivial⟩ (fun hHeld=>?_)
  clear hK K
  (try simp only[Act.put,za,zb,zc])
  refine wpAnyH_ready (rs:=[3]) (by kernel_rfl) (by simp) ?_
  refine AllReadyH.cons (o:=⟨some 6,Op.makeSlice 130 (Operand.tmp 5) (Operand.tmp 5),_,_,_,none⟩) rfl (fun K hK=>?_) AllReadyH.nil
  refine xw rfl (Xc _ _ rfl rfl rfl (Yt n (by omega) _)) ?_
  refine hK.out _ _ ⟨trivial,trivial⟩ (fun hHeld=>?_)
  clear hK K
  (try simp only[Act.put,za,zb,zc])
  have hz0:W.drew.heap.size=W.heap.size:=rfl;have h1:=heap_alloc_new W.drew (.cells ((cs0 n).flatMap ym).toArray 146);have h2:=heap_alloc_new (W.drew.alloc (.cells ((cs0 n).flatMap ym).toArray 146)) (.cells (um (List.replicate n false)).toArray 4);have hs1:(W.drew.alloc (.cells ((cs0 n).flatMap ym).toArray 146)).heap.size=W.heap.size+1:=by rw[World.size_alloc];rfl
  have hs2:((W.drew.alloc (.cells ((cs0 n).flatMap ym).toArray 146)).alloc (.cells (um (List.replicate n false)).toArray 4)).heap.size=W.heap.size+2:=by rw[World.size_alloc,hs1]
  have h1':=((zg (W.drew.alloc (.cells ((cs0 n).flatMap ym).toArray 146)) (.cells (um (List.replicate n false)).toArray 4) none).block _ (by rw[hs1,hz0];omega) (by simp)).trans h1
  have hgr:W.grownBy ((W.drew.alloc (.cells ((cs0 n).flatMap ym).toArray 146)).alloc (.cells (um (List.replicate n false)).toArray 4)) none:=zu (zu (zl (zm _)) _) _;clear h1;rw[hs1] at h2;rw[hz0] at h1'
  (try rw[hs1])
  (try rw[hz0])
  generalize (W.drew.alloc (.cells ((cs0 n).flatMap ym).toArray 146)).alloc (.cells (um (List.replicate n false)).toArray 4)=w2 at *;have HR:=zd (zm5 hn h1' h2);rw[hs2] at HR;refine tk (i:=4) (oi:=⟨some 7,Op.build 162 #[(0,Operand.tmp 4),(1,Operand.tmp 6)],_,_,_,none⟩) (v:=.agg #[.slice (some ⟨W.heap.size,0,none⟩) n n,.slice (some ⟨W.heap.size+1,0,none⟩) n n]) rfl hHeld (fun w hSw=>by go_simp;try with_reducible rfl) ?_
  (try simp only[Act.put,za,zb,zc])
  refine wpAnyH_ready (rs:=[5]) (by kernel_rfl) (by simp) ?_
  refine AllReadyH.cons (o:=⟨some 8,Op.box 162 (Operand.tmp 7),_,_,_,none⟩) rfl (fun K hK=>?_) AllReadyH.nil
  go_simp
  refine hK.out _ _ ⟨trivial,trivial⟩ (fun hHeld=>?_)
  clear hK K
  (try simp only[Act.put,za,zb,zc])
  refine tk (i:=6) (oi:=⟨some 2,Op.assign (Operand.tmp 8),_,_,_,none⟩) (v:=?_) rfl hHeld ?_ ?_;rotate_left
  ·rintro w -;go_simp;try with_reducible rfl
  (try simp only[Act.put,za,zb,zc])
  refine wpAnyH_done (by kernel_rfl) ?_ _
  go_wp2_with fail
  go_ret
  exact⟨zu hgr _,W.heap.size+2,W.heap.size,W.heap.size+1,cs0 n,rfl,by omega,by omega,by omega,by omega,by omega,by omega,HR.out⟩
 ·refine xw rfl (Xc _ _ rfl rfl rfl (Yt n (by omega) _)) ?_
  refine hK.out _ _ ⟨trivial,trivial⟩ (fun hHeld=>?_)
  clear hK K
  (try simp only[Act.put,za,zb,zc])
  refine wpAnyH_ready (rs:=[1]) (by kernel_rfl) (by simp) ?_
  refine AllReadyH.cons (o:=⟨some 4,Op.makeSlice 160 (Operand.tmp 3) (Operand.tmp 3),_,_,_,none⟩) rfl (fun K hK=>?_) AllReadyH.nil
  refine xw rfl (Xc _ _ rfl rfl rfl (Qv n hn _)) ?_;refine hK.out _ _ ⟨trivial,trivial⟩ (fun hHeld=>?_)
  clear hK K
  (try simp only[Act.put,za,zb,zc])
  have hz0:W.drew.heap.size=W.heap.size:=rfl;have h1:=heap_alloc_new W.drew (.cells (um (List.replicate n false)).toArray 4);have h2:=heap_alloc_new (W.drew.alloc (.cells (um (List.replicate n false)).toArray 4)) (.cells ((cs0 n).flatMap ym).toArray 146);have hs1:(W.drew.alloc (.cells (um (List.replicate n false)).toArray 4)).heap.size=W.heap.size+1:=by rw[World.size_alloc];rfl
  have hs2:((W.drew.alloc (.cells (um (List.replicate n false)).toArray 4)).alloc (.cells ((cs0 n).flatMap ym).toArray 146)).heap.size=W.heap.size+2:=by rw[World.size_alloc,hs1]
  have h1':=((zg (W.drew.alloc (.cells (um (List.replicate n false)).toArray 4)) (.cells ((cs0 n).flatMap ym).toArray 146) none).block _ (by rw[hs1,hz0];omega) (by simp)).trans h1
  have hgr:W.grownBy ((W.drew.alloc (.cells (um (List.replicate n false)).toArray 4)).alloc (.cells ((cs0 n).flatMap ym).toArray 146)) none:=zu (zu (zl (zm _)) _) _;clear h1;rw[hs1] at h2;rw[hz0] at h1'
  (try rw[hs1])
  (try rw[hz0])
  generalize (W.drew.alloc (.cells (um (List.replicate n false)).toArray 4)).alloc (.cells ((cs0 n).flatMap ym).toArray 146)=w2 at *;have HR:=zd (zm5 hn h2 h1');rw[hs2] at HR;refine tk (i:=4) (oi:=⟨some 7,Op.build 162 #[(0,Operand.tmp 4),(1,Operand.tmp 6)],_,_,_,none⟩) (v:=.agg #[.slice (some ⟨W.heap.size+1,0,none⟩) n n,.slice (some ⟨W.heap.size,0,none⟩) n n]) rfl hHeld (fun w hSw=>by go_simp;try with_reducible rfl) ?_
  (try simp only[Act.put,za,zb,zc])
  refine wpAnyH_ready (rs:=[5]) (by kernel_rfl) (by simp) ?_
  refine AllReadyH.cons (o:=⟨some 8,Op.box 162 (Operand.tmp 7),_,_,_,none⟩) rfl (fun K hK=>?_) AllReadyH.nil
  go_simp
  refine hK.out _ _ ⟨trivial,trivial⟩ (fun hHeld=>?_)
  clear hK K
  (try simp only[Act.put,za,zb,zc])
  refine tk (i:=6) (oi:=⟨some 2,Op.assign (Operand.tmp 8),_,_,_,none⟩) (v:=?_) rfl hHeld ?_ ?_;rotate_left
  ·rintro w -;go_simp;try with_reducible rfl
  (try simp only[Act.put,za,zb,zc])
  refine wpAnyH_done (by kernel_rfl) ?_ _
  go_wp2_with fail
  go_ret
  exact⟨zu hgr _,W.heap.size+2,W.heap.size+1,W.heap.size,cs0 n,rfl,by omega,by omega,by omega,by omega,by omega,by omega,HR.out⟩
theorem zfg:∀(cs:List (Nat × Value × List Int)) (j:Nat) (c:Nat × Value × List Int),j<cs.length→(((cs.flatMap ym).set (j*2) (.int .i64 (c.1:Int))).set (j*2+1) c.2.1)=(cs.set j c).flatMap ym
 | [],j,c,h=>absurd h (by simp)
 | x :: t,0,c,h=>by simp[ym]
 | x :: t,j+1,c,h=>by
  have ih:=zfg t j c (by simpa using h)
  rw[List.flatMap_cons,List.set_cons_succ,List.flatMap_cons,←ih];rw[show(j+1)*2=(j*2+1)+1 by omega]
  simp[ym]
theorem zlw (cs:List (Nat × Value × List Int)):(cs.flatMap ym).length=cs.length*2:=by
 induction cs with
 | nil=>rfl
 | cons x t ih=>rw[List.flatMap_cons,List.length_append,ih];simp[ym];omega
theorem Zq.set {W:World} {rp:Nat→Prop} {pb ab tb:Nat} {cs:List (Nat × Value × List Int)} {r:xm} (h:Zq W rp pb ab tb cs r) {j i:Nat} {v:Value} {b:List Int} (hj:j<r.there.length) (hf:r.there.getD j true=false) (hv:ye rp W v (zi b)) (hrp:∀k,rp k→k≠ab∧k≠tb) (hne:pb≠ab∧pb≠tb∧ab≠tb) :
  Zq (((W.setCell ⟨ab,j*2,none⟩ (.int .i64 i)).setCell ⟨ab,j*2+1,none⟩ v).setCell ⟨tb,j,none⟩ (.bool true)) rp pb ab tb (cs.set j (i,v,b)) (qq r j (i,b))∧zq (fun k=>k=ab∨k=tb) W (((W.setCell ⟨ab,j*2,none⟩ (.int .i64 i)).setCell ⟨ab,j*2+1,none⟩ v).setCell ⟨tb,j,none⟩ (.bool true)):=by
 have t1:=(yt W ab (j*2) (.int .i64 i)).mono (cs:=fun k=>k=ab∨k=tb) (fun k hk=>Or.inl hk)
 have t2:=(yt (W.setCell ⟨ab,j*2,none⟩ (.int .i64 i)) ab (j*2+1) v).mono (cs:=fun k=>k=ab∨k=tb) (fun k hk=>Or.inl hk)
 have t3:=(yt ((W.setCell ⟨ab,j*2,none⟩ (.int .i64 i)).setCell ⟨ab,j*2+1,none⟩ v) tb j (.bool true)).mono (cs:=fun k=>k=ab∨k=tb) (fun k hk=>Or.inr hk)
 have ht:=(t1.trans t2).trans t3;have er:qq r j (i,b)=⟨r.cells.set j (i,b),r.there.set j true⟩:=by unfold qq;rw[hf];rfl
 have hl:=h.lt;refine⟨⟨?_,?_,?_,?_,fun c hc=>?_,?_,?_⟩,ht⟩
 ·rw[er]
  simp only[List.length_set]
  exact(ht.block pb hl.1 (fun e=>by rcases e with e|e;exact hne.1 e;exact hne.2.1 e)).trans h.box
 ·rw[←zfg cs j (i,v,b) (by rw[h.len];exact hj)]
  simp[World.setCell,Array.getElem?_modify,h.at_,Ne.symm hne.2.2,hne.2.2]
 ·rw[er,←zc5]
  simp[World.setCell,Array.getElem?_modify,h.there,Ne.symm hne.2.2,hne.2.2]
 ·rw[er,List.map_set,←h.cells]
 ·have hk:∀k,rp k→(((W.setCell ⟨ab,j*2,none⟩ (.int .i64 i)).setCell ⟨ab,j*2+1,none⟩ v).setCell ⟨tb,j,none⟩ (.bool true)).heap[k]? = W.heap[k]?:=fun k hk=>by
   obtain⟨n1,n2⟩:=hrp k hk;simp[World.setCell,Array.getElem?_modify,Ne.symm n1,Ne.symm n2]
  rcases List.mem_or_eq_of_mem_set hc with h1|h1
  ·exact(h.rows c h1).turn hk
  ·subst h1;exact hv.turn hk
 ·rw[er];simpa using h.len
 ·rw[er];simpa using h.few
set_option maxRecDepth 100000 in
theorem rset {W:World} {rp:Nat→Prop} {pb ab tb:Nat} {cs:List (Nat × Value × List Int)} {r:xm} (h:Zq W rp pb ab tb cs r) {j i:Nat} {v:Value} {b:List Int} (hj:j<r.there.length) (hv:ye rp W v (zi b)) (hrp:∀k,rp k→k≠ab∧k≠tb∧k<W.heap.size) (hne:pb≠ab∧pb≠tb∧ab≠tb) :
  Calls Tryz.prog 86 #[.pointer (some ⟨pb,0,none⟩),.int .i64 (j:Int),.agg #[.int .i64 (i:Int),v]] W fun e w'=>e = .returned (.tuple #[])∧(∃cs',Zq w' rp pb ab tb cs' (qq r j (i,b)))∧zq (fun k=>k=ab∨k=tb) W w':=by
 obtain⟨pv,cv,rfl,-,-,-⟩:=hv.ex;generalize hnn:(zi b).length=nb at *;have hl:=h.lt;have hfew:=h.few;have c0:W.cell? ⟨pb,0,none⟩=some (.slice (some ⟨ab,0,none⟩) r.there.length r.there.length):=(zh h.box 0).trans rfl;have c1:W.cell? ⟨pb,1,none⟩=some (.slice (some ⟨tb,0,none⟩) r.there.length r.there.length):=(zh h.box 1).trans rfl;obtain⟨x,hx⟩:∃x,r.there[j]? = some x:=⟨_,List.getElem?_eq_getElem hj⟩;have ct:W.cell? ⟨tb,j,none⟩=some (.bool x):=by rw[zh h.there];simp[um,hx]
 have HG:Hid (W.grownBy (W.alloc (.cells #[.int .i64 (i:Int),.slice pv nb cv] 146)) none):=(zg _ _ none);have HK:Hid (∀w',W.grownBy w' none→Zq w' rp pb ab tb cs r∧ye rp w' (.slice pv nb cv) (zi b)):=(fun w' hg=>⟨h.kept (hg.block _ hl.1 (by simp)) (hg.block _ hl.2.1 (by simp)) (hg.block _ hl.2.2 (by simp)) (fun k hk=>hg.block k (hrp k hk).2.2 (by simp)),hv.turn fun k hk=>hg.block k (hrp k hk).2.2 (by simp)⟩)
 cases x
 ·have HS:Hid (∀w',W.grownBy w' none→Zq (((w'.setCell ⟨ab,j*2,none⟩ (.int .i64 i)).setCell ⟨ab,j*2+1,none⟩ (.slice pv nb cv)).setCell ⟨tb,j,none⟩ (.bool true)) rp pb ab tb (cs.set j (i,.slice pv nb cv,b)) (qq r j (i,b))∧zq (fun k=>k=ab∨k=tb) W (((w'.setCell ⟨ab,j*2,none⟩ (.int .i64 i)).setCell ⟨ab,j*2+1,none⟩ (.slice pv nb cv)).setCell ⟨tb,j,none⟩ (.bool true))):=(fun w' hg=>by
   obtain⟨a1,a2⟩:=HK.out w' hg;have h5:=a1.set hj (by simp[List.getD_eq_getElem?_getD,hx]) a2 (fun k hk=>⟨(hrp k hk).1,(hrp k hk).2.1⟩) hne (i:=i)
   exact⟨h5.1,zq.trans ⟨hg.os,hg.tape,hg.output,hg.size,fun k hk _=>hg.block k hk (by simp)⟩ h5.2⟩)
  clear h hv hx;generalize hrn:r.there.length=n at *
  go_enter Tryz.func86,Tryz.ntmps86
  go_upto_region 2 with fail
  have b0:(W.alloc (.cells #[.int .i64 (i:Int),.slice pv nb cv] 146)).cell? ⟨W.heap.size,0,none⟩=some (.int .i64 i):=(zh (heap_alloc_new _ _) 0).trans rfl;have b1:(W.alloc (.cells #[.int .i64 (i:Int),.slice pv nb cv] 146)).cell? ⟨W.heap.size,1,none⟩=some (.slice pv nb cv):=(zh (heap_alloc_new _ _) 1).trans rfl;have p0:=HG.out.cell c0 (by simp)
  have p1:=HG.out.cell c1 (by simp)
  have ha:=(HK.out _ HG.out).1;have hab:=ha.at_;have htb:=ha.there;have hlen:cs.length=n:=ha.len.trans hrn;clear hrn;clear ha;generalize W.alloc (.cells #[.int .i64 (i:Int),.slice pv nb cv] 146)=W1 at *;have HAB:=zd hab;have HTB:=zd htb;have hn0:(0:Int)≤(j:Int)∧(j:Int)<n:=by omega
  have hfl:=zlw cs;obtain⟨u0,hu0⟩:∃u,W1.cell? ⟨ab,j*2,none⟩=some u:=⟨_,(zh hab _).trans (List.getElem?_toArray.trans (List.getElem?_eq_getElem (by rw[hfl,hlen];omega)))⟩
  obtain⟨u1,hu1⟩:∃u,W1.cell? ⟨ab,j*2+1,none⟩=some u:=⟨_,(zh hab _).trans (List.getElem?_toArray.trans (List.getElem?_eq_getElem (by rw[hfl,hlen];omega)))⟩
  have hf0:∀q,W1.frozen? ⟨ab,q,none⟩=false:=fun q=>by simp[World.frozen?,hab]
  have hu2:(W1.setCell ⟨ab,j*2,none⟩ (.int .i64 i)).cell? ⟨ab,j*2+1,none⟩=some u1:=yw (Or.inr (by omega)) hu1
  have hf2:∀q,(W1.setCell ⟨ab,j*2,none⟩ (.int .i64 i)).frozen? ⟨ab,q,none⟩=false:=fun q=>by simp[World.frozen?,World.setCell,Array.getElem?_modify,hab]
  have ht0:((W1.setCell ⟨ab,j*2,none⟩ (.int .i64 i)).setCell ⟨ab,j*2+1,none⟩ (.slice pv nb cv)).cell? ⟨tb,j,none⟩=some (.bool false):=yw (Or.inl (Ne.symm hne.2.2)) (yw (Or.inl (Ne.symm hne.2.2)) (HG.out.cell ct (by simp)))
  have hf3:((W1.setCell ⟨ab,j*2,none⟩ (.int .i64 i)).setCell ⟨ab,j*2+1,none⟩ (.slice pv nb cv)).frozen? ⟨tb,j,none⟩=false:=by simp[World.frozen?,World.setCell,Array.getElem?_modify,htb,hne.2.2]
  have HSF:=zd (HS.out W1 HG.out);have hwa:W.heap.size≠ab∧W.heap.size≠tb:=⟨by omega,by omega⟩
  clear hab htb hfl;refine wp_region_held_drew (S:=fun w':World=>w'.cell? ⟨pb,0,none⟩=some (.slice (some ⟨ab,0,none⟩) n n)∧w'.cell? ⟨pb,1,none⟩=some (.slice (some ⟨tb,0,none⟩) n n)∧w'.cell? ⟨W.heap.size,0,none⟩=some (.int .i64 i)∧w'.cell? ⟨W.heap.size,1,none⟩=some (.slice pv nb cv)) (by kernel_rfl) ⟨p0,p1,b0,b1⟩ (fun hHeld=>?_)
  refine tk (i:=0) (oi:=⟨some 14,Op.move (Operand.tmp 0),_,_,_,none⟩) (v:=?_) rfl hHeld ?_ ?_;rotate_left
  ·rintro w ⟨s1,s2,s3,s4⟩;go_simp;try with_reducible rfl
  (try simp only[Act.put,za,zb,zc])
  refine tk (i:=1) (oi:=⟨some 15,Op.nilCheck (Operand.tmp 14),_,_,_,none⟩) (v:=?_) rfl hHeld ?_ ?_;rotate_left
  ·rintro w ⟨s1,s2,s3,s4⟩;go_simp;try with_reducible rfl
  (try simp only[Act.put,za,zb,zc])
  refine tk (i:=2) (oi:=⟨some 16,Op.fieldAddr 162 (Operand.tmp 15) 0,_,_,_,none⟩) (v:=?_) rfl hHeld ?_ ?_;rotate_left
  ·rintro w ⟨s1,s2,s3,s4⟩;go_simp;try with_reducible rfl
  (try simp only[Act.put,za,zb,zc])
  refine tk (i:=3) (oi:=⟨some 17,Op.load 160 (Operand.tmp 16),_,_,_,none⟩) (v:=?_) rfl hHeld ?_ ?_;rotate_left
  ·rintro w ⟨s1,s2,s3,s4⟩;go_simp;try with_reducible rfl
  (try simp only[Act.put,za,zb,zc])
  refine tk (i:=4) (oi:=⟨some 18,Op.move (Operand.tmp 1),_,_,_,none⟩) (v:=?_) rfl hHeld ?_ ?_;rotate_left
  ·rintro w ⟨s1,s2,s3,s4⟩;go_simp;try with_reducible rfl
  (try simp only[Act.put,za,zb,zc])
  refine tk (i:=5) (oi:=⟨some 19,Op.move (Operand.tmp 0),_,_,_,none⟩) (v:=?_) rfl hHeld ?_ ?_;rotate_left
  ·rintro w ⟨s1,s2,s3,s4⟩;go_simp;try with_reducible rfl
  (try simp only[Act.put,za,zb,zc])
  refine tk (i:=6) (oi:=⟨some 20,Op.nilCheck (Operand.tmp 19),_,_,_,none⟩) (v:=?_) rfl hHeld ?_ ?_;rotate_left
  ·rintro w ⟨s1,s2,s3,s4⟩;go_simp;try with_reducible rfl
  (try simp only[Act.put,za,zb,zc])
  refine tk (i:=7) (oi:=⟨some 21,Op.fieldAddr 162 (Operand.tmp 20) 1,_,_,_,none⟩) (v:=?_) rfl hHeld ?_ ?_;rotate_left
  ·rintro w ⟨s1,s2,s3,s4⟩;go_simp;try with_reducible rfl
  (try simp only[Act.put,za,zb,zc])
  refine tk (i:=8) (oi:=⟨some 22,Op.load 130 (Operand.tmp 21),_,_,_,none⟩) (v:=?_) rfl hHeld ?_ ?_;rotate_left
  ·rintro w ⟨s1,s2,s3,s4⟩;go_simp;try with_reducible rfl
  (try simp only[Act.put,za,zb,zc])
  refine tk (i:=9) (oi:=⟨some 23,Op.move (Operand.tmp 1),_,_,_,none⟩) (v:=?_) rfl hHeld ?_ ?_;rotate_left
  ·rintro w ⟨s1,s2,s3,s4⟩;go_simp;try with_reducible rfl
  (try simp only[Act.put,za,zb,zc])
  refine tk (i:=10) (oi:=⟨some 24,Op.load 146 (Operand.tmp 5),_,_,_,none⟩) (v:=?_) rfl hHeld ?_ ?_;rotate_left
  ·rintro w ⟨s1,s2,s3,s4⟩;go_simp;try with_reducible rfl
  (try simp only[Act.put,za,zb,zc])
  refine tk (i:=11) (oi:=⟨some 25,Op.indexAddr 160 (Operand.tmp 17) (Operand.tmp 18),_,_,_,none⟩) (v:=?_) rfl hHeld ?_ ?_;rotate_left
  ·rintro w ⟨s1,s2,s3,s4⟩;go_simp;try with_reducible rfl
  (try simp only[Act.put,za,zb,zc])
  refine wpAnyH_ready (rs:=[12]) (by kernel_rfl) (by simp) ?_
  refine AllReadyH.cons (o:=⟨none,Op.store 146 (Operand.tmp 25) (Operand.tmp 24),_,_,_,none⟩) rfl (fun K hK=>?_) AllReadyH.nil
  go_simp
  have hH1:(W1.setCell ⟨ab,j*2,none⟩ (.int .i64 i)).cell? ⟨pb,0,none⟩=some (.slice (some ⟨ab,0,none⟩) n n)∧(W1.setCell ⟨ab,j*2,none⟩ (.int .i64 i)).cell? ⟨pb,1,none⟩=some (.slice (some ⟨tb,0,none⟩) n n)∧(W1.setCell ⟨ab,j*2,none⟩ (.int .i64 i)).cell? ⟨W.heap.size,0,none⟩=some (.int .i64 i)∧(W1.setCell ⟨ab,j*2,none⟩ (.int .i64 i)).cell? ⟨W.heap.size,1,none⟩=some (.slice pv nb cv):=⟨yw (Or.inl hne.1) p0,yw (Or.inl hne.1) p1,yw (Or.inl hwa.1) b0,yw (Or.inl hwa.1) b1⟩;refine hK.out _ _ ⟨yw (Or.inl hne.1) hH1.1,yw (Or.inl hne.1) hH1.2.1,yw (Or.inl hwa.1) hH1.2.2.1,yw (Or.inl hwa.1) hH1.2.2.2⟩ (fun hHeld=>?_)
  clear hK K
  (try simp only[Act.put,za,zb,zc])
  refine tk (i:=13) (oi:=⟨some 26,Op.indexAddr 130 (Operand.tmp 22) (Operand.tmp 23),_,_,_,none⟩) (v:=?_) rfl hHeld ?_ ?_;rotate_left
  ·rintro w -;go_simp;try with_reducible rfl
  (try simp only[Act.put,za,zb,zc])
  refine wpAnyH_ready (rs:=[14]) (by kernel_rfl) (by simp) ?_
  refine AllReadyH.cons (o:=⟨none,Op.store 4 (Operand.tmp 26) (Operand.const (Value.bool true)),_,_,_,none⟩) rfl (fun K hK=>?_) AllReadyH.nil
  go_simp
  refine hK.out _ _ ⟨yw (Or.inl hne.2.1) hHeld.1,yw (Or.inl hne.2.1) hHeld.2.1,yw (Or.inl hwa.2) hHeld.2.2.1,yw (Or.inl hwa.2) hHeld.2.2.2⟩ (fun hHeld=>?_)
  clear hK K
  (try simp only[Act.put,za,zb,zc])
  refine wpAnyH_done (by kernel_rfl) ?_ _
  go_wp2_with fail
  first|go_end0|refine bodyPost_ret (results_none rfl _ _ _) rfl ?_
  exact⟨rfl,⟨_,HSF.out.1.kept rfl rfl rfl (fun _ _=>rfl)⟩,HSF.out.2.trans ⟨rfl,rfl,rfl,Nat.le_refl _,fun _ _ _=>rfl⟩⟩
 ·have HQ:Hid (qq r j (i,b)=r):=(show _=_ from by unfold qq;rw[List.getD_eq_getElem?_getD,hx];rfl)
  clear h hv hx;generalize r.there.length=n at *
  go_enter Tryz.func86,Tryz.ntmps86
  go_wp2
  first|go_end0|refine bodyPost_ret (results_none rfl _ _ _) rfl ?_
  rw[HQ.out]
  exact⟨rfl,⟨_,(HK.out _ HG.out).1⟩,HG.out.os,HG.out.tape,HG.out.output,HG.out.size,fun k hk _=>HG.out.block k hk (by simp)⟩
set_option maxRecDepth 100000 in
theorem sblocks (W:World) (db:Nat):Calls Tryz.prog 83 #[.pointer (some ⟨db,0,none⟩)] W fun e w'=>e = .returned (.func (.func 162) #[] #[.pointer (some ⟨W.heap.size,0,none⟩)])∧w'=W.alloc (.cells #[.pointer (some ⟨db,0,none⟩)] 28):=by
 go_enter Tryz.func83,Tryz.ntmps83
 go_wp2
 go_ret
 exact⟨rfl,rfl⟩
set_option maxRecDepth 100000 in
theorem sopen1 (W:World):Calls Tryz.prog 82 #[] W fun e w'=>e = .returned (.int .i64 0)∧w'=W:=by
 go_enter Tryz.func82,Tryz.ntmps82
 go_wp2
 go_ret
 exact⟨rfl,rfl⟩
end Go.Proofs.YtbcbhlfjgobejaaGreat
namespace Go.Sf
open Go.RowKit Go
variable {F : Fence} {n : Nat} {P : Program}
def zlf (F:Fence) (n:Nat) (P:Program) (gf:Nat) (lb:Array Value) (f:Nat→Array Value) (N:Nat) (Need:Nat→World→Prop) (W:World):Prop:=
 ∀(l:Nat) (J:Nat→World→Prop) (Jx:World→Prop),(∀i X Y,J i X→X.grownBy Y none→J i Y)→(∀i X,J i X→Need i X)→
  (∀i W1,J i W1→i<N→YieldAt F (n-1) P l (f i) W1 fun e W'=>(e = .returned (.bool true)∧J (i+1) W')∨(e = .returned (.bool false)∧Jx W'))→
  J 0 W→CallsIn F n P gf (#[.func (.yield l) #[] #[]]++lb) W fun e W'=>(∃v,e = .returned v)∧(J N W'∨Jx W')
def ut (B:Nat) (W W':World):Prop:=W.heap.size≤W'.heap.size∧W'.heap[B]? = W.heap[B]?∧W'.heap[B+1]? = W.heap[B+1]?
def Ya (B:Nat) (I:Nat→World→Prop) (Ix:Code→World→Prop) (i:Nat) (W:World):Exit→Act→World→Prop
 | .normal,_,W'=>ut B W W'∧I (i+1) W'
 | .ret,_,W'=>ut B W W'∧Ix .ret W'
 | .exit id,_,W'=>ut B W W'∧Ix (.exit id) W'
 | .goto t,_,W'=>ut B W W'∧Ix (.goto t) W'
 | _,_,_=>False
theorem zct {g:Operand} {ps:Array Tmp} {assign body:Code} {Q:Exit→Act→World→Prop} {a:Act} {w:World}
  (hro:F.round=none) (h1:1≤n) {gf:Nat} {lb:Array Value} (hg:a.eval g = .func (.func gf) #[] lb) (hFg:F.fn gf) (eg:∀args w,(callFunc gf args).run P w = .ok (.enter gf args) w)
  {f:Nat→Array Value} (hps:∀i,(f i).size=ps.size) {N:Nat} {Need:Nat→World→Prop}
  (hcall:∀W1,w.grownBy W1 none→W1.heap.size=w.heap.size+2→zlf F (n-1) P gf lb f N Need W1)
  (I:Nat→World→Prop) (Ix:Code→World→Prop) (hIg:∀i X Y,I i X→X.grownBy Y none→I i Y)
  (hIl:∀i X r r',I i X→X.heap[w.heap.size+1]? = some (.loop r)→I i (X.putObj (w.heap.size+1) (.loop r')))
  (hIx:∀c X r r',Ix c X→X.heap[w.heap.size+1]? = some (.loop r)→Ix c (X.putObj (w.heap.size+1) (.loop r')))
  (hIn:∀i X,I i X→Need i X)
  (h0:∀W1,w.grownBy W1 none→W1.heap.size=w.heap.size+2→I 0 W1)
  (Ax:Nat→Act→World→Prop) (hAx:∀i a' X r r',Ax i a' X→X.heap[w.heap.size+1]? = some (.loop r)→Ax i a' (X.putObj (w.heap.size+1) (.loop r')))
  (hassign:∀(l i:Nat) (W:World) (K:Act→World→Prop),w.heap.size+2≤W.heap.size→I i W→i<N→(∀a' W',ut w.heap.size W W'→I i W'→Ax i a' W'→K a' W')→
   assign.wpIn (F.inRound l) (n-1-1) P (Exit.then K (fun _ _ _=>False)) { tmps:=(ps.zip (f i)).foldl (fun t (p,v)=>t.setIfInBounds p v) a.tmps,defers:=[] } W)
  (hbody:∀(l i:Nat) (a':Act) (W:World),w.heap.size+2≤W.heap.size→I i W→Ax i a' W→i<N→body.wpIn (F.inRound l) (n-1-1) P (Ya w.heap.size I Ix i W) a' W)
  (hdone:∀(W:World),I N W→W.heap[w.heap.size]? = some (.deferred (some []))→Q .normal { a with defers:={ target:=.collected w.heap.size,args:=#[] } :: a.defers } W)
  (hstop:∀(c:Code) (W:World),Ix c W→W.heap[w.heap.size]? = some (.deferred (some []))→c.wpIn F n P Q { a with defers:={ target:=.collected w.heap.size,args:=#[] } :: a.defers } W) :
  (Code.rangeFunc g ps assign body).wpIn F n P Q a w:=by
 refine wpIn_rangeFunc ?_;intro fn hfn;rw[hro];obtain⟨rec,hrec⟩:∃rec:LoopState→Option Code→Loop,rec=fun st pe=>{ state:=st,pending:=pe,fn,tmps:=a.tmps,params:=ps,assign,body,defers:=w.heap.size }:=⟨_,rfl⟩
 obtain⟨W1,hW1⟩:∃W1,(w.alloc (.deferred (some []))).alloc (.loop (rec .ready none))=W1:=⟨_,rfl⟩;have hs1:W1.heap.size=w.heap.size+2:=by rw[←hW1];simp
 have hg1:w.grownBy W1 none:=by rw[←hW1];exact zo (zg _ _ none) (zg _ _ none)
 have hL1:W1.heap[w.heap.size+1]? = some (.loop (rec .ready none)):=by
  have:=World.alloc_heap_new (w.alloc (.deferred (some []))) (.loop (rec .ready none));rw[←hW1];rwa [World.size_alloc] at this
 have hK1:W1.heap[w.heap.size]? = some (.deferred (some [])):=by
  rw[←hW1];exact(Below.heap_alloc _ _ _ (by simp)).trans (World.alloc_heap_new w _)
 refine⟨w.heap.size+1,[{ target:=.collected w.heap.size,args:=#[] }],W1,{ target:=.fn (.func gf) lb,args:=#[.func (.yield (w.heap.size+1)) #[] #[]] },W1,gf,
  #[.func (.yield (w.heap.size+1)) #[] #[]]++lb,W1,?_,?_,?_,?_,fun _=>h1,?_⟩
 ·rw[←hW1,hrec];exact run_enterLoop_outer _ _ _ _ _
 ·simp only[resolve,hg]
  simp[go_sem]
 ·intro f' hf';simp[Target.leads] at hf';subst hf';exact hFg
 ·simp[invoke,go_sem,eg]
 ·refine(hcall W1 hg1 hs1 (w.heap.size+1)
   (fun i W=>I i W∧W.heap[w.heap.size+1]? = some (.loop (rec .ready none))∧W.heap[w.heap.size]? = some (.deferred (some [])))
   (fun W=>∃c,Ix c W∧W.heap[w.heap.size+1]? = some (.loop (rec .done (some c)))∧W.heap[w.heap.size]? = some (.deferred (some [])))
   (fun i X Y hs hgr=>⟨hIg i X Y hs.1 hgr,(hgr.block _ (Array.getElem?_eq_some_iff.1 hs.2.1).1 (by simp)).trans hs.2.1,(hgr.block _ (Array.getElem?_eq_some_iff.1 hs.2.2).1 (by simp)).trans hs.2.2⟩)
   (fun i X hs=>hIn i X hs.1)
   ?_ ⟨h0 W1 hg1 hs1,hL1,hK1⟩).mono ?_
  ·rintro i Wa ⟨hi,hl,hk⟩ hlen
   have hy:=run_yield (P:=P) (args:=f i) hl (by rw[hrec];exact hps i)
   rw[hrec] at hy;refine⟨fn,_,assign,body,hy,roundIn_of_wpIn hfn (hassign _ i Wa _ (by have:=(Array.getElem?_eq_some_iff.1 hl).1;omega) hi hlen ?_)⟩
   clear hy;intro a' W hkf hia hax;replace hl:=hkf.2.2.trans hl;replace hk:=hkf.2.1.trans hk;have hlt:w.heap.size+1<W.heap.size:=(Array.getElem?_eq_some_iff.1 hl).1;have hl2:(W.putObj (w.heap.size+1) (.loop { rec .ready none with state:=.busy })).heap[w.heap.size+1]? = some (.loop { rec .ready none with state:=.busy }):=World.putObj_heap_same hlt
   have hk2:(W.putObj (w.heap.size+1) (.loop { rec .ready none with state:=.busy })).heap[w.heap.size]? = some (.deferred (some [])):=(World.putObj_heap_other (by omega)).trans hk
   refine⟨_,run_beginRound hl (by rw[hrec]),?_⟩
   refine wpIn_mono (hbody _ i a' _ (by rw[World.putObj_size];omega) (hIl i _ _ _ hia hl) (hAx i a' _ _ _ hax hl) hlen) ?_
   have fin:∀(jump:Option Code) (W3:World),ut w.heap.size (W.putObj (w.heap.size+1) (.loop { rec .ready none with state:=.busy })) W3→
     (Instr.endRound (w.heap.size+1) jump).run P W3 = .ok (.bool jump.isNone) (W3.putObj (w.heap.size+1) (.loop (rec (if jump.isNone then .ready else .done) jump)))∧
     W3.heap[w.heap.size+1]? = some (.loop { rec .ready none with state:=.busy })∧
     (W3.putObj (w.heap.size+1) (.loop (rec (if jump.isNone then .ready else .done) jump))).heap[w.heap.size+1]? = some (.loop (rec (if jump.isNone then .ready else .done) jump))∧
     (W3.putObj (w.heap.size+1) (.loop (rec (if jump.isNone then .ready else .done) jump))).heap[w.heap.size]? = some (.deferred (some [])):=fun jump W3 hk3=>by
    have hl3:=hk3.2.2.trans hl2;have hend:=run_endRound (P:=P) jump hl3;rw[hrec] at hend ⊢
    exact⟨hend,by rw[hrec] at hl3;exact hl3,World.putObj_heap_same (Array.getElem?_eq_some_iff.1 hl3).1,(World.putObj_heap_other (by omega)).trans (hk3.2.1.trans hk2)⟩
   rintro e a3 W3 hp
   cases e with
   | normal=>
    obtain⟨hk3,hi3⟩:=hp;obtain⟨hr,hl3,hl4,hk4⟩:=fin none W3 hk3
    exact⟨_,_,hr,.inl ⟨rfl,hIl _ _ _ _ hi3 hl3,hl4,hk4⟩⟩
   | ret=>
    obtain⟨hk3,hi3⟩:=hp;obtain⟨hr,hl3,hl4,hk4⟩:=fin (some .ret) W3 hk3
    exact⟨_,_,hr,.inr ⟨rfl,.ret,hIx _ _ _ _ hi3 hl3,hl4,hk4⟩⟩
   | exit id=>
    obtain⟨hk3,hi3⟩:=hp;obtain⟨hr,hl3,hl4,hk4⟩:=fin (some (.exit id)) W3 hk3
    exact⟨_,_,hr,.inr ⟨rfl,.exit id,hIx _ _ _ _ hi3 hl3,hl4,hk4⟩⟩
   | goto t=>
    obtain⟨hk3,hi3⟩:=hp;obtain⟨hr,hl3,hl4,hk4⟩:=fin (some (.goto t)) W3 hk3
    exact⟨_,_,hr,.inr ⟨rfl,.goto t,hIx _ _ _ _ hi3 hl3,hl4,hk4⟩⟩
   | panic ch=>exact hp.elim
   | outgrown=>exact hp.elim
  ·rintro e W2 ⟨⟨v,rfl⟩,(⟨hi,hl,hk⟩|⟨c,hi,hl,hk⟩)⟩
   ·exact⟨none,_,by have:=run_endLoop (P:=P) hl (by rw[hrec];simp);rw[hrec] at this;exact this,hdone _ (hIl _ _ _ _ hi hl) ((World.putObj_heap_other (by omega)).trans hk)⟩
   ·exact⟨some c,_,by have:=run_endLoop (P:=P) hl (by rw[hrec];simp);rw[hrec] at this;exact this,hstop c _ (hIx _ _ _ _ hi hl) ((World.putObj_heap_other (by omega)).trans hk)⟩
end Go.Sf
