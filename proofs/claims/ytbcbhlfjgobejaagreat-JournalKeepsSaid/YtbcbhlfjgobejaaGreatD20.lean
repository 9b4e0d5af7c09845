/- A new row of parts: the walk. Conditions: at most 570 places. A part takes its place in a row, unless there is one: the walk. Conditions: a place of the row. What an opening goes over, and what it does not scrub: the walks. Conditions: none. -/
import Derived.Test.YtbcbhlfjgobejaaGreatD19
import Derived.Deep.OwnRows
set_option linter.unusedSimpArgs false
set_option linter.unusedVariables false
namespace Go.Proofs.YtbcbhlfjgobejaaGreat
open Go.RowKit Go.Sf
theorem infoBl:(Tryz.prog.info? 4).map (fun i=>(i.zero,i.size,i.bytes))=some (some (.bool false),1,1):=by kernel_rfl
theorem infoStands3:(Tryz.prog.info? 146).map (fun i=>(i.zero,i.size,i.bytes))=some (some (.agg #[.int .i64 0,.slice none 0 0]),2,32):=by kernel_rfl
def cs0 (n:Nat):List (Nat × Value × List Int):=List.replicate n (0,.slice none 0 0,[])
theorem made_two (a b:Value) (n:Nat):(madeCells #[a,b] (n*2))=((List.replicate n [a,b]).flatten).toArray:=by
 have h:∀n,(List.range (n*2)).map (fun i=>(#[a,b]:Array Value)[i%2]!)=(List.replicate n [a,b]).flatten:=by
  intro n
  induction n with
  | zero=>rfl
  | succ n ih=>
   rw[show(n+1)*2=n*2+1+1 by omega,List.range_succ,List.range_succ,List.map_append,List.map_append,ih,List.replicate_succ',List.flatten_append]
   simp[Nat.mul_mod_left,Nat.mul_add_mod]
 unfold madeCells
 apply Array.ext'
 rw[Array.toList_map,Array.toList_range]
 exact h n
theorem made_stands (n:Nat):madeCells #[.int .i64 0,.slice none 0 0] (n*2)=((cs0 n).flatMap standCells).toArray:=by
 rw[made_two]
 congr 1
 unfold cs0
 rw[List.flatMap_replicate]
 rfl
theorem run_mkStands (n:Nat) (hn:n≤570) (w:World):(Instr.makeSlice 160 (.int .i64 (n:Int)) (.int .i64 (n:Int))).run Tryz.prog w = .ok (.slice (some ⟨w.heap.size,0,none⟩) n n) (w.alloc (.cells ((cs0 n).flatMap standCells).toArray 146)):=by
 obtain⟨i,hi,hz⟩:=Option.map_eq_some_iff.1 infoStands3
 simp only[Prod.mk.injEq] at hz
 obtain⟨z1,z2,z3⟩:=hz
 have:=run_makeSlice (P:=Tryz.prog) (w:=w) 160 146 i (.agg #[.int .i64 0,.slice none 0 0]) Tryz.underlying160 hi z1 .i64 .i64 (n:Int) (n:Int) (by omega) (by omega) (by rw[z2,Int.toNat_natCast];omega) (by rw[z3];omega) (by omega)
 rw[z2,Int.toNat_natCast] at this
 rw[this]
 show Result.ok _ (w.alloc (.cells (madeCells #[.int .i64 0,.slice none 0 0] (n*2)) _))=_
 rw[made_stands]
theorem run_mkBools (n:Nat) (hn:n≤4096) (w:World):(Instr.makeSlice 130 (.int .i64 (n:Int)) (.int .i64 (n:Int))).run Tryz.prog w = .ok (.slice (some ⟨w.heap.size,0,none⟩) n n) (w.alloc (.cells (boolV (List.replicate n false)).toArray 4)):=by
 have:=run_make_row' (P:=Tryz.prog) 130 4 (.bool false) 1 Tryz.underlying130 infoBl rfl .i64 .i64 n (by omega) (by omega) w
 rw[this]
 have e:madeCells #[Value.bool false] n=(boolV (List.replicate n false)).toArray:=by
  apply Array.ext'
  rw[toList_madeCells_one]
  simp[boolV]
 rw[e]
theorem exec_make {o:Oper} {a:Act} {w w':World} {t:TypeId} {vx vy v:Value} (x y:Operand) (hop:o.op=Op.makeSlice t x y) (hx:a.eval x=vx) (hy:a.eval y=vy) (hr:(Instr.makeSlice t vx vy).run Tryz.prog w = .ok v w'):(execOp a.eval o).run Tryz.prog w = .ok (.value v) w':=by
 unfold execOp
 rw[hop]
 change (do pure (Next.value (←Instr.makeSlice t (a.eval x) (a.eval y))):Sem Next).run Tryz.prog w=_
 rw[hx,hy]
 generalize Instr.makeSlice t vx vy=s at *
 simp[go_sem,hr]
theorem rw_new {w2:World} {ab tb n:Nat} (hn:n≤570) (ha:w2.heap[ab]? = some (.cells ((cs0 n).flatMap standCells).toArray 146 (0,0))) (ht:w2.heap[tb]? = some (.cells (boolV (List.replicate n false)).toArray 4 (0,0))) :
  RwAt (w2.alloc (.cells #[.slice (some ⟨ab,0,none⟩) n n,.slice (some ⟨tb,0,none⟩) n n] 162)) (fun _=>False) w2.heap.size ab tb (cs0 n) (rowNew n):=by
 have hg:=World.grownBy_alloc w2 (.cells #[.slice (some ⟨ab,0,none⟩) n n,.slice (some ⟨tb,0,none⟩) n n] 162) none
 have hl:(rowNew n).there.length=n:=by simp[rowNew]
 refine⟨?_,?_,?_,?_,fun c hc=>?_,by rw[hl];simp[cs0],by rw[hl];omega⟩
 ·rw[hl];exact heap_alloc_new _ _
 ·exact(hg.block ab (Array.getElem?_eq_some_iff.1 ha).1 (by simp)).trans ha
 ·exact(hg.block tb (Array.getElem?_eq_some_iff.1 ht).1 (by simp)).trans ht
 ·simp[rowNew,cs0]
 ·have:=List.eq_of_mem_replicate hc
  subst this
  exact⟨none,0,rfl,by simp[bytesV],by omega,Or.inl rfl⟩
set_option maxHeartbeats 2000000 in
set_option maxRecDepth 100000 in
theorem rowof {W:World} (n:Nat) (hn:n≤570):Calls Tryz.prog 85 #[.int .i64 (n:Int)] W fun e w'=>W.grownBy w' none∧∃pb ab tb cs,e = .returned (.pointer (some ⟨pb,0,none⟩))∧W.heap.size≤pb∧W.heap.size≤ab∧W.heap.size≤tb∧pb≠ab∧pb≠tb∧ab≠tb∧RwAt w' (fun _=>False) pb ab tb cs (rowNew n):=by
 go_enter Tryz.func85,Tryz.ntmps85
 go_upto_region 1 with fail
 refine wp_region_held_drew (S:=fun w':World=>True∧True) (by kernel_rfl) ⟨trivial,trivial⟩ (fun hHeld=>?_)
 refine wpAnyH_take (i := 0) (oi := { dst := some 3, op := Op.move (Operand.tmp 0), type := 3, pos := "slots.go:93", after := #[], guard := none }) (v := ?_) rfl (by kernel_rfl) (by kernel_rfl) (by kernel_rfl) (fun _ _ _ h => h) (Or.inl ⟨by rfl, ?_⟩) hHeld ?_
 rotate_left
 ·intro w hSw;(try dsimp only at hSw);obtain -:=hSw;go_simp;try with_reducible rfl
 (try simp only[Act.put,List.setIfInBounds_toArray,List.set_cons_zero,List.set_cons_succ])
 refine wpAnyH_take (i := 2) (oi := { dst := some 5, op := Op.move (Operand.tmp 0), type := 3, pos := "slots.go:93", after := #[], guard := none }) (v := ?_) rfl (by kernel_rfl) (by kernel_rfl) (by kernel_rfl) (fun _ _ _ h => h) (Or.inl ⟨by rfl, ?_⟩) hHeld ?_
 rotate_left
 ·intro w hSw;(try dsimp only at hSw);obtain -:=hSw;go_simp;try with_reducible rfl
 (try simp only[Act.put,List.setIfInBounds_toArray,List.set_cons_zero,List.set_cons_succ])
 refine wpAnyH_ready (rs:=[1,3]) (by kernel_rfl) (by simp) ?_
 refine AllReadyH.cons (o := { dst := some 4, op := Op.makeSlice 160 (Operand.tmp 3) (Operand.tmp 3), type := 160, pos := "slots.go:93", after := #[{ on := 0, ground := Ground.data }, { on := 0, ground := Ground.data }], guard := none }) rfl (fun K hK => ?_) (AllReadyH.cons (o := { dst := some 6, op := Op.makeSlice 130 (Operand.tmp 5) (Operand.tmp 5), type := 130, pos := "slots.go:93", after := #[{ on := 2, ground := Ground.data }, { on := 2, ground := Ground.data }], guard := none }) rfl (fun K hK => ?_) AllReadyH.nil)
 ·refine step_run rfl (exec_make _ _ rfl rfl rfl (run_mkStands n hn _)) ?_
  refine hK.out _ _ ⟨trivial,trivial⟩ (fun hHeld=>?_)
  clear hK K
  (try simp only[Act.put,List.setIfInBounds_toArray,List.set_cons_zero,List.set_cons_succ])
  refine wpAnyH_ready (rs:=[3]) (by kernel_rfl) (by simp) ?_
  refine AllReadyH.cons (o := { dst := some 6, op := Op.makeSlice 130 (Operand.tmp 5) (Operand.tmp 5), type := 130, pos := "slots.go:93", after := #[{ on := 2, ground := Ground.data }, { on := 2, ground := Ground.data }], guard := none }) rfl (fun K hK => ?_) AllReadyH.nil
  refine step_run rfl (exec_make _ _ rfl rfl rfl (run_mkBools n (by omega) _)) ?_
  refine hK.out _ _ ⟨trivial,trivial⟩ (fun hHeld=>?_)
  clear hK K
  (try simp only[Act.put,List.setIfInBounds_toArray,List.set_cons_zero,List.set_cons_succ])
  have hz0:W.drew.heap.size=W.heap.size:=rfl
  have h1:=heap_alloc_new W.drew (.cells ((cs0 n).flatMap standCells).toArray 146)
  have h2:=heap_alloc_new (W.drew.alloc (.cells ((cs0 n).flatMap standCells).toArray 146)) (.cells (boolV (List.replicate n false)).toArray 4)
  have hs1:(W.drew.alloc (.cells ((cs0 n).flatMap standCells).toArray 146)).heap.size=W.heap.size+1:=by rw[World.size_alloc];rfl
  have hs2:((W.drew.alloc (.cells ((cs0 n).flatMap standCells).toArray 146)).alloc (.cells (boolV (List.replicate n false)).toArray 4)).heap.size=W.heap.size+2:=by rw[World.size_alloc,hs1]
  have h1':=((World.grownBy_alloc (W.drew.alloc (.cells ((cs0 n).flatMap standCells).toArray 146)) (.cells (boolV (List.replicate n false)).toArray 4) none).block _ (by rw[hs1,hz0];omega) (by simp)).trans h1
  have hgr:W.grownBy ((W.drew.alloc (.cells ((cs0 n).flatMap standCells).toArray 146)).alloc (.cells (boolV (List.replicate n false)).toArray 4)) none:=grown_alloc (grown_alloc (grown_drew (grown_refl _)) _) _
  clear h1
  rw[hs1] at h2
  rw[hz0] at h1'
  (try rw[hs1])
  (try rw[hz0])
  generalize (W.drew.alloc (.cells ((cs0 n).flatMap standCells).toArray 146)).alloc (.cells (boolV (List.replicate n false)).toArray 4)=w2 at *
  have HR:=Lib.hid (rw_new hn h1' h2)
  rw[hs2] at HR
  refine wpAnyH_take (i := 4) (oi := { dst := some 7, op := Op.build 162 #[(0, Operand.tmp 4), (1, Operand.tmp 6)], type := 162, pos := "slots.go:93", after := #[{ on := 1, ground := Ground.data }, { on := 3, ground := Ground.data }], guard := none }) (v := .agg #[.slice (some ⟨W.heap.size, 0, none⟩) n n, .slice (some ⟨W.heap.size + 1, 0, none⟩) n n]) rfl (by kernel_rfl) (by kernel_rfl) (by kernel_rfl) (fun _ _ _ h => h) (Or.inl ⟨by rfl, fun w hSw => by go_simp; try with_reducible rfl⟩) hHeld ?_
  (try simp only[Act.put,List.setIfInBounds_toArray,List.set_cons_zero,List.set_cons_succ])
  refine wpAnyH_ready (rs:=[5]) (by kernel_rfl) (by simp) ?_
  refine AllReadyH.cons (o := { dst := some 8, op := Op.box 162 (Operand.tmp 7), type := 143, pos := "slots.go:93", after := #[{ on := 4, ground := Ground.data }], guard := none }) rfl (fun K hK => ?_) AllReadyH.nil
  go_simp
  refine hK.out _ _ ⟨trivial,trivial⟩ (fun hHeld=>?_)
  clear hK K
  (try simp only[Act.put,List.setIfInBounds_toArray,List.set_cons_zero,List.set_cons_succ])
  refine wpAnyH_take (i := 6) (oi := { dst := some 2, op := Op.assign (Operand.tmp 8), type := 143, pos := "slots.go:93", after := #[{ on := 5, ground := Ground.data }, { on := 0, ground := Ground.phase }, { on := 1, ground := Ground.phase }, { on := 2, ground := Ground.phase }, { on := 3, ground := Ground.phase }, { on := 4, ground := Ground.phase }, { on := 5, ground := Ground.phase }], guard := none }) (v := ?_) rfl (by kernel_rfl) (by kernel_rfl) (by kernel_rfl) (fun _ _ _ h => h) (Or.inl ⟨by rfl, ?_⟩) hHeld ?_
  rotate_left
  ·intro w hSw;(try dsimp only at hSw);obtain -:=hSw;go_simp;try with_reducible rfl
  (try simp only[Act.put,List.setIfInBounds_toArray,List.set_cons_zero,List.set_cons_succ])
  refine wpAnyH_done (by kernel_rfl) ?_ _
  go_wp2_with fail
  go_ret
  exact⟨grown_alloc hgr _,W.heap.size+2,W.heap.size,W.heap.size+1,cs0 n,rfl,by omega,by omega,by omega,by omega,by omega,by omega,HR.out⟩
 ·refine step_run rfl (exec_make _ _ rfl rfl rfl (run_mkBools n (by omega) _)) ?_
  refine hK.out _ _ ⟨trivial,trivial⟩ (fun hHeld=>?_)
  clear hK K
  (try simp only[Act.put,List.setIfInBounds_toArray,List.set_cons_zero,List.set_cons_succ])
  refine wpAnyH_ready (rs:=[1]) (by kernel_rfl) (by simp) ?_
  refine AllReadyH.cons (o := { dst := some 4, op := Op.makeSlice 160 (Operand.tmp 3) (Operand.tmp 3), type := 160, pos := "slots.go:93", after := #[{ on := 0, ground := Ground.data }, { on := 0, ground := Ground.data }], guard := none }) rfl (fun K hK => ?_) AllReadyH.nil
  refine step_run rfl (exec_make _ _ rfl rfl rfl (run_mkStands n hn _)) ?_
  refine hK.out _ _ ⟨trivial,trivial⟩ (fun hHeld=>?_)
  clear hK K
  (try simp only[Act.put,List.setIfInBounds_toArray,List.set_cons_zero,List.set_cons_succ])
  have hz0:W.drew.heap.size=W.heap.size:=rfl
  have h1:=heap_alloc_new W.drew (.cells (boolV (List.replicate n false)).toArray 4)
  have h2:=heap_alloc_new (W.drew.alloc (.cells (boolV (List.replicate n false)).toArray 4)) (.cells ((cs0 n).flatMap standCells).toArray 146)
  have hs1:(W.drew.alloc (.cells (boolV (List.replicate n false)).toArray 4)).heap.size=W.heap.size+1:=by rw[World.size_alloc];rfl
  have hs2:((W.drew.alloc (.cells (boolV (List.replicate n false)).toArray 4)).alloc (.cells ((cs0 n).flatMap standCells).toArray 146)).heap.size=W.heap.size+2:=by rw[World.size_alloc,hs1]
  have h1':=((World.grownBy_alloc (W.drew.alloc (.cells (boolV (List.replicate n false)).toArray 4)) (.cells ((cs0 n).flatMap standCells).toArray 146) none).block _ (by rw[hs1,hz0];omega) (by simp)).trans h1
  have hgr:W.grownBy ((W.drew.alloc (.cells (boolV (List.replicate n false)).toArray 4)).alloc (.cells ((cs0 n).flatMap standCells).toArray 146)) none:=grown_alloc (grown_alloc (grown_drew (grown_refl _)) _) _
  clear h1
  rw[hs1] at h2
  rw[hz0] at h1'
  (try rw[hs1])
  (try rw[hz0])
  generalize (W.drew.alloc (.cells (boolV (List.replicate n false)).toArray 4)).alloc (.cells ((cs0 n).flatMap standCells).toArray 146)=w2 at *
  have HR:=Lib.hid (rw_new hn h2 h1')
  rw[hs2] at HR
  refine wpAnyH_take (i := 4) (oi := { dst := some 7, op := Op.build 162 #[(0, Operand.tmp 4), (1, Operand.tmp 6)], type := 162, pos := "slots.go:93", after := #[{ on := 1, ground := Ground.data }, { on := 3, ground := Ground.data }], guard := none }) (v := .agg #[.slice (some ⟨W.heap.size + 1, 0, none⟩) n n, .slice (some ⟨W.heap.size, 0, none⟩) n n]) rfl (by kernel_rfl) (by kernel_rfl) (by kernel_rfl) (fun _ _ _ h => h) (Or.inl ⟨by rfl, fun w hSw => by go_simp; try with_reducible rfl⟩) hHeld ?_
  (try simp only[Act.put,List.setIfInBounds_toArray,List.set_cons_zero,List.set_cons_succ])
  refine wpAnyH_ready (rs:=[5]) (by kernel_rfl) (by simp) ?_
  refine AllReadyH.cons (o := { dst := some 8, op := Op.box 162 (Operand.tmp 7), type := 143, pos := "slots.go:93", after := #[{ on := 4, ground := Ground.data }], guard := none }) rfl (fun K hK => ?_) AllReadyH.nil
  go_simp
  refine hK.out _ _ ⟨trivial,trivial⟩ (fun hHeld=>?_)
  clear hK K
  (try simp only[Act.put,List.setIfInBounds_toArray,List.set_cons_zero,List.set_cons_succ])
  refine wpAnyH_take (i := 6) (oi := { dst := some 2, op := Op.assign (Operand.tmp 8), type := 143, pos := "slots.go:93", after := #[{ on := 5, ground := Ground.data }, { on := 0, ground := Ground.phase }, { on := 1, ground := Ground.phase }, { on := 2, ground := Ground.phase }, { on := 3, ground := Ground.phase }, { on := 4, ground := Ground.phase }, { on := 5, ground := Ground.phase }], guard := none }) (v := ?_) rfl (by kernel_rfl) (by kernel_rfl) (by kernel_rfl) (fun _ _ _ h => h) (Or.inl ⟨by rfl, ?_⟩) hHeld ?_
  rotate_left
  ·intro w hSw;(try dsimp only at hSw);obtain -:=hSw;go_simp;try with_reducible rfl
  (try simp only[Act.put,List.setIfInBounds_toArray,List.set_cons_zero,List.set_cons_succ])
  refine wpAnyH_done (by kernel_rfl) ?_ _
  go_wp2_with fail
  go_ret
  exact⟨grown_alloc hgr _,W.heap.size+2,W.heap.size+1,W.heap.size,cs0 n,rfl,by omega,by omega,by omega,by omega,by omega,by omega,HR.out⟩
theorem flat_set:∀(cs:List (Nat × Value × List Int)) (j:Nat) (c:Nat × Value × List Int),j<cs.length→(((cs.flatMap standCells).set (j*2) (.int .i64 (c.1:Int))).set (j*2+1) c.2.1)=(cs.set j c).flatMap standCells
 | [],j,c,h=>absurd h (by simp)
 | x :: t,0,c,h=>by simp[standCells]
 | x :: t,j+1,c,h=>by
  have ih:=flat_set t j c (by simpa using h)
  rw[List.flatMap_cons,List.set_cons_succ,List.flatMap_cons,←ih]
  rw[show(j+1)*2=(j*2+1)+1 by omega]
  simp[standCells]
theorem flat_len (cs:List (Nat × Value × List Int)):(cs.flatMap standCells).length=cs.length*2:=by
 induction cs with
 | nil=>rfl
 | cons x t ih=>rw[List.flatMap_cons,List.length_append,ih];simp[standCells];omega
theorem RwAt.set {W:World} {rp:Nat→Prop} {pb ab tb:Nat} {cs:List (Nat × Value × List Int)} {r:RowM} (h:RwAt W rp pb ab tb cs r) {j i:Nat} {v:Value} {b:List Int} (hj:j<r.there.length) (hf:r.there.getD j true=false) (hv:RowP rp W v (bytesV b)) (hrp:∀k,rp k→k≠ab∧k≠tb) (hne:pb≠ab∧pb≠tb∧ab≠tb) :
  RwAt (((W.setCell ⟨ab,j*2,none⟩ (.int .i64 i)).setCell ⟨ab,j*2+1,none⟩ v).setCell ⟨tb,j,none⟩ (.bool true)) rp pb ab tb (cs.set j (i,v,b)) (rowSet r j (i,b))∧Turn (fun k=>k=ab∨k=tb) W (((W.setCell ⟨ab,j*2,none⟩ (.int .i64 i)).setCell ⟨ab,j*2+1,none⟩ v).setCell ⟨tb,j,none⟩ (.bool true)):=by
 have t1:=(turn_set W ab (j*2) (.int .i64 i)).mono (cs:=fun k=>k=ab∨k=tb) (fun k hk=>Or.inl hk)
 have t2:=(turn_set (W.setCell ⟨ab,j*2,none⟩ (.int .i64 i)) ab (j*2+1) v).mono (cs:=fun k=>k=ab∨k=tb) (fun k hk=>Or.inl hk)
 have t3:=(turn_set ((W.setCell ⟨ab,j*2,none⟩ (.int .i64 i)).setCell ⟨ab,j*2+1,none⟩ v) tb j (.bool true)).mono (cs:=fun k=>k=ab∨k=tb) (fun k hk=>Or.inr hk)
 have ht:=(t1.trans t2).trans t3
 have er:rowSet r j (i,b)=⟨r.cells.set j (i,b),r.there.set j true⟩:=by unfold rowSet;rw[hf];rfl
 have hl:=h.lt
 refine⟨⟨?_,?_,?_,?_,fun c hc=>?_,?_,?_⟩,ht⟩
 ·rw[er]
  simp only[List.length_set]
  exact(ht.block pb hl.1 (fun e=>by rcases e with e|e;exact hne.1 e;exact hne.2.1 e)).trans h.box
 ·rw[←flat_set cs j (i,v,b) (by rw[h.len];exact hj)]
  simp[World.setCell,Array.getElem?_modify,h.at_,Ne.symm hne.2.2,hne.2.2]
 ·rw[er,←boolV_set]
  simp[World.setCell,Array.getElem?_modify,h.there,Ne.symm hne.2.2,hne.2.2]
 ·rw[er,List.map_set,←h.cells]
 ·have hk:∀k,rp k→(((W.setCell ⟨ab,j*2,none⟩ (.int .i64 i)).setCell ⟨ab,j*2+1,none⟩ v).setCell ⟨tb,j,none⟩ (.bool true)).heap[k]? = W.heap[k]?:=fun k hk=>by
   obtain⟨n1,n2⟩:=hrp k hk
   simp[World.setCell,Array.getElem?_modify,Ne.symm n1,Ne.symm n2]
  rcases List.mem_or_eq_of_mem_set hc with h1|h1
  ·exact(h.rows c h1).turn hk
  ·subst h1;exact hv.turn hk
 ·rw[er];simpa using h.len
 ·rw[er];simpa using h.few
set_option maxHeartbeats 4000000 in
set_option maxRecDepth 100000 in
theorem rset {W:World} {rp:Nat→Prop} {pb ab tb:Nat} {cs:List (Nat × Value × List Int)} {r:RowM} (h:RwAt W rp pb ab tb cs r) {j i:Nat} {v:Value} {b:List Int} (hj:j<r.there.length) (hv:RowP rp W v (bytesV b)) (hrp:∀k,rp k→k≠ab∧k≠tb∧k<W.heap.size) (hne:pb≠ab∧pb≠tb∧ab≠tb) :
  Calls Tryz.prog 86 #[.pointer (some ⟨pb,0,none⟩),.int .i64 (j:Int),.agg #[.int .i64 (i:Int),v]] W fun e w'=>e = .returned (.tuple #[])∧(∃cs',RwAt w' rp pb ab tb cs' (rowSet r j (i,b)))∧Turn (fun k=>k=ab∨k=tb) W w':=by
 obtain⟨pv,cv,rfl,-,-,-⟩:=hv.ex
 generalize hnn:(bytesV b).length=nb at *
 have hl:=h.lt
 have hfew:=h.few
 have c0:W.cell? ⟨pb,0,none⟩=some (.slice (some ⟨ab,0,none⟩) r.there.length r.there.length):=(cell_block h.box 0).trans rfl
 have c1:W.cell? ⟨pb,1,none⟩=some (.slice (some ⟨tb,0,none⟩) r.there.length r.there.length):=(cell_block h.box 1).trans rfl
 obtain⟨x,hx⟩:∃x,r.there[j]? = some x:=⟨_,List.getElem?_eq_getElem hj⟩
 have ct:W.cell? ⟨tb,j,none⟩=some (.bool x):=by rw[cell_block h.there];simp[boolV,hx]
 have HG:Hid (W.grownBy (W.alloc (.cells #[.int .i64 (i:Int),.slice pv nb cv] 146)) none):=(World.grownBy_alloc _ _ none)
 have HK:Hid (∀w',W.grownBy w' none→RwAt w' rp pb ab tb cs r∧RowP rp w' (.slice pv nb cv) (bytesV b)):=(fun w' hg=>⟨h.kept (hg.block _ hl.1 (by simp)) (hg.block _ hl.2.1 (by simp)) (hg.block _ hl.2.2 (by simp)) (fun k hk=>hg.block k (hrp k hk).2.2 (by simp)),hv.turn fun k hk=>hg.block k (hrp k hk).2.2 (by simp)⟩)
 cases x
 ·have HS:Hid (∀w',W.grownBy w' none→RwAt (((w'.setCell ⟨ab,j*2,none⟩ (.int .i64 i)).setCell ⟨ab,j*2+1,none⟩ (.slice pv nb cv)).setCell ⟨tb,j,none⟩ (.bool true)) rp pb ab tb (cs.set j (i,.slice pv nb cv,b)) (rowSet r j (i,b))∧Turn (fun k=>k=ab∨k=tb) W (((w'.setCell ⟨ab,j*2,none⟩ (.int .i64 i)).setCell ⟨ab,j*2+1,none⟩ (.slice pv nb cv)).setCell ⟨tb,j,none⟩ (.bool true))):=(fun w' hg=>by
   obtain⟨a1,a2⟩:=HK.out w' hg
   have h5:=a1.set hj (by simp[List.getD_eq_getElem?_getD,hx]) a2 (fun k hk=>⟨(hrp k hk).1,(hrp k hk).2.1⟩) hne (i:=i)
   exact⟨h5.1,Turn.trans ⟨hg.os,hg.tape,hg.output,hg.size,fun k hk _=>hg.block k hk (by simp)⟩ h5.2⟩)
  clear h hv hx
  generalize hrn:r.there.length=n at *
  go_enter Tryz.func86,Tryz.ntmps86
  go_upto_region 2 with fail
  have b0:(W.alloc (.cells #[.int .i64 (i:Int),.slice pv nb cv] 146)).cell? ⟨W.heap.size,0,none⟩=some (.int .i64 i):=(cell_block (heap_alloc_new _ _) 0).trans rfl
  have b1:(W.alloc (.cells #[.int .i64 (i:Int),.slice pv nb cv] 146)).cell? ⟨W.heap.size,1,none⟩=some (.slice pv nb cv):=(cell_block (heap_alloc_new _ _) 1).trans rfl
  have p0:=HG.out.cell c0 (by simp)
  have p1:=HG.out.cell c1 (by simp)
  have ha:=(HK.out _ HG.out).1
  have hab:=ha.at_
  have htb:=ha.there
  have hlen:cs.length=n:=ha.len.trans hrn
  clear hrn
  clear ha
  generalize W.alloc (.cells #[.int .i64 (i:Int),.slice pv nb cv] 146)=W1 at *
  have HAB:=Lib.hid hab
  have HTB:=Lib.hid htb
  have hn0:(0:Int)≤(j:Int)∧(j:Int)<n:=by omega
  have hfl:=flat_len cs
  obtain⟨u0,hu0⟩:∃u,W1.cell? ⟨ab,j*2,none⟩=some u:=⟨_,(cell_block hab _).trans (List.getElem?_toArray.trans (List.getElem?_eq_getElem (by rw[hfl,hlen];omega)))⟩
  obtain⟨u1,hu1⟩:∃u,W1.cell? ⟨ab,j*2+1,none⟩=some u:=⟨_,(cell_block hab _).trans (List.getElem?_toArray.trans (List.getElem?_eq_getElem (by rw[hfl,hlen];omega)))⟩
  have hf0:∀q,W1.frozen? ⟨ab,q,none⟩=false:=fun q=>by simp[World.frozen?,hab]
  have hu2:(W1.setCell ⟨ab,j*2,none⟩ (.int .i64 i)).cell? ⟨ab,j*2+1,none⟩=some u1:=cell_far (Or.inr (by omega)) hu1
  have hf2:∀q,(W1.setCell ⟨ab,j*2,none⟩ (.int .i64 i)).frozen? ⟨ab,q,none⟩=false:=fun q=>by simp[World.frozen?,World.setCell,Array.getElem?_modify,hab]
  have ht0:((W1.setCell ⟨ab,j*2,none⟩ (.int .i64 i)).setCell ⟨ab,j*2+1,none⟩ (.slice pv nb cv)).cell? ⟨tb,j,none⟩=some (.bool false):=cell_far (Or.inl (Ne.symm hne.2.2)) (cell_far (Or.inl (Ne.symm hne.2.2)) (HG.out.cell ct (by simp)))
  have hf3:((W1.setCell ⟨ab,j*2,none⟩ (.int .i64 i)).setCell ⟨ab,j*2+1,none⟩ (.slice pv nb cv)).frozen? ⟨tb,j,none⟩=false:=by simp[World.frozen?,World.setCell,Array.getElem?_modify,htb,hne.2.2]
  have HSF:=Lib.hid (HS.out W1 HG.out)
  have hwa:W.heap.size≠ab∧W.heap.size≠tb:=⟨by omega,by omega⟩
  clear hab htb hfl
  refine wp_region_held_drew (S:=fun w':World=>w'.cell? ⟨pb,0,none⟩=some (.slice (some ⟨ab,0,none⟩) n n)∧w'.cell? ⟨pb,1,none⟩=some (.slice (some ⟨tb,0,none⟩) n n)∧w'.cell? ⟨W.heap.size,0,none⟩=some (.int .i64 i)∧w'.cell? ⟨W.heap.size,1,none⟩=some (.slice pv nb cv)) (by kernel_rfl) ⟨p0,p1,b0,b1⟩ (fun hHeld=>?_)
  refine wpAnyH_take (i := 0) (oi := { dst := some 14, op := Op.move (Operand.tmp 0), type := 143, pos := "slots.go:98", after := #[], guard := none }) (v := ?_) rfl (by kernel_rfl) (by kernel_rfl) (by kernel_rfl) (fun _ _ _ h => h) (Or.inl ⟨by rfl, ?_⟩) hHeld ?_
  rotate_left
  ·intro w hSw;(try dsimp only at hSw);obtain⟨s1,s2,s3,s4⟩:=hSw;go_simp;try with_reducible rfl
  (try simp only[Act.put,List.setIfInBounds_toArray,List.set_cons_zero,List.set_cons_succ])
  refine wpAnyH_take (i := 1) (oi := { dst := some 15, op := Op.nilCheck (Operand.tmp 14), type := 0, pos := "slots.go:98", after := #[{ on := 0, ground := Ground.data }], guard := none }) (v := ?_) rfl (by kernel_rfl) (by kernel_rfl) (by kernel_rfl) (fun _ _ _ h => h) (Or.inl ⟨by rfl, ?_⟩) hHeld ?_
  rotate_left
  ·intro w hSw;(try dsimp only at hSw);obtain⟨s1,s2,s3,s4⟩:=hSw;go_simp;try with_reducible rfl
  (try simp only[Act.put,List.setIfInBounds_toArray,List.set_cons_zero,List.set_cons_succ])
  refine wpAnyH_take (i := 2) (oi := { dst := some 16, op := Op.fieldAddr 162 (Operand.tmp 15) 0, type := 0, pos := "slots.go:98", after := #[{ on := 1, ground := Ground.data }], guard := none }) (v := ?_) rfl (by kernel_rfl) (by kernel_rfl) (by kernel_rfl) (fun _ _ _ h => h) (Or.inl ⟨by rfl, ?_⟩) hHeld ?_
  rotate_left
  ·intro w hSw;(try dsimp only at hSw);obtain⟨s1,s2,s3,s4⟩:=hSw;go_simp;try with_reducible rfl
  (try simp only[Act.put,List.setIfInBounds_toArray,List.set_cons_zero,List.set_cons_succ])
  refine wpAnyH_take (i := 3) (oi := { dst := some 17, op := Op.load 160 (Operand.tmp 16), type := 160, pos := "slots.go:98", after := #[{ on := 2, ground := Ground.data }], guard := none }) (v := ?_) rfl (by kernel_rfl) (by kernel_rfl) (by kernel_rfl) (fun _ _ _ h => h) (Or.inl ⟨by rfl, ?_⟩) hHeld ?_
  rotate_left
  ·intro w hSw;(try dsimp only at hSw);obtain⟨s1,s2,s3,s4⟩:=hSw;go_simp;try with_reducible rfl
  (try simp only[Act.put,List.setIfInBounds_toArray,List.set_cons_zero,List.set_cons_succ])
  refine wpAnyH_take (i := 4) (oi := { dst := some 18, op := Op.move (Operand.tmp 1), type := 3, pos := "slots.go:98", after := #[], guard := none }) (v := ?_) rfl (by kernel_rfl) (by kernel_rfl) (by kernel_rfl) (fun _ _ _ h => h) (Or.inl ⟨by rfl, ?_⟩) hHeld ?_
  rotate_left
  ·intro w hSw;(try dsimp only at hSw);obtain⟨s1,s2,s3,s4⟩:=hSw;go_simp;try with_reducible rfl
  (try simp only[Act.put,List.setIfInBounds_toArray,List.set_cons_zero,List.set_cons_succ])
  refine wpAnyH_take (i := 5) (oi := { dst := some 19, op := Op.move (Operand.tmp 0), type := 143, pos := "slots.go:98", after := #[], guard := none }) (v := ?_) rfl (by kernel_rfl) (by kernel_rfl) (by kernel_rfl) (fun _ _ _ h => h) (Or.inl ⟨by rfl, ?_⟩) hHeld ?_
  rotate_left
  ·intro w hSw;(try dsimp only at hSw);obtain⟨s1,s2,s3,s4⟩:=hSw;go_simp;try with_reducible rfl
  (try simp only[Act.put,List.setIfInBounds_toArray,List.set_cons_zero,List.set_cons_succ])
  refine wpAnyH_take (i := 6) (oi := { dst := some 20, op := Op.nilCheck (Operand.tmp 19), type := 0, pos := "slots.go:98", after := #[{ on := 5, ground := Ground.data }], guard := none }) (v := ?_) rfl (by kernel_rfl) (by kernel_rfl) (by kernel_rfl) (fun _ _ _ h => h) (Or.inl ⟨by rfl, ?_⟩) hHeld ?_
  rotate_left
  ·intro w hSw;(try dsimp only at hSw);obtain⟨s1,s2,s3,s4⟩:=hSw;go_simp;try with_reducible rfl
  (try simp only[Act.put,List.setIfInBounds_toArray,List.set_cons_zero,List.set_cons_succ])
  refine wpAnyH_take (i := 7) (oi := { dst := some 21, op := Op.fieldAddr 162 (Operand.tmp 20) 1, type := 0, pos := "slots.go:98", after := #[{ on := 6, ground := Ground.data }], guard := none }) (v := ?_) rfl (by kernel_rfl) (by kernel_rfl) (by kernel_rfl) (fun _ _ _ h => h) (Or.inl ⟨by rfl, ?_⟩) hHeld ?_
  rotate_left
  ·intro w hSw;(try dsimp only at hSw);obtain⟨s1,s2,s3,s4⟩:=hSw;go_simp;try with_reducible rfl
  (try simp only[Act.put,List.setIfInBounds_toArray,List.set_cons_zero,List.set_cons_succ])
  refine wpAnyH_take (i := 8) (oi := { dst := some 22, op := Op.load 130 (Operand.tmp 21), type := 130, pos := "slots.go:98", after := #[{ on := 7, ground := Ground.data }], guard := none }) (v := ?_) rfl (by kernel_rfl) (by kernel_rfl) (by kernel_rfl) (fun _ _ _ h => h) (Or.inl ⟨by rfl, ?_⟩) hHeld ?_
  rotate_left
  ·intro w hSw;(try dsimp only at hSw);obtain⟨s1,s2,s3,s4⟩:=hSw;go_simp;try with_reducible rfl
  (try simp only[Act.put,List.setIfInBounds_toArray,List.set_cons_zero,List.set_cons_succ])
  refine wpAnyH_take (i := 9) (oi := { dst := some 23, op := Op.move (Operand.tmp 1), type := 3, pos := "slots.go:98", after := #[{ on := 12, ground := Ground.gcOnly Departure.lateStores }], guard := none }) (v := ?_) rfl (by kernel_rfl) (by kernel_rfl) (by kernel_rfl) (fun _ _ _ h => h) (Or.inl ⟨by rfl, ?_⟩) hHeld ?_
  rotate_left
  ·intro w hSw;(try dsimp only at hSw);obtain⟨s1,s2,s3,s4⟩:=hSw;go_simp;try with_reducible rfl
  (try simp only[Act.put,List.setIfInBounds_toArray,List.set_cons_zero,List.set_cons_succ])
  refine wpAnyH_take (i := 10) (oi := { dst := some 24, op := Op.load 146 (Operand.tmp 5), type := 146, pos := "slots.go:98", after := #[], guard := none }) (v := ?_) rfl (by kernel_rfl) (by kernel_rfl) (by kernel_rfl) (fun _ _ _ h => h) (Or.inl ⟨by rfl, ?_⟩) hHeld ?_
  rotate_left
  ·intro w hSw;(try dsimp only at hSw);obtain⟨s1,s2,s3,s4⟩:=hSw;go_simp;try with_reducible rfl
  (try simp only[Act.put,List.setIfInBounds_toArray,List.set_cons_zero,List.set_cons_succ])
  refine wpAnyH_take (i := 11) (oi := { dst := some 25, op := Op.indexAddr 160 (Operand.tmp 17) (Operand.tmp 18), type := 0, pos := "slots.go:98", after := #[{ on := 3, ground := Ground.data }, { on := 4, ground := Ground.data }, { on := 0, ground := Ground.phase }, { on := 1, ground := Ground.phase }, { on := 2, ground := Ground.phase }, { on := 3, ground := Ground.phase }, { on := 4, ground := Ground.phase }, { on := 5, ground := Ground.textOnly Departure.lateStores }, { on := 6, ground := Ground.textOnly Departure.lateStoresUnsure }, { on := 7, ground := Ground.textOnly Departure.lateStoresUnsure }, { on := 8, ground := Ground.phase }, { on := 9, ground := Ground.textOnly Departure.lateStores }, { on := 10, ground := Ground.phase }], guard := none }) (v := ?_) rfl (by kernel_rfl) (by kernel_rfl) (by kernel_rfl) (fun _ _ _ h => h) (Or.inl ⟨by rfl, ?_⟩) hHeld ?_
  rotate_left
  ·intro w hSw;(try dsimp only at hSw);obtain⟨s1,s2,s3,s4⟩:=hSw;go_simp;try with_reducible rfl
  (try simp only[Act.put,List.setIfInBounds_toArray,List.set_cons_zero,List.set_cons_succ])
  refine wpAnyH_ready (rs:=[12]) (by kernel_rfl) (by simp) ?_
  refine AllReadyH.cons (o := { dst := none, op := Op.store 146 (Operand.tmp 25) (Operand.tmp 24), type := 0, pos := "slots.go:98", after := #[{ on := 11, ground := Ground.data }, { on := 10, ground := Ground.data }, { on := 0, ground := Ground.phase }, { on := 1, ground := Ground.phase }, { on := 2, ground := Ground.phase }, { on := 3, ground := Ground.phase }, { on := 4, ground := Ground.phase }, { on := 5, ground := Ground.textOnly Departure.lateStores }, { on := 6, ground := Ground.textOnly Departure.lateStoresUnsure }, { on := 7, ground := Ground.textOnly Departure.lateStoresUnsure }, { on := 8, ground := Ground.phase }, { on := 9, ground := Ground.textOnly Departure.lateStores }, { on := 10, ground := Ground.phase }], guard := none }) rfl (fun K hK => ?_) AllReadyH.nil
  go_simp
  have hH1:(W1.setCell ⟨ab,j*2,none⟩ (.int .i64 i)).cell? ⟨pb,0,none⟩=some (.slice (some ⟨ab,0,none⟩) n n)∧(W1.setCell ⟨ab,j*2,none⟩ (.int .i64 i)).cell? ⟨pb,1,none⟩=some (.slice (some ⟨tb,0,none⟩) n n)∧(W1.setCell ⟨ab,j*2,none⟩ (.int .i64 i)).cell? ⟨W.heap.size,0,none⟩=some (.int .i64 i)∧(W1.setCell ⟨ab,j*2,none⟩ (.int .i64 i)).cell? ⟨W.heap.size,1,none⟩=some (.slice pv nb cv):=⟨cell_far (Or.inl hne.1) p0,cell_far (Or.inl hne.1) p1,cell_far (Or.inl hwa.1) b0,cell_far (Or.inl hwa.1) b1⟩
  refine hK.out _ _ ⟨cell_far (Or.inl hne.1) hH1.1,cell_far (Or.inl hne.1) hH1.2.1,cell_far (Or.inl hwa.1) hH1.2.2.1,cell_far (Or.inl hwa.1) hH1.2.2.2⟩ (fun hHeld=>?_)
  clear hK K
  (try simp only[Act.put,List.setIfInBounds_toArray,List.set_cons_zero,List.set_cons_succ])
  refine wpAnyH_take (i := 13) (oi := { dst := some 26, op := Op.indexAddr 130 (Operand.tmp 22) (Operand.tmp 23), type := 0, pos := "slots.go:98", after := #[{ on := 8, ground := Ground.data }, { on := 9, ground := Ground.data }, { on := 0, ground := Ground.phase }, { on := 1, ground := Ground.phase }, { on := 2, ground := Ground.phase }, { on := 3, ground := Ground.phase }, { on := 4, ground := Ground.phase }, { on := 5, ground := Ground.phase }, { on := 6, ground := Ground.phase }, { on := 7, ground := Ground.phase }, { on := 8, ground := Ground.phase }, { on := 9, ground := Ground.phase }, { on := 10, ground := Ground.phase }, { on := 11, ground := Ground.phase }, { on := 12, ground := Ground.phase }], guard := none }) (v := ?_) rfl (by kernel_rfl) (by kernel_rfl) (by kernel_rfl) (fun _ _ _ h => h) (Or.inl ⟨by rfl, ?_⟩) hHeld ?_
  rotate_left
  ·intro w hSw;(try dsimp only at hSw);obtain -:=hSw;go_simp;try with_reducible rfl
  (try simp only[Act.put,List.setIfInBounds_toArray,List.set_cons_zero,List.set_cons_succ])
  refine wpAnyH_ready (rs:=[14]) (by kernel_rfl) (by simp) ?_
  refine AllReadyH.cons (o := { dst := none, op := Op.store 4 (Operand.tmp 26) (Operand.const (Value.bool true)), type := 0, pos := "slots.go:98", after := #[{ on := 13, ground := Ground.data }, { on := 12, ground := Ground.chain }, { on := 0, ground := Ground.phase }, { on := 1, ground := Ground.phase }, { on := 2, ground := Ground.phase }, { on := 3, ground := Ground.phase }, { on := 4, ground := Ground.phase }, { on := 5, ground := Ground.phase }, { on := 6, ground := Ground.phase }, { on := 7, ground := Ground.phase }, { on := 8, ground := Ground.phase }, { on := 9, ground := Ground.phase }, { on := 10, ground := Ground.phase }, { on := 11, ground := Ground.phase }, { on := 12, ground := Ground.phase }], guard := none }) rfl (fun K hK => ?_) AllReadyH.nil
  go_simp
  refine hK.out _ _ ⟨cell_far (Or.inl hne.2.1) hHeld.1,cell_far (Or.inl hne.2.1) hHeld.2.1,cell_far (Or.inl hwa.2) hHeld.2.2.1,cell_far (Or.inl hwa.2) hHeld.2.2.2⟩ (fun hHeld=>?_)
  clear hK K
  (try simp only[Act.put,List.setIfInBounds_toArray,List.set_cons_zero,List.set_cons_succ])
  refine wpAnyH_done (by kernel_rfl) ?_ _
  go_wp2_with fail
  first|go_end0|refine bodyPost_ret (results_none rfl _ _ _) rfl ?_
  exact⟨rfl,⟨_,HSF.out.1.kept rfl rfl rfl (fun _ _=>rfl)⟩,HSF.out.2.trans ⟨rfl,rfl,rfl,Nat.le_refl _,fun _ _ _=>rfl⟩⟩
 ·have HQ:Hid (rowSet r j (i,b)=r):=(show _=_ from by unfold rowSet;rw[List.getD_eq_getElem?_getD,hx];rfl)
  clear h hv hx
  generalize r.there.length=n at *
  go_enter Tryz.func86,Tryz.ntmps86
  go_wp2
  first|go_end0|refine bodyPost_ret (results_none rfl _ _ _) rfl ?_
  rw[HQ.out]
  exact⟨rfl,⟨_,(HK.out _ HG.out).1⟩,HG.out.os,HG.out.tape,HG.out.output,HG.out.size,fun k hk _=>HG.out.block k hk (by simp)⟩
set_option maxRecDepth 100000 in
theorem sblocks (W:World) (db:Nat):Calls Tryz.prog 83 #[.pointer (some ⟨db,0,none⟩)] W fun e w'=>e = .returned (.func (.func 162) #[] #[.pointer (some ⟨W.heap.size,0,none⟩)])∧w'=W.alloc (.cells #[.pointer (some ⟨db,0,none⟩)] 28):=by
 go_enter Tryz.func83,Tryz.ntmps83
 go_wp2
 go_ret
 exact⟨rfl,rfl⟩
set_option maxRecDepth 100000 in
theorem sopen1 (W:World):Calls Tryz.prog 82 #[] W fun e w'=>e = .returned (.int .i64 0)∧w'=W:=by
 go_enter Tryz.func82,Tryz.ntmps82
 go_wp2
 go_ret
 exact⟨rfl,rfl⟩
end Go.Proofs.YtbcbhlfjgobejaaGreat
