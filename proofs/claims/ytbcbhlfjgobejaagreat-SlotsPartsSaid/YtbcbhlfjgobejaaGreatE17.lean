/- A map of typed pairs as the shelf's contracts have it. Conditions: keys that read as literals. DERIVED: THE SHELF's CONTRACTS AT THIS DUMP, IN PLAIN WORDS (tools/lay-plain.mjs out of 'YtbcbhlfjgobejaaGreatLayX.lean', which tools/lay-shelf.mjs wrote): THE SAME DECLARATIONS UNDER THE SAME NAMES: 'import', 'namespace', 'open', 'def', 'theorem' AND NOTHING ELSE: no command of the shelf's: FOR A HAND-IN. Each laying: the table of numbers ('.._ren') and one theorem, a field a fact of the dump's own or the kernel's comparison; each contract: ONE APPLICATION. A store in memory: Numbers: the walk. Conditions: records' numbers within range. Is a bool among bools: the walks. Conditions: a row of bools in memory. Rows of parts in memory: how they lie; whole, set: the walks. Conditions: none beyond the row's being there. A new row of parts: the walk. Conditions: at most 570 places. -/
import Derived.Test.YtbcbhlfjgobejaaGreatE1
import Derived.Shelf.SlIterI.Nil
import Derived.Shelf.SlIter.Nil
import Derived.Sort.KeysCollected
import Derived.Shelf.SortM.Plain
import Derived.Shelf.SortM.SortNone
import Derived.Ground.GgzProg
import Derived.Ground.SlgmProg
import Derived.Shelf.SlGeneric
import Derived.Test.YtbcbhlfjgobejaaGreatProg
import Derived.Test.YtbcbhlfjgobejaaGreatE16
import Derived.Test.YtbcbhlfjgobejaaGreatE13
import Derived.Test.YtbcbhlfjgobejaaGreatE15
import Derived.Deep.OwnRows
set_option linter.unusedSimpArgs false
set_option linter.unusedVariables false
namespace Go.Sf
open Go.MapKept Go.RowKit Go.Maps
open Go.WideElems (Fit rd rg)
end Go.Sf
namespace Go.Proofs
open Go.Shelf
end Go.Proofs
namespace Go.Proofs.YtbcbhlfjgobejaaGreat
open Go.RowKit Go.Sf Go.Shelf Go.Maps Go.Sort
theorem below_grown {w w':World} (h:Below w.heap.size w w'):w.grownBy w' none:=⟨h.os,h.tape,h.output,h.size,fun k hk _=>h.block k hk⟩
section
variable {own : Nat → Prop} {W W' : World} {st db mb tb : Nat} {rv : Int → Value × Value} {rb : Nat → Prop} {S : Sto}
end
open Go.RowKit Go.Sf
def NoF (xs:List Bool) (k:Nat):Prop:=∀j,j<k→xs[j]?≠some false
set_option maxHeartbeats 2000000 in
set_option maxRecDepth 100000 in
theorem index_false {W:World} {tb:Nat} {xs:List Bool} {fr:Nat × Nat} (h:W.heap[tb]? = some (.cells (boolV xs).toArray 4 fr)) (hl:xs.length≤1000000) :
  Calls Tryz.prog 217 #[.slice (some ⟨tb,0,none⟩) xs.length xs.length,.bool false] W fun e w'=>∃r:Int,e = .returned (.int .i64 r)∧(0≤r↔false∈xs)∧w'=W:=by
 have HR:Hid (∀k y,xs[k]? = some y→W.cell? ⟨tb,k,none⟩=some (.bool y)):=(fun k y hy=>by rw[cell_block h];simp[boolV,hy])
 have HP:Hid (∀r:Int,(∃j:Nat,r=j∧xs[j]? = some false)→(0≤r↔false∈xs)):=(show ∀_,_→_ from fun r ⟨j,h1,h2⟩=>⟨fun _=>List.mem_of_getElem? h2,fun _=>by omega⟩)
 have HNP:Hid (NoF xs xs.length→((0:Int)≤-1↔false∈xs)):=(show _→_ from fun hn=>⟨fun h=>absurd h (by omega),fun h=>by
  obtain⟨j,hj,e⟩:=List.getElem_of_mem h
  exact absurd (by rw[List.getElem?_eq_getElem hj,e]) (hn j hj)⟩)
 clear h
 generalize hq:xs.length=q at *
 have HQ:=Lib.hid hq
 clear hq
 go_enter Tryz.func217,Tryz.ntmps217
 go_wp2
 go_loopw [8] (fun i wr=>∃k:Nat,k≤q∧i = .int .i64 k∧Hid (NoF xs k)∧wr=W) (fun i _=>q-(intOf i).toNat)
 case atStart=>exact⟨0,Nat.zero_le _,rfl,(show NoF _ _ from fun j hj=>absurd hj (Nat.not_lt_zero _)),rfl⟩
 case round=>
  obtain⟨k,hk,rfl,hno,hw⟩:=hrel
  obtain rfl:W=wr:=hw.symm
  rcases Nat.lt_or_ge k q with hlt|hge
  ·obtain⟨y,hy⟩:∃y,xs[k]? = some y:=⟨_,List.getElem?_eq_getElem (by rw[HQ.out];exact hlt)⟩
   have cy:=HR.out k y hy
   have HY:=Lib.hid hy
   clear hy
   cases y
   ·have HE:=Lib.hid (HP.out k ⟨k,rfl,HY.out⟩)
    go_wp2
    go_ret
    exact⟨_,rfl,HE.out,rfl⟩
   ·have HN:Hid (NoF xs (k+1)):=(show NoF _ _ from fun j hj=>by
     by_cases e2:j=k
     ·subst e2;rw[HY.out];intro h;cases h
     ·exact hno.out j (by omega))
    go_wp2
    go_roundw
    case rel=>exact⟨k+1,by omega,by go_num,HN,by first|rfl|trivial⟩
    case measure=>simp[intOf];omega
  ·obtain rfl:k=q:=by omega
   have HE:=Lib.hid (HNP.out hno.out)
   go_wp2
   go_ret
   exact⟨_,rfl,HE.out,rfl⟩
set_option maxHeartbeats 2000000 in
set_option maxRecDepth 100000 in
theorem contains_false {W:World} {tb:Nat} {xs:List Bool} {fr:Nat × Nat} (h:W.heap[tb]? = some (.cells (boolV xs).toArray 4 fr)) (hl:xs.length≤1000000) :
  Calls Tryz.prog 174 #[.slice (some ⟨tb,0,none⟩) xs.length xs.length,.bool false] W fun e w'=>e = .returned (.bool (xs.contains false))∧w'=W:=by
 have HI:=Lib.hid (index_false h hl)
 have HC:Hid (∀r:Int,(0≤r↔false∈xs)→decide (0≤r)=xs.contains false):=(show ∀_,_→_ from fun r hr=>by
  rw[Bool.eq_iff_iff];simp[hr])
 clear h
 go_enter Tryz.func174,Tryz.ntmps174
 go_wp2_with (go_at_call 217;refine HI.out.mono ?_;rintro e w1 ⟨r,rfl,hr,h5⟩;obtain rfl:W=w1:=h5.symm;have HE:=Lib.hid (HC.out r hr);clear hr)
 go_ret
 exact⟨congrArg (fun b=>Ending.returned (Value.bool b)) HE.out,rfl⟩
def standCells (c:Nat × Value × List Int):List Value:=[.int .i64 (c.1:Int),c.2.1]
structure RwAt (W:World) (rp:Nat→Prop) (pb ab tb:Nat) (cs:List (Nat × Value × List Int)) (r:RowM):Prop where
 box:W.heap[pb]? = some (.cells #[.slice (some ⟨ab,0,none⟩) r.there.length r.there.length,.slice (some ⟨tb,0,none⟩) r.there.length r.there.length] 162 (0,0))
 at_:W.heap[ab]? = some (.cells (cs.flatMap standCells).toArray 146 (0,0))
 there:W.heap[tb]? = some (.cells (boolV r.there).toArray 4 (0,0))
 cells:r.cells=cs.map fun c=>(c.1,c.2.2)
 rows:∀c∈cs,RowP rp W c.2.1 (bytesV c.2.2)
 len:cs.length=r.there.length
 few:r.there.length≤1000000
theorem RwAt.kept {W W':World} {rp:Nat→Prop} {pb ab tb:Nat} {cs:List (Nat × Value × List Int)} {r:RowM} (h:RwAt W rp pb ab tb cs r) (h1:W'.heap[pb]? = W.heap[pb]?) (h2:W'.heap[ab]? = W.heap[ab]?) (h3:W'.heap[tb]? = W.heap[tb]?) (h4:∀k,rp k→W'.heap[k]? = W.heap[k]?):RwAt W' rp pb ab tb cs r:=
 ⟨h1.trans h.box,h2.trans h.at_,h3.trans h.there,h.cells,fun c hc=>(h.rows c hc).turn h4,h.len,h.few⟩
theorem RwAt.lt {W:World} {rp:Nat→Prop} {pb ab tb:Nat} {cs:List (Nat × Value × List Int)} {r:RowM} (h:RwAt W rp pb ab tb cs r):pb<W.heap.size∧ab<W.heap.size∧tb<W.heap.size:=
 ⟨(Array.getElem?_eq_some_iff.1 h.box).1,(Array.getElem?_eq_some_iff.1 h.at_).1,(Array.getElem?_eq_some_iff.1 h.there).1⟩
set_option maxRecDepth 100000 in
theorem rwhole {W:World} {rp:Nat→Prop} {pb ab tb:Nat} {cs:List (Nat × Value × List Int)} {r:RowM} (h:RwAt W rp pb ab tb cs r):Calls Tryz.prog 93 #[.pointer (some ⟨pb,0,none⟩)] W fun e w'=>e = .returned (.bool r.whole)∧w'=W:=by
 have HC:=Lib.hid (contains_false h.there h.few)
 have c1:W.cell? ⟨pb,1,none⟩=some (.slice (some ⟨tb,0,none⟩) r.there.length r.there.length):=(cell_block h.box 1).trans rfl
 have HW:Hid (r.whole = !r.there.contains false):=(show _=_ from rfl)
 clear h
 generalize r.there.contains false=z at *
 go_enter Tryz.func93,Tryz.ntmps93
 go_wp2_with (go_at_call 174;refine HC.out.mono ?_;rintro e w1 ⟨rfl,h5⟩;obtain rfl:W=w1:=h5.symm)
 go_ret
 exact⟨congrArg (fun b=>Ending.returned (Value.bool b)) HW.out.symm,rfl⟩
theorem infoBl:(Tryz.prog.info? 4).map (fun i=>(i.zero,i.size,i.bytes))=some (some (.bool false),1,1):=by kernel_rfl
theorem infoStands3:(Tryz.prog.info? 146).map (fun i=>(i.zero,i.size,i.bytes))=some (some (.agg #[.int .i64 0,.slice none 0 0]),2,32):=by kernel_rfl
def cs0 (n:Nat):List (Nat × Value × List Int):=List.replicate n (0,.slice none 0 0,[])
theorem made_two (a b:Value) (n:Nat):(madeCells #[a,b] (n*2))=((List.replicate n [a,b]).flatten).toArray:=by
 have h:∀n,(List.range (n*2)).map (fun i=>(#[a,b]:Array Value)[i%2]!)=(List.replicate n [a,b]).flatten:=by
  intro n
  induction n with
  | zero=>rfl
  | succ n ih=>
   rw[show(n+1)*2=n*2+1+1 by omega,List.range_succ,List.range_succ,List.map_append,List.map_append,ih,List.replicate_succ',List.flatten_append]
   simp[Nat.mul_mod_left,Nat.mul_add_mod]
 unfold madeCells
 apply Array.ext'
 rw[Array.toList_map,Array.toList_range]
 exact h n
theorem made_stands (n:Nat):madeCells #[.int .i64 0,.slice none 0 0] (n*2)=((cs0 n).flatMap standCells).toArray:=by
 rw[made_two]
 congr 1
 unfold cs0
 rw[List.flatMap_replicate]
 rfl
theorem run_mkStands (n:Nat) (hn:n≤570) (w:World):(Instr.makeSlice 160 (.int .i64 (n:Int)) (.int .i64 (n:Int))).run Tryz.prog w = .ok (.slice (some ⟨w.heap.size,0,none⟩) n n) (w.alloc (.cells ((cs0 n).flatMap standCells).toArray 146)):=by
 obtain⟨i,hi,hz⟩:=Option.map_eq_some_iff.1 infoStands3
 simp only[Prod.mk.injEq] at hz
 obtain⟨z1,z2,z3⟩:=hz
 have:=run_makeSlice (P:=Tryz.prog) (w:=w) 160 146 i (.agg #[.int .i64 0,.slice none 0 0]) Tryz.underlying160 hi z1 .i64 .i64 (n:Int) (n:Int) (by omega) (by omega) (by rw[z2,Int.toNat_natCast];omega) (by rw[z3];omega) (by omega)
 rw[z2,Int.toNat_natCast] at this
 rw[this]
 show Result.ok _ (w.alloc (.cells (madeCells #[.int .i64 0,.slice none 0 0] (n*2)) _))=_
 rw[made_stands]
theorem run_mkBools (n:Nat) (hn:n≤4096) (w:World):(Instr.makeSlice 130 (.int .i64 (n:Int)) (.int .i64 (n:Int))).run Tryz.prog w = .ok (.slice (some ⟨w.heap.size,0,none⟩) n n) (w.alloc (.cells (boolV (List.replicate n false)).toArray 4)):=by
 have:=run_make_row' (P:=Tryz.prog) 130 4 (.bool false) 1 Tryz.underlying130 infoBl rfl .i64 .i64 n (by omega) (by omega) w
 rw[this]
 have e:madeCells #[Value.bool false] n=(boolV (List.replicate n false)).toArray:=by
  apply Array.ext'
  rw[toList_madeCells_one]
  simp[boolV]
 rw[e]
theorem exec_make {o:Oper} {a:Act} {w w':World} {t:TypeId} {vx vy v:Value} (x y:Operand) (hop:o.op=Op.makeSlice t x y) (hx:a.eval x=vx) (hy:a.eval y=vy) (hr:(Instr.makeSlice t vx vy).run Tryz.prog w = .ok v w'):(execOp a.eval o).run Tryz.prog w = .ok (.value v) w':=by
 unfold execOp
 rw[hop]
 change (do pure (Next.value (←Instr.makeSlice t (a.eval x) (a.eval y))):Sem Next).run Tryz.prog w=_
 rw[hx,hy]
 generalize Instr.makeSlice t vx vy=s at *
 simp[go_sem,hr]
theorem rw_new {w2:World} {ab tb n:Nat} (hn:n≤570) (ha:w2.heap[ab]? = some (.cells ((cs0 n).flatMap standCells).toArray 146 (0,0))) (ht:w2.heap[tb]? = some (.cells (boolV (List.replicate n false)).toArray 4 (0,0))) :
  RwAt (w2.alloc (.cells #[.slice (some ⟨ab,0,none⟩) n n,.slice (some ⟨tb,0,none⟩) n n] 162)) (fun _=>False) w2.heap.size ab tb (cs0 n) (rowNew n):=by
 have hg:=World.grownBy_alloc w2 (.cells #[.slice (some ⟨ab,0,none⟩) n n,.slice (some ⟨tb,0,none⟩) n n] 162) none
 have hl:(rowNew n).there.length=n:=by simp[rowNew]
 refine⟨?_,?_,?_,?_,fun c hc=>?_,by rw[hl];simp[cs0],by rw[hl];omega⟩
 ·rw[hl];exact heap_alloc_new _ _
 ·exact(hg.block ab (Array.getElem?_eq_some_iff.1 ha).1 (by simp)).trans ha
 ·exact(hg.block tb (Array.getElem?_eq_some_iff.1 ht).1 (by simp)).trans ht
 ·simp[rowNew,cs0]
 ·have:=List.eq_of_mem_replicate hc
  subst this
  exact⟨none,0,rfl,by simp[bytesV],by omega,Or.inl rfl⟩
set_option maxHeartbeats 2000000 in
set_option maxRecDepth 100000 in
theorem rowof {W:World} (n:Nat) (hn:n≤570):Calls Tryz.prog 85 #[.int .i64 (n:Int)] W fun e w'=>W.grownBy w' none∧∃pb ab tb cs,e = .returned (.pointer (some ⟨pb,0,none⟩))∧W.heap.size≤pb∧W.heap.size≤ab∧W.heap.size≤tb∧pb≠ab∧pb≠tb∧ab≠tb∧RwAt w' (fun _=>False) pb ab tb cs (rowNew n):=by
 go_enter Tryz.func85,Tryz.ntmps85
 go_upto_region 1 with fail
 refine wp_region_held_drew (S:=fun w':World=>True∧True) (by kernel_rfl) ⟨trivial,trivial⟩ (fun hHeld=>?_)
 refine wpAnyH_take (i := 0) (oi := { dst := some 3, op := Op.move (Operand.tmp 0), type := 3, pos := "slots.go:93", after := #[], guard := none }) (v := ?_) rfl (by kernel_rfl) (by kernel_rfl) (by kernel_rfl) (fun _ _ _ h => h) (Or.inl ⟨by rfl, ?_⟩) hHeld ?_
 rotate_left
 ·intro w hSw;(try dsimp only at hSw);obtain -:=hSw;go_simp;try with_reducible rfl
 (try simp only[Act.put,List.setIfInBounds_toArray,List.set_cons_zero,List.set_cons_succ])
 refine wpAnyH_take (i := 2) (oi := { dst := some 5, op := Op.move (Operand.tmp 0), type := 3, pos := "slots.go:93", after := #[], guard := none }) (v := ?_) rfl (by kernel_rfl) (by kernel_rfl) (by kernel_rfl) (fun _ _ _ h => h) (Or.inl ⟨by rfl, ?_⟩) hHeld ?_
 rotate_left
 ·intro w hSw;(try dsimp only at hSw);obtain -:=hSw;go_simp;try with_reducible rfl
 (try simp only[Act.put,List.setIfInBounds_toArray,List.set_cons_zero,List.set_cons_succ])
 refine wpAnyH_ready (rs:=[1,3]) (by kernel_rfl) (by simp) ?_
 refine AllReadyH.cons (o := { dst := some 4, op := Op.makeSlice 160 (Operand.tmp 3) (Operand.tmp 3), type := 160, pos := "slots.go:93", after := #[{ on := 0, ground := Ground.data }, { on := 0, ground := Ground.data }], guard := none }) rfl (fun K hK => ?_) (AllReadyH.cons (o := { dst := some 6, op := Op.makeSlice 130 (Operand.tmp 5) (Operand.tmp 5), type := 130, pos := "slots.go:93", after := #[{ on := 2, ground := Ground.data }, { on := 2, ground := Ground.data }], guard := none }) rfl (fun K hK => ?_) AllReadyH.nil)
 ·refine step_run rfl (exec_make _ _ rfl rfl rfl (run_mkStands n hn _)) ?_
  refine hK.out _ _ ⟨trivial,trivial⟩ (fun hHeld=>?_)
  clear hK K
  (try simp only[Act.put,List.setIfInBounds_toArray,List.set_cons_zero,List.set_cons_succ])
  refine wpAnyH_ready (rs:=[3]) (by kernel_rfl) (by simp) ?_
  refine AllReadyH.cons (o := { dst := some 6, op := Op.makeSlice 130 (Operand.tmp 5) (Operand.tmp 5), type := 130, pos := "slots.go:93", after := #[{ on := 2, ground := Ground.data }, { on := 2, ground := Ground.data }], guard := none }) rfl (fun K hK => ?_) AllReadyH.nil
  refine step_run rfl (exec_make _ _ rfl rfl rfl (run_mkBools n (by omega) _)) ?_
  refine hK.out _ _ ⟨trivial,trivial⟩ (fun hHeld=>?_)
  clear hK K
  (try simp only[Act.put,List.setIfInBounds_toArray,List.set_cons_zero,List.set_cons_succ])
  have hz0:W.drew.heap.size=W.heap.size:=rfl
  have h1:=heap_alloc_new W.drew (.cells ((cs0 n).flatMap standCells).toArray 146)
  have h2:=heap_alloc_new (W.drew.alloc (.cells ((cs0 n).flatMap standCells).toArray 146)) (.cells (boolV (List.replicate n false)).toArray 4)
  have hs1:(W.drew.alloc (.cells ((cs0 n).flatMap standCells).toArray 146)).heap.size=W.heap.size+1:=by rw[World.size_alloc];rfl
  have hs2:((W.drew.alloc (.cells ((cs0 n).flatMap standCells).toArray 146)).alloc (.cells (boolV (List.replicate n false)).toArray 4)).heap.size=W.heap.size+2:=by rw[World.size_alloc,hs1]
  have h1':=((World.grownBy_alloc (W.drew.alloc (.cells ((cs0 n).flatMap standCells).toArray 146)) (.cells (boolV (List.replicate n false)).toArray 4) none).block _ (by rw[hs1,hz0];omega) (by simp)).trans h1
  have hgr:W.grownBy ((W.drew.alloc (.cells ((cs0 n).flatMap standCells).toArray 146)).alloc (.cells (boolV (List.replicate n false)).toArray 4)) none:=grown_alloc (grown_alloc (grown_drew (grown_refl _)) _) _
  clear h1
  rw[hs1] at h2
  rw[hz0] at h1'
  (try rw[hs1])
  (try rw[hz0])
  generalize (W.drew.alloc (.cells ((cs0 n).flatMap standCells).toArray 146)).alloc (.cells (boolV (List.replicate n false)).toArray 4)=w2 at *
  have HR:=Lib.hid (rw_new hn h1' h2)
  rw[hs2] at HR
  refine wpAnyH_take (i := 4) (oi := { dst := some 7, op := Op.build 162 #[(0, Operand.tmp 4), (1, Operand.tmp 6)], type := 162, pos := "slots.go:93", after := #[{ on := 1, ground := Ground.data }, { on := 3, ground := Ground.data }], guard := none }) (v := .agg #[.slice (some ⟨W.heap.size, 0, none⟩) n n, .slice (some ⟨W.heap.size + 1, 0, none⟩) n n]) rfl (by kernel_rfl) (by kernel_rfl) (by kernel_rfl) (fun _ _ _ h => h) (Or.inl ⟨by rfl, fun w hSw => by go_simp; try with_reducible rfl⟩) hHeld ?_
  (try simp only[Act.put,List.setIfInBounds_toArray,List.set_cons_zero,List.set_cons_succ])
  refine wpAnyH_ready (rs:=[5]) (by kernel_rfl) (by simp) ?_
  refine AllReadyH.cons (o := { dst := some 8, op := Op.box 162 (Operand.tmp 7), type := 143, pos := "slots.go:93", after := #[{ on := 4, ground := Ground.data }], guard := none }) rfl (fun K hK => ?_) AllReadyH.nil
  go_simp
  refine hK.out _ _ ⟨trivial,trivial⟩ (fun hHeld=>?_)
  clear hK K
  (try simp only[Act.put,List.setIfInBounds_toArray,List.set_cons_zero,List.set_cons_succ])
  refine wpAnyH_take (i := 6) (oi := { dst := some 2, op := Op.assign (Operand.tmp 8), type := 143, pos := "slots.go:93", after := #[{ on := 5, ground := Ground.data }, { on := 0, ground := Ground.phase }, { on := 1, ground := Ground.phase }, { on := 2, ground := Ground.phase }, { on := 3, ground := Ground.phase }, { on := 4, ground := Ground.phase }, { on := 5, ground := Ground.phase }], guard := none }) (v := ?_) rfl (by kernel_rfl) (by kernel_rfl) (by kernel_rfl) (fun _ _ _ h => h) (Or.inl ⟨by rfl, ?_⟩) hHeld ?_
  rotate_left
  ·intro w hSw;(try dsimp only at hSw);obtain -:=hSw;go_simp;try with_reducible rfl
  (try simp only[Act.put,List.setIfInBounds_toArray,List.set_cons_zero,List.set_cons_succ])
  refine wpAnyH_done (by kernel_rfl) ?_ _
  go_wp2_with fail
  go_ret
  exact⟨grown_alloc hgr _,W.heap.size+2,W.heap.size,W.heap.size+1,cs0 n,rfl,by omega,by omega,by omega,by omega,by omega,by omega,HR.out⟩
 ·refine step_run rfl (exec_make _ _ rfl rfl rfl (run_mkBools n (by omega) _)) ?_
  refine hK.out _ _ ⟨trivial,trivial⟩ (fun hHeld=>?_)
  clear hK K
  (try simp only[Act.put,List.setIfInBounds_toArray,List.set_cons_zero,List.set_cons_succ])
  refine wpAnyH_ready (rs:=[1]) (by kernel_rfl) (by simp) ?_
  refine AllReadyH.cons (o := { dst := some 4, op := Op.makeSlice 160 (Operand.tmp 3) (Operand.tmp 3), type := 160, pos := "slots.go:93", after := #[{ on := 0, ground := Ground.data }, { on := 0, ground := Ground.data }], guard := none }) rfl (fun K hK => ?_) AllReadyH.nil
  refine step_run rfl (exec_make _ _ rfl rfl rfl (run_mkStands n hn _)) ?_
  refine hK.out _ _ ⟨trivial,trivial⟩ (fun hHeld=>?_)
  clear hK K
  (try simp only[Act.put,List.setIfInBounds_toArray,List.set_cons_zero,List.set_cons_succ])
  have hz0:W.drew.heap.size=W.heap.size:=rfl
  have h1:=heap_alloc_new W.drew (.cells (boolV (List.replicate n false)).toArray 4)
  have h2:=heap_alloc_new (W.drew.alloc (.cells (boolV (List.replicate n false)).toArray 4)) (.cells ((cs0 n).flatMap standCells).toArray 146)
  have hs1:(W.drew.alloc (.cells (boolV (List.replicate n false)).toArray 4)).heap.size=W.heap.size+1:=by rw[World.size_alloc];rfl
  have hs2:((W.drew.alloc (.cells (boolV (List.replicate n false)).toArray 4)).alloc (.cells ((cs0 n).flatMap standCells).toArray 146)).heap.size=W.heap.size+2:=by rw[World.size_alloc,hs1]
  have h1':=((World.grownBy_alloc (W.drew.alloc (.cells (boolV (List.replicate n false)).toArray 4)) (.cells ((cs0 n).flatMap standCells).toArray 146) none).block _ (by rw[hs1,hz0];omega) (by simp)).trans h1
  have hgr:W.grownBy ((W.drew.alloc (.cells (boolV (List.replicate n false)).toArray 4)).alloc (.cells ((cs0 n).flatMap standCells).toArray 146)) none:=grown_alloc (grown_alloc (grown_drew (grown_refl _)) _) _
  clear h1
  rw[hs1] at h2
  rw[hz0] at h1'
  (try rw[hs1])
  (try rw[hz0])
  generalize (W.drew.alloc (.cells (boolV (List.replicate n false)).toArray 4)).alloc (.cells ((cs0 n).flatMap standCells).toArray 146)=w2 at *
  have HR:=Lib.hid (rw_new hn h2 h1')
  rw[hs2] at HR
  refine wpAnyH_take (i := 4) (oi := { dst := some 7, op := Op.build 162 #[(0, Operand.tmp 4), (1, Operand.tmp 6)], type := 162, pos := "slots.go:93", after := #[{ on := 1, ground := Ground.data }, { on := 3, ground := Ground.data }], guard := none }) (v := .agg #[.slice (some ⟨W.heap.size + 1, 0, none⟩) n n, .slice (some ⟨W.heap.size, 0, none⟩) n n]) rfl (by kernel_rfl) (by kernel_rfl) (by kernel_rfl) (fun _ _ _ h => h) (Or.inl ⟨by rfl, fun w hSw => by go_simp; try with_reducible rfl⟩) hHeld ?_
  (try simp only[Act.put,List.setIfInBounds_toArray,List.set_cons_zero,List.set_cons_succ])
  refine wpAnyH_ready (rs:=[5]) (by kernel_rfl) (by simp) ?_
  refine AllReadyH.cons (o := { dst := some 8, op := Op.box 162 (Operand.tmp 7), type := 143, pos := "slots.go:93", after := #[{ on := 4, ground := Ground.data }], guard := none }) rfl (fun K hK => ?_) AllReadyH.nil
  go_simp
  refine hK.out _ _ ⟨trivial,trivial⟩ (fun hHeld=>?_)
  clear hK K
  (try simp only[Act.put,List.setIfInBounds_toArray,List.set_cons_zero,List.set_cons_succ])
  refine wpAnyH_take (i := 6) (oi := { dst := some 2, op := Op.assign (Operand.tmp 8), type := 143, pos := "slots.go:93", after := #[{ on := 5, ground := Ground.data }, { on := 0, ground := Ground.phase }, { on := 1, ground := Ground.phase }, { on := 2, ground := Ground.phase }, { on := 3, ground := Ground.phase }, { on := 4, ground := Ground.phase }, { on := 5, ground := Ground.phase }], guard := none }) (v := ?_) rfl (by kernel_rfl) (by kernel_rfl) (by kernel_rfl) (fun _ _ _ h => h) (Or.inl ⟨by rfl, ?_⟩) hHeld ?_
  rotate_left
  ·intro w hSw;(try dsimp only at hSw);obtain -:=hSw;go_simp;try with_reducible rfl
  (try simp only[Act.put,List.setIfInBounds_toArray,List.set_cons_zero,List.set_cons_succ])
  refine wpAnyH_done (by kernel_rfl) ?_ _
  go_wp2_with fail
  go_ret
  exact⟨grown_alloc hgr _,W.heap.size+2,W.heap.size+1,W.heap.size,cs0 n,rfl,by omega,by omega,by omega,by omega,by omega,by omega,HR.out⟩
end Go.Proofs.YtbcbhlfjgobejaaGreat
