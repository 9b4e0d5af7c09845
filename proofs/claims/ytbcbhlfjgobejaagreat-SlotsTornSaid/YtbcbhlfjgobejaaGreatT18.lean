/- A part takes its place in a row, unless there is one: the walk. Conditions: a place of the row. What an opening goes over, and what it does not scrub: the walks. Conditions: none. A range over a function, its rounds told by their numbers: the iterator gives f 0, f 1 and so on, and leans on what the caller's invariant says. Conditions: as the theorem says. Keys of rows: how they lie, how they are told apart, how they are ordered (cmp.Compare, cmp.Or, Open$2): the walks. Conditions: none. What an opening makes of any disk: of each number the record of fewest parts: plain laws, no program. -/
import Derived.Test.YtbcbhlfjgobejaaGreatT17
import Derived.RangeFuncNested
import Derived.RangeFuncLeaves
import Derived.Shelf.SlSortCmp.WholeK
import Derived.Deep.RegionHeld3
import Derived.Test.YtbcbhlfjgobejaaGreatT15
set_option linter.unusedSimpArgs false
set_option linter.unusedVariables false
namespace Go.Proofs.YtbcbhlfjgobejaaGreat
open Go.RowKit Go.Sf
theorem flat_set:∀(cs:List (Nat × Value × List Int)) (j:Nat) (c:Nat × Value × List Int),j<cs.length→(((cs.flatMap standCells).set (j*2) (.int .i64 (c.1:Int))).set (j*2+1) c.2.1)=(cs.set j c).flatMap standCells
 | [],j,c,h=>absurd h (by simp)
 | x :: t,0,c,h=>by simp[standCells]
 | x :: t,j+1,c,h=>by
  have ih:=flat_set t j c (by simpa using h)
  rw[List.flatMap_cons,List.set_cons_succ,List.flatMap_cons,←ih]
  rw[show(j+1)*2=(j*2+1)+1 by omega]
  simp[standCells]
theorem flat_len (cs:List (Nat × Value × List Int)):(cs.flatMap standCells).length=cs.length*2:=by
 induction cs with
 | nil=>rfl
 | cons x t ih=>rw[List.flatMap_cons,List.length_append,ih];simp[standCells];omega
theorem RwAt.set {W:World} {rp:Nat→Prop} {pb ab tb:Nat} {cs:List (Nat × Value × List Int)} {r:RowM} (h:RwAt W rp pb ab tb cs r) {j i:Nat} {v:Value} {b:List Int} (hj:j<r.there.length) (hf:r.there.getD j true=false) (hv:RowP rp W v (bytesV b)) (hrp:∀k,rp k→k≠ab∧k≠tb) (hne:pb≠ab∧pb≠tb∧ab≠tb) :
  RwAt (((W.setCell ⟨ab,j*2,none⟩ (.int .i64 i)).setCell ⟨ab,j*2+1,none⟩ v).setCell ⟨tb,j,none⟩ (.bool true)) rp pb ab tb (cs.set j (i,v,b)) (rowSet r j (i,b))∧Turn (fun k=>k=ab∨k=tb) W (((W.setCell ⟨ab,j*2,none⟩ (.int .i64 i)).setCell ⟨ab,j*2+1,none⟩ v).setCell ⟨tb,j,none⟩ (.bool true)):=by
 have t1:=(turn_set W ab (j*2) (.int .i64 i)).mono (cs:=fun k=>k=ab∨k=tb) (fun k hk=>Or.inl hk)
 have t2:=(turn_set (W.setCell ⟨ab,j*2,none⟩ (.int .i64 i)) ab (j*2+1) v).mono (cs:=fun k=>k=ab∨k=tb) (fun k hk=>Or.inl hk)
 have t3:=(turn_set ((W.setCell ⟨ab,j*2,none⟩ (.int .i64 i)).setCell ⟨ab,j*2+1,none⟩ v) tb j (.bool true)).mono (cs:=fun k=>k=ab∨k=tb) (fun k hk=>Or.inr hk)
 have ht:=(t1.trans t2).trans t3
 have er:rowSet r j (i,b)=⟨r.cells.set j (i,b),r.there.set j true⟩:=by unfold rowSet;rw[hf];rfl
 have hl:=h.lt
 refine⟨⟨?_,?_,?_,?_,fun c hc=>?_,?_,?_⟩,ht⟩
 ·rw[er]
  simp only[List.length_set]
  exact(ht.block pb hl.1 (fun e=>by rcases e with e|e;exact hne.1 e;exact hne.2.1 e)).trans h.box
 ·rw[←flat_set cs j (i,v,b) (by rw[h.len];exact hj)]
  simp[World.setCell,Array.getElem?_modify,h.at_,Ne.symm hne.2.2,hne.2.2]
 ·rw[er,←boolV_set]
  simp[World.setCell,Array.getElem?_modify,h.there,Ne.symm hne.2.2,hne.2.2]
 ·rw[er,List.map_set,←h.cells]
 ·have hk:∀k,rp k→(((W.setCell ⟨ab,j*2,none⟩ (.int .i64 i)).setCell ⟨ab,j*2+1,none⟩ v).setCell ⟨tb,j,none⟩ (.bool true)).heap[k]? = W.heap[k]?:=fun k hk=>by
   obtain⟨n1,n2⟩:=hrp k hk
   simp[World.setCell,Array.getElem?_modify,Ne.symm n1,Ne.symm n2]
  rcases List.mem_or_eq_of_mem_set hc with h1|h1
  ·exact(h.rows c h1).turn hk
  ·subst h1;exact hv.turn hk
 ·rw[er];simpa using h.len
 ·rw[er];simpa using h.few
set_option maxHeartbeats 4000000 in
set_option maxRecDepth 100000 in
theorem rset {W:World} {rp:Nat→Prop} {pb ab tb:Nat} {cs:List (Nat × Value × List Int)} {r:RowM} (h:RwAt W rp pb ab tb cs r) {j i:Nat} {v:Value} {b:List Int} (hj:j<r.there.length) (hv:RowP rp W v (bytesV b)) (hrp:∀k,rp k→k≠ab∧k≠tb∧k<W.heap.size) (hne:pb≠ab∧pb≠tb∧ab≠tb) :
  Calls Tryz.prog 86 #[.pointer (some ⟨pb,0,none⟩),.int .i64 (j:Int),.agg #[.int .i64 (i:Int),v]] W fun e w'=>e = .returned (.tuple #[])∧(∃cs',RwAt w' rp pb ab tb cs' (rowSet r j (i,b)))∧Turn (fun k=>k=ab∨k=tb) W w':=by
 obtain⟨pv,cv,rfl,-,-,-⟩:=hv.ex
 generalize hnn:(bytesV b).length=nb at *
 have hl:=h.lt
 have hfew:=h.few
 have c0:W.cell? ⟨pb,0,none⟩=some (.slice (some ⟨ab,0,none⟩) r.there.length r.there.length):=(cell_block h.box 0).trans rfl
 have c1:W.cell? ⟨pb,1,none⟩=some (.slice (some ⟨tb,0,none⟩) r.there.length r.there.length):=(cell_block h.box 1).trans rfl
 obtain⟨x,hx⟩:∃x,r.there[j]? = some x:=⟨_,List.getElem?_eq_getElem hj⟩
 have ct:W.cell? ⟨tb,j,none⟩=some (.bool x):=by rw[cell_block h.there];simp[boolV,hx]
 have HG:Hid (W.grownBy (W.alloc (.cells #[.int .i64 (i:Int),.slice pv nb cv] 146)) none):=(World.grownBy_alloc _ _ none)
 have HK:Hid (∀w',W.grownBy w' none→RwAt w' rp pb ab tb cs r∧RowP rp w' (.slice pv nb cv) (bytesV b)):=(fun w' hg=>⟨h.kept (hg.block _ hl.1 (by simp)) (hg.block _ hl.2.1 (by simp)) (hg.block _ hl.2.2 (by simp)) (fun k hk=>hg.block k (hrp k hk).2.2 (by simp)),hv.turn fun k hk=>hg.block k (hrp k hk).2.2 (by simp)⟩)
 cases x
 ·have HS:Hid (∀w',W.grownBy w' none→RwAt (((w'.setCell ⟨ab,j*2,none⟩ (.int .i64 i)).setCell ⟨ab,j*2+1,none⟩ (.slice pv nb cv)).setCell ⟨tb,j,none⟩ (.bool true)) rp pb ab tb (cs.set j (i,.slice pv nb cv,b)) (rowSet r j (i,b))∧Turn (fun k=>k=ab∨k=tb) W (((w'.setCell ⟨ab,j*2,none⟩ (.int .i64 i)).setCell ⟨ab,j*2+1,none⟩ (.slice pv nb cv)).setCell ⟨tb,j,none⟩ (.bool true))):=(fun w' hg=>by
   obtain⟨a1,a2⟩:=HK.out w' hg
   have h5:=a1.set hj (by simp[List.getD_eq_getElem?_getD,hx]) a2 (fun k hk=>⟨(hrp k hk).1,(hrp k hk).2.1⟩) hne (i:=i)
   exact⟨h5.1,Turn.trans ⟨hg.os,hg.tape,hg.output,hg.size,fun k hk _=>hg.block k hk (by simp)⟩ h5.2⟩)
  clear h hv hx
  generalize hrn:r.there.length=n at *
  go_enter Tryz.func86,Tryz.ntmps86
  go_upto_region 2 with fail
  have b0:(W.alloc (.cells #[.int .i64 (i:Int),.slice pv nb cv] 146)).cell? ⟨W.heap.size,0,none⟩=some (.int .i64 i):=(cell_block (heap_alloc_new _ _) 0).trans rfl
  have b1:(W.alloc (.cells #[.int .i64 (i:Int),.slice pv nb cv] 146)).cell? ⟨W.heap.size,1,none⟩=some (.slice pv nb cv):=(cell_block (heap_alloc_new _ _) 1).trans rfl
  have p0:=HG.out.cell c0 (by simp)
  have p1:=HG.out.cell c1 (by simp)
  have ha:=(HK.out _ HG.out).1
  have hab:=ha.at_
  have htb:=ha.there
  have hlen:cs.length=n:=ha.len.trans hrn
  clear hrn
  clear ha
  generalize W.alloc (.cells #[.int .i64 (i:Int),.slice pv nb cv] 146)=W1 at *
  have HAB:=Lib.hid hab
  have HTB:=Lib.hid htb
  have hn0:(0:Int)≤(j:Int)∧(j:Int)<n:=by omega
  have hfl:=flat_len cs
  obtain⟨u0,hu0⟩:∃u,W1.cell? ⟨ab,j*2,none⟩=some u:=⟨_,(cell_block hab _).trans (List.getElem?_toArray.trans (List.getElem?_eq_getElem (by rw[hfl,hlen];omega)))⟩
  obtain⟨u1,hu1⟩:∃u,W1.cell? ⟨ab,j*2+1,none⟩=some u:=⟨_,(cell_block hab _).trans (List.getElem?_toArray.trans (List.getElem?_eq_getElem (by rw[hfl,hlen];omega)))⟩
  have hf0:∀q,W1.frozen? ⟨ab,q,none⟩=false:=fun q=>by simp[World.frozen?,hab]
  have hu2:(W1.setCell ⟨ab,j*2,none⟩ (.int .i64 i)).cell? ⟨ab,j*2+1,none⟩=some u1:=cell_far (Or.inr (by omega)) hu1
  have hf2:∀q,(W1.setCell ⟨ab,j*2,none⟩ (.int .i64 i)).frozen? ⟨ab,q,none⟩=false:=fun q=>by simp[World.frozen?,World.setCell,Array.getElem?_modify,hab]
  have ht0:((W1.setCell ⟨ab,j*2,none⟩ (.int .i64 i)).setCell ⟨ab,j*2+1,none⟩ (.slice pv nb cv)).cell? ⟨tb,j,none⟩=some (.bool false):=cell_far (Or.inl (Ne.symm hne.2.2)) (cell_far (Or.inl (Ne.symm hne.2.2)) (HG.out.cell ct (by simp)))
  have hf3:((W1.setCell ⟨ab,j*2,none⟩ (.int .i64 i)).setCell ⟨ab,j*2+1,none⟩ (.slice pv nb cv)).frozen? ⟨tb,j,none⟩=false:=by simp[World.frozen?,World.setCell,Array.getElem?_modify,htb,hne.2.2]
  have HSF:=Lib.hid (HS.out W1 HG.out)
  have hwa:W.heap.size≠ab∧W.heap.size≠tb:=⟨by omega,by omega⟩
  clear hab htb hfl
  refine wp_region_held_drew (S:=fun w':World=>w'.cell? ⟨pb,0,none⟩=some (.slice (some ⟨ab,0,none⟩) n n)∧w'.cell? ⟨pb,1,none⟩=some (.slice (some ⟨tb,0,none⟩) n n)∧w'.cell? ⟨W.heap.size,0,none⟩=some (.int .i64 i)∧w'.cell? ⟨W.heap.size,1,none⟩=some (.slice pv nb cv)) (by kernel_rfl) ⟨p0,p1,b0,b1⟩ (fun hHeld=>?_)
  refine wpAnyH_take (i := 0) (oi := { dst := some 14, op := Op.move (Operand.tmp 0), type := 143, pos := "slots.go:98", after := #[], guard := none }) (v := ?_) rfl (by kernel_rfl) (by kernel_rfl) (by kernel_rfl) (fun _ _ _ h => h) (Or.inl ⟨by rfl, ?_⟩) hHeld ?_
  rotate_left
  ·intro w hSw;(try dsimp only at hSw);obtain⟨s1,s2,s3,s4⟩:=hSw;go_simp;try with_reducible rfl
  (try simp only[Act.put,List.setIfInBounds_toArray,List.set_cons_zero,List.set_cons_succ])
  refine wpAnyH_take (i := 1) (oi := { dst := some 15, op := Op.nilCheck (Operand.tmp 14), type := 0, pos := "slots.go:98", after := #[{ on := 0, ground := Ground.data }], guard := none }) (v := ?_) rfl (by kernel_rfl) (by kernel_rfl) (by kernel_rfl) (fun _ _ _ h => h) (Or.inl ⟨by rfl, ?_⟩) hHeld ?_
  rotate_left
  ·intro w hSw;(try dsimp only at hSw);obtain⟨s1,s2,s3,s4⟩:=hSw;go_simp;try with_reducible rfl
  (try simp only[Act.put,List.setIfInBounds_toArray,List.set_cons_zero,List.set_cons_succ])
  refine wpAnyH_take (i := 2) (oi := { dst := some 16, op := Op.fieldAddr 162 (Operand.tmp 15) 0, type := 0, pos := "slots.go:98", after := #[{ on := 1, ground := Ground.data }], guard := none }) (v := ?_) rfl (by kernel_rfl) (by kernel_rfl) (by kernel_rfl) (fun _ _ _ h => h) (Or.inl ⟨by rfl, ?_⟩) hHeld ?_
  rotate_left
  ·intro w hSw;(try dsimp only at hSw);obtain⟨s1,s2,s3,s4⟩:=hSw;go_simp;try with_reducible rfl
  (try simp only[Act.put,List.setIfInBounds_toArray,List.set_cons_zero,List.set_cons_succ])
  refine wpAnyH_take (i := 3) (oi := { dst := some 17, op := Op.load 160 (Operand.tmp 16), type := 160, pos := "slots.go:98", after := #[{ on := 2, ground := Ground.data }], guard := none }) (v := ?_) rfl (by kernel_rfl) (by kernel_rfl) (by kernel_rfl) (fun _ _ _ h => h) (Or.inl ⟨by rfl, ?_⟩) hHeld ?_
  rotate_left
  ·intro w hSw;(try dsimp only at hSw);obtain⟨s1,s2,s3,s4⟩:=hSw;go_simp;try with_reducible rfl
  (try simp only[Act.put,List.setIfInBounds_toArray,List.set_cons_zero,List.set_cons_succ])
  refine wpAnyH_take (i := 4) (oi := { dst := some 18, op := Op.move (Operand.tmp 1), type := 3, pos := "slots.go:98", after := #[], guard := none }) (v := ?_) rfl (by kernel_rfl) (by kernel_rfl) (by kernel_rfl) (fun _ _ _ h => h) (Or.inl ⟨by rfl, ?_⟩) hHeld ?_
  rotate_left
  ·intro w hSw;(try dsimp only at hSw);obtain⟨s1,s2,s3,s4⟩:=hSw;go_simp;try with_reducible rfl
  (try simp only[Act.put,List.setIfInBounds_toArray,List.set_cons_zero,List.set_cons_succ])
  refine wpAnyH_take (i := 5) (oi := { dst := some 19, op := Op.move (Operand.tmp 0), type := 143, pos := "slots.go:98", after := #[], guard := none }) (v := ?_) rfl (by kernel_rfl) (by kernel_rfl) (by kernel_rfl) (fun _ _ _ h => h) (Or.inl ⟨by rfl, ?_⟩) hHeld ?_
  rotate_left
  ·intro w hSw;(try dsimp only at hSw);obtain⟨s1,s2,s3,s4⟩:=hSw;go_simp;try with_reducible rfl
  (try simp only[Act.put,List.setIfInBounds_toArray,List.set_cons_zero,List.set_cons_succ])
  refine wpAnyH_take (i := 6) (oi := { dst := some 20, op := Op.nilCheck (Operand.tmp 19), type := 0, pos := "slots.go:98", after := #[{ on := 5, ground := Ground.data }], guard := none }) (v := ?_) rfl (by kernel_rfl) (by kernel_rfl) (by kernel_rfl) (fun _ _ _ h => h) (Or.inl ⟨by rfl, ?_⟩) hHeld ?_
  rotate_left
  ·intro w hSw;(try dsimp only at hSw);obtain⟨s1,s2,s3,s4⟩:=hSw;go_simp;try with_reducible rfl
  (try simp only[Act.put,List.setIfInBounds_toArray,List.set_cons_zero,List.set_cons_succ])
  refine wpAnyH_take (i := 7) (oi := { dst := some 21, op := Op.fieldAddr 162 (Operand.tmp 20) 1, type := 0, pos := "slots.go:98", after := #[{ on := 6, ground := Ground.data }], guard := none }) (v := ?_) rfl (by kernel_rfl) (by kernel_rfl) (by kernel_rfl) (fun _ _ _ h => h) (Or.inl ⟨by rfl, ?_⟩) hHeld ?_
  rotate_left
  ·intro w hSw;(try dsimp only at hSw);obtain⟨s1,s2,s3,s4⟩:=hSw;go_simp;try with_reducible rfl
  (try simp only[Act.put,List.setIfInBounds_toArray,List.set_cons_zero,List.set_cons_succ])
  refine wpAnyH_take (i := 8) (oi := { dst := some 22, op := Op.load 130 (Operand.tmp 21), type := 130, pos := "slots.go:98", after := #[{ on := 7, ground := Ground.data }], guard := none }) (v := ?_) rfl (by kernel_rfl) (by kernel_rfl) (by kernel_rfl) (fun _ _ _ h => h) (Or.inl ⟨by rfl, ?_⟩) hHeld ?_
  rotate_left
  ·intro w hSw;(try dsimp only at hSw);obtain⟨s1,s2,s3,s4⟩:=hSw;go_simp;try with_reducible rfl
  (try simp only[Act.put,List.setIfInBounds_toArray,List.set_cons_zero,List.set_cons_succ])
  refine wpAnyH_take (i := 9) (oi := { dst := some 23, op := Op.move (Operand.tmp 1), type := 3, pos := "slots.go:98", after := #[{ on := 12, ground := Ground.gcOnly Departure.lateStores }], guard := none }) (v := ?_) rfl (by kernel_rfl) (by kernel_rfl) (by kernel_rfl) (fun _ _ _ h => h) (Or.inl ⟨by rfl, ?_⟩) hHeld ?_
  rotate_left
  ·intro w hSw;(try dsimp only at hSw);obtain⟨s1,s2,s3,s4⟩:=hSw;go_simp;try with_reducible rfl
  (try simp only[Act.put,List.setIfInBounds_toArray,List.set_cons_zero,List.set_cons_succ])
  refine wpAnyH_take (i := 10) (oi := { dst := some 24, op := Op.load 146 (Operand.tmp 5), type := 146, pos := "slots.go:98", after := #[], guard := none }) (v := ?_) rfl (by kernel_rfl) (by kernel_rfl) (by kernel_rfl) (fun _ _ _ h => h) (Or.inl ⟨by rfl, ?_⟩) hHeld ?_
  rotate_left
  ·intro w hSw;(try dsimp only at hSw);obtain⟨s1,s2,s3,s4⟩:=hSw;go_simp;try with_reducible rfl
  (try simp only[Act.put,List.setIfInBounds_toArray,List.set_cons_zero,List.set_cons_succ])
  refine wpAnyH_take (i := 11) (oi := { dst := some 25, op := Op.indexAddr 160 (Operand.tmp 17) (Operand.tmp 18), type := 0, pos := "slots.go:98", after := #[{ on := 3, ground := Ground.data }, { on := 4, ground := Ground.data }, { on := 0, ground := Ground.phase }, { on := 1, ground := Ground.phase }, { on := 2, ground := Ground.phase }, { on := 3, ground := Ground.phase }, { on := 4, ground := Ground.phase }, { on := 5, ground := Ground.textOnly Departure.lateStores }, { on := 6, ground := Ground.textOnly Departure.lateStoresUnsure }, { on := 7, ground := Ground.textOnly Departure.lateStoresUnsure }, { on := 8, ground := Ground.phase }, { on := 9, ground := Ground.textOnly Departure.lateStores }, { on := 10, ground := Ground.phase }], guard := none }) (v := ?_) rfl (by kernel_rfl) (by kernel_rfl) (by kernel_rfl) (fun _ _ _ h => h) (Or.inl ⟨by rfl, ?_⟩) hHeld ?_
  rotate_left
  ·intro w hSw;(try dsimp only at hSw);obtain⟨s1,s2,s3,s4⟩:=hSw;go_simp;try with_reducible rfl
  (try simp only[Act.put,List.setIfInBounds_toArray,List.set_cons_zero,List.set_cons_succ])
  refine wpAnyH_ready (rs:=[12]) (by kernel_rfl) (by simp) ?_
  refine AllReadyH.cons (o := { dst := none, op := Op.store 146 (Operand.tmp 25) (Operand.tmp 24), type := 0, pos := "slots.go:98", after := #[{ on := 11, ground := Ground.data }, { on := 10, ground := Ground.data }, { on := 0, ground := Ground.phase }, { on := 1, ground := Ground.phase }, { on := 2, ground := Ground.phase }, { on := 3, ground := Ground.phase }, { on := 4, ground := Ground.phase }, { on := 5, ground := Ground.textOnly Departure.lateStores }, { on := 6, ground := Ground.textOnly Departure.lateStoresUnsure }, { on := 7, ground := Ground.textOnly Departure.lateStoresUnsure }, { on := 8, ground := Ground.phase }, { on := 9, ground := Ground.textOnly Departure.lateStores }, { on := 10, ground := Ground.phase }], guard := none }) rfl (fun K hK => ?_) AllReadyH.nil
  go_simp
  have hH1:(W1.setCell ⟨ab,j*2,none⟩ (.int .i64 i)).cell? ⟨pb,0,none⟩=some (.slice (some ⟨ab,0,none⟩) n n)∧(W1.setCell ⟨ab,j*2,none⟩ (.int .i64 i)).cell? ⟨pb,1,none⟩=some (.slice (some ⟨tb,0,none⟩) n n)∧(W1.setCell ⟨ab,j*2,none⟩ (.int .i64 i)).cell? ⟨W.heap.size,0,none⟩=some (.int .i64 i)∧(W1.setCell ⟨ab,j*2,none⟩ (.int .i64 i)).cell? ⟨W.heap.size,1,none⟩=some (.slice pv nb cv):=⟨cell_far (Or.inl hne.1) p0,cell_far (Or.inl hne.1) p1,cell_far (Or.inl hwa.1) b0,cell_far (Or.inl hwa.1) b1⟩
  refine hK.out _ _ ⟨cell_far (Or.inl hne.1) hH1.1,cell_far (Or.inl hne.1) hH1.2.1,cell_far (Or.inl hwa.1) hH1.2.2.1,cell_far (Or.inl hwa.1) hH1.2.2.2⟩ (fun hHeld=>?_)
  clear hK K
  (try simp only[Act.put,List.setIfInBounds_toArray,List.set_cons_zero,List.set_cons_succ])
  refine wpAnyH_take (i := 13) (oi := { dst := some 26, op := Op.indexAddr 130 (Operand.tmp 22) (Operand.tmp 23), type := 0, pos := "slots.go:98", after := #[{ on := 8, ground := Ground.data }, { on := 9, ground := Ground.data }, { on := 0, ground := Ground.phase }, { on := 1, ground := Ground.phase }, { on := 2, ground := Ground.phase }, { on := 3, ground := Ground.phase }, { on := 4, ground := Ground.phase }, { on := 5, ground := Ground.phase }, { on := 6, ground := Ground.phase }, { on := 7, ground := Ground.phase }, { on := 8, ground := Ground.phase }, { on := 9, ground := Ground.phase }, { on := 10, ground := Ground.phase }, { on := 11, ground := Ground.phase }, { on := 12, ground := Ground.phase }], guard := none }) (v := ?_) rfl (by kernel_rfl) (by kernel_rfl) (by kernel_rfl) (fun _ _ _ h => h) (Or.inl ⟨by rfl, ?_⟩) hHeld ?_
  rotate_left
  ·intro w hSw;(try dsimp only at hSw);obtain -:=hSw;go_simp;try with_reducible rfl
  (try simp only[Act.put,List.setIfInBounds_toArray,List.set_cons_zero,List.set_cons_succ])
  refine wpAnyH_ready (rs:=[14]) (by kernel_rfl) (by simp) ?_
  refine AllReadyH.cons (o := { dst := none, op := Op.store 4 (Operand.tmp 26) (Operand.const (Value.bool true)), type := 0, pos := "slots.go:98", after := #[{ on := 13, ground := Ground.data }, { on := 12, ground := Ground.chain }, { on := 0, ground := Ground.phase }, { on := 1, ground := Ground.phase }, { on := 2, ground := Ground.phase }, { on := 3, ground := Ground.phase }, { on := 4, ground := Ground.phase }, { on := 5, ground := Ground.phase }, { on := 6, ground := Ground.phase }, { on := 7, ground := Ground.phase }, { on := 8, ground := Ground.phase }, { on := 9, ground := Ground.phase }, { on := 10, ground := Ground.phase }, { on := 11, ground := Ground.phase }, { on := 12, ground := Ground.phase }], guard := none }) rfl (fun K hK => ?_) AllReadyH.nil
  go_simp
  refine hK.out _ _ ⟨cell_far (Or.inl hne.2.1) hHeld.1,cell_far (Or.inl hne.2.1) hHeld.2.1,cell_far (Or.inl hwa.2) hHeld.2.2.1,cell_far (Or.inl hwa.2) hHeld.2.2.2⟩ (fun hHeld=>?_)
  clear hK K
  (try simp only[Act.put,List.setIfInBounds_toArray,List.set_cons_zero,List.set_cons_succ])
  refine wpAnyH_done (by kernel_rfl) ?_ _
  go_wp2_with fail
  first|go_end0|refine bodyPost_ret (results_none rfl _ _ _) rfl ?_
  exact⟨rfl,⟨_,HSF.out.1.kept rfl rfl rfl (fun _ _=>rfl)⟩,HSF.out.2.trans ⟨rfl,rfl,rfl,Nat.le_refl _,fun _ _ _=>rfl⟩⟩
 ·have HQ:Hid (rowSet r j (i,b)=r):=(show _=_ from by unfold rowSet;rw[List.getD_eq_getElem?_getD,hx];rfl)
  clear h hv hx
  generalize r.there.length=n at *
  go_enter Tryz.func86,Tryz.ntmps86
  go_wp2
  first|go_end0|refine bodyPost_ret (results_none rfl _ _ _) rfl ?_
  rw[HQ.out]
  exact⟨rfl,⟨_,(HK.out _ HG.out).1⟩,HG.out.os,HG.out.tape,HG.out.output,HG.out.size,fun k hk _=>HG.out.block k hk (by simp)⟩
set_option maxRecDepth 100000 in
theorem sblocks (W:World) (db:Nat):Calls Tryz.prog 83 #[.pointer (some ⟨db,0,none⟩)] W fun e w'=>e = .returned (.func (.func 162) #[] #[.pointer (some ⟨W.heap.size,0,none⟩)])∧w'=W.alloc (.cells #[.pointer (some ⟨db,0,none⟩)] 28):=by
 go_enter Tryz.func83,Tryz.ntmps83
 go_wp2
 go_ret
 exact⟨rfl,rfl⟩
set_option maxRecDepth 100000 in
theorem sopen1 (W:World):Calls Tryz.prog 82 #[] W fun e w'=>e = .returned (.int .i64 0)∧w'=W:=by
 go_enter Tryz.func82,Tryz.ntmps82
 go_wp2
 go_ret
 exact⟨rfl,rfl⟩
end Go.Proofs.YtbcbhlfjgobejaaGreat
namespace Go.Sf
open Go.RowKit Go
variable {F : Fence} {n : Nat} {P : Program}
def ItCall (F:Fence) (n:Nat) (P:Program) (gf:Nat) (lb:Array Value) (f:Nat→Array Value) (N:Nat) (Need:Nat→World→Prop) (W:World):Prop:=
 ∀(l:Nat) (J:Nat→World→Prop) (Jx:World→Prop),(∀i X Y,J i X→X.grownBy Y none→J i Y)→(∀i X,J i X→Need i X)→
  (∀i W1,J i W1→i<N→YieldAt F (n-1) P l (f i) W1 fun e W'=>(e = .returned (.bool true)∧J (i+1) W')∨(e = .returned (.bool false)∧Jx W'))→
  J 0 W→CallsIn F n P gf (#[.func (.yield l) #[] #[]]++lb) W fun e W'=>(∃v,e = .returned v)∧(J N W'∨Jx W')
def KeepsTwo (B:Nat) (W W':World):Prop:=W.heap.size≤W'.heap.size∧W'.heap[B]? = W.heap[B]?∧W'.heap[B+1]? = W.heap[B+1]?
def numPost (B:Nat) (I:Nat→World→Prop) (Ix:Code→World→Prop) (i:Nat) (W:World):Exit→Act→World→Prop
 | .normal,_,W'=>KeepsTwo B W W'∧I (i+1) W'
 | .ret,_,W'=>KeepsTwo B W W'∧Ix .ret W'
 | .exit id,_,W'=>KeepsTwo B W W'∧Ix (.exit id) W'
 | .goto t,_,W'=>KeepsTwo B W W'∧Ix (.goto t) W'
 | _,_,_=>False
theorem rangeFunc_num {g:Operand} {ps:Array Tmp} {assign body:Code} {Q:Exit→Act→World→Prop} {a:Act} {w:World}
  (hro:F.round=none) (h1:1≤n) {gf:Nat} {lb:Array Value} (hg:a.eval g = .func (.func gf) #[] lb) (hFg:F.fn gf) (eg:∀args w,(callFunc gf args).run P w = .ok (.enter gf args) w)
  {f:Nat→Array Value} (hps:∀i,(f i).size=ps.size) {N:Nat} {Need:Nat→World→Prop}
  (hcall:∀W1,w.grownBy W1 none→W1.heap.size=w.heap.size+2→ItCall F (n-1) P gf lb f N Need W1)
  (I:Nat→World→Prop) (Ix:Code→World→Prop) (hIg:∀i X Y,I i X→X.grownBy Y none→I i Y)
  (hIl:∀i X r r',I i X→X.heap[w.heap.size+1]? = some (.loop r)→I i (X.putObj (w.heap.size+1) (.loop r')))
  (hIx:∀c X r r',Ix c X→X.heap[w.heap.size+1]? = some (.loop r)→Ix c (X.putObj (w.heap.size+1) (.loop r')))
  (hIn:∀i X,I i X→Need i X)
  (h0:∀W1,w.grownBy W1 none→W1.heap.size=w.heap.size+2→I 0 W1)
  (Ax:Nat→Act→World→Prop) (hAx:∀i a' X r r',Ax i a' X→X.heap[w.heap.size+1]? = some (.loop r)→Ax i a' (X.putObj (w.heap.size+1) (.loop r')))
  (hassign:∀(l i:Nat) (W:World) (K:Act→World→Prop),w.heap.size+2≤W.heap.size→I i W→i<N→(∀a' W',KeepsTwo w.heap.size W W'→I i W'→Ax i a' W'→K a' W')→
   assign.wpIn (F.inRound l) (n-1-1) P (Exit.then K (fun _ _ _=>False)) { tmps:=(ps.zip (f i)).foldl (fun t (p,v)=>t.setIfInBounds p v) a.tmps,defers:=[] } W)
  (hbody:∀(l i:Nat) (a':Act) (W:World),w.heap.size+2≤W.heap.size→I i W→Ax i a' W→i<N→body.wpIn (F.inRound l) (n-1-1) P (numPost w.heap.size I Ix i W) a' W)
  (hdone:∀(W:World),I N W→W.heap[w.heap.size]? = some (.deferred (some []))→Q .normal { a with defers:={ target:=.collected w.heap.size,args:=#[] } :: a.defers } W)
  (hstop:∀(c:Code) (W:World),Ix c W→W.heap[w.heap.size]? = some (.deferred (some []))→c.wpIn F n P Q { a with defers:={ target:=.collected w.heap.size,args:=#[] } :: a.defers } W) :
  (Code.rangeFunc g ps assign body).wpIn F n P Q a w:=by
 refine wpIn_rangeFunc ?_
 intro fn hfn
 rw[hro]
 obtain⟨rec,hrec⟩:∃rec:LoopState→Option Code→Loop,rec=fun st pe=>{ state:=st,pending:=pe,fn,tmps:=a.tmps,params:=ps,assign,body,defers:=w.heap.size }:=⟨_,rfl⟩
 obtain⟨W1,hW1⟩:∃W1,(w.alloc (.deferred (some []))).alloc (.loop (rec .ready none))=W1:=⟨_,rfl⟩
 have hs1:W1.heap.size=w.heap.size+2:=by rw[←hW1];simp
 have hg1:w.grownBy W1 none:=by rw[←hW1];exact grown_trans (World.grownBy_alloc _ _ none) (World.grownBy_alloc _ _ none)
 have hL1:W1.heap[w.heap.size+1]? = some (.loop (rec .ready none)):=by
  have:=World.alloc_heap_new (w.alloc (.deferred (some []))) (.loop (rec .ready none))
  rw[←hW1];rwa [World.size_alloc] at this
 have hK1:W1.heap[w.heap.size]? = some (.deferred (some [])):=by
  rw[←hW1];exact(Below.heap_alloc _ _ _ (by simp)).trans (World.alloc_heap_new w _)
 refine⟨w.heap.size+1,[{ target:=.collected w.heap.size,args:=#[] }],W1,{ target:=.fn (.func gf) lb,args:=#[.func (.yield (w.heap.size+1)) #[] #[]] },W1,gf,
  #[.func (.yield (w.heap.size+1)) #[] #[]]++lb,W1,?_,?_,?_,?_,fun _=>h1,?_⟩
 ·rw[←hW1,hrec];exact run_enterLoop_outer _ _ _ _ _
 ·simp only[resolve,hg]
  simp[go_sem]
 ·intro f' hf';simp[Target.leads] at hf';subst hf';exact hFg
 ·simp[invoke,go_sem,eg]
 ·refine(hcall W1 hg1 hs1 (w.heap.size+1)
   (fun i W=>I i W∧W.heap[w.heap.size+1]? = some (.loop (rec .ready none))∧W.heap[w.heap.size]? = some (.deferred (some [])))
   (fun W=>∃c,Ix c W∧W.heap[w.heap.size+1]? = some (.loop (rec .done (some c)))∧W.heap[w.heap.size]? = some (.deferred (some [])))
   (fun i X Y hs hgr=>⟨hIg i X Y hs.1 hgr,(hgr.block _ (Array.getElem?_eq_some_iff.1 hs.2.1).1 (by simp)).trans hs.2.1,(hgr.block _ (Array.getElem?_eq_some_iff.1 hs.2.2).1 (by simp)).trans hs.2.2⟩)
   (fun i X hs=>hIn i X hs.1)
   ?_ ⟨h0 W1 hg1 hs1,hL1,hK1⟩).mono ?_
  ·rintro i Wa ⟨hi,hl,hk⟩ hlen
   have hy:=run_yield (P:=P) (args:=f i) hl (by rw[hrec];exact hps i)
   rw[hrec] at hy
   refine⟨fn,_,assign,body,hy,roundIn_of_wpIn hfn (hassign _ i Wa _ (by have:=(Array.getElem?_eq_some_iff.1 hl).1;omega) hi hlen ?_)⟩
   clear hy
   intro a' W hkf hia hax
   replace hl:=hkf.2.2.trans hl
   replace hk:=hkf.2.1.trans hk
   have hlt:w.heap.size+1<W.heap.size:=(Array.getElem?_eq_some_iff.1 hl).1
   have hl2:(W.putObj (w.heap.size+1) (.loop { rec .ready none with state:=.busy })).heap[w.heap.size+1]? = some (.loop { rec .ready none with state:=.busy }):=World.putObj_heap_same hlt
   have hk2:(W.putObj (w.heap.size+1) (.loop { rec .ready none with state:=.busy })).heap[w.heap.size]? = some (.deferred (some [])):=(World.putObj_heap_other (by omega)).trans hk
   refine⟨_,run_beginRound hl (by rw[hrec]),?_⟩
   refine wpIn_mono (hbody _ i a' _ (by rw[World.putObj_size];omega) (hIl i _ _ _ hia hl) (hAx i a' _ _ _ hax hl) hlen) ?_
   have fin:∀(jump:Option Code) (W3:World),KeepsTwo w.heap.size (W.putObj (w.heap.size+1) (.loop { rec .ready none with state:=.busy })) W3→
     (Instr.endRound (w.heap.size+1) jump).run P W3 = .ok (.bool jump.isNone) (W3.putObj (w.heap.size+1) (.loop (rec (if jump.isNone then .ready else .done) jump)))∧
     W3.heap[w.heap.size+1]? = some (.loop { rec .ready none with state:=.busy })∧
     (W3.putObj (w.heap.size+1) (.loop (rec (if jump.isNone then .ready else .done) jump))).heap[w.heap.size+1]? = some (.loop (rec (if jump.isNone then .ready else .done) jump))∧
     (W3.putObj (w.heap.size+1) (.loop (rec (if jump.isNone then .ready else .done) jump))).heap[w.heap.size]? = some (.deferred (some [])):=fun jump W3 hk3=>by
    have hl3:=hk3.2.2.trans hl2
    have hend:=run_endRound (P:=P) jump hl3
    rw[hrec] at hend ⊢
    exact⟨hend,by rw[hrec] at hl3;exact hl3,World.putObj_heap_same (Array.getElem?_eq_some_iff.1 hl3).1,(World.putObj_heap_other (by omega)).trans (hk3.2.1.trans hk2)⟩
   rintro e a3 W3 hp
   cases e with
   | normal=>
    obtain⟨hk3,hi3⟩:=hp
    obtain⟨hr,hl3,hl4,hk4⟩:=fin none W3 hk3
    exact⟨_,_,hr,.inl ⟨rfl,hIl _ _ _ _ hi3 hl3,hl4,hk4⟩⟩
   | ret=>
    obtain⟨hk3,hi3⟩:=hp
    obtain⟨hr,hl3,hl4,hk4⟩:=fin (some .ret) W3 hk3
    exact⟨_,_,hr,.inr ⟨rfl,.ret,hIx _ _ _ _ hi3 hl3,hl4,hk4⟩⟩
   | exit id=>
    obtain⟨hk3,hi3⟩:=hp
    obtain⟨hr,hl3,hl4,hk4⟩:=fin (some (.exit id)) W3 hk3
    exact⟨_,_,hr,.inr ⟨rfl,.exit id,hIx _ _ _ _ hi3 hl3,hl4,hk4⟩⟩
   | goto t=>
    obtain⟨hk3,hi3⟩:=hp
    obtain⟨hr,hl3,hl4,hk4⟩:=fin (some (.goto t)) W3 hk3
    exact⟨_,_,hr,.inr ⟨rfl,.goto t,hIx _ _ _ _ hi3 hl3,hl4,hk4⟩⟩
   | panic ch=>exact hp.elim
   | outgrown=>exact hp.elim
  ·rintro e W2 ⟨⟨v,rfl⟩,(⟨hi,hl,hk⟩|⟨c,hi,hl,hk⟩)⟩
   ·exact⟨none,_,by have:=run_endLoop (P:=P) hl (by rw[hrec];simp);rw[hrec] at this;exact this,hdone _ (hIl _ _ _ _ hi hl) ((World.putObj_heap_other (by omega)).trans hk)⟩
   ·exact⟨some c,_,by have:=run_endLoop (P:=P) hl (by rw[hrec];simp);rw[hrec] at this;exact this,hstop c _ (hIx _ _ _ _ hi hl) ((World.putObj_heap_other (by omega)).trans hk)⟩
end Go.Sf
namespace Go.Proofs.YtbcbhlfjgobejaaGreat
open Go.RowKit Go.Sf Go.Shelf Go.Sort Go.Lib
def encK (k:Key19):Value:=.agg #[.int .i64 k.k,.int .i64 (k.count:Int)]
def keyCells (k:Key19):List Value:=[.int .i64 k.k,.int .i64 (k.count:Int)]
def encRw (pb:Nat):Value:=.pointer (some ⟨pb,0,none⟩)
theorem encK_inj (a b:Key19) (h:encK a=encK b):a=b:=by
 cases a;cases b;simp[encK] at h;obtain⟨h1,h2⟩:=h;subst h1;congr 1;omega
theorem checkK (em:Bool) (k:Key19) (w:World):(Instr.checkKey em 10000 142 (encK k)).run Tryz.prog w = .ok () w:=by
 cases k;kernel_rfl
theorem equalK (a b:Key19) (w:World):(Op.equal 142 (encK a) (encK b)).run Tryz.prog w = .ok (decide (a=b)) w:=by
 obtain⟨k,n⟩:=a
 obtain⟨k',n'⟩:=b
 have e0:((n:Int) == (n':Int))=decide (n=n'):=by
  by_cases e:n=n'
  ·simp[e]
  ·simp[e];omega
 simp[Op.equal,Op.maxDepth,encK,go_sem,e0]
 by_cases e1:k=k' <;> by_cases e2:n=n' <;> simp[e1,e2]
theorem sameK (k:Key19):Instr.sameBits 10000 (encK k) (encK k)=true:=by
 cases k;simp[encK,Instr.sameBits]
theorem keK:KEnc Tryz.prog 142 encK:=kenc_wide (by kernel_rfl) checkK sameK encK_inj equalK
theorem infoK:(Tryz.prog.info? 142).map (fun i=>(i.zero,i.size,i.bytes))=some (some (.agg #[.int .i64 0,.int .i64 0]),2,16):=by kernel_rfl
def cmpI (a b:Int):Int:=if a<b then -1 else if b<a then 1 else 0
def ordK (a b:Key19):Int:=if cmpI a.k b.k=0 then cmpI (a.count:Int) (b.count:Int) else cmpI a.k b.k
set_option maxHeartbeats 1000000 in
theorem cmpI_any (a b:Int) (W:World):Calls Tryz.prog 91 #[.int .i64 a,.int .i64 b] W fun e w'=>e = .returned (.int .i64 (cmpI a b))∧w'=W:=by
 by_cases h1:a<b
 ·have hc:cmpI a b = -1:=by unfold cmpI;rw[if_pos h1]
  rw[hc]
  go_enter Tryz.func91,Tryz.ntmps91
  go_wp2
  go_ret
  exact⟨rfl,rfl⟩
 ·by_cases h2:b<a
  ·have hc:cmpI a b=1:=by unfold cmpI;rw[if_neg h1,if_pos h2]
   rw[hc]
   go_enter Tryz.func91,Tryz.ntmps91
   go_wp2
   go_ret
   exact⟨rfl,rfl⟩
  ·have hc:cmpI a b=0:=by unfold cmpI;rw[if_neg h1,if_neg h2]
   rw[hc]
   go_enter Tryz.func91,Tryz.ntmps91
   go_wp2
   go_ret
   exact⟨rfl,rfl⟩
set_option maxHeartbeats 1000000 in
theorem cmpN_any (a b:Int) (W:World):Calls Tryz.prog 92 #[.int .i64 a,.int .i64 b] W fun e w'=>e = .returned (.int .i64 (cmpI a b))∧w'=W:=by
 by_cases h1:a<b
 ·have hc:cmpI a b = -1:=by unfold cmpI;rw[if_pos h1]
  rw[hc]
  go_enter Tryz.func92,Tryz.ntmps92
  go_wp2
  go_ret
  exact⟨rfl,rfl⟩
 ·by_cases h2:b<a
  ·have hc:cmpI a b=1:=by unfold cmpI;rw[if_neg h1,if_pos h2]
   rw[hc]
   go_enter Tryz.func92,Tryz.ntmps92
   go_wp2
   go_ret
   exact⟨rfl,rfl⟩
  ·have hc:cmpI a b=0:=by unfold cmpI;rw[if_neg h1,if_neg h2]
   rw[hc]
   go_enter Tryz.func92,Tryz.ntmps92
   go_wp2
   go_ret
   exact⟨rfl,rfl⟩
set_option maxHeartbeats 1000000 in
theorem or_any (x y:Int) (g:Nat) (W:World) (h0:W.cell? ⟨g,0,none⟩=some (.int .i64 x)) (h1:W.cell? ⟨g,1,none⟩=some (.int .i64 y)):Calls Tryz.prog 90 #[.slice (some ⟨g,0,none⟩) 2 2] W fun e w'=>e = .returned (.int .i64 (if x=0 then y else x))∧w'=W:=by
 obtain⟨r,hr⟩:∃r,r=if x=0 then y else x:=⟨_,rfl⟩
 rw[←hr]
 go_enter Tryz.func90,Tryz.ntmps90
 go_wp2
 go_loopw [5,8] (fun _ i wr=>wr=W∧(i = .int .i64 0∨(i = .int .i64 1∧x=0)∨(i = .int .i64 2∧x=0∧y=0))) (fun _ i _=>2-(intOf i).toNat)
 case atStart=>exact⟨rfl,Or.inl rfl⟩
 case round=>
  obtain⟨rfl,rfl|⟨rfl,hx⟩|⟨rfl,hx,hy⟩⟩:=hrel
  ·by_cases hx:x=0
   ·subst hx
    go_wp2
    go_roundw
    case rel=>simp
    case measure=>simp[intOf]
   ·rw[if_neg hx] at hr
    subst hr
    go_wp2
    go_ret
    exact⟨rfl,rfl⟩
  ·subst hx
   rw[if_pos rfl] at hr
   subst hr
   by_cases hy:r=0
   ·subst hy
    go_wp2
    go_roundw
    case rel=>simp
    case measure=>simp[intOf]
   ·go_wp2
    go_ret
    exact⟨rfl,rfl⟩
  ·subst hx;subst hy
   rw[if_pos rfl] at hr
   subst hr
   go_wp2
   go_ret
   exact⟨rfl,rfl⟩
set_option maxHeartbeats 2000000 in
set_option maxRecDepth 100000 in
theorem orderK_any (a b:Key19) (W:World):Calls Tryz.prog 89 #[encK a,encK b] W fun e w'=>e = .returned (.int .i64 (ordK a b))∧∃q os',w'=grow (W.drewN q) os':=by
 obtain⟨ak,av⟩:=a
 obtain⟨bk,bv⟩:=b
 simp only[encK,ordK]
 have HB:=fun W=>cmpI_any ak bk W
 have HI:=fun W=>cmpN_any (av:Int) (bv:Int) W
 have HO:=fun g W=>or_any (cmpI ak bk) (cmpI (av:Int) (bv:Int)) g W
 generalize cmpI ak bk=x at *
 generalize cmpI (av:Int) (bv:Int)=y at *
 generalize (if x=0 then y else x)=r at *
 go_enter Tryz.func89,Tryz.ntmps89
 go_wp2
 have c0:((W.alloc (.cells #[.int .i64 ak,.int .i64 (av:Int)] 142)).alloc (.cells #[.int .i64 bk,.int .i64 (bv:Int)] 142)).cell? ⟨W.heap.size,0,none⟩=some (.int .i64 ak):=by simp[go_sem]
 have c1:((W.alloc (.cells #[.int .i64 ak,.int .i64 (av:Int)] 142)).alloc (.cells #[.int .i64 bk,.int .i64 (bv:Int)] 142)).cell? ⟨W.heap.size,1,none⟩=some (.int .i64 (av:Int)):=by simp[go_sem]
 have c2:((W.alloc (.cells #[.int .i64 ak,.int .i64 (av:Int)] 142)).alloc (.cells #[.int .i64 bk,.int .i64 (bv:Int)] 142)).cell? ⟨W.heap.size+1,0,none⟩=some (.int .i64 bk):=by simp[go_sem]
 have c3:((W.alloc (.cells #[.int .i64 ak,.int .i64 (av:Int)] 142)).alloc (.cells #[.int .i64 bk,.int .i64 (bv:Int)] 142)).cell? ⟨W.heap.size+1,1,none⟩=some (.int .i64 (bv:Int)):=by simp[go_sem]
 have hg:(W.alloc (.cells #[.int .i64 ak,.int .i64 (av:Int)] 142)).alloc (.cells #[.int .i64 bk,.int .i64 (bv:Int)] 142)=grow (W.drewN 0) #[.cells #[.int .i64 ak,.int .i64 (av:Int)] 142,.cells #[.int .i64 bk,.int .i64 (bv:Int)] 142]:=by rw[alloc_eq_grow,alloc_eq_grow,grow_grow];rfl
 generalize (W.alloc (.cells #[.int .i64 ak,.int .i64 (av:Int)] 142)).alloc (.cells #[.int .i64 bk,.int .i64 (bv:Int)] 142)=W2 at *
 have HG:=Lib.hid hg
 clear hg
 go_region_held3 (fun w'=>w'.cell? ⟨W.heap.size,0,none⟩=some (.int .i64 ak)∧w'.cell? ⟨W.heap.size,1,none⟩=some (.int .i64 (av:Int))∧w'.cell? ⟨W.heap.size+1,0,none⟩=some (.int .i64 bk)∧w'.cell? ⟨W.heap.size+1,1,none⟩=some (.int .i64 (bv:Int))) (go_keep)
  (first
  | (go_at_call 91;refine(HB _).mono ?_;rintro e w3 ⟨rfl,rfl⟩)
  | (go_at_call 92;refine(HI _).mono ?_;rintro e w3 ⟨rfl,rfl⟩)
  | (go_at_call 90;refine(HO _ _ (by simp[go_sem]) (by simp[go_sem])).mono ?_;rintro e w3 ⟨rfl,rfl⟩))
 all_goals
  go_wp2
  go_ret
  exact⟨rfl,1,_,by rw[HG.out,alloc_eq_grow,grow_grow];rfl⟩
open Go.Sf
end Go.Proofs.YtbcbhlfjgobejaaGreat
