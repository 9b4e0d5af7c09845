/- A part takes its place in a row, unless there is one: the walk. Conditions: none, or as the theorems say. -/
import Derived.Test.YtbcbhlfjgobejaaGreatJ1
import Derived.Test.YtbcbhlfjgobejaaGreatJ24
import Derived.RangeFuncNested
import Derived.RangeFuncLeaves
import Derived.Test.YtbcbhlfjgobejaaGreatJ19
import Derived.Shelf.SlSortCmp.WholeK
import Derived.Deep.RegionHeld3
set_option linter.unusedSimpArgs false
set_option linter.unusedVariables false
namespace Go.Proofs.YtbcbhlfjgobejaaGreat
set_option maxHeartbeats 200000000
open Go.RowKit Go.Sf
theorem zfm:∀(cs:List (Nat × Value × List Int)) (j:Nat) (c:Nat × Value × List Int),j<cs.length→(((cs.flatMap yl).set (j*2) (.int .i64 (c.1:Int))).set (j*2+1) c.2.1)=(cs.set j c).flatMap yl
 | [],j,c,h=>absurd h (by simp)
 | x :: t,0,c,h=>by simp[yl]
 | x :: t,j+1,c,h=>by
  have ih:=zfm t j c (by simpa using h)
  rw[List.flatMap_cons,List.set_cons_succ,List.flatMap_cons,←ih];rw[show(j+1)*2=(j*2+1)+1 by omega]
  simp[yl]
theorem zlq (cs:List (Nat × Value × List Int)):(cs.flatMap yl).length=cs.length*2:=by
 induction cs with
 | nil=>rfl
 | cons x t ih=>rw[List.flatMap_cons,List.length_append,ih];simp[yl];omega
theorem Zp.set {W:World} {rp:Nat→Prop} {pb ab tb:Nat} {cs:List (Nat × Value × List Int)} {r:xg} (h:Zp W rp pb ab tb cs r) {j i:Nat} {v:Value} {b:List Int} (hj:j<r.there.length) (hf:r.there.getD j true=false) (hv:xy rp W v (zg b)) (hrp:∀k,rp k→k≠ab∧k≠tb) (hne:pb≠ab∧pb≠tb∧ab≠tb) :
  Zp (((W.setCell ⟨ab,j*2,none⟩ (.int .i64 i)).setCell ⟨ab,j*2+1,none⟩ v).setCell ⟨tb,j,none⟩ (.bool true)) rp pb ab tb (cs.set j (i,v,b)) (qs r j (i,b))∧zm (fun k=>k=ab∨k=tb) W (((W.setCell ⟨ab,j*2,none⟩ (.int .i64 i)).setCell ⟨ab,j*2+1,none⟩ v).setCell ⟨tb,j,none⟩ (.bool true)):=by
 have t1:=(yj W ab (j*2) (.int .i64 i)).mono (cs:=fun k=>k=ab∨k=tb) (fun k hk=>Or.inl hk)
 have t2:=(yj (W.setCell ⟨ab,j*2,none⟩ (.int .i64 i)) ab (j*2+1) v).mono (cs:=fun k=>k=ab∨k=tb) (fun k hk=>Or.inl hk)
 have t3:=(yj ((W.setCell ⟨ab,j*2,none⟩ (.int .i64 i)).setCell ⟨ab,j*2+1,none⟩ v) tb j (.bool true)).mono (cs:=fun k=>k=ab∨k=tb) (fun k hk=>Or.inr hk)
 have ht:=(t1.trans t2).trans t3;have er:qs r j (i,b)=⟨r.cells.set j (i,b),r.there.set j true⟩:=by unfold qs;rw[hf];rfl
 have hl:=h.lt;refine⟨⟨?_,?_,?_,?_,fun c hc=>?_,?_,?_⟩,ht⟩
 ·rw[er]
  simp only[List.length_set]
  exact(ht.block pb hl.1 (fun e=>by rcases e with e|e;exact hne.1 e;exact hne.2.1 e)).trans h.box
 ·rw[←zfm cs j (i,v,b) (by rw[h.len];exact hj)]
  simp[World.setCell,Array.getElem?_modify,h.at_,Ne.symm hne.2.2,hne.2.2]
 ·rw[er,←zc9]
  simp[World.setCell,Array.getElem?_modify,h.there,Ne.symm hne.2.2,hne.2.2]
 ·rw[er,List.map_set,←h.cells]
 ·have hk:∀k,rp k→(((W.setCell ⟨ab,j*2,none⟩ (.int .i64 i)).setCell ⟨ab,j*2+1,none⟩ v).setCell ⟨tb,j,none⟩ (.bool true)).heap[k]? = W.heap[k]?:=fun k hk=>by
   obtain⟨n1,n2⟩:=hrp k hk;simp[World.setCell,Array.getElem?_modify,Ne.symm n1,Ne.symm n2]
  rcases List.mem_or_eq_of_mem_set hc with h1|h1
  ·exact(h.rows c h1).turn hk
  ·subst h1;exact hv.turn hk
 ·rw[er];simpa using h.len
 ·rw[er];simpa using h.few
set_option maxRecDepth 100000 in
theorem rset {W:World} {rp:Nat→Prop} {pb ab tb:Nat} {cs:List (Nat × Value × List Int)} {r:xg} (h:Zp W rp pb ab tb cs r) {j i:Nat} {v:Value} {b:List Int} (hj:j<r.there.length) (hv:xy rp W v (zg b)) (hrp:∀k,rp k→k≠ab∧k≠tb∧k<W.heap.size) (hne:pb≠ab∧pb≠tb∧ab≠tb) :
  Calls Tryz.prog 86 #[.pointer (some ⟨pb,0,none⟩),.int .i64 (j:Int),.agg #[.int .i64 (i:Int),v]] W fun e w'=>e = .returned (.tuple #[])∧(∃cs',Zp w' rp pb ab tb cs' (qs r j (i,b)))∧zm (fun k=>k=ab∨k=tb) W w':=by
 obtain⟨pv,cv,rfl,-,-,-⟩:=hv.ex;generalize hnn:(zg b).length=nb at *;have hl:=h.lt;have hfew:=h.few;have c0:W.cell? ⟨pb,0,none⟩=some (.slice (some ⟨ab,0,none⟩) r.there.length r.there.length):=(zf h.box 0).trans rfl;have c1:W.cell? ⟨pb,1,none⟩=some (.slice (some ⟨tb,0,none⟩) r.there.length r.there.length):=(zf h.box 1).trans rfl;obtain⟨x,hx⟩:∃x,r.there[j]? = some x:=⟨_,List.getElem?_eq_getElem hj⟩;have ct:W.cell? ⟨tb,j,none⟩=some (.bool x):=by rw[zf h.there];simp[ud,hx]
 have HG:Hid (W.grownBy (W.alloc (.cells #[.int .i64 (i:Int),.slice pv nb cv] 146)) none):=(ze _ _ none);have HK:Hid (∀w',W.grownBy w' none→Zp w' rp pb ab tb cs r∧xy rp w' (.slice pv nb cv) (zg b)):=(fun w' hg=>⟨h.kept (hg.block _ hl.1 (by simp)) (hg.block _ hl.2.1 (by simp)) (hg.block _ hl.2.2 (by simp)) (fun k hk=>hg.block k (hrp k hk).2.2 (by simp)),hv.turn fun k hk=>hg.block k (hrp k hk).2.2 (by simp)⟩)
 cases x
 ·have HS:Hid (∀w',W.grownBy w' none→Zp (((w'.setCell ⟨ab,j*2,none⟩ (.int .i64 i)).setCell ⟨ab,j*2+1,none⟩ (.slice pv nb cv)).setCell ⟨tb,j,none⟩ (.bool true)) rp pb ab tb (cs.set j (i,.slice pv nb cv,b)) (qs r j (i,b))∧zm (fun k=>k=ab∨k=tb) W (((w'.setCell ⟨ab,j*2,none⟩ (.int .i64 i)).setCell ⟨ab,j*2+1,none⟩ (.slice pv nb cv)).setCell ⟨tb,j,none⟩ (.bool true))):=(fun w' hg=>by
   obtain⟨a1,a2⟩:=HK.out w' hg;have h5:=a1.set hj (by simp[List.getD_eq_getElem?_getD,hx]) a2 (fun k hk=>⟨(hrp k hk).1,(hrp k hk).2.1⟩) hne (i:=i)
   exact⟨h5.1,zm.trans ⟨hg.os,hg.tape,hg.output,hg.size,fun k hk _=>hg.block k hk (by simp)⟩ h5.2⟩)
  clear h hv hx;generalize hrn:r.there.length=n at *
  go_enter Tryz.func86,Tryz.ntmps86
  go_upto_region 2 with fail
  have b0:(W.alloc (.cells #[.int .i64 (i:Int),.slice pv nb cv] 146)).cell? ⟨W.heap.size,0,none⟩=some (.int .i64 i):=(zf (heap_alloc_new _ _) 0).trans rfl;have b1:(W.alloc (.cells #[.int .i64 (i:Int),.slice pv nb cv] 146)).cell? ⟨W.heap.size,1,none⟩=some (.slice pv nb cv):=(zf (heap_alloc_new _ _) 1).trans rfl;have p0:=HG.out.cell c0 (by simp)
  have p1:=HG.out.cell c1 (by simp)
  have ha:=(HK.out _ HG.out).1;have hab:=ha.at_;have htb:=ha.there;have hlen:cs.length=n:=ha.len.trans hrn;clear hrn;clear ha;generalize W.alloc (.cells #[.int .i64 (i:Int),.slice pv nb cv] 146)=W1 at *;have HAB:=zd hab;have HTB:=zd htb;have hn0:(0:Int)≤(j:Int)∧(j:Int)<n:=by omega
  have hfl:=zlq cs;obtain⟨u0,hu0⟩:∃u,W1.cell? ⟨ab,j*2,none⟩=some u:=⟨_,(zf hab _).trans (List.getElem?_toArray.trans (List.getElem?_eq_getElem (by rw[hfl,hlen];omega)))⟩
  obtain⟨u1,hu1⟩:∃u,W1.cell? ⟨ab,j*2+1,none⟩=some u:=⟨_,(zf hab _).trans (List.getElem?_toArray.trans (List.getElem?_eq_getElem (by rw[hfl,hlen];omega)))⟩
  have hf0:∀q,W1.frozen? ⟨ab,q,none⟩=false:=fun q=>by simp[World.frozen?,hab]
  have hu2:(W1.setCell ⟨ab,j*2,none⟩ (.int .i64 i)).cell? ⟨ab,j*2+1,none⟩=some u1:=ya (Or.inr (by omega)) hu1
  have hf2:∀q,(W1.setCell ⟨ab,j*2,none⟩ (.int .i64 i)).frozen? ⟨ab,q,none⟩=false:=fun q=>by simp[World.frozen?,World.setCell,Array.getElem?_modify,hab]
  have ht0:((W1.setCell ⟨ab,j*2,none⟩ (.int .i64 i)).setCell ⟨ab,j*2+1,none⟩ (.slice pv nb cv)).cell? ⟨tb,j,none⟩=some (.bool false):=ya (Or.inl (Ne.symm hne.2.2)) (ya (Or.inl (Ne.symm hne.2.2)) (HG.out.cell ct (by simp)))
  have hf3:((W1.setCell ⟨ab,j*2,none⟩ (.int .i64 i)).setCell ⟨ab,j*2+1,none⟩ (.slice pv nb cv)).frozen? ⟨tb,j,none⟩=false:=by simp[World.frozen?,World.setCell,Array.getElem?_modify,htb,hne.2.2]
  have HSF:=zd (HS.out W1 HG.out);have hwa:W.heap.size≠ab∧W.heap.size≠tb:=⟨by omega,by omega⟩
  clear hab htb hfl;refine wp_region_held_drew (S:=fun w':World=>w'.cell? ⟨pb,0,none⟩=some (.slice (some ⟨ab,0,none⟩) n n)∧w'.cell? ⟨pb,1,none⟩=some (.slice (some ⟨tb,0,none⟩) n n)∧w'.cell? ⟨W.heap.size,0,none⟩=some (.int .i64 i)∧w'.cell? ⟨W.heap.size,1,none⟩=some (.slice pv nb cv)) (by kernel_rfl) ⟨p0,p1,b0,b1⟩ (fun hHeld=>?_)
  refine tk (i:=0) (oi:=⟨some 14,Op.move (Operand.tmp 0),_,_,_,none⟩) (v:=?_) rfl hHeld ?_ ?_;rotate_left
  ·rintro w ⟨s1,s2,s3,s4⟩;go_simp;try with_reducible rfl
  (try simp only[Act.put,za,zb,zc])
  refine tk (i:=1) (oi:=⟨some 15,Op.nilCheck (Operand.tmp 14),_,_,_,none⟩) (v:=?_) rfl hHeld ?_ ?_;rotate_left
  ·rintro w ⟨s1,s2,s3,s4⟩;go_simp;try with_reducible rfl
  (try simp only[Act.put,za,zb,zc])
  refine tk (i:=2) (oi:=⟨some 16,Op.fieldAddr 162 (Operand.tmp 15) 0,_,_,_,none⟩) (v:=?_) rfl hHeld ?_ ?_;rotate_left
  ·rintro w ⟨s1,s2,s3,s4⟩;go_simp;try with_reducible rfl
  (try simp only[Act.put,za,zb,zc])
  refine tk (i:=3) (oi:=⟨some 17,Op.load 160 (Operand.tmp 16),_,_,_,none⟩) (v:=?_) rfl hHeld ?_ ?_;rotate_left
  ·rintro w ⟨s1,s2,s3,s4⟩;go_simp;try with_reducible rfl
  (try simp only[Act.put,za,zb,zc])
  refine tk (i:=4) (oi:=⟨some 18,Op.move (Operand.tmp 1),_,_,_,none⟩) (v:=?_) rfl hHeld ?_ ?_;rotate_left
  ·rintro w ⟨s1,s2,s3,s4⟩;go_simp;try with_reducible rfl
  (try simp only[Act.put,za,zb,zc])
  refine tk (i:=5) (oi:=⟨some 19,Op.move (Operand.tmp 0),_,_,_,none⟩) (v:=?_) rfl hHeld ?_ ?_;rotate_left
  ·rintro w ⟨s1,s2,s3,s4⟩;go_simp;try with_reducible rfl
  (try simp only[Act.put,za,zb,zc])
  refine tk (i:=6) (oi:=⟨some 20,Op.nilCheck (Operand.tmp 19),_,_,_,none⟩) (v:=?_) rfl hHeld ?_ ?_;rotate_left
  ·rintro w ⟨s1,s2,s3,s4⟩;go_simp;try with_reducible rfl
  (try simp only[Act.put,za,zb,zc])
  refine tk (i:=7) (oi:=⟨some 21,Op.fieldAddr 162 (Operand.tmp 20) 1,_,_,_,none⟩) (v:=?_) rfl hHeld ?_ ?_;rotate_left
  ·rintro w ⟨s1,s2,s3,s4⟩;go_simp;try with_reducible rfl
  (try simp only[Act.put,za,zb,zc])
  refine tk (i:=8) (oi:=⟨some 22,Op.load 130 (Operand.tmp 21),_,_,_,none⟩) (v:=?_) rfl hHeld ?_ ?_;rotate_left
  ·rintro w ⟨s1,s2,s3,s4⟩;go_simp;try with_reducible rfl
  (try simp only[Act.put,za,zb,zc])
  refine tk (i:=9) (oi:=⟨some 23,Op.move (Operand.tmp 1),_,_,_,none⟩) (v:=?_) rfl hHeld ?_ ?_;rotate_left
  ·rintro w ⟨s1,s2,s3,s4⟩;go_simp;try with_reducible rfl
  (try simp only[Act.put,za,zb,zc])
  refine tk (i:=10) (oi:=⟨some 24,Op.load 146 (Operand.tmp 5),_,_,_,none⟩) (v:=?_) rfl hHeld ?_ ?_;rotate_left
  ·rintro w ⟨s1,s2,s3,s4⟩;go_simp;try with_reducible rfl
  (try simp only[Act.put,za,zb,zc])
  refine tk (i:=11) (oi:=⟨some 25,Op.indexAddr 160 (Operand.tmp 17) (Operand.tmp 18),_,_,_,none⟩) (v:=?_) rfl hHeld ?_ ?_;rotate_left
  ·rintro w ⟨s1,s2,s3,s4⟩;go_simp;try with_reducible rfl
  (try simp only[Act.put,za,zb,zc])
  refine wpAnyH_ready (rs:=[12]) (by kernel_rfl) (by simp) ?_
  refine AllReadyH.cons (o:=⟨none,Op.store 146 (Operand.tmp 25) (Operand.tmp 24),_,_,_,none⟩) rfl (fun K hK=>?_) AllReadyH.nil
  go_simp
  have hH1:(W1.setCell ⟨ab,j*2,none⟩ (.int .i64 i)).cell? ⟨pb,0,none⟩=some (.slice (some ⟨ab,0,none⟩) n n)∧(W1.setCell ⟨ab,j*2,none⟩ (.int .i64 i)).cell? ⟨pb,1,none⟩=some (.slice (some ⟨tb,0,none⟩) n n)∧(W1.setCell ⟨ab,j*2,none⟩ (.int .i64 i)).cell? ⟨W.heap.size,0,none⟩=some (.int .i64 i)∧(W1.setCell ⟨ab,j*2,none⟩ (.int .i64 i)).cell? ⟨W.heap.size,1,none⟩=some (.slice pv nb cv):=⟨ya (Or.inl hne.1) p0,ya (Or.inl hne.1) p1,ya (Or.inl hwa.1) b0,ya (Or.inl hwa.1) b1⟩;refine hK.out _ _ ⟨ya (Or.inl hne.1) hH1.1,ya (Or.inl hne.1) hH1.2.1,ya (Or.inl hwa.1) hH1.2.2.1,ya (Or.inl hwa.1) hH1.2.2.2⟩ (fun hHeld=>?_)
  clear hK K
  (try simp only[Act.put,za,zb,zc])
  refine tk (i:=13) (oi:=⟨some 26,Op.indexAddr 130 (Operand.tmp 22) (Operand.tmp 23),_,_,_,none⟩) (v:=?_) rfl hHeld ?_ ?_;rotate_left
  ·rintro w -;go_simp;try with_reducible rfl
  (try simp only[Act.put,za,zb,zc])
  refine wpAnyH_ready (rs:=[14]) (by kernel_rfl) (by simp) ?_
  refine AllReadyH.cons (o:=⟨none,Op.store 4 (Operand.tmp 26) (Operand.const (Value.bool true)),_,_,_,none⟩) rfl (fun K hK=>?_) AllReadyH.nil
  go_simp
  refine hK.out _ _ ⟨ya (Or.inl hne.2.1) hHeld.1,ya (Or.inl hne.2.1) hHeld.2.1,ya (Or.inl hwa.2) hHeld.2.2.1,ya (Or.inl hwa.2) hHeld.2.2.2⟩ (fun hHeld=>?_)
  clear hK K
  (try simp only[Act.put,za,zb,zc])
  refine wpAnyH_done (by kernel_rfl) ?_ _
  go_wp2_with fail
  first|go_end0|refine bodyPost_ret (results_none rfl _ _ _) rfl ?_
  exact⟨rfl,⟨_,HSF.out.1.kept rfl rfl rfl (fun _ _=>rfl)⟩,HSF.out.2.trans ⟨rfl,rfl,rfl,Nat.le_refl _,fun _ _ _=>rfl⟩⟩
 ·have HQ:Hid (qs r j (i,b)=r):=(show _=_ from by unfold qs;rw[List.getD_eq_getElem?_getD,hx];rfl)
  clear h hv hx;generalize r.there.length=n at *
  go_enter Tryz.func86,Tryz.ntmps86
  go_wp2
  first|go_end0|refine bodyPost_ret (results_none rfl _ _ _) rfl ?_
  rw[HQ.out]
  exact⟨rfl,⟨_,(HK.out _ HG.out).1⟩,HG.out.os,HG.out.tape,HG.out.output,HG.out.size,fun k hk _=>HG.out.block k hk (by simp)⟩
set_option maxRecDepth 100000 in
theorem sblocks (W:World) (db:Nat):Calls Tryz.prog 83 #[.pointer (some ⟨db,0,none⟩)] W fun e w'=>e = .returned (.func (.func 162) #[] #[.pointer (some ⟨W.heap.size,0,none⟩)])∧w'=W.alloc (.cells #[.pointer (some ⟨db,0,none⟩)] 28):=by
 go_enter Tryz.func83,Tryz.ntmps83
 go_wp2
 go_ret
 exact⟨rfl,rfl⟩
set_option maxRecDepth 100000 in
theorem sopen1 (W:World):Calls Tryz.prog 82 #[] W fun e w'=>e = .returned (.int .i64 0)∧w'=W:=by
 go_enter Tryz.func82,Tryz.ntmps82
 go_wp2
 go_ret
 exact⟨rfl,rfl⟩
end Go.Proofs.YtbcbhlfjgobejaaGreat
namespace Go.Sf
open Go.RowKit Go
variable {F : Fence} {n : Nat} {P : Program}
def zk7 (F:Fence) (n:Nat) (P:Program) (gf:Nat) (lb:Array Value) (f:Nat→Array Value) (N:Nat) (Need:Nat→World→Prop) (W:World):Prop:=
 ∀(l:Nat) (J:Nat→World→Prop) (Jx:World→Prop),(∀i X Y,J i X→X.grownBy Y none→J i Y)→(∀i X,J i X→Need i X)→
  (∀i W1,J i W1→i<N→YieldAt F (n-1) P l (f i) W1 fun e W'=>(e = .returned (.bool true)∧J (i+1) W')∨(e = .returned (.bool false)∧Jx W'))→
  J 0 W→CallsIn F n P gf (#[.func (.yield l) #[] #[]]++lb) W fun e W'=>(∃v,e = .returned v)∧(J N W'∨Jx W')
def un (B:Nat) (W W':World):Prop:=W.heap.size≤W'.heap.size∧W'.heap[B]? = W.heap[B]?∧W'.heap[B+1]? = W.heap[B+1]?
def Zt (B:Nat) (I:Nat→World→Prop) (Ix:Code→World→Prop) (i:Nat) (W:World):Exit→Act→World→Prop
 | .normal,_,W'=>un B W W'∧I (i+1) W'
 | .ret,_,W'=>un B W W'∧Ix .ret W'
 | .exit id,_,W'=>un B W W'∧Ix (.exit id) W'
 | .goto t,_,W'=>un B W W'∧Ix (.goto t) W'
 | _,_,_=>False
theorem zc0 {g:Operand} {ps:Array Tmp} {assign body:Code} {Q:Exit→Act→World→Prop} {a:Act} {w:World}
  (hro:F.round=none) (h1:1≤n) {gf:Nat} {lb:Array Value} (hg:a.eval g = .func (.func gf) #[] lb) (hFg:F.fn gf) (eg:∀args w,(callFunc gf args).run P w = .ok (.enter gf args) w)
  {f:Nat→Array Value} (hps:∀i,(f i).size=ps.size) {N:Nat} {Need:Nat→World→Prop}
  (hcall:∀W1,w.grownBy W1 none→W1.heap.size=w.heap.size+2→zk7 F (n-1) P gf lb f N Need W1)
  (I:Nat→World→Prop) (Ix:Code→World→Prop) (hIg:∀i X Y,I i X→X.grownBy Y none→I i Y)
  (hIl:∀i X r r',I i X→X.heap[w.heap.size+1]? = some (.loop r)→I i (X.putObj (w.heap.size+1) (.loop r')))
  (hIx:∀c X r r',Ix c X→X.heap[w.heap.size+1]? = some (.loop r)→Ix c (X.putObj (w.heap.size+1) (.loop r')))
  (hIn:∀i X,I i X→Need i X)
  (h0:∀W1,w.grownBy W1 none→W1.heap.size=w.heap.size+2→I 0 W1)
  (Ax:Nat→Act→World→Prop) (hAx:∀i a' X r r',Ax i a' X→X.heap[w.heap.size+1]? = some (.loop r)→Ax i a' (X.putObj (w.heap.size+1) (.loop r')))
  (hassign:∀(l i:Nat) (W:World) (K:Act→World→Prop),w.heap.size+2≤W.heap.size→I i W→i<N→(∀a' W',un w.heap.size W W'→I i W'→Ax i a' W'→K a' W')→
   assign.wpIn (F.inRound l) (n-1-1) P (Exit.then K (fun _ _ _=>False)) { tmps:=(ps.zip (f i)).foldl (fun t (p,v)=>t.setIfInBounds p v) a.tmps,defers:=[] } W)
  (hbody:∀(l i:Nat) (a':Act) (W:World),w.heap.size+2≤W.heap.size→I i W→Ax i a' W→i<N→body.wpIn (F.inRound l) (n-1-1) P (Zt w.heap.size I Ix i W) a' W)
  (hdone:∀(W:World),I N W→W.heap[w.heap.size]? = some (.deferred (some []))→Q .normal { a with defers:={ target:=.collected w.heap.size,args:=#[] } :: a.defers } W)
  (hstop:∀(c:Code) (W:World),Ix c W→W.heap[w.heap.size]? = some (.deferred (some []))→c.wpIn F n P Q { a with defers:={ target:=.collected w.heap.size,args:=#[] } :: a.defers } W) :
  (Code.rangeFunc g ps assign body).wpIn F n P Q a w:=by
 refine wpIn_rangeFunc ?_;intro fn hfn;rw[hro];obtain⟨rec,hrec⟩:∃rec:LoopState→Option Code→Loop,rec=fun st pe=>{ state:=st,pending:=pe,fn,tmps:=a.tmps,params:=ps,assign,body,defers:=w.heap.size }:=⟨_,rfl⟩
 obtain⟨W1,hW1⟩:∃W1,(w.alloc (.deferred (some []))).alloc (.loop (rec .ready none))=W1:=⟨_,rfl⟩;have hs1:W1.heap.size=w.heap.size+2:=by rw[←hW1];simp
 have hg1:w.grownBy W1 none:=by rw[←hW1];exact zh (ze _ _ none) (ze _ _ none)
 have hL1:W1.heap[w.heap.size+1]? = some (.loop (rec .ready none)):=by
  have:=World.alloc_heap_new (w.alloc (.deferred (some []))) (.loop (rec .ready none));rw[←hW1];rwa [World.size_alloc] at this
 have hK1:W1.heap[w.heap.size]? = some (.deferred (some [])):=by
  rw[←hW1];exact(Below.heap_alloc _ _ _ (by simp)).trans (World.alloc_heap_new w _)
 refine⟨w.heap.size+1,[{ target:=.collected w.heap.size,args:=#[] }],W1,{ target:=.fn (.func gf) lb,args:=#[.func (.yield (w.heap.size+1)) #[] #[]] },W1,gf,
  #[.func (.yield (w.heap.size+1)) #[] #[]]++lb,W1,?_,?_,?_,?_,fun _=>h1,?_⟩
 ·rw[←hW1,hrec];exact run_enterLoop_outer _ _ _ _ _
 ·simp only[resolve,hg]
  simp[go_sem]
 ·intro f' hf';simp[Target.leads] at hf';subst hf';exact hFg
 ·simp[invoke,go_sem,eg]
 ·refine(hcall W1 hg1 hs1 (w.heap.size+1)
   (fun i W=>I i W∧W.heap[w.heap.size+1]? = some (.loop (rec .ready none))∧W.heap[w.heap.size]? = some (.deferred (some [])))
   (fun W=>∃c,Ix c W∧W.heap[w.heap.size+1]? = some (.loop (rec .done (some c)))∧W.heap[w.heap.size]? = some (.deferred (some [])))
   (fun i X Y hs hgr=>⟨hIg i X Y hs.1 hgr,(hgr.block _ (Array.getElem?_eq_some_iff.1 hs.2.1).1 (by simp)).trans hs.2.1,(hgr.block _ (Array.getElem?_eq_some_iff.1 hs.2.2).1 (by simp)).trans hs.2.2⟩)
   (fun i X hs=>hIn i X hs.1)
   ?_ ⟨h0 W1 hg1 hs1,hL1,hK1⟩).mono ?_
  ·rintro i Wa ⟨hi,hl,hk⟩ hlen
   have hy:=run_yield (P:=P) (args:=f i) hl (by rw[hrec];exact hps i)
   rw[hrec] at hy;refine⟨fn,_,assign,body,hy,roundIn_of_wpIn hfn (hassign _ i Wa _ (by have:=(Array.getElem?_eq_some_iff.1 hl).1;omega) hi hlen ?_)⟩
   clear hy;intro a' W hkf hia hax;replace hl:=hkf.2.2.trans hl;replace hk:=hkf.2.1.trans hk;have hlt:w.heap.size+1<W.heap.size:=(Array.getElem?_eq_some_iff.1 hl).1;have hl2:(W.putObj (w.heap.size+1) (.loop { rec .ready none with state:=.busy })).heap[w.heap.size+1]? = some (.loop { rec .ready none with state:=.busy }):=World.putObj_heap_same hlt
   have hk2:(W.putObj (w.heap.size+1) (.loop { rec .ready none with state:=.busy })).heap[w.heap.size]? = some (.deferred (some [])):=(World.putObj_heap_other (by omega)).trans hk
   refine⟨_,run_beginRound hl (by rw[hrec]),?_⟩
   refine wpIn_mono (hbody _ i a' _ (by rw[World.putObj_size];omega) (hIl i _ _ _ hia hl) (hAx i a' _ _ _ hax hl) hlen) ?_
   have fin:∀(jump:Option Code) (W3:World),un w.heap.size (W.putObj (w.heap.size+1) (.loop { rec .ready none with state:=.busy })) W3→
     (Instr.endRound (w.heap.size+1) jump).run P W3 = .ok (.bool jump.isNone) (W3.putObj (w.heap.size+1) (.loop (rec (if jump.isNone then .ready else .done) jump)))∧
     W3.heap[w.heap.size+1]? = some (.loop { rec .ready none with state:=.busy })∧
     (W3.putObj (w.heap.size+1) (.loop (rec (if jump.isNone then .ready else .done) jump))).heap[w.heap.size+1]? = some (.loop (rec (if jump.isNone then .ready else .done) jump))∧
     (W3.putObj (w.heap.size+1) (.loop (rec (if jump.isNone then .ready else .done) jump))).heap[w.heap.size]? = some (.deferred (some [])):=fun jump W3 hk3=>by
    have hl3:=hk3.2.2.trans hl2;have hend:=run_endRound (P:=P) jump hl3;rw[hrec] at hend ⊢
    exact⟨hend,by rw[hrec] at hl3;exact hl3,World.putObj_heap_same (Array.getElem?_eq_some_iff.1 hl3).1,(World.putObj_heap_other (by omega)).trans (hk3.2.1.trans hk2)⟩
   rintro e a3 W3 hp
   cases e with
   | normal=>
    obtain⟨hk3,hi3⟩:=hp;obtain⟨hr,hl3,hl4,hk4⟩:=fin none W3 hk3
    exact⟨_,_,hr,.inl ⟨rfl,hIl _ _ _ _ hi3 hl3,hl4,hk4⟩⟩
   | ret=>
    obtain⟨hk3,hi3⟩:=hp;obtain⟨hr,hl3,hl4,hk4⟩:=fin (some .ret) W3 hk3
    exact⟨_,_,hr,.inr ⟨rfl,.ret,hIx _ _ _ _ hi3 hl3,hl4,hk4⟩⟩
   | exit id=>
    obtain⟨hk3,hi3⟩:=hp;obtain⟨hr,hl3,hl4,hk4⟩:=fin (some (.exit id)) W3 hk3
    exact⟨_,_,hr,.inr ⟨rfl,.exit id,hIx _ _ _ _ hi3 hl3,hl4,hk4⟩⟩
   | goto t=>
    obtain⟨hk3,hi3⟩:=hp;obtain⟨hr,hl3,hl4,hk4⟩:=fin (some (.goto t)) W3 hk3
    exact⟨_,_,hr,.inr ⟨rfl,.goto t,hIx _ _ _ _ hi3 hl3,hl4,hk4⟩⟩
   | panic ch=>exact hp.elim
   | outgrown=>exact hp.elim
  ·rintro e W2 ⟨⟨v,rfl⟩,(⟨hi,hl,hk⟩|⟨c,hi,hl,hk⟩)⟩
   ·exact⟨none,_,by have:=run_endLoop (P:=P) hl (by rw[hrec];simp);rw[hrec] at this;exact this,hdone _ (hIl _ _ _ _ hi hl) ((World.putObj_heap_other (by omega)).trans hk)⟩
   ·exact⟨some c,_,by have:=run_endLoop (P:=P) hl (by rw[hrec];simp);rw[hrec] at this;exact this,hstop c _ (hIx _ _ _ _ hi hl) ((World.putObj_heap_other (by omega)).trans hk)⟩
end Go.Sf
namespace Go.Proofs.YtbcbhlfjgobejaaGreat
open Go.RowKit Go.Sf Go.Shelf Go.Sort Go.Lib
def qy (k:zr):Value:=.agg #[.int .i64 k.k,.int .i64 (k.count:Int)]
def yt (k:zr):List Value:=[.int .i64 k.k,.int .i64 (k.count:Int)]
def Xx (pb:Nat):Value:=.pointer (some ⟨pb,0,none⟩)
theorem zfh (a b:zr) (h:qy a=qy b):a=b:=by
 cases a;cases b;simp[qy] at h;obtain⟨h1,h2⟩:=h;subst h1;congr 1;omega
theorem checkK (em:Bool) (k:zr) (w:World):(Instr.checkKey em 10000 142 (qy k)).run Tryz.prog w = .ok () w:=by
 cases k;kernel_rfl
theorem equalK (a b:zr) (w:World):(Op.equal 142 (qy a) (qy b)).run Tryz.prog w = .ok (decide (a=b)) w:=by
 obtain⟨k,n⟩:=a;obtain⟨k',n'⟩:=b;have e0:((n:Int) == (n':Int))=decide (n=n'):=by
  by_cases e:n=n'
  ·simp[e]
  ·simp[e];omega
 simp[Op.equal,Op.maxDepth,qy,go_sem,e0]
 by_cases e1:k=k' <;> by_cases e2:n=n' <;> simp[e1,e2]
theorem sameK (k:zr):Instr.sameBits 10000 (qy k) (qy k)=true:=by
 cases k;simp[qy,Instr.sameBits]
theorem keK:Jk Tryz.prog 142 qy:=zjp (by kernel_rfl) checkK sameK zfh equalK
theorem infoK:(Tryz.prog.info? 142).map (fun i=>(i.zero,i.size,i.bytes))=some (some (.agg #[.int .i64 0,.int .i64 0]),2,16):=by kernel_rfl
def Yk (a b:Int):Int:=if a<b then -1 else if b<a then 1 else 0
def ordK (a b:zr):Int:=if Yk a.k b.k=0 then Yk (a.count:Int) (b.count:Int) else Yk a.k b.k
theorem zli (a b:Int) (W:World):Calls Tryz.prog 91 #[.int .i64 a,.int .i64 b] W fun e w'=>e = .returned (.int .i64 (Yk a b))∧w'=W:=by
 by_cases h1:a<b
 ·have hc:Yk a b = -1:=by unfold Yk;rw[if_pos h1]
  rw[hc]
  go_enter Tryz.func91,Tryz.ntmps91
  go_wp2
  go_ret
  exact⟨rfl,rfl⟩
 ·by_cases h2:b<a
  ·have hc:Yk a b=1:=by unfold Yk;rw[if_neg h1,if_pos h2]
   rw[hc]
   go_enter Tryz.func91,Tryz.ntmps91
   go_wp2
   go_ret
   exact⟨rfl,rfl⟩
  ·have hc:Yk a b=0:=by unfold Yk;rw[if_neg h1,if_neg h2]
   rw[hc]
   go_enter Tryz.func91,Tryz.ntmps91
   go_wp2
   go_ret
   exact⟨rfl,rfl⟩
theorem zlj (a b:Int) (W:World):Calls Tryz.prog 92 #[.int .i64 a,.int .i64 b] W fun e w'=>e = .returned (.int .i64 (Yk a b))∧w'=W:=by
 by_cases h1:a<b
 ·have hc:Yk a b = -1:=by unfold Yk;rw[if_pos h1]
  rw[hc]
  go_enter Tryz.func92,Tryz.ntmps92
  go_wp2
  go_ret
  exact⟨rfl,rfl⟩
 ·by_cases h2:b<a
  ·have hc:Yk a b=1:=by unfold Yk;rw[if_neg h1,if_pos h2]
   rw[hc]
   go_enter Tryz.func92,Tryz.ntmps92
   go_wp2
   go_ret
   exact⟨rfl,rfl⟩
  ·have hc:Yk a b=0:=by unfold Yk;rw[if_neg h1,if_neg h2]
   rw[hc]
   go_enter Tryz.func92,Tryz.ntmps92
   go_wp2
   go_ret
   exact⟨rfl,rfl⟩
theorem or_any (x y:Int) (g:Nat) (W:World) (h0:W.cell? ⟨g,0,none⟩=some (.int .i64 x)) (h1:W.cell? ⟨g,1,none⟩=some (.int .i64 y)):Calls Tryz.prog 90 #[.slice (some ⟨g,0,none⟩) 2 2] W fun e w'=>e = .returned (.int .i64 (if x=0 then y else x))∧w'=W:=by
 obtain⟨r,hr⟩:∃r,r=if x=0 then y else x:=⟨_,rfl⟩
 rw[←hr]
 go_enter Tryz.func90,Tryz.ntmps90
 go_wp2
 go_loopw [5,8] (fun _ i wr=>wr=W∧(i = .int .i64 0∨(i = .int .i64 1∧x=0)∨(i = .int .i64 2∧x=0∧y=0))) (fun _ i _=>2-(intOf i).toNat)
 case atStart=>exact⟨rfl,Or.inl rfl⟩
 case round=>
  obtain⟨rfl,rfl|⟨rfl,hx⟩|⟨rfl,hx,hy⟩⟩:=hrel
  ·by_cases hx:x=0
   ·subst hx
    go_wp2
    go_roundw
    case rel=>simp
    case measure=>simp[intOf]
   ·rw[if_neg hx] at hr
    subst hr;go_wp2
    go_ret
    exact⟨rfl,rfl⟩
  ·subst hx
   rw[if_pos rfl] at hr;subst hr
   by_cases hy:r=0
   ·subst hy
    go_wp2
    go_roundw
    case rel=>simp
    case measure=>simp[intOf]
   ·go_wp2
    go_ret
    exact⟨rfl,rfl⟩
  ·subst hx;subst hy
   rw[if_pos rfl] at hr;subst hr;go_wp2
   go_ret
   exact⟨rfl,rfl⟩
set_option maxRecDepth 100000 in
theorem zhs (a b:zr) (W:World):Calls Tryz.prog 89 #[qy a,qy b] W fun e w'=>e = .returned (.int .i64 (ordK a b))∧∃q os',w'=grow (W.drewN q) os':=by
 obtain⟨ak,av⟩:=a;obtain⟨bk,bv⟩:=b;simp only[qy,ordK];have HB:=fun W=>zli ak bk W
 have HI:=fun W=>zlj (av:Int) (bv:Int) W
 have HO:=fun g W=>or_any (Yk ak bk) (Yk (av:Int) (bv:Int)) g W
 generalize Yk ak bk=x at *;generalize Yk (av:Int) (bv:Int)=y at *;generalize (if x=0 then y else x)=r at *
 go_enter Tryz.func89,Tryz.ntmps89
 go_wp2;have c0:((W.alloc (.cells #[.int .i64 ak,.int .i64 (av:Int)] 142)).alloc (.cells #[.int .i64 bk,.int .i64 (bv:Int)] 142)).cell? ⟨W.heap.size,0,none⟩=some (.int .i64 ak):=by simp[go_sem]
 have c1:((W.alloc (.cells #[.int .i64 ak,.int .i64 (av:Int)] 142)).alloc (.cells #[.int .i64 bk,.int .i64 (bv:Int)] 142)).cell? ⟨W.heap.size,1,none⟩=some (.int .i64 (av:Int)):=by simp[go_sem]
 have c2:((W.alloc (.cells #[.int .i64 ak,.int .i64 (av:Int)] 142)).alloc (.cells #[.int .i64 bk,.int .i64 (bv:Int)] 142)).cell? ⟨W.heap.size+1,0,none⟩=some (.int .i64 bk):=by simp[go_sem]
 have c3:((W.alloc (.cells #[.int .i64 ak,.int .i64 (av:Int)] 142)).alloc (.cells #[.int .i64 bk,.int .i64 (bv:Int)] 142)).cell? ⟨W.heap.size+1,1,none⟩=some (.int .i64 (bv:Int)):=by simp[go_sem]
 have hg:(W.alloc (.cells #[.int .i64 ak,.int .i64 (av:Int)] 142)).alloc (.cells #[.int .i64 bk,.int .i64 (bv:Int)] 142)=grow (W.drewN 0) #[.cells #[.int .i64 ak,.int .i64 (av:Int)] 142,.cells #[.int .i64 bk,.int .i64 (bv:Int)] 142]:=by rw[alloc_eq_grow,alloc_eq_grow,grow_grow];rfl
 generalize (W.alloc (.cells #[.int .i64 ak,.int .i64 (av:Int)] 142)).alloc (.cells #[.int .i64 bk,.int .i64 (bv:Int)] 142)=W2 at *;have HG:=zd hg;clear hg
 go_region_held3 (fun w'=>w'.cell? ⟨W.heap.size,0,none⟩=some (.int .i64 ak)∧w'.cell? ⟨W.heap.size,1,none⟩=some (.int .i64 (av:Int))∧w'.cell? ⟨W.heap.size+1,0,none⟩=some (.int .i64 bk)∧w'.cell? ⟨W.heap.size+1,1,none⟩=some (.int .i64 (bv:Int))) (go_keep)
  (first
  | (go_at_call 91;refine(HB _).mono ?_;rintro e w3 ⟨rfl,rfl⟩)
  | (go_at_call 92;refine(HI _).mono ?_;rintro e w3 ⟨rfl,rfl⟩)
  | (go_at_call 90;refine(HO _ _ (by simp[go_sem]) (by simp[go_sem])).mono ?_;rintro e w3 ⟨rfl,rfl⟩))
 all_goals
  go_wp2
  go_ret
  exact⟨rfl,1,_,by rw[HG.out,alloc_eq_grow,grow_grow];rfl⟩
open Go.Sf
open Classical in
noncomputable def opnD (d:Dk):Nat→Dk × Int × Bool
 | 0=>(d,0,false)
 | n+1=>if (opnD d n).2.1≠0 then opnD d n
   else if (saidP zu (bk d.now n)).isSome=true∨bk d.now n=zv then opnD d n
   else ((opnD d n).1.written n [],(opnD d n).1.writeV n [],true)
theorem Js {d:Dk} {n:Nat} (h:(opnD d n).2.1≠0):opnD d (n+1)=opnD d n:=by
 conv=>lhs;unfold opnD
 rw[if_pos h]
theorem Yg {d:Dk} {n:Nat} (h:(opnD d n).2.1=0) (hc:(saidP zu (bk d.now n)).isSome=true∨bk d.now n=zv):opnD d (n+1)=opnD d n:=by
 conv=>lhs;unfold opnD
 rw[if_neg (by simp[h]),if_pos hc]
theorem zca {d:Dk} {n:Nat} (h:(opnD d n).2.1=0) (h1:(saidP zu (bk d.now n)).isSome=false) (h2:bk d.now n≠zv):opnD d (n+1)=((opnD d n).1.written n [],(opnD d n).1.writeV n [],true):=by
 conv=>lhs;unfold opnD
 rw[if_neg (by simp[h]),if_neg (by simp[h1,h2])]
theorem zdo {d:Dk} {n:Nat} (h:(opnD d n).2.1≠0):∀m,n≤m→opnD d m=opnD d n
 | 0,hm=>by
  obtain rfl:n=0:=by omega
  rfl
 | m+1,hm=>by
  rcases Nat.lt_or_ge m n with h1|h1
  ·obtain rfl:n=m+1:=by omega
   rfl
  ·have ih:=zdo h m h1
   rw[Js (by rw[ih];exact h),ih]
theorem zmk:vr []=zv:=rfl
structure OpnOk (d:Dk) (n:Nat):Prop where
 nn:(opnD d n).1.n=d.n
 off:(opnD d n).1.off=false
 late:(opnD d n).1.late.length≤d.late.length+n
 rest:∀i,n≤i→bk (opnD d n).1.now i=bk d.now i
 met:∀i,i<n→bk (opnD d n).1.now i=scrub zu (bk d.now i)
 steps:(opnD d n).1.stepB=true∨(opnD d n).1.stepB=false
theorem Jd {d:Dk} {i:Nat} (hoff:d.off=false) (hi:i<d.n):d.mayE i 0=0∧d.writeV i []=(if d.stepB=true then 0 else 180)∧d.written i []=(if d.stepB=true then (d.lay i zv).went else (d.lay i zv).gone):=by
 have hm:d.mayE i 0=0:=by
  unfold Dk.mayE;rw[if_neg (by simp[hoff]),if_neg (by omega),if_neg (by omega)]
 refine⟨hm,?_,?_⟩
 ·unfold Dk.writeV
  simp[hm]
 ·unfold Dk.written
  simp[hm,zmk]
theorem zer {d:Dk} (hoff:d.off=false):∀n,n≤d.n→(opnD d n).2.1=0→OpnOk d n
 | 0,_,_=>⟨rfl,hoff,by simp[opnD],fun i _=>rfl,fun i hi=>by omega,by cases(opnD d 0).1.stepB <;> simp⟩
 | n+1,hn,h=>by
  have h0:(opnD d n).2.1=0:=by
   apply Classical.byContradiction
   intro hne;rw[Js hne] at h
   exact hne h
  have ih:=zer hoff n (by omega) h0
  by_cases hc:(saidP zu (bk d.now n)).isSome=true∨bk d.now n=zv
  ·have e:=Yg h0 hc
   refine⟨by rw[e];exact ih.nn,by rw[e];exact ih.off,by rw[e];have:=ih.late;omega,fun i hi=>by rw[e];exact ih.rest i (by omega),fun i hi=>?_,by cases(opnD d (n+1)).1.stepB <;> simp⟩
   rw[e]
   rcases Nat.lt_or_ge i n with h1|h1
   ·exact ih.met i h1
   ·obtain rfl:i=n:=by omega
    rw[ih.rest i (Nat.le_refl _)];refine(zgt ?_).symm
    rcases hc with hc|hc
    ·exact Or.inr (Option.isSome_iff_exists.1 hc)
    ·exact Or.inl hc
  ·have hc1:(saidP zu (bk d.now n)).isSome=false:=by
    cases e:(saidP zu (bk d.now n)).isSome
    ·rfl
    ·exact absurd (Or.inl e) hc
   have hc2:bk d.now n≠zv:=fun e=>hc (Or.inr e)
   have e:=zca h0 hc1 hc2;obtain⟨z1,z2,z3⟩:=Jd ih.off (i:=n) (by rw[ih.nn];omega)
   rw[e] at h;simp only at h;have hs:(opnD d n).1.stepB=true:=by
    rw[z2] at h
    cases hb:(opnD d n).1.stepB
    ·rw[hb] at h;simp at h
    ·rfl
   rw[if_pos hs] at z3;refine⟨?_,?_,?_,fun i hi=>?_,fun i hi=>?_,by cases(opnD d (n+1)).1.stepB <;> simp⟩
   ·rw[e];simp only;rw[z3];exact ih.nn
   ·rw[e];simp only;rw[z3];exact ih.off
   ·rw[e];simp only;rw[z3];have:=ih.late;simp[Dk.went,Dk.lay];omega
   ·rw[e];simp only;rw[z3]
    show bk (yu (opnD d n).1.now (n:Int) zv) i=_
    rw[Jl _ _ (by omega)]
    exact ih.rest i (by omega)
   ·rw[e];simp only;rw[z3]
    show bk (yu (opnD d n).1.now (n:Int) zv) i=_
    rcases Nat.lt_or_ge i n with h1|h1
    ·rw[Jl _ _ (by omega)]
     exact ih.met i h1
    ·obtain rfl:i=n:=by omega
     rw[Vg];unfold scrub;rw[if_neg (by rw[hc1];simp)]
section
variable {C : List Int → Nat} {f : Nat → List Int} {N : Nat}
theorem ze1 (hf:∀i,i<N→BL (f i)) {K:zr} {r:xg} (hr:zx (scanN C f N).rows K=some r) (hw:r.whole=true):BL (jb r)∧(jb r).length≤131072∧uh r≠[]∧(∀i∈uh r,i<N)∧r.cells.length≤570∧(∀c∈r.cells,c.2.length≤230)∧1≤K.k∧K.k≤4611686018427387904:=by
 have hs:=js (C:=C) f N;have hro:=hs.row K r hr;obtain⟨c1,c2,c3⟩:=hs.c K r hr;have hall:=(zk4 hro).1 hw;have hcell:∀j,j<K.count→∃i b,r.cells[j]? = some (i,b)∧i<N∧saidP C (f i)=some ⟨K.k,j,K.count,b⟩:=fun j hj=>by
  obtain⟨⟨i,b⟩,hx⟩:=Option.isSome_iff_exists.1 (hall j hj);obtain⟨h1,h2⟩:=Zg hx
  exact⟨i,b,(hro.yes j hj _ hx).2,h1,h2⟩
 have hmem:∀c∈r.cells,∃j,j<K.count∧r.cells[j]? = some c∧c.1<N∧saidP C (f c.1)=some ⟨K.k,j,K.count,c.2⟩:=fun c hc=>by
  obtain⟨j,hj⟩:=List.getElem?_of_mem hc;have hjl:j<K.count:=by rw[←hro.l1];exact(List.getElem?_eq_some_iff.1 hj).1
  obtain⟨i,b,h1,h2,h3⟩:=hcell j hjl;rw[hj] at h1
  cases h1
  exact⟨j,hjl,hj,h2,h3⟩
 have hlen:∀m,m≤K.count→((r.cells.take m).flatMap (·.2)).length≤m*230∧(m<K.count→((r.cells.take m).flatMap (·.2)).length=m*230)
   ∧(m=K.count→((r.cells.take m).flatMap (·.2)).length≤131072):=fun m=>by
  induction m with
  | zero=>intro _;simp
  | succ m ih=>
   intro hm;obtain⟨g1,g2,g3⟩:=ih (by omega)
   obtain⟨i,b,h1,h2,h3⟩:=hcell m (by omega)
   have hp:=(xi h3).1;have hl:=hp.l1;simp only at hl;have e:((r.cells.take (m+1)).flatMap (·.2)).length=((r.cells.take m).flatMap (·.2)).length+b.length:=by
    obtain⟨q1,q2⟩:=List.getElem?_eq_some_iff.1 h1;rw[List.take_succ_eq_append_getElem q1,q2];simp
   rw[e];have g2:=g2 (by omega)
   refine⟨by omega,fun hlt=>?_,fun heq=>?_⟩
   ·have:=hp.full (by show m+1≠K.count;omega)
    simp only at this;omega
   ·have:=(hp.last (by show m+1=K.count;omega)).1
    simp only at this;omega
 have hfull:(r.cells.take K.count)=r.cells:=List.take_of_length_le (by rw[hro.l1];exact Nat.le_refl _)
 refine⟨fun x hx=>?_,?_,fun e=>?_,fun i hi=>?_,by rw[hro.l1];exact c2,fun c hc=>?_,c3,?_⟩
 ·obtain⟨c,hc,hxc⟩:=List.mem_flatMap.1 hx
  obtain⟨j,hj,_,hN,hsd⟩:=hmem c hc;have he:=(xi hsd).2;have hb:=hf _ hN;rw[←he] at hb;refine hb x ?_;unfold qn qi hdP;simp only[List.mem_append]
  exact Or.inl (Or.inl (Or.inl (Or.inr hxc)))
 ·have:=(hlen K.count (Nat.le_refl _)).2.2 rfl
  rw[hfull] at this
  exact this
 ·have:r.cells.length=0:=by simpa[uh] using e
  rw[hro.l1] at this;omega
 ·obtain⟨c,hc,rfl⟩:=List.mem_map.1 hi
  obtain⟨_,_,_,hN,_⟩:=hmem c hc
  exact hN
 ·obtain⟨_,_,_,_,hsd⟩:=hmem c hc
  exact(xi hsd).1.l1
 ·obtain⟨i,b,_,_,h3⟩:=hcell 0 (by omega)
  exact(xi h3).1.k2
theorem zat {M:Int} (hM:4611686018427387905≤M) (n:Nat):(scanN C f n).next≤M:=by
 induction n with
 | zero=>show(1:Int)≤M;omega
 | succ n ih=>
  unfold scanN scanStep
  cases e:saidP C (f n) with
  | none=>exact ih
  | some p=>
   have:=(xi e).1.k2
   show max _ _≤M
   omega
end
end Go.Proofs.YtbcbhlfjgobejaaGreat
