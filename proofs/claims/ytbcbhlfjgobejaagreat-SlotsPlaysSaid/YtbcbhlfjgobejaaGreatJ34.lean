/- The document's disk: New: the walk. Conditions: none, or as the theorems say. -/
import Derived.Test.YtbcbhlfjgobejaaGreatJ1
import Derived.Test.YtbcbhlfjgobejaaGreatJ33
set_option linter.unusedSimpArgs false
set_option linter.unusedVariables false
namespace Go.Proofs.YtbcbhlfjgobejaaGreat
set_option maxHeartbeats 200000000
open Go.RowKit Go.Sf Go.Shelf
theorem infoRb:∃(i:TypeInfo) (z:Value) (by_:Nat),Tryz.prog.info? 188=some i∧i.zero=some z∧i.size=2∧i.bytes=by_∧z.cells.size=2∧by_≤1000:=by
 have h:((Tryz.prog.info? 188).bind fun i=>i.zero.map fun z=>(i.size,decide (i.bytes≤1000),z.cells.size))=some (2,true,2):=by kernel_rfl
 cases hi:Tryz.prog.info? 188 with
 | none=>rw[hi] at h;cases h
 | some i=>
  rw[hi] at h
  cases hz:i.zero with
  | none=>simp[hz] at h
  | some z=>
   simp[hz] at h
   exact⟨i,z,_,rfl,hz,h.1,rfl,h.2.2,h.2.1⟩
theorem zhg {X:World} {b:Nat} {zz:List Int} (h:X.heap[b]? = some (.cells (zg zz).toArray 5 (0,0))) (hz:zv=zz):(convert 32 9 (.slice (some ⟨b,0,none⟩) 256 256)).run Tryz.prog X = .ok (.string (ofB zz)) X:=by
 subst hz
 exact uk (k:=256) h
def Ub (z:List Int):List Value:=[.string (ofB z),.slice none 0 0]
theorem Qb (z:List Int):(Ub z).length=2:=rfl
theorem Qc (z:List Int):∀u∈Ub z,u.oneCell'=true:=fun u hu=>by
 simp only[Ub,List.mem_cons,List.not_mem_nil,or_false] at hu
 rcases hu with rfl|rfl <;> rfl
theorem zj0 (l:List (List Int)):(l.map fun z=>(z,Value.slice none 0 0)).flatMap rblkE=l.flatMap Ub:=by
 rw[List.flatMap_map];rfl
theorem Jf (X:World) (z:List Int):Yx (X.alloc (.cells #[.string (ofB z),.slice none 0 0] 188)) Ub (.slice (some ⟨X.heap.size,0,none⟩) 1 1) [z]:=by
 refine⟨_,1,rfl,Or.inr ⟨_,rfl,fun j u hu=>?_⟩⟩
 rw[qe]
 exact(zf (heap_alloc_new X _) j).trans (by simpa[Ub] using hu)
def RDk.new (n:Int):RDk:=⟨List.replicate (min 4096 (max 0 n)).toNat ⟨zv,[]⟩,0,-1,false⟩
structure Yw (W w:World) (db k:Nat) (bv:Value):Prop where
 box:w.heap[db]? = some (.cells #[bv,.int .i64 0,.int .i64 (-1),.bool false] 185 (0,0))
 row:yo w 188 2 Ub bv (List.replicate k zv)
 gr:W.grownBy w none
 le:W.heap.size≤db
 own_:∀g,bv.ownBlock=some g→W.heap.size≤g
theorem Yw.kept {W w w':World} {db k:Nat} {bv:Value} (h:Yw W w db k bv) (hg:w.grownBy w' none):Yw W w' db k bv:=
 ⟨(hg.block db (Array.getElem?_eq_some_iff.1 h.box).1 (by simp)).trans h.box,h.row.grown hg (by simp),zh h.gr hg,h.le,h.own_⟩
theorem Yw.ne {W w:World} {db k:Nat} {bv:Value} (h:Yw W w db k bv):bv.ownBlock≠some db:=qf h.row h.box (by decide)
theorem Yw.app {W w w':World} {db k:Nat} {bv v':Value} (h:Yw W w db k bv) (ha:Yb w 188 2 Ub bv (List.replicate k zv ++ [zv]) v' w'):Yw W (w'.setCell ⟨db,0,none⟩ v') db (k+1) v':=by
 obtain⟨h1,h2,h3⟩:=ha;have hbx:=(h2.block db (Array.getElem?_eq_some_iff.1 h.box).1 (Ne.symm h.ne)).trans h.box;have hs:=zw w' db 0 v';rw[←List.replicate_succ'] at h1;have ho:∀g,v'.ownBlock=some g→W.heap.size≤g:=fun g hg=>by
  rcases h3 with e|e
  ·exact h.own_ g (e ▸ hg)
  ·rw[hg] at e
   injection e with e
   have:=h.gr.size;omega
 refine⟨?_,h1.grown hs (fun g hg e=>?_),yd (yd h.gr h2 h.own_) hs (fun b hb=>by injection hb with hb;rw[←hb];exact h.le),h.le,ho⟩
 ·simp only[World.setCell,Array.getElem?_modify,hbx,if_true,Option.map_some]
  rfl
 ·cases e
  exact qf h1 hbx (by decide) hg
theorem zld {w:World} {db:Nat} {bv:Value} (h:w.heap[db]? = some (.cells #[bv,.int .i64 0,.int .i64 (-1),.bool false] 185 (0,0))):w.heap[db]? = some (.cells #[bv,.int .i64 (wrap64 0),.int .i64 (-1),.bool false] 185 (0,0)):=by
 have hw:wrap64 (0:Int)=0:=by unfold wrap64;omega
 rw[hw]
 exact h
theorem Yw.done {W w:World} {db:Nat} {n:Int} {bv:Value} (h:Yw W w db (min 4096 (max 0 n)).toNat bv):R18 (fun k=>W.heap.size≤k∧k<w.heap.size) w db (RDk.new n):=by
 have hl:(List.replicate (min 4096 (max 0 n)).toNat zv).length=(min 4096 (max 0 n)).toNat:=List.length_replicate;refine⟨bv,(List.replicate (min 4096 (max 0 n)).toNat zv).map fun z=>(z,Value.slice none 0 0),⟨zld h.box,?_,by simp[RDk.new],fun i x y hx hy=>?_,⟨h.le,(Array.getElem?_eq_some_iff.1 h.box).1⟩,fun g hg=>⟨h.own_ g hg,h.row.lt hg⟩,fun k hk=>hk.2,by simp[RDk.new];omega,by show(-1:Int)≤-1;omega,by show(-1:Int)<_;omega,fun x hx=>?_,?_⟩⟩
 ·have:=h.row
  unfold yo at this ⊢;rw[List.length_map,zj0]
  exact this
 ·have h1:=List.mem_of_getElem? hx
  have h2:=List.mem_of_getElem? hy;rw[(List.mem_replicate.1 h1).2];obtain⟨z,hz,rfl⟩:=List.mem_map.1 h2;rw[(List.mem_replicate.1 hz).2]
  exact⟨rfl,Yv.nil _ _⟩
 ·rw[(List.mem_replicate.1 hx).2]
  exact⟨⟨xe,fun b hb=>by have:=List.eq_of_mem_replicate hb;omega⟩,by simp⟩
 ·unfold yf RDk.new
  simp
set_option maxRecDepth 100000 in
theorem rnew (n:Int) (hn:n<9223372036854775808) (W:World):Calls Tryz.prog 36 #[.int .i64 n] W fun e w'=>∃db,e = .returned (.pointer (some ⟨db,0,none⟩))∧W.grownBy w' none∧R18 (fun k=>W.heap.size≤k∧k<w'.heap.size) w' db (RDk.new n):=by
 obtain⟨i0,z0,by0,hi,hz0,hz1,hz2,hz3,hz4⟩:=infoRb;have hmk:∀w,(Instr.makeSlice 32 (.int .i64 256) (.int .i64 256)).run Tryz.prog w = .ok (.slice (some ⟨w.heap.size,0,none⟩) 256 256) (w.alloc (.cells (zg (List.replicate 256 0)).toArray 5)):=Vo 256 (by omega)
 have hzb:List.replicate 256 (0:Int)=zv:=rfl;have H0:Hid (Yw W (W.alloc (.cells #[.slice none 0 0,.int .i64 0,.int .i64 (-1),.bool false] 185)) W.heap.size 0 (.slice none 0 0)):=(show Yw _ _ _ _ _ from ⟨heap_alloc_new _ _,⟨rfl,Or.inl ⟨rfl,rfl⟩⟩,ze _ _ none,Nat.le_refl _,fun g hg=>by simp[Value.ownBlock] at hg⟩)
 obtain⟨m,hm⟩:∃m,m=(min 4096 (max 0 n)).toNat:=⟨_,rfl⟩;have HM:=zd hm;have hm1:m≤4096:=by omega
 have hmn:∀k:Nat,k<m↔((k:Int)<n∧(k:Int)<4096):=fun k=>by omega
 have HMN:=zd hmn;clear hm hmn;rw[hzb] at hmk;generalize hzz:zv=zz at *;have HZZ:=zd hzz;clear hzb hzz
 go_enter Tryz.func36,Tryz.ntmps36
 go_upto_region 3 with fail
 obtain⟨db,hdb⟩:∃db,db=W.heap.size:=⟨_,rfl⟩;rw[←hdb] at H0 ⊢;have HDB:=zd hdb;clear hdb
 go_loopw [4] (fun i wr=>∃(k:Nat) (bv:Value),k≤m∧i = .int .i64 k∧Yw W wr db k bv) (fun i _=>m-(intOf i).toNat)
 case atStart=>exact⟨0,_,by omega,rfl,H0.out⟩
 case round=>
  obtain⟨k,bv,hk,rfl,ha⟩:=hrel;clear H0;have HA:=zd ha;clear ha;obtain⟨p0,c0,rfl,-,-⟩:=HA.out.row.form;rw[List.length_replicate] at HA
  by_cases hkm:k<m
  ·obtain⟨e1,e2⟩:=(HMN.out k).1 hkm
   have hkm2:k<4096:=by omega
   go_upto_region 5 with fail
   refine wp_region_held_drew (S:=fun _:World=>True) (by kernel_rfl) trivial (fun hHeld=>?_)
   have hgb:wr.grownBy wr.drew none:=zk (zj _);replace HA:=zd (HA.out.kept hgb);clear hgb;generalize wr.drew=W2 at *;refine tk (i:=0) (oi:=⟨some 16,Op.move (Operand.tmp 3),_,_,_,none⟩) (v:=?_) rfl hHeld ?_ ?_;rotate_left
   ·rintro w -;go_simp;try with_reducible rfl
   (try simp only[Act.put,za,zb,zc])
   refine tk (i:=1) (oi:=⟨some 17,Op.move (Operand.tmp 3),_,_,_,none⟩) (v:=?_) rfl hHeld ?_ ?_;rotate_left
   ·rintro w -;go_simp;try with_reducible rfl
   (try simp only[Act.put,za,zb,zc])
   refine tk (i:=2) (oi:=⟨some 18,Op.nilCheck (Operand.tmp 17),_,_,_,none⟩) (v:=?_) rfl hHeld ?_ ?_;rotate_left
   ·rintro w -;go_simp;try with_reducible rfl
   (try simp only[Act.put,za,zb,zc])
   refine tk (i:=3) (oi:=⟨some 19,Op.fieldAddr 185 (Operand.tmp 18) 0,_,_,_,none⟩) (v:=?_) rfl hHeld ?_ ?_;rotate_left
   ·rintro w -;go_simp;try with_reducible rfl
   (try simp only[Act.put,za,zb,zc])
   refine wpAnyH_ready (rs:=[4,5]) (by kernel_rfl) (by simp) ?_
   refine(AllReadyH.cons (o:=⟨some 20,Op.load 183 (Operand.tmp 19),_,_,_,none⟩) rfl (fun K hK=>?_) (AllReadyH.cons (o:=⟨some 21,Op.makeSlice 32 (Operand.const (Value.int IntKind.i64 256)) (Operand.const (Value.int IntKind.i64 256)),_,_,_,none⟩) rfl (fun K hK=>?_) AllReadyH.nil))
   ·have c9:=(zf HA.out.box 0).trans rfl
    go_simp
    clear c9;refine hK.out _ _ trivial (fun hHeld=>?_)
    clear hK K
    (try simp only[Act.put,za,zb,zc])
    refine wpAnyH_ready (rs:=[5]) (by kernel_rfl) (by simp) ?_
    refine(AllReadyH.cons (o:=⟨some 21,Op.makeSlice 32 (Operand.const (Value.int IntKind.i64 256)) (Operand.const (Value.int IntKind.i64 256)),_,_,_,none⟩) rfl (fun K hK=>?_) AllReadyH.nil)
    go_simp
    have hgb:=ze W2 (.cells (zg zz).toArray 5) none;have HZ:=zd (heap_alloc_new W2 (.cells (zg zz).toArray 5));replace HA:=zd (HA.out.kept hgb);clear hgb;generalize W2.alloc (.cells (zg zz).toArray 5)=w5 at *;generalize W2.heap.size=b5 at *;refine hK.out _ _ trivial (fun hHeld=>?_)
    clear hK K
    (try simp only[Act.put,za,zb,zc])
    refine wpAnyH_ready (rs:=[6]) (by kernel_rfl) (by simp) ?_
    refine(AllReadyH.cons (o:=⟨some 22,Op.convert 32 9 (Operand.tmp 21),_,_,_,none⟩) rfl (fun K hK=>?_) AllReadyH.nil)
    have hcv:=zhg HZ.out HZZ.out
    go_simp
    clear hcv;refine hK.out _ _ trivial (fun hHeld=>?_)
    clear hK K
    (try simp only[Act.put,za,zb,zc])
    refine tk (i:=7) (oi:=⟨some 23,Op.build 188 #[(0,Operand.tmp 22)],_,_,_,none⟩) (v:=?_) rfl hHeld ?_ ?_;rotate_left
    ·rintro w -;go_simp;try with_reducible rfl
    (try simp only[Act.put,za,zb,zc])
    refine wpAnyH_ready (rs:=[8]) (by kernel_rfl) (by simp) ?_
    refine(AllReadyH.cons (o:=⟨some 24,Op.buildSlice 183 1 #[(0,Operand.tmp 23)],_,_,_,none⟩) rfl (fun K hK=>?_) AllReadyH.nil)
    go_simp
    have hgb:=ze w5 (.cells #[.string (ofB zz),.slice none 0 0] 188) none;have HY:=zd (Jf w5 zz)
    try replace HZ:=zd ((hgb.block _ (Array.getElem?_eq_some_iff.1 HZ.out).1 (by simp)).trans HZ.out)
    replace HA:=zd (HA.out.kept hgb);clear hgb;generalize w5.alloc (.cells #[.string (ofB zz),.slice none 0 0] 188)=w8 at *;generalize w5.heap.size=b8 at *;refine hK.out _ _ trivial (fun hHeld=>?_)
    clear hK K
    (try simp only[Act.put,za,zb,zc])
    refine wpAnyH_ready (rs:=[9]) (by kernel_rfl) (by simp) ?_
    refine(AllReadyH.cons (o:=⟨some 25,Op.call { callee:=Callee.builtin Builtin.append,args:=#[Operand.tmp 20,Operand.tmp 24],argTypes:=#[183,183] },_,_,_,none⟩) rfl (fun K hK=>?_) AllReadyH.nil)
    refine xc (E:=188) (sz:=2) (enc:=Ub) (v:=.slice p0 k c0) (l:=List.replicate k zv) (m:=[zz]) rfl _ _ 183 rfl Qb Qc i0 z0 by0 Tryz.underlying183 hi hz0 hz1 hz2 hz3 (by decide) hz4 rfl HA.out.row rfl HY.out (by simp;omega) (k+1) (by simp) ?_
    intro p9 c9 w9 hap;have HAP:=zd hap;have hdc:=hap.2.1.block db (Array.getElem?_eq_some_iff.1 HA.out.box).1 (Ne.symm HA.out.ne);have hd0:w9.cell? ⟨db,0,none⟩=some (.slice p0 k c0):=(zf (hdc.trans HA.out.box) 0).trans rfl;have hd1:w9.frozen? ⟨db,0,none⟩=false:=by simp[World.frozen?,hdc.trans HA.out.box]
    clear hap hdc;refine hK.out _ _ trivial (fun hHeld=>?_)
    clear hK K
    (try simp only[Act.put,za,zb,zc])
    refine tk (i:=10) (oi:=⟨some 26,Op.nilCheck (Operand.tmp 16),_,_,_,none⟩) (v:=?_) rfl hHeld ?_ ?_;rotate_left
    ·rintro w -;go_simp;try with_reducible rfl
    (try simp only[Act.put,za,zb,zc])
    refine tk (i:=11) (oi:=⟨some 27,Op.fieldAddr 185 (Operand.tmp 26) 0,_,_,_,none⟩) (v:=?_) rfl hHeld ?_ ?_;rotate_left
    ·rintro w -;go_simp;try with_reducible rfl
    (try simp only[Act.put,za,zb,zc])
    refine wpAnyH_ready (rs:=[12]) (by kernel_rfl) (by simp) ?_
    refine(AllReadyH.cons (o:=⟨none,Op.store 183 (Operand.tmp 27) (Operand.tmp 25),_,_,_,none⟩) rfl (fun K hK=>?_) AllReadyH.nil)
    go_simp
    refine hK.out _ _ trivial (fun hHeld=>?_)
    clear hK K
    (try simp only[Act.put,za,zb,zc])
    refine wpAnyH_done (by kernel_rfl) ?_ _
    clear hHeld;have HAP2:Hid (Yb w8 188 2 Ub (.slice p0 k c0) (List.replicate k zv ++ [zv]) (.slice p9 (k+1) c9) w9):=(show Yb _ _ _ _ _ _ _ _ from by have:=HAP.out;rw[←HZZ.out] at this;exact this)
    have HN:=zd (HA.out.app HAP2.out);clear HA HAP HAP2 HY HZ hd0 hd1;generalize w9.setCell ⟨db,0,none⟩ (.slice p9 (k+1) c9)=w10 at *;go_wp2
    exact⟨⟨k+1,_,by omega,by simp,HN.out⟩,by simp[intOf];omega⟩
   ·go_simp
    have hgb:=ze W2 (.cells (zg zz).toArray 5) none;have HZ:=zd (heap_alloc_new W2 (.cells (zg zz).toArray 5));replace HA:=zd (HA.out.kept hgb);clear hgb;generalize W2.alloc (.cells (zg zz).toArray 5)=w5 at *;generalize W2.heap.size=b5 at *;refine hK.out _ _ trivial (fun hHeld=>?_)
    clear hK K
    (try simp only[Act.put,za,zb,zc])
    refine wpAnyH_ready (rs:=[4,6]) (by kernel_rfl) (by simp) ?_
    refine(AllReadyH.cons (o:=⟨some 20,Op.load 183 (Operand.tmp 19),_,_,_,none⟩) rfl (fun K hK=>?_) (AllReadyH.cons (o:=⟨some 22,Op.convert 32 9 (Operand.tmp 21),_,_,_,none⟩) rfl (fun K hK=>?_) AllReadyH.nil))
    ·have c9:=(zf HA.out.box 0).trans rfl
     go_simp
     clear c9;refine hK.out _ _ trivial (fun hHeld=>?_)
     clear hK K
     (try simp only[Act.put,za,zb,zc])
     refine wpAnyH_ready (rs:=[6]) (by kernel_rfl) (by simp) ?_
     refine(AllReadyH.cons (o:=⟨some 22,Op.convert 32 9 (Operand.tmp 21),_,_,_,none⟩) rfl (fun K hK=>?_) AllReadyH.nil)
     have hcv:=zhg HZ.out HZZ.out
     go_simp
     clear hcv;refine hK.out _ _ trivial (fun hHeld=>?_)
     clear hK K
     (try simp only[Act.put,za,zb,zc])
     refine tk (i:=7) (oi:=⟨some 23,Op.build 188 #[(0,Operand.tmp 22)],_,_,_,none⟩) (v:=?_) rfl hHeld ?_ ?_;rotate_left
     ·rintro w -;go_simp;try with_reducible rfl
     (try simp only[Act.put,za,zb,zc])
     refine wpAnyH_ready (rs:=[8]) (by kernel_rfl) (by simp) ?_
     refine(AllReadyH.cons (o:=⟨some 24,Op.buildSlice 183 1 #[(0,Operand.tmp 23)],_,_,_,none⟩) rfl (fun K hK=>?_) AllReadyH.nil)
     go_simp
     have hgb:=ze w5 (.cells #[.string (ofB zz),.slice none 0 0] 188) none;have HY:=zd (Jf w5 zz)
     try replace HZ:=zd ((hgb.block _ (Array.getElem?_eq_some_iff.1 HZ.out).1 (by simp)).trans HZ.out)
     replace HA:=zd (HA.out.kept hgb);clear hgb;generalize w5.alloc (.cells #[.string (ofB zz),.slice none 0 0] 188)=w8 at *;generalize w5.heap.size=b8 at *;refine hK.out _ _ trivial (fun hHeld=>?_)
     clear hK K
     (try simp only[Act.put,za,zb,zc])
     refine wpAnyH_ready (rs:=[9]) (by kernel_rfl) (by simp) ?_
     refine(AllReadyH.cons (o:=⟨some 25,Op.call { callee:=Callee.builtin Builtin.append,args:=#[Operand.tmp 20,Operand.tmp 24],argTypes:=#[183,183] },_,_,_,none⟩) rfl (fun K hK=>?_) AllReadyH.nil)
     refine xc (E:=188) (sz:=2) (enc:=Ub) (v:=.slice p0 k c0) (l:=List.replicate k zv) (m:=[zz]) rfl _ _ 183 rfl Qb Qc i0 z0 by0 Tryz.underlying183 hi hz0 hz1 hz2 hz3 (by decide) hz4 rfl HA.out.row rfl HY.out (by simp;omega) (k+1) (by simp) ?_
     intro p9 c9 w9 hap;have HAP:=zd hap;have hdc:=hap.2.1.block db (Array.getElem?_eq_some_iff.1 HA.out.box).1 (Ne.symm HA.out.ne);have hd0:w9.cell? ⟨db,0,none⟩=some (.slice p0 k c0):=(zf (hdc.trans HA.out.box) 0).trans rfl;have hd1:w9.frozen? ⟨db,0,none⟩=false:=by simp[World.frozen?,hdc.trans HA.out.box]
     clear hap hdc;refine hK.out _ _ trivial (fun hHeld=>?_)
     clear hK K
     (try simp only[Act.put,za,zb,zc])
     refine tk (i:=10) (oi:=⟨some 26,Op.nilCheck (Operand.tmp 16),_,_,_,none⟩) (v:=?_) rfl hHeld ?_ ?_;rotate_left
     ·rintro w -;go_simp;try with_reducible rfl
     (try simp only[Act.put,za,zb,zc])
     refine tk (i:=11) (oi:=⟨some 27,Op.fieldAddr 185 (Operand.tmp 26) 0,_,_,_,none⟩) (v:=?_) rfl hHeld ?_ ?_;rotate_left
     ·rintro w -;go_simp;try with_reducible rfl
     (try simp only[Act.put,za,zb,zc])
     refine wpAnyH_ready (rs:=[12]) (by kernel_rfl) (by simp) ?_
     refine(AllReadyH.cons (o:=⟨none,Op.store 183 (Operand.tmp 27) (Operand.tmp 25),_,_,_,none⟩) rfl (fun K hK=>?_) AllReadyH.nil)
     go_simp
     refine hK.out _ _ trivial (fun hHeld=>?_)
     clear hK K
     (try simp only[Act.put,za,zb,zc])
     refine wpAnyH_done (by kernel_rfl) ?_ _
     clear hHeld;have HAP2:Hid (Yb w8 188 2 Ub (.slice p0 k c0) (List.replicate k zv ++ [zv]) (.slice p9 (k+1) c9) w9):=(show Yb _ _ _ _ _ _ _ _ from by have:=HAP.out;rw[←HZZ.out] at this;exact this)
     have HN:=zd (HA.out.app HAP2.out);clear HA HAP HAP2 HY HZ hd0 hd1;generalize w9.setCell ⟨db,0,none⟩ (.slice p9 (k+1) c9)=w10 at *;go_wp2
     exact⟨⟨k+1,_,by omega,by simp,HN.out⟩,by simp[intOf];omega⟩
    ·have hcv:=zhg HZ.out HZZ.out
     go_simp
     clear hcv;refine hK.out _ _ trivial (fun hHeld=>?_)
     clear hK K
     (try simp only[Act.put,za,zb,zc])
     refine tk (i:=7) (oi:=⟨some 23,Op.build 188 #[(0,Operand.tmp 22)],_,_,_,none⟩) (v:=?_) rfl hHeld ?_ ?_;rotate_left
     ·rintro w -;go_simp;try with_reducible rfl
     (try simp only[Act.put,za,zb,zc])
     refine wpAnyH_ready (rs:=[4,8]) (by kernel_rfl) (by simp) ?_
     refine(AllReadyH.cons (o:=⟨some 20,Op.load 183 (Operand.tmp 19),_,_,_,none⟩) rfl (fun K hK=>?_) (AllReadyH.cons (o:=⟨some 24,Op.buildSlice 183 1 #[(0,Operand.tmp 23)],_,_,_,none⟩) rfl (fun K hK=>?_) AllReadyH.nil))
     ·have c9:=(zf HA.out.box 0).trans rfl
      go_simp
      clear c9;refine hK.out _ _ trivial (fun hHeld=>?_)
      clear hK K
      (try simp only[Act.put,za,zb,zc])
      refine wpAnyH_ready (rs:=[8]) (by kernel_rfl) (by simp) ?_
      refine(AllReadyH.cons (o:=⟨some 24,Op.buildSlice 183 1 #[(0,Operand.tmp 23)],_,_,_,none⟩) rfl (fun K hK=>?_) AllReadyH.nil)
      go_simp
      have hgb:=ze w5 (.cells #[.string (ofB zz),.slice none 0 0] 188) none;have HY:=zd (Jf w5 zz)
      try replace HZ:=zd ((hgb.block _ (Array.getElem?_eq_some_iff.1 HZ.out).1 (by simp)).trans HZ.out)
      replace HA:=zd (HA.out.kept hgb);clear hgb;generalize w5.alloc (.cells #[.string (ofB zz),.slice none 0 0] 188)=w8 at *;generalize w5.heap.size=b8 at *;refine hK.out _ _ trivial (fun hHeld=>?_)
      clear hK K
      (try simp only[Act.put,za,zb,zc])
      refine wpAnyH_ready (rs:=[9]) (by kernel_rfl) (by simp) ?_
      refine(AllReadyH.cons (o:=⟨some 25,Op.call { callee:=Callee.builtin Builtin.append,args:=#[Operand.tmp 20,Operand.tmp 24],argTypes:=#[183,183] },_,_,_,none⟩) rfl (fun K hK=>?_) AllReadyH.nil)
      refine xc (E:=188) (sz:=2) (enc:=Ub) (v:=.slice p0 k c0) (l:=List.replicate k zv) (m:=[zz]) rfl _ _ 183 rfl Qb Qc i0 z0 by0 Tryz.underlying183 hi hz0 hz1 hz2 hz3 (by decide) hz4 rfl HA.out.row rfl HY.out (by simp;omega) (k+1) (by simp) ?_
      intro p9 c9 w9 hap;have HAP:=zd hap;have hdc:=hap.2.1.block db (Array.getElem?_eq_some_iff.1 HA.out.box).1 (Ne.symm HA.out.ne);have hd0:w9.cell? ⟨db,0,none⟩=some (.slice p0 k c0):=(zf (hdc.trans HA.out.box) 0).trans rfl;have hd1:w9.frozen? ⟨db,0,none⟩=false:=by simp[World.frozen?,hdc.trans HA.out.box]
      clear hap hdc;refine hK.out _ _ trivial (fun hHeld=>?_)
      clear hK K
      (try simp only[Act.put,za,zb,zc])
      refine tk (i:=10) (oi:=⟨some 26,Op.nilCheck (Operand.tmp 16),_,_,_,none⟩) (v:=?_) rfl hHeld ?_ ?_;rotate_left
      ·rintro w -;go_simp;try with_reducible rfl
      (try simp only[Act.put,za,zb,zc])
      refine tk (i:=11) (oi:=⟨some 27,Op.fieldAddr 185 (Operand.tmp 26) 0,_,_,_,none⟩) (v:=?_) rfl hHeld ?_ ?_;rotate_left
      ·rintro w -;go_simp;try with_reducible rfl
      (try simp only[Act.put,za,zb,zc])
      refine wpAnyH_ready (rs:=[12]) (by kernel_rfl) (by simp) ?_
      refine(AllReadyH.cons (o:=⟨none,Op.store 183 (Operand.tmp 27) (Operand.tmp 25),_,_,_,none⟩) rfl (fun K hK=>?_) AllReadyH.nil)
      go_simp
      refine hK.out _ _ trivial (fun hHeld=>?_)
      clear hK K
      (try simp only[Act.put,za,zb,zc])
      refine wpAnyH_done (by kernel_rfl) ?_ _
      clear hHeld;have HAP2:Hid (Yb w8 188 2 Ub (.slice p0 k c0) (List.replicate k zv ++ [zv]) (.slice p9 (k+1) c9) w9):=(show Yb _ _ _ _ _ _ _ _ from by have:=HAP.out;rw[←HZZ.out] at this;exact this)
      have HN:=zd (HA.out.app HAP2.out);clear HA HAP HAP2 HY HZ hd0 hd1;generalize w9.setCell ⟨db,0,none⟩ (.slice p9 (k+1) c9)=w10 at *;go_wp2
      exact⟨⟨k+1,_,by omega,by simp,HN.out⟩,by simp[intOf];omega⟩
     ·go_simp
      have hgb:=ze w5 (.cells #[.string (ofB zz),.slice none 0 0] 188) none;have HY:=zd (Jf w5 zz)
      try replace HZ:=zd ((hgb.block _ (Array.getElem?_eq_some_iff.1 HZ.out).1 (by simp)).trans HZ.out)
      replace HA:=zd (HA.out.kept hgb);clear hgb;generalize w5.alloc (.cells #[.string (ofB zz),.slice none 0 0] 188)=w8 at *;generalize w5.heap.size=b8 at *;refine hK.out _ _ trivial (fun hHeld=>?_)
      clear hK K
      (try simp only[Act.put,za,zb,zc])
      refine wpAnyH_ready (rs:=[4]) (by kernel_rfl) (by simp) ?_
      refine(AllReadyH.cons (o:=⟨some 20,Op.load 183 (Operand.tmp 19),_,_,_,none⟩) rfl (fun K hK=>?_) AllReadyH.nil)
      have c9:=(zf HA.out.box 0).trans rfl
      go_simp
      clear c9;refine hK.out _ _ trivial (fun hHeld=>?_)
      clear hK K
      (try simp only[Act.put,za,zb,zc])
      refine wpAnyH_ready (rs:=[9]) (by kernel_rfl) (by simp) ?_
      refine(AllReadyH.cons (o:=⟨some 25,Op.call { callee:=Callee.builtin Builtin.append,args:=#[Operand.tmp 20,Operand.tmp 24],argTypes:=#[183,183] },_,_,_,none⟩) rfl (fun K hK=>?_) AllReadyH.nil)
      refine xc (E:=188) (sz:=2) (enc:=Ub) (v:=.slice p0 k c0) (l:=List.replicate k zv) (m:=[zz]) rfl _ _ 183 rfl Qb Qc i0 z0 by0 Tryz.underlying183 hi hz0 hz1 hz2 hz3 (by decide) hz4 rfl HA.out.row rfl HY.out (by simp;omega) (k+1) (by simp) ?_
      intro p9 c9 w9 hap;have HAP:=zd hap;have hdc:=hap.2.1.block db (Array.getElem?_eq_some_iff.1 HA.out.box).1 (Ne.symm HA.out.ne);have hd0:w9.cell? ⟨db,0,none⟩=some (.slice p0 k c0):=(zf (hdc.trans HA.out.box) 0).trans rfl;have hd1:w9.frozen? ⟨db,0,none⟩=false:=by simp[World.frozen?,hdc.trans HA.out.box]
      clear hap hdc;refine hK.out _ _ trivial (fun hHeld=>?_)
      clear hK K
      (try simp only[Act.put,za,zb,zc])
      refine tk (i:=10) (oi:=⟨some 26,Op.nilCheck (Operand.tmp 16),_,_,_,none⟩) (v:=?_) rfl hHeld ?_ ?_;rotate_left
      ·rintro w -;go_simp;try with_reducible rfl
      (try simp only[Act.put,za,zb,zc])
      refine tk (i:=11) (oi:=⟨some 27,Op.fieldAddr 185 (Operand.tmp 26) 0,_,_,_,none⟩) (v:=?_) rfl hHeld ?_ ?_;rotate_left
      ·rintro w -;go_simp;try with_reducible rfl
      (try simp only[Act.put,za,zb,zc])
      refine wpAnyH_ready (rs:=[12]) (by kernel_rfl) (by simp) ?_
      refine(AllReadyH.cons (o:=⟨none,Op.store 183 (Operand.tmp 27) (Operand.tmp 25),_,_,_,none⟩) rfl (fun K hK=>?_) AllReadyH.nil)
      go_simp
      refine hK.out _ _ trivial (fun hHeld=>?_)
      clear hK K
      (try simp only[Act.put,za,zb,zc])
      refine wpAnyH_done (by kernel_rfl) ?_ _
      clear hHeld;have HAP2:Hid (Yb w8 188 2 Ub (.slice p0 k c0) (List.replicate k zv ++ [zv]) (.slice p9 (k+1) c9) w9):=(show Yb _ _ _ _ _ _ _ _ from by have:=HAP.out;rw[←HZZ.out] at this;exact this)
      have HN:=zd (HA.out.app HAP2.out);clear HA HAP HAP2 HY HZ hd0 hd1;generalize w9.setCell ⟨db,0,none⟩ (.slice p9 (k+1) c9)=w10 at *;go_wp2
      exact⟨⟨k+1,_,by omega,by simp,HN.out⟩,by simp[intOf];omega⟩
  ·have hno:=fun e=>hkm ((HMN.out k).2 e)
   obtain rfl:k=m:=by omega
   by_cases h1:(k:Int)<n
   ·have h2:¬(k:Int)<4096:=fun e=>hno ⟨h1,e⟩
    go_wp2
    go_ret
    exact⟨_,rfl,HA.out.gr,by have:=HA.out;rw[HM.out] at this;exact this.done⟩
   ·go_wp2
    go_ret
    exact⟨_,rfl,HA.out.gr,by have:=HA.out;rw[HM.out] at this;exact this.done⟩
open Go.Sf
section
variable {d : Dk} {R : RDk}
theorem zm0 (n:Int):yx (Dk.new n) (RDk.new n):=by
 refine⟨by simp[RDk.new,Dk.new],rfl,rfl,rfl,fun i x hx=>?_,fun i hi=>rfl,fun w hw=>by simp[Dk.new] at hw⟩
 have:=List.mem_of_getElem? hx;rw[(List.mem_replicate.1 this).2]
 exact⟨rfl,rfl⟩
theorem zdz (h:yx d R) (n:Int):yx (d.failed n) (R.failed n):=⟨h.n,h.done,rfl,h.gone,h.st,h.now,h.rng⟩
theorem zck (h:yx d R):yx d.crashed R.off:=⟨h.n,h.done,rfl,rfl,h.st,h.now,h.rng⟩
theorem zd2 (h:yx d R) (hw : -1≤d.well) (hs:d.stepB=true):yx d.went R.went:=by
 refine⟨h.n,by show R.done+1=d.steps+1;rw[h.done],?_,h.gone,h.st,h.now,h.rng⟩
 have h0:d.well≠0:=by simpa[Dk.stepB] using hs
 unfold RDk.went Dk.went;rw[h.well]
 show(if d.well>0 then d.well-1 else d.well)=max (-1) (d.well-1)
 split <;> omega
theorem zd0 (h:yx d R):yx d.gone R.fell:=⟨h.n,by show R.done+1=d.steps+1;rw[h.done],rfl,rfl,h.st,h.now,h.rng⟩
theorem zcl (h:yx d R):R.stepB=d.stepB:=by
 unfold RDk.stepB Dk.stepB;rw[h.well];simp
theorem zgq (h:yx d R) (i:Int):R.mayE i=d.mayE i 0:=by
 unfold RDk.mayE Dk.mayE;rw[h.gone,h.n];simp
theorem Up (h:yx d R) {i:Nat} (hi:i<d.n):R.bytes i=bk d.now i:=by
 have hx:R.blocks[i]? = some (R.blocks[i]'(by rw[h.n];exact hi)):=List.getElem?_eq_getElem _
 unfold RDk.bytes;rw[hx]
 exact(h.read hx).symm
theorem may_len (d:Dk) (i:Int) (n:Nat):d.mayE i n=if d.mayE i 0≠0 then d.mayE i 0 else if 256<n then 3 else 0:=by
 unfold Dk.mayE
 cases d.off
 ·simp only[Bool.false_eq_true,if_false]
  by_cases h1:i<0∨(d.n:Int)≤i
  ·rw[if_pos h1,if_pos h1];rfl
  ·rw[if_neg h1,if_neg h1];rfl
 ·rfl
theorem Xr (h:yx d R) (hw : -1≤d.well) (i:Int) (b:List Int):R.writeV i b=d.writeV i b∧yx (d.written i b) (R.written i b):=by
 have hm:=zgq h i;have e0:=may_len d i b.length;have hstep:(R.lay i.toNat (vr b)).stepB=d.stepB:=(show R.stepB=d.stepB from zcl h)
 by_cases h0:d.mayE i 0=0
 ·obtain⟨_,a1,a2,_⟩:=Jp h0
  have hi:i.toNat<d.n:=by omega
  have hm0:R.mayE i=0:=by rw[hm,h0]
  by_cases hl:256<b.length
  ·have e1:d.mayE i b.length=3:=by rw[e0,if_neg (fun e=>e h0),if_pos hl]
   have w1:d.writeV i b=3:=by unfold Dk.writeV;rw[e1];rfl
   have w2:d.written i b=d:=by unfold Dk.written;rw[e1];rfl
   have w3:R.writeV i b=3:=by unfold RDk.writeV;rw[hm0,if_neg (fun e=>e rfl),if_pos hl]
   have w4:R.written i b=R:=by unfold RDk.written;rw[if_neg (fun e=>by omega)]
   rw[w1,w2,w3,w4]
   exact⟨rfl,h⟩
  ·have e1:d.mayE i b.length=0:=by rw[e0,if_neg (fun e=>e h0),if_neg hl]
   have w1:d.writeV i b=if d.stepB=true then 0 else 180:=by unfold Dk.writeV;rw[e1];rfl
   have w2:d.written i b=if d.stepB=true then (d.lay i.toNat (vr b)).went else (d.lay i.toNat (vr b)).gone:=by unfold Dk.written;rw[e1];rfl
   have w3:R.writeV i b=if d.stepB=true then 0 else 180:=by unfold RDk.writeV;rw[hm0,if_neg (fun e=>e rfl),if_neg hl,hstep]
   have w4:R.written i b=if d.stepB=true then (R.lay i.toNat (vr b)).went else (R.lay i.toNat (vr b)).fell:=by unfold RDk.written;rw[if_pos ⟨hm0,by omega⟩,hstep]
   rw[w1,w2,w3,w4];refine⟨rfl,?_⟩;have hlay:=h.lay hi (vr b)
   cases hs:d.stepB
   ·simp only[Bool.false_eq_true,if_false]
    exact zd0 hlay
   ·simp only[if_true]
    exact zd2 hlay hw hs
 ·have e1:d.mayE i b.length=d.mayE i 0:=by rw[e0,if_pos h0]
  have w1:d.writeV i b=d.mayE i 0:=by unfold Dk.writeV;rw[e1,if_pos h0]
  have w2:d.written i b=d:=by unfold Dk.written;rw[e1,if_pos h0]
  have w3:R.writeV i b=d.mayE i 0:=by unfold RDk.writeV;rw[hm,if_pos h0]
  have w4:R.written i b=R:=by unfold RDk.written;rw[hm,if_neg (fun e=>h0 e.1)]
  rw[w1,w2,w3,w4]
  exact⟨rfl,h⟩
theorem zd5 (R:RDk):∀k i x,R.blocks[i]? = some x→(R.syncK k).blocks[i]? = some (if i<k then ⟨qv x.late x.settled,[]⟩ else x)
 | 0,i,x,hx=>by rw[if_neg (by omega)];exact hx
 | k+1,i,x,hx=>by
  have ih:=zd5 R k i x hx;unfold RDk.syncK
  rcases Nat.lt_trichotomy i k with hl|rfl|hl
  ·rw[if_pos hl] at ih
   rw[if_pos (by omega)]
   split
   ·exact ih
   ·split
    ·simp only[RDk.setB]
     rw[List.getElem?_set_ne (by omega)]
     exact ih
    ·exact ih
  ·rw[if_neg (by omega)] at ih
   rw[ih,if_pos (by omega)]
   simp only
   split
   ·simp only[RDk.setB]
    rw[List.getElem?_set_self (List.getElem?_eq_some_iff.1 ih).1]
   ·rename_i h0
    have:x.late = []:=List.eq_nil_of_length_eq_zero (by omega)
    rw[ih];obtain⟨a,b⟩:=x;simp only at this;subst this
    rfl
  ·rw[if_neg (by omega)] at ih
   rw[if_neg (by omega)]
   split
   ·exact ih
   ·split
    ·simp only[RDk.setB]
     rw[List.getElem?_set_ne (by omega)]
     exact ih
    ·exact ih
theorem zco (R:RDk):∀k,(R.syncK k).done=R.done∧(R.syncK k).well=R.well∧(R.syncK k).gone=R.gone
 | 0=>⟨rfl,rfl,rfl⟩
 | k+1=>by
  have ih:=zco R k;unfold RDk.syncK
  split
  ·exact ih
  ·split
   ·exact ih
   ·exact ih
theorem zk0 (R:RDk):R.syncK R.blocks.length = { R with blocks:=R.blocks.map fun b=>⟨qv b.late b.settled,[]⟩ }:=by
 obtain⟨h1,h2,h3⟩:=zco R R.blocks.length;have hb:(R.syncK R.blocks.length).blocks=R.blocks.map fun b=>⟨qv b.late b.settled,[]⟩:=by
  apply List.ext_getElem?
  intro i;rw[List.getElem?_map]
  cases e:R.blocks[i]? with
  | none=>
   rw[List.getElem?_eq_none (by rw[Xh];exact List.getElem?_eq_none_iff.1 e)]
   rfl
  | some x=>
   rw[zd5 R _ i x e,if_pos (List.getElem?_eq_some_iff.1 e).1]
   rfl
 cases hr:R.syncK R.blocks.length with
 | mk a b c e=>
  rw[hr] at h1 h2 h3 hb;simp only at h1 h2 h3 hb;subst h1 h2 h3 hb
  rfl
theorem Jy (h:yx d R) (hw : -1≤d.well):R.syncV=d.syncV∧yx d.synced R.synced:=by
 unfold RDk.syncV Dk.syncV RDk.synced Dk.synced;rw[h.gone,zcl h]
 cases d.off
 ·simp only[Bool.false_eq_true,if_false]
  cases hs:d.stepB
  ·simp only[Bool.false_eq_true,if_false]
   exact⟨trivial,zd0 h⟩
  ·simp only[if_true]
   refine⟨trivial,?_⟩;have hg:=(zd2 h hw hs).settle;have e:R.went.syncK R.blocks.length=R.went.syncK R.went.blocks.length:=rfl;rw[e,zk0]
   exact hg
 ·simp only[if_true]
  exact⟨trivial,h⟩
theorem ziu (R:RDk) (fates:List Int):∀k i x,R.blocks[i]? = some x→(R.onK fates k).blocks[i]? = some (if i<k then ⟨jv fates x.late x.settled,[]⟩ else x)
 | 0,i,x,hx=>by rw[if_neg (by omega)];exact hx
 | k+1,i,x,hx=>by
  have ih:=ziu R fates k i x hx;unfold RDk.onK
  rcases Nat.lt_trichotomy i k with hl|rfl|hl
  ·rw[if_pos hl] at ih
   rw[if_pos (by omega)]
   split
   ·exact ih
   ·simp only[RDk.setB]
    rw[List.getElem?_set_ne (by omega)]
    exact ih
  ·rw[if_neg (by omega)] at ih
   rw[ih,if_pos (by omega)]
   simp only[RDk.setB];rw[List.getElem?_set_self (List.getElem?_eq_some_iff.1 ih).1]
  ·rw[if_neg (by omega)] at ih
   rw[if_neg (by omega)]
   split
   ·exact ih
   ·simp only[RDk.setB]
    rw[List.getElem?_set_ne (by omega)]
    exact ih
theorem zf2 (R:RDk) (fates:List Int):∀k,(R.onK fates k).done=R.done∧(R.onK fates k).well=R.well∧(R.onK fates k).gone=R.gone
 | 0=>⟨rfl,rfl,rfl⟩
 | k+1=>by
  have ih:=zf2 R fates k;unfold RDk.onK
  split
  ·exact ih
  ·exact ih
theorem onK_all (R:RDk) (fates:List Int):R.onK fates R.blocks.length = { R with blocks:=R.blocks.map fun b=>⟨jv fates b.late b.settled,[]⟩ }:=by
 obtain⟨h1,h2,h3⟩:=zf2 R fates R.blocks.length;have hb:(R.onK fates R.blocks.length).blocks=R.blocks.map fun b=>⟨jv fates b.late b.settled,[]⟩:=by
  apply List.ext_getElem?
  intro i;rw[List.getElem?_map]
  cases e:R.blocks[i]? with
  | none=>
   rw[List.getElem?_eq_none (by rw[zba];exact List.getElem?_eq_none_iff.1 e)]
   rfl
  | some x=>
   rw[ziu R fates _ i x e,if_pos (List.getElem?_eq_some_iff.1 e).1]
   rfl
 cases hr:R.onK fates R.blocks.length with
 | mk a b c e=>
  rw[hr] at h1 h2 h3 hb;simp only at h1 h2 h3 hb;subst h1 h2 h3 hb
  rfl
theorem zi4 (h:yx d R) (fates:List Int):yx (d.on fates) (R.on fates):=by
 unfold RDk.on Dk.on;rw[h.gone]
 cases d.off
 ·simp only[Bool.false_eq_true,if_false]
  exact⟨h.n,h.done,rfl,rfl,h.st,h.now,h.rng⟩
 ·simp only[if_true]
  have hg:=h.fates fates;have e:RDk.onK { R with well:=-1,gone:=false } fates R.blocks.length=RDk.onK { R with well:=-1,gone:=false } fates ({ R with well:=-1,gone:=false }:RDk).blocks.length:=rfl
  rw[e,onK_all]
  exact hg
end
end Go.Proofs.YtbcbhlfjgobejaaGreat
