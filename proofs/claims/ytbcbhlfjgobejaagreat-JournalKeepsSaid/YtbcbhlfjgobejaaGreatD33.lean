/- The journal's Append: the walk. Conditions: as put's; few entries. The journal's Checkpoint: the walk. Conditions: as put's and clear's. -/
import Derived.Test.YtbcbhlfjgobejaaGreatD32
set_option linter.unusedSimpArgs false
set_option linter.unusedVariables false
namespace Go.Proofs.YtbcbhlfjgobejaaGreat
open Go.RowKit Go.Sf Go.Shelf
attribute [local go_sem] Oper.semAt_some
def Jnl.app (J:Jnl) (b:List Int):Jnl × Int:=
 if (J.put 69 b).2.2=0 then ({ (J.put 69 b).1 with entries:=(J.put 69 b).1.entries ++ [b] },0) else ((J.put 69 b).1,(J.put 69 b).2.2)
def AppJ (own:Nat→Prop) (W:World) (jb st db:Nat) (sv:Value) (J:Jnl) (b:List Int) (e:Ending) (w':World):Prop:=
 e = .returned (.int .i64 (J.app b).2)∧(∃ev es jk,JAt own w' jb st db sv ev es jk (J.app b).1)∧Turn (fun k=>¬own k) W w'
theorem infoSl:∃(i:TypeInfo) (z:Value) (by_:Nat),Tryz.prog.info? 32=some i∧i.zero=some z∧i.size=1∧i.bytes=by_∧z.cells.size=1∧by_≤1000:=by
 have h:((Tryz.prog.info? 32).bind fun i=>i.zero.map fun z=>(i.size,decide (i.bytes≤1000),z.cells.size))=some (1,true,1):=by kernel_rfl
 cases hi:Tryz.prog.info? 32 with
 | none=>rw[hi] at h;cases h
 | some i=>
  rw[hi] at h
  cases hz:i.zero with
  | none=>simp[hz] at h
  | some z=>
   simp only[Option.bind_some,hz,Option.map_some,Option.some.injEq,Prod.mk.injEq,decide_eq_true_eq] at h
   exact⟨i,z,i.bytes,rfl,hz,h.1,rfl,h.2.2,h.2.1⟩
section
variable {own : Nat → Prop} {W w1 w2 w3 : World} {jb st db : Nat} {sv ev ev' : Value} {es : List SlM} {jk : Nat → Prop} {J : Jnl} {x : SlM} {b : List Int}
theorem JAt.entry (h:JAt own W jb st db sv ev es jk J) (hg1:W.grownBy w1 none) (hx:RowP (fun k=>W.heap.size≤k∧k<w1.heap.size) w1 (.slice x.p x.n x.c) (bytesV b)) (hg2:w1.grownBy w2 none) (ha:Apped w2 32 1 slE ev (es ++ [x]) ev' w3) :
  JAt own (w3.setCell ⟨jb,3,none⟩ ev') jb st db sv ev' (es ++ [x]) (fun k=>jk k∨(W.heap.size≤k∧k<w3.heap.size)) { J with entries:=J.entries ++ [b] }∧Turn (fun k=>¬own k) W (w3.setCell ⟨jb,3,none⟩ ev'):=by
 obtain⟨hr,hg3,ho⟩:=ha
 have hg12:=hg1.trans hg2
 have hjl:=h.jlt h.jjb
 have z1:=hg1.size
 have z2:=hg2.size
 have z3:=hg3.size
 have hel:∀g,ev.ownBlock=some g→g<W.heap.size:=fun g hg=>h.jlt (h.jev g hg)
 have h3:∀k,k<w2.heap.size→ev.ownBlock≠some k→w3.heap[k]? = w2.heap[k]?:=fun k hk e=>hg3.block k hk (fun e2=>e e2.symm)
 have h02:∀k,k<W.heap.size→ev.ownBlock≠some k→w3.heap[k]? = W.heap[k]?:=fun k hk e=>(h3 k (by omega) e).trans (hg12.block k hk (by simp))
 have hev':∀k,k<w2.heap.size→ev.ownBlock≠some k→ev'.ownBlock≠some k:=fun k hk e e2=>by
  rcases ho with e3|e3
  ·exact e (e3.symm.trans e2)
  ·have e4:=e3.symm.trans e2
   injection e4 with e4
   omega
 have hb3:w3.heap[jb]? = W.heap[jb]?:=h02 jb hjl h.ne
 have hs:=grown_set w3 jb 3 ev'
 have hs4:(w3.setCell ⟨jb,3,none⟩ ev').heap.size=w3.heap.size:=by simp[World.setCell]
 have h4:∀k,k<w3.heap.size→k≠jb→(w3.setCell ⟨jb,3,none⟩ ev').heap[k]? = w3.heap[k]?:=fun k hk e=>hs.block k hk (fun e2=>e (by injection e2))
 have ht:Turn (fun k=>own k∨jk k) W (w3.setCell ⟨jb,3,none⟩ ev'):=⟨hs.os.trans (hg3.os.trans hg12.os),hs.tape.trans (hg3.tape.trans hg12.tape),hs.output.trans (hg3.output.trans hg12.output),by omega,fun k hk hn=>by
  have e1:k≠jb:=fun e=>hn (Or.inr (by rw[e];exact h.jjb))
  exact(h4 k (by omega) e1).trans (h02 k hk (fun e=>hn (Or.inr (h.jev k e))))⟩
 have hkp:∀k,(jk k∧k≠jb∧ev.ownBlock≠some k)→(w3.setCell ⟨jb,3,none⟩ ev').heap[k]? = W.heap[k]?:=fun k hk=>(h4 k (by have:=h.jlt hk.1;omega) hk.2.1).trans (h02 k (h.jlt hk.1) hk.2.2)
 have hkm:∀k,(jk k∧k≠jb∧ev.ownBlock≠some k)→((jk k∨(W.heap.size≤k∧k<w3.heap.size))∧k≠jb∧ev'.ownBlock≠some k):=fun k hk=>⟨Or.inl hk.1,hk.2.1,hev' k (by have:=h.jlt hk.1;omega) hk.2.2⟩
 have hne3:ev'.ownBlock≠some jb:=hev' jb (by omega) h.ne
 refine⟨⟨?_,?_,?_,?_,?_,Or.inl h.jjb,?_,?_⟩,?_⟩
 ·simp only[World.setCell,Array.getElem?_modify,hb3,h.box,if_true,Option.map_some]
  rfl
 ·exact h.sr.othJ ht (fun k hk=>by
   rcases hk with e|e|e
   ·exact Or.inl (Or.inl e)
   ·exact Or.inl (Or.inr e)
   ·exact Or.inr e.1) (fun k hk=>by
   rcases hk with e|e|e
   ·have:=h.olt e;omega
   ·have:=h.jlt e;omega
   ·omega)
 ·exact hr.grown hs (fun g hg e=>hne3 (by rw[hg];exact e.symm))
 ·exact(h.stt.turn fun k hk=>hkp k hk).mono hkm
 ·refine((h.ent.turn fun k hk=>hkp k hk).mono hkm).app (.cons ?_ .nil)
  refine(hx.turn fun k hk=>?_).mono fun k hk=>?_
  ·have e1:k≠jb:=by omega
   have e2:ev.ownBlock≠some k:=fun e=>by have:=hel k e;omega
   exact(h4 k (by omega) e1).trans ((h3 k (by omega) e2).trans (hg2.block k hk.2 (by simp)))
  ·refine⟨Or.inr ⟨hk.1,by omega⟩,by omega,hev' k (by omega) fun e=>by have:=hel k e;omega⟩
 ·intro g hg
  rcases ho with e|e
  ·exact Or.inl (h.jev g (e.symm.trans hg))
  ·have e2:=e.symm.trans hg
   injection e2 with e2
   exact Or.inr ⟨by omega,hr.lt hg⟩
 ·intro k hk e
  rcases e with e|e
  ·exact h.ap k hk e
  ·have:=h.olt hk;omega
 ·refine⟨ht.os,ht.tape,ht.output,ht.size,fun k hk hn=>?_⟩
  have hown:own k:=Classical.byContradiction hn
  exact(h4 k (by omega) (fun e=>h.ap k hown (by rw[e];exact h.jjb))).trans (h02 k hk (fun e=>h.ap k hown (h.jev k e)))
end
section
variable {own : Nat → Prop} {W w1 w2 w3 : World} {jb st db : Nat} {sv ev ev' : Value} {es l : List SlM} {jk : Nat → Prop} {J : Jnl} {b : List Int}
theorem JAt.entry_cell (h:JAt own W jb st db sv ev es jk J) (hg:W.grownBy w2 none) (ha:Apped w2 32 1 slE ev l ev' w3):w3.cell? ⟨jb,3,none⟩=some ev∧w3.frozen? ⟨jb,3,none⟩=false:=by
 have e:w3.heap[jb]? = some (.cells #[.pointer (some ⟨st,0,none⟩),.int .i64 J.at_,sv,ev,.int .i64 J.broken] 210 (0,0)):=(ha.2.1.block jb (Nat.lt_of_lt_of_le (h.jlt h.jjb) hg.size) (fun e=>h.ne e.symm)).trans ((hg.block jb (h.jlt h.jjb) (by simp)).trans h.box)
 exact⟨(cell_block e 3).trans rfl,by simp[World.frozen?,e]⟩
theorem one_sl (X:World) (x:SlM):YRow (X.alloc (.cells #[.slice x.p x.n x.c] 32)) slE (.slice (some ⟨X.heap.size,0,none⟩) 1 1) [x]:=by
 refine⟨_,1,rfl,Or.inr ⟨_,rfl,fun j u hu=>?_⟩⟩
 rw[addr_at]
 exact(cell_block (heap_alloc_new X _) j).trans (by simpa[slE] using hu)
theorem app_ok {J1:Jnl} {r1:Int} (h:J.put 69 b=(J1,r1,0)):J.app b=({ J1 with entries:=J1.entries ++ [b] },0):=by unfold Jnl.app;rw[h];rfl
theorem app_no {J1:Jnl} {r1 r2:Int} (h:J.put 69 b=(J1,r1,r2)) (hr:r2≠0):J.app b=(J1,r2):=by unfold Jnl.app;rw[h];simp only;rw[if_neg hr]
set_option maxHeartbeats 4000000 in
set_option maxRecDepth 100000 in
theorem jappend (h:JAt own W jb st db sv ev es jk J) {v:Value} (hv:RowP own W v (bytesV b)) (hbb:BL b) (hl:b.length≤10000000) (hf:J.S.d.late.length+600<1000000) (he:J.entries.length<1000000):Calls Tryz.prog 50 #[.pointer (some ⟨jb,0,none⟩),v] W (AppJ own W jb st db sv J b):=by
 have hpu:=jput h hv (k:=69) ⟨by decide,by decide⟩ hbb hl hf
 have hvt:∀w',Turn (fun k=>¬own k) W w'→RowP own w' v (bytesV b):=fun w' ht=>hv.turn fun k hk=>ht.block k (h.olt hk) (fun e=>e hk)
 have hel:es.length=J.entries.length:=h.ent.len
 have hnil:v = .slice none 0 0→b = []:=fun e=>by
  obtain⟨p,c,e1,_,_,h2⟩:=hv.ex
  rcases h2 with h2|⟨a,h2,_⟩
  ·simpa[bytesV] using h2
  ·rw[e] at e1;injection e1 with e1;rw[h2] at e1;cases e1
 have HEL:Hid (es.length<1000000):=Lib.hid (by omega)
 obtain⟨J1,r1,r2,hp⟩:∃J1 r1 r2,J.put 69 b=(J1,r1,r2):=⟨_,_,_,rfl⟩
 have HPU:Hid (Calls Tryz.prog 124 #[.pointer (some ⟨jb,0,none⟩),.int .u8 69,v] W fun e w'=>e = .returned (.tuple #[.int .i64 r1,.int .i64 r2])∧JAt own w' jb st db sv ev es jk J1∧Turn (fun k=>¬own k) W w'):=Lib.hid (by
  unfold PutJ at hpu
  rw[hp] at hpu
  exact hpu)
 obtain⟨p,cap,rfl,-,-,-⟩:=hv.ex
 rw[bytesV_len] at hvt hnil HPU ⊢
 have HVT:=Lib.hid hvt
 have HNIL:=Lib.hid hnil
 have HL:=Lib.hid hl
 by_cases hr:r2=0
 ·subst hr
  have HP:=Lib.hid (app_ok hp)
  obtain⟨i0,z0,by0,hi,hz0,hz1,hz2,hz3,hz4⟩:=infoSl
  clear h hv hpu hvt hel hnil hbb hl hf he hp
  go_enter Tryz.func50,Tryz.ntmps50
  go_upto_region 3 with (go_at_call 124;refine HPU.out.mono ?_;rintro e w0 ⟨rfl,h1,h2⟩;have HJ:=Lib.hid h1;have HT:=Lib.hid h2;clear h1 h2)
  have hj0:=HJ.out.grown (grown_drew (grown_refl w0))
  have HJ0:=Lib.hid hj0
  have HT0:Hid (Turn (fun k=>¬own k) W w0.drew):=Lib.hid (Turn.trans (b:=w0) HT.out ⟨rfl,rfl,rfl,Nat.le_refl _,fun _ _ _=>rfl⟩)
  have c3:=hj0.cells.2.2.2.1
  clear hj0
  refine wp_region_held_drew (S:=fun _=>True) (by kernel_rfl) trivial (fun hHeld=>?_)
  generalize w0.drew=X0 at *
  refine wpAnyH_take (i := 0) (oi := { dst := some 15, op := Op.move (Operand.tmp 0), type := 73, pos := "journal.go:132", after := #[], guard := none }) (v := ?_) rfl (by kernel_rfl) (by kernel_rfl) (by kernel_rfl) (fun _ _ _ h => h) (Or.inl ⟨by rfl, ?_⟩) hHeld ?_
  rotate_left
  ·intro w hSw;(try dsimp only at hSw);obtain -:=hSw;go_simp;try with_reducible rfl
  (try simp only[Act.put,List.setIfInBounds_toArray,List.set_cons_zero,List.set_cons_succ])
  refine wpAnyH_take (i := 1) (oi := { dst := some 16, op := Op.move (Operand.tmp 0), type := 73, pos := "journal.go:132", after := #[], guard := none }) (v := ?_) rfl (by kernel_rfl) (by kernel_rfl) (by kernel_rfl) (fun _ _ _ h => h) (Or.inl ⟨by rfl, ?_⟩) hHeld ?_
  rotate_left
  ·intro w hSw;(try dsimp only at hSw);obtain -:=hSw;go_simp;try with_reducible rfl
  (try simp only[Act.put,List.setIfInBounds_toArray,List.set_cons_zero,List.set_cons_succ])
  refine wpAnyH_take (i := 5) (oi := { dst := some 20, op := Op.move (Operand.tmp 1), type := 32, pos := "journal.go:132", after := #[], guard := none }) (v := ?_) rfl (by kernel_rfl) (by kernel_rfl) (by kernel_rfl) (fun _ _ _ h => h) (Or.inl ⟨by rfl, ?_⟩) hHeld ?_
  rotate_left
  ·intro w hSw;(try dsimp only at hSw);obtain -:=hSw;go_simp;try with_reducible rfl
  (try simp only[Act.put,List.setIfInBounds_toArray,List.set_cons_zero,List.set_cons_succ])
  refine wpAnyH_take (i := 2) (oi := { dst := some 17, op := Op.nilCheck (Operand.tmp 16), type := 0, pos := "journal.go:132", after := #[{ on := 1, ground := Ground.data }], guard := none }) (v := ?_) rfl (by kernel_rfl) (by kernel_rfl) (by kernel_rfl) (fun _ _ _ h => h) (Or.inl ⟨by rfl, ?_⟩) hHeld ?_
  rotate_left
  ·intro w hSw;(try dsimp only at hSw);obtain -:=hSw;go_simp;try with_reducible rfl
  (try simp only[Act.put,List.setIfInBounds_toArray,List.set_cons_zero,List.set_cons_succ])
  refine wpAnyH_take (i := 3) (oi := { dst := some 18, op := Op.fieldAddr 210 (Operand.tmp 17) 3, type := 0, pos := "journal.go:132", after := #[{ on := 2, ground := Ground.data }], guard := none }) (v := ?_) rfl (by kernel_rfl) (by kernel_rfl) (by kernel_rfl) (fun _ _ _ h => h) (Or.inl ⟨by rfl, ?_⟩) hHeld ?_
  rotate_left
  ·intro w hSw;(try dsimp only at hSw);obtain -:=hSw;go_simp;try with_reducible rfl
  (try simp only[Act.put,List.setIfInBounds_toArray,List.set_cons_zero,List.set_cons_succ])
  refine wpAnyH_ready (rs:=[4,6]) (by kernel_rfl) (by simp) ?_
  refine (AllReadyH.cons (o := { dst := some 19, op := Op.load 77 (Operand.tmp 18), type := 77, pos := "journal.go:132", after := #[{ on := 3, ground := Ground.data }], guard := none }) rfl (fun K hK => ?_) (AllReadyH.cons (o := { dst := some 21, op := Op.call { callee := Callee.value (Operand.func 97), args := #[Operand.tmp 20], argTypes := #[32] }, type := 32, pos := "journal.go:132", after := #[{ on := 5, ground := Ground.data }], guard := none }) rfl (fun K hK => ?_) AllReadyH.nil))
  ·go_simp
   refine hK.out _ _ trivial (fun hHeld=>?_)
   clear hK K
   (try simp only[Act.put,List.setIfInBounds_toArray,List.set_cons_zero,List.set_cons_succ])
   refine wpAnyH_ready (rs:=[6]) (by kernel_rfl) (by simp) ?_
   refine (AllReadyH.cons (o := { dst := some 21, op := Op.call { callee := Callee.value (Operand.func 97), args := #[Operand.tmp 20], argTypes := #[32] }, type := 32, pos := "journal.go:132", after := #[{ on := 5, ground := Ground.data }], guard := none }) rfl (fun K hK => ?_) AllReadyH.nil)
   go_simp
   go_at_call 97
   refine(clone_any (W:=X0) (HVT.out X0 HT0.out).raw (by have:=HL.out;omega) HNIL.out).mono ?_
   rintro e w1 ⟨x,rfl,hx,hg1⟩
   have hxr:=NewRow.rowP (W:=X0) hx (by have:=HL.out;omega)
   obtain⟨px,cx,rfl,-,-,-⟩:=hxr.ex
   rw[bytesV_len] at hxr ⊢
   have HXR:=Lib.hid hxr
   have HG1:=Lib.hid hg1
   have c3a:=hg1.cell c3 (by simp)
   clear hx hxr hg1
   refine hK.out _ _ trivial (fun hHeld=>?_)
   clear hK K
   (try simp only[Act.put,List.setIfInBounds_toArray,List.set_cons_zero,List.set_cons_succ])
   refine wpAnyH_ready (rs:=[7]) (by kernel_rfl) (by simp) ?_
   refine (AllReadyH.cons (o := { dst := some 22, op := Op.buildSlice 77 1 #[(0, Operand.tmp 21)], type := 77, pos := "journal.go:132", after := #[{ on := 6, ground := Ground.data }], guard := none }) rfl (fun K hK => ?_) AllReadyH.nil)
   go_simp
   have hg2:w1.grownBy (w1.alloc (.cells #[.slice px b.length cx] 32)) none:=World.grownBy_alloc _ _ none
   have HY:=Lib.hid (one_sl w1 ⟨px,b.length,cx⟩)
   have c3b:=hg2.cell c3a (by simp)
   have HG2:=Lib.hid hg2
   clear hg2
   refine hK.out _ _ trivial (fun hHeld=>?_)
   clear hK K
   (try simp only[Act.put,List.setIfInBounds_toArray,List.set_cons_zero,List.set_cons_succ])
   have HZ1:Hid (w1.heap.size=w1.heap.size):=Lib.hid rfl
   generalize w1.alloc (.cells #[.slice px b.length cx] 32)=w2 at *
   refine wpAnyH_ready (rs:=[8]) (by kernel_rfl) (by simp) ?_
   refine (AllReadyH.cons (o := { dst := some 23, op := Op.call { callee := Callee.builtin Builtin.append, args := #[Operand.tmp 19, Operand.tmp 22], argTypes := #[77, 77] }, type := 77, pos := "journal.go:132", after := #[{ on := 4, ground := Ground.data }, { on := 7, ground := Ground.data }, { on := 6, ground := Ground.chain }], guard := none }) rfl (fun K hK => ?_) AllReadyH.nil)
   refine step_sapp (E:=32) (sz:=1) (enc:=slE) (v:=ev) (l:=es) (m:=[⟨px,b.length,cx⟩]) rfl _ _ 77 rfl slE_len slE_one i0 z0 by0 Tryz.underlying77 hi hz0 hz1 hz2 hz3 (by decide) hz4 rfl (HJ0.out.row.grown (HG1.out.trans HG2.out) (by simp)) rfl HY.out (by have:=HEL.out;simp only[List.length_cons,List.length_nil];omega) (es.length+1) (by simp only[List.length_cons,List.length_nil]) ?_
   intro p' cap' w3 hap
   have HE:=Lib.hid (JAt.entry (x:=⟨px,b.length,cx⟩) HJ0.out HG1.out HXR.out HG2.out hap)
   obtain⟨d0,d1⟩:=JAt.entry_cell HJ0.out (HG1.out.trans HG2.out) hap
   clear hap
   refine hK.out _ _ trivial (fun hHeld=>?_)
   clear hK K
   (try simp only[Act.put,List.setIfInBounds_toArray,List.set_cons_zero,List.set_cons_succ])
   refine wpAnyH_take (i := 9) (oi := { dst := some 24, op := Op.nilCheck (Operand.tmp 15), type := 0, pos := "journal.go:132", after := #[{ on := 0, ground := Ground.data }, { on := 0, ground := Ground.phase }, { on := 1, ground := Ground.phase }, { on := 2, ground := Ground.phase }, { on := 3, ground := Ground.phase }, { on := 4, ground := Ground.phase }, { on := 5, ground := Ground.phase }, { on := 6, ground := Ground.phase }, { on := 7, ground := Ground.phase }, { on := 8, ground := Ground.phase }], guard := none }) (v := ?_) rfl (by kernel_rfl) (by kernel_rfl) (by kernel_rfl) (fun _ _ _ h => h) (Or.inl ⟨by rfl, ?_⟩) hHeld ?_
   rotate_left
   ·intro w hSw;(try dsimp only at hSw);obtain -:=hSw;go_simp;try with_reducible rfl
   (try simp only[Act.put,List.setIfInBounds_toArray,List.set_cons_zero,List.set_cons_succ])
   refine wpAnyH_take (i := 10) (oi := { dst := some 25, op := Op.fieldAddr 210 (Operand.tmp 24) 3, type := 0, pos := "journal.go:132", after := #[{ on := 9, ground := Ground.data }, { on := 0, ground := Ground.phase }, { on := 1, ground := Ground.phase }, { on := 2, ground := Ground.phase }, { on := 3, ground := Ground.phase }, { on := 4, ground := Ground.phase }, { on := 5, ground := Ground.phase }, { on := 6, ground := Ground.phase }, { on := 7, ground := Ground.phase }, { on := 8, ground := Ground.phase }], guard := none }) (v := ?_) rfl (by kernel_rfl) (by kernel_rfl) (by kernel_rfl) (fun _ _ _ h => h) (Or.inl ⟨by rfl, ?_⟩) hHeld ?_
   rotate_left
   ·intro w hSw;(try dsimp only at hSw);obtain -:=hSw;go_simp;try with_reducible rfl
   (try simp only[Act.put,List.setIfInBounds_toArray,List.set_cons_zero,List.set_cons_succ])
   refine wpAnyH_ready (rs:=[11]) (by kernel_rfl) (by simp) ?_
   refine (AllReadyH.cons (o := { dst := none, op := Op.store 77 (Operand.tmp 25) (Operand.tmp 23), type := 0, pos := "journal.go:132", after := #[{ on := 10, ground := Ground.data }, { on := 8, ground := Ground.data }, { on := 8, ground := Ground.chain }, { on := 0, ground := Ground.phase }, { on := 1, ground := Ground.phase }, { on := 2, ground := Ground.phase }, { on := 3, ground := Ground.phase }, { on := 4, ground := Ground.phase }, { on := 5, ground := Ground.phase }, { on := 6, ground := Ground.phase }, { on := 7, ground := Ground.phase }, { on := 8, ground := Ground.phase }], guard := none }) rfl (fun K hK => ?_) AllReadyH.nil)
   go_simp
   refine hK.out _ _ trivial (fun hHeld=>?_)
   clear hK K
   (try simp only[Act.put,List.setIfInBounds_toArray,List.set_cons_zero,List.set_cons_succ])
   refine wpAnyH_done (by kernel_rfl) ?_ _
   go_wp2
   go_ret
   exact⟨by rw[HP.out];rfl,⟨_,_,_,by rw[HP.out];exact HE.out.1⟩,HT0.out.trans HE.out.2⟩
  ·go_simp
   go_at_call 97
   refine(clone_any (W:=X0) (HVT.out X0 HT0.out).raw (by have:=HL.out;omega) HNIL.out).mono ?_
   rintro e w1 ⟨x,rfl,hx,hg1⟩
   have hxr:=NewRow.rowP (W:=X0) hx (by have:=HL.out;omega)
   obtain⟨px,cx,rfl,-,-,-⟩:=hxr.ex
   rw[bytesV_len] at hxr ⊢
   have HXR:=Lib.hid hxr
   have HG1:=Lib.hid hg1
   have c3a:=hg1.cell c3 (by simp)
   clear hx hxr hg1
   refine hK.out _ _ trivial (fun hHeld=>?_)
   clear hK K
   (try simp only[Act.put,List.setIfInBounds_toArray,List.set_cons_zero,List.set_cons_succ])
   refine wpAnyH_ready (rs:=[4,7]) (by kernel_rfl) (by simp) ?_
   refine (AllReadyH.cons (o := { dst := some 19, op := Op.load 77 (Operand.tmp 18), type := 77, pos := "journal.go:132", after := #[{ on := 3, ground := Ground.data }], guard := none }) rfl (fun K hK => ?_) (AllReadyH.cons (o := { dst := some 22, op := Op.buildSlice 77 1 #[(0, Operand.tmp 21)], type := 77, pos := "journal.go:132", after := #[{ on := 6, ground := Ground.data }], guard := none }) rfl (fun K hK => ?_) AllReadyH.nil))
   ·go_simp
    refine hK.out _ _ trivial (fun hHeld=>?_)
    clear hK K
    (try simp only[Act.put,List.setIfInBounds_toArray,List.set_cons_zero,List.set_cons_succ])
    refine wpAnyH_ready (rs:=[7]) (by kernel_rfl) (by simp) ?_
    refine (AllReadyH.cons (o := { dst := some 22, op := Op.buildSlice 77 1 #[(0, Operand.tmp 21)], type := 77, pos := "journal.go:132", after := #[{ on := 6, ground := Ground.data }], guard := none }) rfl (fun K hK => ?_) AllReadyH.nil)
    go_simp
    have hg2:w1.grownBy (w1.alloc (.cells #[.slice px b.length cx] 32)) none:=World.grownBy_alloc _ _ none
    have HY:=Lib.hid (one_sl w1 ⟨px,b.length,cx⟩)
    have c3b:=hg2.cell c3a (by simp)
    have HG2:=Lib.hid hg2
    clear hg2
    refine hK.out _ _ trivial (fun hHeld=>?_)
    clear hK K
    (try simp only[Act.put,List.setIfInBounds_toArray,List.set_cons_zero,List.set_cons_succ])
    have HZ1:Hid (w1.heap.size=w1.heap.size):=Lib.hid rfl
    generalize w1.alloc (.cells #[.slice px b.length cx] 32)=w2 at *
    refine wpAnyH_ready (rs:=[8]) (by kernel_rfl) (by simp) ?_
    refine (AllReadyH.cons (o := { dst := some 23, op := Op.call { callee := Callee.builtin Builtin.append, args := #[Operand.tmp 19, Operand.tmp 22], argTypes := #[77, 77] }, type := 77, pos := "journal.go:132", after := #[{ on := 4, ground := Ground.data }, { on := 7, ground := Ground.data }, { on := 6, ground := Ground.chain }], guard := none }) rfl (fun K hK => ?_) AllReadyH.nil)
    refine step_sapp (E:=32) (sz:=1) (enc:=slE) (v:=ev) (l:=es) (m:=[⟨px,b.length,cx⟩]) rfl _ _ 77 rfl slE_len slE_one i0 z0 by0 Tryz.underlying77 hi hz0 hz1 hz2 hz3 (by decide) hz4 rfl (HJ0.out.row.grown (HG1.out.trans HG2.out) (by simp)) rfl HY.out (by have:=HEL.out;simp only[List.length_cons,List.length_nil];omega) (es.length+1) (by simp only[List.length_cons,List.length_nil]) ?_
    intro p' cap' w3 hap
    have HE:=Lib.hid (JAt.entry (x:=⟨px,b.length,cx⟩) HJ0.out HG1.out HXR.out HG2.out hap)
    obtain⟨d0,d1⟩:=JAt.entry_cell HJ0.out (HG1.out.trans HG2.out) hap
    clear hap
    refine hK.out _ _ trivial (fun hHeld=>?_)
    clear hK K
    (try simp only[Act.put,List.setIfInBounds_toArray,List.set_cons_zero,List.set_cons_succ])
    refine wpAnyH_take (i := 9) (oi := { dst := some 24, op := Op.nilCheck (Operand.tmp 15), type := 0, pos := "journal.go:132", after := #[{ on := 0, ground := Ground.data }, { on := 0, ground := Ground.phase }, { on := 1, ground := Ground.phase }, { on := 2, ground := Ground.phase }, { on := 3, ground := Ground.phase }, { on := 4, ground := Ground.phase }, { on := 5, ground := Ground.phase }, { on := 6, ground := Ground.phase }, { on := 7, ground := Ground.phase }, { on := 8, ground := Ground.phase }], guard := none }) (v := ?_) rfl (by kernel_rfl) (by kernel_rfl) (by kernel_rfl) (fun _ _ _ h => h) (Or.inl ⟨by rfl, ?_⟩) hHeld ?_
    rotate_left
    ·intro w hSw;(try dsimp only at hSw);obtain -:=hSw;go_simp;try with_reducible rfl
    (try simp only[Act.put,List.setIfInBounds_toArray,List.set_cons_zero,List.set_cons_succ])
    refine wpAnyH_take (i := 10) (oi := { dst := some 25, op := Op.fieldAddr 210 (Operand.tmp 24) 3, type := 0, pos := "journal.go:132", after := #[{ on := 9, ground := Ground.data }, { on := 0, ground := Ground.phase }, { on := 1, ground := Ground.phase }, { on := 2, ground := Ground.phase }, { on := 3, ground := Ground.phase }, { on := 4, ground := Ground.phase }, { on := 5, ground := Ground.phase }, { on := 6, ground := Ground.phase }, { on := 7, ground := Ground.phase }, { on := 8, ground := Ground.phase }], guard := none }) (v := ?_) rfl (by kernel_rfl) (by kernel_rfl) (by kernel_rfl) (fun _ _ _ h => h) (Or.inl ⟨by rfl, ?_⟩) hHeld ?_
    rotate_left
    ·intro w hSw;(try dsimp only at hSw);obtain -:=hSw;go_simp;try with_reducible rfl
    (try simp only[Act.put,List.setIfInBounds_toArray,List.set_cons_zero,List.set_cons_succ])
    refine wpAnyH_ready (rs:=[11]) (by kernel_rfl) (by simp) ?_
    refine (AllReadyH.cons (o := { dst := none, op := Op.store 77 (Operand.tmp 25) (Operand.tmp 23), type := 0, pos := "journal.go:132", after := #[{ on := 10, ground := Ground.data }, { on := 8, ground := Ground.data }, { on := 8, ground := Ground.chain }, { on := 0, ground := Ground.phase }, { on := 1, ground := Ground.phase }, { on := 2, ground := Ground.phase }, { on := 3, ground := Ground.phase }, { on := 4, ground := Ground.phase }, { on := 5, ground := Ground.phase }, { on := 6, ground := Ground.phase }, { on := 7, ground := Ground.phase }, { on := 8, ground := Ground.phase }], guard := none }) rfl (fun K hK => ?_) AllReadyH.nil)
    go_simp
    refine hK.out _ _ trivial (fun hHeld=>?_)
    clear hK K
    (try simp only[Act.put,List.setIfInBounds_toArray,List.set_cons_zero,List.set_cons_succ])
    refine wpAnyH_done (by kernel_rfl) ?_ _
    go_wp2
    go_ret
    exact⟨by rw[HP.out];rfl,⟨_,_,_,by rw[HP.out];exact HE.out.1⟩,HT0.out.trans HE.out.2⟩
   ·go_simp
    have hg2:w1.grownBy (w1.alloc (.cells #[.slice px b.length cx] 32)) none:=World.grownBy_alloc _ _ none
    have HY:=Lib.hid (one_sl w1 ⟨px,b.length,cx⟩)
    have c3b:=hg2.cell c3a (by simp)
    have HG2:=Lib.hid hg2
    clear hg2
    refine hK.out _ _ trivial (fun hHeld=>?_)
    clear hK K
    (try simp only[Act.put,List.setIfInBounds_toArray,List.set_cons_zero,List.set_cons_succ])
    have HZ1:Hid (w1.heap.size=w1.heap.size):=Lib.hid rfl
    generalize w1.alloc (.cells #[.slice px b.length cx] 32)=w2 at *
    refine wpAnyH_ready (rs:=[4]) (by kernel_rfl) (by simp) ?_
    refine (AllReadyH.cons (o := { dst := some 19, op := Op.load 77 (Operand.tmp 18), type := 77, pos := "journal.go:132", after := #[{ on := 3, ground := Ground.data }], guard := none }) rfl (fun K hK => ?_) AllReadyH.nil)
    go_simp
    refine hK.out _ _ trivial (fun hHeld=>?_)
    clear hK K
    (try simp only[Act.put,List.setIfInBounds_toArray,List.set_cons_zero,List.set_cons_succ])
    refine wpAnyH_ready (rs:=[8]) (by kernel_rfl) (by simp) ?_
    refine (AllReadyH.cons (o := { dst := some 23, op := Op.call { callee := Callee.builtin Builtin.append, args := #[Operand.tmp 19, Operand.tmp 22], argTypes := #[77, 77] }, type := 77, pos := "journal.go:132", after := #[{ on := 4, ground := Ground.data }, { on := 7, ground := Ground.data }, { on := 6, ground := Ground.chain }], guard := none }) rfl (fun K hK => ?_) AllReadyH.nil)
    refine step_sapp (E:=32) (sz:=1) (enc:=slE) (v:=ev) (l:=es) (m:=[⟨px,b.length,cx⟩]) rfl _ _ 77 rfl slE_len slE_one i0 z0 by0 Tryz.underlying77 hi hz0 hz1 hz2 hz3 (by decide) hz4 rfl (HJ0.out.row.grown (HG1.out.trans HG2.out) (by simp)) rfl HY.out (by have:=HEL.out;simp only[List.length_cons,List.length_nil];omega) (es.length+1) (by simp only[List.length_cons,List.length_nil]) ?_
    intro p' cap' w3 hap
    have HE:=Lib.hid (JAt.entry (x:=⟨px,b.length,cx⟩) HJ0.out HG1.out HXR.out HG2.out hap)
    obtain⟨d0,d1⟩:=JAt.entry_cell HJ0.out (HG1.out.trans HG2.out) hap
    clear hap
    refine hK.out _ _ trivial (fun hHeld=>?_)
    clear hK K
    (try simp only[Act.put,List.setIfInBounds_toArray,List.set_cons_zero,List.set_cons_succ])
    refine wpAnyH_take (i := 9) (oi := { dst := some 24, op := Op.nilCheck (Operand.tmp 15), type := 0, pos := "journal.go:132", after := #[{ on := 0, ground := Ground.data }, { on := 0, ground := Ground.phase }, { on := 1, ground := Ground.phase }, { on := 2, ground := Ground.phase }, { on := 3, ground := Ground.phase }, { on := 4, ground := Ground.phase }, { on := 5, ground := Ground.phase }, { on := 6, ground := Ground.phase }, { on := 7, ground := Ground.phase }, { on := 8, ground := Ground.phase }], guard := none }) (v := ?_) rfl (by kernel_rfl) (by kernel_rfl) (by kernel_rfl) (fun _ _ _ h => h) (Or.inl ⟨by rfl, ?_⟩) hHeld ?_
    rotate_left
    ·intro w hSw;(try dsimp only at hSw);obtain -:=hSw;go_simp;try with_reducible rfl
    (try simp only[Act.put,List.setIfInBounds_toArray,List.set_cons_zero,List.set_cons_succ])
    refine wpAnyH_take (i := 10) (oi := { dst := some 25, op := Op.fieldAddr 210 (Operand.tmp 24) 3, type := 0, pos := "journal.go:132", after := #[{ on := 9, ground := Ground.data }, { on := 0, ground := Ground.phase }, { on := 1, ground := Ground.phase }, { on := 2, ground := Ground.phase }, { on := 3, ground := Ground.phase }, { on := 4, ground := Ground.phase }, { on := 5, ground := Ground.phase }, { on := 6, ground := Ground.phase }, { on := 7, ground := Ground.phase }, { on := 8, ground := Ground.phase }], guard := none }) (v := ?_) rfl (by kernel_rfl) (by kernel_rfl) (by kernel_rfl) (fun _ _ _ h => h) (Or.inl ⟨by rfl, ?_⟩) hHeld ?_
    rotate_left
    ·intro w hSw;(try dsimp only at hSw);obtain -:=hSw;go_simp;try with_reducible rfl
    (try simp only[Act.put,List.setIfInBounds_toArray,List.set_cons_zero,List.set_cons_succ])
    refine wpAnyH_ready (rs:=[11]) (by kernel_rfl) (by simp) ?_
    refine (AllReadyH.cons (o := { dst := none, op := Op.store 77 (Operand.tmp 25) (Operand.tmp 23), type := 0, pos := "journal.go:132", after := #[{ on := 10, ground := Ground.data }, { on := 8, ground := Ground.data }, { on := 8, ground := Ground.chain }, { on := 0, ground := Ground.phase }, { on := 1, ground := Ground.phase }, { on := 2, ground := Ground.phase }, { on := 3, ground := Ground.phase }, { on := 4, ground := Ground.phase }, { on := 5, ground := Ground.phase }, { on := 6, ground := Ground.phase }, { on := 7, ground := Ground.phase }, { on := 8, ground := Ground.phase }], guard := none }) rfl (fun K hK => ?_) AllReadyH.nil)
    go_simp
    refine hK.out _ _ trivial (fun hHeld=>?_)
    clear hK K
    (try simp only[Act.put,List.setIfInBounds_toArray,List.set_cons_zero,List.set_cons_succ])
    refine wpAnyH_done (by kernel_rfl) ?_ _
    go_wp2
    go_ret
    exact⟨by rw[HP.out];rfl,⟨_,_,_,by rw[HP.out];exact HE.out.1⟩,HT0.out.trans HE.out.2⟩
 ·have HP:=Lib.hid (app_no hp hr)
  clear h hv hpu hvt hel hnil hbb hl hf he hp
  go_enter Tryz.func50,Tryz.ntmps50
  go_wp2_with (go_at_call 124;refine HPU.out.mono ?_;rintro e w0 ⟨rfl,h1,h2⟩;have HJ:=Lib.hid h1;have HT:=Lib.hid h2;clear h1 h2)
  go_ret
  exact⟨by rw[HP.out];rfl,⟨_,_,_,by rw[HP.out];exact HJ.out⟩,HT.out⟩
end
attribute [local go_sem] Oper.semAt_some
def Jnl.chk (J:Jnl) (k:Int) (b:List Int):Jnl:={ J with at_:=k,state:=b,entries:=[] }
def Jnl.cp (J:Jnl) (b:List Int):Jnl × Int:=
 if (J.put 67 b).2.2≠0 then ((J.put 67 b).1,(J.put 67 b).2.2) else ((J.put 67 b).1.chk (J.put 67 b).2.1 b).clr
def CpJ (own:Nat→Prop) (W:World) (jb st db:Nat) (J:Jnl) (b:List Int) (e:Ending) (w':World):Prop:=
 e = .returned (.int .i64 (J.cp b).2)∧(∃sv ev es jk,JAt own w' jb st db sv ev es jk (J.cp b).1)∧Turn (fun k=>¬own k) W w'
def chkW (w:World) (jb:Nat) (k:Int) (x:Value):World:=((w.setCell ⟨jb,1,none⟩ (.int .i64 k)).setCell ⟨jb,2,none⟩ x).setCell ⟨jb,3,none⟩ (.slice none 0 0)
section
variable {own : Nat → Prop} {W w1 : World} {jb st db : Nat} {sv ev x : Value} {es : List SlM} {jk : Nat → Prop} {J : Jnl} {b : List Int} {k : Int}
theorem JAt.check (h:JAt own W jb st db sv ev es jk J) (hg1:W.grownBy w1 none) (hx:RowP (fun k=>W.heap.size≤k∧k<w1.heap.size) w1 x (bytesV b)) :
  JAt own (chkW w1 jb k x) jb st db x (.slice none 0 0) [] (fun k=>jk k∨(W.heap.size≤k∧k<w1.heap.size)) (J.chk k b)∧Turn (fun k=>¬own k) W (chkW w1 jb k x):=by
 have hjl:=h.jlt h.jjb
 have z1:=hg1.size
 have hs1:=grown_set w1 jb 1 (.int .i64 k)
 have hs2:=grown_set (w1.setCell ⟨jb,1,none⟩ (.int .i64 k)) jb 2 x
 have hs3:=grown_set ((w1.setCell ⟨jb,1,none⟩ (.int .i64 k)).setCell ⟨jb,2,none⟩ x) jb 3 (.slice none 0 0)
 have hs:=(hs1.trans hs2).trans hs3
 have hz:(chkW w1 jb k x).heap.size=w1.heap.size:=by simp[chkW,World.setCell]
 have hb1:w1.heap[jb]? = W.heap[jb]?:=hg1.block jb hjl (by simp)
 have h4:∀i,i<w1.heap.size→i≠jb→(chkW w1 jb k x).heap[i]? = w1.heap[i]?:=fun i hi e=>hs.block i hi (fun e2=>e (by injection e2))
 have ht:Turn (fun k=>own k∨jk k) W (chkW w1 jb k x):=⟨hs.os.trans hg1.os,hs.tape.trans hg1.tape,hs.output.trans hg1.output,by omega,fun i hi hn=>by
  have e1:i≠jb:=fun e=>hn (Or.inr (by rw[e];exact h.jjb))
  exact(h4 i (by omega) e1).trans (hg1.block i hi (by simp))⟩
 refine⟨⟨?_,?_,⟨rfl,Or.inl ⟨rfl,rfl⟩⟩,?_,.nil,Or.inl h.jjb,fun g hg=>by simp[Value.ownBlock] at hg,?_⟩,?_⟩
 ·simp only[chkW,World.setCell,Array.getElem?_modify,hb1,h.box,if_true,Option.map_some]
  rfl
 ·exact h.sr.othJ ht (fun k hk=>by
   rcases hk with e|e|e
   ·exact Or.inl (Or.inl e)
   ·exact Or.inl (Or.inr e)
   ·exact Or.inr e.1) (fun k hk=>by
   rcases hk with e|e|e
   ·have:=h.olt e;omega
   ·have:=h.jlt e;omega
   ·omega)
 ·refine(hx.turn fun i hi=>h4 i hi.2 (by omega)).mono fun i hi=>⟨Or.inr hi,by omega,by simp[Value.ownBlock]⟩
 ·intro i hi e
  rcases e with e|e
  ·exact h.ap i hi e
  ·have:=h.olt hi;omega
 ·refine⟨ht.os,ht.tape,ht.output,ht.size,fun i hi hn=>?_⟩
  have hown:own i:=Classical.byContradiction hn
  exact(h4 i (by omega) (fun e=>h.ap i hown (by rw[e];exact h.jjb))).trans (hg1.block i hi (by simp))
theorem cp_no {J1:Jnl} {r1 r2:Int} (h:J.put 67 b=(J1,r1,r2)) (hr:r2≠0):J.cp b=(J1,r2):=by unfold Jnl.cp;rw[h];simp only;rw[if_pos hr]
theorem cp_ok {J1:Jnl} {r1:Int} (h:J.put 67 b=(J1,r1,0)):J.cp b=(J1.chk r1 b).clr:=by unfold Jnl.cp;rw[h];simp
set_option maxHeartbeats 4000000 in
set_option maxRecDepth 100000 in
theorem jcheckpoint (h:JAt own W jb st db sv ev es jk J) {v:Value} (hv:RowP own W v (bytesV b)) (hbb:BL b) (hl:b.length≤10000000) (hf:J.S.d.late.length+600<1000000)
  (hk:∀r∈(J.put 67 b).1.S.recs,1≤r.1∧r.1≤4611686018427387904) (hs:(J.put 67 b).1.S.keys.Pairwise (·< ·)) (hl2:(J.put 67 b).1.S.recs.length≤1000) (hf2:(J.put 67 b).1.S.d.late.length+1000<1000000) :
  Calls Tryz.prog 53 #[.pointer (some ⟨jb,0,none⟩),v] W (CpJ own W jb st db J b):=by
 have hpu:=jput h hv (k:=67) ⟨by decide,by decide⟩ hbb hl hf
 have hvt:∀w',Turn (fun k=>¬own k) W w'→RowP own w' v (bytesV b):=fun w' ht=>hv.turn fun k hk=>ht.block k (h.olt hk) (fun e=>e hk)
 have hnil:v = .slice none 0 0→b = []:=fun e=>by
  obtain⟨p,c,e1,_,_,h2⟩:=hv.ex
  rcases h2 with h2|⟨a,h2,_⟩
  ·simpa[bytesV] using h2
  ·rw[e] at e1;injection e1 with e1;rw[h2] at e1;cases e1
 obtain⟨J1,r1,r2,hp⟩:∃J1 r1 r2,J.put 67 b=(J1,r1,r2):=⟨_,_,_,rfl⟩
 have HPU:Hid (Calls Tryz.prog 124 #[.pointer (some ⟨jb,0,none⟩),.int .u8 67,v] W fun e w'=>e = .returned (.tuple #[.int .i64 r1,.int .i64 r2])∧JAt own w' jb st db sv ev es jk J1∧Turn (fun k=>¬own k) W w'):=Lib.hid (by
  unfold PutJ at hpu
  rw[hp] at hpu
  exact hpu)
 rw[hp] at hk hs hl2 hf2
 obtain⟨p,cap,rfl,-,-,-⟩:=hv.ex
 rw[bytesV_len] at hvt hnil HPU ⊢
 have HVT:=Lib.hid hvt
 have HNIL:=Lib.hid hnil
 have HL:=Lib.hid hl
 have HCL:Hid ((∀r∈J1.S.recs,1≤r.1∧r.1≤4611686018427387904)∧J1.S.keys.Pairwise (·< ·)∧J1.S.recs.length≤1000∧J1.S.d.late.length+1000<1000000):=Lib.hid ⟨hk,hs,hl2,hf2⟩
 by_cases hr:r2=0
 ·subst hr
  have HP:=Lib.hid (cp_ok hp)
  clear h hv hpu hvt hnil hbb hl hf hp hk hs hl2 hf2
  go_enter Tryz.func53,Tryz.ntmps53
  go_upto_region 4 with (go_at_call 124;refine HPU.out.mono ?_;rintro e w0 ⟨rfl,h1,h2⟩;have HJ:=Lib.hid h1;have HT:=Lib.hid h2;clear h1 h2)
  go_upto_region 5 with (go_at_call 97;refine(clone_any (W:=w0) (HVT.out w0 HT.out).raw (by have:=HL.out;omega) HNIL.out).mono ?_;rintro e w1 ⟨x,rfl,hx,hg1⟩;have hxr:=NewRow.rowP (W:=w0) hx (by have:=HL.out;omega);obtain⟨px,cx,rfl,-,-,-⟩:=hxr.ex;rw[bytesV_len] at hxr ⊢;have HXR:=Lib.hid hxr;have HG1:=Lib.hid hg1;have HC1:=Lib.hid (HJ.out.grown hg1);obtain⟨c0,c1,c2,c3,c4,cf⟩:=HC1.out.cells;clear hx hg1 hxr)
  have HE:=Lib.hid (JAt.check (k:=r1) HJ.out HG1.out HXR.out)
  have HCC:=Lib.hid (jclear HE.out.1 HCL.out.1 HCL.out.2.1 HCL.out.2.2.1 HCL.out.2.2.2)
  unfold chkW at HE HCC
  clear c0 c1 c2 c3 c4 cf
  generalize ((w1.setCell ⟨jb,1,none⟩ (.int .i64 r1)).setCell ⟨jb,2,none⟩ (.slice px b.length cx)).setCell ⟨jb,3,none⟩ (.slice none 0 0)=w4 at *
  go_wp2_with (go_at_call 123;refine HCC.out.mono ?_;rintro e w5 ⟨rfl,h6,h7⟩;have H6:=Lib.hid h6;have H7:=Lib.hid h7;clear h6 h7)
  go_ret
  exact⟨by rw[HP.out];rfl,⟨_,_,_,_,by rw[HP.out];exact H6.out⟩,HT.out.trans (HE.out.2.trans H7.out)⟩
 ·have HP:=Lib.hid (cp_no hp hr)
  have hb:(r2 != 0)=true:=by simp[hr]
  clear h hv hpu hvt hnil hbb hl hf hp hk hs hl2 hf2
  go_enter Tryz.func53,Tryz.ntmps53
  go_wp2_with (go_at_call 124;refine HPU.out.mono ?_;rintro e w0 ⟨rfl,h1,h2⟩;have HJ:=Lib.hid h1;have HT:=Lib.hid h2;clear h1 h2)
  go_ret
  exact⟨by rw[HP.out];rfl,⟨_,_,_,_,by rw[HP.out];exact HJ.out⟩,HT.out⟩
end
end Go.Proofs.YtbcbhlfjgobejaaGreat
