/- JournalKeeps: what stands between two calls, in memory. Conditions: as the theorems say. works() of chapter 21: the walk. Conditions: none. SlotsKeeps: what stands between two calls, in memory. Conditions: as the theorems say. -/
import Derived.Test.YtbcbhlfjgobejaaGreatD38
import Derived.Test.YtbcbhlfjgobejaaGreatD37
import Derived.Test.YtbcbhlfjgobejaaGreatD29
set_option linter.unusedSimpArgs false
set_option linter.unusedVariables false
namespace Go.Proofs.YtbcbhlfjgobejaaGreat
open Go.RowKit Go.Sf Go.Shelf
def hasC (V:JV) (a:Value):Array Value:=#[.string (ofB (hsS V)),.bool (hsB V),a]
structure HB (W:World) (own:Nat→Prop) (nb:Nat) (V:JV) (a:Value) (k:Nat) (w:World):Prop where
 box:w.heap[nb]? = some (.cells (hasC V a) 85 (0,0))
 nbo:own nb∧W.heap.size≤nb
 row:TRow w a V.entries
 rowo:∀g,a.ownBlock=some g→own g∧W.heap.size≤g
 ok:VOk V k
structure JMem (W:World) (own:Nat→Prop) (jb db nb:Nat) (S:Sto) (V:JV) (all:List (Int × List Int)) (blk:Int→List Nat) (a:Value) (k:Nat) (w:World):Prop where
 jr:JR W own jb db (V.j S) w
 ji:JI S V all blk
 next:S.next≤(k:Int)+1
 n:S.d.n≤4096
 hb:HB W own nb V a k w
def JLoop (W:World) (m db nb:Nat) (s e i:Value) (wr:World):Prop:=∃(own:Nat→Prop) (jb:Nat) (S:Sto) (V:JV) (all:List (Int × List Int)) (blk:Int→List Nat) (a:Value) (k:Nat),k≤m∧i = .int .i64 (k:Int)∧e = .int .i64 0∧s = .pointer (some ⟨jb,0,none⟩)∧JMem W own jb db nb S V all blk a k wr
section
variable {W w w' : World} {own own' : Nat → Prop} {jb db nb tb xb : Nat} {S : Sto} {V X : JV} {all : List (Int × List Int)} {blk : Int → List Nat} {a nv : Value} {k : Nat} {x : CallM}
theorem heap_lt {w:World} {b:Nat} {o:Obj} (h:w.heap[b]? = some o):b<w.heap.size:=(Array.getElem?_eq_some_iff.1 h).1
theorem HB.turn (h:HB W own nb V a k w) (ht:Turn (fun k=>¬own k) w w'):HB W own nb V a k w':=
 ⟨(ht.block nb (heap_lt h.box) (fun e=>e h.nbo.1)).trans h.box,h.nbo,SRow.same h.row fun g hg=>ht.block g (SRow.lt h.row hg) (fun e=>e (h.rowo g hg).1),h.rowo,h.ok⟩
theorem HB.grown (h:HB W own nb V a k w) (hg:w.grownBy w' none):HB W own nb V a k w':=h.turn (turn_grJ hg)
theorem HB.mono (h:HB W own nb V a k w) (ho:∀q,own q→own' q):HB W own' nb V a k w:=⟨h.box,⟨ho _ h.nbo.1,h.nbo.2⟩,h.row,fun g hg=>⟨ho g (h.rowo g hg).1,(h.rowo g hg).2⟩,h.ok⟩
theorem HB.up (h:HB W own nb V a k w):HB W own nb V a (k+1) w:=⟨h.box,h.nbo,h.row,h.rowo,h.ok.up⟩
theorem HB.alike (h:HB W own nb V a k w) (hs:SameV X V) (hx:VOk X k):HB W own nb X a k w:=
 ⟨by
  unfold hasC
  rw[hs.1,hs.2.1]
  exact h.box,h.nbo,by rw[hs.2.2];exact h.row,h.rowo,hx⟩
theorem HB.poke {r:Nat} (h:HB W own nb V a k w) (hg:w.grownBy w' (some r)) (h1:r≠nb) (h2:a.ownBlock≠some r):HB W own nb V a k w':=
 ⟨(hg.block nb (heap_lt h.box) (fun e=>h1 (Option.some.inj e).symm)).trans h.box,h.nbo,SRow.grown h.row hg (fun g hg2 e=>h2 (by rw[hg2];exact e.symm)),h.rowo,h.ok⟩
theorem JMem.grown (h:JMem W own jb db nb S V all blk a k w) (hg:w.grownBy w' none):JMem W own jb db nb S V all blk a k w':=⟨h.jr.grown hg,h.ji,h.next,h.n,h.hb.grown hg⟩
theorem JMem.failed (h:JMem W own jb db nb S V all blk a k w) (n:Int) (hk:JR W own jb db { (V.j S) with S:={ (V.j S).S with d:=(V.j S).S.d.failed n } } w') (ht:Turn (fun k=>¬own k) w w'):JMem W own jb db nb { S with d:=S.d.failed n } V all blk a k w':=
 ⟨hk,⟨h.ji.inv.failed n,h.ji.view,h.ji.top⟩,h.next,h.n,h.hb.turn ht⟩
structure JB (W:World) (own:Nat→Prop) (nb tb xb:Nat) (V X:JV) (a nv:Value) (x:CallM) (k:Nat) (w:World):Prop where
 v:HB W own nb V a k w
 t:HB W own tb X nv k w
 c:w.heap[xb]? = some (.cells (callCells x).toArray 86 (0,0))
 co:own xb∧W.heap.size≤xb
 ne:nb≠tb
 ap:∀g,nv.ownBlock=some g→a.ownBlock≠some g
theorem JB.turn (h:JB W own nb tb xb V X a nv x k w) (ht:Turn (fun k=>¬own k) w w'):JB W own nb tb xb V X a nv x k w':=⟨h.v.turn ht,h.t.turn ht,(ht.block xb (heap_lt h.c) (fun e=>e h.co.1)).trans h.c,h.co,h.ne,h.ap⟩
theorem JB.grown (h:JB W own nb tb xb V X a nv x k w) (hg:w.grownBy w' none):JB W own nb tb xb V X a nv x k w':=h.turn (turn_grJ hg)
theorem JB.mono (h:JB W own nb tb xb V X a nv x k w) (ho:∀q,own q→own' q):JB W own' nb tb xb V X a nv x k w:=⟨h.v.mono ho,h.t.mono ho,h.c,⟨ho _ h.co.1,h.co.2⟩,h.ne,h.ap⟩
theorem same_one {z:Int} (hz:z≠0) (b:List Int):SameV ⟨z,b,[]⟩ ⟨1,b,[]⟩:=⟨by unfold hsS;rw[if_neg hz];rfl,by unfold hsB;simp[hz],rfl⟩
theorem box3 {w:World} {b:Nat} {u0 u1 u2:Value} {T:TypeId} (h:w.heap[b]? = some (.cells #[u0,u1,u2] T (0,0))):w.cell? ⟨b,0,none⟩=some u0∧w.cell? ⟨b,1,none⟩=some u1∧w.cell? ⟨b,2,none⟩=some u2∧∀i,w.frozen? ⟨b,i,none⟩=false:=
 ⟨(cell_block h 0).trans rfl,(cell_block h 1).trans rfl,(cell_block h 2).trans rfl,fun i=>by simp[World.frozen?,h]⟩
def hasW (w:World) (b:Nat) (u0 u1 u2:Value):World:=((w.setCell ⟨b,0,none⟩ u0).setCell ⟨b,1,none⟩ u1).setCell ⟨b,2,none⟩ u2
theorem hasW_grown (w:World) (b:Nat) (u0 u1 u2:Value):w.grownBy (hasW w b u0 u1 u2) (some b):=
 ((grown_set w b 0 u0).trans (grown_set _ b 1 u1)).trans (grown_set _ b 2 u2)
theorem hasW_box {c:Array Value} {T:TypeId} {z:Nat × Nat} (h:w.heap[nb]? = some (.cells c T z)) (hc:c.size=3) (u0 u1 u2:Value):(hasW w nb u0 u1 u2).heap[nb]? = some (.cells #[u0,u1,u2] T z):=by
 obtain⟨l⟩:=c
 match l,hc with
 | [c0,c1,c2],_=>
  simp only[hasW,World.setCell,Array.getElem?_modify,h,if_true,Option.map_some]
  rfl
theorem JB.take (h:JB W own nb tb xb V X a nv x k w):HB W own nb X nv k (hasW w nb (.string (ofB (hsS X))) (.bool (hsB X)) nv)∧Turn own w (hasW w nb (.string (ofB (hsS X))) (.bool (hsB X)) nv)∧w.grownBy (hasW w nb (.string (ofB (hsS X))) (.bool (hsB X)) nv) (some nb):=by
 have hg:=hasW_grown w nb (.string (ofB (hsS X))) (.bool (hsB X)) nv
 have hne:nv.ownBlock≠some nb:=own_ne h.t.row h.v.box (by decide)
 refine⟨⟨hasW_box h.v.box rfl _ _ _,h.v.nbo,SRow.grown h.t.row hg (fun g hg2 e=>hne (by rw[hg2];exact e.symm)),h.t.rowo,h.t.ok⟩,⟨hg.os,hg.tape,hg.output,hg.size,fun q hq hn=>hg.block q hq (fun e=>hn (by rw[Option.some.inj e];exact h.v.nbo.1))⟩,hg⟩
theorem JR.keep {J:Jnl} (h:JR W own jb db J w) (hb:own nb∧W.heap.size≤nb) (hg:w.grownBy w' (some nb)) (hz:w'.heap.size=w.heap.size):JR W own jb db J w':=by
 refine h.oth ⟨hg.os,hg.tape,hg.output,hg.size,fun q hq hn=>hg.block q hq (fun e=>hn (by rw[Option.some.inj e];exact hb.1))⟩ ?_ (fun q hq=>hq) (fun q hq=>Or.inl hq) (fun q hq=>by rw[hz];exact h.lt hq)
 exact⟨hg.os.trans h.gr.os,hg.tape.trans h.gr.tape,hg.output.trans h.gr.output,by rw[hz];exact h.gr.size,fun q hq _=>(hg.block q (Nat.lt_of_lt_of_le hq h.gr.size) (fun e=>by have:=Option.some.inj e;omega)).trans (h.gr.block q hq (by simp))⟩
theorem hasW_size (w:World) (b:Nat) (u0 u1 u2:Value):(hasW w b u0 u1 u2).heap.size=w.heap.size:=by simp[hasW,World.setCell]
theorem box_ne {w:World} {b1 b2:Nat} {c1 c2:Array Value} {T1 T2:TypeId} {z1 z2:Nat × Nat} (h1:w.heap[b1]? = some (.cells c1 T1 z1)) (h2:w.heap[b2]? = some (.cells c2 T2 z2)) (hn:T1≠T2):b1≠b2:=fun e=>by
 subst e
 rw[h1] at h2
 injection h2 with h2
 injection h2 with _ h2
 exact hn h2
theorem JB.set {J:Jnl} {X':JV} {nv':Value} (h:JB W own nb tb xb V X a nv x k w) (hj:JR W own jb db J w) (hr:TRow w nv' X'.entries) (ho:∀g,nv'.ownBlock=some g→(own g∧W.heap.size≤g)∧a.ownBlock≠some g) (hk:VOk X' k) :
  JB W own nb tb xb V X' a nv' x k (hasW w tb (.string (ofB (hsS X'))) (.bool (hsB X')) nv')∧JR W own jb db J (hasW w tb (.string (ofB (hsS X'))) (.bool (hsB X')) nv'):=by
 have hg:=hasW_grown w tb (.string (ofB (hsS X'))) (.bool (hsB X')) nv'
 have hne:nv'.ownBlock≠some tb:=own_ne hr h.t.box (by decide)
 have hnea:a.ownBlock≠some tb:=own_ne h.v.row h.t.box (by decide)
 have hxt:xb≠tb:=box_ne h.c h.t.box (by decide)
 refine⟨⟨h.v.poke hg (fun e=>h.ne e.symm) hnea,⟨hasW_box h.t.box rfl _ _ _,h.t.nbo,SRow.grown hr hg (fun g hg2 e=>hne (by rw[hg2];exact e.symm)),fun g hg2=>(ho g hg2).1,hk⟩,(hg.block xb (heap_lt h.c) (fun e=>hxt (Option.some.inj e))).trans h.c,h.co,h.ne,fun g hg2=>(ho g hg2).2⟩,hj.keep h.t.nbo hg (hasW_size _ _ _ _ _)⟩
theorem set2_has {c:Array Value} {T:TypeId} {z:Nat × Nat} {u0 u1 u2 u:Value} (h:w.heap[tb]? = some (.cells #[u0,u1,u2] T z)):(w.setCell ⟨tb,2,none⟩ u).heap[tb]? = some (.cells #[u0,u1,u] T z):=by
 simp only[World.setCell,Array.getElem?_modify,h,if_true,Option.map_some]
 rfl
theorem JB.row {J:Jnl} (h:JB W own nb tb xb V X a nv x k w) (hj:JR W own jb db J w) {w1:World} {nv':Value} {es:List (List Int)} (ha:Apped w 9 1 strE nv es nv' w1) (hk:VOk { X with entries:=es } k) :
  ∃own':Nat→Prop,(∀q,own q→own' q)∧JB W own' nb tb xb V { X with entries:=es } a nv' x k (w1.setCell ⟨tb,2,none⟩ nv')∧JR W own' jb db J (w1.setCell ⟨tb,2,none⟩ nv'):=by
 obtain⟨hr,hg,ho⟩:=ha
 have hz:=hg.size
 have hWz:=hj.gr.size
 have hnv:∀g,nv.ownBlock=some g→own g∧W.heap.size≤g:=h.t.rowo
 have hj1:=hj.poke hnv hg
 have hnt:nv.ownBlock≠some tb:=own_ne h.t.row h.t.box (by decide)
 have hnn:nv.ownBlock≠some nb:=own_ne h.t.row h.v.box (by decide)
 have hnx:nv.ownBlock≠some xb:=own_ne h.t.row h.c (by decide)
 have hbt:=(hg.block tb (heap_lt h.t.box) (fun e=>hnt e.symm)).trans h.t.box
 have hbn:=(hg.block nb (heap_lt h.v.box) (fun e=>hnn e.symm)).trans h.v.box
 have hbx:=(hg.block xb (heap_lt h.c) (fun e=>hnx e.symm)).trans h.c
 have harow:TRow w1 a V.entries:=SRow.grown h.v.row hg (fun g hg2 e=>h.ap g e hg2)
 have hnv':∀g,nv'.ownBlock=some g→((own g∨(w.heap.size≤g∧g<w1.heap.size))∧W.heap.size≤g)∧a.ownBlock≠some g:=fun g hg2=>by
  have hlt:=SRow.lt hr hg2
  rcases ho with e|e
  ·rw[e] at hg2
   exact⟨⟨Or.inl (hnv g hg2).1,(hnv g hg2).2⟩,h.ap g hg2⟩
  ·have e2:=e.symm.trans hg2
   injection e2 with e2
   refine⟨⟨Or.inr ⟨by omega,hlt⟩,by omega⟩,fun e3=>?_⟩
   have:=SRow.lt h.v.row e3
   omega
 have hs:=grown_set w1 tb 2 nv'
 have hsz:(w1.setCell ⟨tb,2,none⟩ nv').heap.size=w1.heap.size:=by simp[World.setCell]
 have hnt':nv'.ownBlock≠some tb:=own_ne hr hbt (by decide)
 have hat:a.ownBlock≠some tb:=own_ne harow hbt (by decide)
 have hxt:xb≠tb:=box_ne h.c h.t.box (by decide)
 refine⟨_,fun q hq=>Or.inl hq,⟨⟨?_,⟨Or.inl h.v.nbo.1,h.v.nbo.2⟩,?_,fun g hg2=>⟨Or.inl (h.v.rowo g hg2).1,(h.v.rowo g hg2).2⟩,h.v.ok⟩,⟨?_,⟨Or.inl h.t.nbo.1,h.t.nbo.2⟩,?_,fun g hg2=>(hnv' g hg2).1,hk⟩,?_,⟨Or.inl h.co.1,h.co.2⟩,h.ne,fun g hg2=>(hnv' g hg2).2⟩,hj1.keep ⟨Or.inl h.t.nbo.1,h.t.nbo.2⟩ hs hsz⟩
 ·exact(hs.block nb (heap_lt hbn) (fun e=>h.ne (Option.some.inj e))).trans hbn
 ·exact SRow.grown harow hs (fun g hg2 e=>hat (by rw[hg2];exact e.symm))
 ·exact set2_has (c:=#[]) hbt
 ·exact SRow.grown hr hs (fun g hg2 e=>hnt' (by rw[hg2];exact e.symm))
 ·exact(hs.block xb (heap_lt hbx) (fun e=>hxt (Option.some.inj e))).trans hbx
theorem JB.row_cell (h:JB W own nb tb xb V X a nv x k w) {w1:World} {nv':Value} {es:List (List Int)} (ha:Apped w 9 1 strE nv es nv' w1):w1.cell? ⟨tb,2,none⟩=some nv∧(∀i,w1.frozen? ⟨tb,i,none⟩=false)∧w1.heap[xb]? = some (.cells (callCells x).toArray 86 (0,0)):=by
 have hnt:nv.ownBlock≠some tb:=own_ne h.t.row h.t.box (by decide)
 have hnx:nv.ownBlock≠some xb:=own_ne h.t.row h.c (by decide)
 obtain⟨_,_,h2,h3⟩:=box3 ((ha.2.1.block tb (heap_lt h.t.box) (fun e=>hnt e.symm)).trans h.t.box)
 exact⟨h2,h3,(ha.2.1.block xb (heap_lt h.c) (fun e=>hnx e.symm)).trans h.c⟩
theorem one_str (X:World) (b:List Int):YRow (X.alloc (.cells #[.string (ofB b)] 9)) strE (.slice (some ⟨X.heap.size,0,none⟩) 1 1) [b]:=by
 refine⟨_,1,rfl,Or.inr ⟨_,rfl,fun j u hu=>?_⟩⟩
 rw[addr_at]
 exact(cell_block (heap_alloc_new X _) j).trans (by simpa[strE] using hu)
theorem JB.start (h:JMem W own jb db nb S V all blk a k w) (hw:w'=(w.alloc (.cells (callCells x).toArray 86)).alloc (.cells (hasC V0 (.slice none 0 0)) 85)) :
  JB W (fun q=>own q∨(w.heap.size≤q∧q<w'.heap.size)) nb (w.heap.size+1) w.heap.size V V0 a (.slice none 0 0) x (k+1) w'∧JR W (fun q=>own q∨(w.heap.size≤q∧q<w'.heap.size)) jb db (V.j S) w':=by
 have h1:=World.grownBy_alloc w (.cells (callCells x).toArray 86) none
 have h2:=World.grownBy_alloc (w.alloc (.cells (callCells x).toArray 86)) (.cells (hasC V0 (.slice none 0 0)) 85) none
 have hg:=h1.trans h2
 rw[←hw] at hg
 have hz1:(w.alloc (.cells (callCells x).toArray 86)).heap.size=w.heap.size+1:=by simp
 have hz:w'.heap.size=w.heap.size+2:=by rw[hw];simp
 have hWz:=h.jr.gr.size
 have hb1:w'.heap[w.heap.size]? = some (.cells (callCells x).toArray 86 (0,0)):=by
  rw[hw]
  exact(h2.block w.heap.size (by omega) (by simp)).trans (heap_alloc_new w _)
 have hb2:w'.heap[w.heap.size+1]? = some (.cells (hasC V0 (.slice none 0 0)) 85 (0,0)):=by
  rw[hw,←hz1]
  exact heap_alloc_new _ _
 have hnl:=heap_lt h.hb.box
 refine⟨⟨((h.hb.grown hg).mono fun q hq=>Or.inl hq).up,⟨hb2,⟨Or.inr ⟨by omega,by omega⟩,by omega⟩,trow_nil _,fun g hg2=>by simp[Value.ownBlock] at hg2,⟨Nat.zero_le _,by simp[V0],by decide,by intro b hb;simp[V0] at hb⟩⟩,hb1,⟨Or.inr ⟨Nat.le_refl _,by omega⟩,by omega⟩,by omega,fun g hg2=>by simp[Value.ownBlock] at hg2⟩,h.jr.more hg⟩
def JMid (W:World) (jb db nb tb xb:Nat) (V:JV) (a:Value) (x:CallM) (k:Nat) (f:Value) (w:World):Prop:=∃(own:Nat→Prop) (X:JV) (nv:Value),JB W own nb tb xb V X a nv x (k+1) w∧
 ((f = .int .i64 181∧∃S all blk,JR W own jb db (V.j S) w∧JI S V all blk∧S.next≤(k:Int)+2∧S.d.n≤4096)∨
 (f = .int .i64 0∧∃S all blk,JR W own jb db (X.j S) w∧JI S X all blk∧S.next≤(k:Int)+2∧S.d.n≤4096)∨
 (f = .int .i64 180∧∃d n,DR W own db d w∧d.off=true∧n≤4096∧DG d n (fun al=>jv al V0=some V∨jv al V0=some X) ((k:Int)+2)))
theorem JB.app (h:JB W own nb tb xb V { V with entries:=V.entries ++ [bytesQ x] } a nv x (k+1) w) (hj:JR W own jb db (V.j S) w) (hi:JI S V all blk) (hn:S.next≤(k:Int)+1) (hk:k≤60) (h4:S.d.n≤4096) {v:Value} (hv:RowP own w v (bytesV (bytesQ x))) (hb:BL (bytesQ x)) :
  Calls Tryz.prog 50 #[.pointer (some ⟨jb,0,none⟩),v] w fun e w'=>∃f,e = .returned f∧JMid W jb db nb tb xb V a x k f w':=by
 have hl:=bytesQ_len x
 refine(hj.app hv hb (by omega) (by show S.d.late.length+600<1000000;rw[hi.inv.late];show 0+600<1000000;omega) (by have:=h.v.ok.few;show V.entries.length<1000000;omega)).mono ?_
 rintro e w' ⟨rfl,h1,ht⟩
 refine⟨_,rfl,own,_,nv,h.turn ht,?_⟩
 rcases japp_keeps hi (by omega) (show(bytesQ x).length≤131071 by omega) with e|⟨S',blk',e,g1,g2,g3⟩|⟨J',e,g1,g2⟩
 ·rw[e] at h1 ⊢
  exact Or.inl ⟨rfl,S,all,blk,h1,hi,by omega,h4⟩
 ·rw[e] at h1 ⊢
  exact Or.inr (Or.inl ⟨rfl,S',_,blk',h1,g1,by omega,by omega⟩)
 ·rw[e] at h1 ⊢
  exact Or.inr (Or.inr ⟨rfl,_,S.d.n,h1.dr,g1,h4,g2.mono (fun al h=>h) (by omega)⟩)
theorem JB.cp {X:JV} (h:JB W own nb tb xb V X a nv x (k+1) w) (hX:∀z,z≠0→SameV ⟨z,bytesQ x,[]⟩ X) (hj:JR W own jb db (V.j S) w) (hi:JI S V all blk) (hn:S.next≤(k:Int)+1) (hk:k≤60) (h4:S.d.n≤4096) {v:Value} (hv:RowP own w v (bytesV (bytesQ x))) (hb:BL (bytesQ x)) :
  Calls Tryz.prog 53 #[.pointer (some ⟨jb,0,none⟩),v] w fun e w'=>∃f,e = .returned f∧JMid W jb db nb tb xb V a x k f w':=by
 have hl:=bytesQ_len x
 refine(hj.cp hv hb (by omega) (by show S.d.late.length+600<1000000;rw[hi.inv.late];show 0+600<1000000;omega) (cp_asks hi (by omega) (by omega))).mono ?_
 rintro e w' ⟨rfl,h1,ht⟩
 have hpos:=hi.inv.good.pos
 have hx:VOk ⟨S.next,bytesQ x,[]⟩ (k+1):=⟨Nat.zero_le _,by simp,hl,hb⟩
 have h2:JB W own nb tb xb V ⟨S.next,bytesQ x,[]⟩ a nv x (k+1) w':=by
  have h3:=h.turn ht
  exact⟨h3.v,h3.t.alike (hX S.next (by omega)) hx,h3.c,h3.co,h3.ne,h3.ap⟩
 refine⟨_,rfl,own,_,nv,h2,?_⟩
 rcases jcp_keeps hi (by omega) (show(bytesQ x).length≤131071 by omega) with e|⟨S',al,blk',e,g1,g2,g3⟩|⟨J',e,g1,g2⟩
 ·rw[e] at h1 ⊢
  exact Or.inl ⟨rfl,S,all,blk,h1,hi,by omega,h4⟩
 ·rw[e] at h1 ⊢
  exact Or.inr (Or.inl ⟨rfl,S',_,blk',h1,g1,by omega,by omega⟩)
 ·rw[e] at h1 ⊢
  exact Or.inr (Or.inr ⟨rfl,_,S.d.n,h1.dr,g1,h4,g2.mono (fun al h=>h) (by omega)⟩)
end
open Go.RowKit Go.Sf
attribute [local go_sem] Oper.semAt_some
theorem kj_free {S:Sto} {N:Nat} {all:List (Int × List Int)} (h:KJ S N all):freeN S.taken+(all.map fun q=>partsN q.2.length).sum=N:=by
 obtain⟨h1,blk,h2⟩:=h
 have hf:=h1.free
 have e:lds S=all.flatMap fun q=>blk q.1:=by
  unfold lds
  rw[h2.recs,List.flatMap_map]
 have e2:∀l:List (Int × List Int),(∀q∈l,(blk q.1).length=partsN q.2.length)→(l.flatMap fun q=>blk q.1).length=(l.map fun q=>partsN q.2.length).sum:=fun l=>by
  induction l with
  | nil=>intro _;rfl
  | cons q t ih=>
   intro hl
   rw[List.flatMap_cons,List.length_append,ih fun p hp=>hl p (List.mem_cons_of_mem _ hp),hl q (List.mem_cons_self ..)]
   simp
 rw[e,e2 all h2.good.bln] at hf
 exact hf
def JQ (W:World) (jb db:Nat) (J:Jnl) (w:World):Prop:=∃own,JR W own jb db J w
section
variable {W w w1 w' : World} {jb db : Nat} {J : Jnl} {S : Sto} {V : JV} {all : List (Int × List Int)} {b : List Int} {N : Nat} {v : Value}
theorem japp_room (h:KJ S N all) (hx:S.next≤1000) (hb:b.length≤131071) (hf:(all.map fun q=>partsN q.2.length).sum+partsN (b.length+1)≤N):∃S',(V.j S).app b=(({ V with entries:=V.entries ++ [b] }:JV).j S',0)∧KJ S' N (all ++ [(S.next,69 :: b)])∧S'.next=S.next+1:=by
 have hk:=kj_free h
 obtain⟨S',fr,e,g1,-,g3,-⟩:=jk_app (J:=V.j S) h rfl (by show S.next≤_;omega) hb (by show _≤freeN S.taken;omega)
 exact⟨S',e,g1,g3⟩
theorem jcp_room (h:KJ S N all) (hx:S.next≤1000) (hb:b.length≤131071) (hf:(all.map fun q=>partsN q.2.length).sum+partsN (b.length+1)≤N):∃S',(V.j S).cp b=((⟨S.next,b,[]⟩:JV).j S',0)∧KJ S' N [(S.next,67 :: b)]∧S'.next=S.next+1:=by
 have hk:=kj_free h
 obtain⟨S',e,g1,g3⟩:=jk_cp (J:=V.j S) h rfl (by show S.next≤_;omega) hb (by show _≤freeN S.taken;omega)
 exact⟨S',e,g1,g3⟩
theorem JQ.app (h:JQ W jb db (V.j S) w) (hk:KJ S N all) (hx:S.next≤1000) (hb:b.length≤131071) (hbb:BL b) (he:V.entries.length<1000) {S':Sto} {V':JV} (hr:(V.j S).app b=(V'.j S',0)) (hg:w.grownBy w1 none) (hv:RowP (fun k=>w.heap.size≤k∧k<w1.heap.size) w1 v (bytesV b)) :
  Calls Tryz.prog 50 #[.pointer (some ⟨jb,0,none⟩),v] w1 fun e w'=>e = .returned (.int .i64 0)∧JQ W jb db (V'.j S') w':=by
 obtain⟨own,h⟩:=h
 obtain⟨blk,hi⟩:=hk.2
 refine((h.more hg).app (hv.mono fun k hk=>Or.inr hk) hbb (by omega) (by show S.d.late.length+600<1000000;rw[hi.late];show 0+600<1000000;omega) (by show V.entries.length<1000000;omega)).mono ?_
 rw[hr]
 rintro e w' ⟨rfl,h1,-⟩
 exact⟨rfl,_,h1⟩
theorem JQ.cp (h:JQ W jb db (V.j S) w) (hk:KJ S N all) (hj:jv all V0=some V) (ht:∀q∈all,V.at_≤q.1) (hx:S.next≤1000) (hb:b.length≤131071) (hbb:BL b) {S':Sto} {V':JV} (hr:(V.j S).cp b=(V'.j S',0)) (hg:w.grownBy w1 none) (hv:RowP (fun k=>w.heap.size≤k∧k<w1.heap.size) w1 v (bytesV b)) :
  Calls Tryz.prog 53 #[.pointer (some ⟨jb,0,none⟩),v] w1 fun e w'=>e = .returned (.int .i64 0)∧JQ W jb db (V'.j S') w':=by
 obtain⟨own,h⟩:=h
 obtain⟨blk,hi⟩:=hk.2
 refine((h.more hg).cp (hv.mono fun k hk=>Or.inr hk) hbb (by omega) (by show S.d.late.length+600<1000000;rw[hi.late];show 0+600<1000000;omega) (cp_asks ⟨hi,hj,ht⟩ hx hb)).mono ?_
 rw[hr]
 rintro e w' ⟨rfl,h1,-⟩
 exact⟨rfl,_,h1⟩
theorem jopen_fresh {n:Int} {W w1:World} {db:Nat} (hn:0≤n∧n≤4096) (hg:W.grownBy w1 none) (hd:∀own:Nat→Prop,(∀k,own k→k<W.heap.size)→DRep own w1 db (Dk.new n)) :
  Calls Tryz.prog 49 #[.pointer (some ⟨db,0,none⟩)] w1 fun e w'=>∃jb S,e = .returned (.tuple #[.pointer (some ⟨jb,0,none⟩),.int .i64 0])∧JR W (fun k=>k<W.heap.size) jb db (V0.j S) w'∧KJ S n.toNat []∧S.next=1∧Steady S.d:=by
 have h:DR W (fun k=>k<W.heap.size) db (Dk.new n) w1:=⟨hd _ fun k hk=>hk,fun k hk=>hk,hg⟩
 have hnn:(Dk.new n).n=n.toNat:=by show(min 4096 (max 0 n)).toNat=_;omega
 have gd:Good crcB (fun i=>scrub crcB (bk (Dk.new n).now i)) (Dk.new n).n [] (fun _=>[]) 1:=good_new _ fun i _=>by show scrub crcB zeroB=_;exact scrub_zero
 refine(h.open_ (V:=V0) (steady_new n) rfl (fun i _=>rfl) (by rw[hnn];omega) (by decide) gd rfl).mono ?_
 rintro e w' ⟨jb,S,al,blk,rfl,h1,h2,h3,h4,h5,-,h6,h7⟩
 obtain rfl:=h7 (by simp)
 rw[hnn] at h6
 exact⟨jb,S,rfl,h1,⟨h6,blk,h2.inv⟩,by have:=h6.n1;omega,h3⟩
theorem JQ.reopen (h:JQ W jb db (V.j S) w) (hk:KJ S N all) (hj:jv all V0=some V) (ht:∀q∈all,V.at_≤q.1) (hx:S.next≤1000) (hN:N≤4096):Calls Tryz.prog 49 #[.pointer (some ⟨db,0,none⟩)] w fun e w'=>∃jb2 own S2,e = .returned (.tuple #[.pointer (some ⟨jb2,0,none⟩),.int .i64 0])∧JR W own jb2 db (V.j S2) w'∧freeN S2.taken=N-(all.map fun q=>partsN q.2.length).sum:=by
 obtain⟨own,h⟩:=h
 obtain⟨blk,hi⟩:=hk.2
 have hn:=hk.1.n
 have g:Good crcB (fun i=>scrub crcB (bk S.d.now i)) S.d.n all blk S.next:=hi.good.same fun i hi2=>scrub_clean (hi.good.clean i hi2)
 refine(h.dr.open_ hk.1.sd hi.late hi.st (by show S.d.n≤_;omega) hx g hj).mono ?_
 rintro e w' ⟨jb2,S2,al,blk2,rfl,h1,h2,-,-,-,-,h6,h7⟩
 obtain rfl:=h7 ht
 have h6:JSt S2 N:=by
  have e:(V.j S).S.d.n=N:=hn
  rw[e] at h6
  exact h6
 have:=kj_free ⟨h6,blk2,h2.inv⟩
 exact⟨jb2,own,S2,rfl,h1,by omega⟩
end
set_option maxRecDepth 100000 in
set_option maxHeartbeats 8000000 in
theorem works21_any (W:World):Calls Tryz.prog 48 #[] W fun e w'=>e = .returned (.bool true)∧W.grownBy w' none:=by
 have HN:=Lib.hid (dnew 9 W)
 have hcv:=fun (w:World) (C:Array Value) (n c:Nat)=>Lib.run_convert_bytes_const (P:=Tryz.prog) w 32 5 C n c Tryz.underlying32 Tryz.underlying5
 go_enter Tryz.func48,Tryz.ntmps48
 go_upto_region 3 with (first
  | (go_at_call 19;refine HN.out.mono ?_;rintro e w1 ⟨db,rfl,hg1,-,hd1⟩;have HOP:=Lib.hid (jopen_fresh (W:=W) (n:=9) (by decide) hg1 hd1);clear hg1 hd1)
  | (go_at_call 49;refine HOP.out.mono ?_;rintro e w2 ⟨jb,S0,rfl,hj,hk,hn,hs⟩;have HJ:=Lib.hid (show JQ W jb db (V0.j S0) w2 from ⟨_,hj⟩);clear hj HOP))
 have p1:partsN 2=1:=rfl
 obtain⟨S1,e1,k1,n1⟩:=japp_room (V:=V0) (b:=[97]) hk (by omega) (by decide) (by decide)
 have n1:S1.next=2:=by omega
 rw[hn] at k1
 obtain⟨S2,e2,k2,n2⟩:=japp_room (V:=⟨0,[],[[97]]⟩) (b:=[98]) k1 (by omega) (by decide) (by decide)
 have n2:S2.next=3:=by omega
 rw[n1] at k2
 obtain⟨S3,e3,k3,n3⟩:=jcp_room (V:=⟨0,[],[[97],[98]]⟩) (b:=[99]) k2 (by omega) (by decide) (by decide)
 have n3:S3.next=4:=by omega
 rw[n2] at k3 e3
 obtain⟨S4,e4,k4,n4⟩:=japp_room (V:=⟨3,[99],[]⟩) (b:=[100]) k3 (by omega) (by decide) (by decide)
 rw[n3] at k4
 have n4:S4.next=5:=by omega
 have hst4:=k4.1.sd
 have HA1:Hid (∀w w1 v,JQ W jb db (V0.j S0) w→w.grownBy w1 none→RowP (fun k=>w.heap.size≤k∧k<w1.heap.size) w1 v (bytesV [97])→Calls Tryz.prog 50 #[.pointer (some ⟨jb,0,none⟩),v] w1 fun e w'=>e = .returned (.int .i64 0)∧JQ W jb db (JV.j ⟨0,[],[[97]]⟩ S1) w'):=Lib.hid fun w w1 v h hg hv=>h.app hk (by omega) (by decide) (by intro b hb;simp at hb;omega) (by decide) e1 hg hv
 have HA2:Hid (∀w w1 v,JQ W jb db (JV.j ⟨0,[],[[97]]⟩ S1) w→w.grownBy w1 none→RowP (fun k=>w.heap.size≤k∧k<w1.heap.size) w1 v (bytesV [98])→Calls Tryz.prog 50 #[.pointer (some ⟨jb,0,none⟩),v] w1 fun e w'=>e = .returned (.int .i64 0)∧JQ W jb db (JV.j ⟨0,[],[[97],[98]]⟩ S2) w'):=Lib.hid fun w w1 v h hg hv=>h.app k1 (by omega) (by decide) (by intro b hb;simp at hb;omega) (by decide) e2 hg hv
 have HA3:Hid (∀w w1 v,JQ W jb db (JV.j ⟨0,[],[[97],[98]]⟩ S2) w→w.grownBy w1 none→RowP (fun k=>w.heap.size≤k∧k<w1.heap.size) w1 v (bytesV [99])→Calls Tryz.prog 53 #[.pointer (some ⟨jb,0,none⟩),v] w1 fun e w'=>e = .returned (.int .i64 0)∧JQ W jb db (JV.j ⟨3,[99],[]⟩ S3) w'):=Lib.hid fun w w1 v h hg hv=>h.cp k2 rfl (by intro q hq;simp at hq;rcases hq with rfl|rfl <;> decide) (by omega) (by decide) (by intro b hb;simp at hb;omega) e3 hg hv
 have HA4:Hid (∀w w1 v,JQ W jb db (JV.j ⟨3,[99],[]⟩ S3) w→w.grownBy w1 none→RowP (fun k=>w.heap.size≤k∧k<w1.heap.size) w1 v (bytesV [100])→Calls Tryz.prog 50 #[.pointer (some ⟨jb,0,none⟩),v] w1 fun e w'=>e = .returned (.int .i64 0)∧JQ W jb db (JV.j ⟨3,[99],[[100]]⟩ S4) w'):=Lib.hid fun w w1 v h hg hv=>h.app k3 (by omega) (by decide) (by intro b hb;simp at hb;omega) (by decide) e4 hg hv
 have HK4:=Lib.hid k4
 clear hk hn hs k1 k2 k3 k4 e1 e2 e3 e4 n1 n2 n3 p1
 go_upto_region 5 with (first
  | (go_at_call 50;refine(HA4.out _ _ _ HJ3.out (World.grownBy_alloc _ _ none) (rowP_alloc2 (b:=[100]) (cap:=1) _ (by decide) (by decide) _ (Nat.le_refl _))).mono ?_;rintro e w6 ⟨rfl,hj⟩;have HJ4:=Lib.hid hj;clear hj)
  | (go_at_call 53;refine(HA3.out _ _ _ HJ2.out (World.grownBy_alloc _ _ none) (rowP_alloc2 (b:=[99]) (cap:=1) _ (by decide) (by decide) _ (Nat.le_refl _))).mono ?_;rintro e w5 ⟨rfl,hj⟩;have HJ3:=Lib.hid hj;clear hj)
  | (go_at_call 50;refine(HA2.out _ _ _ HJ1.out (World.grownBy_alloc _ _ none) (rowP_alloc2 (b:=[98]) (cap:=1) _ (by decide) (by decide) _ (Nat.le_refl _))).mono ?_;rintro e w4 ⟨rfl,hj⟩;have HJ2:=Lib.hid hj;clear hj)
  | (go_at_call 50;refine(HA1.out _ _ _ HJ.out (World.grownBy_alloc _ _ none) (rowP_alloc2 (b:=[97]) (cap:=1) _ (by decide) (by decide) _ (Nat.le_refl _))).mono ?_;rintro e w3 ⟨rfl,hj⟩;have HJ1:=Lib.hid hj;clear hj))
 have HRO:=Lib.hid (HJ4.out.reopen HK4.out rfl (by intro q hq;simp at hq;rcases hq with rfl|rfl <;> decide) (by omega) (by decide))
 have hz1:ofB [99]=⟨#[99]⟩:=rfl
 have hz2:ofB [100]=⟨#[100]⟩:=rfl
 clear HJ1 HJ2 HJ3 HA1 HA2 HA3 HA4 hst4 n4
 go_upto_region 8 with (first
  | (go_at_call 49;refine HRO.out.mono ?_;rintro e w7 ⟨jb2,own,S5,rfl,hj,hf5⟩;have HJ5:=Lib.hid hj;have HF5:=Lib.hid hf5;clear hj hf5)
  | (go_at_call 54;refine(HJ5.out.state1 (by decide) (by decide)).mono ?_;rintro e w8 ⟨ps,cs,rfl,hg8,hr8⟩;have HG8:=Lib.hid hg8;have HR8:=Lib.hid hr8;clear hg8 hr8)
  | (go_at_call 52;refine((HJ5.out.grown HG8.out).ents1 (by intro b hb;simp at hb;subst hb;decide) (by decide)).mono ?_;rintro e w9 ⟨pe,ce,rfl,hg9,he9⟩;have HG9:=Lib.hid hg9;have HE9:=Lib.hid he9;clear hg9 he9))
 have hcs:(convert 32 9 (.slice ps 1 cs)).run Tryz.prog w9 = .ok (.string (ofB [99])) w9:=conv_raw (HR8.out.grown HG9.out (by simp))
 obtain⟨ge,qe,de,rfl,c9,r9⟩:=HE9.out 0 (by decide)
 have hce:(convert 32 9 (.slice qe 1 de)).run Tryz.prog w9 = .ok (.string (ofB [100])) w9:=conv_raw r9
 have c9:w9.cell? ⟨ge,0,none⟩=some (.slice qe 1 de):=c9
 have HFR:=Lib.hid (((HJ5.out.grown HG8.out).grown HG9.out).free)
 have hf7:freeN S5.taken=7:=HF5.out
 have HFR7:Hid (Calls Tryz.prog 51 #[.pointer (some ⟨jb2,0,none⟩)] w9 fun e w'=>e = .returned (.int .i64 7)∧w'=w9):=Lib.hid (HFR.out.mono (by
  rintro e w' ⟨rfl,h⟩
  refine⟨?_,h⟩
  show Ending.returned (.int .i64 (freeN S5.taken:Int))=_
  rw[hf7]
  rfl))
 rw[hz1] at hcs
 rw[hz2] at hce
 have HG:=Lib.hid ((HJ5.out.grown HG8.out).grown HG9.out).gr
 clear HFR HE9 HR8 r9 hf7 hz1 hz2
 go_wp2_with (go_at_call 51;refine HFR7.out.mono ?_;rintro e w10 ⟨rfl,h5⟩;obtain rfl:w9=w10:=h5.symm)
 go_ret
 exact⟨rfl,HG.out⟩
def IntRow (w:World) (v:Value) (l:List Int):Prop:=∃p cap,v = .slice p l.length cap∧l.length≤9223372036854775807∧(∀x∈l,-9223372036854775808≤x∧x<9223372036854775808)∧(l = []∨∃b off,p=some ⟨b,off,none⟩∧∀i (hi:i<l.length),w.cell? ⟨b,off+i,none⟩=some (.int .i64 l[i]))
section
variable {W w w' : World} {own : Nat → Prop} {st db : Nat} {S : Sto} {all : List (Int × List Int)} {blk : Int → List Nat} {a nv : Value} {k : Nat}
end
end Go.Proofs.YtbcbhlfjgobejaaGreat
