/- TableRises: its states. Conditions: none. deficit.Needs: what it answers, in plain Lean, and its row in memory. Conditions: none. deficit.Needs: walked. Conditions: a table that commands have made. -/
import Derived.Test.YtjfelfjobeeenaaGreatF22
import Derived.Outline
set_option linter.unusedSimpArgs false
set_option linter.unusedVariables false
namespace Go.Proofs.YtjfelfjobeeenaaGreat
open Go.RowKit Go.Sf Go.Shelf
theorem alloc_kept {X W:World} {c:Array Value} {t:TypeId} (h:(X.alloc (.cells c t)).grownBy W none):W.heap[X.heap.size]? = some (.cells c t (0,0)):=
 (h.block X.heap.size (by simp) (by simp)).trans (World.alloc_heap_new X _)
theorem alloc_kept' {X W:World} {c:Array Value} {t:TypeId} (h:(X.alloc (.cells c t)).drew.grownBy W none):W.heap[X.heap.size]? = some (.cells c t (0,0)):=
 (h.block X.heap.size (by show X.heap.size<(X.alloc (.cells c t)).heap.size;simp) (by simp)).trans (World.alloc_heap_new X _)
theorem kept_block {A B:World} {g:Nat} {o:Obj} (h:A.heap[g]? = some o) (hg:A.grownBy B none):B.heap[g]? = some o:=
 (hg.block g (Array.getElem?_eq_some_iff.1 h).1 (by simp)).trans h
theorem four {W:World} {g:Nat} {a b c d:Value} {t:TypeId} (h:W.heap[g]? = some (.cells #[a,b,c,d] t (0,0))) :
  W.cell? ⟨g,0,none⟩=some a∧W.cell? ⟨g,1,none⟩=some b∧W.cell? ⟨g,2,none⟩=some c∧W.cell? ⟨g,3,none⟩=some d∧W.frozen? ⟨g,0,none⟩=false∧W.frozen? ⟨g,1,none⟩=false∧W.frozen? ⟨g,2,none⟩=false∧W.frozen? ⟨g,3,none⟩=false:=
 ⟨(cell_block h 0).trans rfl,(cell_block h 1).trans rfl,(cell_block h 2).trans rfl,(cell_block h 3).trans rfl,free_block h 0,free_block h 1,free_block h 2,free_block h 3⟩
structure Bx (w:World) (c:Cmd) (cv:CallT) (lost:Value) (lostL:List ID) (g1 g2:Nat) (pv:Value) (pl:List ID) (W:World):Prop where
 c:W.heap[g1]? = some (.cells (cmdCells c).toArray 24 (0,0))
 call:W.heap[g2]? = some (.cells #[.int .i64 cv.req,.int .i64 cv.ver,.bool cv.done,.int .i64 cv.code] 77 (0,0))
 pend:IdRow w.heap.size W pv pl
 row:IdRow w.heap.size W lost lostL
 ne:g1≠g2
 ne2:∀g,lost.ownBlock=some g→pv.ownBlock≠some g
theorem set4 {W:World} {g:Nat} {a b c d:Value} {t:TypeId} (h:W.heap[g]? = some (.cells #[a,b,c,d] t (0,0))) (x0 x1 x2 x3:Value) :
  ((((W.setCell ⟨g,0,none⟩ x0).setCell ⟨g,1,none⟩ x1).setCell ⟨g,2,none⟩ x2).setCell ⟨g,3,none⟩ x3).heap[g]? = some (.cells #[x0,x1,x2,x3] t (0,0))∧
  W.grownBy ((((W.setCell ⟨g,0,none⟩ x0).setCell ⟨g,1,none⟩ x1).setCell ⟨g,2,none⟩ x2).setCell ⟨g,3,none⟩ x3) (some g):=by
 constructor
 ·simp[World.setCell,Array.getElem?_modify,h]
 ·have e:∀(W:World) (o:Nat) (x:Value),W.grownBy (W.setCell ⟨g,o,none⟩ x) (some g):=fun W o x=>
   ⟨rfl,rfl,rfl,by simp[World.setCell],fun k _ hk=>Below.heap_setCell _ _ _ k (fun e=>hk (by rw[e]))⟩
  have tr:∀{A B C:World},A.grownBy B (some g)→B.grownBy C (some g)→A.grownBy C (some g):=fun h1 h2=>
   ⟨h2.os.trans h1.os,h2.tape.trans h1.tape,h2.output.trans h1.output,Nat.le_trans h1.size h2.size,fun k hk hn=>(h2.block k (Nat.lt_of_lt_of_le hk h1.size) hn).trans (h1.block k hk hn)⟩
  exact tr (tr (tr (e _ _ _) (e _ _ _)) (e _ _ _)) (e _ _ _)
section
variable {w : World} {n tb : Nat} {L0 L L' : Tab} {c : Cmd} {cv : CallT} {lost : Value} {lostL : List ID} {g1 g2 : Nat} {pv : Value} {pl : List ID} {lv : Value} {W W' : World}
end
section
variable {w : World} {own : Nat → Prop} {tb : Nat} {L : Tab} {W V : World}
end
inductive ToldS (k:Nat) (L:Tab) (x:ID):Prop where
 | pend (h1:wantedB L x=true) (h2:look L x.key≠x.ver)
 | cur (h1:look L x.key=x.ver) (h2:k≤(memH L.holds x).length)
 | lost (h1:wantedB L x=false) (h2:look L x.key≠x.ver)
theorem told {n k:Nat} {L L':Tab} {c:Cmd} (hI:Inv n k L) (hR:Rise k c L L') {x:ID} (hx:x∈L.pending.map (·.1)):ToldS k L' x∧1≤x.ver∧x.ver<L'.next:=by
 obtain⟨p,hp,rfl⟩:=List.mem_map.1 hx
 have hv:=hI.pv p hp
 have hn:=hR.nx
 refine⟨?_,hv.1,by omega⟩
 by_cases h:look L' p.1.key=p.1.ver
 ·exact .cur h (hR.pend p hp h)
 ·cases hw:wantedB L' p.1 with
  | true=>exact .pend hw h
  | false=>exact .lost hw h
def misN (L:Tab) (i:ID) (k:Nat):List Int:=((List.range k).map fun (j:Nat)=>(j:Int)).filter fun x=>decide (0<lifeV L x) && !decide (x∈holdL L i)
theorem misN_succ (L:Tab) (i:ID) (k:Nat):misN L i (k+1)=misN L i k++(if (decide (0<lifeV L k) && !decide ((k:Int)∈holdL L i))=true then [(k:Int)] else []):=by
 unfold misN
 rw[List.range_succ,List.map_append,List.filter_append]
 simp only[List.map_cons,List.map_nil,List.filter_cons,List.filter_nil]
theorem misN_len (L:Tab) (i:ID) (k:Nat):(misN L i k).length≤k:=by
 unfold misN
 exact Nat.le_trans (List.length_filter_le _ _) (by simp)
def ndL (L:Tab) (N:Nat) (i:ID):Nd:=⟨i,(holdL L i).length,misN L i N⟩
def ndS (nd:Nd):List Nd:=if nd.mis = [] then [] else [nd]
def needK (L:Tab) (N k:Nat):List Nd:=((curL L).take k).flatMap fun i=>ndS (ndL L N i)
def needL (L:Tab) (N:Nat):List Nd:=(curL L).flatMap fun i=>ndS (ndL L N i)
theorem needK_succ {L:Tab} {N k:Nat} {i:ID} (h:(curL L)[k]? = some i):needK L N (k+1)=needK L N k++ndS (ndL L N i):=by
 obtain⟨h1,rfl⟩:=List.getElem?_eq_some_iff.1 h
 unfold needK
 rw[List.take_succ_eq_append_getElem h1,List.flatMap_append];simp
theorem needK_len (L:Tab) (N:Nat):∀k,(needK L N k).length≤k:=by
 intro k
 unfold needK
 have:∀l:List ID,(l.flatMap fun i=>ndS (ndL L N i)).length≤l.length:=by
  intro l
  induction l with
  | nil=>simp
  | cons a r ih=>
   rw[List.flatMap_cons,List.length_append,List.length_cons]
   have:(ndS (ndL L N a)).length≤1:=by unfold ndS;split <;> simp
   omega
 exact Nat.le_trans (this _) (List.length_take_le _ _)
structure Ndv where
 nd:Nd
 ph:Option Addr
 ch:Nat
 pm:Option Addr
 cm:Nat
 hs:List Int
def ndvCells (x:Ndv):List Value:=[.string x.nd.id.key,.int .i64 x.nd.id.ver,.slice x.ph x.nd.held x.ch,.slice x.pm x.nd.mis.length x.cm]
def RdOk (W:World) (p:Option Addr) (l:List Int):Prop:=l = []∨∃gm,p=some ⟨gm,0,none⟩∧(∃c,W.heap[gm]? = some (.cells c 3 (0,0)))∧∀(j:Nat) (y:Int),l[j]? = some y→W.cell? ⟨gm,j,none⟩=some (.int .i64 y)
def NdvOk (W:World) (x:Ndv):Prop:=RdOk W x.pm x.nd.mis∧RdOk W x.ph x.hs∧x.hs.length=x.nd.held
theorem RdOk.turn {W W':World} {p:Option Addr} {l:List Int} (h:RdOk W p l) {row:Option Nat} (hg:W.grownBy W' row) (hr:∀r,row=some r→∀c,W.heap[r]?≠some (.cells c 3 (0,0))):RdOk W' p l:=by
 rcases h with h|⟨gm,e,⟨c,hc⟩,hy⟩
 ·exact Or.inl h
 ·have hk:=hg.block gm (Array.getElem?_eq_some_iff.1 hc).1 (fun e=>hr gm e.symm c hc)
  exact Or.inr ⟨gm,e,⟨c,hk.trans hc⟩,fun j y hj=>(World.cell?_of_block (a:=⟨gm,j,none⟩) hk).trans (hy j y hj)⟩
theorem NdvOk.turn {W W':World} {x:Ndv} (h:NdvOk W x) {row:Option Nat} (hg:W.grownBy W' row) (hr:∀r,row=some r→∀c,W.heap[r]?≠some (.cells c 3 (0,0))):NdvOk W' x:=⟨h.1.turn hg hr,h.2.1.turn hg hr,h.2.2⟩
structure NOut (E:TypeId) (F:ID→List Int) (w0 W:World) (v:Value) (xs:List Ndv) (l:List Nd):Prop where
 row:W.ownsRow w0.heap.size E 4 v xs.length (xs.flatMap ndvCells)
 ok:∀x∈xs,NdvOk W x
 eq:xs.map (·.nd)=l
 hh:∀x∈xs,x.hs=F x.nd.id
 gr:w0.grownBy W none
theorem NOut.kept {E:TypeId} {F:ID→List Int} {w0 W W':World} {v:Value} {xs:List Ndv} {l:List Nd} (h:NOut E F w0 W v xs l) (hg:W.grownBy W' none):NOut E F w0 W' v xs l:=
 ⟨h.row.kept hg (by cases hv:v.ownBlock <;> simp),fun x hx=>(h.ok x hx).turn hg (fun r e=>by cases e),h.eq,h.hh,grown_trans h.gr hg⟩
theorem NOut.add {E:TypeId} {F:ID→List Int} {w0 W W2 W':World} {v v':Value} {xs:List Ndv} {l:List Nd} (h:NOut E F w0 W v xs l) (hg:W.grownBy W2 none) (x:Ndv) (hx:NdvOk W x) (hxf:x.hs=F x.nd.id) (ho:W'.ownsRow w0.heap.size E 4 v' (xs.length+1) (xs.flatMap ndvCells++ndvCells x)) (hg2:W2.grownBy W' v.ownBlock) (hE:E≠3:=by decide):NOut E F w0 W' v' (xs ++ [x]) (l ++ [x.nd]):=by
 have hno:∀r,v.ownBlock=some r→∀c,W2.heap[r]?≠some (.cells c 3 (0,0)):=fun r e c hc=>by
  obtain⟨c2,hc2⟩:=own_ty (h.kept hg).row e
  rw[hc] at hc2
  injection hc2 with e1
  injection e1 with e2 e3
  exact hE e3.symm
 refine⟨by simpa[List.flatMap_append] using ho,fun y hy=>?_,by simp[h.eq],fun y hy=>(List.mem_append.1 hy).elim (h.hh y) (fun hy=>by obtain rfl:=List.mem_singleton.1 hy;exact hxf),grown_own (grown_trans h.gr hg) hg2 (row_base h.row)⟩
 have hyW:NdvOk W y:=by
  rcases List.mem_append.1 hy with hy|hy
  ·exact h.ok y hy
  ·obtain rfl:=List.mem_singleton.1 hy;exact hx
 exact(hyW.turn hg (fun r e=>by cases e)).turn hg2 hno
theorem NOut.nrow {E:TypeId} {F:ID→List Int} {w0 W:World} {v:Value} {xs:List Ndv} {l:List Nd} (h:NOut E F w0 W v xs l):NRow W v l:=by
 have hS:SRow W E 4 ndvCells v xs:=⟨h.row.1,h.row.2.imp id fun ⟨b,cap,cur,e,_,rest⟩=>⟨b,cap,cur,e,Nat.zero_le _,rest⟩⟩
 obtain⟨p,cap,e,_,_⟩:=hS.form
 have hle:xs.length=l.length:=by rw[←h.eq];simp
 refine⟨p,cap,by rw[←hle];exact e,?_⟩
 rcases hS.at (fun x=>(rfl:(ndvCells x).length=4)) with h0|⟨g,cap2,e2,hc,_⟩
 ·left;rw[←h.eq,h0];rfl
 ·rw[e] at e2
  injection e2 with e3 _ _
  refine Or.inr ⟨g,e3,fun i nd hi=>?_⟩
  rw[←h.eq,List.getElem?_map] at hi
  cases hx:xs[i]? with
  | none=>rw[hx] at hi;cases hi
  | some x=>
   rw[hx] at hi
   obtain rfl:=Option.some.inj hi
   obtain⟨h1,h2⟩:=List.getElem?_eq_some_iff.1 hx
   have hcc:=hc i h1
   rw[h2] at hcc
   have hok:=h.ok x (List.mem_of_getElem? hx)
   exact⟨x.ph,x.pm,x.ch,x.cm,by simpa using hcc 0 _ rfl,hcc 1 _ rfl,hcc 2 _ rfl,hcc 3 _ rfl,hok.1.imp id fun ⟨gm,e4,_,hy⟩=>⟨gm,e4,hy⟩⟩
def NRowV (W:World) (E:TypeId) (v:Value) (xs:List Ndv):Prop:=SRow W E 4 ndvCells v xs∧∀x∈xs,NdvOk W x
theorem NOut.rowv {E:TypeId} {F:ID→List Int} {w0 W:World} {v:Value} {xs:List Ndv} {l:List Nd} (h:NOut E F w0 W v xs l):NRowV W E v xs:=
 ⟨⟨h.row.1,h.row.2.imp id fun ⟨b,cap,cur,e,_,rest⟩=>⟨b,cap,cur,e,Nat.zero_le _,rest⟩⟩,h.ok⟩
theorem NOut.len {E:TypeId} {F:ID→List Int} {w0 W:World} {v:Value} {xs:List Ndv} {l:List Nd} (h:NOut E F w0 W v xs l):xs.length=l.length:=by rw[←h.eq];simp
theorem infoNeed:(Tryz.prog.info? 71).map (fun i=>(i.zero,i.size,i.bytes))=some (some (.agg #[.string { data:=#[] },.int .i64 0,.slice none 0 0,.slice none 0 0]),4,72):=by kernel_rfl
structure NBox (E:TypeId) (wx W:World) (bn:Nat) (key:ByteArray) (ver:Int) (ph:Option Addr) (held ch:Nat) (pm:Option Addr) (ms:List Int) (cm:Nat):Prop where
 box:W.heap[bn]? = some (.cells #[.string key,.int .i64 ver,.slice ph held ch,.slice pm ms.length cm] E (0,0))
 row:W.ownsRow wx.heap.size 3 1 (.slice pm ms.length cm) ms.length (ms.map (Value.int .i64))
 gr:wx.grownBy W (some bn)
theorem grown_rowN {A B C:World} {r:Nat} (h:A.grownBy B (some r)) (g:B.grownBy C none):A.grownBy C (some r):=
 ⟨g.os.trans h.os,g.tape.trans h.tape,g.output.trans h.output,Nat.le_trans h.size g.size,fun k hk hn=>(g.block k (Nat.lt_of_lt_of_le hk h.size) (by simp)).trans (h.block k hk hn)⟩
theorem NBox.kept {E:TypeId} {wx W W':World} {bn:Nat} {key:ByteArray} {ver:Int} {ph:Option Addr} {held ch:Nat} {pm:Option Addr} {ms:List Int} {cm:Nat} (h:NBox E wx W bn key ver ph held ch pm ms cm) (hg:W.grownBy W' none):NBox E wx W' bn key ver ph held ch pm ms cm:=
 ⟨kept_block h.box hg,h.row.kept hg (by cases hv:(Value.slice pm ms.length cm).ownBlock <;> simp),grown_rowN h.gr hg⟩
theorem NBox.add {E:TypeId} {wx W W2 W':World} {bn:Nat} {key:ByteArray} {ver:Int} {ph:Option Addr} {held ch:Nat} {pm pm':Option Addr} {ms:List Int} {cm cm':Nat} (h:NBox E wx W bn key ver ph held ch pm ms cm) (hg:W.grownBy W2 none) (x:Int) (hbx:bn<wx.heap.size)
  (ho:W'.ownsRow wx.heap.size 3 1 (.slice pm' (ms.length+1) cm') (ms.length+1) (ms.map (Value.int .i64) ++ [.int .i64 x])) (hg2:W2.grownBy W' (Value.slice pm ms.length cm).ownBlock) (hE:E≠3:=by decide) :
  W'.heap[bn]? = some (.cells #[.string key,.int .i64 ver,.slice ph held ch,.slice pm ms.length cm] E (0,0))∧NBox E wx (W'.setCell ⟨bn,3,none⟩ (.slice pm' (ms.length+1) cm')) bn key ver ph held ch pm' (ms ++ [x]) cm':=by
 have hb2:=kept_block h.box hg
 have hb3:W'.heap[bn]? = some (.cells #[.string key,.int .i64 ver,.slice ph held ch,.slice pm ms.length cm] E (0,0)):=by
  refine(hg2.block bn (Array.getElem?_eq_some_iff.1 hb2).1 (fun e=>?_)).trans hb2
  obtain⟨c2,hc2⟩:=own_ty (h.kept hg).row e.symm
  rw[hb2] at hc2
  injection hc2 with e1
  injection e1 with e2 e3
  exact hE e3
 have hst:W'.grownBy (W'.setCell ⟨bn,3,none⟩ (.slice pm' (ms.length+1) cm')) (some bn):=⟨rfl,rfl,rfl,by simp[World.setCell],fun k _ hk=>Below.heap_setCell _ _ _ k (fun e=>hk (by rw[e]))⟩
 refine⟨hb3,?_,?_,?_⟩
 ·simp[World.setCell,Array.getElem?_modify,hb3]
 ·have:=ho.kept hst (.inr (fun e=>by
   obtain⟨c2,hc2⟩:=own_ty ho e
   rw[hb3] at hc2
   injection hc2 with e1
   injection e1 with e2 e3
   exact hE e3))
  simpa using this
 ·have h2:=grown_rowN h.gr hg
  refine⟨hst.os.trans (hg2.os.trans h2.os),hst.tape.trans (hg2.tape.trans h2.tape),hst.output.trans (hg2.output.trans h2.output),Nat.le_trans h2.size (Nat.le_trans hg2.size hst.size),fun k hk hn=>?_⟩
  have k1:=h2.block k hk hn
  have k2:=hg2.block k (Nat.lt_of_lt_of_le hk h2.size) (fun e=>by
   have:=row_base (h.kept hg).row k e.symm
   omega)
  have k3:=hst.block k (Nat.lt_of_lt_of_le hk (Nat.le_trans h2.size hg2.size)) hn
  rw[k3,k2,k1]
theorem id_at {W:World} {v:Value} {l:List ID} {base k:Nat} {i:ID} (h:IdRow base W v l) (hk:l[k]? = some i):∃g cap,v = .slice (some ⟨g,0,none⟩) l.length cap∧W.cell? ⟨g,k*2,none⟩=some (.string i.key)∧W.cell? ⟨g,k*2+1,none⟩=some (.int .i64 i.ver):=by
 obtain⟨h1,rfl⟩:=List.getElem?_eq_some_iff.1 hk
 have hS:SRow W 54 2 idCells v l:=⟨h.1,h.2.imp id fun ⟨b,cap,cur,e,_,rest⟩=>⟨b,cap,cur,e,Nat.zero_le _,rest⟩⟩
 rcases hS.at (fun x=>(rfl:(idCells x).length=2)) with h0|⟨g,cap,e,hc,_⟩
 ·subst h0;simp at h1
 ·exact⟨g,cap,e,by simpa using hc k h1 0 _ rfl,hc k h1 1 _ rfl⟩
theorem idRow_form {W:World} {v:Value} {l:List ID} {base:Nat} (h:IdRow base W v l):∃p cap,v = .slice p l.length cap:=by
 rcases h.2 with ⟨e,h0⟩|⟨g,c,cur,e,_⟩
 ·exact⟨none,0,by rw[e,h0]⟩
 ·exact⟨_,_,e⟩
theorem nbox_set {E:TypeId} {wa w3:World} {bi:Nat} {key:ByteArray} {ver:Int} {ph:Option Addr} {n ch:Nat} {xs:List Value} (hs:wa.heap.size=bi+1) (hg:wa.grownBy w3 none) {z0 z1 z2 z3:Value} (zb:w3.heap[wa.heap.size]? = some (.cells #[z0,z1,z2,z3] E (0,0))) (hr:w3.ownsRow 0 3 1 (.slice ph n ch) n xs) (hE:E≠3:=by decide) :
  bi<wa.heap.size∧wa.heap.size<((((w3.setCell ⟨wa.heap.size,0,none⟩ (.string key)).setCell ⟨wa.heap.size,1,none⟩ (.int .i64 ver)).setCell ⟨wa.heap.size,2,none⟩ (.slice ph n ch)).setCell ⟨wa.heap.size,3,none⟩ (.slice none 0 0)).heap.size∧
   ((((w3.setCell ⟨wa.heap.size,0,none⟩ (.string key)).setCell ⟨wa.heap.size,1,none⟩ (.int .i64 ver)).setCell ⟨wa.heap.size,2,none⟩ (.slice ph n ch)).setCell ⟨wa.heap.size,3,none⟩ (.slice none 0 0)).heap[wa.heap.size]? = some (.cells #[.string key,.int .i64 ver,.slice ph n ch,.slice none 0 0] E (0,0))∧
   wa.grownBy ((((w3.setCell ⟨wa.heap.size,0,none⟩ (.string key)).setCell ⟨wa.heap.size,1,none⟩ (.int .i64 ver)).setCell ⟨wa.heap.size,2,none⟩ (.slice ph n ch)).setCell ⟨wa.heap.size,3,none⟩ (.slice none 0 0)) none∧
   ((((w3.setCell ⟨wa.heap.size,0,none⟩ (.string key)).setCell ⟨wa.heap.size,1,none⟩ (.int .i64 ver)).setCell ⟨wa.heap.size,2,none⟩ (.slice ph n ch)).setCell ⟨wa.heap.size,3,none⟩ (.slice none 0 0)).ownsRow 0 3 1 (.slice ph n ch) n xs:=by
 obtain⟨h1,h2⟩:=set4 zb (.string key) (.int .i64 ver) (.slice ph n ch) (.slice none 0 0)
 refine⟨by omega,(Array.getElem?_eq_some_iff.1 h1).1,h1,grown_own hg h2 (fun k e=>by cases e;exact Nat.le_refl _),hr.kept h2 (.inr (fun e=>?_))⟩
 obtain⟨c2,hc2⟩:=own_ty hr e
 rw[zb] at hc2
 injection hc2 with e1
 injection e1 with e2 e3
 exact hE e3
theorem rd_own {W:World} {base:Nat} {p:Option Addr} {c:Nat} {l:List Int} (hr:W.ownsRow base 3 1 (.slice p l.length c) l.length (l.map (Value.int .i64))):RdOk W p l:=by
 rcases hr.2 with ⟨e,h0⟩|⟨gm,c,cur,e,_,hc,_⟩
 ·exact Or.inl (List.eq_nil_of_length_eq_zero h0)
 ·injection e with e1 e2 e3
  refine Or.inr ⟨gm,e1,⟨cur,hc⟩,fun t y hy=>?_⟩
  have h1:=hr.cells (g:=gm) (by rw[e1];rfl) t (.int .i64 y) (by rw[List.getElem?_map,hy];rfl)
  rw[←h1];congr 1;unfold Addr.add;simp
section
variable {bs : Nat → Prop} {w : World} {tb : Nat} {L : Tab}
set_option maxHeartbeats 16000000 in
set_option maxRecDepth 100000 in
theorem needsV_any (h:At bs w tb L) (N:Nat) (hN:N≤1000) (hf:∀i,Fits (memH L.holds i)) (hhl:∀i,(holdL L i).length≤1000) (hll:L.lives.length≤1000000) (hr:∀p∈L.values,p.1.size≤maxLen) (hl:L.values.length≤1000000) :
  Calls Tryz.prog 19 #[.pointer (some ⟨tb,0,none⟩),.int .i64 N] w fun e w'=>∃v xs,e = .returned v∧NRow w' v (needL L N)∧NRowV w' 71 v xs∧xs.map (·.nd)=needL L N∧(∀x∈xs,x.hs=holdL L x.nd.id)∧w.grownBy w' none:=by
 have HCU:Hid (∀W,w.grownBy W none→Calls Tryz.prog 42 #[.pointer (some ⟨tb,0,none⟩)] W fun e w'=>∃v,e = .returned v∧IdRow W.heap.size w' v (curL L)∧W.grownBy w' none):=(show ∀_,_→Calls _ _ _ _ _ from fun W hg=>current_at (h.grown hg) hr hl)
 have HHO:Hid (∀W i,w.grownBy W none→Calls Tryz.prog 37 #[.pointer (some ⟨tb,0,none⟩),encID i] W fun e w'=>∃v,e = .returned v∧Ints W w' v (holdL L i)):=(show ∀_ _,_→Calls _ _ _ _ _ from fun W i hg=>holders_at (h.grown hg) i (hf i))
 have HLF:Hid (∀W (n:Int),w.grownBy W none→Calls Tryz.prog 23 #[.pointer (some ⟨tb,0,none⟩),.int .i64 n] W fun e w'=>e = .returned (.int .i64 (lifeV L n))∧W.grownBy w' none):=(show ∀_ _,_→Calls _ _ _ _ _ from fun W n hg=>life_at (h.grown hg) n (by omega))
 have HCL:Hid ((curL L).length≤1000000):=(show _≤_ from Nat.le_trans (List.length_filterMap_le _ _) (by rw[skeys_length];exact hl))
 have HEND:Hid (needK L N (curL L).length=needL L N):=(show _=_ from by unfold needK needL;rw[List.take_length])
 have htb:=h.lt
 obtain⟨i0,hi,hz0,hz1,hz2⟩:=info_parts infoNeed
 obtain⟨j0,hj,gz0,gz1,gz2⟩:=info_parts infoZ
 have HHL:=Lib.hid hhl
 clear h hf hr hl hll hhl
 go_enter Tryz.func19,Tryz.ntmps19
 go_wp2_with (go_at_call 42;refine(HCU.out _ (grown_refl _)).mono ?_;rintro e w1 ⟨v,rfl,hv,hg⟩;obtain⟨p,cap,rfl⟩:=idRow_form hv;have HV:=Lib.hid hv;have HG:=Lib.hid hg;clear hv hg)
 have H0:Hid (NOut 71 (holdL L) w1 w1 (.slice none 0 0) [] (needK L N 0)):=(show NOut _ _ _ _ _ _ _ from ⟨World.ownsRow_nil _ _ _ _,fun x hx=>by simp at hx,by simp[needK],fun x hx=>by simp at hx,grown_refl _⟩)
 generalize hq:(curL L).length=q at *
 have HQ:=Lib.hid hq
 have hq1:=HCL.out
 clear hq HCU
 go_loopw [5,13] (fun x i wr=>∃(k:Nat) (xs:List Ndv),k≤q∧i = .int .i64 k∧Hid (NOut 71 (holdL L) w1 wr x xs (needK L N k))) (fun _ i _=>q-(intOf i).toNat)
 case atStart=>exact⟨0,[],Nat.zero_le _,rfl,H0⟩
 case round=>
  clear H0
  obtain⟨k,xs,hk,rfl,hO⟩:=hrel
  rcases Nat.lt_or_ge k q with hlt|hge
  ·obtain⟨i,hi2⟩:∃i,(curL L)[k]? = some i:=⟨_,List.getElem?_eq_getElem (by rw[HQ.out];exact hlt)⟩
   have HKS:=Lib.hid (needK_succ (N:=N) hi2)
   obtain⟨g,cap2,e,k0,k1⟩:=id_at HV.out hi2
   injection e with e1 e2 e3
   subst e1
   have c0:=hO.out.gr.cell k0 (by simp)
   have c1:=hO.out.gr.cell k1 (by simp)
   have HO:=Lib.hid hO.out
   clear e2 e3 cap2 k0 k1 hi2 hO
   obtain⟨key,ver⟩:=i
   simp only at c0 c1
   have HMS:=fun j=>Lib.hid (misN_succ L ⟨key,ver⟩ j)
   have HML:=fun j=>Lib.hid (misN_len L ⟨key,ver⟩ j)
   have HNL:Hid (ndL L N ⟨key,ver⟩=⟨⟨key,ver⟩,(holdL L ⟨key,ver⟩).length,misN L ⟨key,ver⟩ N⟩):=(show _=_ from rfl)
   have HM0:Hid (misN L ⟨key,ver⟩ 0 = []):=(show _=_ from rfl)
   go_upto_region 5 with fail
   clear c0 c1
   have HGA:=Lib.hid (World.grownBy_alloc wr (.cells #[.string key,.int .i64 ver] 54) none)
   have hba:=World.alloc_heap_new wr (.cells #[.string key,.int .i64 ver] 54)
   have b0:(wr.alloc (.cells #[.string key,.int .i64 ver] 54)).cell? ⟨wr.heap.size,0,none⟩=some (.string key):=(cell_block hba 0).trans rfl
   have b1:(wr.alloc (.cells #[.string key,.int .i64 ver] 54)).cell? ⟨wr.heap.size,1,none⟩=some (.int .i64 ver):=(cell_block hba 1).trans rfl
   have hsa:(wr.alloc (.cells #[.string key,.int .i64 ver] 54)).heap.size=wr.heap.size+1:=by simp
   clear hba
   generalize wr.alloc (.cells #[.string key,.int .i64 ver] 54)=wa at *
   have HSA:=Lib.hid hsa
   generalize wr.heap.size=bi at *
   clear hsa
   have HG1:Hid (wa.grownBy wa none):=grown_refl wa
   have HWA:Hid (w.grownBy wa none):=(show w.grownBy _ none from grown_trans (grown_trans HG.out HO.out.gr) HGA.out)
   generalize hhd:holdL L ⟨key,ver⟩=hd at *
   have HHD:=Lib.hid hhd
   clear hhd
   go_cut [8] (fun bp wx=>∃(bn:Nat) (ph:Option Addr) (ch:Nat),bp = .pointer (some ⟨bn,0,none⟩)∧Hid (bi<bn∧bn<wx.heap.size∧wx.heap[bn]? = some (.cells #[.string key,.int .i64 ver,.slice ph hd.length ch,.slice none 0 0] 71 (0,0))∧wa.grownBy wx none∧wx.ownsRow 0 3 1 (.slice ph hd.length ch) hd.length (hd.map (Value.int .i64))))
   case first=>
    have nb1:bi≠wa.heap.size:=by have:=HSA.out;omega
    have nb2:wa.heap.size≠bi:=by have:=HSA.out;omega
    go_region_held3 (fun w'=>w'.cell? ⟨bi,0,none⟩=some (.string key)∧w'.cell? ⟨bi,1,none⟩=some (.int .i64 ver)) (first|with_reducible exact⟨k3,k4⟩|with_reducible exact⟨b0,b1⟩|go_keep)
     ((go_at_call 37;refine(HHO.out _ ⟨key,ver⟩ (grown_trans HWA.out (by repeat (first|exact grown_refl _|refine grown_alloc ?_ _|refine grown_drew ?_)))).mono ?_;rintro e w3 ⟨v,rfl,hv⟩;rw[HHD.out] at hv;obtain⟨ph,ch,rfl⟩:=ints_form hv;have HRW:=Lib.hid (row_le hv.1 (Nat.zero_le _));have hg:=hv.2.2;clear hv;have hgg:wa.grownBy w3 none:=grown_trans (by repeat (first|exact grown_refl _|refine grown_alloc ?_ _|refine grown_drew ?_)) hg;have k3:=hgg.cell b0 (by simp);have k4:=hgg.cell b1 (by simp);have HGG:=Lib.hid hgg;(first|(have zb:=alloc_kept' hg;obtain⟨z0,z1,z2,z3,y0,y1,y2,y3⟩:=four zb)|(have zb:=alloc_kept hg;obtain⟨z0,z1,z2,z3,y0,y1,y2,y3⟩:=four zb)|skip);clear hg hgg))
    all_goals
     go_wp2_with fail
     go_meet
    ·exact⟨_,ph,ch,rfl,(show _∧_ from ⟨by have:=HSA.out;have:=HGG.out.size;omega,by simp,World.alloc_heap_new _ _,grown_trans HGG.out (World.grownBy_alloc _ _ none),HRW.out.alloc _⟩)⟩
    ·exact⟨_,ph,ch,rfl,(show _∧_ from nbox_set HSA.out HGG.out zb HRW.out)⟩
   case rest=>
    clear b0 b1 HG1
    obtain⟨bn,ph,ch,rfl,hB⟩:=hcut
    obtain⟨wx,hwx⟩:∃x:World,x=wc:=⟨_,rfl⟩
    rw[←hwx] at hB ⊢
    have HB:=Lib.hid hB.out
    clear hwx hB
    have hbn:=HB.out.2.1
    have HWX:Hid (w.grownBy wx none):=(show w.grownBy _ none from grown_trans HWA.out HB.out.2.2.2.1)
    have H1:Hid (NBox 71 wx wx bn key ver ph hd.length ch none (misN L ⟨key,ver⟩ 0) 0):=(show NBox _ _ _ _ _ _ _ _ _ _ _ _ from by
     rw[HM0.out]
     exact⟨HB.out.2.2.1,World.ownsRow_nil _ _ _ _,⟨rfl,rfl,rfl,Nat.le_refl _,fun _ _ _=>rfl⟩⟩)
    have HOW:Hid (∀W,wx.grownBy W (some bn)→W.ownsRow 0 3 1 (.slice ph hd.length ch) hd.length (hd.map (Value.int .i64))):=(show ∀W,_→World.ownsRow _ _ _ _ _ _ _ from fun W hg=>own_sm HB.out.2.2.2.2 (fun g hg2=>by
     obtain⟨c2,hc2⟩:=own_ty HB.out.2.2.2.2 hg2
     refine hg.block g (Array.getElem?_eq_some_iff.1 hc2).1 (fun e=>?_)
     cases e
     rw[HB.out.2.2.1] at hc2
     injection hc2 with e1
     injection e1 with e2 e3
     exact absurd e3 (by decide)))
    have HWG:Hid (∀W,wx.grownBy W (some bn)→w.grownBy W none∧wa.grownBy W none):=(show ∀W,_→_ from fun W hg=>⟨grown_own HWX.out hg (fun k e=>by cases e;have:=HWA.out.size;have:=HSA.out;have:=HB.out.1;omega),grown_own HB.out.2.2.2.1 hg (fun k e=>by cases e;have:=HSA.out;have:=HB.out.1;omega)⟩)
    have HHD1:Hid (hd.length≤1000):=(show _≤_ from by rw[←HHD.out];exact HHL.out _)
    go_wp2
    go_loopw [23] (fun s wl=>∃(j:Nat) (pm:Option Addr) (cm:Nat),j≤N∧s = .int .i64 j∧Hid (NBox 71 wx wl bn key ver ph hd.length ch pm (misN L ⟨key,ver⟩ j) cm)) (fun s _=>N-(intOf s).toNat)
    case atStart=>exact⟨0,none,0,Nat.zero_le _,rfl,H1⟩
    case round=>
     clear H1
     obtain⟨j,pm,cm,hjN,rfl,hNB⟩:=hrel
     have HNB:=Lib.hid hNB.out
     clear hNB
     rcases Nat.lt_or_ge j N with hlj|hgj
     ·have hms:=HMS j
      have hml:=(HML j).out
      obtain⟨ms,hmsd⟩:∃ms,ms=misN L ⟨key,ver⟩ j:=⟨_,rfl⟩
      rw[←hmsd] at HNB hms hml
      have HM1:=Lib.hid hms.out
      clear hms hmsd
      have hq1:=HLF.out wr (j:Int) (HWG.out _ HNB.out.gr).1
      by_cases hl0:0<lifeV L j
      ·cases hbq:decide ((j:Int)∈hd) with
       | true=>
        have HM2:Hid (misN L ⟨key,ver⟩ (j+1)=ms):=(show _=_ from by rw[HM1.out,hbq];simp)
        have HBQ:=Lib.hid hbq
        clear HM1 hbq
        generalize lifeV L j=lv at *
        have hc:=fun W (hg:wx.grownBy W (some bn))=>contains_any (ird_of_own (HOW.out W hg)) (j:Int) (by have:=HHD1.out;omega)
        have hc1:=fun W (hg:wx.grownBy W (some bn))=>(show Calls _ _ _ W fun e w'=>e = .returned (.bool true)∧w'=W from by have:=hc W hg;rw[HBQ.out] at this;exact this)
        clear hc
        have HC:=Lib.hid hc1
        clear hc1
        go_wp2_with (first
         | (go_at_call 23;refine hq1.mono ?_;rintro e w4 ⟨rfl,hg⟩;have HN4:=Lib.hid (HNB.out.kept hg);have hb4:=HN4.out.box;have d2:w4.cell? ⟨bn,2,none⟩=some (.slice ph hd.length ch):=(cell_block hb4 2).trans rfl;clear hg hb4)
         | (go_at_call 64;refine(HC.out _ HN4.out.gr).mono ?_;rintro e w5 ⟨rfl,h5⟩;obtain rfl:w4=w5:=h5.symm))
        go_roundw
        case rel=>exact⟨j+1,pm,cm,by omega,by go_num,by rw[HM2.out];exact HN4⟩
        case measure=>simp[intOf];omega
       | false=>
        have HM2:Hid (misN L ⟨key,ver⟩ (j+1)=ms ++ [(j:Int)]):=(show _=_ from by rw[HM1.out,hbq];simp[hl0])
        have HBQ:=Lib.hid hbq
        clear HM1 hbq
        generalize lifeV L j=lv at *
        have hc:=fun W (hg:wx.grownBy W (some bn))=>contains_any (ird_of_own (HOW.out W hg)) (j:Int) (by have:=HHD1.out;omega)
        have hc1:=fun W (hg:wx.grownBy W (some bn))=>(show Calls _ _ _ W fun e w'=>e = .returned (.bool false)∧w'=W from by have:=hc W hg;rw[HBQ.out] at this;exact this)
        clear hc
        have HC:=Lib.hid hc1
        clear hc1
        go_wp2_with (first
         | (go_at_call 23;refine hq1.mono ?_;rintro e w4 ⟨rfl,hg⟩;have HN4:=Lib.hid (HNB.out.kept hg);have hb4:=HN4.out.box;have d2:w4.cell? ⟨bn,2,none⟩=some (.slice ph hd.length ch):=(cell_block hb4 2).trans rfl;have d3:w4.cell? ⟨bn,3,none⟩=some (.slice pm ms.length cm):=(cell_block hb4 3).trans rfl;clear hg hb4)
         | (go_at_call 64;refine(HC.out _ HN4.out.gr).mono ?_;rintro e w5 ⟨rfl,h5⟩;obtain rfl:w4=w5:=h5.symm)
         | (at_builtin;refine wpList_append_own _ rfl _ _ 69 rfl wx.heap.size 3 j0 (.int .i64 0) 1 8 Tryz.underlying69 hj gz0 gz1 gz2 rfl (by decide) _ _ _ rfl (HN4.out.row.alloc _) ⟨w4.heap.size,0,none⟩ 1 1 [.int .i64 j] rfl rfl ?c1 ?c2 ?c3 ?c4 ?c5 ?_))
        case c1=>
         intro t u hu
         match t,hu with
         | 0,hu=>simp at hu;subst hu;simp[Addr.add,go_sem]
         | t+1,hu=>simp at hu
        case c2=>intro u hu;simp at hu;subst hu;rfl
        case c3=>unfold maxLen;omega
        case c4=>omega
        case c5=>have:=HN4.out.gr.size;simp;omega
        intro v' w9 ho hg9 _
        obtain⟨g9,cap9,rfl⟩:=ownsRow_succ ho
        obtain⟨hb9,hn9⟩:=HN4.out.add (World.grownBy_alloc _ _ none) (j:Int) hbn ho hg9
        have HN9:=Lib.hid hn9
        have e3:w9.cell? ⟨bn,3,none⟩=some (.slice pm ms.length cm):=(cell_block hb9 3).trans rfl
        have f3:w9.frozen? ⟨bn,3,none⟩=false:=free_block hb9 3
        clear ho hg9 hb9 hn9
        go_wp2
        go_roundw
        case rel=>exact⟨j+1,_,_,by omega,by go_num,by rw[HM2.out];exact HN9⟩
        case measure=>simp[intOf];omega
      ·have HM2:Hid (misN L ⟨key,ver⟩ (j+1)=ms):=(show _=_ from by rw[HM1.out];simp[hl0])
       clear HM1
       generalize lifeV L j=lv at *
       go_wp2_with (go_at_call 23;refine hq1.mono ?_;rintro e w4 ⟨rfl,hg⟩;have HN4:=Lib.hid (HNB.out.kept hg);clear hg)
       go_roundw
       case rel=>exact⟨j+1,pm,cm,by omega,by go_num,by rw[HM2.out];exact HN4⟩
       case measure=>simp[intOf];omega
     ·obtain rfl:j=N:=by omega
      have hml:=(HML j).out
      have HWQ:=Lib.hid (HWG.out _ HNB.out.gr).2
      have hb:=HNB.out.box
      have d0:wr.cell? ⟨bn,0,none⟩=some (.string key):=(cell_block hb 0).trans rfl
      have d1:wr.cell? ⟨bn,1,none⟩=some (.int .i64 ver):=(cell_block hb 1).trans rfl
      have d2:wr.cell? ⟨bn,2,none⟩=some (.slice ph hd.length ch):=(cell_block hb 2).trans rfl
      have d3:wr.cell? ⟨bn,3,none⟩=some (.slice pm (misN L ⟨key,ver⟩ j).length cm):=(cell_block hb 3).trans rfl
      obtain⟨ms,hmsd⟩:∃ms,ms=misN L ⟨key,ver⟩ j:=⟨_,rfl⟩
      have HOK:Hid (NdvOk wr ⟨⟨⟨key,ver⟩,hd.length,ms⟩,ph,ch,pm,cm,hd⟩):=(show NdvOk _ _ from by
       refine⟨?_,rd_own (HOW.out _ HNB.out.gr),rfl⟩
       have hr:=HNB.out.row
       rw[←hmsd] at hr
       rcases hr.2 with ⟨e,h0⟩|⟨gm,c,cur,e,_,hc,_⟩
       ·exact Or.inl (List.eq_nil_of_length_eq_zero h0)
       ·injection e with e1 e2 e3
        refine Or.inr ⟨gm,e1,⟨cur,hc⟩,fun t y hy=>?_⟩
        have h1:=hr.cells (g:=gm) (by rw[e1];rfl) t (.int .i64 y) (by rw[List.getElem?_map,hy];rfl)
        rw[←h1];congr 1;unfold Addr.add;simp)
      have HND:Hid (ndL L j ⟨key,ver⟩=⟨⟨key,ver⟩,hd.length,ms⟩):=(show _=_ from by rw[HNL.out,hmsd])
      have HOX:=Lib.hid (HO.out.kept (grown_trans HGA.out HWQ.out))
      have HXL:Hid (xs.length≤1000000):=(show _≤_ from by
       rw[HO.out.len];exact Nat.le_trans (needK_len L j k) (by omega))
      rw[←hmsd] at d3 hml
      clear hb hmsd HNB
      by_cases hz:ms = []
      ·have HK2:Hid (needK L j (k+1)=needK L j k):=(show _=_ from by rw[HKS.out,HND.out];unfold ndS;rw[if_pos hz,List.append_nil])
       have hzl:ms.length=0:=by rw[hz];rfl
       rw[hzl] at d3
       clear hz hzl hml
       go_wp2
       go_roundw
       case rel=>exact⟨k+1,xs,by omega,by go_num,by rw[HK2.out];exact HOX⟩
       case measure=>simp[intOf];omega
      ·have HK2:Hid (needK L j (k+1)=needK L j k ++ [⟨⟨key,ver⟩,hd.length,ms⟩]):=(show _=_ from by rw[HKS.out,HND.out];unfold ndS;rw[if_neg hz])
       obtain⟨lm,hlm⟩:∃lm,lm=ms.length:=⟨_,rfl⟩
       have hlp:0<lm:=by rw[hlm];exact List.length_pos_iff.2 hz
       rw[←hlm] at d3 hml
       have HLM:=Lib.hid hlm
       clear hz hlm
       have HXL1:=HXL.out
       go_wp2_with (at_builtin;refine wpList_append_own _ rfl _ _ 44 rfl w1.heap.size 71 i0 (.agg #[.string { data:=#[] },.int .i64 0,.slice none 0 0,.slice none 0 0]) 4 72 Tryz.underlying44 hi hz0 hz1 hz2 rfl (by decide) _ _ _ rfl (HOX.out.row.alloc _) ⟨wr.heap.size,0,none⟩ 1 1 [.string key,.int .i64 ver,.slice ph hd.length ch,.slice pm lm cm] rfl rfl ?c1 ?c2 ?c3 ?c4 ?c5 ?_)
       case c1=>exact task_new _ _ _ _ _ _
       case c2=>intro u hu;simp at hu;rcases hu with rfl|rfl|rfl|rfl <;> rfl
       case c3=>unfold maxLen;omega
       case c4=>omega
       case c5=>have:=HOX.out.gr.size;simp;omega
       intro v' w9 ho hg9 _
       have HN9:=Lib.hid (HOX.out.add (World.grownBy_alloc _ _ none) ⟨⟨⟨key,ver⟩,hd.length,ms⟩,ph,ch,pm,cm,hd⟩ HOK.out HHD.out.symm (by rw[HLM.out] at ho;exact ho) hg9)
       clear ho hg9 HXL1
       go_wp2
       go_roundw
       case rel=>exact⟨k+1,_,by omega,by go_num,by rw[HK2.out];exact HN9⟩
       case measure=>simp[intOf];omega
  ·obtain rfl:k=q:=by omega
   have hO2:=hO.out
   rw[HEND.out] at hO2
   have HO:=Lib.hid hO2
   clear hO hO2
   go_wp2
   go_ret
   exact⟨_,xs,rfl,HO.out.nrow,HO.out.rowv,HO.out.eq,HO.out.hh,grown_trans HG.out HO.out.gr⟩
theorem needs_any (h:At bs w tb L) (N:Nat) (hN:N≤1000) (hf:∀i,Fits (memH L.holds i)) (hhl:∀i,(holdL L i).length≤1000) (hll:L.lives.length≤1000000) (hr:∀p∈L.values,p.1.size≤maxLen) (hl:L.values.length≤1000000) :
  Calls Tryz.prog 19 #[.pointer (some ⟨tb,0,none⟩),.int .i64 N] w fun e w'=>∃v,e = .returned v∧NRow w' v (needL L N)∧w.grownBy w' none:=
 (needsV_any h N hN hf hhl hll hr hl).mono fun _ _ ⟨v,_,h1,h2,_,_,_,h3⟩=>⟨v,h1,h2,h3⟩
end
end Go.Proofs.YtjfelfjobeeenaaGreat
