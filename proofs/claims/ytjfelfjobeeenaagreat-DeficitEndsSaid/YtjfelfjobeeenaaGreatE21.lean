/- The running state of a law over a table, with blocks of its own; a table's calls at it. Conditions: a table that commands have made. The example that the laws fall back on: works() answers true: the walk. Rows of commands that came in; large(): the walk. Conditions: a row of commands in memory. TableRises: its states. Conditions: none. deficit.Needs: what it answers, in plain Lean, and its row in memory. Conditions: none. -/
import Derived.Test.YtjfelfjobeeenaaGreatE14
import Derived.Test.YtjfelfjobeeenaaGreatE20
import Derived.Test.YtjfelfjobeeenaaGreatE10
set_option linter.unusedSimpArgs false
set_option linter.unusedVariables false
namespace Go.Proofs.YtjfelfjobeeenaaGreat
open Go.RowKit Go.Sf Go.Shelf
theorem mapT_at {K V:Type} {ek:K→Value} {ev:V→Value} {w w':World} {b:Nat} {m:List (K × V)} (h:MapT w b ek ev m) (e:w'.heap[b]? = w.heap[b]?):MapT w' b ek ev m:=by
 obtain⟨es,clock,hb,hs,he⟩:=h
 exact⟨es,clock,e.trans hb,hs,he⟩
theorem TRep.same {w W:World} {tb:Nat} {T:Tab} (h:TRep w tb T) (hs:∀b∈T.blocks tb,W.heap[b]? = w.heap[b]?):TRep W tb T where
 cells:=(hs _ (by simp[Tab.blocks])).trans h.cells
 lives:=(hs _ (by simp[Tab.blocks])).trans h.lives
 calls:=mapT_at h.calls (hs _ (by simp[Tab.blocks]))
 values:=mapT_at h.values (hs _ (by simp[Tab.blocks]))
 pending:=mapT_at h.pending (hs _ (by simp[Tab.blocks]))
 holds:=mapT_at h.holds (hs _ (by simp[Tab.blocks]))
 refuses:=mapT_at h.refuses (hs _ (by simp[Tab.blocks]))
 hsets:=fun x hx=>mapT_at (h.hsets x hx) (hs _ (by simp only[Tab.blocks,List.mem_cons,List.mem_append,List.mem_map];exact Or.inr (Or.inr (Or.inr (Or.inr (Or.inr (Or.inr (Or.inr (Or.inl ⟨x,hx,rfl⟩)))))))))
 rsets:=fun x hx=>mapT_at (h.rsets x hx) (hs _ (by simp only[Tab.blocks,List.mem_cons,List.mem_append,List.mem_map];exact Or.inr (Or.inr (Or.inr (Or.inr (Or.inr (Or.inr (Or.inr (Or.inr ⟨x,hx,rfl⟩)))))))))
 nodup:=h.nodup
theorem At.same {bs:Nat→Prop} {w W:World} {tb:Nat} {L:Tab} (h:At bs w tb L) (hs:∀k,k<w.heap.size→bs k→W.heap[k]? = w.heap[k]?):At bs W tb L:=by
 obtain⟨T,h1,h2,h3⟩:=h.ex
 exact⟨T,h1.same fun b hb=>hs b (h1.lt b hb) (h3 b hb),h2,h3⟩
structure RSt (w:World) (own:Nat→Prop) (tb:Nat) (L:Tab) (W:World):Prop where
 tab:At (fun k=>w.heap.size≤k∧¬own k) W tb L
 base:w.grownBy W none
 lt:∀g,own g→g<W.heap.size
def Same (own:Nat→Prop) (W W':World):Prop:=∀k,own k→W'.heap[k]? = W.heap[k]?
def actT (L:Tab) (c:Cmd):Tab:=if mayB c=true∧c.node<(L.lives.length:Int) then stepT L c else L
theorem may_kind {c:Cmd} (h:mayB c=true):1≤c.kind∧c.kind≤7∧0≤c.node:=by
 unfold mayB smallB at h
 simp only[Bool.and_eq_true,decide_eq_true_eq] at h
 omega
section
variable {n k : Nat} {L : Tab}
theorem act_inv (h:Inv n k L) (c:Cmd):Inv n k (actT L c):=by
 unfold actT
 split
 ·rename_i hm
  have:=may_kind hm.1
  exact inv_step h c ⟨this.2.2,by have:=h.ln;omega⟩
 ·exact h
theorem act_clean (h:Inv n k L) (hc:Clean L) (c:Cmd):Clean (actT L c):=by
 unfold actT
 split
 ·rename_i hm
  have:=may_kind hm.1
  exact clean_step h c ⟨this.2.2,by have:=h.ln;omega⟩
 ·exact hc
theorem Inv.fits (h:Inv n k L) (hn:n≤1000000) (i:ID):Fits (memH L.holds i):=
 fits_small ⟨fun x hx=>by have:=(h.hm.len i).2 x hx;omega,by have:=(h.hm.len i).1;omega⟩
theorem Inv.ok (h:Inv n k L) (hn:n≤1000000) (ho:L.offers<1000000) (hx:L.next<1000000):L.Ok:=
 ⟨h.o0,by omega,by have:=h.nx;omega,by omega,by rw[h.ln];omega,fun i=>by have:=(h.rm.len i).1;omega⟩
end
section
variable {w W W' : World} {own : Nat → Prop} {tb : Nat} {L : Tab}
theorem do_act {bs:Nat→Prop} {n k:Nat} (h:At bs W tb L) (hI:Inv n k L) (hn:n≤1000000) (ho:L.offers<1000000) (hx:L.next<1000000) (c:Cmd) (hkey:(c.key.size:Int)≤9223372036854775807) (hbs:∀k,W.heap.size≤k→bs k) :
  Calls Tryz.prog 22 #[.pointer (some ⟨tb,0,none⟩),encCmd c] W fun e w'=>e = .returned (.int .i64 (if mayB c=true∧c.node<(L.lives.length:Int) then 0 else 2))∧At bs w' tb (actT L c)∧Out bs W w':=by
 unfold actT
 by_cases hm:mayB c=true
 ·by_cases hc:c.node<(L.lives.length:Int)
  ·rw[if_pos ⟨hm,hc⟩,if_pos ⟨hm,hc⟩]
   have:=may_kind hm
   exact do_at h c hkey (hI.ok hn ho hx) hm hc this.1 this.2.1 this.2.2 hbs
  ·rw[if_neg (fun e=>hc e.2),if_neg (fun e=>hc e.2)]
   obtain⟨T,h1,h2,h3⟩:=h.ex
   have e:T.lives.length=L.lives.length:=by rw[←h2];rfl
   have hl:=hI.ln
   refine(do_bad2 h1 c hkey (by omega) hm (by omega)).mono ?_
   rintro e w' ⟨a,b⟩
   exact⟨a,h.grown b,Out.of_grown b _⟩
 ·rw[if_neg (fun e=>hm e.1),if_neg (fun e=>hm e.1)]
  obtain⟨T,h1,h2,h3⟩:=h.ex
  have e:T.lives.length=L.lives.length:=by rw[←h2];rfl
  have hl:=hI.ln
  refine(do_bad1 h1 c hkey (by omega) (by simpa using hm)).mono ?_
  rintro e w' ⟨a,b⟩
  exact⟨a,h.grown b,Out.of_grown b _⟩
end
def cmdCells (c:Cmd):List Value:=[.int .u8 c.kind,.int .i64 c.node,.int .i64 c.client,.int .i64 c.inc,.int .i64 c.req,.int .i64 c.ver,.string c.key,.int .i64 c.code]
attribute [local irreducible] stepT memH look wantedB callV in
def CmdRow (w:World) (base:Nat) (v:Value) (l:List Cmd):Prop:=
 ∃p cap,v = .slice p l.length cap∧l.length≤9223372036854775807∧(∀c∈l,(c.key.size:Int)≤9223372036854775807)∧(l = []∨∃b off,p=some ⟨b,off,none⟩∧b<base∧∀i,i<l.length→∀j u,(cmdCells (l.getD i wkD))[j]? = some u→w.cell? ⟨b,off+i*8+j,none⟩=some u)
theorem alloc_kept {X W:World} {c:Array Value} {t:TypeId} (h:(X.alloc (.cells c t)).grownBy W none):W.heap[X.heap.size]? = some (.cells c t (0,0)):=
 (h.block X.heap.size (by simp) (by simp)).trans (World.alloc_heap_new X _)
theorem alloc_kept' {X W:World} {c:Array Value} {t:TypeId} (h:(X.alloc (.cells c t)).drew.grownBy W none):W.heap[X.heap.size]? = some (.cells c t (0,0)):=
 (h.block X.heap.size (by show X.heap.size<(X.alloc (.cells c t)).heap.size;simp) (by simp)).trans (World.alloc_heap_new X _)
theorem kept_block {A B:World} {g:Nat} {o:Obj} (h:A.heap[g]? = some o) (hg:A.grownBy B none):B.heap[g]? = some o:=
 (hg.block g (Array.getElem?_eq_some_iff.1 h).1 (by simp)).trans h
theorem four {W:World} {g:Nat} {a b c d:Value} {t:TypeId} (h:W.heap[g]? = some (.cells #[a,b,c,d] t (0,0))) :
  W.cell? ⟨g,0,none⟩=some a∧W.cell? ⟨g,1,none⟩=some b∧W.cell? ⟨g,2,none⟩=some c∧W.cell? ⟨g,3,none⟩=some d∧W.frozen? ⟨g,0,none⟩=false∧W.frozen? ⟨g,1,none⟩=false∧W.frozen? ⟨g,2,none⟩=false∧W.frozen? ⟨g,3,none⟩=false:=
 ⟨(cell_block h 0).trans rfl,(cell_block h 1).trans rfl,(cell_block h 2).trans rfl,(cell_block h 3).trans rfl,free_block h 0,free_block h 1,free_block h 2,free_block h 3⟩
structure Bx (w:World) (c:Cmd) (cv:CallT) (lost:Value) (lostL:List ID) (g1 g2:Nat) (pv:Value) (pl:List ID) (W:World):Prop where
 c:W.heap[g1]? = some (.cells (cmdCells c).toArray 24 (0,0))
 call:W.heap[g2]? = some (.cells #[.int .i64 cv.req,.int .i64 cv.ver,.bool cv.done,.int .i64 cv.code] 77 (0,0))
 pend:IdRow w.heap.size W pv pl
 row:IdRow w.heap.size W lost lostL
 ne:g1≠g2
 ne2:∀g,lost.ownBlock=some g→pv.ownBlock≠some g
theorem set4 {W:World} {g:Nat} {a b c d:Value} {t:TypeId} (h:W.heap[g]? = some (.cells #[a,b,c,d] t (0,0))) (x0 x1 x2 x3:Value) :
  ((((W.setCell ⟨g,0,none⟩ x0).setCell ⟨g,1,none⟩ x1).setCell ⟨g,2,none⟩ x2).setCell ⟨g,3,none⟩ x3).heap[g]? = some (.cells #[x0,x1,x2,x3] t (0,0))∧
  W.grownBy ((((W.setCell ⟨g,0,none⟩ x0).setCell ⟨g,1,none⟩ x1).setCell ⟨g,2,none⟩ x2).setCell ⟨g,3,none⟩ x3) (some g):=by
 constructor
 ·simp[World.setCell,Array.getElem?_modify,h]
 ·have e:∀(W:World) (o:Nat) (x:Value),W.grownBy (W.setCell ⟨g,o,none⟩ x) (some g):=fun W o x=>
   ⟨rfl,rfl,rfl,by simp[World.setCell],fun k _ hk=>Below.heap_setCell _ _ _ k (fun e=>hk (by rw[e]))⟩
  have tr:∀{A B C:World},A.grownBy B (some g)→B.grownBy C (some g)→A.grownBy C (some g):=fun h1 h2=>
   ⟨h2.os.trans h1.os,h2.tape.trans h1.tape,h2.output.trans h1.output,Nat.le_trans h1.size h2.size,fun k hk hn=>(h2.block k (Nat.lt_of_lt_of_le hk h1.size) hn).trans (h1.block k hk hn)⟩
  exact tr (tr (tr (e _ _ _) (e _ _ _)) (e _ _ _)) (e _ _ _)
section
variable {w : World} {n tb : Nat} {L0 L L' : Tab} {c : Cmd} {cv : CallT} {lost : Value} {lostL : List ID} {g1 g2 : Nat} {pv : Value} {pl : List ID} {lv : Value} {W W' : World}
end
section
variable {w : World} {own : Nat → Prop} {tb : Nat} {L : Tab} {W V : World}
end
inductive ToldS (k:Nat) (L:Tab) (x:ID):Prop where
 | pend (h1:wantedB L x=true) (h2:look L x.key≠x.ver)
 | cur (h1:look L x.key=x.ver) (h2:k≤(memH L.holds x).length)
 | lost (h1:wantedB L x=false) (h2:look L x.key≠x.ver)
theorem told {n k:Nat} {L L':Tab} {c:Cmd} (hI:Inv n k L) (hR:Rise k c L L') {x:ID} (hx:x∈L.pending.map (·.1)):ToldS k L' x∧1≤x.ver∧x.ver<L'.next:=by
 obtain⟨p,hp,rfl⟩:=List.mem_map.1 hx
 have hv:=hI.pv p hp
 have hn:=hR.nx
 refine⟨?_,hv.1,by omega⟩
 by_cases h:look L' p.1.key=p.1.ver
 ·exact .cur h (hR.pend p hp h)
 ·cases hw:wantedB L' p.1 with
  | true=>exact .pend hw h
  | false=>exact .lost hw h
structure Pl (w:World) (tb:Nat) (L:Tab) (pv:Value) (pl:List ID) (lost:Value) (lst:List ID) (b:Nat) (W:World):Prop where
 st:RSt w (fun _=>False) tb L W
 pend:IdRow w.heap.size W pv pl
 row:IdRow w.heap.size W lost lst
 gone:∀x∈lst,x.ver<L.next∧wantedB L x=false
 len:lst.length≤b
 ne:∀g,lost.ownBlock=some g→pv.ownBlock≠some g
def misN (L:Tab) (i:ID) (k:Nat):List Int:=((List.range k).map fun (j:Nat)=>(j:Int)).filter fun x=>decide (0<lifeV L x) && !decide (x∈holdL L i)
theorem misN_succ (L:Tab) (i:ID) (k:Nat):misN L i (k+1)=misN L i k++(if (decide (0<lifeV L k) && !decide ((k:Int)∈holdL L i))=true then [(k:Int)] else []):=by
 unfold misN
 rw[List.range_succ,List.map_append,List.filter_append]
 simp only[List.map_cons,List.map_nil,List.filter_cons,List.filter_nil]
theorem misN_len (L:Tab) (i:ID) (k:Nat):(misN L i k).length≤k:=by
 unfold misN
 exact Nat.le_trans (List.length_filter_le _ _) (by simp)
def ndL (L:Tab) (N:Nat) (i:ID):Nd:=⟨i,(holdL L i).length,misN L i N⟩
def ndS (nd:Nd):List Nd:=if nd.mis = [] then [] else [nd]
def needK (L:Tab) (N k:Nat):List Nd:=((curL L).take k).flatMap fun i=>ndS (ndL L N i)
def needL (L:Tab) (N:Nat):List Nd:=(curL L).flatMap fun i=>ndS (ndL L N i)
theorem needK_succ {L:Tab} {N k:Nat} {i:ID} (h:(curL L)[k]? = some i):needK L N (k+1)=needK L N k++ndS (ndL L N i):=by
 obtain⟨h1,rfl⟩:=List.getElem?_eq_some_iff.1 h
 unfold needK
 rw[List.take_succ_eq_append_getElem h1,List.flatMap_append];simp
theorem needK_len (L:Tab) (N:Nat):∀k,(needK L N k).length≤k:=by
 intro k
 unfold needK
 have:∀l:List ID,(l.flatMap fun i=>ndS (ndL L N i)).length≤l.length:=by
  intro l
  induction l with
  | nil=>simp
  | cons a r ih=>
   rw[List.flatMap_cons,List.length_append,List.length_cons]
   have:(ndS (ndL L N a)).length≤1:=by unfold ndS;split <;> simp
   omega
 exact Nat.le_trans (this _) (List.length_take_le _ _)
structure Ndv where
 nd:Nd
 ph:Option Addr
 ch:Nat
 pm:Option Addr
 cm:Nat
def ndvCells (x:Ndv):List Value:=[.string x.nd.id.key,.int .i64 x.nd.id.ver,.slice x.ph x.nd.held x.ch,.slice x.pm x.nd.mis.length x.cm]
def NdvOk (W:World) (x:Ndv):Prop:=x.nd.mis = []∨∃gm,x.pm=some ⟨gm,0,none⟩∧(∃c,W.heap[gm]? = some (.cells c 3 (0,0)))∧∀(j:Nat) (y:Int),x.nd.mis[j]? = some y→W.cell? ⟨gm,j,none⟩=some (.int .i64 y)
theorem NdvOk.turn {W W':World} {x:Ndv} (h:NdvOk W x) {row:Option Nat} (hg:W.grownBy W' row) (hr:∀r,row=some r→∀c,W.heap[r]?≠some (.cells c 3 (0,0))):NdvOk W' x:=by
 rcases h with h|⟨gm,e,⟨c,hc⟩,hy⟩
 ·exact Or.inl h
 ·have hk:=hg.block gm (Array.getElem?_eq_some_iff.1 hc).1 (fun e=>hr gm e.symm c hc)
  exact Or.inr ⟨gm,e,⟨c,hk.trans hc⟩,fun j y hj=>(World.cell?_of_block (a:=⟨gm,j,none⟩) hk).trans (hy j y hj)⟩
structure NOut (w0 W:World) (v:Value) (xs:List Ndv) (l:List Nd):Prop where
 row:W.ownsRow w0.heap.size 71 4 v xs.length (xs.flatMap ndvCells)
 ok:∀x∈xs,NdvOk W x
 eq:xs.map (·.nd)=l
 gr:w0.grownBy W none
theorem NOut.kept {w0 W W':World} {v:Value} {xs:List Ndv} {l:List Nd} (h:NOut w0 W v xs l) (hg:W.grownBy W' none):NOut w0 W' v xs l:=
 ⟨h.row.kept hg (by cases hv:v.ownBlock <;> simp),fun x hx=>(h.ok x hx).turn hg (fun r e=>by cases e),h.eq,grown_trans h.gr hg⟩
theorem NOut.add {w0 W W2 W':World} {v v':Value} {xs:List Ndv} {l:List Nd} (h:NOut w0 W v xs l) (hg:W.grownBy W2 none) (x:Ndv) (hx:NdvOk W x) (ho:W'.ownsRow w0.heap.size 71 4 v' (xs.length+1) (xs.flatMap ndvCells++ndvCells x)) (hg2:W2.grownBy W' v.ownBlock):NOut w0 W' v' (xs ++ [x]) (l ++ [x.nd]):=by
 have hno:∀r,v.ownBlock=some r→∀c,W2.heap[r]?≠some (.cells c 3 (0,0)):=fun r e c hc=>by
  obtain⟨c2,hc2⟩:=own_ty (h.kept hg).row e
  rw[hc] at hc2
  injection hc2 with e1
  injection e1 with e2 e3
  exact absurd e3 (by decide)
 refine⟨by simpa[List.flatMap_append] using ho,fun y hy=>?_,by simp[h.eq],grown_own (grown_trans h.gr hg) hg2 (row_base h.row)⟩
 have hyW:NdvOk W y:=by
  rcases List.mem_append.1 hy with hy|hy
  ·exact h.ok y hy
  ·obtain rfl:=List.mem_singleton.1 hy;exact hx
 exact(hyW.turn hg (fun r e=>by cases e)).turn hg2 hno
theorem NOut.nrow {w0 W:World} {v:Value} {xs:List Ndv} {l:List Nd} (h:NOut w0 W v xs l):NRow W v l:=by
 have hS:SRow W 71 4 ndvCells v xs:=⟨h.row.1,h.row.2.imp id fun ⟨b,cap,cur,e,_,rest⟩=>⟨b,cap,cur,e,Nat.zero_le _,rest⟩⟩
 obtain⟨p,cap,e,_,_⟩:=hS.form
 have hle:xs.length=l.length:=by rw[←h.eq];simp
 refine⟨p,cap,by rw[←hle];exact e,?_⟩
 rcases hS.at (fun x=>(rfl:(ndvCells x).length=4)) with h0|⟨g,cap2,e2,hc,_⟩
 ·left;rw[←h.eq,h0];rfl
 ·rw[e] at e2
  injection e2 with e3 _ _
  refine Or.inr ⟨g,e3,fun i nd hi=>?_⟩
  rw[←h.eq,List.getElem?_map] at hi
  cases hx:xs[i]? with
  | none=>rw[hx] at hi;cases hi
  | some x=>
   rw[hx] at hi
   obtain rfl:=Option.some.inj hi
   obtain⟨h1,h2⟩:=List.getElem?_eq_some_iff.1 hx
   have hcc:=hc i h1
   rw[h2] at hcc
   have hok:=h.ok x (List.mem_of_getElem? hx)
   exact⟨x.ph,x.pm,x.ch,x.cm,by simpa using hcc 0 _ rfl,hcc 1 _ rfl,hcc 2 _ rfl,hcc 3 _ rfl,hok.imp id fun ⟨gm,e4,_,hy⟩=>⟨gm,e4,hy⟩⟩
theorem NOut.len {w0 W:World} {v:Value} {xs:List Ndv} {l:List Nd} (h:NOut w0 W v xs l):xs.length=l.length:=by rw[←h.eq];simp
theorem infoNeed:(Tryz.prog.info? 71).map (fun i=>(i.zero,i.size,i.bytes))=some (some (.agg #[.string { data:=#[] },.int .i64 0,.slice none 0 0,.slice none 0 0]),4,72):=by kernel_rfl
structure NBox (wx W:World) (bn:Nat) (key:ByteArray) (ver:Int) (ph:Option Addr) (held ch:Nat) (pm:Option Addr) (ms:List Int) (cm:Nat):Prop where
 box:W.heap[bn]? = some (.cells #[.string key,.int .i64 ver,.slice ph held ch,.slice pm ms.length cm] 71 (0,0))
 row:W.ownsRow wx.heap.size 3 1 (.slice pm ms.length cm) ms.length (ms.map (Value.int .i64))
 gr:wx.grownBy W (some bn)
theorem grown_rowN {A B C:World} {r:Nat} (h:A.grownBy B (some r)) (g:B.grownBy C none):A.grownBy C (some r):=
 ⟨g.os.trans h.os,g.tape.trans h.tape,g.output.trans h.output,Nat.le_trans h.size g.size,fun k hk hn=>(g.block k (Nat.lt_of_lt_of_le hk h.size) (by simp)).trans (h.block k hk hn)⟩
theorem NBox.kept {wx W W':World} {bn:Nat} {key:ByteArray} {ver:Int} {ph:Option Addr} {held ch:Nat} {pm:Option Addr} {ms:List Int} {cm:Nat} (h:NBox wx W bn key ver ph held ch pm ms cm) (hg:W.grownBy W' none):NBox wx W' bn key ver ph held ch pm ms cm:=
 ⟨kept_block h.box hg,h.row.kept hg (by cases hv:(Value.slice pm ms.length cm).ownBlock <;> simp),grown_rowN h.gr hg⟩
theorem NBox.add {wx W W2 W':World} {bn:Nat} {key:ByteArray} {ver:Int} {ph:Option Addr} {held ch:Nat} {pm pm':Option Addr} {ms:List Int} {cm cm':Nat} (h:NBox wx W bn key ver ph held ch pm ms cm) (hg:W.grownBy W2 none) (x:Int) (hbx:bn<wx.heap.size)
  (ho:W'.ownsRow wx.heap.size 3 1 (.slice pm' (ms.length+1) cm') (ms.length+1) (ms.map (Value.int .i64) ++ [.int .i64 x])) (hg2:W2.grownBy W' (Value.slice pm ms.length cm).ownBlock) :
  W'.heap[bn]? = some (.cells #[.string key,.int .i64 ver,.slice ph held ch,.slice pm ms.length cm] 71 (0,0))∧NBox wx (W'.setCell ⟨bn,3,none⟩ (.slice pm' (ms.length+1) cm')) bn key ver ph held ch pm' (ms ++ [x]) cm':=by
 have hb2:=kept_block h.box hg
 have hb3:W'.heap[bn]? = some (.cells #[.string key,.int .i64 ver,.slice ph held ch,.slice pm ms.length cm] 71 (0,0)):=by
  refine(hg2.block bn (Array.getElem?_eq_some_iff.1 hb2).1 (fun e=>?_)).trans hb2
  obtain⟨c2,hc2⟩:=own_ty (h.kept hg).row e.symm
  rw[hb2] at hc2
  injection hc2 with e1
  injection e1 with e2 e3
  exact absurd e3 (by decide)
 have hst:W'.grownBy (W'.setCell ⟨bn,3,none⟩ (.slice pm' (ms.length+1) cm')) (some bn):=⟨rfl,rfl,rfl,by simp[World.setCell],fun k _ hk=>Below.heap_setCell _ _ _ k (fun e=>hk (by rw[e]))⟩
 refine⟨hb3,?_,?_,?_⟩
 ·simp[World.setCell,Array.getElem?_modify,hb3]
 ·have:=ho.kept hst (.inr (fun e=>by
   obtain⟨c2,hc2⟩:=own_ty ho e
   rw[hb3] at hc2
   injection hc2 with e1
   injection e1 with e2 e3
   exact absurd e3 (by decide)))
  simpa using this
 ·have h2:=grown_rowN h.gr hg
  refine⟨hst.os.trans (hg2.os.trans h2.os),hst.tape.trans (hg2.tape.trans h2.tape),hst.output.trans (hg2.output.trans h2.output),Nat.le_trans h2.size (Nat.le_trans hg2.size hst.size),fun k hk hn=>?_⟩
  have k1:=h2.block k hk hn
  have k2:=hg2.block k (Nat.lt_of_lt_of_le hk h2.size) (fun e=>by
   have:=row_base (h.kept hg).row k e.symm
   omega)
  have k3:=hst.block k (Nat.lt_of_lt_of_le hk (Nat.le_trans h2.size hg2.size)) hn
  rw[k3,k2,k1]
end Go.Proofs.YtjfelfjobeeenaaGreat
