/- A table without its blocks' numbers, and what the calls do to it. Conditions: a table that lies in memory. cmp.Compare, cmp.Or, and how ids are ordered: the walks. Conditions: none. slices.Collect over the keys of a map whose keys are ids. Conditions: a map that lies in memory, not too many keys. DERIVED: THE SHELF's CONTRACTS AT THIS DUMP, IN PLAIN WORDS (tools/lay-plain.mjs out of 'YtjfelfjobeeenaaGreatLayFX.lean', which tools/lay-shelf.mjs wrote): THE SAME DECLARATIONS UNDER THE SAME NAMES: 'import', 'namespace', 'open', 'def', 'theorem' AND NOTHING ELSE: no command of the shelf's: FOR A HAND-IN. Each laying: the table of numbers ('.._ren') and one theorem, a field a fact of the dump's own or the kernel's comparison; each contract: ONE APPLICATION. What Pending answers: the ids that are pending, in order. Conditions: a table that lies in memory, not too many ids. The plain law of a stable sort by symmetric merges: what a merge's halves are, and that two sorted halves make a sorted whole. Conditions: an order that is total and goes through. How tasks are ordered: cmp.Or at four numbers, deficit's order, walked; the order is total. Conditions: none. The tasks' order is total, and leaves none beside another one. Conditions: none. -/
import Derived.Test.YtjfelfjobeeenaaGreatF9
import Derived.Test.YtjfelfjobeeenaaGreatF8
import Derived.Shelf.SlSortCmp.WholeK
import Derived.Deep.RegionHeld3
import Derived.RangeFuncNested
import Derived.RangeFuncLeaves
import Derived.Shelf.Abstract
import Derived.WalkKit
import Derived.OwnWalkIn
import Derived.TacticsInMore
import Derived.RegionIn
import Derived.LoopNIn
import Derived.LoopIn
import Derived.Maps.OwnIn
import Derived.Maps.AppendAt
import Derived.Shelf.SlLaysF0
import Derived.Ground.SlsfProg
import Derived.Shelf.SlGeneric
import Derived.Test.YtjfelfjobeeenaaGreatProg
import Derived.Sort.OwnSorted
import Derived.Sort.Walk0
import Derived.Shelf.SlSortCmp.NoneTotal
set_option linter.unusedSimpArgs false
set_option linter.unusedVariables false
namespace Go.Proofs.YtjfelfjobeeenaaGreat
open Go.RowKit Go.Sf Go.Shelf
def nsets (m:List (ID × NSet)):List (ID × NSet):=m.map fun p=>(p.1,⟨0,p.2.mem⟩)
def Tab.norm (T:Tab):Tab:={ T with holds:=nsets T.holds,refuses:=nsets T.refuses,lb:=0,cb:=0,vb:=0,pb:=0,hb:=0,rb:=0 }
theorem mget_nsets (m:List (ID × NSet)) (i:ID):mget (nsets m) i=(mget m i).map fun s=>⟨0,s.mem⟩:=by
 unfold nsets
 induction m with
 | nil=>rfl
 | cons p r ih=>
  simp only[List.map_cons,mget]
  by_cases e:p.1=i
  ·rw[if_pos e,if_pos e];rfl
  ·rw[if_neg e,if_neg e];exact ih
theorem memH_nsets (m:List (ID × NSet)) (i:ID):memH (nsets m) i=memH m i:=by
 unfold memH;rw[mget_nsets];cases mget m i <;> rfl
theorem smod_nsets (m:List (ID × NSet)) (i:ID) (f:List Int→List Int):nsets (smod m i f)=smod (nsets m) i f:=by
 unfold nsets smod
 rw[List.map_map,List.map_map]
 apply List.map_congr_left
 intro p _
 simp only[Function.comp]
 split <;> rfl
theorem sadd_nsets (m:List (ID × NSet)) (i:ID) (n:Int) (nb:Nat):nsets (sadd m i n nb)=sadd (nsets m) i n 0:=by
 unfold sadd
 rw[mget_nsets]
 cases h:mget m i with
 | none=>simp[nsets]
 | some s=>simp only[Option.isSome_some,Option.map_some,if_true];exact smod_nsets m i _
theorem sdelAll_nsets (m:List (ID × NSet)) (n:Int):nsets (sdelAll m n)=sdelAll (nsets m) n:=by
 unfold nsets sdelAll
 rw[List.map_map,List.map_map]
 rfl
theorem norm_held (T:Tab) (i:ID) (n:Int) (nb:Nat):(heldT T i n nb).norm=heldT T.norm i n 0:=by
 unfold heldT Tab.norm
 simp only[sadd_nsets,smod_nsets]
theorem norm_refused (T:Tab) (i:ID) (n:Int) (nb:Nat):(refusedT T i n nb).norm=refusedT T.norm i n 0:=by
 unfold refusedT Tab.norm
 simp only[sadd_nsets,smod_nsets]
theorem norm_ackRest (T:Tab) (c:Cmd):(ackRest T c).norm=ackRest T.norm c:=by
 unfold ackRest
 show _=(match mget T.pending ⟨c.key,c.ver⟩ with|none=>T.norm|some p=>if ((memH (nsets T.holds) ⟨c.key,c.ver⟩).length:Int)<T.w then T.norm else if (lookV T c.key).ver<c.ver then { doneT T.norm ⟨c.key,c.ver⟩ p 0 with values:=mput T.values c.key ⟨c.ver,false⟩ } else doneT T.norm ⟨c.key,c.ver⟩ p 0)
 cases mget T.pending ⟨c.key,c.ver⟩ with
 | none=>rfl
 | some p=>
  simp only[memH_nsets]
  split
  ·rfl
  ·split <;> rfl
theorem norm_ack (T:Tab) (c:Cmd) (nb:Nat):(ackT T c nb).norm=ackT T.norm c 0:=by
 unfold ackT
 show _=if ackB T c=true then _ else _
 split
 ·rw[norm_ackRest,norm_held]
 ·rfl
theorem norm_refRest (T:Tab) (c:Cmd):(refRest T c).norm=refRest T.norm c:=by
 unfold refRest
 show _=(match mget T.pending ⟨c.key,c.ver⟩ with|none=>T.norm|some p=>if (T.lives.length:Int)-(memH (nsets T.refuses) ⟨c.key,c.ver⟩).length<T.w then doneT T.norm ⟨c.key,c.ver⟩ p 181 else T.norm)
 cases mget T.pending ⟨c.key,c.ver⟩ with
 | none=>rfl
 | some p=>
  simp only[memH_nsets]
  split <;> rfl
theorem norm_ref (T:Tab) (c:Cmd) (nb:Nat):(refuseT T c nb).norm=refuseT T.norm c 0:=by
 unfold refuseT
 show _=if refB T c=true then _ else _
 split
 ·rw[norm_refRest,norm_refused]
 ·rfl
theorem norm_life (T:Tab) (c:Cmd):(lifeT T c).norm=lifeT T.norm c:=by
 unfold lifeT
 show _=if lifeB T c=true then _ else _
 split
 ·unfold lifeStep Tab.norm
  simp[sdelAll_nsets]
 ·rfl
theorem norm_op (T:Tab) (c:Cmd) (nb:Nat):(opT T c nb).norm=opT T.norm c 0:=by
 unfold opT
 repeat' split
 ·rfl
 ·exact norm_life T c
 ·unfold beganT
  show _=if beginsB T c=true then _ else _
  split <;> rfl
 ·exact norm_ack T c nb
 ·exact norm_ref T c nb
 ·unfold removedT
  show _=if beginsB T c=true then _ else _
  split <;> rfl
 ·unfold rejectedT
  show _=if beginsB T c=true then _ else _
  split <;> rfl
theorem norm_clean (T:Tab):(cleanT T).norm=cleanT T.norm:=by
 unfold cleanT Tab.norm nsets
 simp only[List.filter_map]
 rfl
def stepT (T:Tab) (c:Cmd):Tab:=doT T c 0
theorem norm_do (T:Tab) (c:Cmd) (nb:Nat):(doT T c nb).norm=stepT T.norm c:=by
 unfold stepT doT
 rw[norm_clean,norm_op]
structure At (bs:Nat→Prop) (w:World) (tb:Nat) (L:Tab):Prop where
 ex:∃T,TRep w tb T∧T.norm=L∧∀b∈T.blocks tb,bs b
structure Out (bs:Nat→Prop) (w w':World):Prop where
 os:w'.os=w.os
 tape:w'.tape=w.tape
 output:w'.output=w.output
 size:w.heap.size≤w'.heap.size
 block:∀k,k<w.heap.size→¬bs k→w'.heap[k]? = w.heap[k]?
theorem Out.of_grown {a b:World} (h:a.grownBy b none) (bs:Nat→Prop):Out bs a b:=⟨h.os,h.tape,h.output,h.size,fun k hk _=>h.block k hk (by simp)⟩
theorem At.grown {bs:Nat→Prop} {w w':World} {tb:Nat} {L:Tab} (h:At bs w tb L) (hg:w.grownBy w' none):At bs w' tb L:=by
 obtain⟨T,h1,h2,h3⟩:=h.ex
 exact⟨T,h1.grown hg,h2,h3⟩
theorem At.lt {bs:Nat→Prop} {w:World} {tb:Nat} {L:Tab} (h:At bs w tb L):tb<w.heap.size:=by
 obtain⟨T,h1,h2,h3⟩:=h.ex
 exact h1.tlt
section
variable {bs : Nat → Prop} {w : World} {tb : Nat} {L : Tab}
theorem new_at (nodes wi:Int) (N:Nat) (hN:(N:Int)=clampN nodes) (w:World) (hbs:∀k,w.heap.size≤k→bs k) :
  Calls Tryz.prog 30 #[.int .i64 nodes,.int .i64 wi] w fun e w'=>∃tb,e = .returned (.pointer (some ⟨tb,0,none⟩))∧w.heap.size≤tb∧At bs w' tb (newT N wi 0).norm∧w.grownBy w' none:=by
 refine(new_any nodes wi N hN w).mono ?_
 rintro e w' ⟨tb,he,hle,hT,hg⟩
 refine⟨tb,he,hle,⟨_,hT,rfl,?_⟩,hg⟩
 intro b hb
 apply hbs
 simp only[Tab.blocks,newT,List.map_nil,List.append_nil,List.mem_cons,List.not_mem_nil,or_false] at hb
 omega
theorem life_at (h:At bs w tb L) (n:Int) (hl:L.lives.length≤9223372036854775807):Calls Tryz.prog 23 #[.pointer (some ⟨tb,0,none⟩),.int .i64 n] w fun e w'=>e = .returned (.int .i64 (lifeV L n))∧w.grownBy w' none:=by
 obtain⟨T,h1,rfl,h3⟩:=h.ex
 exact life_any h1 n hl
theorem holdL_norm (T:Tab) (i:ID):holdL T.norm i=holdL T i:=by
 unfold holdL
 show(memH (nsets T.holds) i).mergeSort _=_
 rw[memH_nsets]
theorem holders_at (h:At bs w tb L) (i:ID) (hf:Fits (memH L.holds i)) :
  Calls Tryz.prog 37 #[.pointer (some ⟨tb,0,none⟩),encID i] w fun e w'=>∃v,e = .returned v∧Ints w w' v (holdL L i):=by
 obtain⟨T,h1,rfl,h3⟩:=h.ex
 have hf':Fits (memH T.holds i):=by
  have:memH T.norm.holds i=memH T.holds i:=memH_nsets T.holds i
  rw[this] at hf
  exact hf
 refine(holders_any h1 i hf').mono ?_
 rintro e w' ⟨v,he,hv⟩
 exact⟨v,he,by rw[holdL_norm];exact hv⟩
theorem current_at (h:At bs w tb L) (hr:∀p∈L.values,p.1.size≤maxLen) (hl:L.values.length≤1000000) :
  Calls Tryz.prog 42 #[.pointer (some ⟨tb,0,none⟩)] w fun e w'=>∃v,e = .returned v∧IdRow w.heap.size w' v (curL L)∧w.grownBy w' none:=by
 obtain⟨T,h1,rfl,h3⟩:=h.ex
 have h2:=current_any h1 hr hl
 exact h2
theorem do_at (h:At bs w tb L) (c:Cmd) (hkey:(c.key.size:Int)≤9223372036854775807) (ok:L.Ok) (hm:mayB c=true) (hn:c.node<(L.lives.length:Int)) (h1:1≤c.kind) (h7:c.kind≤7) (n0:0≤c.node) (hbs:∀k,w.heap.size≤k→bs k) :
  Calls Tryz.prog 22 #[.pointer (some ⟨tb,0,none⟩),encCmd c] w fun e w'=>e = .returned (.int .i64 0)∧At bs w' tb (stepT L c)∧Out bs w w':=by
 obtain⟨T,hT,rfl,h3⟩:=h.ex
 have ok':T.Ok:=⟨ok.o0,ok.o1,ok.n0,ok.n1,ok.ln,fun i=>by
  have:=ok.rs i
  rw[show memH T.norm.refuses i=memH T.refuses i from memH_nsets T.refuses i] at this
  exact this⟩
 refine(do_ok hT c hkey ok.ln ok' hm hn h1 h7 n0).mono ?_
 rintro e w' ⟨he,nb,hnb,hT',hC⟩
 refine⟨he,⟨_,hT',norm_do T c nb,?_⟩,⟨hC.1,hC.2.1,hC.2.2.1,hC.2.2.2.1,fun k hk hn=>hC.2.2.2.2 k hk (fun hb=>hn (h3 k hb))⟩⟩
 intro b hb
 have hsub:b∈(opT T c nb).blocks tb:=by
  simp only[doT,cleanT,Tab.blocks,List.mem_cons,List.mem_append,List.mem_map,List.mem_filter] at hb ⊢
  rcases hb with h|h|h|h|h|h|h|⟨x,⟨hx,_⟩,rfl⟩|⟨x,⟨hx,_⟩,rfl⟩
  ·exact Or.inl h
  ·exact Or.inr (Or.inl h)
  ·exact Or.inr (Or.inr (Or.inl h))
  ·exact Or.inr (Or.inr (Or.inr (Or.inl h)))
  ·exact Or.inr (Or.inr (Or.inr (Or.inr (Or.inl h))))
  ·exact Or.inr (Or.inr (Or.inr (Or.inr (Or.inr (Or.inl h)))))
  ·exact Or.inr (Or.inr (Or.inr (Or.inr (Or.inr (Or.inr (Or.inl h))))))
  ·exact Or.inr (Or.inr (Or.inr (Or.inr (Or.inr (Or.inr (Or.inr (Or.inl ⟨x,hx,rfl⟩)))))))
  ·exact Or.inr (Or.inr (Or.inr (Or.inr (Or.inr (Or.inr (Or.inr (Or.inr ⟨x,hx,rfl⟩)))))))
 rcases(opT_same T c nb).blocks tb b hsub with h|rfl
 ·exact h3 b h
 ·exact hbs _ hnb
end
open Go.RowKit Go.Sf Go.Shelf Go.Sort Go.Lib
def cmpI (a b:Int):Int:=if a<b then -1 else if b<a then 1 else 0
def cmpB (a b:ByteArray):Int:=if Op.bytesLess a.toList b.toList=true then -1 else if a=b then 0 else 1
def ordI (a b:ID):Int:=if cmpB a.key b.key=0 then cmpI a.ver b.ver else cmpB a.key b.key
set_option maxHeartbeats 1000000 in
theorem cmpI_any (a b:Int) (W:World):Calls Tryz.prog 126 #[.int .i64 a,.int .i64 b] W fun e w'=>e = .returned (.int .i64 (cmpI a b))∧w'=W:=by
 by_cases h1:a<b
 ·have hc:cmpI a b = -1:=by unfold cmpI;rw[if_pos h1]
  rw[hc]
  go_enter Tryz.func126,Tryz.ntmps126
  go_wp2
  go_ret
  exact⟨rfl,rfl⟩
 ·by_cases h2:b<a
  ·have hc:cmpI a b=1:=by unfold cmpI;rw[if_neg h1,if_pos h2]
   rw[hc]
   go_enter Tryz.func126,Tryz.ntmps126
   go_wp2
   go_ret
   exact⟨rfl,rfl⟩
  ·have hc:cmpI a b=0:=by unfold cmpI;rw[if_neg h1,if_neg h2]
   rw[hc]
   go_enter Tryz.func126,Tryz.ntmps126
   go_wp2
   go_ret
   exact⟨rfl,rfl⟩
set_option maxHeartbeats 1000000 in
theorem cmpB_any (a b:ByteArray) (W:World):Calls Tryz.prog 89 #[.string a,.string b] W fun e w'=>e = .returned (.int .i64 (cmpB a b))∧w'=W:=by
 cases h1:Op.bytesLess a.toList b.toList with
 | true=>
  have hc:cmpB a b = -1:=by unfold cmpB;rw[if_pos h1]
  rw[hc]
  go_enter Tryz.func89,Tryz.ntmps89
  go_wp2
  go_ret
  exact⟨rfl,rfl⟩
 | false=>
  cases h2:(a.toList == b.toList) with
  | true=>
   have e:a=b:=by rw[toList_eq_iff] at h2;exact of_decide_eq_true h2
   have hc:cmpB a b=0:=by unfold cmpB;rw[if_neg (by rw[h1];decide),if_pos e]
   rw[hc]
   clear e
   go_enter Tryz.func89,Tryz.ntmps89
   go_wp2
   go_ret
   exact⟨rfl,rfl⟩
  | false=>
   have e:¬a=b:=by rw[toList_eq_iff] at h2;exact of_decide_eq_false h2
   have hc:cmpB a b=1:=by unfold cmpB;rw[if_neg (by rw[h1];decide),if_neg e]
   rw[hc]
   clear e
   go_enter Tryz.func89,Tryz.ntmps89
   go_wp2
   go_ret
   exact⟨rfl,rfl⟩
end Go.Proofs.YtjfelfjobeeenaaGreat
namespace Go.Sf
open Go.RowKit Go.MapKept
section
variable {P : Program} {K V : Type} [DecidableEq K] {ek : K → Value} {ev : V → Value} (w : World) {F : Fence} {nF : Nat} {ops : Array Oper} {rest : List Oper} {o : Oper} {a : Act} {Q : Exit → Act → World → Prop}
end
section
variable {K V : Type} {ek : K → Value} {ev : V → Value} {w w' : World} {r b : Nat} {m : List (K × V)} {seen : K → Bool}
end
end Go.Sf
namespace Go.Proofs.YtjfelfjobeeenaaGreat
open Go.RowKit Go.Sf Go.Shelf Go.Maps
attribute [local go_sem] Oper.semAt_some
end Go.Proofs.YtjfelfjobeeenaaGreat
namespace Go.Proofs
open Go.Shelf
end Go.Proofs
namespace Go.Proofs.YtjfelfjobeeenaaGreat
open Go.RowKit Go.Sf Go.Shelf Go.Maps Go.Sort Go.Lib
instance:Inhabited ID:=⟨⟨⟨#[]⟩,0⟩⟩
def ltI (a b:ID):Bool:=decide (ordI a b<0)
theorem ltI_iff (a b:ID):ltI a b=true↔a.key.data.toList<b.key.data.toList∨(a.key=b.key∧a.ver<b.ver):=by
 unfold ltI ordI cmpB cmpI
 have e:Op.bytesLess a.key.toList b.key.toList=decide (a.key.data.toList<b.key.data.toList):=by
  rw[bytesLess_eq]
  rw[Lib.toList_data,Lib.toList_data]
 rw[e]
 by_cases h1:a.key.data.toList<b.key.data.toList
 ·simp[h1]
 ·by_cases h2:a.key=b.key
  ·simp[h2]
   by_cases h3:a.ver<b.ver
   ·simp[h3]
   ·by_cases h4:b.ver<a.ver <;> simp[h3,h4]
  ·simp[h1,h2]
theorem key_ext (a b:ByteArray) (h:a.data.toList=b.data.toList):a=b:=by
 cases a;cases b;simp at h;subst h;rfl
theorem key_tri (a b:ByteArray):a.data.toList<b.data.toList∨a=b∨b.data.toList<a.data.toList:=by
 rcases Std.lt_trichotomy a.data.toList b.data.toList with h|h|h
 ·exact Or.inl h
 ·exact Or.inr (Or.inl (key_ext _ _ h))
 ·exact Or.inr (Or.inr h)
theorem holdsV {w:World} {g:Nat} {cur:Array Value} {e:TypeId} {xs:List Value} (hb:w.heap[g]? = some (.cells cur e (0,0))) (ht:cur.toList.take xs.length=xs):Holds id w g 0 xs.toArray:=by
 intro j hj
 have hj':j<xs.length:=by simpa using hj
 refine⟨?_,by simp[World.frozen?,hb]⟩
 have h1:(cur.toList.take xs.length)[j]? = xs[j]?:=by rw[ht]
 rw[List.getElem?_take_of_lt hj'] at h1
 simp only[World.cell?,hb,Nat.zero_add]
 simp only[Option.isSome_none,Bool.false_eq_true,if_false]
 rw[←Array.getElem?_toList,h1]
 simp[hj']
theorem heap_sortedV {w:World} {g n:Nat} {os:Array Obj} {cur:Array Value} {e:TypeId} {fr:Nat × Nat} (d:Array Value) (hb:w.heap[g]? = some (.cells cur e fr)) :
  (grow (putRow id (Sort.ahead w n) g 0 d) os).heap[g]? = some (.cells (putCells id 0 d cur) e fr):=by
 have hg:g<w.heap.size:=(Array.getElem?_eq_some_iff.1 hb).1
 rw[heap_grow_old _ _ (by simpa using hg)]
 simp[putRow,mapBlock,Sort.ahead,Array.getElem?_modify,hb,onCells]
theorem grownBy_sortedV {w:World} {g n:Nat} {os:Array Obj} (d:Array Value):w.grownBy (grow (putRow id (Sort.ahead w n) g 0 d) os) (some g):=by
 refine⟨rfl,rfl,rfl,by simp,fun k hk hne=>?_⟩
 rw[heap_grow_old _ _ (by simpa using hk)]
 have:g≠k:=fun e=>hne (by rw[e])
 simp[putRow,mapBlock,Sort.ahead,Array.getElem?_modify,this]
theorem take_putCellsV (cur:Array Value) (xs:List Value) (h:xs.length≤cur.size):(putCells id 0 xs.toArray cur).toList.take xs.length=xs:=by
 apply List.ext_getElem?
 intro j
 by_cases hj:j<xs.length
 ·rw[List.getElem?_take_of_lt hj,Array.getElem?_toList]
  simp[putCells,hj,show j<cur.size by omega]
 ·rw[List.getElem?_take_eq_none (by omega),List.getElem?_eq_none (by omega)]
theorem ownsRow_sortedV {w:World} {base g cap n m:Nat} {e:TypeId} {os:Array Obj} {cur:Array Value} {xs:List Value} {size:Nat} (hl:xs.length=m*size) (hbase:base≤g) (hb:w.heap[g]? = some (.cells cur e (0,0)))
  (h1:m≤cap) (h2:cap≤maxLen) (h3:cur.size=cap*size) :
  (grow (putRow id (Sort.ahead w n) g 0 xs.toArray) os).ownsRow base e size (.slice (some ⟨g,0,none⟩) m cap) m xs:=
 ⟨hl,.inr ⟨g,cap,_,rfl,hbase,heap_sortedV _ hb,h1,h2,by simp[putCells,h3],by
  rw[←hl]
  exact take_putCellsV cur xs (by rw[hl,h3];exact Nat.mul_le_mul_right size h1)⟩⟩
section
variable {w : World} {tb : Nat} {T : Tab}
end
def Srt {α:Type} (lt:α→α→Bool) (l:List α):Prop:=l.Pairwise fun x y=>lt y x=false
structure Lin {α:Type} (lt:α→α→Bool):Prop where
 tot:∀x y,lt x y=true→lt y x=false
 thr:∀x y z,lt y x=false→lt z y=false→lt z x=false
section
variable {α : Type} {lt : α → α → Bool}
theorem Lin.self (h:Lin lt) (x:α):lt x x=false:=by
 cases e:lt x x with
 | false=>rfl
 | true=>exact absurd (h.tot x x e) (by rw[e];simp)
theorem srt_last (h:Lin lt) {X:List α} (hs:Srt lt X) {z:α} (hz:X.getLast? = some z):∀u∈X,lt z u=false:=by
 intro u hu
 obtain⟨Y,rfl⟩:∃Y,X=Y ++ [z]:=by
  have:=List.getLast?_eq_some_iff.1 hz
  exact this
 rcases List.mem_append.1 hu with hm|hm
 ·exact(List.pairwise_append.1 hs).2.2 u hm z (by simp)
 ·obtain rfl:=List.mem_singleton.1 hm
  exact h.self _
theorem srt_head (h:Lin lt) {X:List α} (hs:Srt lt X) {z:α} (hz:X.head? = some z):∀u∈X,lt u z=false:=by
 intro u hu
 cases X with
 | nil=>simp at hz
 | cons a r=>
  obtain rfl:a=z:=by simpa using hz
  rcases List.mem_cons.1 hu with rfl|hm
  ·exact h.self _
  ·exact(List.pairwise_cons.1 hs).1 u hm
theorem halves (h:Lin lt) {X1 X2 Y1 Y2:List α} (hX:Srt lt (X1++X2)) (hY:Srt lt (Y1++Y2))
  (h1:∀x y,X1.getLast? = some x→Y2.head? = some y→lt y x=false) (h2:∀y x,Y1.getLast? = some y→X2.head? = some x→lt x y=false) :
  ∀u∈X1++Y1,∀v∈X2++Y2,lt v u=false:=by
 obtain⟨x1,x2,x12⟩:=List.pairwise_append.1 hX
 obtain⟨y1,y2,y12⟩:=List.pairwise_append.1 hY
 intro u hu v hv
 rcases List.mem_append.1 hu with hu|hu <;> rcases List.mem_append.1 hv with hv|hv
 ·exact x12 u hu v hv
 ·obtain⟨x,hx⟩:∃x,X1.getLast? = some x:=by
   cases e:X1.getLast? with
   | some x=>exact⟨x,rfl⟩
   | none=>rw[List.getLast?_eq_none_iff] at e;subst e;simp at hu
  obtain⟨y,hy⟩:∃y,Y2.head? = some y:=by
   cases e:Y2.head? with
   | some y=>exact⟨y,rfl⟩
   | none=>rw[List.head?_eq_none_iff] at e;subst e;simp at hv
  exact h.thr u x v (srt_last h x1 hx u hu) (h.thr x y v (h1 x y hx hy) (srt_head h y2 hy v hv))
 ·obtain⟨y,hy⟩:∃y,Y1.getLast? = some y:=by
   cases e:Y1.getLast? with
   | some x=>exact⟨x,rfl⟩
   | none=>rw[List.getLast?_eq_none_iff] at e;subst e;simp at hu
  obtain⟨x,hx⟩:∃x,X2.head? = some x:=by
   cases e:X2.head? with
   | some y=>exact⟨y,rfl⟩
   | none=>rw[List.head?_eq_none_iff] at e;subst e;simp at hv
  exact h.thr u y v (srt_last h y1 hy u hu) (h.thr y x v (h2 y x hy hx) (srt_head h x2 hx v hv))
 ·exact y12 u hu v hv
theorem glue {X1 X2 Y1 Y2 Z1 Z2:List α} (hh:∀u∈X1++Y1,∀v∈X2++Y2,lt v u=false) (s1:Srt lt Z1) (s2:Srt lt Z2) (p1:Z1.Perm (X1++Y1)) (p2:Z2.Perm (X2++Y2)) :
  Srt lt (Z1++Z2)∧(Z1++Z2).Perm ((X1++X2)++(Y1++Y2)):=by
 refine⟨List.pairwise_append.2 ⟨s1,s2,fun u hu v hv=>hh u (p1.mem_iff.1 hu) v (p2.mem_iff.1 hv)⟩,(p1.append p2).trans ?_⟩
 rw[List.append_assoc,List.append_assoc]
 refine List.Perm.append_left X1 ?_
 rw[←List.append_assoc,←List.append_assoc]
 exact List.Perm.append_right Y2 List.perm_append_comm
theorem put_low (h:Lin lt) {Y:List α} (hY:Srt lt Y) (x:α) (i:Nat) (h1:∀u∈Y.take i,lt u x=true) (h2:∀u,(Y.drop i).head? = some u→lt u x=false) :
  Srt lt (Y.take i++x :: Y.drop i)∧(Y.take i++x :: Y.drop i).Perm (x :: Y):=by
 have hY':=hY
 rw[←List.take_append_drop i Y] at hY'
 obtain⟨a,b,c⟩:=List.pairwise_append.1 hY'
 refine⟨List.pairwise_append.2 ⟨a,List.pairwise_cons.2 ⟨fun v hv=>?_,b⟩,fun u hu v hv=>?_⟩,?_⟩
 ·obtain⟨y,hy⟩:∃y,(Y.drop i).head? = some y:=by
   cases e:(Y.drop i).head? with
   | some y=>exact⟨y,rfl⟩
   | none=>rw[List.head?_eq_none_iff] at e;rw[e] at hv;simp at hv
  exact h.thr x y v (h2 y hy) (srt_head h b hy v hv)
 ·rcases List.mem_cons.1 hv with rfl|hv
  ·exact h.tot _ _ (h1 u hu)
  ·exact c u hu v hv
 ·refine List.perm_middle.trans (List.Perm.cons x ?_)
  rw[List.take_append_drop]
theorem put_high (h:Lin lt) {X:List α} (hX:Srt lt X) (y:α) (i:Nat) (h1:∀u,(X.take i).getLast? = some u→lt y u=false) (h2:∀u∈X.drop i,lt y u=true) :
  Srt lt (X.take i++y :: X.drop i)∧(X.take i++y :: X.drop i).Perm (X ++ [y]):=by
 have hX':=hX
 rw[←List.take_append_drop i X] at hX'
 obtain⟨a,b,c⟩:=List.pairwise_append.1 hX'
 refine⟨List.pairwise_append.2 ⟨a,List.pairwise_cons.2 ⟨fun v hv=>h.tot _ _ (h2 v hv),b⟩,fun u hu v hv=>?_⟩,?_⟩
 ·rcases List.mem_cons.1 hv with rfl|hv
  ·obtain⟨z,hz⟩:∃z,(X.take i).getLast? = some z:=by
    cases e:(X.take i).getLast? with
    | some x=>exact⟨x,rfl⟩
    | none=>rw[List.getLast?_eq_none_iff] at e;rw[e] at hu;simp at hu
   exact h.thr u z _ (srt_last h a hz u hu) (h1 z hz)
  ·exact c u hu v hv
 ·refine List.perm_middle.trans ?_
  rw[List.take_append_drop]
  exact(List.perm_append_singleton y X).symm
theorem low_of (h:Lin lt) {Y:List α} (hY:Srt lt Y) (x:α) (i:Nat) (h1:∀u,(Y.take i).getLast? = some u→lt u x=true):∀u∈Y.take i,lt u x=true:=by
 intro u hu
 have hT:Srt lt (Y.take i):=List.Pairwise.sublist (List.take_sublist i Y) hY
 obtain⟨z,hz⟩:∃z,(Y.take i).getLast? = some z:=by
  cases e:(Y.take i).getLast? with
  | some x=>exact⟨x,rfl⟩
  | none=>rw[List.getLast?_eq_none_iff] at e;rw[e] at hu;simp at hu
 cases e:lt u x with
 | true=>rfl
 | false=>exact absurd (h.thr x u z e (srt_last h hT hz u hu)) (by rw[h1 z hz];simp)
theorem high_of (h:Lin lt) {X:List α} (hX:Srt lt X) (y:α) (i:Nat) (h2:∀u,(X.drop i).head? = some u→lt y u=true):∀u∈X.drop i,lt y u=true:=by
 intro u hu
 have hT:Srt lt (X.drop i):=List.Pairwise.sublist (List.drop_sublist i X) hX
 obtain⟨z,hz⟩:∃z,(X.drop i).head? = some z:=by
  cases e:(X.drop i).head? with
  | some x=>exact⟨x,rfl⟩
  | none=>rw[List.head?_eq_none_iff] at e;rw[e] at hu;simp at hu
 cases e:lt y u with
 | true=>rfl
 | false=>exact absurd (h.thr z u y (srt_head h hT hz u hu) e) (by rw[h2 z hz];simp)
theorem srt_unique (h:Lin lt) (ha:∀x y,lt x y=false→lt y x=false→x=y) {A B:List α} (hA:Srt lt A) (hB:Srt lt B) (p:A.Perm B):A=B:=
 p.eq_of_pairwise (fun x y _ _ h1 h2=>ha x y h2 h1) hA hB
end
open Go.RowKit Go.Sf Go.Shelf Go.Sort Go.Lib
structure Tsk where
 id:ID
 nd:Int
 held:Int
 deriving DecidableEq
def or4 (x y z u:Int):Int:=if x=0 then if y=0 then if z=0 then u else z else y else x
def ordT (a b:Tsk):Int:=or4 (cmpI a.held b.held) (cmpB a.id.key b.id.key) (cmpI a.id.ver b.id.ver) (cmpI a.nd b.nd)
def encTsk (t:Tsk):Value:=.agg #[.string t.id.key,.int .i64 t.id.ver,.int .i64 t.nd,.int .i64 t.held]
def ltT (a b:Tsk):Bool:=decide (ordT a b<0)
theorem cmpI_any' (a b:Int) (W:World):Calls Tryz.prog 85 #[.int .i64 a,.int .i64 b] W fun e w'=>e = .returned (.int .i64 (cmpI a b))∧w'=W:=by
 by_cases h1:a<b
 ·have hc:cmpI a b = -1:=by unfold cmpI;rw[if_pos h1]
  rw[hc]
  go_enter Tryz.func85,Tryz.ntmps85
  go_wp2
  go_ret
  exact⟨rfl,rfl⟩
 ·by_cases h2:b<a
  ·have hc:cmpI a b=1:=by unfold cmpI;rw[if_neg h1,if_pos h2]
   rw[hc]
   go_enter Tryz.func85,Tryz.ntmps85
   go_wp2
   go_ret
   exact⟨rfl,rfl⟩
  ·have hc:cmpI a b=0:=by unfold cmpI;rw[if_neg h1,if_neg h2]
   rw[hc]
   go_enter Tryz.func85,Tryz.ntmps85
   go_wp2
   go_ret
   exact⟨rfl,rfl⟩
set_option maxHeartbeats 2000000 in
theorem or4_any (x y z u:Int) (g:Nat) (W:World) (h0:W.cell? ⟨g,0,none⟩=some (.int .i64 x)) (h1:W.cell? ⟨g,1,none⟩=some (.int .i64 y)) (h2:W.cell? ⟨g,2,none⟩=some (.int .i64 z)) (h3:W.cell? ⟨g,3,none⟩=some (.int .i64 u)):Calls Tryz.prog 125 #[.slice (some ⟨g,0,none⟩) 4 4] W fun e w'=>e = .returned (.int .i64 (or4 x y z u))∧w'=W:=by
 obtain⟨r,hr⟩:∃r,r=or4 x y z u:=⟨_,rfl⟩
 unfold or4 at hr
 rw[show or4 x y z u=r from hr.symm]
 go_enter Tryz.func125,Tryz.ntmps125
 go_wp2
 go_loopw [5,8] (fun _ i wr=>wr=W∧(i = .int .i64 0∨(i = .int .i64 1∧x=0)∨(i = .int .i64 2∧x=0∧y=0)∨(i = .int .i64 3∧x=0∧y=0∧z=0)∨(i = .int .i64 4∧x=0∧y=0∧z=0∧u=0))) (fun _ i _=>4-(intOf i).toNat)
 case atStart=>exact⟨rfl,Or.inl rfl⟩
 case round=>
  obtain⟨rfl,rfl|⟨rfl,hx⟩|⟨rfl,hx,hy⟩|⟨rfl,hx,hy,hz⟩|⟨rfl,hx,hy,hz,hu⟩⟩:=hrel
  ·by_cases hx:x=0
   ·subst hx
    go_wp2
    go_roundw
    case rel=>simp
    case measure=>simp[intOf]
   ·rw[if_neg hx] at hr
    subst hr
    go_wp2
    go_ret
    exact⟨rfl,rfl⟩
  ·subst hx
   rw[if_pos rfl] at hr
   by_cases hy:y=0
   ·subst hy
    go_wp2
    go_roundw
    case rel=>simp
    case measure=>simp[intOf]
   ·rw[if_neg hy] at hr
    subst hr
    go_wp2
    go_ret
    exact⟨rfl,rfl⟩
  ·subst hx;subst hy
   rw[if_pos rfl,if_pos rfl] at hr
   by_cases hz:z=0
   ·subst hz
    go_wp2
    go_roundw
    case rel=>simp
    case measure=>simp[intOf]
   ·rw[if_neg hz] at hr
    subst hr
    go_wp2
    go_ret
    exact⟨rfl,rfl⟩
  ·subst hx;subst hy;subst hz
   rw[if_pos rfl,if_pos rfl,if_pos rfl] at hr
   subst hr
   by_cases hu:r=0
   ·subst hu
    go_wp2
    go_roundw
    case rel=>simp
    case measure=>simp[intOf]
   ·go_wp2
    go_ret
    exact⟨rfl,rfl⟩
  ·subst hx;subst hy;subst hz;subst hu
   rw[if_pos rfl,if_pos rfl,if_pos rfl] at hr
   subst hr
   go_wp2
   go_ret
   exact⟨rfl,rfl⟩
set_option maxHeartbeats 8000000 in
set_option maxRecDepth 100000 in
theorem orderT_any (a b:Tsk) (W:World):Calls Tryz.prog 63 #[encTsk a,encTsk b] W fun e w'=>e = .returned (.int .i64 (ordT a b))∧∃q os',w'=grow (W.drewN q) os':=by
 obtain⟨⟨ak,av⟩,ao,ah⟩:=a
 obtain⟨⟨bk,bv⟩,bo,bh⟩:=b
 simp only[encTsk,ordT]
 have HH:=fun W=>cmpI_any' ah bh W
 have HB:=fun W=>cmpB_any ak bk W
 have HI:=fun W=>cmpI_any av bv W
 have HT:=fun W=>cmpI_any' ao bo W
 have HO:=fun g W=>or4_any (cmpI ah bh) (cmpB ak bk) (cmpI av bv) (cmpI ao bo) g W
 generalize cmpI ah bh=x at *
 generalize cmpB ak bk=y at *
 generalize cmpI av bv=z at *
 generalize cmpI ao bo=u at *
 generalize or4 x y z u=r at *
 go_enter Tryz.func63,Tryz.ntmps63
 go_wp2
 have c0:((W.alloc (.cells #[.string ak,.int .i64 av,.int .i64 ao,.int .i64 ah] 56)).alloc (.cells #[.string bk,.int .i64 bv,.int .i64 bo,.int .i64 bh] 56)).cell? ⟨W.heap.size,0,none⟩=some (.string ak):=by simp[go_sem]
 have c1:((W.alloc (.cells #[.string ak,.int .i64 av,.int .i64 ao,.int .i64 ah] 56)).alloc (.cells #[.string bk,.int .i64 bv,.int .i64 bo,.int .i64 bh] 56)).cell? ⟨W.heap.size,1,none⟩=some (.int .i64 av):=by simp[go_sem]
 have c2:((W.alloc (.cells #[.string ak,.int .i64 av,.int .i64 ao,.int .i64 ah] 56)).alloc (.cells #[.string bk,.int .i64 bv,.int .i64 bo,.int .i64 bh] 56)).cell? ⟨W.heap.size,2,none⟩=some (.int .i64 ao):=by simp[go_sem]
 have c3:((W.alloc (.cells #[.string ak,.int .i64 av,.int .i64 ao,.int .i64 ah] 56)).alloc (.cells #[.string bk,.int .i64 bv,.int .i64 bo,.int .i64 bh] 56)).cell? ⟨W.heap.size,3,none⟩=some (.int .i64 ah):=by simp[go_sem]
 have c4:((W.alloc (.cells #[.string ak,.int .i64 av,.int .i64 ao,.int .i64 ah] 56)).alloc (.cells #[.string bk,.int .i64 bv,.int .i64 bo,.int .i64 bh] 56)).cell? ⟨W.heap.size+1,0,none⟩=some (.string bk):=by simp[go_sem]
 have c5:((W.alloc (.cells #[.string ak,.int .i64 av,.int .i64 ao,.int .i64 ah] 56)).alloc (.cells #[.string bk,.int .i64 bv,.int .i64 bo,.int .i64 bh] 56)).cell? ⟨W.heap.size+1,1,none⟩=some (.int .i64 bv):=by simp[go_sem]
 have c6:((W.alloc (.cells #[.string ak,.int .i64 av,.int .i64 ao,.int .i64 ah] 56)).alloc (.cells #[.string bk,.int .i64 bv,.int .i64 bo,.int .i64 bh] 56)).cell? ⟨W.heap.size+1,2,none⟩=some (.int .i64 bo):=by simp[go_sem]
 have c7:((W.alloc (.cells #[.string ak,.int .i64 av,.int .i64 ao,.int .i64 ah] 56)).alloc (.cells #[.string bk,.int .i64 bv,.int .i64 bo,.int .i64 bh] 56)).cell? ⟨W.heap.size+1,3,none⟩=some (.int .i64 bh):=by simp[go_sem]
 have hg:(W.alloc (.cells #[.string ak,.int .i64 av,.int .i64 ao,.int .i64 ah] 56)).alloc (.cells #[.string bk,.int .i64 bv,.int .i64 bo,.int .i64 bh] 56)=grow (W.drewN 0) #[.cells #[.string ak,.int .i64 av,.int .i64 ao,.int .i64 ah] 56,.cells #[.string bk,.int .i64 bv,.int .i64 bo,.int .i64 bh] 56]:=by rw[alloc_eq_grow,alloc_eq_grow,grow_grow];rfl
 generalize (W.alloc (.cells #[.string ak,.int .i64 av,.int .i64 ao,.int .i64 ah] 56)).alloc (.cells #[.string bk,.int .i64 bv,.int .i64 bo,.int .i64 bh] 56)=W2 at *
 have HG:=Lib.hid hg
 clear hg
 go_region_held3 (fun w'=>w'.cell? ⟨W.heap.size,0,none⟩=some (.string ak)∧w'.cell? ⟨W.heap.size,1,none⟩=some (.int .i64 av)∧w'.cell? ⟨W.heap.size,2,none⟩=some (.int .i64 ao)∧w'.cell? ⟨W.heap.size,3,none⟩=some (.int .i64 ah)∧w'.cell? ⟨W.heap.size+1,0,none⟩=some (.string bk)∧w'.cell? ⟨W.heap.size+1,1,none⟩=some (.int .i64 bv)∧w'.cell? ⟨W.heap.size+1,2,none⟩=some (.int .i64 bo)∧w'.cell? ⟨W.heap.size+1,3,none⟩=some (.int .i64 bh)) (go_keep)
  (first
  | (go_at_call 89;refine(HB _).mono ?_;rintro e w3 ⟨rfl,rfl⟩)
  | (go_at_call 126;refine(HI _).mono ?_;rintro e w3 ⟨rfl,rfl⟩)
  | (go_at_call 85;(with_reducible refine(HH _).mono ?_);rintro e w3 ⟨rfl,rfl⟩)
  | (go_at_call 85;(with_reducible refine(HT _).mono ?_);rintro e w3 ⟨rfl,rfl⟩)
  | (go_at_call 125;refine(HO _ _ (by simp[go_sem]) (by simp[go_sem]) (by simp[go_sem]) (by simp[go_sem])).mono ?_;rintro e w3 ⟨rfl,rfl⟩))
 all_goals
  go_wp2
  go_ret
  exact⟨rfl,1,_,by rw[HG.out,alloc_eq_grow,grow_grow];rfl⟩
theorem cmpI_neg (a b:Int):cmpI a b<0↔a<b:=by unfold cmpI;split <;> (try split) <;> omega
theorem cmpI_zero (a b:Int):cmpI a b=0↔a=b:=by unfold cmpI;split <;> (try split) <;> omega
theorem cmpB_neg (a b:ByteArray):cmpB a b<0↔a.data.toList<b.data.toList:=by
 have e:Op.bytesLess a.toList b.toList=decide (a.data.toList<b.data.toList):=by
  rw[bytesLess_eq,Lib.toList_data,Lib.toList_data]
 unfold cmpB
 rw[e]
 by_cases h1:a.data.toList<b.data.toList
 ·simp[h1]
 ·by_cases h2:a=b
  ·subst h2;simp[h1]
  ·simp[h1,h2]
theorem cmpB_zero (a b:ByteArray):cmpB a b=0↔a=b:=by
 have e:Op.bytesLess a.toList b.toList=decide (a.data.toList<b.data.toList):=by
  rw[bytesLess_eq,Lib.toList_data,Lib.toList_data]
 unfold cmpB
 rw[e]
 by_cases h1:a.data.toList<b.data.toList
 ·have:¬a=b:=fun h=>by subst h;exact absurd h1 Std.lt_irrefl
  simp[h1,this]
 ·by_cases h2:a=b
  ·subst h2;simp[h1]
  ·simp[h1,h2]
theorem or4_neg (x y z u:Int):or4 x y z u<0↔x<0∨(x=0∧(y<0∨(y=0∧(z<0∨(z=0∧u<0))))):=by
 unfold or4
 split <;> (try split) <;> (try split) <;> omega
theorem ltT_iff (a b:Tsk):ltT a b=true↔a.held<b.held∨(a.held=b.held∧(a.id.key.data.toList<b.id.key.data.toList∨(a.id.key=b.id.key∧(a.id.ver<b.id.ver∨(a.id.ver=b.id.ver∧a.nd<b.nd))))):=by
 unfold ltT ordT
 rw[decide_eq_true_eq,or4_neg,cmpI_neg,cmpI_zero,cmpB_neg,cmpB_zero,cmpI_neg,cmpI_zero,cmpI_neg]
theorem ltT_false (a b:Tsk):ltT a b=false↔¬(a.held<b.held∨(a.held=b.held∧(a.id.key.data.toList<b.id.key.data.toList∨(a.id.key=b.id.key∧(a.id.ver<b.id.ver∨(a.id.ver=b.id.ver∧a.nd<b.nd)))))):=by
 rw[←ltT_iff];simp
theorem linT:Lin ltT where
 tot x y h:=by
  rw[ltT_iff] at h
  rw[ltT_false]
  rintro(h1|⟨e1,h1⟩)
  ·rcases h with h|⟨e,_⟩ <;> omega
  ·rcases h with h|⟨e,h⟩
   ·omega
   ·rcases h1 with h1|⟨e2,h1⟩ <;> rcases h with h|⟨e3,h⟩
    ·exact absurd (Std.lt_trans h h1) Std.lt_irrefl
    ·rw[e3] at h1;exact absurd h1 Std.lt_irrefl
    ·rw[e2] at h;exact absurd h Std.lt_irrefl
    ·omega
 thr x y z h1 h2:=by
  rw[ltT_false] at h1 h2 ⊢
  intro h3
  rcases Int.lt_trichotomy y.held x.held with a|a|a
  ·exact h1 (Or.inl a)
  ·rcases Int.lt_trichotomy z.held y.held with b|b|b
   ·exact h2 (Or.inl b)
   ·have h1':=fun h=>h1 (Or.inr ⟨a,h⟩)
    have h2':=fun h=>h2 (Or.inr ⟨b,h⟩)
    rcases h3 with h3|⟨_,h3⟩
    ·omega
    ·rcases key_tri y.id.key x.id.key with c|c|c
     ·exact h1' (Or.inl c)
     ·rcases key_tri z.id.key y.id.key with d|d|d
      ·exact h2' (Or.inl d)
      ·have h4:=fun h=>h1' (Or.inr ⟨c,h⟩)
       have h5:=fun h=>h2' (Or.inr ⟨d,h⟩)
       rcases h3 with h3|⟨_,h3⟩
       ·rw[d,c] at h3;exact absurd h3 Std.lt_irrefl
       ·by_cases p:y.id.ver<x.id.ver
        ·exact h4 (Or.inl p)
        ·by_cases q:z.id.ver<y.id.ver
         ·exact h5 (Or.inl q)
         ·rcases h3 with h3|⟨e3,h3⟩
          ·omega
          ·by_cases s:y.nd<x.nd
           ·exact h4 (Or.inr ⟨by omega,s⟩)
           ·exact h5 (Or.inr ⟨by omega,by omega⟩)
      ·rcases h3 with h3|⟨e3,_⟩
       ·rw[←c] at h3;exact absurd (Std.lt_trans d h3) Std.lt_irrefl
       ·rw[e3,←c] at d;exact absurd d Std.lt_irrefl
     ·rcases key_tri z.id.key y.id.key with d|d|d
      ·exact h2' (Or.inl d)
      ·rcases h3 with h3|⟨e3,_⟩
       ·rw[d] at h3;exact absurd (Std.lt_trans c h3) Std.lt_irrefl
       ·rw[←e3,d] at c;exact absurd c Std.lt_irrefl
      ·rcases h3 with h3|⟨e3,_⟩
       ·exact absurd (Std.lt_trans (Std.lt_trans c d) h3) Std.lt_irrefl
       ·rw[e3] at d;exact absurd (Std.lt_trans c d) Std.lt_irrefl
   ·rcases h3 with h3|⟨e3,_⟩ <;> omega
  ·rcases Int.lt_trichotomy z.held y.held with b|b|b
   ·exact h2 (Or.inl b)
   ·rcases h3 with h3|⟨e3,_⟩ <;> omega
   ·rcases h3 with h3|⟨e3,_⟩ <;> omega
theorem ltT_same (x y:Tsk) (h1:ltT x y=false) (h2:ltT y x=false):x=y:=by
 rw[ltT_false] at h1 h2
 have e1:x.held=y.held:=by
  rcases Int.lt_trichotomy x.held y.held with a|a|a
  ·exact absurd (Or.inl a) h1
  ·exact a
  ·exact absurd (Or.inl a) h2
 have h1':=fun h=>h1 (Or.inr ⟨e1,h⟩)
 have h2':=fun h=>h2 (Or.inr ⟨e1.symm,h⟩)
 have e2:x.id.key=y.id.key:=by
  rcases key_tri x.id.key y.id.key with c|c|c
  ·exact absurd (Or.inl c) h1'
  ·exact c
  ·exact absurd (Or.inl c) h2'
 have h3:=fun h=>h1' (Or.inr ⟨e2,h⟩)
 have h4:=fun h=>h2' (Or.inr ⟨e2.symm,h⟩)
 have e3:x.id.ver=y.id.ver:=by
  rcases Int.lt_trichotomy x.id.ver y.id.ver with a|a|a
  ·exact absurd (Or.inl a) h3
  ·exact a
  ·exact absurd (Or.inl a) h4
 have e4:x.nd=y.nd:=by
  rcases Int.lt_trichotomy x.nd y.nd with a|a|a
  ·exact absurd (Or.inr ⟨e3,a⟩) h3
  ·exact a
  ·exact absurd (Or.inr ⟨e3.symm,a⟩) h4
 obtain⟨⟨k,v⟩,n,h⟩:=x
 obtain⟨⟨k',v'⟩,n',h'⟩:=y
 simp only at e1 e2 e3 e4
 subst e1;subst e2;subst e3;subst e4
 rfl
end Go.Proofs.YtjfelfjobeeenaaGreat
