/- What Pending answers: the ids that are pending, in order. Conditions: a table that lies in memory, not too many ids. The document's order of ids: insertion: the plain law. Conditions: none. The document's table: Less, Held: walked. Conditions: a table that lies in memory. The document's table: Holders: walked. Conditions: a table that lies in memory. The document's sorted: what its loops hold: the plain facts. Conditions: none. sameInts, sameIDs at rows that are the same: walked. Conditions: both rows read as the same list. -/
import Derived.Test.YtjfelfjobeeenaaGreatP18
import Derived.Sort.OwnSorted
import Derived.Sort.Walk0
import Derived.Shelf.SlSortCmp.NoneTotal
namespace Go.Proofs.YtjfelfjobeeenaaGreat
set_option linter.unusedVariables false
set_option linter.unusedSimpArgs false
open Go.RowKit Go.Sf Go.Shelf Go.Maps Go.Sort Go.Lib
instance:Inhabited ID:=⟨⟨⟨#[]⟩,0⟩⟩
def ltI (a b:ID):Bool:=decide (ordI a b<0)
theorem ltI_iff (a b:ID):ltI a b=true↔a.key.data.toList<b.key.data.toList∨(a.key=b.key∧a.ver<b.ver):=by
 unfold ltI ordI cmpB cmpI
 have e:Op.bytesLess a.key.toList b.key.toList=decide (a.key.data.toList<b.key.data.toList):=by
  rw[bytesLess_eq]
  rw[Lib.toList_data,Lib.toList_data]
 rw[e]
 by_cases h1:a.key.data.toList<b.key.data.toList
 ·simp[h1]
 ·by_cases h2:a.key=b.key
  ·simp[h2]
   by_cases h3:a.ver<b.ver
   ·simp[h3]
   ·by_cases h4:b.ver<a.ver <;> simp[h3,h4]
  ·simp[h1,h2]
theorem key_ext (a b:ByteArray) (h:a.data.toList=b.data.toList):a=b:=by
 cases a;cases b;simp at h;subst h;rfl
theorem key_tri (a b:ByteArray):a.data.toList<b.data.toList∨a=b∨b.data.toList<a.data.toList:=by
 rcases Std.lt_trichotomy a.data.toList b.data.toList with h|h|h
 ·exact Or.inl h
 ·exact Or.inr (Or.inl (key_ext _ _ h))
 ·exact Or.inr (Or.inr h)
theorem swoI:SWO (ltOf ordI) where
 irrefl x:=by
  have n:¬ltI x x=true:=by
   rw[ltI_iff]
   rintro(h|⟨_,h⟩)
   ·exact absurd h Std.lt_irrefl
   ·omega
  simpa[ltOf,ltI] using n
 trans x y z h1 h2:=by
  have h1:=(ltI_iff x y).1 h1
  have h2:=(ltI_iff y z).1 h2
  refine(ltI_iff x z).2 ?_
  rcases h1 with h1|⟨e1,h1⟩ <;> rcases h2 with h2|⟨e2,h2⟩
  ·exact Or.inl (Std.lt_trans h1 h2)
  ·rw[←e2];exact Or.inl h1
  ·rw[e1];exact Or.inl h2
  ·exact Or.inr ⟨e1.trans e2,by omega⟩
 ntrans x y z h1 h2:=by
  have n1:¬ltI x y=true:=by unfold ltI;unfold ltOf at h1;rw[h1];decide
  have n2:¬ltI y z=true:=by unfold ltI;unfold ltOf at h2;rw[h2];decide
  have n3:¬ltI x z=true:=by
   rw[ltI_iff] at n1 n2 ⊢
   intro h
   rcases key_tri x.key y.key with a|a|a
   ·exact n1 (Or.inl a)
   ·rcases key_tri y.key z.key with b|b|b
    ·exact n2 (Or.inl b)
    ·rcases h with h|⟨e,h⟩
     ·rw[a,b] at h;exact absurd h Std.lt_irrefl
     ·by_cases c:x.ver<y.ver
      ·exact n1 (Or.inr ⟨a,c⟩)
      ·exact n2 (Or.inr ⟨b,by omega⟩)
    ·rcases h with h|⟨e,h⟩
     ·rw[a] at h;exact absurd (Std.lt_trans h b) Std.lt_irrefl
     ·rw[←e,a] at b;exact absurd b Std.lt_irrefl
   ·rcases key_tri y.key z.key with b|b|b
    ·exact n2 (Or.inl b)
    ·rcases h with h|⟨e,h⟩
     ·rw[b] at a;exact absurd (Std.lt_trans h a) Std.lt_irrefl
     ·rw[b,e] at a;exact absurd a Std.lt_irrefl
    ·have c:=Std.lt_trans b a
     rcases h with h|⟨e,h⟩
     ·exact absurd (Std.lt_trans h c) Std.lt_irrefl
     ·rw[e] at c;exact absurd c Std.lt_irrefl
  simpa[ltOf,ltI] using n3
theorem flat_get:∀(l:List ID) (t:Nat),t<l.length*2→(l.flatMap idCells)[t]? = some ((idCells (l[t / 2]!))[t%2]!)
 | [],t,h=>by simp at h
 | x :: r,0,h=>rfl
 | x :: r,1,h=>rfl
 | x :: r,t+2,h=>by
  have ih:=flat_get r t (by simp at h;omega)
  have e1:(t+2) / 2=t / 2+1:=by omega
  have e2:(t+2)%2=t%2:=by omega
  rw[e1,e2]
  have:(x :: r).flatMap idCells=Value.string x.key :: Value.int .i64 x.ver :: r.flatMap idCells:=rfl
  rw[this]
  simpa using ih
theorem flat_len (l:List ID):(l.flatMap idCells).length=l.length*2:=by
 induction l with
 | nil=>rfl
 | cons x r ih=>simp[idCells,ih];omega
theorem flatK_ids (l:List ID):flatK idCells 2 l.toArray=(l.flatMap idCells).toArray:=by
 apply Array.ext
 ·rw[size_flatK,List.size_toArray,List.size_toArray,flat_len]
 ·intro t h1 h2
  have h3:t<l.length*2:=by simpa using h1
  have h4:=get_flatK idCells 2 l.toArray t (by simpa using h3)
  rw[getElem!_pos _ t h1] at h4
  rw[h4]
  have h5:=flat_get l t h3
  simp only[List.getElem_toArray]
  have h6:t<(l.flatMap idCells).length:=by rw[flat_len];exact h3
  rw[List.getElem?_eq_getElem h6] at h5
  have h7:=Option.some.inj h5
  rw[h7]
  simp
theorem holdsV {w:World} {g:Nat} {cur:Array Value} {e:TypeId} {xs:List Value} (hb:w.heap[g]? = some (.cells cur e (0,0))) (ht:cur.toList.take xs.length=xs):Holds id w g 0 xs.toArray:=by
 intro j hj
 have hj':j<xs.length:=by simpa using hj
 refine⟨?_,by simp[World.frozen?,hb]⟩
 have h1:(cur.toList.take xs.length)[j]? = xs[j]?:=by rw[ht]
 rw[List.getElem?_take_of_lt hj'] at h1
 simp only[World.cell?,hb,Nat.zero_add]
 simp only[Option.isSome_none,Bool.false_eq_true,if_false]
 rw[←Array.getElem?_toList,h1]
 simp[hj']
theorem heap_sortedV {w:World} {g n:Nat} {os:Array Obj} {cur:Array Value} {e:TypeId} {fr:Nat × Nat} (d:Array Value) (hb:w.heap[g]? = some (.cells cur e fr)) :
  (grow (putRow id (Sort.ahead w n) g 0 d) os).heap[g]? = some (.cells (putCells id 0 d cur) e fr):=by
 have hg:g<w.heap.size:=(Array.getElem?_eq_some_iff.1 hb).1
 rw[heap_grow_old _ _ (by simpa using hg)]
 simp[putRow,mapBlock,Sort.ahead,Array.getElem?_modify,hb,onCells]
theorem grownBy_sortedV {w:World} {g n:Nat} {os:Array Obj} (d:Array Value):w.grownBy (grow (putRow id (Sort.ahead w n) g 0 d) os) (some g):=by
 refine⟨rfl,rfl,rfl,by simp,fun k hk hne=>?_⟩
 rw[heap_grow_old _ _ (by simpa using hk)]
 have:g≠k:=fun e=>hne (by rw[e])
 simp[putRow,mapBlock,Sort.ahead,Array.getElem?_modify,this]
theorem take_putCellsV (cur:Array Value) (xs:List Value) (h:xs.length≤cur.size):(putCells id 0 xs.toArray cur).toList.take xs.length=xs:=by
 apply List.ext_getElem?
 intro j
 by_cases hj:j<xs.length
 ·rw[List.getElem?_take_of_lt hj,Array.getElem?_toList]
  simp[putCells,hj,show j<cur.size by omega]
 ·rw[List.getElem?_take_eq_none (by omega),List.getElem?_eq_none (by omega)]
theorem ownsRow_sortedV {w:World} {base g cap n m:Nat} {e:TypeId} {os:Array Obj} {cur:Array Value} {xs:List Value} {size:Nat} (hl:xs.length=m*size) (hbase:base≤g) (hb:w.heap[g]? = some (.cells cur e (0,0)))
  (h1:m≤cap) (h2:cap≤maxLen) (h3:cur.size=cap*size) :
  (grow (putRow id (Sort.ahead w n) g 0 xs.toArray) os).ownsRow base e size (.slice (some ⟨g,0,none⟩) m cap) m xs:=
 ⟨hl,.inr ⟨g,cap,_,rfl,hbase,heap_sortedV _ hb,h1,h2,by simp[putCells,h3],by
  rw[←hl]
  exact take_putCellsV cur xs (by rw[hl,h3];exact Nat.mul_le_mul_right size h1)⟩⟩
def InOrder (l:List ID):Prop:=∀i j,i<j→j<l.length→ltI l[j]! l[i]! = false
theorem sortF_any (blk cap:Nat) (l:List ID) (w:World) (cur:Array Value) (hb:w.heap[blk]? = some (.cells cur 54 (0,0))) (ht:cur.toList.take (l.length*2)=l.flatMap idCells) (hsz:l.length≤1000000) :
  Calls Tryz.prog 141 #[.slice (some ⟨blk,0,none⟩) l.length cap,.func (.func 80) #[] #[]] w fun e w'=>
   e = .returned (.tuple #[])∧∃(l':List ID) (n:Nat) (os:Array Obj),l'.Perm l∧InOrder l'∧w'=grow (putRow id (Sort.ahead w n) blk 0 (l'.flatMap idCells).toArray) os:=by
 have eg:∀args w,(callFunc 80 args).run Tryz.prog w = .ok (.enter 80 args) w:=enters_of Tryz.func80 (by kernel_rfl) rfl
 have hH:HoldsK idCells 2 w blk 0 l.toArray:=by
  unfold HoldsK
  rw[flatK_ids]
  exact holdsV hb (by rw[flat_len];exact ht)
 have hblk:blk<w.heap.size:=(Array.getElem?_eq_some_iff.1 hb).1
 have hcon:=AnyQ.slices_SortFunc Tryz.sortF 2 Tryz.isAgg54 Tryz.sizeOf54 idCells (fun _=>rfl) (fun x v hv=>by simp[idCells] at hv;rcases hv with rfl|rfl <;> rfl) ordI swoI 80 #[] blk 0 cap l.toArray w eg
  (fun m os dk _ x y=>order_any x y _) hH hblk (by simp;omega)
 refine hcon.mono ?_
 rintro e w' ⟨he,d',n,os,hp,hs,hw⟩
 obtain⟨p1,p2,p3⟩:=hp
 have hl:d'.toList.length=l.length:=by simpa using p1
 refine⟨he,d'.toList,n,os,?_,?_,?_⟩
 ·have q1:(d'.extract 0 l.toArray.size)=d':=by rw[←p1];simp
  have q2:(l.toArray.extract 0 l.toArray.size)=l.toArray:=by simp
  rw[q1,q2] at p3
  simpa using p3
 ·intro i j hij hj
  have:=hs i j (Nat.zero_le _) hij (by simpa[hl] using hj)
  show ltI d'.toList[j]! d'.toList[i]! = false
  rw[Array.getElem!_toList,Array.getElem!_toList]
  exact this
 ·rw[hw]
  unfold sortWorldK putRowK
  have:=flatK_ids d'.toList
  simp only[Array.toArray_toList] at this
  rw[this]
theorem sortF_none (p:Option Addr) (cap:Nat) (fv:Value) (W:World):Calls Tryz.prog 141 #[.slice p 0 cap,fv] W fun e w'=>e = .returned (.tuple #[])∧w'=W:=
 AnyF.slices_SortFunc_none Tryz.sortF p cap fv W
def PendRow (base:Nat) (w':World) (v:Value) (m:List (ID × Pend)) (l:List ID):Prop:=IdRow base w' v l∧l.Perm (m.map (·.1))∧InOrder l∧(v = .slice none 0 0↔l = [])
theorem idCollect_any (Bm b:Nat) (m:List (ID × Pend)) (w:World) (hBm:Bm<w.heap.size) (hm:w.cell? ⟨Bm,0,none⟩=some (.map (some b))) (hown:MapT w b encID encPend m) (hl:m.length≤1000000) :
  Calls Tryz.prog 140 #[.func (.func 142) #[] #[.pointer (some ⟨Bm,0,none⟩)]] w fun e w'=>∃(v:Value) (ss:List ID),e = .returned v∧ss.Perm (m.map (·.1))∧w'.ownsRow w.heap.size 54 2 v ss.length (ss.flatMap idCells)∧(v = .slice none 0 0↔ss = [])∧w.grownBy w' none:=by
 have h:=idCollect Fence.wide 5 trivial trivial rfl (by omega) 142 #[.pointer (some ⟨Bm,0,none⟩)] trivial (enters_of Tryz.func142 (by kernel_rfl) rfl)
  (fun xs=>xs.Perm (m.map (·.1))) m.length hl w (idKeys_stops Fence.wide _ trivial rfl (by omega) Bm b m w hBm hm hown)
 exact(callsIn_wide.1 h).mono fun e w' ⟨v,ss,h1,h2,h3,h4,h5⟩=>⟨v,ss,h1,h2,h3,h4,below_grown h5⟩
set_option maxHeartbeats 2000000 in
set_option maxRecDepth 100000 in
theorem sortedF_any (Bm b:Nat) (m:List (ID × Pend)) (w:World) (hBm:Bm<w.heap.size) (hm:w.cell? ⟨Bm,0,none⟩=some (.map (some b))) (hown:MapT w b encID encPend m) (hl:m.length≤1000000) :
  Calls Tryz.prog 78 #[.func (.func 142) #[] #[.pointer (some ⟨Bm,0,none⟩)],.func (.func 80) #[] #[]] w
   fun e w'=>∃v l,e = .returned v∧PendRow w.heap.size w' v m l∧w.grownBy w' none:=by
 have HC:=Lib.hid (idCollect_any Bm b m w hBm hm hown hl)
 have hnd:=hown.nodup
 clear hm hown
 go_enter Tryz.func78,Tryz.ntmps78
 go_wp2_with (go_at_call 140;refine HC.out.mono ?_;rintro e w1 ⟨v,ss,rfl,hp,hrow,hnil,hg⟩;have HP:=Lib.hid (And.intro hp (And.intro hrow (And.intro hnil hg)));clear hp hrow hnil hg)
 obtain⟨hp,hrow,hnil,hg⟩:=HP.out
 have hlen:ss.length≤1000000:=by rw[hp.length_eq];simpa using hl
 rcases hrow.2 with ⟨rfl,hz⟩|⟨g,cap,cur,rfl,hbase,hgb,r1,r2,r3,r4⟩
 ·have hss:ss = []:=List.eq_nil_of_length_eq_zero hz
  subst hss
  go_wp2_with (go_at_call 141;refine(sortF_none none 0 _ _).mono ?_;rintro e w2 ⟨rfl,rfl⟩)
  go_ret
  exact⟨_,[],rfl,⟨hrow,hp,fun i j h1 h2=>by simp at h2,by simp⟩,hg⟩
 ·have HS:=Lib.hid (sortF_any g cap ss w1 cur hgb r4 hlen)
  have HH:=Lib.hid (And.intro hbase (And.intro hgb (And.intro r1 (And.intro r2 (And.intro r3 (And.intro hnil (And.intro hg hp)))))))
  clear hbase hgb r1 r2 r3 r4 hnil hg hp hrow HP
  go_wp2_with (go_at_call 141;refine HS.out.mono ?_;rintro e w2 ⟨rfl,l',n,os,hp2,ho2,rfl⟩;have HZ:=Lib.hid (And.intro hp2 ho2);clear hp2 ho2)
  go_ret
  obtain⟨hbase,hgb,r1,r2,r3,hnil,hg,hp⟩:=HH.out
  obtain⟨hp2,ho2⟩:=HZ.out
  refine⟨_,l',rfl,⟨?_,hp2.trans hp,ho2,?_⟩,grown_own hg (grownBy_sortedV _) (fun k hk=>by cases hk;exact hbase)⟩
  ·unfold IdRow
   rw[hp2.length_eq]
   exact ownsRow_sortedV (by rw[flat_len,hp2.length_eq]) hbase hgb r1 r2 r3
  ·constructor
   ·intro h;cases h
   ·intro h;subst h
    have:ss = []:=hp2.symm.eq_nil
    have:=hnil.2 this
    cases this
section
variable {w : World} {tb : Nat} {T : Tab}
set_option maxHeartbeats 2000000 in
set_option maxRecDepth 100000 in
theorem pending_any (h:TRep w tb T) (hl:T.pending.length≤1000000) :
  Calls Tryz.prog 33 #[.pointer (some ⟨tb,0,none⟩)] w fun e w'=>∃v l,e = .returned v∧PendRow w.heap.size w' v T.pending l∧w.grownBy w' none:=by
 have c6:=h.c6
 have HT:=Lib.hid h
 have HL:=Lib.hid hl
 clear h hl
 go_enter Tryz.func33,Tryz.ntmps33
 go_wp2_with (first
   | (go_at_call 79;refine(keysP_any (some T.pb) _).mono ?_;rintro e w1 ⟨rfl,rfl⟩)
   | (go_at_call 78;have hq:=sortedF_any w.heap.size T.pb T.pending (w.alloc (.cells #[.map (some T.pb)] 119)) (by simp[go_sem]) (by simp[go_sem]) ((HT.out.grown (World.grownBy_alloc _ _ _)).pending) HL.out;refine hq.mono ?_;rintro e w2 ⟨v,l,rfl,hv,hg⟩;have HV:=Lib.hid (And.intro hv hg);clear hv hg))
 go_ret
 obtain⟨⟨h1,h2,h3,h4⟩,hg⟩:=HV.out
 exact⟨v,l,rfl,⟨idRow_le h1 (by simp),h2,h3,h4⟩,grown_trans (World.grownBy_alloc _ _ _) hg⟩
end
theorem pending_at {bs:Nat→Prop} {w:World} {tb:Nat} {L:Tab} (h:At bs w tb L) (hl:L.pending.length≤1000000) :
  Calls Tryz.prog 33 #[.pointer (some ⟨tb,0,none⟩)] w fun e w'=>∃v l,e = .returned v∧PendRow w.heap.size w' v L.pending l∧w.grownBy w' none:=by
 obtain⟨T,h1,rfl,h3⟩:=h.ex
 have h2:=pending_any h1 hl
 exact h2
open Go.RowKit Go.Sf Go.Shelf
theorem lt_irr (a:ID):ltI a a=false:=by
 cases h:ltI a a with
 | false=>rfl
 | true=>
  rcases(ltI_iff a a).1 h with h|⟨_,h⟩
  ·exact absurd h (List.lt_irrefl _)
  ·omega
theorem lt_tri (a b:ID):ltI a b=true∨a=b∨ltI b a=true:=by
 obtain⟨ka,va⟩:=a
 obtain⟨kb,vb⟩:=b
 rcases key_tri ka kb with h|h|h
 ·exact Or.inl ((ltI_iff _ _).2 (Or.inl h))
 ·subst h
  rcases Int.lt_trichotomy va vb with h|h|h
  ·exact Or.inl ((ltI_iff _ _).2 (Or.inr ⟨rfl,h⟩))
  ·subst h;exact Or.inr (Or.inl rfl)
  ·exact Or.inr (Or.inr ((ltI_iff _ _).2 (Or.inr ⟨rfl,h⟩)))
 ·exact Or.inr (Or.inr ((ltI_iff _ _).2 (Or.inl h)))
theorem lt_tr {a b c:ID} (h1:ltI a b=true) (h2:ltI b c=true):ltI a c=true:=by
 refine(ltI_iff a c).2 ?_
 rcases(ltI_iff a b).1 h1 with h1|⟨e1,h1⟩ <;> rcases(ltI_iff b c).1 h2 with h2|⟨e2,h2⟩
 ·exact Or.inl (List.lt_trans h1 h2)
 ·exact Or.inl (e2 ▸ h1)
 ·exact Or.inl (e1 ▸ h2)
 ·exact Or.inr ⟨e1.trans e2,by omega⟩
theorem lt_as {a b:ID} (h1:ltI a b=true):ltI b a=false:=by
 cases h:ltI b a with
 | false=>rfl
 | true=>rw[←lt_irr a,lt_tr h1 h]
def SortedI (l:List ID):Prop:=l.Pairwise fun a b=>ltI a b=true
theorem sorted_ext:∀{l1 l2:List ID},SortedI l1→SortedI l2→(∀x,x∈l1↔x∈l2)→l1=l2
 | [],[],_,_,_=>rfl
 | [],b :: l2,_,_,h=>absurd ((h b).2 (by simp)) (by simp)
 | a :: l1,[],_,_,h=>absurd ((h a).1 (by simp)) (by simp)
 | a :: l1,b :: l2,h1,h2,h=>by
  obtain⟨p1,q1⟩:=List.pairwise_cons.1 h1
  obtain⟨p2,q2⟩:=List.pairwise_cons.1 h2
  have hab:a=b:=by
   rcases List.mem_cons.1 ((h a).1 (by simp)) with e|e
   ·exact e
   ·rcases List.mem_cons.1 ((h b).2 (by simp)) with e'|e'
    ·exact e'.symm
    ·have:=lt_as (p2 a e)
     rw[p1 b e'] at this
     cases this
  subst hab
  have:l1=l2:=sorted_ext q1 q2 fun x=>by
   constructor
   ·intro hx
    rcases List.mem_cons.1 ((h x).1 (List.mem_cons_of_mem _ hx)) with e|e
    ·subst e;have:=p1 _ hx;rw[lt_irr] at this;cases this
    ·exact e
   ·intro hx
    rcases List.mem_cons.1 ((h x).2 (List.mem_cons_of_mem _ hx)) with e|e
    ·subst e;have:=p2 _ hx;rw[lt_irr] at this;cases this
    ·exact e
  rw[this]
theorem sorted_of {l:List ID} (h:InOrder l) (hn:l.Nodup):SortedI l:=by
 refine List.pairwise_iff_getElem.2 fun i j hi hj hij=>?_
 have h1:=h i j hij hj
 rw[getElem!_pos l j hj,getElem!_pos l i hi] at h1
 rcases lt_tri l[i] l[j] with e|e|e
 ·exact e
 ·have:=(List.pairwise_iff_getElem.1 hn) i j hi hj hij
  exact absurd e this
 ·rw[e] at h1;cases h1
theorem SortedI.nodup {l:List ID} (h:SortedI l):l.Nodup:=List.Pairwise.imp (fun {a b} hab e=>by subst e;rw[lt_irr] at hab;cases hab) h
def slotI (x:ID) (out:List ID):Nat→Nat
 | 0=>0
 | k+1=>if ltI x (out.getD k ⟨⟨#[]⟩,0⟩)=true then slotI x out k else k+1
def insL (out:List ID) (x:ID):List ID:=out.take (slotI x out out.length)++x :: out.drop (slotI x out out.length)
def sortL (l:List ID):List ID:=l.foldl insL []
theorem slot_le (x:ID) (out:List ID):∀n,slotI x out n≤n
 | 0=>Nat.le_refl _
 | k+1=>by
  unfold slotI
  split
  ·have:=slot_le x out k;omega
  ·exact Nat.le_refl _
theorem slot_up (x:ID) (out:List ID):∀n,∀j,slotI x out n≤j→j<n→ltI x (out.getD j ⟨⟨#[]⟩,0⟩)=true
 | 0,j,_,h=>by omega
 | k+1,j,h1,h2=>by
  unfold slotI at h1
  split at h1
  ·rename_i hl
   rcases Nat.lt_or_ge j k with h|h
   ·exact slot_up x out k j h1 h
   ·obtain rfl:j=k:=by omega
    exact hl
  ·omega
theorem slot_dn (x:ID) (out:List ID):∀n,slotI x out n=0∨ltI x (out.getD (slotI x out n-1) ⟨⟨#[]⟩,0⟩)=false
 | 0=>Or.inl rfl
 | k+1=>by
  unfold slotI
  split
  ·exact slot_dn x out k
  ·rename_i hl
   exact Or.inr (by simpa using hl)
theorem mem_insL (out:List ID) (x y:ID):y∈insL out x↔y=x∨y∈out:=by
 have h:y∈out↔y∈out.take (slotI x out out.length)∨y∈out.drop (slotI x out out.length):=by
  rw[←List.mem_append,List.take_append_drop]
 unfold insL
 rw[List.mem_append,List.mem_cons,h]
 constructor
 ·rintro(h|h|h) <;> simp_all
 ·rintro(h|h|h) <;> simp_all
theorem len_insL (out:List ID) (x:ID):(insL out x).length=out.length+1:=by
 have:=slot_le x out out.length
 unfold insL
 rw[List.length_append,List.length_cons,List.length_take,List.length_drop]
 omega
theorem insL_sorted {out:List ID} (h:SortedI out) {x:ID} (hx:x ∉ out):SortedI (insL out x):=by
 have hk:=slot_le x out out.length
 have hup:=slot_up x out out.length
 have hdn:=slot_dn x out out.length
 unfold insL
 generalize slotI x out out.length=k at *
 have hg:∀j (hj:j<out.length),out.getD j ⟨⟨#[]⟩,0⟩=out[j]:=fun j hj=>by simp[List.getD,List.getElem?_eq_getElem hj]
 have hb:∀y∈out.drop k,ltI x y=true:=fun y hy=>by
  obtain⟨i,hi,rfl⟩:=List.getElem_of_mem hy
  rw[List.getElem_drop]
  rw[List.length_drop] at hi
  have:=hup (k+i) (by omega) (by omega)
  rwa [hg (k+i) (by omega)] at this
 have ha:∀y∈out.take k,ltI y x=true:=fun y hy=>by
  obtain⟨i,hi,rfl⟩:=List.getElem_of_mem hy
  rw[List.getElem_take]
  rw[List.length_take] at hi
  rcases hdn with h0|h0
  ·omega
  ·rw[hg (k-1) (by omega)] at h0
   have h1:ltI out[k-1] x=true:=by
    rcases lt_tri out[k-1] x with e|e|e
    ·exact e
    ·exact absurd (e ▸ List.getElem_mem (by omega)) hx
    ·rw[e] at h0;cases h0
   rcases Nat.lt_or_ge i (k-1) with hi'|hi'
   ·exact lt_tr ((List.pairwise_iff_getElem.1 h) i (k-1) (by omega) (by omega) hi') h1
   ·have:i=k-1:=by omega
    subst this
    exact h1
 refine List.pairwise_append.2 ⟨h.sublist (List.take_sublist _ _),List.pairwise_cons.2 ⟨hb,h.sublist (List.drop_sublist _ _)⟩,fun a hta b htb=>?_⟩
 rcases List.mem_cons.1 htb with rfl|htb
 ·exact ha a hta
 ·exact lt_tr (ha a hta) (hb b htb)
theorem sortL_go:∀(l out:List ID),SortedI out→l.Nodup→(∀x∈l,x ∉ out)→SortedI (l.foldl insL out)∧∀y,y∈l.foldl insL out↔y∈l∨y∈out
 | [],out,h,_,_=>⟨h,fun y=>by simp⟩
 | x :: r,out,h,hn,hd=>by
  obtain⟨h1,h2⟩:=List.nodup_cons.1 hn
  obtain⟨g1,g2⟩:=sortL_go r (insL out x) (insL_sorted h (hd x (by simp))) h2 (fun y hy=>by
   rw[mem_insL]
   rintro(e|e)
   ·subst e;exact h1 hy
   ·exact hd y (List.mem_cons_of_mem _ hy) e)
  refine⟨g1,fun y=>?_⟩
  rw[List.foldl_cons,g2,mem_insL,List.mem_cons]
  constructor
  ·rintro(h|h|h) <;> simp_all
  ·rintro((h|h)|h) <;> simp_all
theorem sortL_sorted {l:List ID} (h:l.Nodup):SortedI (sortL l):=(sortL_go l [] List.Pairwise.nil h (by simp)).1
theorem mem_sortL {l:List ID} (h:l.Nodup) (y:ID):y∈sortL l↔y∈l:=by
 rw[show sortL l=l.foldl insL [] from rfl,(sortL_go l [] List.Pairwise.nil h (by simp)).2]
 simp
theorem len_sortL (l:List ID):(sortL l).length=l.length:=by
 have:∀(l out:List ID),(l.foldl insL out).length=l.length+out.length:=by
  intro l
  induction l with
  | nil=>intro out;simp
  | cons x r ih=>intro out;rw[List.foldl_cons,ih,len_insL,List.length_cons];omega
 rw[show sortL l=l.foldl insL [] from rfl,this];simp
theorem any_hit {α:Type} (f:α→Bool) (l:List α) (k:Nat) (hk:k<l.length) (h:f l[k]=true):l.any f=true:=List.any_eq_true.2 ⟨_,List.getElem_mem hk,h⟩
theorem any_none {α:Type} (f:α→Bool) (l:List α) (k:Nat) (h:NoneB f l k) (hk:l.length≤k):l.any f=false:=by
 rw[List.any_eq_false]
 intro x hx
 obtain⟨j,hj,rfl⟩:=List.getElem_of_mem hx
 simpa using h j hj (by omega)
def heldB (R:RTab) (i:ID) (n:Int):Bool:=R.holds.any (fun h:RHold=>decide (h.id=i) && (decide (h.node=n) && !h.ref))
theorem lt_same (k:ByteArray) (va vb:Int):ltI ⟨k,va⟩ ⟨k,vb⟩=decide (va<vb):=by
 have h:=ltI_iff ⟨k,va⟩ ⟨k,vb⟩
 simp only[true_and] at h
 have h2:¬k.data.toList<k.data.toList:=List.lt_irrefl _
 cases e:ltI ⟨k,va⟩ ⟨k,vb⟩ with
 | true=>
  rw[e] at h
  rcases h.1 rfl with h3|h3
  ·exact absurd h3 h2
  ·simp[h3]
 | false=>
  rw[e] at h
  have h4:¬va<vb:=fun h5=>by have:=h.2 (Or.inr h5);cases this
  simpa using h4
section
variable {bs : Nat → Prop} {W : World} {rb : Nat} {R : RTab}
set_option maxHeartbeats 4000000 in
set_option maxRecDepth 100000 in
theorem rheld_any (h:RAt bs W rb R) (i:ID) (n:Int):Calls Tryz.prog 139 #[.pointer (some ⟨rb,0,none⟩),encID i,.int .i64 n] W fun e w'=>e = .returned (.bool (heldB R i n))∧W.grownBy w' none:=by
 obtain⟨vL,vC,vV,vP,vH,h⟩:=h.mem
 have HV:Hid (heldB R i n=R.holds.any (fun h:RHold=>decide (h.id=i) && (decide (h.node=n) && !h.ref))):=(show _=_ from rfl)
 generalize heldB R i n=res at *
 have HR:=Lib.hid (h.grown (World.grownBy_alloc W (.cells #[.string i.key,.int .i64 i.ver] 59) none))
 have HB:=Lib.hid (heap_alloc_new W (.cells #[.string i.key,.int .i64 i.ver] 59))
 have HG:=Lib.hid (World.grownBy_alloc W (.cells #[.string i.key,.int .i64 i.ver] 59) none)
 clear h
 simp only[encID]
 go_enter Tryz.func139,Tryz.ntmps139
 go_wp2
 generalize W.alloc (.cells #[.string i.key,.int .i64 i.ver] 59)=W2 at *
 go_loopw [7] (fun x wr=>∃k:Nat,k≤R.holds.length∧x = .int .i64 k∧NoneB (fun h:RHold=>decide (h.id=i) && (decide (h.node=n) && !h.ref)) R.holds k∧W2.grownBy wr none) (fun x _=>R.holds.length-(intOf x).toNat)
 case atStart=>exact⟨0,Nat.zero_le _,rfl,fun j hj h=>by omega,grown_refl _⟩
 case round=>
  obtain⟨k,hk,rfl,hno,hg2⟩:=hrel
  have HNO:=Lib.hid hno
  have hR:=HR.out.grown hg2
  obtain⟨p,cap,hv,hcap,hlc⟩:=hR.holds.form
  have c8:=hR.c8
  rw[hv] at c8
  have bb:=(hg2.block W.heap.size (Array.getElem?_eq_some_iff.1 HB.out).1 (by simp)).trans HB.out
  have b0:wr.cell? ⟨W.heap.size,0,none⟩=some (.string i.key):=(cell_block bb 0).trans rfl
  have b1:wr.cell? ⟨W.heap.size,1,none⟩=some (.int .i64 i.ver):=(cell_block bb 1).trans rfl
  clear bb hno
  by_cases hlt:k<R.holds.length
  ·obtain⟨g,cap',hv',hc,hfz⟩:=(hR.holds.at lenH).resolve_left (fun e=>by rw[e] at hlt;simp at hlt)
   rw[hv] at hv'
   injection hv' with hv1 hv2 hv3
   subst hv1
   have e0:wr.cell? ⟨g,k*5,none⟩=some (.string R.holds[k].id.key):=hc k hlt 0 _ rfl
   have e1:wr.cell? ⟨g,k*5+1,none⟩=some (.int .i64 R.holds[k].id.ver):=hc k hlt 1 _ rfl
   have e2:wr.cell? ⟨g,k*5+2,none⟩=some (.int .i64 R.holds[k].node):=hc k hlt 2 _ rfl
   have e4:wr.cell? ⟨g,k*5+4,none⟩=some (.bool R.holds[k].ref):=hc k hlt 4 _ rfl
   have HH:=Lib.hid hR
   clear hR hv hv2 hv3 hc hfz
   have heq:=eql_id R.holds[k].id i
   by_cases hi:R.holds[k].id=i
   ·have hd:decide (R.holds[k].id=i)=true:=by simpa using hi
    rw[hd] at heq
    by_cases hn:R.holds[k].node=n
    ·have hdn:(R.holds[k].node == n)=true:=by simpa using hn
     cases hr:R.holds[k].ref with
     | false=>
      rw[hr] at e4
      have HI:Hid ((fun h:RHold=>decide (h.id=i) && (decide (h.node=n) && !h.ref)) R.holds[k]=true):=(show _=_ from by simp[hi,hn,hr])
      have HI2:=Lib.hid hr
      clear hi hd hn hr
      go_wp2
      go_quiet (fail)
      go_wp2
      go_ret
      exact⟨by rw[HV.out,any_hit _ _ k hlt HI.out];rfl,grown_trans HG.out (grown_trans hg2 (grown_drewN _ _))⟩
     | true=>
      rw[hr] at e4
      have HI:Hid ((fun h:RHold=>decide (h.id=i) && (decide (h.node=n) && !h.ref)) R.holds[k]=false):=(show _=_ from by simp[hr])
      clear hi hd hn hr
      go_wp2
      go_quiet (fail)
      go_wp2
      go_roundw
      case rel=>exact⟨k+1,by omega,by go_num,HNO.out.step hlt (by simpa using HI.out),grown_trans hg2 (grown_drewN _ _)⟩
      case measure=>simp[intOf];omega
    ·have hdn:(R.holds[k].node == n)=false:=by simpa using hn
     have HI:Hid ((fun h:RHold=>decide (h.id=i) && (decide (h.node=n) && !h.ref)) R.holds[k]=false):=(show _=_ from by simp[hn])
     clear hi hd hn
     go_wp2
     go_quiet (fail)
     go_wp2
     go_roundw
     case rel=>exact⟨k+1,by omega,by go_num,HNO.out.step hlt (by simpa using HI.out),grown_trans hg2 (grown_drewN _ _)⟩
     case measure=>simp[intOf];omega
   ·have hd:decide (R.holds[k].id=i)=false:=by simpa using hi
    rw[hd] at heq
    have HI:Hid ((fun h:RHold=>decide (h.id=i) && (decide (h.node=n) && !h.ref)) R.holds[k]=false):=(show _=_ from by simp[hi])
    clear hi hd
    go_wp2
    go_quiet (fail)
    go_wp2
    go_roundw
    case rel=>exact⟨k+1,by omega,by go_num,HNO.out.step hlt (by simpa using HI.out),grown_trans hg2 (grown_drewN _ _)⟩
    case measure=>simp[intOf];omega
  ·have HH:=Lib.hid hR
   clear hR hv
   go_wp2
   go_ret
   exact⟨by rw[HV.out,any_none _ _ k HNO.out (by omega)];rfl,grown_trans HG.out hg2⟩
set_option maxHeartbeats 4000000 in
set_option maxRecDepth 100000 in
theorem rless_any (a b:ID) (W:World):Calls Tryz.prog 175 #[encID a,encID b] W fun e w'=>e = .returned (.bool (ltI a b))∧W.grownBy w' none:=by
 obtain⟨ka,va⟩:=a
 obtain⟨kb,vb⟩:=b
 obtain⟨res,HV⟩:∃res,Hid (res=ltI ⟨ka,va⟩ ⟨kb,vb⟩):=⟨_,rfl⟩
 rw[show ltI ⟨ka,va⟩ ⟨kb,vb⟩=res from HV.out.symm]
 simp only[encID]
 go_enter Tryz.func175,Tryz.ntmps175
 go_wp2
 all_goals
  go_ret
  refine⟨?_,grown_alloc (grown_alloc (grown_refl _) _) _⟩
  rw[HV.out]
  have te:=toList_eq_iff ka kb
  by_cases hk:ka=kb
  ·subst hk;first|(rw[lt_same];simp;done)|(simp_all [ltI,ordI,cmpB,cmpI];done)|(rw[lt_same];simp_all)
  ·simp_all [ltI,ordI,cmpB,cmpI]
end
theorem Grows.up {α:Type} {W W2 w:World} {E:TypeId} {sz:Nat} {enc:α→List Value} {v:Value} {l:List α} (h:Grows W2 E sz enc v l w) (hg:W.grownBy W2 none):Grows W E sz enc v l w:=
 ⟨grown_trans hg h.grown,h.row,fun g hgo=>Nat.le_trans hg.size (h.own g hgo)⟩
theorem oneI:∀x,∀u∈cellsI x,u.oneCell'=true:=fun x u hu=>by
 simp only[cellsI,List.mem_cons,List.not_mem_nil,or_false] at hu
 subst hu;rfl
theorem infoInt:(Tryz.prog.info? 3).map (fun i=>(i.zero,i.size,i.bytes))=some (some (.int .i64 0),1,8):=by kernel_rfl
def intsN (n:Nat):List Int:=(List.range n).map (Int.ofNat ·)
theorem intsN_len (n:Nat):(intsN n).length=n:=by simp[intsN]
theorem intsN_at (n k:Nat) (h:k<(intsN n).length):(intsN n)[k]=(k:Int):=by simp[intsN]
def rholdL (R:RTab) (i:ID):List Int:=(intsN R.N.toNat).filter (heldB R i)
section
variable {bs : Nat → Prop} {W : World} {rb : Nat} {R : RTab}
set_option maxHeartbeats 4000000 in
set_option maxRecDepth 100000 in
theorem rholders_any (h:RAt bs W rb R) (i:ID) (hn0:0≤R.N) (hn1:R.N≤1000):Calls Tryz.prog 138 #[.pointer (some ⟨rb,0,none⟩),encID i] W fun e w'=>∃v,e = .returned v∧Grows W 3 1 cellsI v (rholdL R i) w':=by
 obtain⟨N,hN⟩:=Int.eq_ofNat_of_zero_le hn0
 have hN1:N≤1000:=by omega
 have HV:Hid (rholdL R i=(intsN N).filter (heldB R i)):=(show _=_ from by unfold rholdL;rw[hN];rfl)
 have HNE:=Lib.hid hN
 generalize rholdL R i=res at *
 obtain⟨i0,hi,hz0,hz1,hz2⟩:=info_parts infoInt
 have HR:=Lib.hid (h.grown (World.grownBy_alloc W (.cells #[.string i.key,.int .i64 i.ver] 59) none))
 have HB:=Lib.hid (heap_alloc_new W (.cells #[.string i.key,.int .i64 i.ver] 59))
 have HG:=Lib.hid (World.grownBy_alloc W (.cells #[.string i.key,.int .i64 i.ver] 59) none)
 clear h hn0 hn1 hN
 simp only[encID]
 go_enter Tryz.func138,Tryz.ntmps138
 go_wp2
 generalize W.alloc (.cells #[.string i.key,.int .i64 i.ver] 59)=W2 at *
 go_loopw [5,6] (fun lv x wr=>∃k:Nat,k≤N∧x = .int .i64 k∧Grows W2 3 1 cellsI lv (keptF (heldB R i) (intsN N) k) wr) (fun _ x _=>N-(intOf x).toNat)
 case atStart=>exact⟨0,Nat.zero_le _,rfl,by rw[keptF_zero];exact Grows.start _ _ _ _⟩
 case round=>
  obtain⟨k,hk,rfl,hgr⟩:=hrel
  have hg2:=hgr.grown
  have hR:=HR.out.grown hg2
  have hkl:=keptF_len (heldB R i) (intsN N) k
  rw[intsN_len] at hkl
  obtain⟨pl,cl,rfl,-,-⟩:=hgr.row.form
  have HGR:=Lib.hid hgr
  have c0:=hR.c0
  rw[HNE.out] at c0
  have hrb:=hR.lt
  have b:=(hg2.block W.heap.size (Array.getElem?_eq_some_iff.1 HB.out).1 (by simp)).trans HB.out
  have b0:wr.cell? ⟨W.heap.size,0,none⟩=some (.string i.key):=(cell_block b 0).trans rfl
  have b1:wr.cell? ⟨W.heap.size,1,none⟩=some (.int .i64 i.ver):=(cell_block b 1).trans rfl
  clear b hgr hg2
  by_cases hlt:k<N
  ·have HHE:Hid (Calls Tryz.prog 139 #[.pointer (some ⟨rb,0,none⟩),.agg #[.string i.key,.int .i64 i.ver],.int .i64 (k:Int)] wr fun e w'=>e = .returned (.bool (heldB R i (k:Int)))∧wr.grownBy w' none):=(show Calls _ _ _ _ _ from rheld_any hR i k)
   have hkn:k<(intsN N).length:=by rw[intsN_len];exact hlt
   clear hR
   cases hh:heldB R i (k:Int) with
   | false=>
    rw[hh] at HHE
    have HK:Hid (keptF (heldB R i) (intsN N) (k+1)=keptF (heldB R i) (intsN N) k):=(show _=_ from keptF_no _ _ _ hkn (by rw[intsN_at];exact hh))
    clear hh
    go_wp2_with (go_at_call 139;refine HHE.out.mono ?_;rintro e w1 ⟨rfl,hg⟩;have HG1:=Lib.hid hg;clear hg)
    go_roundw
    case rel=>exact⟨k+1,by omega,by go_num,by rw[HK.out];exact HGR.out.more HG1.out⟩
    case measure=>simp[intOf];omega
   | true=>
    rw[hh] at HHE
    have HK:Hid (keptF (heldB R i) (intsN N) (k+1)=keptF (heldB R i) (intsN N) k ++ [(k:Int)]):=(show _=_ from by rw[keptF_yes _ _ _ hkn (by rw[intsN_at];exact hh),intsN_at])
    clear hh
    generalize keptF (heldB R i) (intsN N) k=q at *
    go_wp2_with (first
     | (go_at_call 139;refine HHE.out.mono ?_;rintro e w1 ⟨rfl,hg⟩;have HG1:=Lib.hid hg;clear hg)
     | (at_builtin;refine wpList_sapp (l:=q) (m:=[(k:Int)]) _ rfl (.tmp 19) (.tmp 21) 69 rfl lenI oneI i0 _ 8 Tryz.underlying69 hi hz0 hz1 hz2 rfl (by decide) (by decide) rfl ?a1 rfl ?a2 ?a3 _ rfl ?_))
    case a1=>exact(Grows.more (Grows.more HGR.out HG1.out) (grown_alloc (grown_refl _) _)).row
    case a2=>exact yrow_at (k:Int) (heap_alloc_new _ _)
    case a3=>simp only[List.length_cons,List.length_nil];omega
    intro p' c' w3 ha
    have HA:=Lib.hid (Grows.app (Grows.more (Grows.more HGR.out HG1.out) (grown_alloc (grown_refl _) _)) ha)
    clear ha
    go_wp2
    go_roundw
    case rel=>exact⟨k+1,by omega,by go_num,by rw[HK.out];exact HA.out⟩
    case measure=>simp[intOf];omega
  ·obtain rfl:k=N:=by omega
   have HK:Hid (keptF (heldB R i) (intsN k) k=res):=(show _=_ from by rw[HV.out,keptF_all _ _ _ (by rw[intsN_len];exact Nat.le_refl _)])
   clear hR
   go_wp2
   go_ret
   exact⟨_,rfl,by rw[←HK.out];exact HGR.out.up HG.out⟩
end
def outL (l:List ID) (k:Nat):List ID:=(l.take k).foldl insL []
theorem outL_zero (l:List ID):outL l 0 = []:=by simp[outL]
theorem outL_succ (l:List ID) (k:Nat) (hk:k<l.length):outL l (k+1)=insL (outL l k) l[k]:=by
 unfold outL
 rw[List.take_succ_eq_append_getElem hk,List.foldl_append]
 rfl
theorem fold_len:∀(l out:List ID),(l.foldl insL out).length=l.length+out.length
 | [],out=>by simp
 | x :: r,out=>by rw[List.foldl_cons,fold_len r,len_insL,List.length_cons];omega
theorem outL_len (l:List ID) (k:Nat) (hk:k≤l.length):(outL l k).length=k:=by
 unfold outL
 rw[fold_len,List.length_take,Nat.min_eq_left hk]
 simp
theorem outL_all (l:List ID) (k:Nat) (hk:l.length≤k):outL l k=sortL l:=by
 unfold outL sortL
 rw[List.take_of_length_le hk]
theorem lenID:∀x,(idCells x).length=2:=fun _=>rfl
theorem oneID:∀x,∀u∈idCells x,u.oneCell'=true:=fun x u hu=>by
 simp only[idCells,List.mem_cons,List.not_mem_nil,or_false] at hu
 rcases hu with rfl|rfl <;> rfl
theorem infoRID:(Tryz.prog.info? 59).map (fun i=>(i.zero,i.size,i.bytes))=some (some (.agg #[.string ⟨#[]⟩,.int .i64 0]),2,24):=by kernel_rfl
theorem slot_step (x:ID) (out:List ID) (j:Nat) (hj:j<out.length) (h:ltI x out[j]=true):slotI x out (j+1)=slotI x out j:=by
 conv=>lhs;unfold slotI
 rw[if_pos (by simpa[List.getD,List.getElem?_eq_getElem hj] using h)]
theorem slot_stop (x:ID) (out:List ID) (j:Nat) (hj:j<out.length) (h:ltI x out[j]=false):slotI x out (j+1)=j+1:=by
 conv=>lhs;unfold slotI
 rw[if_neg (by simpa[List.getD,List.getElem?_eq_getElem hj] using h)]
theorem insL_at {out:List ID} {x:ID} {s:Nat} (h:slotI x out out.length=s):insL out x=out.take s ++ [x]++out.drop s:=by
 unfold insL
 rw[h,List.append_assoc]
 rfl
def LRead {α:Type} (W:World) (sz:Nat) (enc:α→List Value) (v:Value) (l:List α):Prop:=
 ∃p cap,v = .slice p l.length cap∧(l = []∨∃g,p=some ⟨g,0,none⟩∧∀i,(hi:i<l.length)→∀j u,(enc l[i])[j]? = some u→W.cell? ⟨g,i*sz+j,none⟩=some u)
theorem SRow.lread {α:Type} {W:World} {E:TypeId} {sz:Nat} {enc:α→List Value} {v:Value} {l:List α} (he:∀x,(enc x).length=sz) (h:SRow W E sz enc v l):LRead W sz enc v l:=by
 obtain⟨p,cap,rfl,-,-⟩:=h.form
 refine⟨p,cap,rfl,?_⟩
 rcases h.at he with h0|⟨g,c,e,hc,-⟩
 ·exact Or.inl h0
 ·injection e with e1 e2 e3
  exact Or.inr ⟨g,e1,hc⟩
section
variable {W : World}
set_option maxHeartbeats 4000000 in
set_option maxRecDepth 100000 in
theorem sameInts_any {va vb:Value} {l:List Int} (ha:LRead W 1 cellsI va l) (hb:LRead W 1 cellsI vb l) (hl:l.length≤1000000):Calls Tryz.prog 151 #[va,vb] W fun e w'=>e = .returned (.bool true)∧W.grownBy w' none:=by
 obtain⟨pa,ca,rfl,ha⟩:=ha
 obtain⟨pb,cb,rfl,hb⟩:=hb
 have HA:=Lib.hid ha
 have HB:=Lib.hid hb
 clear ha hb
 go_enter Tryz.func151,Tryz.ntmps151
 go_wp2
 go_loopw [5] (fun x wr=>∃k:Nat,k≤l.length∧x = .int .i64 k∧W.grownBy wr none) (fun x _=>l.length-(intOf x).toNat)
 case atStart=>exact⟨0,Nat.zero_le _,rfl,grown_refl _⟩
 case round=>
  obtain⟨k,hk,rfl,hg⟩:=hrel
  have HG:=Lib.hid hg
  by_cases hlt:k<l.length
  ·obtain⟨ga,rfl,ea⟩:=HA.out.resolve_left (fun e=>by rw[e] at hlt;simp at hlt)
   obtain⟨gb,rfl,eb⟩:=HB.out.resolve_left (fun e=>by rw[e] at hlt;simp at hlt)
   have fa:wr.cell? ⟨ga,k,none⟩=some (.int .i64 l[k]):=by
    have:=hg.cell (ea k hlt 0 _ rfl) (by simp)
    simpa using this
   have fb:wr.cell? ⟨gb,k,none⟩=some (.int .i64 l[k]):=by
    have:=hg.cell (eb k hlt 0 _ rfl) (by simp)
    simpa using this
   have hd:(l[k] != l[k])=false:=by simp
   clear ea eb hg
   generalize l[k]=z at *
   go_wp2
   go_quiet (fail)
   go_wp2
   go_roundw
   case rel=>exact⟨k+1,by omega,by go_num,grown_trans HG.out (grown_drewN _ _)⟩
   case measure=>simp[intOf];omega
  ·obtain rfl:k=l.length:=by omega
   clear hg
   go_wp2
   go_ret
   exact⟨rfl,HG.out⟩
end
end Go.Proofs.YtjfelfjobeeenaaGreat
