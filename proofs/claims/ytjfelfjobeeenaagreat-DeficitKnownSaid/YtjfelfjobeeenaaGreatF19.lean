/- The document's Do: blocks of the call's own; a table's numbers. Conditions: none. The document's order of ids: insertion: the plain law. Conditions: none. The document's table: Less, Held: walked. Conditions: a table that lies in memory. The document's table: Holders: walked. Conditions: a table that lies in memory. The document's sorted: what its loops hold: the plain facts. Conditions: none. sameInts, sameIDs at rows that are the same: walked. Conditions: both rows read as the same list. -/
import Derived.Test.YtjfelfjobeeenaaGreatF18
import Derived.Test.YtjfelfjobeeenaaGreatF10
set_option linter.unusedSimpArgs false
set_option linter.unusedVariables false
namespace Go.Sf
theorem alloc_oldG18 (w:World) (o:Obj) {r:Nat} (h:r<w.heap.size):(w.alloc o).heap[r]? = w.heap[r]?:=by
 rw[show(w.alloc o).heap=w.heap.push o from rfl,Array.getElem?_push,if_neg (Nat.ne_of_lt h)]
end Go.Sf
namespace Go.Proofs.YtjfelfjobeeenaaGreat
open Go.RowKit Go.Sf Go.Shelf
def fence (bs:Nat→Prop) (W W2:World) (k:Nat):Prop:=bs k∧(k<W.heap.size∨W2.heap.size≤k)
@[go_sem] theorem fieldRV1 (k:ByteArray) (r1:Int) (r3:Bool) (w:World):(Instr.field 202 (.agg #[.string k,.int .i64 r1,.bool r3]) 1).run Tryz.prog w = .ok (.int .i64 r1) w:=by kernel_rfl
section
variable {bs : Nat → Prop} {W W2 w : World} {rb : Nat} {R : RTab}
theorem RAt.fence (h:RAt bs W rb R) (hg:W.grownBy W2 none):RAt (fence bs W W2) W2 rb R:=
 (h.mono fun k hk hb=>⟨hb,Or.inl hk⟩).grown hg
theorem fence_new (hbs:∀k,W.heap.size≤k→bs k) (hs:W.heap.size≤W2.heap.size) (w:World) (hw:W2.heap.size≤w.heap.size):∀k,w.heap.size≤k→fence bs W W2 k:=fun k hk=>⟨hbs k (by omega),Or.inr (by omega)⟩
theorem fence_end (hg:W.grownBy W2 none) (h:RAt (fence bs W W2) w rb R) (ht:Turn (fence bs W W2) W2 w):RAt bs w rb R∧Turn bs W w:=
 ⟨h.mono fun k _ hk=>hk.1,turn_then hg (ht.mono fun k hk=>hk.1)⟩
theorem fence_at (ht:Turn (fence bs W W2) W2 w) {b:Nat} {o:Obj} (hb:W2.heap[b]? = some o) (h1:W.heap.size≤b):w.heap[b]? = some o:=
 (ht.block b (Array.getElem?_eq_some_iff.1 hb).1 (fun hf=>by
  have:=(Array.getElem?_eq_some_iff.1 hb).1
  rcases hf.2 with h|h <;> omega)).trans hb
theorem boxes {a0 a1 a2 a3 a4 a5 a6 a7 x0 x1:Value} {t t':TypeId} (h0:W2.heap[W.heap.size]? = some (.cells #[a0,a1,a2,a3,a4,a5,a6,a7] t (0,0))) (h1:W2.heap[W.heap.size+1]? = some (.cells #[x0,x1] t' (0,0))) (ht:Turn (Go.Proofs.YtjfelfjobeeenaaGreat.fence bs W W2) W2 w) :
  (w.cell? ⟨W.heap.size,0,none⟩=some a0∧w.cell? ⟨W.heap.size,1,none⟩=some a1∧w.cell? ⟨W.heap.size,2,none⟩=some a2∧w.cell? ⟨W.heap.size,3,none⟩=some a3∧w.cell? ⟨W.heap.size,4,none⟩=some a4∧w.cell? ⟨W.heap.size,5,none⟩=some a5∧w.cell? ⟨W.heap.size,6,none⟩=some a6∧w.cell? ⟨W.heap.size,7,none⟩=some a7)∧
  w.cell? ⟨W.heap.size+1,0,none⟩=some x0∧w.cell? ⟨W.heap.size+1,1,none⟩=some x1∧W.heap.size<w.heap.size∧W.heap.size+1<w.heap.size:=by
 have e0:=fence_at ht h0 (Nat.le_refl _)
 have e1:=fence_at ht h1 (Nat.le_succ _)
 exact⟨⟨(cell_block e0 0).trans rfl,(cell_block e0 1).trans rfl,(cell_block e0 2).trans rfl,(cell_block e0 3).trans rfl,(cell_block e0 4).trans rfl,(cell_block e0 5).trans rfl,(cell_block e0 6).trans rfl,(cell_block e0 7).trans rfl⟩,(cell_block e1 0).trans rfl,(cell_block e1 1).trans rfl,(Array.getElem?_eq_some_iff.1 e0).1,(Array.getElem?_eq_some_iff.1 e1).1⟩
theorem RAt.setOff (h:RAt bs W rb R) (n:Int):RAt bs (W.setCell ⟨rb,2,none⟩ (.int .i64 n)) rb { R with offers:=n }∧Turn bs W (W.setCell ⟨rb,2,none⟩ (.int .i64 n)):=by
 obtain⟨vL,vC,vV,vP,vH,h1,h2,h3⟩:=h
 refine⟨⟨vL,vC,vV,vP,vH,⟨(heap_set_eq h1.box _).trans rfl,?_,?_,?_,?_,?_⟩,h2,h3⟩,⟨rfl,rfl,rfl,by simp[World.setCell],fun k hk hn=>heap_set_ne W _ _ k (fun e=>hn (by rw[e];exact h2))⟩⟩
 ·exact h1.lives.same fun g hg=>heap_set_ne W _ _ g (fun e=>own_ne h1.lives h1.box (by decide) (by rw[hg];exact congrArg some e))
 ·exact h1.calls.same fun g hg=>heap_set_ne W _ _ g (fun e=>own_ne h1.calls h1.box (by decide) (by rw[hg];exact congrArg some e))
 ·exact h1.vals.same fun g hg=>heap_set_ne W _ _ g (fun e=>own_ne h1.vals h1.box (by decide) (by rw[hg];exact congrArg some e))
 ·exact h1.pends.same fun g hg=>heap_set_ne W _ _ g (fun e=>own_ne h1.pends h1.box (by decide) (by rw[hg];exact congrArg some e))
 ·exact h1.holds.same fun g hg=>heap_set_ne W _ _ g (fun e=>own_ne h1.holds h1.box (by decide) (by rw[hg];exact congrArg some e))
theorem RAt.setNext (h:RAt bs W rb R) (n:Int):RAt bs (W.setCell ⟨rb,3,none⟩ (.int .i64 n)) rb { R with next:=n }∧Turn bs W (W.setCell ⟨rb,3,none⟩ (.int .i64 n)):=by
 obtain⟨vL,vC,vV,vP,vH,h1,h2,h3⟩:=h
 refine⟨⟨vL,vC,vV,vP,vH,⟨(heap_set_eq h1.box _).trans rfl,?_,?_,?_,?_,?_⟩,h2,h3⟩,⟨rfl,rfl,rfl,by simp[World.setCell],fun k hk hn=>heap_set_ne W _ _ k (fun e=>hn (by rw[e];exact h2))⟩⟩
 ·exact h1.lives.same fun g hg=>heap_set_ne W _ _ g (fun e=>own_ne h1.lives h1.box (by decide) (by rw[hg];exact congrArg some e))
 ·exact h1.calls.same fun g hg=>heap_set_ne W _ _ g (fun e=>own_ne h1.calls h1.box (by decide) (by rw[hg];exact congrArg some e))
 ·exact h1.vals.same fun g hg=>heap_set_ne W _ _ g (fun e=>own_ne h1.vals h1.box (by decide) (by rw[hg];exact congrArg some e))
 ·exact h1.pends.same fun g hg=>heap_set_ne W _ _ g (fun e=>own_ne h1.pends h1.box (by decide) (by rw[hg];exact congrArg some e))
 ·exact h1.holds.same fun g hg=>heap_set_ne W _ _ g (fun e=>own_ne h1.holds h1.box (by decide) (by rw[hg];exact congrArg some e))
theorem RAt.mem (h:RAt bs W rb R):∃vL vC vV vP vH,RMem W rb R vL vC vV vP vH:=by
 obtain⟨vL,vC,vV,vP,vH,h1,_⟩:=h
 exact⟨vL,vC,vV,vP,vH,h1⟩
theorem RAt.c2 (h:RAt bs W rb R):W.cell? ⟨rb,2,none⟩=some (.int .i64 R.offers):=by obtain⟨_,_,_,_,_,h1⟩:=h.mem;exact h1.c2
theorem RAt.c3 (h:RAt bs W rb R):W.cell? ⟨rb,3,none⟩=some (.int .i64 R.next):=by obtain⟨_,_,_,_,_,h1⟩:=h.mem;exact h1.c3
theorem RAt.c0 (h:RAt bs W rb R):W.cell? ⟨rb,0,none⟩=some (.int .i64 R.N):=by obtain⟨_,_,_,_,_,h1⟩:=h.mem;exact h1.c0
theorem RAt.c1 (h:RAt bs W rb R):W.cell? ⟨rb,1,none⟩=some (.int .i64 R.W):=by obtain⟨_,_,_,_,_,h1⟩:=h.mem;exact h1.c1
theorem RAt.free (h:RAt bs W rb R) (i:Nat):W.frozen? ⟨rb,i,none⟩=false:=by obtain⟨_,_,_,_,_,h1⟩:=h.mem;exact h1.free i
theorem RAt.live (h:RAt bs W rb R) {a:Nat} (ha:a<R.lives.length):∃gL capL,W.cell? ⟨rb,4,none⟩=some (.slice (some ⟨gL,0,none⟩) R.lives.length capL)∧W.cell? ⟨gL,a,none⟩=some (.int .i64 (R.lives.getD a 0))∧W.frozen? ⟨gL,a,none⟩=false∧R.lives.length≤capL∧capL≤9223372036854775807:=by
 obtain⟨vL,vC,vV,vP,vH,h1⟩:=h.mem
 obtain⟨gL,capL,rfl,hc,hf⟩:=(h1.lives.at lenI).resolve_left (fun e=>by rw[e] at ha;simp at ha)
 obtain⟨p2,c2,e2,h3,h4⟩:=h1.lives.form
 injection e2 with _ _ e2
 subst e2
 refine⟨gL,capL,h1.c4,?_,hf a,h4,h3⟩
 have:=hc a ha 0 _ rfl
 simp only[Nat.mul_one,Nat.add_zero] at this
 rw[this];simp[List.getD,List.getElem?_eq_getElem ha]
theorem RAt.setLive (h:RAt bs W rb R) {a:Nat} (ha:a<R.lives.length):∃gL capL,W.cell? ⟨rb,4,none⟩=some (.slice (some ⟨gL,0,none⟩) R.lives.length capL)∧W.cell? ⟨gL,a,none⟩=some (.int .i64 (R.lives.getD a 0))∧W.frozen? ⟨gL,a,none⟩=false∧R.lives.length≤capL∧capL≤9223372036854775807∧∀x:Int,RAt bs (W.setCell ⟨gL,a,none⟩ (.int .i64 x)) rb { R with lives:=R.lives.set a x }∧Turn bs W (W.setCell ⟨gL,a,none⟩ (.int .i64 x)):=by
 obtain⟨vL,vC,vV,vP,vH,h1,h2,h3⟩:=h
 obtain⟨gL,capL,rfl,hc,hf⟩:=(h1.lives.at lenI).resolve_left (fun e=>by rw[e] at ha;simp at ha)
 obtain⟨p2,c2,e2,h4,h5⟩:=h1.lives.form
 injection e2 with _ _ e2
 subst e2
 refine⟨gL,capL,h1.c4,?_,hf a,h5,h4,fun x=>?_⟩
 ·have:=hc a ha 0 _ rfl
  simp only[Nat.mul_one,Nat.add_zero] at this
  rw[this];simp[List.getD,List.getElem?_eq_getElem ha]
 ·obtain⟨s1,s2⟩:=h1.lives.put lenI x a ha
  simp only[cellsI,List.foldl_cons,List.foldl_nil,Nat.mul_one] at s1 s2
  exact⟨⟨_,vC,vV,vP,vH,h1.putL s1 s2,h2,h3⟩,turn_some s2 (fun k hk=>h3.1 k (by rw[←hk];rfl))⟩
structure ROk (R:RTab):Prop where
 lc:R.calls.length≤10000000
 lv:R.vals.length≤10000000
 lp:R.pends.length≤10000000
 lh:R.holds.length≤10000000
 ll:R.lives.length≤1000000
 nd:∀x∈R.holds,0≤x.node∧x.node<(R.lives.length:Int)
 nn:R.N=R.lives.length
 o0:0≤R.offers
 o1:R.offers≤4611686018427387904
 x0:0≤R.next
 x1:R.next≤4611686018427387904
 w0:0≤R.W
 w1:R.W≤1000000
theorem pendI_some (R:RTab) (i:ID) (h:0≤pendI R i):∃k:Nat,pendI R i=k∧∃hk:k<R.pends.length,mget R.pends i=some R.pends[k].2∧R.pends[k].1=i∧{ R with pends:=R.pends.eraseIdx k }=rends R i:=by
 unfold pendI firstI at *
 cases e:R.pends.findIdx? fun p=>decide (p.1=i) with
 | none=>rw[e] at h;simp at h
 | some k=>
  obtain⟨hk,hf,hno⟩:=List.findIdx?_eq_some_iff_getElem.1 e
  have hN:NoneB (fun p:ID × Pend=>decide (p.1=i)) R.pends k:=fun j hj hjk=>by have:=hno j hjk;simpa using this
  have hi:R.pends[k].1=i:=by simpa using hf
  refine⟨k,rfl,hk,mget_hit hN hk hi,hi,?_⟩
  unfold rends
  rw[eraseP_at (k:=k) hN hk hf]
theorem pendI_none (R:RTab) (i:ID) (h:¬0≤pendI R i):mget R.pends i=none:=by
 have:=pendI_B R i
 rw[show decide (0≤pendI R i)=false from by simpa using h] at this
 unfold rpendB at this
 cases e:mget R.pends i with
 | none=>rfl
 | some _=>rw[e] at this;cases this
theorem turn_block {F:Nat→Prop} (ht:Turn F W2 w) {b:Nat} {o:Obj} (hb:W2.heap[b]? = some o) (h1:¬F b):w.heap[b]? = some o:=
 (ht.block b (Array.getElem?_eq_some_iff.1 hb).1 h1).trans hb
theorem rdo_set {bs:Nat→Prop} {W:World} {rb:Nat} {R:RTab} (h:RAt bs W rb R) (hbs:∀k,W.heap.size≤k→bs k) (B I:Obj) (W2:World) (e:(W.alloc B).alloc I=W2) :
  Hid (W.grownBy W2 none)∧Hid (W2.heap[W.heap.size]? = some B)∧Hid (W2.heap[W.heap.size+1]? = some I)∧Hid (RAt (fence bs W W2) W2 rb R)∧Hid (∀w:World,W2.heap.size≤w.heap.size→∀k,w.heap.size≤k→fence bs W W2 k)∧Hid (Turn (fence bs W W2) W2 W2):=by
 subst e
 have hg2:W.grownBy ((W.alloc B).alloc I) none:=grown_alloc (grown_alloc (grown_refl _) _) _
 exact⟨hg2,(alloc_oldG18 _ _ (by simp)).trans (heap_alloc_new _ _),(show((W.alloc B).alloc I).heap[W.heap.size+1]? = some I from by have:=heap_alloc_new (W.alloc B) I;simpa using this),h.fence hg2,fun w hw=>fence_new hbs hg2.size w hw,turn_grown (grown_refl _)⟩
end
theorem lt_irr (a:ID):ltI a a=false:=by
 cases h:ltI a a with
 | false=>rfl
 | true=>
  rcases(ltI_iff a a).1 h with h|⟨_,h⟩
  ·exact absurd h (List.lt_irrefl _)
  ·omega
theorem lt_tri (a b:ID):ltI a b=true∨a=b∨ltI b a=true:=by
 obtain⟨ka,va⟩:=a
 obtain⟨kb,vb⟩:=b
 rcases key_tri ka kb with h|h|h
 ·exact Or.inl ((ltI_iff _ _).2 (Or.inl h))
 ·subst h
  rcases Int.lt_trichotomy va vb with h|h|h
  ·exact Or.inl ((ltI_iff _ _).2 (Or.inr ⟨rfl,h⟩))
  ·subst h;exact Or.inr (Or.inl rfl)
  ·exact Or.inr (Or.inr ((ltI_iff _ _).2 (Or.inr ⟨rfl,h⟩)))
 ·exact Or.inr (Or.inr ((ltI_iff _ _).2 (Or.inl h)))
theorem lt_tr {a b c:ID} (h1:ltI a b=true) (h2:ltI b c=true):ltI a c=true:=by
 refine(ltI_iff a c).2 ?_
 rcases(ltI_iff a b).1 h1 with h1|⟨e1,h1⟩ <;> rcases(ltI_iff b c).1 h2 with h2|⟨e2,h2⟩
 ·exact Or.inl (List.lt_trans h1 h2)
 ·exact Or.inl (e2 ▸ h1)
 ·exact Or.inl (e1 ▸ h2)
 ·exact Or.inr ⟨e1.trans e2,by omega⟩
theorem lt_as {a b:ID} (h1:ltI a b=true):ltI b a=false:=by
 cases h:ltI b a with
 | false=>rfl
 | true=>rw[←lt_irr a,lt_tr h1 h]
def SortedI (l:List ID):Prop:=l.Pairwise fun a b=>ltI a b=true
theorem sorted_ext:∀{l1 l2:List ID},SortedI l1→SortedI l2→(∀x,x∈l1↔x∈l2)→l1=l2
 | [],[],_,_,_=>rfl
 | [],b :: l2,_,_,h=>absurd ((h b).2 (by simp)) (by simp)
 | a :: l1,[],_,_,h=>absurd ((h a).1 (by simp)) (by simp)
 | a :: l1,b :: l2,h1,h2,h=>by
  obtain⟨p1,q1⟩:=List.pairwise_cons.1 h1
  obtain⟨p2,q2⟩:=List.pairwise_cons.1 h2
  have hab:a=b:=by
   rcases List.mem_cons.1 ((h a).1 (by simp)) with e|e
   ·exact e
   ·rcases List.mem_cons.1 ((h b).2 (by simp)) with e'|e'
    ·exact e'.symm
    ·have:=lt_as (p2 a e)
     rw[p1 b e'] at this
     cases this
  subst hab
  have:l1=l2:=sorted_ext q1 q2 fun x=>by
   constructor
   ·intro hx
    rcases List.mem_cons.1 ((h x).1 (List.mem_cons_of_mem _ hx)) with e|e
    ·subst e;have:=p1 _ hx;rw[lt_irr] at this;cases this
    ·exact e
   ·intro hx
    rcases List.mem_cons.1 ((h x).2 (List.mem_cons_of_mem _ hx)) with e|e
    ·subst e;have:=p2 _ hx;rw[lt_irr] at this;cases this
    ·exact e
  rw[this]
theorem SortedI.nodup {l:List ID} (h:SortedI l):l.Nodup:=List.Pairwise.imp (fun {a b} hab e=>by subst e;rw[lt_irr] at hab;cases hab) h
def slotI (x:ID) (out:List ID):Nat→Nat
 | 0=>0
 | k+1=>if ltI x (out.getD k ⟨⟨#[]⟩,0⟩)=true then slotI x out k else k+1
def insL (out:List ID) (x:ID):List ID:=out.take (slotI x out out.length)++x :: out.drop (slotI x out out.length)
def sortL (l:List ID):List ID:=l.foldl insL []
theorem slot_le (x:ID) (out:List ID):∀n,slotI x out n≤n
 | 0=>Nat.le_refl _
 | k+1=>by
  unfold slotI
  split
  ·have:=slot_le x out k;omega
  ·exact Nat.le_refl _
theorem slot_up (x:ID) (out:List ID):∀n,∀j,slotI x out n≤j→j<n→ltI x (out.getD j ⟨⟨#[]⟩,0⟩)=true
 | 0,j,_,h=>by omega
 | k+1,j,h1,h2=>by
  unfold slotI at h1
  split at h1
  ·rename_i hl
   rcases Nat.lt_or_ge j k with h|h
   ·exact slot_up x out k j h1 h
   ·obtain rfl:j=k:=by omega
    exact hl
  ·omega
theorem slot_dn (x:ID) (out:List ID):∀n,slotI x out n=0∨ltI x (out.getD (slotI x out n-1) ⟨⟨#[]⟩,0⟩)=false
 | 0=>Or.inl rfl
 | k+1=>by
  unfold slotI
  split
  ·exact slot_dn x out k
  ·rename_i hl
   exact Or.inr (by simpa using hl)
theorem mem_insL (out:List ID) (x y:ID):y∈insL out x↔y=x∨y∈out:=by
 have h:y∈out↔y∈out.take (slotI x out out.length)∨y∈out.drop (slotI x out out.length):=by
  rw[←List.mem_append,List.take_append_drop]
 unfold insL
 rw[List.mem_append,List.mem_cons,h]
 constructor
 ·rintro(h|h|h) <;> simp_all
 ·rintro(h|h|h) <;> simp_all
theorem len_insL (out:List ID) (x:ID):(insL out x).length=out.length+1:=by
 have:=slot_le x out out.length
 unfold insL
 rw[List.length_append,List.length_cons,List.length_take,List.length_drop]
 omega
theorem insL_sorted {out:List ID} (h:SortedI out) {x:ID} (hx:x ∉ out):SortedI (insL out x):=by
 have hk:=slot_le x out out.length
 have hup:=slot_up x out out.length
 have hdn:=slot_dn x out out.length
 unfold insL
 generalize slotI x out out.length=k at *
 have hg:∀j (hj:j<out.length),out.getD j ⟨⟨#[]⟩,0⟩=out[j]:=fun j hj=>by simp[List.getD,List.getElem?_eq_getElem hj]
 have hb:∀y∈out.drop k,ltI x y=true:=fun y hy=>by
  obtain⟨i,hi,rfl⟩:=List.getElem_of_mem hy
  rw[List.getElem_drop]
  rw[List.length_drop] at hi
  have:=hup (k+i) (by omega) (by omega)
  rwa [hg (k+i) (by omega)] at this
 have ha:∀y∈out.take k,ltI y x=true:=fun y hy=>by
  obtain⟨i,hi,rfl⟩:=List.getElem_of_mem hy
  rw[List.getElem_take]
  rw[List.length_take] at hi
  rcases hdn with h0|h0
  ·omega
  ·rw[hg (k-1) (by omega)] at h0
   have h1:ltI out[k-1] x=true:=by
    rcases lt_tri out[k-1] x with e|e|e
    ·exact e
    ·exact absurd (e ▸ List.getElem_mem (by omega)) hx
    ·rw[e] at h0;cases h0
   rcases Nat.lt_or_ge i (k-1) with hi'|hi'
   ·exact lt_tr ((List.pairwise_iff_getElem.1 h) i (k-1) (by omega) (by omega) hi') h1
   ·have:i=k-1:=by omega
    subst this
    exact h1
 refine List.pairwise_append.2 ⟨h.sublist (List.take_sublist _ _),List.pairwise_cons.2 ⟨hb,h.sublist (List.drop_sublist _ _)⟩,fun a hta b htb=>?_⟩
 rcases List.mem_cons.1 htb with rfl|htb
 ·exact ha a hta
 ·exact lt_tr (ha a hta) (hb b htb)
theorem sortL_go:∀(l out:List ID),SortedI out→l.Nodup→(∀x∈l,x ∉ out)→SortedI (l.foldl insL out)∧∀y,y∈l.foldl insL out↔y∈l∨y∈out
 | [],out,h,_,_=>⟨h,fun y=>by simp⟩
 | x :: r,out,h,hn,hd=>by
  obtain⟨h1,h2⟩:=List.nodup_cons.1 hn
  obtain⟨g1,g2⟩:=sortL_go r (insL out x) (insL_sorted h (hd x (by simp))) h2 (fun y hy=>by
   rw[mem_insL]
   rintro(e|e)
   ·subst e;exact h1 hy
   ·exact hd y (List.mem_cons_of_mem _ hy) e)
  refine⟨g1,fun y=>?_⟩
  rw[List.foldl_cons,g2,mem_insL,List.mem_cons]
  constructor
  ·rintro(h|h|h) <;> simp_all
  ·rintro((h|h)|h) <;> simp_all
theorem sortL_sorted {l:List ID} (h:l.Nodup):SortedI (sortL l):=(sortL_go l [] List.Pairwise.nil h (by simp)).1
theorem mem_sortL {l:List ID} (h:l.Nodup) (y:ID):y∈sortL l↔y∈l:=by
 rw[show sortL l=l.foldl insL [] from rfl,(sortL_go l [] List.Pairwise.nil h (by simp)).2]
 simp
theorem len_sortL (l:List ID):(sortL l).length=l.length:=by
 have:∀(l out:List ID),(l.foldl insL out).length=l.length+out.length:=by
  intro l
  induction l with
  | nil=>intro out;simp
  | cons x r ih=>intro out;rw[List.foldl_cons,ih,len_insL,List.length_cons];omega
 rw[show sortL l=l.foldl insL [] from rfl,this];simp
theorem any_hit {α:Type} (f:α→Bool) (l:List α) (k:Nat) (hk:k<l.length) (h:f l[k]=true):l.any f=true:=List.any_eq_true.2 ⟨_,List.getElem_mem hk,h⟩
theorem any_none {α:Type} (f:α→Bool) (l:List α) (k:Nat) (h:NoneB f l k) (hk:l.length≤k):l.any f=false:=by
 rw[List.any_eq_false]
 intro x hx
 obtain⟨j,hj,rfl⟩:=List.getElem_of_mem hx
 simpa using h j hj (by omega)
def heldB (R:RTab) (i:ID) (n:Int):Bool:=R.holds.any (fun h:RHold=>decide (h.id=i) && (decide (h.node=n) && !h.ref))
theorem lt_same (k:ByteArray) (va vb:Int):ltI ⟨k,va⟩ ⟨k,vb⟩=decide (va<vb):=by
 have h:=ltI_iff ⟨k,va⟩ ⟨k,vb⟩
 simp only[true_and] at h
 have h2:¬k.data.toList<k.data.toList:=List.lt_irrefl _
 cases e:ltI ⟨k,va⟩ ⟨k,vb⟩ with
 | true=>
  rw[e] at h
  rcases h.1 rfl with h3|h3
  ·exact absurd h3 h2
  ·simp[h3]
 | false=>
  rw[e] at h
  have h4:¬va<vb:=fun h5=>by have:=h.2 (Or.inr h5);cases this
  simpa using h4
section
variable {bs : Nat → Prop} {W : World} {rb : Nat} {R : RTab}
set_option maxHeartbeats 4000000 in
set_option maxRecDepth 100000 in
theorem rheld_any (h:RAt bs W rb R) (i:ID) (n:Int):Calls Tryz.prog 139 #[.pointer (some ⟨rb,0,none⟩),encID i,.int .i64 n] W fun e w'=>e = .returned (.bool (heldB R i n))∧W.grownBy w' none:=by
 obtain⟨vL,vC,vV,vP,vH,h⟩:=h.mem
 have HV:Hid (heldB R i n=R.holds.any (fun h:RHold=>decide (h.id=i) && (decide (h.node=n) && !h.ref))):=(show _=_ from rfl)
 generalize heldB R i n=res at *
 have HR:=Lib.hid (h.grown (World.grownBy_alloc W (.cells #[.string i.key,.int .i64 i.ver] 59) none))
 have HB:=Lib.hid (heap_alloc_new W (.cells #[.string i.key,.int .i64 i.ver] 59))
 have HG:=Lib.hid (World.grownBy_alloc W (.cells #[.string i.key,.int .i64 i.ver] 59) none)
 clear h
 simp only[encID]
 go_enter Tryz.func139,Tryz.ntmps139
 go_wp2
 generalize W.alloc (.cells #[.string i.key,.int .i64 i.ver] 59)=W2 at *
 go_loopw [7] (fun x wr=>∃k:Nat,k≤R.holds.length∧x = .int .i64 k∧NoneB (fun h:RHold=>decide (h.id=i) && (decide (h.node=n) && !h.ref)) R.holds k∧W2.grownBy wr none) (fun x _=>R.holds.length-(intOf x).toNat)
 case atStart=>exact⟨0,Nat.zero_le _,rfl,fun j hj h=>by omega,grown_refl _⟩
 case round=>
  obtain⟨k,hk,rfl,hno,hg2⟩:=hrel
  have HNO:=Lib.hid hno
  have hR:=HR.out.grown hg2
  obtain⟨p,cap,hv,hcap,hlc⟩:=hR.holds.form
  have c8:=hR.c8
  rw[hv] at c8
  have bb:=(hg2.block W.heap.size (Array.getElem?_eq_some_iff.1 HB.out).1 (by simp)).trans HB.out
  have b0:wr.cell? ⟨W.heap.size,0,none⟩=some (.string i.key):=(cell_block bb 0).trans rfl
  have b1:wr.cell? ⟨W.heap.size,1,none⟩=some (.int .i64 i.ver):=(cell_block bb 1).trans rfl
  clear bb hno
  by_cases hlt:k<R.holds.length
  ·obtain⟨g,cap',hv',hc,hfz⟩:=(hR.holds.at lenH).resolve_left (fun e=>by rw[e] at hlt;simp at hlt)
   rw[hv] at hv'
   injection hv' with hv1 hv2 hv3
   subst hv1
   have e0:wr.cell? ⟨g,k*5,none⟩=some (.string R.holds[k].id.key):=hc k hlt 0 _ rfl
   have e1:wr.cell? ⟨g,k*5+1,none⟩=some (.int .i64 R.holds[k].id.ver):=hc k hlt 1 _ rfl
   have e2:wr.cell? ⟨g,k*5+2,none⟩=some (.int .i64 R.holds[k].node):=hc k hlt 2 _ rfl
   have e4:wr.cell? ⟨g,k*5+4,none⟩=some (.bool R.holds[k].ref):=hc k hlt 4 _ rfl
   have HH:=Lib.hid hR
   clear hR hv hv2 hv3 hc hfz
   have heq:=eql_id R.holds[k].id i
   by_cases hi:R.holds[k].id=i
   ·have hd:decide (R.holds[k].id=i)=true:=by simpa using hi
    rw[hd] at heq
    by_cases hn:R.holds[k].node=n
    ·have hdn:(R.holds[k].node == n)=true:=by simpa using hn
     cases hr:R.holds[k].ref with
     | false=>
      rw[hr] at e4
      have HI:Hid ((fun h:RHold=>decide (h.id=i) && (decide (h.node=n) && !h.ref)) R.holds[k]=true):=(show _=_ from by simp[hi,hn,hr])
      have HI2:=Lib.hid hr
      clear hi hd hn hr
      go_wp2
      go_quiet (fail)
      go_wp2
      go_ret
      exact⟨by rw[HV.out,any_hit _ _ k hlt HI.out];rfl,grown_trans HG.out (grown_trans hg2 (grown_drewN _ _))⟩
     | true=>
      rw[hr] at e4
      have HI:Hid ((fun h:RHold=>decide (h.id=i) && (decide (h.node=n) && !h.ref)) R.holds[k]=false):=(show _=_ from by simp[hr])
      clear hi hd hn hr
      go_wp2
      go_quiet (fail)
      go_wp2
      go_roundw
      case rel=>exact⟨k+1,by omega,by go_num,HNO.out.step hlt (by simpa using HI.out),grown_trans hg2 (grown_drewN _ _)⟩
      case measure=>simp[intOf];omega
    ·have hdn:(R.holds[k].node == n)=false:=by simpa using hn
     have HI:Hid ((fun h:RHold=>decide (h.id=i) && (decide (h.node=n) && !h.ref)) R.holds[k]=false):=(show _=_ from by simp[hn])
     clear hi hd hn
     go_wp2
     go_quiet (fail)
     go_wp2
     go_roundw
     case rel=>exact⟨k+1,by omega,by go_num,HNO.out.step hlt (by simpa using HI.out),grown_trans hg2 (grown_drewN _ _)⟩
     case measure=>simp[intOf];omega
   ·have hd:decide (R.holds[k].id=i)=false:=by simpa using hi
    rw[hd] at heq
    have HI:Hid ((fun h:RHold=>decide (h.id=i) && (decide (h.node=n) && !h.ref)) R.holds[k]=false):=(show _=_ from by simp[hi])
    clear hi hd
    go_wp2
    go_quiet (fail)
    go_wp2
    go_roundw
    case rel=>exact⟨k+1,by omega,by go_num,HNO.out.step hlt (by simpa using HI.out),grown_trans hg2 (grown_drewN _ _)⟩
    case measure=>simp[intOf];omega
  ·have HH:=Lib.hid hR
   clear hR hv
   go_wp2
   go_ret
   exact⟨by rw[HV.out,any_none _ _ k HNO.out (by omega)];rfl,grown_trans HG.out hg2⟩
set_option maxHeartbeats 4000000 in
set_option maxRecDepth 100000 in
theorem rless_any (a b:ID) (W:World):Calls Tryz.prog 175 #[encID a,encID b] W fun e w'=>e = .returned (.bool (ltI a b))∧W.grownBy w' none:=by
 obtain⟨ka,va⟩:=a
 obtain⟨kb,vb⟩:=b
 obtain⟨res,HV⟩:∃res,Hid (res=ltI ⟨ka,va⟩ ⟨kb,vb⟩):=⟨_,rfl⟩
 rw[show ltI ⟨ka,va⟩ ⟨kb,vb⟩=res from HV.out.symm]
 simp only[encID]
 go_enter Tryz.func175,Tryz.ntmps175
 go_wp2
 all_goals
  go_ret
  refine⟨?_,grown_alloc (grown_alloc (grown_refl _) _) _⟩
  rw[HV.out]
  have te:=toList_eq_iff ka kb
  by_cases hk:ka=kb
  ·subst hk;first|(rw[lt_same];simp;done)|(simp_all [ltI,ordI,cmpB,cmpI];done)|(rw[lt_same];simp_all)
  ·simp_all [ltI,ordI,cmpB,cmpI]
end
theorem Grows.up {α:Type} {W W2 w:World} {E:TypeId} {sz:Nat} {enc:α→List Value} {v:Value} {l:List α} (h:Grows W2 E sz enc v l w) (hg:W.grownBy W2 none):Grows W E sz enc v l w:=
 ⟨grown_trans hg h.grown,h.row,fun g hgo=>Nat.le_trans hg.size (h.own g hgo)⟩
theorem oneI:∀x,∀u∈cellsI x,u.oneCell'=true:=fun x u hu=>by
 simp only[cellsI,List.mem_cons,List.not_mem_nil,or_false] at hu
 subst hu;rfl
theorem infoInt:(Tryz.prog.info? 3).map (fun i=>(i.zero,i.size,i.bytes))=some (some (.int .i64 0),1,8):=by kernel_rfl
def intsN (n:Nat):List Int:=(List.range n).map (Int.ofNat ·)
theorem intsN_len (n:Nat):(intsN n).length=n:=by simp[intsN]
theorem intsN_at (n k:Nat) (h:k<(intsN n).length):(intsN n)[k]=(k:Int):=by simp[intsN]
def rholdL (R:RTab) (i:ID):List Int:=(intsN R.N.toNat).filter (heldB R i)
section
variable {bs : Nat → Prop} {W : World} {rb : Nat} {R : RTab}
set_option maxHeartbeats 4000000 in
set_option maxRecDepth 100000 in
theorem rholders_any (h:RAt bs W rb R) (i:ID) (hn0:0≤R.N) (hn1:R.N≤1000):Calls Tryz.prog 138 #[.pointer (some ⟨rb,0,none⟩),encID i] W fun e w'=>∃v,e = .returned v∧Grows W 3 1 cellsI v (rholdL R i) w':=by
 obtain⟨N,hN⟩:=Int.eq_ofNat_of_zero_le hn0
 have hN1:N≤1000:=by omega
 have HV:Hid (rholdL R i=(intsN N).filter (heldB R i)):=(show _=_ from by unfold rholdL;rw[hN];rfl)
 have HNE:=Lib.hid hN
 generalize rholdL R i=res at *
 obtain⟨i0,hi,hz0,hz1,hz2⟩:=info_parts infoInt
 have HR:=Lib.hid (h.grown (World.grownBy_alloc W (.cells #[.string i.key,.int .i64 i.ver] 59) none))
 have HB:=Lib.hid (heap_alloc_new W (.cells #[.string i.key,.int .i64 i.ver] 59))
 have HG:=Lib.hid (World.grownBy_alloc W (.cells #[.string i.key,.int .i64 i.ver] 59) none)
 clear h hn0 hn1 hN
 simp only[encID]
 go_enter Tryz.func138,Tryz.ntmps138
 go_wp2
 generalize W.alloc (.cells #[.string i.key,.int .i64 i.ver] 59)=W2 at *
 go_loopw [5,6] (fun lv x wr=>∃k:Nat,k≤N∧x = .int .i64 k∧Grows W2 3 1 cellsI lv (keptF (heldB R i) (intsN N) k) wr) (fun _ x _=>N-(intOf x).toNat)
 case atStart=>exact⟨0,Nat.zero_le _,rfl,by rw[keptF_zero];exact Grows.start _ _ _ _⟩
 case round=>
  obtain⟨k,hk,rfl,hgr⟩:=hrel
  have hg2:=hgr.grown
  have hR:=HR.out.grown hg2
  have hkl:=keptF_len (heldB R i) (intsN N) k
  rw[intsN_len] at hkl
  obtain⟨pl,cl,rfl,-,-⟩:=hgr.row.form
  have HGR:=Lib.hid hgr
  have c0:=hR.c0
  rw[HNE.out] at c0
  have hrb:=hR.lt
  have b:=(hg2.block W.heap.size (Array.getElem?_eq_some_iff.1 HB.out).1 (by simp)).trans HB.out
  have b0:wr.cell? ⟨W.heap.size,0,none⟩=some (.string i.key):=(cell_block b 0).trans rfl
  have b1:wr.cell? ⟨W.heap.size,1,none⟩=some (.int .i64 i.ver):=(cell_block b 1).trans rfl
  clear b hgr hg2
  by_cases hlt:k<N
  ·have HHE:Hid (Calls Tryz.prog 139 #[.pointer (some ⟨rb,0,none⟩),.agg #[.string i.key,.int .i64 i.ver],.int .i64 (k:Int)] wr fun e w'=>e = .returned (.bool (heldB R i (k:Int)))∧wr.grownBy w' none):=(show Calls _ _ _ _ _ from rheld_any hR i k)
   have hkn:k<(intsN N).length:=by rw[intsN_len];exact hlt
   clear hR
   cases hh:heldB R i (k:Int) with
   | false=>
    rw[hh] at HHE
    have HK:Hid (keptF (heldB R i) (intsN N) (k+1)=keptF (heldB R i) (intsN N) k):=(show _=_ from keptF_no _ _ _ hkn (by rw[intsN_at];exact hh))
    clear hh
    go_wp2_with (go_at_call 139;refine HHE.out.mono ?_;rintro e w1 ⟨rfl,hg⟩;have HG1:=Lib.hid hg;clear hg)
    go_roundw
    case rel=>exact⟨k+1,by omega,by go_num,by rw[HK.out];exact HGR.out.more HG1.out⟩
    case measure=>simp[intOf];omega
   | true=>
    rw[hh] at HHE
    have HK:Hid (keptF (heldB R i) (intsN N) (k+1)=keptF (heldB R i) (intsN N) k ++ [(k:Int)]):=(show _=_ from by rw[keptF_yes _ _ _ hkn (by rw[intsN_at];exact hh),intsN_at])
    clear hh
    generalize keptF (heldB R i) (intsN N) k=q at *
    go_wp2_with (first
     | (go_at_call 139;refine HHE.out.mono ?_;rintro e w1 ⟨rfl,hg⟩;have HG1:=Lib.hid hg;clear hg)
     | (at_builtin;refine wpList_sapp (l:=q) (m:=[(k:Int)]) _ rfl (.tmp 19) (.tmp 21) 69 rfl lenI oneI i0 _ 8 Tryz.underlying69 hi hz0 hz1 hz2 rfl (by decide) (by decide) rfl ?a1 rfl ?a2 ?a3 _ rfl ?_))
    case a1=>exact(Grows.more (Grows.more HGR.out HG1.out) (grown_alloc (grown_refl _) _)).row
    case a2=>exact yrow_at (k:Int) (heap_alloc_new _ _)
    case a3=>simp only[List.length_cons,List.length_nil];omega
    intro p' c' w3 ha
    have HA:=Lib.hid (Grows.app (Grows.more (Grows.more HGR.out HG1.out) (grown_alloc (grown_refl _) _)) ha)
    clear ha
    go_wp2
    go_roundw
    case rel=>exact⟨k+1,by omega,by go_num,by rw[HK.out];exact HA.out⟩
    case measure=>simp[intOf];omega
  ·obtain rfl:k=N:=by omega
   have HK:Hid (keptF (heldB R i) (intsN k) k=res):=(show _=_ from by rw[HV.out,keptF_all _ _ _ (by rw[intsN_len];exact Nat.le_refl _)])
   clear hR
   go_wp2
   go_ret
   exact⟨_,rfl,by rw[←HK.out];exact HGR.out.up HG.out⟩
end
def outL (l:List ID) (k:Nat):List ID:=(l.take k).foldl insL []
theorem outL_zero (l:List ID):outL l 0 = []:=by simp[outL]
theorem outL_succ (l:List ID) (k:Nat) (hk:k<l.length):outL l (k+1)=insL (outL l k) l[k]:=by
 unfold outL
 rw[List.take_succ_eq_append_getElem hk,List.foldl_append]
 rfl
theorem fold_len:∀(l out:List ID),(l.foldl insL out).length=l.length+out.length
 | [],out=>by simp
 | x :: r,out=>by rw[List.foldl_cons,fold_len r,len_insL,List.length_cons];omega
theorem outL_len (l:List ID) (k:Nat) (hk:k≤l.length):(outL l k).length=k:=by
 unfold outL
 rw[fold_len,List.length_take,Nat.min_eq_left hk]
 simp
theorem outL_all (l:List ID) (k:Nat) (hk:l.length≤k):outL l k=sortL l:=by
 unfold outL sortL
 rw[List.take_of_length_le hk]
theorem lenID:∀x,(idCells x).length=2:=fun _=>rfl
theorem oneID:∀x,∀u∈idCells x,u.oneCell'=true:=fun x u hu=>by
 simp only[idCells,List.mem_cons,List.not_mem_nil,or_false] at hu
 rcases hu with rfl|rfl <;> rfl
theorem infoRID:(Tryz.prog.info? 59).map (fun i=>(i.zero,i.size,i.bytes))=some (some (.agg #[.string ⟨#[]⟩,.int .i64 0]),2,24):=by kernel_rfl
theorem slot_step (x:ID) (out:List ID) (j:Nat) (hj:j<out.length) (h:ltI x out[j]=true):slotI x out (j+1)=slotI x out j:=by
 conv=>lhs;unfold slotI
 rw[if_pos (by simpa[List.getD,List.getElem?_eq_getElem hj] using h)]
theorem slot_stop (x:ID) (out:List ID) (j:Nat) (hj:j<out.length) (h:ltI x out[j]=false):slotI x out (j+1)=j+1:=by
 conv=>lhs;unfold slotI
 rw[if_neg (by simpa[List.getD,List.getElem?_eq_getElem hj] using h)]
theorem insL_at {out:List ID} {x:ID} {s:Nat} (h:slotI x out out.length=s):insL out x=out.take s ++ [x]++out.drop s:=by
 unfold insL
 rw[h,List.append_assoc]
 rfl
def LRead {α:Type} (W:World) (sz:Nat) (enc:α→List Value) (v:Value) (l:List α):Prop:=
 ∃p cap,v = .slice p l.length cap∧(l = []∨∃g,p=some ⟨g,0,none⟩∧∀i,(hi:i<l.length)→∀j u,(enc l[i])[j]? = some u→W.cell? ⟨g,i*sz+j,none⟩=some u)
theorem SRow.lread {α:Type} {W:World} {E:TypeId} {sz:Nat} {enc:α→List Value} {v:Value} {l:List α} (he:∀x,(enc x).length=sz) (h:SRow W E sz enc v l):LRead W sz enc v l:=by
 obtain⟨p,cap,rfl,-,-⟩:=h.form
 refine⟨p,cap,rfl,?_⟩
 rcases h.at he with h0|⟨g,c,e,hc,-⟩
 ·exact Or.inl h0
 ·injection e with e1 e2 e3
  exact Or.inr ⟨g,e1,hc⟩
section
variable {W : World}
end
end Go.Proofs.YtjfelfjobeeenaaGreat
