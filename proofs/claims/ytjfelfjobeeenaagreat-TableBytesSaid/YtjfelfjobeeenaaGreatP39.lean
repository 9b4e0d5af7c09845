/- From: what it carries between two reads. Conditions: none. TableBytes, plain: two tables with the same lookups have the same bytes. Conditions: none. -/
import Derived.Test.YtjfelfjobeeenaaGreatP38
import Derived.Test.YtjfelfjobeeenaaGreatP31
namespace Go.Proofs.YtjfelfjobeeenaaGreat
set_option linter.unusedVariables false
set_option linter.unusedSimpArgs false
open Go.RowKit Go.Sf Go.Shelf
theorem step_updateT {P:Program} {K V:Type} [DecidableEq K] {ek:K→Value} {ev:V→Value} {ops:Array Oper} {o:Oper} {a:Act} {w:World} {KK:Act→World→Prop} {Q:Exit→Act→World→Prop} {F:Prop} (hgd:o.guard=none) (x y v:Operand) (t:TypeId) (hop:o.op=Op.mapUpdate t x y v) {kt et:TypeId} (KE:KEnc P kt ek) (ht:P.underlying t=some (.map kt et))
  (b:Nat) (m:List (K × V)) (hx:a.eval x = .map (some b)) (h:MapT w b ek ev m) (k:K) (u:V) (hy:a.eval y=ek k) (hv:a.eval v=ev u)
  (hK:∀w',MapT w' b ek ev (mput m k u)→w.grownBy w' (some b)→KK (a.put o.dst undef) w'):if Region.wanted o (yielded ops a.tmps)=true then Oper.wp P o a w KK Q else F:=by
 have hw:Region.wanted o (yielded ops a.tmps)=true:=by simp[Region.wanted,hgd]
 rw[if_pos hw]
 obtain⟨w',hrun,r1,r2,r3⟩:=h.update KE ht k u
 unfold Oper.wp
 simp[execOp,hop,hx,hy,hv,hrun,Result.andThen]
 exact hK w' r1 r2
structure F0 (W w:World) (t:List Int):Prop where
 b2:w.heap[W.heap.size]? = some (.cells #[.pointer none] 38 (0,0))
 b3:w.heap[W.heap.size+1]? = some (.cells #[.int .i64 0] 22 (0,0))
 rdr:Rd W.heap.size w (W.heap.size+1+1) t
 bl:BL t
 gr:W.grownBy w none
structure FS (W w:World) (tb:Nat) (T:Tab) (t:List Int):Prop where
 b2:w.heap[W.heap.size]? = some (.cells #[.pointer (some ⟨tb,0,none⟩)] 38 (0,0))
 b3:w.heap[W.heap.size+1]? = some (.cells #[.int .i64 0] 22 (0,0))
 rdr:Rd W.heap.size w (W.heap.size+1+1) t
 bl:BL t
 rep:TRep w tb T
 far:∀b∈T.blocks tb,W.heap.size+3≤b
 gr:W.grownBy w none
def F0Q (W:World) {α:Type} (o:Option (α × List Int)) (enc:α→Value) (e:Ending) (w':World):Prop:=(∃x t',o=some (x,t')∧e = .returned (enc x)∧F0 W w' t')∨(o=none∧e=thrown∧FB W w')
def FSQ (W w:World) (tb:Nat) (T:Tab) {α:Type} (o:Option (α × List Int)) (enc:α→Value) (e:Ending) (w':World):Prop:=(∃x t',o=some (x,t')∧e = .returned (enc x)∧FS W w' tb T t'∧Turn (fun k=>k=W.heap.size+1+1) w w')∨(o=none∧e=thrown∧FB W w')
theorem grown_of_turn {W w w':World} {bs:Nat→Prop} (h:W.grownBy w none) (ht:Turn bs w w') (hb:∀k,k<W.heap.size→¬bs k):W.grownBy w' none:=
 ⟨ht.os.trans h.os,ht.tape.trans h.tape,ht.output.trans h.output,Nat.le_trans h.size ht.size,fun k hk _=>(ht.block k (Nat.lt_of_lt_of_le hk h.size) (hb k hk)).trans (h.block k hk (by simp))⟩
section
variable {W w w' : World} {tb : Nat} {T T' : Tab} {t t' : List Int}
theorem lt_of_some {w:World} {k:Nat} {o:Obj} (h:w.heap[k]? = some o):k<w.heap.size:=(Array.getElem?_eq_some_iff.1 h).1
theorem rd_drawn {B:Nat} {rb:Nat} (h:Rd B w rb t) (hB:B≤w.heap.size) (hg:w.grownBy w' none):Rd B w' rb t:=by
 obtain⟨v,hb,-⟩:=h.ex
 exact h.turn (grown_turn hg (Turn.refl _ _)) hB (lt_of_some hb)
theorem F0.start {v:Value} {l:List Int} (hv:BRow W.heap.size W v l) (hl:BL l):F0 W (((W.alloc (.cells #[.pointer none] 38)).alloc (.cells #[.int .i64 0] 22)).alloc (.cells #[v] 107)) l:=by
 have g0:=World.grownBy_alloc W (.cells #[.pointer none] 38) none
 have g1:=World.grownBy_alloc (W.alloc (.cells #[.pointer none] 38)) (.cells #[.int .i64 0] 22) none
 have g2:=World.grownBy_alloc ((W.alloc (.cells #[.pointer none] 38)).alloc (.cells #[.int .i64 0] 22)) (.cells #[v] 107) none
 have e0:=heap_alloc_new W (.cells #[.pointer none] 38)
 have e1:=heap_alloc_new (W.alloc (.cells #[.pointer none] 38)) (.cells #[.int .i64 0] 22)
 have e2:=heap_alloc_new ((W.alloc (.cells #[.pointer none] 38)).alloc (.cells #[.int .i64 0] 22)) (.cells #[v] 107)
 have s0:(W.alloc (.cells #[.pointer none] 38)).heap.size=W.heap.size+1:=by simp
 have s1:((W.alloc (.cells #[.pointer none] 38)).alloc (.cells #[.int .i64 0] 22)).heap.size=W.heap.size+1+1:=by simp
 have hg:=grown_trans (grown_trans g0 g1) g2
 rw[s0] at e1
 rw[s1] at e2
 exact⟨(g2.block _ (by omega) (by simp)).trans ((g1.block _ (by omega) (by simp)).trans e0),(g2.block _ (by omega) (by simp)).trans e1,⟨by omega,v,e2,hv.turn fun k hk=>hg.block k hk (by simp)⟩,hl,hg⟩
theorem F0.fb (h:F0 W w t):FB W w:=⟨⟨_,h.b2⟩,⟨_,h.b3⟩,h.gr⟩
theorem FS.fb (h:FS W w tb T t):FB W w:=⟨⟨_,h.b2⟩,⟨_,h.b3⟩,h.gr⟩
theorem FB.turn (h:FB W w) (ht:Turn (fun k=>k=W.heap.size+1+1) w w'):FB W w':=by
 obtain⟨v2,h2⟩:=h.b2
 obtain⟨v3,h3⟩:=h.b3
 exact⟨⟨v2,(ht.block _ (lt_of_some h2) (by omega)).trans h2⟩,⟨v3,(ht.block _ (lt_of_some h3) (by omega)).trans h3⟩,grown_of_turn h.gr ht fun k hk=>by omega⟩
theorem FB.turn2 {h:Nat} (hf:FB W w) (hh:W.heap.size+3≤h) (ht:Turn (fun k=>k=W.heap.size+1+1∨k=h) w w'):FB W w':=by
 obtain⟨v2,h2⟩:=hf.b2
 obtain⟨v3,h3⟩:=hf.b3
 exact⟨⟨v2,(ht.block _ (lt_of_some h2) (by omega)).trans h2⟩,⟨v3,(ht.block _ (lt_of_some h3) (by omega)).trans h3⟩,grown_of_turn hf.gr ht fun k hk=>by omega⟩
theorem FB.grow (h:FB W w) (hg:w.grownBy w' none):FB W w':=by
 obtain⟨v2,h2⟩:=h.b2
 obtain⟨v3,h3⟩:=h.b3
 exact⟨⟨v2,(hg.block _ (lt_of_some h2) (by simp)).trans h2⟩,⟨v3,(hg.block _ (lt_of_some h3) (by simp)).trans h3⟩,grown_trans h.gr hg⟩
theorem F0.turn (h:F0 W w t) (ht:Turn (fun k=>k=W.heap.size+1+1) w w') (hd:Rd W.heap.size w' (W.heap.size+1+1) t') (hb:BL t'):F0 W w' t':=
 ⟨(ht.block _ (lt_of_some h.b2) (by omega)).trans h.b2,(ht.block _ (lt_of_some h.b3) (by omega)).trans h.b3,hd,hb,grown_of_turn h.gr ht fun k hk=>by omega⟩
theorem FS.turn (h:FS W w tb T t) (ht:Turn (fun k=>k=W.heap.size+1+1) w w') (hd:Rd W.heap.size w' (W.heap.size+1+1) t') (hb:BL t'):FS W w' tb T t':=
 ⟨(ht.block _ (lt_of_some h.b2) (by omega)).trans h.b2,(ht.block _ (lt_of_some h.b3) (by omega)).trans h.b3,hd,hb,h.rep.same fun b hb=>ht.block b (h.rep.lt b hb) (by have:=h.far b hb;omega),h.far,grown_of_turn h.gr ht fun k hk=>by omega⟩
theorem FS.grow (h:FS W w tb T t) (hg:w.grownBy w' none):FS W w' tb T t:=
 ⟨(hg.block _ (lt_of_some h.b2) (by simp)).trans h.b2,(hg.block _ (lt_of_some h.b3) (by simp)).trans h.b3,rd_drawn h.rdr h.gr.size hg,h.bl,h.rep.grown hg,h.far,grown_trans h.gr hg⟩
theorem FS.set (h:FS W w tb T t) {b:Nat} (hb:b∈T.blocks tb) (hg:w.grownBy w' (some b)) (hr:TRep w' tb T') (hbs:T'.blocks tb=T.blocks tb):FS W w' tb T' t:=by
 have hf:=h.far b hb
 obtain⟨v,hv,-⟩:=h.rdr.ex
 have ne:∀k,k<W.heap.size+3→(some k:Option Nat)≠some b:=fun k hk e=>by cases e;omega
 refine⟨(hg.block _ (lt_of_some h.b2) (ne _ (by omega))).trans h.b2,(hg.block _ (lt_of_some h.b3) (ne _ (by omega))).trans h.b3,?_,h.bl,hr,by rw[hbs];exact h.far,⟨hg.os.trans h.gr.os,hg.tape.trans h.gr.tape,hg.output.trans h.gr.output,Nat.le_trans h.gr.size hg.size,fun k hk _=>(hg.block k (Nat.lt_of_lt_of_le hk h.gr.size) (ne _ (by omega))).trans (h.gr.block k hk (by simp))⟩⟩
 obtain⟨v,hv,hv2⟩:=h.rdr.ex
 exact⟨h.rdr.le,v,(hg.block _ (lt_of_some hv) (ne _ (by omega))).trans hv,hv2.turn fun k hk=>hg.block k (Nat.lt_of_lt_of_le hk h.gr.size) (ne _ (by omega))⟩
theorem FS.c2 (h:FS W w tb T t):w.cell? ⟨W.heap.size,0,none⟩=some (.pointer (some ⟨tb,0,none⟩)):=by have e:=h.b2;simp[World.cell?,e]
theorem FS.c3 (h:FS W w tb T t):w.cell? ⟨W.heap.size+1,0,none⟩=some (.int .i64 0):=by have e:=h.b3;simp[World.cell?,e]
theorem FS.free2 (h:FS W w tb T t) (i:Nat):w.frozen? ⟨W.heap.size,i,none⟩=false:=by have e:=h.b2;simp[World.frozen?,e]
theorem FS.free3 (h:FS W w tb T t) (i:Nat):w.frozen? ⟨W.heap.size+1,i,none⟩=false:=by have e:=h.b3;simp[World.frozen?,e]
theorem F0.c2 (h:F0 W w t):w.cell? ⟨W.heap.size,0,none⟩=some (.pointer none):=by have e:=h.b2;simp[World.cell?,e]
theorem F0.free2 (h:F0 W w t) (i:Nat):w.frozen? ⟨W.heap.size,i,none⟩=false:=by have e:=h.b2;simp[World.frozen?,e]
theorem F0.num (h:F0 W w t) (n:Nat) (hn:n≤8):Calls Tryz.prog 57 #[.pointer (some ⟨W.heap.size+1+1,0,none⟩),.int .i64 n] w (F0Q W (rd n t) (fun x=>.int .i64 (s64 x))):=by
 refine(number_two h.rdr h.gr.size h.bl n hn).mono ?_
 rintro e w1 ⟨ht,⟨x,t',hr,he,hd,hb⟩|⟨hr,he⟩⟩
 ·exact Or.inl ⟨x,t',hr,he,h.turn ht hd hb⟩
 ·exact Or.inr ⟨hr,he,h.fb.turn ht⟩
theorem FS.num (h:FS W w tb T t) (n:Nat) (hn:n≤8):Calls Tryz.prog 57 #[.pointer (some ⟨W.heap.size+1+1,0,none⟩),.int .i64 n] w (FSQ W w tb T (rd n t) (fun x=>.int .i64 (s64 x))):=by
 refine(number_two h.rdr h.gr.size h.bl n hn).mono ?_
 rintro e w1 ⟨ht,⟨x,t',hr,he,hd,hb⟩|⟨hr,he⟩⟩
 ·exact Or.inl ⟨x,t',hr,he,h.turn ht hd hb,ht⟩
 ·exact Or.inr ⟨hr,he,h.fb.turn ht⟩
theorem FS.bit (h:FS W w tb T t):Calls Tryz.prog 97 #[.pointer (some ⟨W.heap.size+1+1,0,none⟩)] w (FSQ W w tb T (rdBit t) Value.bool):=by
 refine(bit_two h.rdr h.gr.size h.bl).mono ?_
 rintro e w1 ⟨ht,⟨x,t',hr,he,hd,hb⟩|⟨hr,he⟩⟩
 ·exact Or.inl ⟨x,t',hr,he,h.turn ht hd hb,ht⟩
 ·exact Or.inr ⟨hr,he,h.fb.turn ht⟩
theorem FS.id (h:FS W w tb T t):Calls Tryz.prog 98 #[.pointer (some ⟨W.heap.size+1+1,0,none⟩)] w (FSQ W w tb T (rdID t) encID):=by
 refine(id_two h.rdr h.gr.size h.bl).mono ?_
 rintro e w1 ⟨ht,⟨x,t',hr,he,hd,hb⟩|⟨hr,he⟩⟩
 ·exact Or.inl ⟨x,t',hr,he,h.turn ht hd hb,ht⟩
 ·exact Or.inr ⟨hr,he,h.fb.turn ht⟩
theorem F0.new (h:F0 W w t) {T:Tab} (hr:TRep w' tb T) (hg:w.grownBy w' none) (hf:∀b∈T.blocks tb,w.heap.size≤b):FS W (w'.setCell ⟨W.heap.size,0,none⟩ (.pointer (some ⟨tb,0,none⟩))) tb T t:=by
 obtain⟨v,hv,hv2⟩:=h.rdr.ex
 have h1:=lt_of_some hv
 have e2:=(hg.block _ (lt_of_some h.b2) (by simp)).trans h.b2
 have e3:=(hg.block _ (lt_of_some h.b3) (by simp)).trans h.b3
 have ht:=turn_set w' W.heap.size 0 (.pointer (some ⟨tb,0,none⟩))
 have hf2:∀b∈T.blocks tb,W.heap.size+3≤b:=fun b hb=>by have:=hf b hb;omega
 refine⟨by simp[World.setCell,Array.getElem?_modify,e2],(ht.block _ (lt_of_some e3) (by omega)).trans e3,?_,h.bl,hr.same fun b hb=>ht.block b (hr.lt b hb) (by have:=hf2 b hb;omega),hf2,grown_setCell (grown_trans h.gr hg) (Nat.le_refl _) _⟩
 obtain⟨u,hu,hu2⟩:=(rd_drawn h.rdr h.gr.size hg).ex
 exact⟨h.rdr.le,u,(ht.block _ (lt_of_some hu) (by omega)).trans hu,hu2.turn fun k hk=>ht.block k (by have:=h.gr.size;have:=hg.size;omega) (by omega)⟩
theorem newT_far {N:Nat} {wi:Int} {b tb:Nat} (hr:TRep w' tb (newT N wi b)) (h:b≤tb):∀k∈(newT N wi b).blocks tb,b≤k:=by
 intro k hk
 simp[Tab.blocks,newT] at hk
 omega
theorem FS.holds {m:List (ID × NSet)} (h:FS W w tb T t) (h0:T.holds = []) (ht:Turn (fun k=>k=W.heap.size+1+1∨k=T.hb) w w') (hd:Rd W.heap.size w' (W.heap.size+1+1) t') (hb:BL t') (hn:NS (fun k=>w.heap.size≤k) T.hb w' m):∃M,nsets M=m∧FS W w' tb { T with holds:=M } t':=by
 obtain⟨M,e,hM⟩:=hn
 have nd:=h.rep.nodup
 have hlt:=h.rep.lt
 have hfar:=h.far
 have hhb:=hfar T.hb (by simp[Tab.blocks])
 have same:∀b∈T.blocks tb,b≠T.hb→w'.heap[b]? = w.heap[b]?:=fun b hb hne=>ht.block b (hlt b hb) (by have:=hfar b hb;omega)
 simp only[Tab.blocks,h0,List.map_nil,List.nil_append] at nd hlt hfar same
 simp only[List.nodup_cons,List.mem_cons,not_or] at nd
 have hbl:=hM.bl
 have hnd:=hM.nd
 rw[List.nodup_cons] at hnd
 refine⟨M,e,(ht.block _ (lt_of_some h.b2) (by omega)).trans h.b2,(ht.block _ (lt_of_some h.b3) (by omega)).trans h.b3,hd,hb,⟨?_,?_,?_,?_,?_,hM.map,?_,hM.sets,?_,?_⟩,?_,grown_of_turn h.gr ht fun k hk=>by omega⟩
 ·exact(same tb (by simp) nd.1.2.2.2.2.1).trans h.rep.cells
 ·exact(same T.lb (by simp) nd.2.1.2.2.2.1).trans h.rep.lives
 ·exact h.rep.calls.same (same T.cb (by simp) nd.2.2.1.2.2.1)
 ·exact h.rep.values.same (same T.vb (by simp) nd.2.2.2.1.2.1)
 ·exact h.rep.pending.same (same T.pb (by simp) nd.2.2.2.2.1.1)
 ·exact h.rep.refuses.same (same T.rb (by simp) (fun e=>nd.2.2.2.2.2.1.1 e.symm))
 ·intro x hx
  have hm:x.2.blk∈T.refuses.map (·.2.blk):=List.mem_map.2 ⟨x,hx,rfl⟩
  exact MapT.same (h.rep.rsets x hx) (same x.2.blk (by simp only[List.mem_cons];simp[hm]) (fun e=>nd.2.2.2.2.2.1.2 (e ▸ hm)))
 ·have hn1:=h.rep.nodup
  simp only[Tab.blocks,h0,List.map_nil,List.nil_append] at hn1
  have hsplit:(tb :: T.lb :: T.cb :: T.vb :: T.pb :: T.hb :: T.rb :: (M.map (·.2.blk)++T.refuses.map (·.2.blk))).Perm (M.map (·.2.blk)++(tb :: T.lb :: T.cb :: T.vb :: T.pb :: T.hb :: T.rb :: T.refuses.map (·.2.blk))):=by
   have:=@List.perm_append_comm _ [tb,T.lb,T.cb,T.vb,T.pb,T.hb,T.rb] (M.map (·.2.blk))
   have:=this.append_right (T.refuses.map (·.2.blk))
   simpa using this
  refine hsplit.nodup_iff.2 (List.nodup_append.2 ⟨hnd.2,hn1,fun a ha c hc e=>?_⟩)
  subst e
  obtain⟨x,hx,rfl⟩:=List.mem_map.1 ha
  have h1:=hbl x hx
  have h2:=hlt _ hc
  omega
 ·intro b hb
  simp only[Tab.blocks,List.mem_cons,List.mem_append] at hb
  have hws:=h.gr.size
  have h3:=lt_of_some (h.rdr.ex.choose_spec.1)
  rcases hb with hb|hb|hb|hb|hb|hb|hb|hb|hb
  ·exact hfar b (by simp[hb])
  ·exact hfar b (by simp[hb])
  ·exact hfar b (by simp[hb])
  ·exact hfar b (by simp[hb])
  ·exact hfar b (by simp[hb])
  ·exact hfar b (by simp[hb])
  ·exact hfar b (by simp[hb])
  ·obtain⟨x,hx,rfl⟩:=List.mem_map.1 hb
   have:=hbl x hx
   omega
  ·exact hfar b (by simp only[List.mem_cons];simp[hb])
theorem FS.refs {m:List (ID × NSet)} (h:FS W w tb T t) (h0:T.refuses = []) (ht:Turn (fun k=>k=W.heap.size+1+1∨k=T.rb) w w') (hd:Rd W.heap.size w' (W.heap.size+1+1) t') (hb:BL t') (hn:NS (fun k=>w.heap.size≤k) T.rb w' m):∃M,nsets M=m∧FS W w' tb { T with refuses:=M } t':=by
 obtain⟨M,e,hM⟩:=hn
 have nd:=h.rep.nodup
 have hlt:=h.rep.lt
 have hfar:=h.far
 have hhb:=hfar T.rb (by simp[Tab.blocks])
 have same:∀b∈T.blocks tb,b≠T.rb→w'.heap[b]? = w.heap[b]?:=fun b hb hne=>ht.block b (hlt b hb) (by have:=hfar b hb;omega)
 simp only[Tab.blocks,h0,List.map_nil,List.append_nil] at nd hlt hfar same
 simp only[List.nodup_cons,List.mem_cons,not_or] at nd
 have hbl:=hM.bl
 have hnd:=hM.nd
 rw[List.nodup_cons] at hnd
 refine⟨M,e,(ht.block _ (lt_of_some h.b2) (by omega)).trans h.b2,(ht.block _ (lt_of_some h.b3) (by omega)).trans h.b3,hd,hb,⟨?_,?_,?_,?_,?_,?_,hM.map,?_,hM.sets,?_⟩,?_,grown_of_turn h.gr ht fun k hk=>by omega⟩
 ·exact(same tb (by simp) nd.1.2.2.2.2.2.1).trans h.rep.cells
 ·exact(same T.lb (by simp) nd.2.1.2.2.2.2.1).trans h.rep.lives
 ·exact h.rep.calls.same (same T.cb (by simp) nd.2.2.1.2.2.2.1)
 ·exact h.rep.values.same (same T.vb (by simp) nd.2.2.2.1.2.2.1)
 ·exact h.rep.pending.same (same T.pb (by simp) nd.2.2.2.2.1.2.1)
 ·exact h.rep.holds.same (same T.hb (by simp) nd.2.2.2.2.2.1.1)
 ·intro x hx
  have hm:x.2.blk∈T.holds.map (·.2.blk):=List.mem_map.2 ⟨x,hx,rfl⟩
  exact MapT.same (h.rep.hsets x hx) (same x.2.blk (by simp only[List.mem_cons];simp[hm]) (fun e=>nd.2.2.2.2.2.2.1 (e ▸ hm)))
 ·have hn1:=h.rep.nodup
  simp only[Tab.blocks,h0,List.map_nil,List.append_nil] at hn1
  have hsplit:(tb :: T.lb :: T.cb :: T.vb :: T.pb :: T.hb :: T.rb :: (T.holds.map (·.2.blk)++M.map (·.2.blk))).Perm (M.map (·.2.blk)++(tb :: T.lb :: T.cb :: T.vb :: T.pb :: T.hb :: T.rb :: T.holds.map (·.2.blk))):=by
   have:=@List.perm_append_comm _ (tb :: T.lb :: T.cb :: T.vb :: T.pb :: T.hb :: T.rb :: T.holds.map (·.2.blk)) (M.map (·.2.blk))
   simpa using this
  refine hsplit.nodup_iff.2 (List.nodup_append.2 ⟨hnd.2,hn1,fun a ha c hc e=>?_⟩)
  subst e
  obtain⟨x,hx,rfl⟩:=List.mem_map.1 ha
  have h1:=hbl x hx
  have h2:=hlt _ hc
  omega
 ·intro b hb
  simp only[Tab.blocks,List.mem_cons,List.mem_append] at hb
  have hws:=h.gr.size
  have h3:=lt_of_some (h.rdr.ex.choose_spec.1)
  rcases hb with hb|hb|hb|hb|hb|hb|hb|hb|hb
  ·exact hfar b (by simp[hb])
  ·exact hfar b (by simp[hb])
  ·exact hfar b (by simp[hb])
  ·exact hfar b (by simp[hb])
  ·exact hfar b (by simp[hb])
  ·exact hfar b (by simp[hb])
  ·exact hfar b (by simp[hb])
  ·exact hfar b (by simp only[List.mem_cons];simp[hb])
  ·obtain⟨x,hx,rfl⟩:=List.mem_map.1 hb
   have:=hbl x hx
   omega
def mkN (w o x:Int) (li:List Int) (ca:List (Int × CallT)) (va:List (ByteArray × Val)) (pe:List (ID × Pend)) (ho re:List (ID × NSet)):Tab:=⟨w,o,x,li,ca,va,pe,ho,re,0,0,0,0,0,0⟩
section
variable {a o x : Int} {li : List Int} {ca : List (Int × CallT)} {va : List (ByteArray × Val)} {pe : List (ID × Pend)} {ho re : List (ID × NSet)}
theorem FS.k0 (h:FS W w tb T t) (hn:T.norm=mkN a o x li ca va pe ho re):w.cell? ⟨tb,0,none⟩=some (.int .i64 a):=by rw[h.rep.c0,show T.w=a from congrArg Tab.w hn]
theorem FS.k1 (h:FS W w tb T t) (hn:T.norm=mkN a o x li ca va pe ho re):w.cell? ⟨tb,1,none⟩=some (.int .i64 o):=by rw[h.rep.c1,show T.offers=o from congrArg Tab.offers hn]
theorem FS.k2 (h:FS W w tb T t) (hn:T.norm=mkN a o x li ca va pe ho re):w.cell? ⟨tb,2,none⟩=some (.int .i64 x):=by rw[h.rep.c2,show T.next=x from congrArg Tab.next hn]
theorem FS.k3 (h:FS W w tb T t) (hn:T.norm=mkN a o x li ca va pe ho re) {n:Nat} (hl:li.length=n):w.cell? ⟨tb,3,none⟩=some (.slice (some ⟨T.lb,0,none⟩) n n):=by rw[h.rep.c3,show T.lives=li from congrArg Tab.lives hn,hl]
theorem FS.life (h:FS W w tb T t) (hn:T.norm=mkN a o x li ca va pe ho re) {j:Nat} (hj:j<li.length):w.cell? ⟨T.lb,j,none⟩=some (.int .i64 (li.getD j 0)):=by
 have e:T.lives=li:=congrArg Tab.lives hn
 rw[h.rep.life j (by rw[e];exact hj),e]
theorem FS.mc (h:FS W w tb T t) (hn:T.norm=mkN a o x li ca va pe ho re):MapT w T.cb (Value.int .i64) encCall ca:=by have e:T.calls=ca:=congrArg Tab.calls hn;rw[←e];exact h.rep.calls
theorem FS.mv (h:FS W w tb T t) (hn:T.norm=mkN a o x li ca va pe ho re):MapT w T.vb Value.string encVal va:=by have e:T.values=va:=congrArg Tab.values hn;rw[←e];exact h.rep.values
theorem FS.mp (h:FS W w tb T t) (hn:T.norm=mkN a o x li ca va pe ho re):MapT w T.pb encID encPend pe:=by have e:T.pending=pe:=congrArg Tab.pending hn;rw[←e];exact h.rep.pending
theorem nsets_nil {m:List (ID × NSet)} (h:nsets m = []):m = []:=by cases m with|nil=>rfl|cons p r=>simp[nsets] at h
theorem FS.h0 (hn:T.norm=mkN a o x li ca va pe [] re):T.holds = []:=nsets_nil (congrArg Tab.holds hn)
theorem FS.r0 (hn:T.norm=mkN a o x li ca va pe ho []):T.refuses = []:=nsets_nil (congrArg Tab.refuses hn)
theorem FS.setLife (h:FS W w tb T t) (hn:T.norm=mkN a o x li ca va pe ho re) (j:Nat) (z:Int):∃T',FS W (w.setCell ⟨T.lb,j,none⟩ (.int .i64 z)) tb T' t∧T'.norm=mkN a o x (li.set j z) ca va pe ho re∧T'.lb=T.lb:=by
 refine⟨_,h.set (b:=T.lb) (by simp[Tab.blocks]) (grown_set _ _ _ _) (h.rep.upd_life j z) rfl,?_,rfl⟩
 have e:T.lives=li:=congrArg Tab.lives hn
 rw[←e]
 exact(congrArg (fun N:Tab=>{ N with lives:=T.lives.set j z }) hn).trans rfl
theorem FS.setCall (h:FS W w tb T t) (hn:T.norm=mkN a o x li ca va pe ho re) {m:List (Int × CallT)} (hm:MapT w' T.cb (Value.int .i64) encCall m) (hg:w.grownBy w' (some T.cb)):∃T',FS W w' tb T' t∧T'.norm=mkN a o x li m va pe ho re∧T'.cb=T.cb:=
 ⟨_,h.set (b:=T.cb) (by simp[Tab.blocks]) hg (h.rep.upd_calls hm hg) rfl,(congrArg (fun N:Tab=>{ N with calls:=m }) hn).trans rfl,rfl⟩
theorem FS.setVal (h:FS W w tb T t) (hn:T.norm=mkN a o x li ca va pe ho re) {m:List (ByteArray × Val)} (hm:MapT w' T.vb Value.string encVal m) (hg:w.grownBy w' (some T.vb)):∃T',FS W w' tb T' t∧T'.norm=mkN a o x li ca m pe ho re∧T'.vb=T.vb:=
 ⟨_,h.set (b:=T.vb) (by simp[Tab.blocks]) hg (h.rep.upd_values hm hg) rfl,(congrArg (fun N:Tab=>{ N with values:=m }) hn).trans rfl,rfl⟩
theorem FS.setPend (h:FS W w tb T t) (hn:T.norm=mkN a o x li ca va pe ho re) {m:List (ID × Pend)} (hm:MapT w' T.pb encID encPend m) (hg:w.grownBy w' (some T.pb)):∃T',FS W w' tb T' t∧T'.norm=mkN a o x li ca va m ho re∧T'.pb=T.pb:=
 ⟨_,h.set (b:=T.pb) (by simp[Tab.blocks]) hg (h.rep.upd_pending hm hg) rfl,(congrArg (fun N:Tab=>{ N with pending:=m }) hn).trans rfl,rfl⟩
theorem FS.setHolds (h:FS W w tb T t) (hn:T.norm=mkN a o x li ca va pe [] re) {m:List (ID × NSet)} (ht:Turn (fun k=>k=W.heap.size+1+1∨k=T.hb) w w') (hd:Rd W.heap.size w' (W.heap.size+1+1) t') (hb:BL t') (hs:NS (fun k=>w.heap.size≤k) T.hb w' m):∃T',FS W w' tb T' t'∧T'.norm=mkN a o x li ca va pe m re∧T'.rb=T.rb:=by
 obtain⟨M,e,hf⟩:=h.holds (FS.h0 hn) ht hd hb hs
 exact⟨_,hf,(congrArg (fun N:Tab=>{ N with holds:=nsets M }) hn).trans (by rw[e];rfl),rfl⟩
theorem FS.setRefs (h:FS W w tb T t) (hn:T.norm=mkN a o x li ca va pe ho []) {m:List (ID × NSet)} (ht:Turn (fun k=>k=W.heap.size+1+1∨k=T.rb) w w') (hd:Rd W.heap.size w' (W.heap.size+1+1) t') (hb:BL t') (hs:NS (fun k=>w.heap.size≤k) T.rb w' m):∃T',FS W w' tb T' t'∧T'.norm=mkN a o x li ca va pe ho m:=by
 obtain⟨M,e,hf⟩:=h.refs (FS.r0 hn) ht hd hb hs
 exact⟨_,hf,(congrArg (fun N:Tab=>{ N with refuses:=nsets M }) hn).trans (by rw[e];rfl)⟩
end
section
variable {n c j : Nat} {a o x : Int} {li L l : List Int} {ca : List (Int × CallT)} {va : List (ByteArray × Val)} {pe : List (ID × Pend)}
theorem fL_step (hj:j<c):fL n a o x (c-j) j L l=(rd 8 l).bind fun p=>if 0≤s64 p.1∧s64 p.1≤o then fL n a o x (c-(j+1)) (j+1) (L.set j (s64 p.1)) p.2 else none:=by
 rw[show c-j=(c-(j+1))+1 by omega]
 unfold fL
 rw[rdLives]
 cases rd 8 l with
 | none=>rfl
 | some p=>simp only[Option.bind_some];split <;> rfl
theorem fL_end:fL n a o x (c-c) j L l=fC0 n a o x L l:=by rw[Nat.sub_self];rfl
theorem fC_step (hj:j<c):fC n a o x li (c-j) ca l=(rd 2 l).bind fun k=>(rd 8 k.2).bind fun r=>(rd 8 r.2).bind fun v=>(rdBit v.2).bind fun d=>(rd 2 d.2).bind fun e=>fC n a o x li (c-(j+1)) (mput ca k.1 ⟨s64 r.1,s64 v.1,d.1,e.1⟩) e.2:=by
 rw[show c-j=(c-(j+1))+1 by omega]
 unfold fC
 rw[rep,rdCall]
 simp only[Option.bind_assoc,Option.bind_some]
theorem fC_end:fC n a o x li (c-c) ca l=fV0 n a o x li ca l:=by rw[Nat.sub_self];rfl
theorem fV_step (hj:j<c):fV n a o x li ca (c-j) va l=(rdID l).bind fun i=>if 1≤i.1.ver∧i.1.ver<x then (rdBit i.2).bind fun d=>fV n a o x li ca (c-(j+1)) (mput va i.1.key ⟨i.1.ver,d.1⟩) d.2 else none:=by
 rw[show c-j=(c-(j+1))+1 by omega]
 unfold fV
 rw[rep,rdVal]
 cases rdID l with
 | none=>rfl
 | some p=>simp only[Option.bind_some];split <;> simp[Option.bind_assoc]
theorem fV_end:fV n a o x li ca (c-c) va l=fP0 n a o x li ca va l:=by rw[Nat.sub_self];rfl
theorem fP_step (hj:j<c):fP n a o x li ca va (c-j) pe l=(rdID l).bind fun i=>if 1≤i.1.ver∧i.1.ver<x then (rd 2 i.2).bind fun d=>(rd 8 d.2).bind fun r=>fP n a o x li ca va (c-(j+1)) (mput pe i.1 ⟨d.1,s64 r.1⟩) r.2 else none:=by
 rw[show c-j=(c-(j+1))+1 by omega]
 unfold fP
 rw[rep,rdPend]
 cases rdID l with
 | none=>rfl
 | some p=>simp only[Option.bind_some];split <;> simp[Option.bind_assoc]
theorem fP_end:fP n a o x li ca va (c-c) pe l=fH n a o x li ca va pe l:=by rw[Nat.sub_self];rfl
end
theorem FS.fin (h:FS W w tb T t) (w2:World) (hw:w2=(w.setCell ⟨W.heap.size,0,none⟩ (.pointer (some ⟨tb,0,none⟩))).setCell ⟨W.heap.size+1,0,none⟩ (.int .i64 0)):W.grownBy w2 none∧w2.heap[W.heap.size]? = some (.cells #[.pointer (some ⟨tb,0,none⟩)] 38 (0,0))∧w2.heap[W.heap.size+1]? = some (.cells #[.int .i64 0] 22 (0,0))∧TRep w2 tb T:=by
 subst hw
 have h1:=turn_set w W.heap.size 0 (.pointer (some ⟨tb,0,none⟩))
 have h2:=turn_set (w.setCell ⟨W.heap.size,0,none⟩ (.pointer (some ⟨tb,0,none⟩))) (W.heap.size+1) 0 (.int .i64 0)
 have e1:(w.setCell ⟨W.heap.size,0,none⟩ (.pointer (some ⟨tb,0,none⟩))).heap[W.heap.size]? = some (.cells #[.pointer (some ⟨tb,0,none⟩)] 38 (0,0)):=by
  have e:=h.b2
  simp[World.setCell,Array.getElem?_modify,e]
 have e2:(w.setCell ⟨W.heap.size,0,none⟩ (.pointer (some ⟨tb,0,none⟩))).heap[W.heap.size+1]? = some (.cells #[.int .i64 0] 22 (0,0)):=(h1.block _ (lt_of_some h.b3) (by omega)).trans h.b3
 refine⟨grown_setCell (grown_setCell h.gr (Nat.le_refl _) _) (Nat.le_succ _) _,(h2.block _ (lt_of_some e1) (by omega)).trans e1,?_,(h.rep.same fun b hb=>h1.block b (h.rep.lt b hb) (by have:=h.far b hb;omega)).same fun b hb=>h2.block b ?_ (by have:=h.far b hb;omega)⟩
 ·generalize w.setCell ⟨W.heap.size,0,none⟩ (.pointer (some ⟨tb,0,none⟩))=w1 at *
  simp[World.setCell,Array.getElem?_modify,e2]
 ·have:=h.rep.lt b hb
  exact Nat.lt_of_lt_of_le this h1.size
theorem keys_nsets (m:List (ID × NSet)):(nsets m).map (·.1)=m.map (·.1):=by unfold nsets;rw[List.map_map];rfl
theorem rowsH_nsets (m:List (ID × NSet)):rowsH (nsets m)=rowsH m:=by
 unfold rowsH idkeys
 rw[keys_nsets,show(nsets m).length=m.length from by simp[nsets]]
 congr 1
 congr 1
 funext i
 unfold hOne
 rw[mget_nsets]
 cases mget m i <;> rfl
theorem encT_norm (T:Tab):encT T.norm=encT T:=by
 show _++rowsH (nsets T.holds)++rowsH (nsets T.refuses)=_
 rw[rowsH_nsets,rowsH_nsets]
 rfl
theorem TFit.of_norm (h:TFit T.norm):TFit T:=by
 refine⟨h.ll,h.ck,h.cl,h.vk,h.vl,h.pl,?_,?_,fun p hp=>h.hf (p.1,⟨0,p.2.mem⟩) (List.mem_map.2 ⟨p,hp,rfl⟩),fun p hp=>h.rf (p.1,⟨0,p.2.mem⟩) (List.mem_map.2 ⟨p,hp,rfl⟩),by rw[←encT_norm];exact h.len⟩
 ·have:=h.hl;simpa[Tab.norm,nsets] using this
 ·have:=h.rl;simpa[Tab.norm,nsets] using this
theorem fX_no {n:Nat} {w o x:Int} {l:List Int} (h:¬(clampN n=n∧clampW n w=w∧0≤o∧1≤x)):fX n w o x l=none:=by
 rw[fX,if_neg]
 intro e
 simp only[fits0,Bool.and_eq_true,decide_eq_true_eq] at e
 exact h ⟨e.1.1.1,e.1.1.2,e.1.2,e.2⟩
theorem fX_yes {n:Nat} {w o x:Int} {l:List Int} (h1:clampN n=n) (h2:clampW n w=w) (h3:0≤o) (h4:1≤x):fX n w o x l=fL n w o x (n-0) 0 (List.replicate n 0) l:=by
 rw[fX,if_pos (by simp[fits0,h1,h2,h3,h4])];rfl
theorem FromQ.bad {RES:Option Tab} {l0:List Int} {tmps:Array Value} (hb:FB W w) (h2:tmps.getD 2 undef = .pointer (some ⟨W.heap.size,0,none⟩)) (h3:tmps.getD 3 undef = .pointer (some ⟨W.heap.size+1,0,none⟩)) (hr:Refused RES l0):FromQ W RES l0 (.panic [{ v:=.iface 186 (.agg #[]),recovered:=false }]) ⟨tmps,fdef W⟩ w:=⟨rfl,hb,rfl,h2,h3,hr⟩
theorem refused_none {RES:Option Tab} {l0:List Int} (h:RES=none):Refused RES l0:=fun L e=>by rw[h] at e;cases e
end
def SetEq (a b:Option NSet):Prop:=(a=none∧b=none)∨∃s s',a=some s∧b=some s'∧s.mem.Perm s'.mem
structure Alike (T U:Tab):Prop where
 w:U.w=T.w
 offers:U.offers=T.offers
 next:U.next=T.next
 lives:U.lives=T.lives
 calls:∀m,mget U.calls m=mget T.calls m
 vals:∀s,mget U.values s=mget T.values s
 pends:∀i,mget U.pending i=mget T.pending i
 holds:∀i,SetEq (mget T.holds i) (mget U.holds i)
 refs:∀i,SetEq (mget T.refuses i) (mget U.refuses i)
structure Nod (T:Tab):Prop where
 c:(T.calls.map (·.1)).Nodup
 v:(T.values.map (·.1)).Nodup
 p:(T.pending.map (·.1)).Nodup
 h:(T.holds.map (·.1)).Nodup
 r:(T.refuses.map (·.1)).Nodup
section
variable {T U : Tab} {R : RTab} {n k : Nat}
theorem keys_perm {K V:Type} [DecidableEq K] {a b:List (K × V)} (ha:(a.map (·.1)).Nodup) (hb:(b.map (·.1)).Nodup) (h:∀i,(mget a i).isSome=(mget b i).isSome):(a.map (·.1)).Perm (b.map (·.1)):=by
 refine(List.perm_ext_iff_of_nodup ha hb).2 fun i=>?_
 have e:∀m:List (K × V),i∈m.map (·.1)↔(mget m i).isSome=true:=fun m=>by
  rw[mget_some_iff]
  constructor
  ·intro hm
   obtain⟨x,hx,rfl⟩:=List.mem_map.1 hm
   exact⟨x.2,hx⟩
  ·rintro⟨v,hv⟩
   exact List.mem_map.2 ⟨_,hv,rfl⟩
 rw[e a,e b,h i]
theorem keys_len {K V:Type} {a b:List (K × V)} (h:(a.map (·.1)).Perm (b.map (·.1))):a.length=b.length:=by
 have:=h.length_eq
 simpa using this
theorem perm_idkeys {V:Type} {a b:List (ID × V)} (ha:(a.map (·.1)).Nodup) (hb:(b.map (·.1)).Nodup) (h:(a.map (·.1)).Perm (b.map (·.1))):idkeys a=idkeys b:=
 sorted_ext (sortL_sorted ha) (sortL_sorted hb) fun x=>(mem_sortL ha x).trans (h.mem_iff.trans (mem_sortL hb x).symm)
theorem nsort_perm {a b:List Int} (h:a.Perm b):nsort a=nsort b:=by
 unfold nsort
 exact mergeSort_of_perm_i h
theorem SetEq.isSome {a b:Option NSet} (h:SetEq a b):a.isSome=b.isSome:=by
 rcases h with ⟨rfl,rfl⟩|⟨s,s',rfl,rfl,_⟩ <;> rfl
theorem rowsH_alike {a b:List (ID × NSet)} (ha:(a.map (·.1)).Nodup) (hb:(b.map (·.1)).Nodup) (h:∀i,SetEq (mget a i) (mget b i)):rowsH a=rowsH b:=by
 have hp:=keys_perm ha hb fun i=>(h i).isSome
 unfold rowsH
 rw[keys_len hp,perm_idkeys ha hb hp]
 congr 1
 congr 1
 funext i
 unfold hOne setB
 rcases h i with ⟨e1,e2⟩|⟨s,s',e1,e2,hs⟩
 ·rw[e1,e2]
 ·rw[e1,e2]
  simp only[Option.getD_some]
  rw[nsort_perm hs,hs.length_eq]
theorem enc_alike (h:Alike T U) (hT:Nod T) (hU:Nod U):encT T=encT U:=by
 have hc:=keys_perm hT.c hU.c fun i=>by rw[h.calls i]
 have hv:=keys_perm hT.v hU.v fun i=>by rw[h.vals i]
 have hp:=keys_perm hT.p hU.p fun i=>by rw[h.pends i]
 have e1:rowsC T.calls=rowsC U.calls:=by
  unfold rowsC
  rw[keys_len hc,show ikeys T.calls=ikeys U.calls from by unfold ikeys;exact nsort_perm hc]
  congr 1
  congr 1
  funext i
  unfold cOne cAt
  rw[h.calls i]
 have e2:rowsV T.values=rowsV U.values:=by
  unfold rowsV
  rw[keys_len hv,show bkeys T.values=bkeys U.values from by unfold bkeys;refine mergeSort_of_perm ?_;have e:=hv.map (fun k:ByteArray=>k.data.toList);rwa [List.map_map,List.map_map] at e]
  congr 1
  congr 1
  funext i
  unfold vOne vAt
  rw[h.vals]
 have e3:rowsP T.pending=rowsP U.pending:=by
  unfold rowsP
  rw[keys_len hp,perm_idkeys hT.p hU.p hp]
  congr 1
  congr 1
  funext i
  unfold pOne pAt
  rw[h.pends i]
 unfold encT
 rw[e1,e2,e3,rowsH_alike hT.h hU.h h.holds,rowsH_alike hT.r hU.r h.refs,h.w,h.offers,h.next,h.lives]
theorem SetEq.memH {a b:List (ID × NSet)} {i:ID} (h:SetEq (mget a i) (mget b i)):(Go.Proofs.YtjfelfjobeeenaaGreat.memH a i).Perm (Go.Proofs.YtjfelfjobeeenaaGreat.memH b i):=by
 unfold Go.Proofs.YtjfelfjobeeenaaGreat.memH
 rcases h with ⟨e1,e2⟩|⟨s,s',e1,e2,hs⟩
 ·rw[e1,e2]
 ·rw[e1,e2];exact hs
theorem Alike.callV (h:Alike T U) (m:Int):callV U m=Go.Proofs.YtjfelfjobeeenaaGreat.callV T m:=by unfold Go.Proofs.YtjfelfjobeeenaaGreat.callV;rw[h.calls]
theorem Alike.lookV (h:Alike T U) (s:ByteArray):lookV U s=Go.Proofs.YtjfelfjobeeenaaGreat.lookV T s:=by unfold Go.Proofs.YtjfelfjobeeenaaGreat.lookV;rw[h.vals]
theorem Alike.look (h:Alike T U) (s:ByteArray):look U s=Go.Proofs.YtjfelfjobeeenaaGreat.look T s:=by unfold Go.Proofs.YtjfelfjobeeenaaGreat.look;rw[h.lookV]
theorem Alike.wanted (h:Alike T U) (i:ID):wantedB U i=wantedB T i:=by unfold wantedB;rw[h.look,h.pends]
theorem seteq_of {a b:List (ID × NSet)} (ha:Mems n a) (hb:Mems n b) (ta:∀p∈a,p.2.mem≠[]) (tb:∀p∈b,p.2.mem≠[]) (i:ID) (h:∀x,x∈memH a i↔x∈memH b i):SetEq (mget a i) (mget b i):=by
 unfold memH at h
 cases e1:mget a i with
 | none=>
  cases e2:mget b i with
  | none=>exact Or.inl ⟨rfl,rfl⟩
  | some s=>
   rw[e1,e2] at h
   exfalso
   cases hs:s.mem with
   | nil=>exact tb _ (mget_mem e2) hs
   | cons x r=>have:=(h x).2 (by simp[hs]);simp at this
 | some s=>
  cases e2:mget b i with
  | none=>
   rw[e1,e2] at h
   exfalso
   cases hs:s.mem with
   | nil=>exact ta _ (mget_mem e1) hs
   | cons x r=>have:=(h x).1 (by simp[hs]);simp at this
  | some s'=>
   rw[e1,e2] at h
   exact Or.inr ⟨s,s',rfl,rfl,(List.perm_ext_iff_of_nodup (ha.mem _ (mget_mem e1)).1 (hb.mem _ (mget_mem e2)).1).2 h⟩
theorem alike_of_sim (hT:Inv n k T) (hU:Inv n k U) (h:Sim T R) (g:Sim U R) (tT:Tidy T) (tU:Tidy U):Alike T U where
 w:=g.s0.W.symm.trans h.s0.W
 offers:=g.s0.offers.symm.trans h.s0.offers
 next:=g.s0.next.symm.trans h.s0.next
 lives:=g.s0.lives.symm.trans h.s0.lives
 calls m:=(g.s0.calls m).symm.trans (h.s0.calls m)
 vals m:=(g.s0.vals m).symm.trans (h.s0.vals m)
 pends m:=(g.s0.pends m).symm.trans (h.s0.pends m)
 holds i:=seteq_of hT.hm hU.hm (fun p hp=>(tT.h p hp).1) (fun p hp=>(tU.h p hp).1) i fun x=>by rw[h.s0.hold,g.s0.hold]
 refs i:=seteq_of hT.rm hU.rm (fun p hp=>(tT.r p hp).1) (fun p hp=>(tU.r p hp).1) i fun x=>by rw[h.s0.refu,g.s0.refu]
theorem Sim.alike (h:Sim T R) (a:Alike T U) (hU:Nod U):Sim U R:=by
 refine⟨⟨by rw[h.s0.N,a.lives],by rw[h.s0.W,a.w],by rw[h.s0.offers,a.offers],by rw[h.s0.next,a.next],by rw[h.s0.lives,a.lives],fun m=>by rw[h.s0.calls,a.calls],fun m=>by rw[h.s0.vals,a.vals],fun m=>by rw[h.s0.pends,a.pends],h.s0.pn,h.s0.vn,hU.v,fun i x=>?_,fun i x=>?_,h.s0.hb,h.s0.hn⟩,h.kept⟩
 ·rw[←h.s0.hold i x];exact(a.holds i).memH.mem_iff.symm
 ·rw[←h.s0.refu i x];exact(a.refs i).memH.mem_iff.symm
theorem mem_alike {K V:Type} [DecidableEq K] {a b:List (K × V)} (hb:(b.map (·.1)).Nodup) (h:∀i,mget b i=mget a i) {p:K × V} (hp:p∈b):p∈a:=mget_mem (by rw[←h];exact mget_of_mem hb hp)
theorem Mems.alike {a b:List (ID × NSet)} (h:Mems n a) (hb:(b.map (·.1)).Nodup) (g:∀i,SetEq (mget a i) (mget b i)):Mems n b:=by
 refine⟨hb,fun p hp=>?_⟩
 have e2:=mget_of_mem hb hp
 rcases g p.1 with ⟨_,e⟩|⟨s,s',e1,e3,hs⟩
 ·rw[e2] at e;cases e
 ·rw[e2] at e3
  cases e3
  have h1:=h.mem _ (mget_mem e1)
  exact⟨hs.nodup_iff.1 h1.1,fun x hx=>h1.2 x (hs.mem_iff.2 hx)⟩
theorem Inv.alike (h:Inv n k T) (a:Alike T U) (hU:Nod U):Inv n k U:=by
 have hp:∀p∈U.pending,p∈T.pending:=fun p=>mem_alike hU.p a.pends
 refine⟨by rw[a.lives];exact h.ln,a.w.trans h.w,by rw[a.lives,a.offers];exact h.lo,by rw[a.offers];exact h.o0,by rw[a.next];exact h.nx,hU.p,fun p hq=>by rw[a.next];exact h.pv p (hp p hq),fun p hp1 q hq1=>h.pu p (hp p hp1) q (hp q hq1),fun s=>by rw[a.lookV,a.next];exact h.vv s,fun p hq=>by rw[a.lookV];exact h.pl p (hp p hq),fun p hq=>by rw[a.callV];exact h.pc p (hp p hq),h.hm.alike hU.h a.holds,h.rm.alike hU.r a.refs⟩
theorem Tidy.alike (h:Tidy T) (a:Alike T U) (hU:Nod U):Tidy U:=by
 have key:∀{x y:List (ID × NSet)},(y.map (·.1)).Nodup→(∀i,SetEq (mget x i) (mget y i))→∀p∈y,∃s,(p.1,s)∈x∧s.mem.Perm p.2.mem:=fun {x y} hy g p hp=>by
  have e2:=mget_of_mem hy hp
  rcases g p.1 with ⟨_,e⟩|⟨s,s',e1,e3,hs⟩
  ·rw[e2] at e;cases e
  ·rw[e2] at e3
   cases e3
   exact⟨s,mget_mem e1,hs⟩
 refine⟨fun p hp=>?_,fun p hp=>?_⟩
 ·obtain⟨s,hs,hq⟩:=key hU.h a.holds p hp
  have h1:=h.h _ hs
  exact⟨fun e=>h1.1 (List.Perm.eq_nil (by rw[←e];exact hq)),by rw[a.wanted];exact h1.2⟩
 ·obtain⟨s,hs,hq⟩:=key hU.r a.refs p hp
  have h1:=h.r _ hs
  exact⟨fun e=>h1.1 (List.Perm.eq_nil (by rw[←e];exact hq)),by rw[a.pends];exact h1.2⟩
theorem Rng.alike (h:Rng T) (a:Alike T U) (hU:Nod U):Rng U:=
 ⟨fun p hp=>h.c p (mem_alike hU.c a.calls hp),fun p hp=>h.v p (mem_alike hU.v a.vals hp),fun p hp=>h.p p (mem_alike hU.p a.pends hp),hU.c,hU.v⟩
end
end Go.Proofs.YtjfelfjobeeenaaGreat
