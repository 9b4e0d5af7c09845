/- From: what it carries between two reads. Conditions: none, or as the theorems say. -/
import Derived.Test.YtjfelfjobeeenaaGreatN30
import Derived.Test.YtjfelfjobeeenaaGreatProg
import Derived.Deep.RegionHeld3
import Derived.WalkKit
namespace Go.Proofs.YtjfelfjobeeenaaGreat
set_option maxHeartbeats 200000000
set_option linter.unusedVariables false
set_option linter.unusedSimpArgs false
open Go.RowKit Go.Sf Go.Shelf
theorem zat {P:Program} {K V:Type} [DecidableEq K] {ek:K→Value} {ev:V→Value} {ops:Array Oper} {o:Oper} {a:Act} {w:World} {KK:Act→World→Prop} {Q:Exit→Act→World→Prop} {F:Prop} (hgd:o.guard=none) (x y v:Operand) (t:TypeId) (hop:o.op=Op.mapUpdate t x y v) {kt et:TypeId} (KE:zck P kt ek) (ht:P.underlying t=some (.map kt et))
  (b:Nat) (m:List (K × V)) (hx:a.eval x = .map (some b)) (h:zw w b ek ev m) (k:K) (u:V) (hy:a.eval y=ek k) (hv:a.eval v=ev u)
  (hK:∀w',zw w' b ek ev (ym m k u)→w.grownBy w' (some b)→KK (a.put o.dst undef) w'):if Region.wanted o (yielded ops a.tmps)=true then Oper.wp P o a w KK Q else F:=by
 have hw:Region.wanted o (yielded ops a.tmps)=true:=by simp[Region.wanted,hgd]
 rw[if_pos hw];obtain⟨w',hrun,r1,r2,r3⟩:=h.update KE ht k u;unfold Oper.wp;simp[execOp,hop,hx,hy,hv,hrun,Result.andThen]
 exact hK w' r1 r2
structure F0 (W w:World) (t:List Int):Prop where
 b2:w.heap[W.heap.size]? = some (.cells #[.pointer none] 38 (0,0))
 b3:w.heap[W.heap.size+1]? = some (.cells #[.int .i64 0] 22 (0,0))
 rdr:Rd W.heap.size w (W.heap.size+1+1) t
 bl:BL t
 gr:W.grownBy w none
structure FS (W w:World) (tb:Nat) (T:Tab) (t:List Int):Prop where
 b2:w.heap[W.heap.size]? = some (.cells #[.pointer (some ⟨tb,0,none⟩)] 38 (0,0))
 b3:w.heap[W.heap.size+1]? = some (.cells #[.int .i64 0] 22 (0,0))
 rdr:Rd W.heap.size w (W.heap.size+1+1) t
 bl:BL t
 rep:yh w tb T
 far:∀b∈T.blocks tb,W.heap.size+3≤b
 gr:W.grownBy w none
def F0Q (W:World) {α:Type} (o:Option (α × List Int)) (enc:α→Value) (e:Ending) (w':World):Prop:=(∃x t',o=some (x,t')∧e = .returned (enc x)∧F0 W w' t')∨(o=none∧e=xh∧FB W w')
def FSQ (W w:World) (tb:Nat) (T:Tab) {α:Type} (o:Option (α × List Int)) (enc:α→Value) (e:Ending) (w':World):Prop:=(∃x t',o=some (x,t')∧e = .returned (enc x)∧FS W w' tb T t'∧yc (fun k=>k=W.heap.size+1+1) w w')∨(o=none∧e=xh∧FB W w')
theorem ju {W w w':World} {bs:Nat→Prop} (h:W.grownBy w none) (ht:yc bs w w') (hb:∀k,k<W.heap.size→¬bs k):W.grownBy w' none:=
 ⟨ht.os.trans h.os,ht.tape.trans h.tape,ht.output.trans h.output,Nat.le_trans h.size ht.size,fun k hk _=>(ht.block k (Nat.lt_of_lt_of_le hk h.size) (hb k hk)).trans (h.block k hk (by simp))⟩
section
variable {W w w' : World} {tb : Nat} {T T' : Tab} {t t' : List Int}
theorem yi {w:World} {k:Nat} {o:Obj} (h:w.heap[k]? = some o):k<w.heap.size:=(Array.getElem?_eq_some_iff.1 h).1
theorem znf {B:Nat} {rb:Nat} (h:Rd B w rb t) (hB:B≤w.heap.size) (hg:w.grownBy w' none):Rd B w' rb t:=by
 obtain⟨v,hb,-⟩:=h.ex
 exact h.turn (xy hg (yc.refl _ _)) hB (yi hb)
theorem F0.start {v:Value} {l:List Int} (hv:uy W.heap.size W v l) (hl:BL l):F0 W (((W.alloc (.cells #[.pointer none] 38)).alloc (.cells #[.int .i64 0] 22)).alloc (.cells #[v] 107)) l:=by
 have g0:=zc W (.cells #[.pointer none] 38) none;have g1:=zc (W.alloc (.cells #[.pointer none] 38)) (.cells #[.int .i64 0] 22) none;have g2:=zc ((W.alloc (.cells #[.pointer none] 38)).alloc (.cells #[.int .i64 0] 22)) (.cells #[v] 107) none;have e0:=heap_alloc_new W (.cells #[.pointer none] 38);have e1:=heap_alloc_new (W.alloc (.cells #[.pointer none] 38)) (.cells #[.int .i64 0] 22);have e2:=heap_alloc_new ((W.alloc (.cells #[.pointer none] 38)).alloc (.cells #[.int .i64 0] 22)) (.cells #[v] 107);have s0:(W.alloc (.cells #[.pointer none] 38)).heap.size=W.heap.size+1:=by simp
 have s1:((W.alloc (.cells #[.pointer none] 38)).alloc (.cells #[.int .i64 0] 22)).heap.size=W.heap.size+1+1:=by simp
 have hg:=ze (ze g0 g1) g2;rw[s0] at e1;rw[s1] at e2
 exact⟨(g2.block _ (by omega) (by simp)).trans ((g1.block _ (by omega) (by simp)).trans e0),(g2.block _ (by omega) (by simp)).trans e1,⟨by omega,v,e2,hv.turn fun k hk=>hg.block k hk (by simp)⟩,hl,hg⟩
theorem F0.fb (h:F0 W w t):FB W w:=⟨⟨_,h.b2⟩,⟨_,h.b3⟩,h.gr⟩
theorem FS.fb (h:FS W w tb T t):FB W w:=⟨⟨_,h.b2⟩,⟨_,h.b3⟩,h.gr⟩
theorem FB.turn (h:FB W w) (ht:yc (fun k=>k=W.heap.size+1+1) w w'):FB W w':=by
 obtain⟨v2,h2⟩:=h.b2;obtain⟨v3,h3⟩:=h.b3
 exact⟨⟨v2,(ht.block _ (yi h2) (by omega)).trans h2⟩,⟨v3,(ht.block _ (yi h3) (by omega)).trans h3⟩,ju h.gr ht fun k hk=>by omega⟩
theorem FB.turn2 {h:Nat} (hf:FB W w) (hh:W.heap.size+3≤h) (ht:yc (fun k=>k=W.heap.size+1+1∨k=h) w w'):FB W w':=by
 obtain⟨v2,h2⟩:=hf.b2;obtain⟨v3,h3⟩:=hf.b3
 exact⟨⟨v2,(ht.block _ (yi h2) (by omega)).trans h2⟩,⟨v3,(ht.block _ (yi h3) (by omega)).trans h3⟩,ju hf.gr ht fun k hk=>by omega⟩
theorem FB.grow (h:FB W w) (hg:w.grownBy w' none):FB W w':=by
 obtain⟨v2,h2⟩:=h.b2;obtain⟨v3,h3⟩:=h.b3
 exact⟨⟨v2,(hg.block _ (yi h2) (by simp)).trans h2⟩,⟨v3,(hg.block _ (yi h3) (by simp)).trans h3⟩,ze h.gr hg⟩
theorem F0.turn (h:F0 W w t) (ht:yc (fun k=>k=W.heap.size+1+1) w w') (hd:Rd W.heap.size w' (W.heap.size+1+1) t') (hb:BL t'):F0 W w' t':=
 ⟨(ht.block _ (yi h.b2) (by omega)).trans h.b2,(ht.block _ (yi h.b3) (by omega)).trans h.b3,hd,hb,ju h.gr ht fun k hk=>by omega⟩
theorem FS.turn (h:FS W w tb T t) (ht:yc (fun k=>k=W.heap.size+1+1) w w') (hd:Rd W.heap.size w' (W.heap.size+1+1) t') (hb:BL t'):FS W w' tb T t':=
 ⟨(ht.block _ (yi h.b2) (by omega)).trans h.b2,(ht.block _ (yi h.b3) (by omega)).trans h.b3,hd,hb,h.rep.same fun b hb=>ht.block b (h.rep.lt b hb) (by have:=h.far b hb;omega),h.far,ju h.gr ht fun k hk=>by omega⟩
theorem FS.grow (h:FS W w tb T t) (hg:w.grownBy w' none):FS W w' tb T t:=
 ⟨(hg.block _ (yi h.b2) (by simp)).trans h.b2,(hg.block _ (yi h.b3) (by simp)).trans h.b3,znf h.rdr h.gr.size hg,h.bl,h.rep.grown hg,h.far,ze h.gr hg⟩
theorem FS.set (h:FS W w tb T t) {b:Nat} (hb:b∈T.blocks tb) (hg:w.grownBy w' (some b)) (hr:yh w' tb T') (hbs:T'.blocks tb=T.blocks tb):FS W w' tb T' t:=by
 have hf:=h.far b hb;obtain⟨v,hv,-⟩:=h.rdr.ex;have ne:∀k,k<W.heap.size+3→(some k:Option Nat)≠some b:=fun k hk e=>by cases e;omega
 refine⟨(hg.block _ (yi h.b2) (ne _ (by omega))).trans h.b2,(hg.block _ (yi h.b3) (ne _ (by omega))).trans h.b3,?_,h.bl,hr,by rw[hbs];exact h.far,⟨hg.os.trans h.gr.os,hg.tape.trans h.gr.tape,hg.output.trans h.gr.output,Nat.le_trans h.gr.size hg.size,fun k hk _=>(hg.block k (Nat.lt_of_lt_of_le hk h.gr.size) (ne _ (by omega))).trans (h.gr.block k hk (by simp))⟩⟩
 obtain⟨v,hv,hv2⟩:=h.rdr.ex
 exact⟨h.rdr.le,v,(hg.block _ (yi hv) (ne _ (by omega))).trans hv,hv2.turn fun k hk=>hg.block k (Nat.lt_of_lt_of_le hk h.gr.size) (ne _ (by omega))⟩
theorem FS.c2 (h:FS W w tb T t):w.cell? ⟨W.heap.size,0,none⟩=some (.pointer (some ⟨tb,0,none⟩)):=by have e:=h.b2;simp[World.cell?,e]
theorem FS.c3 (h:FS W w tb T t):w.cell? ⟨W.heap.size+1,0,none⟩=some (.int .i64 0):=by have e:=h.b3;simp[World.cell?,e]
theorem FS.free2 (h:FS W w tb T t) (i:Nat):w.frozen? ⟨W.heap.size,i,none⟩=false:=by have e:=h.b2;simp[World.frozen?,e]
theorem FS.free3 (h:FS W w tb T t) (i:Nat):w.frozen? ⟨W.heap.size+1,i,none⟩=false:=by have e:=h.b3;simp[World.frozen?,e]
theorem F0.c2 (h:F0 W w t):w.cell? ⟨W.heap.size,0,none⟩=some (.pointer none):=by have e:=h.b2;simp[World.cell?,e]
theorem F0.free2 (h:F0 W w t) (i:Nat):w.frozen? ⟨W.heap.size,i,none⟩=false:=by have e:=h.b2;simp[World.frozen?,e]
theorem F0.num (h:F0 W w t) (n:Nat) (hn:n≤8):Calls Tryz.prog 57 #[.pointer (some ⟨W.heap.size+1+1,0,none⟩),.int .i64 n] w (F0Q W (rd n t) (fun x=>.int .i64 (s64 x))):=by
 refine(Yw h.rdr h.gr.size h.bl n hn).mono ?_;rintro e w1 ⟨ht,⟨x,t',hr,he,hd,hb⟩|⟨hr,he⟩⟩
 ·exact Or.inl ⟨x,t',hr,he,h.turn ht hd hb⟩
 ·exact Or.inr ⟨hr,he,h.fb.turn ht⟩
theorem FS.num (h:FS W w tb T t) (n:Nat) (hn:n≤8):Calls Tryz.prog 57 #[.pointer (some ⟨W.heap.size+1+1,0,none⟩),.int .i64 n] w (FSQ W w tb T (rd n t) (fun x=>.int .i64 (s64 x))):=by
 refine(Yw h.rdr h.gr.size h.bl n hn).mono ?_;rintro e w1 ⟨ht,⟨x,t',hr,he,hd,hb⟩|⟨hr,he⟩⟩
 ·exact Or.inl ⟨x,t',hr,he,h.turn ht hd hb,ht⟩
 ·exact Or.inr ⟨hr,he,h.fb.turn ht⟩
theorem FS.bit (h:FS W w tb T t):Calls Tryz.prog 97 #[.pointer (some ⟨W.heap.size+1+1,0,none⟩)] w (FSQ W w tb T (Ue t) Value.bool):=by
 refine(bit_two h.rdr h.gr.size h.bl).mono ?_;rintro e w1 ⟨ht,⟨x,t',hr,he,hd,hb⟩|⟨hr,he⟩⟩
 ·exact Or.inl ⟨x,t',hr,he,h.turn ht hd hb,ht⟩
 ·exact Or.inr ⟨hr,he,h.fb.turn ht⟩
theorem FS.id (h:FS W w tb T t):Calls Tryz.prog 98 #[.pointer (some ⟨W.heap.size+1+1,0,none⟩)] w (FSQ W w tb T (Ql t) zx):=by
 refine(ztt h.rdr h.gr.size h.bl).mono ?_;rintro e w1 ⟨ht,⟨x,t',hr,he,hd,hb⟩|⟨hr,he⟩⟩
 ·exact Or.inl ⟨x,t',hr,he,h.turn ht hd hb,ht⟩
 ·exact Or.inr ⟨hr,he,h.fb.turn ht⟩
theorem F0.new (h:F0 W w t) {T:Tab} (hr:yh w' tb T) (hg:w.grownBy w' none) (hf:∀b∈T.blocks tb,w.heap.size≤b):FS W (w'.setCell ⟨W.heap.size,0,none⟩ (.pointer (some ⟨tb,0,none⟩))) tb T t:=by
 obtain⟨v,hv,hv2⟩:=h.rdr.ex;have h1:=yi hv;have e2:=(hg.block _ (yi h.b2) (by simp)).trans h.b2
 have e3:=(hg.block _ (yi h.b3) (by simp)).trans h.b3
 have ht:=vf w' W.heap.size 0 (.pointer (some ⟨tb,0,none⟩));have hf2:∀b∈T.blocks tb,W.heap.size+3≤b:=fun b hb=>by have:=hf b hb;omega
 refine⟨by simp[World.setCell,Array.getElem?_modify,e2],(ht.block _ (yi e3) (by omega)).trans e3,?_,h.bl,hr.same fun b hb=>ht.block b (hr.lt b hb) (by have:=hf2 b hb;omega),hf2,qi (ze h.gr hg) (Nat.le_refl _) _⟩
 obtain⟨u,hu,hu2⟩:=(znf h.rdr h.gr.size hg).ex
 exact⟨h.rdr.le,u,(ht.block _ (yi hu) (by omega)).trans hu,hu2.turn fun k hk=>ht.block k (by have:=h.gr.size;have:=hg.size;omega) (by omega)⟩
theorem zt5 {N:Nat} {wi:Int} {b tb:Nat} (hr:yh w' tb (qn N wi b)) (h:b≤tb):∀k∈(qn N wi b).blocks tb,b≤k:=by
 intro k hk;simp[Tab.blocks,qn] at hk;omega
theorem FS.holds {m:List (ID × ye)} (h:FS W w tb T t) (h0:T.holds = []) (ht:yc (fun k=>k=W.heap.size+1+1∨k=T.hb) w w') (hd:Rd W.heap.size w' (W.heap.size+1+1) t') (hb:BL t') (hn:NS (fun k=>w.heap.size≤k) T.hb w' m):∃M,vp M=m∧FS W w' tb { T with holds:=M } t':=by
 obtain⟨M,e,hM⟩:=hn;have nd:=h.rep.nodup;have hlt:=h.rep.lt;have hfar:=h.far;have hhb:=hfar T.hb (by simp[Tab.blocks])
 have same:∀b∈T.blocks tb,b≠T.hb→w'.heap[b]? = w.heap[b]?:=fun b hb hne=>ht.block b (hlt b hb) (by have:=hfar b hb;omega)
 simp only[Tab.blocks,h0,List.map_nil,List.nil_append] at nd hlt hfar same;simp only[List.nodup_cons,List.mem_cons,not_or] at nd;have hbl:=hM.bl;have hnd:=hM.nd;rw[List.nodup_cons] at hnd;refine⟨M,e,(ht.block _ (yi h.b2) (by omega)).trans h.b2,(ht.block _ (yi h.b3) (by omega)).trans h.b3,hd,hb,⟨?_,?_,?_,?_,?_,hM.map,?_,hM.sets,?_,?_⟩,?_,ju h.gr ht fun k hk=>by omega⟩
 ·exact(same tb (by simp) nd.1.2.2.2.2.1).trans h.rep.cells
 ·exact(same T.lb (by simp) nd.2.1.2.2.2.1).trans h.rep.zv0
 ·exact h.rep.calls.same (same T.cb (by simp) nd.2.2.1.2.2.1)
 ·exact h.rep.values.same (same T.vb (by simp) nd.2.2.2.1.2.1)
 ·exact h.rep.pending.same (same T.pb (by simp) nd.2.2.2.2.1.1)
 ·exact h.rep.zv2.same (same T.rb (by simp) (fun e=>nd.2.2.2.2.2.1.1 e.symm))
 ·intro x hx
  have hm:x.2.blk∈T.zv2.map (·.2.blk):=List.mem_map.2 ⟨x,hx,rfl⟩
  exact zw.same (h.rep.rsets x hx) (same x.2.blk (by simp only[List.mem_cons];simp[hm]) (fun e=>nd.2.2.2.2.2.1.2 (e ▸ hm)))
 ·have hn1:=h.rep.nodup
  simp only[Tab.blocks,h0,List.map_nil,List.nil_append] at hn1;have hsplit:(tb :: T.lb :: T.cb :: T.vb :: T.pb :: T.hb :: T.rb :: (M.map (·.2.blk)++T.zv2.map (·.2.blk))).Perm (M.map (·.2.blk)++(tb :: T.lb :: T.cb :: T.vb :: T.pb :: T.hb :: T.rb :: T.zv2.map (·.2.blk))):=by
   have:=@List.perm_append_comm _ [tb,T.lb,T.cb,T.vb,T.pb,T.hb,T.rb] (M.map (·.2.blk))
   have:=this.append_right (T.zv2.map (·.2.blk))
   simpa using this
  refine hsplit.nodup_iff.2 (List.nodup_append.2 ⟨hnd.2,hn1,fun a ha c hc e=>?_⟩)
  subst e;obtain⟨x,hx,rfl⟩:=List.mem_map.1 ha;have h1:=hbl x hx;have h2:=hlt _ hc;omega
 ·intro b hb
  simp only[Tab.blocks,List.mem_cons,List.mem_append] at hb;have hws:=h.gr.size;have h3:=yi (h.rdr.ex.choose_spec.1)
  rcases hb with hb|hb|hb|hb|hb|hb|hb|hb|hb
  ·exact hfar b (by simp[hb])
  ·exact hfar b (by simp[hb])
  ·exact hfar b (by simp[hb])
  ·exact hfar b (by simp[hb])
  ·exact hfar b (by simp[hb])
  ·exact hfar b (by simp[hb])
  ·exact hfar b (by simp[hb])
  ·obtain⟨x,hx,rfl⟩:=List.mem_map.1 hb
   have:=hbl x hx;omega
  ·exact hfar b (by simp only[List.mem_cons];simp[hb])
theorem FS.refs {m:List (ID × ye)} (h:FS W w tb T t) (h0:T.zv2 = []) (ht:yc (fun k=>k=W.heap.size+1+1∨k=T.rb) w w') (hd:Rd W.heap.size w' (W.heap.size+1+1) t') (hb:BL t') (hn:NS (fun k=>w.heap.size≤k) T.rb w' m):∃M,vp M=m∧FS W w' tb { T with zv2:=M } t':=by
 obtain⟨M,e,hM⟩:=hn;have nd:=h.rep.nodup;have hlt:=h.rep.lt;have hfar:=h.far;have hhb:=hfar T.rb (by simp[Tab.blocks])
 have same:∀b∈T.blocks tb,b≠T.rb→w'.heap[b]? = w.heap[b]?:=fun b hb hne=>ht.block b (hlt b hb) (by have:=hfar b hb;omega)
 simp only[Tab.blocks,h0,List.map_nil,List.append_nil] at nd hlt hfar same;simp only[List.nodup_cons,List.mem_cons,not_or] at nd;have hbl:=hM.bl;have hnd:=hM.nd;rw[List.nodup_cons] at hnd;refine⟨M,e,(ht.block _ (yi h.b2) (by omega)).trans h.b2,(ht.block _ (yi h.b3) (by omega)).trans h.b3,hd,hb,⟨?_,?_,?_,?_,?_,?_,hM.map,?_,hM.sets,?_⟩,?_,ju h.gr ht fun k hk=>by omega⟩
 ·exact(same tb (by simp) nd.1.2.2.2.2.2.1).trans h.rep.cells
 ·exact(same T.lb (by simp) nd.2.1.2.2.2.2.1).trans h.rep.zv0
 ·exact h.rep.calls.same (same T.cb (by simp) nd.2.2.1.2.2.2.1)
 ·exact h.rep.values.same (same T.vb (by simp) nd.2.2.2.1.2.2.1)
 ·exact h.rep.pending.same (same T.pb (by simp) nd.2.2.2.2.1.2.1)
 ·exact h.rep.holds.same (same T.hb (by simp) nd.2.2.2.2.2.1.1)
 ·intro x hx
  have hm:x.2.blk∈T.holds.map (·.2.blk):=List.mem_map.2 ⟨x,hx,rfl⟩
  exact zw.same (h.rep.hsets x hx) (same x.2.blk (by simp only[List.mem_cons];simp[hm]) (fun e=>nd.2.2.2.2.2.2.1 (e ▸ hm)))
 ·have hn1:=h.rep.nodup
  simp only[Tab.blocks,h0,List.map_nil,List.append_nil] at hn1;have hsplit:(tb :: T.lb :: T.cb :: T.vb :: T.pb :: T.hb :: T.rb :: (T.holds.map (·.2.blk)++M.map (·.2.blk))).Perm (M.map (·.2.blk)++(tb :: T.lb :: T.cb :: T.vb :: T.pb :: T.hb :: T.rb :: T.holds.map (·.2.blk))):=by
   have:=@List.perm_append_comm _ (tb :: T.lb :: T.cb :: T.vb :: T.pb :: T.hb :: T.rb :: T.holds.map (·.2.blk)) (M.map (·.2.blk))
   simpa using this
  refine hsplit.nodup_iff.2 (List.nodup_append.2 ⟨hnd.2,hn1,fun a ha c hc e=>?_⟩)
  subst e;obtain⟨x,hx,rfl⟩:=List.mem_map.1 ha;have h1:=hbl x hx;have h2:=hlt _ hc;omega
 ·intro b hb
  simp only[Tab.blocks,List.mem_cons,List.mem_append] at hb;have hws:=h.gr.size;have h3:=yi (h.rdr.ex.choose_spec.1)
  rcases hb with hb|hb|hb|hb|hb|hb|hb|hb|hb
  ·exact hfar b (by simp[hb])
  ·exact hfar b (by simp[hb])
  ·exact hfar b (by simp[hb])
  ·exact hfar b (by simp[hb])
  ·exact hfar b (by simp[hb])
  ·exact hfar b (by simp[hb])
  ·exact hfar b (by simp[hb])
  ·exact hfar b (by simp only[List.mem_cons];simp[hb])
  ·obtain⟨x,hx,rfl⟩:=List.mem_map.1 hb
   have:=hbl x hx;omega
def mkN (w o x:Int) (li:List Int) (ca:List (Int × yz)) (va:List (ByteArray × Val)) (pe:List (ID × xd)) (ho re:List (ID × ye)):Tab:=⟨w,o,x,li,ca,va,pe,ho,re,0,0,0,0,0,0⟩
section
variable {a o x : Int} {li : List Int} {ca : List (Int × yz)} {va : List (ByteArray × Val)} {pe : List (ID × xd)} {ho re : List (ID × ye)}
theorem FS.k0 (h:FS W w tb T t) (hn:T.norm=mkN a o x li ca va pe ho re):w.cell? ⟨tb,0,none⟩=some (.int .i64 a):=by rw[h.rep.c0,show T.w=a from congrArg Tab.w hn]
theorem FS.k1 (h:FS W w tb T t) (hn:T.norm=mkN a o x li ca va pe ho re):w.cell? ⟨tb,1,none⟩=some (.int .i64 o):=by rw[h.rep.c1,show T.offers=o from congrArg Tab.offers hn]
theorem FS.k2 (h:FS W w tb T t) (hn:T.norm=mkN a o x li ca va pe ho re):w.cell? ⟨tb,2,none⟩=some (.int .i64 x):=by rw[h.rep.c2,show T.next=x from congrArg Tab.next hn]
theorem FS.k3 (h:FS W w tb T t) (hn:T.norm=mkN a o x li ca va pe ho re) {n:Nat} (hl:li.length=n):w.cell? ⟨tb,3,none⟩=some (.slice (some ⟨T.lb,0,none⟩) n n):=by rw[h.rep.c3,show T.zv0=li from congrArg Tab.zv0 hn,hl]
theorem FS.life (h:FS W w tb T t) (hn:T.norm=mkN a o x li ca va pe ho re) {j:Nat} (hj:j<li.length):w.cell? ⟨T.lb,j,none⟩=some (.int .i64 (li.getD j 0)):=by
 have e:T.zv0=li:=congrArg Tab.zv0 hn;rw[h.rep.life j (by rw[e];exact hj),e]
theorem FS.mc (h:FS W w tb T t) (hn:T.norm=mkN a o x li ca va pe ho re):zw w T.cb (Value.int .i64) qt ca:=by have e:T.calls=ca:=congrArg Tab.calls hn;rw[←e];exact h.rep.calls
theorem FS.mv (h:FS W w tb T t) (hn:T.norm=mkN a o x li ca va pe ho re):zw w T.vb Value.string Ya va:=by have e:T.values=va:=congrArg Tab.values hn;rw[←e];exact h.rep.values
theorem FS.mp (h:FS W w tb T t) (hn:T.norm=mkN a o x li ca va pe ho re):zw w T.pb zx xw pe:=by have e:T.pending=pe:=congrArg Tab.pending hn;rw[←e];exact h.rep.pending
theorem zi7 {m:List (ID × ye)} (h:vp m = []):m = []:=by cases m with|nil=>rfl|cons p r=>simp[vp] at h
theorem FS.h0 (hn:T.norm=mkN a o x li ca va pe [] re):T.holds = []:=zi7 (congrArg Tab.holds hn)
theorem FS.r0 (hn:T.norm=mkN a o x li ca va pe ho []):T.zv2 = []:=zi7 (congrArg Tab.zv2 hn)
theorem FS.setLife (h:FS W w tb T t) (hn:T.norm=mkN a o x li ca va pe ho re) (j:Nat) (z:Int):∃T',FS W (w.setCell ⟨T.lb,j,none⟩ (.int .i64 z)) tb T' t∧T'.norm=mkN a o x (li.set j z) ca va pe ho re∧T'.lb=T.lb:=by
 refine⟨_,h.set (b:=T.lb) (by simp[Tab.blocks]) (Zm _ _ _ _) (h.rep.upd_life j z) rfl,?_,rfl⟩
 have e:T.zv0=li:=congrArg Tab.zv0 hn;rw[←e]
 exact(congrArg (fun N:Tab=>{ N with zv0:=T.zv0.set j z }) hn).trans rfl
theorem FS.setCall (h:FS W w tb T t) (hn:T.norm=mkN a o x li ca va pe ho re) {m:List (Int × yz)} (hm:zw w' T.cb (Value.int .i64) qt m) (hg:w.grownBy w' (some T.cb)):∃T',FS W w' tb T' t∧T'.norm=mkN a o x li m va pe ho re∧T'.cb=T.cb:=
 ⟨_,h.set (b:=T.cb) (by simp[Tab.blocks]) hg (h.rep.upd_calls hm hg) rfl,(congrArg (fun N:Tab=>{ N with calls:=m }) hn).trans rfl,rfl⟩
theorem FS.setVal (h:FS W w tb T t) (hn:T.norm=mkN a o x li ca va pe ho re) {m:List (ByteArray × Val)} (hm:zw w' T.vb Value.string Ya m) (hg:w.grownBy w' (some T.vb)):∃T',FS W w' tb T' t∧T'.norm=mkN a o x li ca m pe ho re∧T'.vb=T.vb:=
 ⟨_,h.set (b:=T.vb) (by simp[Tab.blocks]) hg (h.rep.upd_values hm hg) rfl,(congrArg (fun N:Tab=>{ N with values:=m }) hn).trans rfl,rfl⟩
theorem FS.setPend (h:FS W w tb T t) (hn:T.norm=mkN a o x li ca va pe ho re) {m:List (ID × xd)} (hm:zw w' T.pb zx xw m) (hg:w.grownBy w' (some T.pb)):∃T',FS W w' tb T' t∧T'.norm=mkN a o x li ca va m ho re∧T'.pb=T.pb:=
 ⟨_,h.set (b:=T.pb) (by simp[Tab.blocks]) hg (h.rep.upd_pending hm hg) rfl,(congrArg (fun N:Tab=>{ N with pending:=m }) hn).trans rfl,rfl⟩
theorem FS.setHolds (h:FS W w tb T t) (hn:T.norm=mkN a o x li ca va pe [] re) {m:List (ID × ye)} (ht:yc (fun k=>k=W.heap.size+1+1∨k=T.hb) w w') (hd:Rd W.heap.size w' (W.heap.size+1+1) t') (hb:BL t') (hs:NS (fun k=>w.heap.size≤k) T.hb w' m):∃T',FS W w' tb T' t'∧T'.norm=mkN a o x li ca va pe m re∧T'.rb=T.rb:=by
 obtain⟨M,e,hf⟩:=h.holds (FS.h0 hn) ht hd hb hs
 exact⟨_,hf,(congrArg (fun N:Tab=>{ N with holds:=vp M }) hn).trans (by rw[e];rfl),rfl⟩
theorem FS.setRefs (h:FS W w tb T t) (hn:T.norm=mkN a o x li ca va pe ho []) {m:List (ID × ye)} (ht:yc (fun k=>k=W.heap.size+1+1∨k=T.rb) w w') (hd:Rd W.heap.size w' (W.heap.size+1+1) t') (hb:BL t') (hs:NS (fun k=>w.heap.size≤k) T.rb w' m):∃T',FS W w' tb T' t'∧T'.norm=mkN a o x li ca va pe ho m:=by
 obtain⟨M,e,hf⟩:=h.refs (FS.r0 hn) ht hd hb hs
 exact⟨_,hf,(congrArg (fun N:Tab=>{ N with zv2:=vp M }) hn).trans (by rw[e];rfl)⟩
end
section
variable {n c j : Nat} {a o x : Int} {li L l : List Int} {ca : List (Int × yz)} {va : List (ByteArray × Val)} {pe : List (ID × xd)}
theorem fL_step (hj:j<c):fL n a o x (c-j) j L l=(rd 8 l).bind fun p=>if 0≤s64 p.1∧s64 p.1≤o then fL n a o x (c-(j+1)) (j+1) (L.set j (s64 p.1)) p.2 else none:=by
 rw[show c-j=(c-(j+1))+1 by omega]
 unfold fL;rw[Vn]
 cases rd 8 l with
 | none=>rfl
 | some p=>simp only[Option.bind_some];split <;> rfl
theorem fL_end:fL n a o x (c-c) j L l=fC0 n a o x L l:=by rw[Nat.sub_self];rfl
theorem fC_step (hj:j<c):fC n a o x li (c-j) ca l=(rd 2 l).bind fun k=>(rd 8 k.2).bind fun r=>(rd 8 r.2).bind fun v=>(Ue v.2).bind fun d=>(rd 2 d.2).bind fun e=>fC n a o x li (c-(j+1)) (ym ca k.1 ⟨s64 r.1,s64 v.1,d.1,e.1⟩) e.2:=by
 rw[show c-j=(c-(j+1))+1 by omega]
 unfold fC;rw[rep,zap];simp only[Option.bind_assoc,Option.bind_some]
theorem fC_end:fC n a o x li (c-c) ca l=fV0 n a o x li ca l:=by rw[Nat.sub_self];rfl
theorem fV_step (hj:j<c):fV n a o x li ca (c-j) va l=(Ql l).bind fun i=>if 1≤i.1.zvz∧i.1.zvz<x then (Ue i.2).bind fun d=>fV n a o x li ca (c-(j+1)) (ym va i.1.key ⟨i.1.zvz,d.1⟩) d.2 else none:=by
 rw[show c-j=(c-(j+1))+1 by omega]
 unfold fV;rw[rep,zds]
 cases Ql l with
 | none=>rfl
 | some p=>simp only[Option.bind_some];split <;> simp[Option.bind_assoc]
theorem fV_end:fV n a o x li ca (c-c) va l=fP0 n a o x li ca va l:=by rw[Nat.sub_self];rfl
theorem fP_step (hj:j<c):fP n a o x li ca va (c-j) pe l=(Ql l).bind fun i=>if 1≤i.1.zvz∧i.1.zvz<x then (rd 2 i.2).bind fun d=>(rd 8 d.2).bind fun r=>fP n a o x li ca va (c-(j+1)) (ym pe i.1 ⟨d.1,s64 r.1⟩) r.2 else none:=by
 rw[show c-j=(c-(j+1))+1 by omega]
 unfold fP;rw[rep,zaq]
 cases Ql l with
 | none=>rfl
 | some p=>simp only[Option.bind_some];split <;> simp[Option.bind_assoc]
theorem fP_end:fP n a o x li ca va (c-c) pe l=fH n a o x li ca va pe l:=by rw[Nat.sub_self];rfl
end
theorem FS.fin (h:FS W w tb T t) (w2:World) (hw:w2=(w.setCell ⟨W.heap.size,0,none⟩ (.pointer (some ⟨tb,0,none⟩))).setCell ⟨W.heap.size+1,0,none⟩ (.int .i64 0)):W.grownBy w2 none∧w2.heap[W.heap.size]? = some (.cells #[.pointer (some ⟨tb,0,none⟩)] 38 (0,0))∧w2.heap[W.heap.size+1]? = some (.cells #[.int .i64 0] 22 (0,0))∧yh w2 tb T:=by
 subst hw;have h1:=vf w W.heap.size 0 (.pointer (some ⟨tb,0,none⟩));have h2:=vf (w.setCell ⟨W.heap.size,0,none⟩ (.pointer (some ⟨tb,0,none⟩))) (W.heap.size+1) 0 (.int .i64 0);have e1:(w.setCell ⟨W.heap.size,0,none⟩ (.pointer (some ⟨tb,0,none⟩))).heap[W.heap.size]? = some (.cells #[.pointer (some ⟨tb,0,none⟩)] 38 (0,0)):=by
  have e:=h.b2;simp[World.setCell,Array.getElem?_modify,e]
 have e2:(w.setCell ⟨W.heap.size,0,none⟩ (.pointer (some ⟨tb,0,none⟩))).heap[W.heap.size+1]? = some (.cells #[.int .i64 0] 22 (0,0)):=(h1.block _ (yi h.b3) (by omega)).trans h.b3
 refine⟨qi (qi h.gr (Nat.le_refl _) _) (Nat.le_succ _) _,(h2.block _ (yi e1) (by omega)).trans e1,?_,(h.rep.same fun b hb=>h1.block b (h.rep.lt b hb) (by have:=h.far b hb;omega)).same fun b hb=>h2.block b ?_ (by have:=h.far b hb;omega)⟩
 ·generalize w.setCell ⟨W.heap.size,0,none⟩ (.pointer (some ⟨tb,0,none⟩))=w1 at *
  simp[World.setCell,Array.getElem?_modify,e2]
 ·have:=h.rep.lt b hb
  exact Nat.lt_of_lt_of_le this h1.size
theorem zcr (m:List (ID × ye)):(vp m).map (·.1)=m.map (·.1):=by unfold vp;rw[List.map_map];rfl
theorem zfn (m:List (ID × ye)):jf (vp m)=jf m:=by
 unfold jf qe;rw[zcr,show(vp m).length=m.length from by simp[vp]]
 congr 1
 congr 1
 funext i
 unfold zah;rw[zam]
 cases zt m i <;> rfl
theorem Jg (T:Tab):qa T.norm=qa T:=by
 show _++jf (vp T.holds)++jf (vp T.zv2)=_
 rw[zfn,zfn]
 rfl
theorem zd1.of_norm (h:zd1 T.norm):zd1 T:=by
 refine⟨h.ll,h.ck,h.cl,h.vk,h.vl,h.pl,?_,?_,fun p hp=>h.hf (p.1,⟨0,p.2.mem⟩) (List.mem_map.2 ⟨p,hp,rfl⟩),fun p hp=>h.rf (p.1,⟨0,p.2.mem⟩) (List.mem_map.2 ⟨p,hp,rfl⟩),by rw[←Jg];exact h.len⟩
 ·have:=h.hl;simpa[Tab.norm,vp] using this
 ·have:=h.rl;simpa[Tab.norm,vp] using this
theorem zp2 {n:Nat} {w o x:Int} {l:List Int} (h:¬(vm n=n∧yu n w=w∧0≤o∧1≤x)):fX n w o x l=none:=by
 rw[fX,if_neg];intro e;simp only[zp3,Bool.and_eq_true,decide_eq_true_eq] at e
 exact h ⟨e.1.1.1,e.1.1.2,e.1.2,e.2⟩
theorem zth {n:Nat} {w o x:Int} {l:List Int} (h1:vm n=n) (h2:yu n w=w) (h3:0≤o) (h4:1≤x):fX n w o x l=fL n w o x (n-0) 0 (List.replicate n 0) l:=by
 rw[fX,if_pos (by simp[zp3,h1,h2,h3,h4])];rfl
theorem zr.bad {RES:Option Tab} {l0:List Int} {tmps:Array Value} (hb:FB W w) (h2:tmps.getD 2 undef = .pointer (some ⟨W.heap.size,0,none⟩)) (h3:tmps.getD 3 undef = .pointer (some ⟨W.heap.size+1,0,none⟩)) (hr:zf6 RES l0):zr W RES l0 (.panic [{ v:=.iface 186 (.agg #[]),recovered:=false }]) ⟨tmps,fdef W⟩ w:=⟨rfl,hb,rfl,h2,h3,hr⟩
theorem yk {RES:Option Tab} {l0:List Int} (h:RES=none):zf6 RES l0:=fun L e=>by rw[h] at e;cases e
end
open Go.RowKit
theorem pA {α:Type} {l:List α} {i:Nat} {x:α}:l.toArray.setIfInBounds i x=(l.set i x).toArray:=List.setIfInBounds_toArray _ _ _
theorem pB {α:Type} {x y:α} {l:List α}:(x :: l).set 0 y=y :: l:=rfl
theorem pC {α:Type} {x y:α} {l:List α} {n:Nat}:(x :: l).set (n+1) y=x :: l.set n y:=rfl
theorem zof {ops:Array Oper} {i:Nat} {oi:Oper} {rest:List Oper} (hi:ops.toList.drop i=oi :: rest):ops[i]? = some oi:=by
 rw[←Array.getElem?_toList,←List.head?_drop,hi];rfl
section
variable {P : Program} {ops : Array Oper} {md : Region.Mode} {S : World → Prop} {Q : Exit → Act → World → Prop} {fuel : Nat} {listed : Array Bool} {a : Act} {w : World}
theorem tg (i:Nat) (v:Value) {oi:Oper} {rest:List Oper} (hS:S w) (hy:∀w,S w→(execOp a.eval oi).run P w = .ok (.value v) w) (h:wpAnyH P md ops Q S fuel (listed.setIfInBounds i true) (a.put oi.dst v) w) (hi:ops.toList.drop i=oi :: rest) (hk:(Region.noSelect ops && (Region.free md ops listed i && (Region.ready md ops listed).contains i))=true) (hw:Region.wanted oi (yielded ops a.tmps)=true) (hQ:∀c a w,Q (.panic c) (a.put oi.dst v) w→Q (.panic c) a w):wpAnyH P md ops Q S (fuel+1) listed a w:=by
 simp only[Bool.and_eq_true] at hk
 exact wpAnyH_take (zof hi) hk.1 hk.2.1 hk.2.2 hQ (Or.inl ⟨hw,hy⟩) hS h
theorem tgn (i:Nat) {oi:Oper} {rest:List Oper} (hS:S w) (h:wpAnyH P md ops Q S fuel (listed.setIfInBounds i true) (a.put oi.dst undef) w) (hi:ops.toList.drop i=oi :: rest) (hk:(Region.noSelect ops && (Region.free md ops listed i && (Region.ready md ops listed).contains i))=true) (hw:Region.wanted oi (yielded ops a.tmps)=false) (hQ:∀c a w,Q (.panic c) (a.put oi.dst undef) w→Q (.panic c) a w):wpAnyH P md ops Q S (fuel+1) listed a w:=by
 simp only[Bool.and_eq_true] at hk
 exact wpAnyH_take (zof hi) hk.1 hk.2.1 hk.2.2 hQ (Or.inr ⟨hw,rfl⟩) hS h
theorem rdy (i:Nat) {o:Oper} {rest:List Oper} (h:∀K':Act→World→Prop,Shut (∀a w,S w→(S w→wpAnyH P md ops Q S fuel (listed.setIfInBounds i true) a w)→K' a w)→if Region.wanted o (yielded ops a.tmps)=true then Oper.wp P o a w K' Q else K' (a.put o.dst undef) w) (hi:ops.toList.drop i=o :: rest) (hr:Region.ready md ops listed = [i]):wpAnyH P md ops Q S (fuel+1) listed a w:=
 wpAnyH_ready hr (by simp) (AllReadyH.cons (zof hi) h AllReadyH.nil)
end
end Go.Proofs.YtjfelfjobeeenaaGreat
