/- The document's Do: blocks of the call's own; a table's numbers. Conditions: none. The document's order of ids: insertion: the plain law. Conditions: none. The document's table: Less, Held: walked. Conditions: a table that lies in memory. The document's table: Holders: walked. Conditions: a table that lies in memory. The document's sorted: what its loops hold: the plain facts. Conditions: none. sameInts, sameIDs at rows that are the same: walked. Conditions: both rows read as the same list. deficit.Tasks: walked. Conditions: needs that lie in memory. A range over a function whose iterator writes rows of its own between the rounds: the caller's invariant is a family, of which the iterator picks one. Conditions: as the theorem says. -/
import Derived.Test.YtjfelfjobeeenaaGreatE18
import Derived.Test.YtjfelfjobeeenaaGreatE10
import Derived.Test.YtjfelfjobeeenaaGreatE13
import Derived.RangeFuncNested
import Derived.RangeFuncLeaves
set_option linter.unusedSimpArgs false
set_option linter.unusedVariables false
namespace Go.Sf
theorem alloc_oldG18 (w:World) (o:Obj) {r:Nat} (h:r<w.heap.size):(w.alloc o).heap[r]? = w.heap[r]?:=by
 rw[show(w.alloc o).heap=w.heap.push o from rfl,Array.getElem?_push,if_neg (Nat.ne_of_lt h)]
end Go.Sf
namespace Go.Proofs.YtjfelfjobeeenaaGreat
open Go.RowKit Go.Sf Go.Shelf
def fence (bs:Nat→Prop) (W W2:World) (k:Nat):Prop:=bs k∧(k<W.heap.size∨W2.heap.size≤k)
@[go_sem] theorem fieldRV1 (k:ByteArray) (r1:Int) (r3:Bool) (w:World):(Instr.field 202 (.agg #[.string k,.int .i64 r1,.bool r3]) 1).run Tryz.prog w = .ok (.int .i64 r1) w:=by kernel_rfl
section
variable {bs : Nat → Prop} {W W2 w : World} {rb : Nat} {R : RTab}
theorem RAt.fence (h:RAt bs W rb R) (hg:W.grownBy W2 none):RAt (fence bs W W2) W2 rb R:=
 (h.mono fun k hk hb=>⟨hb,Or.inl hk⟩).grown hg
theorem fence_new (hbs:∀k,W.heap.size≤k→bs k) (hs:W.heap.size≤W2.heap.size) (w:World) (hw:W2.heap.size≤w.heap.size):∀k,w.heap.size≤k→fence bs W W2 k:=fun k hk=>⟨hbs k (by omega),Or.inr (by omega)⟩
theorem fence_end (hg:W.grownBy W2 none) (h:RAt (fence bs W W2) w rb R) (ht:Turn (fence bs W W2) W2 w):RAt bs w rb R∧Turn bs W w:=
 ⟨h.mono fun k _ hk=>hk.1,turn_then hg (ht.mono fun k hk=>hk.1)⟩
theorem fence_at (ht:Turn (fence bs W W2) W2 w) {b:Nat} {o:Obj} (hb:W2.heap[b]? = some o) (h1:W.heap.size≤b):w.heap[b]? = some o:=
 (ht.block b (Array.getElem?_eq_some_iff.1 hb).1 (fun hf=>by
  have:=(Array.getElem?_eq_some_iff.1 hb).1
  rcases hf.2 with h|h <;> omega)).trans hb
theorem boxes {a0 a1 a2 a3 a4 a5 a6 a7 x0 x1:Value} {t t':TypeId} (h0:W2.heap[W.heap.size]? = some (.cells #[a0,a1,a2,a3,a4,a5,a6,a7] t (0,0))) (h1:W2.heap[W.heap.size+1]? = some (.cells #[x0,x1] t' (0,0))) (ht:Turn (Go.Proofs.YtjfelfjobeeenaaGreat.fence bs W W2) W2 w) :
  (w.cell? ⟨W.heap.size,0,none⟩=some a0∧w.cell? ⟨W.heap.size,1,none⟩=some a1∧w.cell? ⟨W.heap.size,2,none⟩=some a2∧w.cell? ⟨W.heap.size,3,none⟩=some a3∧w.cell? ⟨W.heap.size,4,none⟩=some a4∧w.cell? ⟨W.heap.size,5,none⟩=some a5∧w.cell? ⟨W.heap.size,6,none⟩=some a6∧w.cell? ⟨W.heap.size,7,none⟩=some a7)∧
  w.cell? ⟨W.heap.size+1,0,none⟩=some x0∧w.cell? ⟨W.heap.size+1,1,none⟩=some x1∧W.heap.size<w.heap.size∧W.heap.size+1<w.heap.size:=by
 have e0:=fence_at ht h0 (Nat.le_refl _)
 have e1:=fence_at ht h1 (Nat.le_succ _)
 exact⟨⟨(cell_block e0 0).trans rfl,(cell_block e0 1).trans rfl,(cell_block e0 2).trans rfl,(cell_block e0 3).trans rfl,(cell_block e0 4).trans rfl,(cell_block e0 5).trans rfl,(cell_block e0 6).trans rfl,(cell_block e0 7).trans rfl⟩,(cell_block e1 0).trans rfl,(cell_block e1 1).trans rfl,(Array.getElem?_eq_some_iff.1 e0).1,(Array.getElem?_eq_some_iff.1 e1).1⟩
theorem RAt.setOff (h:RAt bs W rb R) (n:Int):RAt bs (W.setCell ⟨rb,2,none⟩ (.int .i64 n)) rb { R with offers:=n }∧Turn bs W (W.setCell ⟨rb,2,none⟩ (.int .i64 n)):=by
 obtain⟨vL,vC,vV,vP,vH,h1,h2,h3⟩:=h
 refine⟨⟨vL,vC,vV,vP,vH,⟨(heap_set_eq h1.box _).trans rfl,?_,?_,?_,?_,?_⟩,h2,h3⟩,⟨rfl,rfl,rfl,by simp[World.setCell],fun k hk hn=>heap_set_ne W _ _ k (fun e=>hn (by rw[e];exact h2))⟩⟩
 ·exact h1.lives.same fun g hg=>heap_set_ne W _ _ g (fun e=>own_ne h1.lives h1.box (by decide) (by rw[hg];exact congrArg some e))
 ·exact h1.calls.same fun g hg=>heap_set_ne W _ _ g (fun e=>own_ne h1.calls h1.box (by decide) (by rw[hg];exact congrArg some e))
 ·exact h1.vals.same fun g hg=>heap_set_ne W _ _ g (fun e=>own_ne h1.vals h1.box (by decide) (by rw[hg];exact congrArg some e))
 ·exact h1.pends.same fun g hg=>heap_set_ne W _ _ g (fun e=>own_ne h1.pends h1.box (by decide) (by rw[hg];exact congrArg some e))
 ·exact h1.holds.same fun g hg=>heap_set_ne W _ _ g (fun e=>own_ne h1.holds h1.box (by decide) (by rw[hg];exact congrArg some e))
theorem RAt.setNext (h:RAt bs W rb R) (n:Int):RAt bs (W.setCell ⟨rb,3,none⟩ (.int .i64 n)) rb { R with next:=n }∧Turn bs W (W.setCell ⟨rb,3,none⟩ (.int .i64 n)):=by
 obtain⟨vL,vC,vV,vP,vH,h1,h2,h3⟩:=h
 refine⟨⟨vL,vC,vV,vP,vH,⟨(heap_set_eq h1.box _).trans rfl,?_,?_,?_,?_,?_⟩,h2,h3⟩,⟨rfl,rfl,rfl,by simp[World.setCell],fun k hk hn=>heap_set_ne W _ _ k (fun e=>hn (by rw[e];exact h2))⟩⟩
 ·exact h1.lives.same fun g hg=>heap_set_ne W _ _ g (fun e=>own_ne h1.lives h1.box (by decide) (by rw[hg];exact congrArg some e))
 ·exact h1.calls.same fun g hg=>heap_set_ne W _ _ g (fun e=>own_ne h1.calls h1.box (by decide) (by rw[hg];exact congrArg some e))
 ·exact h1.vals.same fun g hg=>heap_set_ne W _ _ g (fun e=>own_ne h1.vals h1.box (by decide) (by rw[hg];exact congrArg some e))
 ·exact h1.pends.same fun g hg=>heap_set_ne W _ _ g (fun e=>own_ne h1.pends h1.box (by decide) (by rw[hg];exact congrArg some e))
 ·exact h1.holds.same fun g hg=>heap_set_ne W _ _ g (fun e=>own_ne h1.holds h1.box (by decide) (by rw[hg];exact congrArg some e))
theorem RAt.mem (h:RAt bs W rb R):∃vL vC vV vP vH,RMem W rb R vL vC vV vP vH:=by
 obtain⟨vL,vC,vV,vP,vH,h1,_⟩:=h
 exact⟨vL,vC,vV,vP,vH,h1⟩
theorem RAt.c2 (h:RAt bs W rb R):W.cell? ⟨rb,2,none⟩=some (.int .i64 R.offers):=by obtain⟨_,_,_,_,_,h1⟩:=h.mem;exact h1.c2
theorem RAt.c3 (h:RAt bs W rb R):W.cell? ⟨rb,3,none⟩=some (.int .i64 R.next):=by obtain⟨_,_,_,_,_,h1⟩:=h.mem;exact h1.c3
theorem RAt.c0 (h:RAt bs W rb R):W.cell? ⟨rb,0,none⟩=some (.int .i64 R.N):=by obtain⟨_,_,_,_,_,h1⟩:=h.mem;exact h1.c0
theorem RAt.c1 (h:RAt bs W rb R):W.cell? ⟨rb,1,none⟩=some (.int .i64 R.W):=by obtain⟨_,_,_,_,_,h1⟩:=h.mem;exact h1.c1
theorem RAt.free (h:RAt bs W rb R) (i:Nat):W.frozen? ⟨rb,i,none⟩=false:=by obtain⟨_,_,_,_,_,h1⟩:=h.mem;exact h1.free i
theorem RAt.live (h:RAt bs W rb R) {a:Nat} (ha:a<R.lives.length):∃gL capL,W.cell? ⟨rb,4,none⟩=some (.slice (some ⟨gL,0,none⟩) R.lives.length capL)∧W.cell? ⟨gL,a,none⟩=some (.int .i64 (R.lives.getD a 0))∧W.frozen? ⟨gL,a,none⟩=false∧R.lives.length≤capL∧capL≤9223372036854775807:=by
 obtain⟨vL,vC,vV,vP,vH,h1⟩:=h.mem
 obtain⟨gL,capL,rfl,hc,hf⟩:=(h1.lives.at lenI).resolve_left (fun e=>by rw[e] at ha;simp at ha)
 obtain⟨p2,c2,e2,h3,h4⟩:=h1.lives.form
 injection e2 with _ _ e2
 subst e2
 refine⟨gL,capL,h1.c4,?_,hf a,h4,h3⟩
 have:=hc a ha 0 _ rfl
 simp only[Nat.mul_one,Nat.add_zero] at this
 rw[this];simp[List.getD,List.getElem?_eq_getElem ha]
theorem RAt.setLive (h:RAt bs W rb R) {a:Nat} (ha:a<R.lives.length):∃gL capL,W.cell? ⟨rb,4,none⟩=some (.slice (some ⟨gL,0,none⟩) R.lives.length capL)∧W.cell? ⟨gL,a,none⟩=some (.int .i64 (R.lives.getD a 0))∧W.frozen? ⟨gL,a,none⟩=false∧R.lives.length≤capL∧capL≤9223372036854775807∧∀x:Int,RAt bs (W.setCell ⟨gL,a,none⟩ (.int .i64 x)) rb { R with lives:=R.lives.set a x }∧Turn bs W (W.setCell ⟨gL,a,none⟩ (.int .i64 x)):=by
 obtain⟨vL,vC,vV,vP,vH,h1,h2,h3⟩:=h
 obtain⟨gL,capL,rfl,hc,hf⟩:=(h1.lives.at lenI).resolve_left (fun e=>by rw[e] at ha;simp at ha)
 obtain⟨p2,c2,e2,h4,h5⟩:=h1.lives.form
 injection e2 with _ _ e2
 subst e2
 refine⟨gL,capL,h1.c4,?_,hf a,h5,h4,fun x=>?_⟩
 ·have:=hc a ha 0 _ rfl
  simp only[Nat.mul_one,Nat.add_zero] at this
  rw[this];simp[List.getD,List.getElem?_eq_getElem ha]
 ·obtain⟨s1,s2⟩:=h1.lives.put lenI x a ha
  simp only[cellsI,List.foldl_cons,List.foldl_nil,Nat.mul_one] at s1 s2
  exact⟨⟨_,vC,vV,vP,vH,h1.putL s1 s2,h2,h3⟩,turn_some s2 (fun k hk=>h3.1 k (by rw[←hk];rfl))⟩
structure ROk (R:RTab):Prop where
 lc:R.calls.length≤10000000
 lv:R.vals.length≤10000000
 lp:R.pends.length≤10000000
 lh:R.holds.length≤10000000
 ll:R.lives.length≤1000000
 nd:∀x∈R.holds,0≤x.node∧x.node<(R.lives.length:Int)
 nn:R.N=R.lives.length
 o0:0≤R.offers
 o1:R.offers≤4611686018427387904
 x0:0≤R.next
 x1:R.next≤4611686018427387904
 w0:0≤R.W
 w1:R.W≤1000000
theorem pendI_some (R:RTab) (i:ID) (h:0≤pendI R i):∃k:Nat,pendI R i=k∧∃hk:k<R.pends.length,mget R.pends i=some R.pends[k].2∧R.pends[k].1=i∧{ R with pends:=R.pends.eraseIdx k }=rends R i:=by
 unfold pendI firstI at *
 cases e:R.pends.findIdx? fun p=>decide (p.1=i) with
 | none=>rw[e] at h;simp at h
 | some k=>
  obtain⟨hk,hf,hno⟩:=List.findIdx?_eq_some_iff_getElem.1 e
  have hN:NoneB (fun p:ID × Pend=>decide (p.1=i)) R.pends k:=fun j hj hjk=>by have:=hno j hjk;simpa using this
  have hi:R.pends[k].1=i:=by simpa using hf
  refine⟨k,rfl,hk,mget_hit hN hk hi,hi,?_⟩
  unfold rends
  rw[eraseP_at (k:=k) hN hk hf]
theorem pendI_none (R:RTab) (i:ID) (h:¬0≤pendI R i):mget R.pends i=none:=by
 have:=pendI_B R i
 rw[show decide (0≤pendI R i)=false from by simpa using h] at this
 unfold rpendB at this
 cases e:mget R.pends i with
 | none=>rfl
 | some _=>rw[e] at this;cases this
theorem turn_block {F:Nat→Prop} (ht:Turn F W2 w) {b:Nat} {o:Obj} (hb:W2.heap[b]? = some o) (h1:¬F b):w.heap[b]? = some o:=
 (ht.block b (Array.getElem?_eq_some_iff.1 hb).1 h1).trans hb
theorem rdo_set {bs:Nat→Prop} {W:World} {rb:Nat} {R:RTab} (h:RAt bs W rb R) (hbs:∀k,W.heap.size≤k→bs k) (B I:Obj) (W2:World) (e:(W.alloc B).alloc I=W2) :
  Hid (W.grownBy W2 none)∧Hid (W2.heap[W.heap.size]? = some B)∧Hid (W2.heap[W.heap.size+1]? = some I)∧Hid (RAt (fence bs W W2) W2 rb R)∧Hid (∀w:World,W2.heap.size≤w.heap.size→∀k,w.heap.size≤k→fence bs W W2 k)∧Hid (Turn (fence bs W W2) W2 W2):=by
 subst e
 have hg2:W.grownBy ((W.alloc B).alloc I) none:=grown_alloc (grown_alloc (grown_refl _) _) _
 exact⟨hg2,(alloc_oldG18 _ _ (by simp)).trans (heap_alloc_new _ _),(show((W.alloc B).alloc I).heap[W.heap.size+1]? = some I from by have:=heap_alloc_new (W.alloc B) I;simpa using this),h.fence hg2,fun w hw=>fence_new hbs hg2.size w hw,turn_grown (grown_refl _)⟩
end
theorem lt_irr (a:ID):ltI a a=false:=by
 cases h:ltI a a with
 | false=>rfl
 | true=>
  rcases(ltI_iff a a).1 h with h|⟨_,h⟩
  ·exact absurd h (List.lt_irrefl _)
  ·omega
def SortedI (l:List ID):Prop:=l.Pairwise fun a b=>ltI a b=true
theorem SortedI.nodup {l:List ID} (h:SortedI l):l.Nodup:=List.Pairwise.imp (fun {a b} hab e=>by subst e;rw[lt_irr] at hab;cases hab) h
section
variable {bs : Nat → Prop} {W : World} {rb : Nat} {R : RTab}
end
section
variable {bs : Nat → Prop} {W : World} {rb : Nat} {R : RTab}
end
theorem lenID:∀x,(idCells x).length=2:=fun _=>rfl
def LRead {α:Type} (W:World) (sz:Nat) (enc:α→List Value) (v:Value) (l:List α):Prop:=
 ∃p cap,v = .slice p l.length cap∧(l = []∨∃g,p=some ⟨g,0,none⟩∧∀i,(hi:i<l.length)→∀j u,(enc l[i])[j]? = some u→W.cell? ⟨g,i*sz+j,none⟩=some u)
theorem SRow.lread {α:Type} {W:World} {E:TypeId} {sz:Nat} {enc:α→List Value} {v:Value} {l:List α} (he:∀x,(enc x).length=sz) (h:SRow W E sz enc v l):LRead W sz enc v l:=by
 obtain⟨p,cap,rfl,-,-⟩:=h.form
 refine⟨p,cap,rfl,?_⟩
 rcases h.at he with h0|⟨g,c,e,hc,-⟩
 ·exact Or.inl h0
 ·injection e with e1 e2 e3
  exact Or.inr ⟨g,e1,hc⟩
section
variable {W : World}
end
structure Nd where
 id:ID
 held:Nat
 mis:List Int
structure NAt (W:World) (g i:Nat) (nd:Nd) (ph pm:Option Addr) (ch cm:Nat):Prop where
 c0:W.cell? ⟨g,i*4,none⟩=some (.string nd.id.key)
 c1:W.cell? ⟨g,i*4+1,none⟩=some (.int .i64 nd.id.ver)
 c2:W.cell? ⟨g,i*4+2,none⟩=some (.slice ph nd.held ch)
 c3:W.cell? ⟨g,i*4+3,none⟩=some (.slice pm nd.mis.length cm)
 m:nd.mis = []∨∃gm,pm=some ⟨gm,0,none⟩∧∀j x,nd.mis[j]? = some x→W.cell? ⟨gm,j,none⟩=some (.int .i64 x)
theorem NAt.grown {W W':World} {g i:Nat} {nd:Nd} {ph pm:Option Addr} {ch cm:Nat} (h:NAt W g i nd ph pm ch cm) (hg:W.grownBy W' none):NAt W' g i nd ph pm ch cm:=
 ⟨hg.cell h.c0 (by simp),hg.cell h.c1 (by simp),hg.cell h.c2 (by simp),hg.cell h.c3 (by simp),h.m.imp id fun ⟨gm,e,hc⟩=>⟨gm,e,fun j x hx=>hg.cell (hc j x hx) (by simp)⟩⟩
def NRow (W:World) (v:Value) (l:List Nd):Prop:=∃p cap,v = .slice p l.length cap∧(l = []∨∃g,p=some ⟨g,0,none⟩∧∀i nd,l[i]? = some nd→∃ph pm ch cm,NAt W g i nd ph pm ch cm)
theorem NRow.grown {W W':World} {v:Value} {l:List Nd} (h:NRow W v l) (hg:W.grownBy W' none):NRow W' v l:=by
 obtain⟨p,cap,h1,h2⟩:=h
 refine⟨p,cap,h1,h2.imp id fun ⟨g,e,hc⟩=>⟨g,e,fun i nd hi=>?_⟩⟩
 obtain⟨ph,pm,ch,cm,hn⟩:=hc i nd hi
 exact⟨ph,pm,ch,cm,hn.grown hg⟩
def ndT (nd:Nd):List Tsk:=nd.mis.map fun x=>⟨nd.id,x,nd.held⟩
def rawT (l:List Nd):List Tsk:=l.flatMap ndT
theorem rawT_take {l:List Nd} {k:Nat} {nd:Nd} (h:l[k]? = some nd):rawT (l.take (k+1))=rawT (l.take k)++ndT nd:=by
 obtain⟨h1,rfl⟩:=List.getElem?_eq_some_iff.1 h
 unfold rawT
 rw[List.take_succ_eq_append_getElem h1,List.flatMap_append];simp
theorem ndT_take {nd:Nd} {j:Nat} {x:Int} (h:nd.mis[j]? = some x):(ndT nd).take (j+1)=(ndT nd).take j ++ [⟨nd.id,x,nd.held⟩]:=by
 obtain⟨h1,rfl⟩:=List.getElem?_eq_some_iff.1 h
 rw[List.take_succ_eq_append_getElem (by simp[ndT];exact h1)]
 simp[ndT]
def TA (w0 w:World) (v:Value) (ts:List Tsk):Prop:=w.ownsRow w0.heap.size 56 4 v ts.length (ts.flatMap tskCells)∧w0.grownBy w none
theorem TA.kept {w0 w w':World} {v:Value} {ts:List Tsk} (h:TA w0 w v ts) (hg:w.grownBy w' none):TA w0 w' v ts:=
 ⟨h.1.kept hg (by cases hv:v.ownBlock <;> simp),grown_trans h.2 hg⟩
theorem TA.keep {w0 w w1 w2:World} {v v':Value} {ts:List Tsk} {t:Tsk} (h:TA w0 w v ts) (hg:w.grownBy w1 none) (ho:w2.ownsRow w0.heap.size 56 4 v' (ts.length+1) (ts.flatMap tskCells++tskCells t)) (hg2:w1.grownBy w2 v.ownBlock):TA w0 w2 v' (ts ++ [t]):=
 ⟨by simp only[List.length_append,List.length_cons,List.length_nil,List.flatMap_append,List.flatMap_cons,List.flatMap_nil,List.append_nil,Nat.zero_add];exact ho,grown_own (grown_trans h.2 hg) hg2 (row_base h.1)⟩
theorem TA.len {w0 w:World} {v:Value} {ts:List Tsk} (h:TA w0 w v ts):∃p cap,v = .slice p ts.length cap:=by
 rcases h.1.2 with ⟨e,h0⟩|⟨b,c,cur,e,_⟩
 ·exact⟨none,0,by rw[e,h0]⟩
 ·exact⟨_,_,e⟩
theorem own_ty {W:World} {base n:Nat} {e:TypeId} {size:Nat} {v:Value} {xs:List Value} (h:W.ownsRow base e size v n xs) {g:Nat} (hg:v.ownBlock=some g):∃c,W.heap[g]? = some (.cells c e (0,0)):=by
 rcases h.2 with ⟨rfl,_⟩|⟨b,cap,cur,rfl,_,hb,_⟩
 ·simp[Value.ownBlock] at hg
 ·simp[Value.ownBlock] at hg
  subst hg
  exact⟨_,hb⟩
theorem infoTsk:(Tryz.prog.info? 56).map (fun i=>(i.zero,i.size,i.bytes))=some (some (.agg #[.string { data:=#[] },.int .i64 0,.int .i64 0,.int .i64 0]),4,40):=by kernel_rfl
theorem task_new (w:World) (a b c d:Value) (t:TypeId):∀j u,([a,b,c,d]:List Value)[j]? = some u→(w.alloc (.cells #[a,b,c,d] t)).cell? ((⟨w.heap.size,0,none⟩:Addr).add j)=some u:=by
 intro j u hj
 match j,hj with
 | 0,hj=>simp at hj;subst hj;simp[Addr.add,go_sem]
 | 1,hj=>simp at hj;subst hj;simp[Addr.add,go_sem]
 | 2,hj=>simp at hj;subst hj;simp[Addr.add,go_sem]
 | 3,hj=>simp at hj;subst hj;simp[Addr.add,go_sem]
 | j+4,hj=>simp at hj
set_option maxHeartbeats 4000000 in
set_option maxRecDepth 100000 in
theorem tasks_any {w:World} {v:Value} {l:List Nd} (h:NRow w v l) (hl:(rawT l).length≤1000000) (hn:l.length≤1000000) :
  Calls Tryz.prog 18 #[v] w fun e w'=>∃v',e = .returned v'∧TA w w' v' (sortT (rawT l)):=by
 obtain⟨p,cap,rfl,hrow⟩:=h
 obtain⟨i0,hi,hz0,hz1,hz2⟩:=info_parts infoTsk
 have HROW:=Lib.hid hrow
 have HLE:Hid (∀k nd j,l[k]? = some nd→j≤nd.mis.length→(rawT (l.take k)++(ndT nd).take j).length≤1000000):=(show ∀k nd j,_→_→_≤_ from fun k nd j h1 h2=>by
  have e1:(rawT l).length=(rawT (l.take (k+1))).length+(rawT (l.drop (k+1))).length:=by
   rw[←List.length_append];unfold rawT;rw[←List.flatMap_append,List.take_append_drop]
  rw[rawT_take h1,List.length_append] at e1
  rw[List.length_append,List.length_take]
  omega)
 have HN:=Lib.hid hn
 have HL:=Lib.hid hl
 have H0:Hid (TA w w (.slice none 0 0) []):=(show TA _ _ _ _ from ⟨World.ownsRow_nil _ _ _ _,grown_refl _⟩)
 clear hrow hl
 generalize hm:l.length=n at *
 have HM:=Lib.hid hm
 clear hm
 go_enter Tryz.func18,Tryz.ntmps18
 go_wp2
 go_loopw [3,10] (fun x i wr=>∃k:Nat,k≤n∧i = .int .i64 k∧Hid (TA w wr x (rawT (l.take k)))) (fun _ i _=>n-(intOf i).toNat)
 case atStart=>exact⟨0,Nat.zero_le _,rfl,H0⟩
 case round=>
  clear H0
  obtain⟨k,hk,rfl,hT⟩:=hrel
  rcases Nat.lt_or_ge k n with hlt|hge
  ·obtain⟨nd,hnd⟩:∃nd,l[k]? = some nd:=⟨_,List.getElem?_eq_getElem (by rw[HM.out];exact hlt)⟩
   have HND:=Lib.hid hnd
   rcases HROW.out with h0|⟨g,rfl,hc⟩
   ·subst h0;simp at hnd
   ·obtain⟨ph,pm,ch,cm,hn⟩:=hc k nd hnd
    have HC:=Lib.hid hc
    have HNA:=Lib.hid hn
    obtain⟨c0,c1,c2,c3,-⟩:=hn.grown hT.out.2
    have HML:Hid (nd.mis.length≤1000000):=(show _≤_ from by
     have:=HLE.out k nd nd.mis.length hnd (Nat.le_refl _)
     rw[List.length_append,List.length_take] at this
     simp[ndT] at this
     omega)
    have HLN:=Lib.hid (fun j hj=>HLE.out k nd j hnd hj)
    have HX:Hid (rawT (l.take (k+1))=rawT (l.take k)++ndT nd):=(show _=_ from rawT_take hnd)
    clear hc hnd hn
    obtain⟨⟨key,ver⟩,held,mis⟩:=nd
    simp only at c0 c1 c2 c3
    obtain⟨q,hq⟩:∃q,q=mis.length:=⟨_,rfl⟩
    rw[←hq] at c3
    have hq1:q≤1000000:=by have:=HML.out;simp only at this;omega
    have HQ:=Lib.hid hq
    clear hq
    go_upto_region 5 with fail
    have HB:=Lib.hid (World.alloc_heap_new wr (.cells #[.string key,.int .i64 ver,.slice ph held ch,.slice pm q cm] 71))
    have HT2:=Lib.hid (hT.out.kept (World.grownBy_alloc wr (.cells #[.string key,.int .i64 ver,.slice ph held ch,.slice pm q cm] 71) none))
    clear c0 c1 c2 c3 hT
    generalize wr.alloc (.cells #[.string key,.int .i64 ver,.slice ph held ch,.slice pm q cm] 71)=wa at *
    generalize wr.heap.size=bn at *
    have d3:wa.cell? ⟨bn,3,none⟩=some (.slice pm q cm):=(cell_block HB.out 3).trans rfl
    go_wp2
    clear d3
    have H1:Hid (TA w wa u3 (rawT (l.take k)++(ndT ⟨⟨key,ver⟩,held,mis⟩).take 0)):=(show TA _ _ _ _ from by simpa using HT2.out)
    go_loopw [3,17] (fun x i wr=>∃j:Nat,j≤q∧i = .int .i64 j∧Hid (TA w wr x (rawT (l.take k)++(ndT ⟨⟨key,ver⟩,held,mis⟩).take j))∧Hid (wr.heap[bn]? = some (.cells #[.string key,.int .i64 ver,.slice ph held ch,.slice pm q cm] 71 (0,0)))) (fun _ i _=>q-(intOf i).toNat)
    case atStart=>exact⟨0,Nat.zero_le _,rfl,H1,HB⟩
    case round=>
     clear H1 HT2 HB
     obtain⟨j,hj,rfl,hT,hB⟩:=hrel
     rcases Nat.lt_or_ge j q with hlj|hgj
     ·obtain⟨x,hx⟩:∃x,mis[j]? = some x:=⟨_,List.getElem?_eq_getElem (by rw[←HQ.out];exact hlj)⟩
      have hlen:=HLN.out j (by show j≤mis.length;have:=HQ.out;omega)
      have HX2:Hid ((ndT ⟨⟨key,ver⟩,held,mis⟩).take (j+1)=(ndT ⟨⟨key,ver⟩,held,mis⟩).take j ++ [⟨⟨key,ver⟩,x,held⟩]):=(show _=_ from ndT_take (nd:=⟨⟨key,ver⟩,held,mis⟩) hx)
      rcases HNA.out.m with h0|⟨gm,rfl,hm⟩
      ·simp only at h0;subst h0;simp at hx
      ·have cx:=hT.out.2.cell (hm j x hx) (by simp)
       have d0:wr.cell? ⟨bn,0,none⟩=some (.string key):=(cell_block hB.out 0).trans rfl
       have d1:wr.cell? ⟨bn,1,none⟩=some (.int .i64 ver):=(cell_block hB.out 1).trans rfl
       have d2:wr.cell? ⟨bn,2,none⟩=some (.slice ph held ch):=(cell_block hB.out 2).trans rfl
       have HBN:Hid (bn<wr.heap.size):=(show _<_ from (Array.getElem?_eq_some_iff.1 hB.out).1)
       clear hx hm
       obtain⟨ts,hts⟩:∃ts,ts=rawT (l.take k)++(ndT ⟨⟨key,ver⟩,held,mis⟩).take j:=⟨_,rfl⟩
       rw[←hts] at hT hlen
       have HTS:=Lib.hid hts
       clear hts
       go_wp2_with (at_builtin;go_loud (refine wpList_append_own _ rfl _ _ 42 rfl w.heap.size 56 i0 (.agg #[.string { data:=#[] },.int .i64 0,.int .i64 0,.int .i64 0]) 4 40 Tryz.underlying42 hi hz0 hz1 hz2 rfl (by decide) _ _ _ rfl (hT.out.1.alloc _) ⟨wr.heap.size,0,none⟩ 1 1 [.string key,.int .i64 ver,.int .i64 x,.int .i64 held] rfl rfl ?c1 ?c2 ?c3 ?c4 ?c5 ?_))
       case c1=>exact task_new _ _ _ _ _ _
       case c2=>intro u hu;simp at hu;rcases hu with rfl|rfl|rfl|rfl <;> rfl
       case c3=>unfold maxLen;omega
       case c4=>omega
       case c5=>have:=hT.out.2.size;simp;omega
       intro v' w9 ho hg9 _
       have hne:some bn≠u3.ownBlock:=fun e=>by
        obtain⟨c,hc⟩:=own_ty hT.out.1 e.symm
        rw[hB.out] at hc
        cases hc
       have H9:=Lib.hid (hT.out.keep (t:=⟨⟨key,ver⟩,x,held⟩) (World.grownBy_alloc _ _ _) ho hg9)
       have HB9:Hid (w9.heap[bn]? = some (.cells #[.string key,.int .i64 ver,.slice ph held ch,.slice (some ⟨gm,0,none⟩) q cm] 71 (0,0))):=(show _=_ from (hg9.block bn (by have:=HBN.out;simp;omega) hne).trans (((World.grownBy_alloc wr _ none).block bn HBN.out (by simp)).trans hB.out))
       clear ho hg9 hT hB cx d0 d1 d2 hlen
       go_wp2
       go_roundw
       case rel=>exact⟨j+1,by omega,by go_num,by rw[HX2.out,←List.append_assoc,←HTS.out];exact H9,HB9⟩
       case measure=>simp[intOf];omega
     ·obtain rfl:j=q:=by omega
      have HE:Hid (TA w wr u3 (rawT (l.take (k+1)))):=(show TA _ _ _ _ from by
       have:=hT.out
       rw[List.take_of_length_le (l:=ndT ⟨⟨key,ver⟩,held,mis⟩) (by rw[HQ.out];simp[ndT])] at this
       rw[HX.out];exact this)
      clear hT hB
      go_wp2
      go_roundw
      case rel=>exact⟨k+1,by omega,by go_num,HE⟩
      case measure=>simp[intOf];omega
  ·obtain rfl:k=n:=by omega
   have hT2:=hT.out
   rw[List.take_of_length_le (by rw[HM.out];exact Nat.le_refl _)] at hT2
   have HS:=Lib.hid (sst_any hT2.1 HL.out)
   have HT2:=Lib.hid hT2
   clear hT hT2
   go_wp2_with (go_at_call 62;refine HS.out.mono ?_;rintro e w2 ⟨rfl,ho,hg⟩;have HO:=Lib.hid ho;have HG:=Lib.hid hg;clear ho hg)
   go_ret
   refine⟨_,rfl,?_,grown_own HT2.out.2 HG.out (row_base HT2.out.1)⟩
   rw[(sortT_perm (rawT l)).length_eq]
   exact HO.out
end Go.Proofs.YtjfelfjobeeenaaGreat
namespace Go.Sf
open Go.RowKit Go
variable {F : Fence} {n : Nat} {P : Program}
def RowTurns {β:Type} (B:Nat) (T:TypeId) (J:β→World→Prop):Prop:=∀s X Y row,J s X→X.grownBy Y row→(∀r,row=some r→B≤r∧∃c,X.heap[r]? = some (.cells c T (0,0)))→J s Y
theorem keeps_row {X Y:World} {row:Option Nat} {B:Nat} {T:TypeId} (hg:X.grownBy Y row) (hr:∀r,row=some r→B≤r∧∃c,X.heap[r]? = some (.cells c T (0,0))) {k:Nat} {o:Obj} (hk:X.heap[k]? = some o) (ho:o.isCells=false):Y.heap[k]? = some o:=by
 refine(hg.block k (Array.getElem?_eq_some_iff.1 hk).1 (fun e=>?_)).trans hk
 obtain⟨_,c,hc⟩:=hr k e.symm
 rw[hk] at hc
 cases hc
 cases ho
def FamCall {α:Type} (F:Fence) (n:Nat) (P:Program) (gf:Nat) (lb:Array Value) (encs:α→Array Value) (T:TypeId) (N:Nat) (Kp:Nat→World→World→Prop) (S Sp:List α→Prop) (w:World):Prop:=
 ∀(l:Nat) (J:Nat→List α→World→Prop) (Jx:List α→World→Prop) (W:World),Below w.heap.size w W→(∀b,RowTurns W.heap.size T (J b))→
  (∀b pre x W1,b≤W1.heap.size→J b pre W1→pre.length<N→YieldAt F (n-1) P l (encs x) W1 fun e W'=>(e = .returned (.bool true)∧J b (pre ++ [x]) W'∧Kp b W1 W')∨(e = .returned (.bool false)∧Jx (pre ++ [x]) W'))→
  (∀b,J b [] W)→
  CallsIn F n P gf (#[.func (.yield l) #[] #[]]++lb) W fun e W'=>(∃v,e = .returned v)∧((∃b xs,S xs∧J b xs W')∨(∃pre,Sp pre∧Jx pre W'))
theorem rangeFunc_fam {α:Type} {g:Operand} {ps:Array Tmp} {assign body:Code} {Q:Exit→Act→World→Prop} {a:Act} {w:World}
  (hro:F.round=none) (h1:1≤n) {gf:Nat} {lb:Array Value} (hg:a.eval g = .func (.func gf) #[] lb) (hFg:F.fn gf) (eg:∀args w,(callFunc gf args).run P w = .ok (.enter gf args) w)
  {encs:α→Array Value} (hps:∀x,(encs x).size=ps.size) {T:TypeId} {N:Nat} {Kp:Nat→World→World→Prop} {S Sp:List α→Prop}
  (hcall:FamCall F (n-1) P gf lb encs T N Kp S Sp w)
  (I:Nat→List α→World→Prop) (Ix:Code→List α→World→Prop) (hI:∀b,OwnFrom w.heap.size (I b)) (hIx:∀c,OwnFrom w.heap.size (Ix c)) (hIT:∀b,RowTurns w.heap.size T (I b))
  (hKt:∀b {A B C:World},Kp b A B→Kp b B C→Kp b A C) (hKb:∀b (W:World) (l:Nat) (o o':Obj),W.heap[l]? = some o→o.isCells=false→Kp b W (W.putObj l o'))
  (h0:∀b,I b [] w) (Ax:α→Act→World→Prop) (hAx:∀x a',OwnFrom w.heap.size (fun (_:Unit) W=>Ax x a' W))
  (hassign:∀(l b:Nat) (pre:List α) (x:α) (W:World) (K:Act→World→Prop),I b pre W→(∀a' W',KeepsFrom w.heap.size W W'→Kp b W W'→I b pre W'→Ax x a' W'→K a' W')→
   assign.wpIn (F.inRound l) (n-1-1) P (Exit.then K (fun _ _ _=>False)) { tmps:=(ps.zip (encs x)).foldl (fun t (p,v)=>t.setIfInBounds p v) a.tmps,defers:=[] } W)
  (hbody:∀(l b:Nat) (pre:List α) (x:α) (a':Act) (W:World),w.heap.size≤l→b≤W.heap.size→I b pre W→Ax x a' W→pre.length<N→body.wpIn (F.inRound l) (n-1-1) P (ownPostG w.heap.size (Kp b) (I b) Ix (pre ++ [x]) W) a' W)
  (hdone:∀(D b:Nat) (xs:List α) (W:World),w.heap.size≤D→S xs→I b xs W→W.heap[D]? = some (.deferred (some []))→Q .normal { a with defers:={ target:=.collected D,args:=#[] } :: a.defers } W)
  (hstop:∀(D:Nat) (c:Code) (pre:List α) (W:World),w.heap.size≤D→Sp pre→Ix c pre W→W.heap[D]? = some (.deferred (some []))→c.wpIn F n P Q { a with defers:={ target:=.collected D,args:=#[] } :: a.defers } W) :
  (Code.rangeFunc g ps assign body).wpIn F n P Q a w:=by
 refine wpIn_rangeFunc ?_
 intro fn hfn
 rw[hro]
 obtain⟨rec,hrec⟩:∃rec:LoopState→Option Code→Loop,rec=fun st pe=>{ state:=st,pending:=pe,fn,tmps:=a.tmps,params:=ps,assign,body,defers:=w.heap.size }:=⟨_,rfl⟩
 obtain⟨W1,hW1⟩:∃W1,(w.alloc (.deferred (some []))).alloc (.loop (rec .ready none))=W1:=⟨_,rfl⟩
 have hs1:W1.heap.size=w.heap.size+2:=by rw[←hW1];simp
 have hL1:W1.heap[w.heap.size+1]? = some (.loop (rec .ready none)):=by
  have:=World.alloc_heap_new (w.alloc (.deferred (some []))) (.loop (rec .ready none))
  rw[←hW1];rwa [World.size_alloc] at this
 have hK1:W1.heap[w.heap.size]? = some (.deferred (some [])):=by
  rw[←hW1];exact(Below.heap_alloc _ _ _ (by simp)).trans (World.alloc_heap_new w _)
 have hI1:∀b,I b [] W1:=fun b=>by rw[←hW1];exact(hI b).alloc _ ((hI b).alloc _ (h0 b))
 have hb1:Below w.heap.size w W1:=by rw[←hW1];exact((Below.refl _ w).alloc (Nat.le_refl _) _).alloc (by simp) _
 refine⟨w.heap.size+1,[{ target:=.collected w.heap.size,args:=#[] }],W1,{ target:=.fn (.func gf) lb,args:=#[.func (.yield (w.heap.size+1)) #[] #[]] },W1,gf,
  #[.func (.yield (w.heap.size+1)) #[] #[]]++lb,W1,?_,?_,?_,?_,fun _=>h1,?_⟩
 ·rw[←hW1,hrec];exact run_enterLoop_outer _ _ _ _ _
 ·simp only[resolve,hg]
  simp[go_sem]
 ·intro f' hf';simp[Target.leads] at hf';subst hf';exact hFg
 ·simp[invoke,go_sem,eg]
 ·refine(hcall (w.heap.size+1)
   (fun b pre W=>I b pre W∧W.heap[w.heap.size+1]? = some (.loop (rec .ready none))∧W.heap[w.heap.size]? = some (.deferred (some [])))
   (fun pre W=>∃c,Ix c pre W∧W.heap[w.heap.size+1]? = some (.loop (rec .done (some c)))∧W.heap[w.heap.size]? = some (.deferred (some [])))
   W1 hb1
   (fun b s A B row hs hg' hr=>⟨hIT b s A B row hs.1 hg' (fun r e=>⟨by have:=(hr r e).1;omega,(hr r e).2⟩),keeps_row hg' hr hs.2.1 rfl,keeps_row hg' hr hs.2.2 rfl⟩)
   ?_ (fun b=>⟨hI1 b,hL1,hK1⟩)).mono ?_
  ·rintro b pre x Wa hbs ⟨hi,hl,hk⟩ hlen
   have hy:=run_yield (P:=P) (args:=encs x) hl (by rw[hrec];exact hps x)
   rw[hrec] at hy
   refine⟨fn,_,assign,body,hy,roundIn_of_wpIn hfn (hassign _ b pre x Wa _ hi ?_)⟩
   clear hy
   intro a' W hkf hkp hia hax
   replace hl:=hkf.same _ _ (by omega) hl rfl
   replace hk:=hkf.same _ _ (Nat.le_refl _) hk rfl
   have hlt:w.heap.size+1<W.heap.size:=(Array.getElem?_eq_some_iff.1 hl).1
   have hl2:(W.putObj (w.heap.size+1) (.loop { rec .ready none with state:=.busy })).heap[w.heap.size+1]? = some (.loop { rec .ready none with state:=.busy }):=World.putObj_heap_same hlt
   have hk2:(W.putObj (w.heap.size+1) (.loop { rec .ready none with state:=.busy })).heap[w.heap.size]? = some (.deferred (some [])):=(World.putObj_heap_other (by omega)).trans hk
   have hw2:Kp b W (W.putObj (w.heap.size+1) (.loop { rec .ready none with state:=.busy })):=hKb b _ _ _ _ hl rfl
   refine⟨_,run_beginRound hl (by rw[hrec]),?_⟩
   refine wpIn_mono (hbody _ b pre x a' _ (by omega) (by rw[World.putObj_size];exact Nat.le_trans hbs hkf.size) ((hI b).putObj _ hia (by omega) hl rfl) ((hAx x a').putObj (s:=()) _ hax (by omega) hl rfl) hlen) ?_
   have fin:∀(jump:Option Code) (W3:World),KeepsFrom w.heap.size (W.putObj (w.heap.size+1) (.loop { rec .ready none with state:=.busy })) W3→
     (Instr.endRound (w.heap.size+1) jump).run P W3 = .ok (.bool jump.isNone) (W3.putObj (w.heap.size+1) (.loop (rec (if jump.isNone then .ready else .done) jump)))∧
     W3.heap[w.heap.size+1]? = some (.loop { rec .ready none with state:=.busy })∧
     (W3.putObj (w.heap.size+1) (.loop (rec (if jump.isNone then .ready else .done) jump))).heap[w.heap.size+1]? = some (.loop (rec (if jump.isNone then .ready else .done) jump))∧
     (W3.putObj (w.heap.size+1) (.loop (rec (if jump.isNone then .ready else .done) jump))).heap[w.heap.size]? = some (.deferred (some [])):=fun jump W3 hk3=>by
    have hl3:=hk3.same _ _ (by omega) hl2 rfl
    have hend:=run_endRound (P:=P) jump hl3
    rw[hrec] at hend ⊢
    exact⟨hend,by rw[hrec] at hl3;exact hl3,World.putObj_heap_same (Array.getElem?_eq_some_iff.1 hl3).1,(World.putObj_heap_other (by omega)).trans (hk3.same _ _ (Nat.le_refl _) hk2 rfl)⟩
   rintro e a3 W3 hp
   cases e with
   | normal=>
    obtain⟨hk3,hkp3,hi3⟩:=hp
    obtain⟨hr,hl3,hl4,hk4⟩:=fin none W3 hk3
    exact⟨_,_,hr,.inl ⟨rfl,⟨(hI b).putObj _ hi3 (by omega) hl3 rfl,hl4,hk4⟩,hKt b hkp (hKt b (hKt b hw2 hkp3) (hKb b _ _ _ _ hl3 rfl))⟩⟩
   | ret=>
    obtain⟨hk3,hi3⟩:=hp
    obtain⟨hr,hl3,hl4,hk4⟩:=fin (some .ret) W3 hk3
    exact⟨_,_,hr,.inr ⟨rfl,.ret,(hIx _).putObj _ hi3 (by omega) hl3 rfl,hl4,hk4⟩⟩
   | exit id=>
    obtain⟨hk3,hi3⟩:=hp
    obtain⟨hr,hl3,hl4,hk4⟩:=fin (some (.exit id)) W3 hk3
    exact⟨_,_,hr,.inr ⟨rfl,.exit id,(hIx _).putObj _ hi3 (by omega) hl3 rfl,hl4,hk4⟩⟩
   | goto t=>
    obtain⟨hk3,hi3⟩:=hp
    obtain⟨hr,hl3,hl4,hk4⟩:=fin (some (.goto t)) W3 hk3
    exact⟨_,_,hr,.inr ⟨rfl,.goto t,(hIx _).putObj _ hi3 (by omega) hl3 rfl,hl4,hk4⟩⟩
   | panic ch=>exact hp.elim
   | outgrown=>exact hp.elim
  ·rintro e W2 ⟨⟨v,rfl⟩,(⟨b,xs,hS,hi,hl,hk⟩|⟨pre,hSp,c,hi,hl,hk⟩)⟩
   ·exact⟨none,_,by have:=run_endLoop (P:=P) hl (by rw[hrec];simp);rw[hrec] at this;exact this,hdone _ b xs _ (Nat.le_refl _) hS ((hI b).putObj _ hi (by omega) hl rfl) ((World.putObj_heap_other (by omega)).trans hk)⟩
   ·exact⟨some c,_,by have:=run_endLoop (P:=P) hl (by rw[hrec];simp);rw[hrec] at this;exact this,hstop _ c pre _ (Nat.le_refl _) hSp ((hIx c).putObj _ hi (by omega) hl rfl) ((World.putObj_heap_other (by omega)).trans hk)⟩
end Go.Sf
