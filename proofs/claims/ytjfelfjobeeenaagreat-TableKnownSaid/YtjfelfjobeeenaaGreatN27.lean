/- The document's Do: blocks of the call's own; a table's numbers. Conditions: none, or as the theorems say. -/
import Derived.Test.YtjfelfjobeeenaaGreatN26
import Derived.Test.YtjfelfjobeeenaaGreatN19
namespace Go.Proofs.YtjfelfjobeeenaaGreat
set_option maxHeartbeats 200000000
set_option linter.unusedVariables false
set_option linter.unusedSimpArgs false
open Go.RowKit Go.Sf Go.Shelf
def fence (bs:Nat→Prop) (W W2:World) (k:Nat):Prop:=bs k∧(k<W.heap.size∨W2.heap.size≤k)
@[go_sem] theorem fieldRV1 (k:ByteArray) (r1:Int) (r3:Bool) (w:World):(Instr.field 202 (.agg #[.string k,.int .i64 r1,.bool r3]) 1).run Tryz.prog w = .ok (.int .i64 r1) w:=by kernel_rfl
section
variable {bs : Nat → Prop} {W W2 w : World} {rb : Nat} {R : yp}
theorem RAt.fence (h:RAt bs W rb R) (hg:W.grownBy W2 none):RAt (fence bs W W2) W2 rb R:=
 (h.mono fun k hk hb=>⟨hb,Or.inl hk⟩).grown hg
theorem zd7 (hbs:∀k,W.heap.size≤k→bs k) (hs:W.heap.size≤W2.heap.size) (w:World) (hw:W2.heap.size≤w.heap.size):∀k,w.heap.size≤k→fence bs W W2 k:=fun k hk=>⟨hbs k (by omega),Or.inr (by omega)⟩
theorem xj (hg:W.grownBy W2 none) (h:RAt (fence bs W W2) w rb R) (ht:yc (fence bs W W2) W2 w):RAt bs w rb R∧yc bs W w:=
 ⟨h.mono fun k _ hk=>hk.1,Zp hg (ht.mono fun k hk=>hk.1)⟩
theorem Ut (ht:yc (fence bs W W2) W2 w) {b:Nat} {o:Obj} (hb:W2.heap[b]? = some o) (h1:W.heap.size≤b):w.heap[b]? = some o:=
 (ht.block b (Array.getElem?_eq_some_iff.1 hb).1 (fun hf=>by
  have:=(Array.getElem?_eq_some_iff.1 hb).1
  rcases hf.2 with h|h <;> omega)).trans hb
theorem xl {a0 a1 a2 a3 a4 a5 a6 a7 x0 x1:Value} {t t':TypeId} (h0:W2.heap[W.heap.size]? = some (.cells #[a0,a1,a2,a3,a4,a5,a6,a7] t (0,0))) (h1:W2.heap[W.heap.size+1]? = some (.cells #[x0,x1] t' (0,0))) (ht:yc (Go.Proofs.YtjfelfjobeeenaaGreat.fence bs W W2) W2 w) :
  (w.cell? ⟨W.heap.size,0,none⟩=some a0∧w.cell? ⟨W.heap.size,1,none⟩=some a1∧w.cell? ⟨W.heap.size,2,none⟩=some a2∧w.cell? ⟨W.heap.size,3,none⟩=some a3∧w.cell? ⟨W.heap.size,4,none⟩=some a4∧w.cell? ⟨W.heap.size,5,none⟩=some a5∧w.cell? ⟨W.heap.size,6,none⟩=some a6∧w.cell? ⟨W.heap.size,7,none⟩=some a7)∧
  w.cell? ⟨W.heap.size+1,0,none⟩=some x0∧w.cell? ⟨W.heap.size+1,1,none⟩=some x1∧W.heap.size<w.heap.size∧W.heap.size+1<w.heap.size:=by
 have e0:=Ut ht h0 (Nat.le_refl _);have e1:=Ut ht h1 (Nat.le_succ _)
 exact⟨⟨(zh e0 0).trans rfl,(zh e0 1).trans rfl,(zh e0 2).trans rfl,(zh e0 3).trans rfl,(zh e0 4).trans rfl,(zh e0 5).trans rfl,(zh e0 6).trans rfl,(zh e0 7).trans rfl⟩,(zh e1 0).trans rfl,(zh e1 1).trans rfl,(Array.getElem?_eq_some_iff.1 e0).1,(Array.getElem?_eq_some_iff.1 e1).1⟩
theorem RAt.setOff (h:RAt bs W rb R) (n:Int):RAt bs (W.setCell ⟨rb,2,none⟩ (.int .i64 n)) rb { R with offers:=n }∧yc bs W (W.setCell ⟨rb,2,none⟩ (.int .i64 n)):=by
 obtain⟨vL,vC,vV,vP,vH,h1,h2,h3⟩:=h;refine⟨⟨vL,vC,vV,vP,vH,⟨(qm h1.box _).trans rfl,?_,?_,?_,?_,?_⟩,h2,h3⟩,⟨rfl,rfl,rfl,by simp[World.setCell],fun k hk hn=>zz W _ _ k (fun e=>hn (by rw[e];exact h2))⟩⟩
 ·exact h1.zv0.same fun g hg=>zz W _ _ g (fun e=>xe h1.zv0 h1.box (by decide) (by rw[hg];exact congrArg some e))
 ·exact h1.calls.same fun g hg=>zz W _ _ g (fun e=>xe h1.calls h1.box (by decide) (by rw[hg];exact congrArg some e))
 ·exact h1.vals.same fun g hg=>zz W _ _ g (fun e=>xe h1.vals h1.box (by decide) (by rw[hg];exact congrArg some e))
 ·exact h1.zv1.same fun g hg=>zz W _ _ g (fun e=>xe h1.zv1 h1.box (by decide) (by rw[hg];exact congrArg some e))
 ·exact h1.holds.same fun g hg=>zz W _ _ g (fun e=>xe h1.holds h1.box (by decide) (by rw[hg];exact congrArg some e))
theorem RAt.setNext (h:RAt bs W rb R) (n:Int):RAt bs (W.setCell ⟨rb,3,none⟩ (.int .i64 n)) rb { R with next:=n }∧yc bs W (W.setCell ⟨rb,3,none⟩ (.int .i64 n)):=by
 obtain⟨vL,vC,vV,vP,vH,h1,h2,h3⟩:=h;refine⟨⟨vL,vC,vV,vP,vH,⟨(qm h1.box _).trans rfl,?_,?_,?_,?_,?_⟩,h2,h3⟩,⟨rfl,rfl,rfl,by simp[World.setCell],fun k hk hn=>zz W _ _ k (fun e=>hn (by rw[e];exact h2))⟩⟩
 ·exact h1.zv0.same fun g hg=>zz W _ _ g (fun e=>xe h1.zv0 h1.box (by decide) (by rw[hg];exact congrArg some e))
 ·exact h1.calls.same fun g hg=>zz W _ _ g (fun e=>xe h1.calls h1.box (by decide) (by rw[hg];exact congrArg some e))
 ·exact h1.vals.same fun g hg=>zz W _ _ g (fun e=>xe h1.vals h1.box (by decide) (by rw[hg];exact congrArg some e))
 ·exact h1.zv1.same fun g hg=>zz W _ _ g (fun e=>xe h1.zv1 h1.box (by decide) (by rw[hg];exact congrArg some e))
 ·exact h1.holds.same fun g hg=>zz W _ _ g (fun e=>xe h1.holds h1.box (by decide) (by rw[hg];exact congrArg some e))
theorem RAt.mem (h:RAt bs W rb R):∃vL vC vV vP vH,vw W rb R vL vC vV vP vH:=by
 obtain⟨vL,vC,vV,vP,vH,h1,_⟩:=h
 exact⟨vL,vC,vV,vP,vH,h1⟩
theorem RAt.c2 (h:RAt bs W rb R):W.cell? ⟨rb,2,none⟩=some (.int .i64 R.offers):=by obtain⟨_,_,_,_,_,h1⟩:=h.mem;exact h1.c2
theorem RAt.c3 (h:RAt bs W rb R):W.cell? ⟨rb,3,none⟩=some (.int .i64 R.next):=by obtain⟨_,_,_,_,_,h1⟩:=h.mem;exact h1.c3
theorem RAt.c0 (h:RAt bs W rb R):W.cell? ⟨rb,0,none⟩=some (.int .i64 R.N):=by obtain⟨_,_,_,_,_,h1⟩:=h.mem;exact h1.c0
theorem RAt.c1 (h:RAt bs W rb R):W.cell? ⟨rb,1,none⟩=some (.int .i64 R.W):=by obtain⟨_,_,_,_,_,h1⟩:=h.mem;exact h1.c1
theorem RAt.free (h:RAt bs W rb R) (i:Nat):W.frozen? ⟨rb,i,none⟩=false:=by obtain⟨_,_,_,_,_,h1⟩:=h.mem;exact h1.free i
theorem RAt.live (h:RAt bs W rb R) {a:Nat} (ha:a<R.zv0.length):∃gL capL,W.cell? ⟨rb,4,none⟩=some (.slice (some ⟨gL,0,none⟩) R.zv0.length capL)∧W.cell? ⟨gL,a,none⟩=some (.int .i64 (R.zv0.getD a 0))∧W.frozen? ⟨gL,a,none⟩=false∧R.zv0.length≤capL∧capL≤9223372036854775807:=by
 obtain⟨vL,vC,vV,vP,vH,h1⟩:=h.mem;obtain⟨gL,capL,rfl,hc,hf⟩:=(h1.zv0.at lenI).resolve_left (fun e=>by rw[e] at ha;simp at ha)
 obtain⟨p2,c2,e2,h3,h4⟩:=h1.zv0.form
 injection e2 with _ _ e2
 subst e2;refine⟨gL,capL,h1.c4,?_,hf a,h4,h3⟩;have:=hc a ha 0 _ rfl;simp only[Nat.mul_one,Nat.add_zero] at this;rw[this];simp[List.getD,List.getElem?_eq_getElem ha]
theorem RAt.setLive (h:RAt bs W rb R) {a:Nat} (ha:a<R.zv0.length):∃gL capL,W.cell? ⟨rb,4,none⟩=some (.slice (some ⟨gL,0,none⟩) R.zv0.length capL)∧W.cell? ⟨gL,a,none⟩=some (.int .i64 (R.zv0.getD a 0))∧W.frozen? ⟨gL,a,none⟩=false∧R.zv0.length≤capL∧capL≤9223372036854775807∧∀x:Int,RAt bs (W.setCell ⟨gL,a,none⟩ (.int .i64 x)) rb { R with zv0:=R.zv0.set a x }∧yc bs W (W.setCell ⟨gL,a,none⟩ (.int .i64 x)):=by
 obtain⟨vL,vC,vV,vP,vH,h1,h2,h3⟩:=h;obtain⟨gL,capL,rfl,hc,hf⟩:=(h1.zv0.at lenI).resolve_left (fun e=>by rw[e] at ha;simp at ha)
 obtain⟨p2,c2,e2,h4,h5⟩:=h1.zv0.form
 injection e2 with _ _ e2
 subst e2;refine⟨gL,capL,h1.c4,?_,hf a,h5,h4,fun x=>?_⟩
 ·have:=hc a ha 0 _ rfl
  simp only[Nat.mul_one,Nat.add_zero] at this;rw[this];simp[List.getD,List.getElem?_eq_getElem ha]
 ·obtain⟨s1,s2⟩:=h1.zv0.put lenI x a ha
  simp only[Yl,List.foldl_cons,List.foldl_nil,Nat.mul_one] at s1 s2
  exact⟨⟨_,vC,vV,vP,vH,h1.putL s1 s2,h2,h3⟩,zst s2 (fun k hk=>h3.1 k (by rw[←hk];rfl))⟩
structure ROk (R:yp):Prop where
 lc:R.calls.length≤10000000
 lv:R.vals.length≤10000000
 lp:R.zv1.length≤10000000
 lh:R.holds.length≤10000000
 ll:R.zv0.length≤1000000
 nd:∀x∈R.holds,0≤x.node∧x.node<(R.zv0.length:Int)
 nn:R.N=R.zv0.length
 o0:0≤R.offers
 o1:R.offers≤4611686018427387904
 x0:0≤R.next
 x1:R.next≤4611686018427387904
 w0:0≤R.W
 w1:R.W≤1000000
theorem Qb (R:yp) (i:ID) (h:0≤ug R i):∃k:Nat,ug R i=k∧∃hk:k<R.zv1.length,zt R.zv1 i=some R.zv1[k].2∧R.zv1[k].1=i∧{ R with zv1:=R.zv1.eraseIdx k }=uf R i:=by
 unfold ug Yu at *
 cases e:R.zv1.findIdx? fun p=>decide (p.1=i) with
 | none=>rw[e] at h;simp at h
 | some k=>
  obtain⟨hk,hf,hno⟩:=List.findIdx?_eq_some_iff_getElem.1 e;have hN:Ze (fun p:ID × xd=>decide (p.1=i)) R.zv1 k:=fun j hj hjk=>by have:=hno j hjk;simpa using this
  have hi:R.zv1[k].1=i:=by simpa using hf
  refine⟨k,rfl,hk,zg8 hN hk hi,hi,?_⟩;unfold uf;rw[zd6 (k:=k) hN hk hf]
theorem zhe (R:yp) (i:ID) (h:¬0≤ug R i):zt R.zv1 i=none:=by
 have:=zkv R i;rw[show decide (0≤ug R i)=false from by simpa using h] at this
 unfold Qe at this
 cases e:zt R.zv1 i with
 | none=>rfl
 | some _=>rw[e] at this;cases this
theorem Qh {F:Nat→Prop} (ht:yc F W2 w) {b:Nat} {o:Obj} (hb:W2.heap[b]? = some o) (h1:¬F b):w.heap[b]? = some o:=
 (ht.block b (Array.getElem?_eq_some_iff.1 hb).1 h1).trans hb
theorem qg {bs:Nat→Prop} {W:World} {rb:Nat} {R:yp} (h:RAt bs W rb R) (hbs:∀k,W.heap.size≤k→bs k) (B I:Obj) (W2:World) (e:(W.alloc B).alloc I=W2) :
  Hid (W.grownBy W2 none)∧Hid (W2.heap[W.heap.size]? = some B)∧Hid (W2.heap[W.heap.size+1]? = some I)∧Hid (RAt (fence bs W W2) W2 rb R)∧Hid (∀w:World,W2.heap.size≤w.heap.size→∀k,w.heap.size≤k→fence bs W W2 k)∧Hid (yc (fence bs W W2) W2 W2):=by
 subst e;have hg2:W.grownBy ((W.alloc B).alloc I) none:=zg (zg (zd _) _) _
 exact⟨hg2,(Jzb _ _ (by simp)).trans (heap_alloc_new _ _),(show((W.alloc B).alloc I).heap[W.heap.size+1]? = some I from by have:=heap_alloc_new (W.alloc B) I;simpa using this),h.fence hg2,fun w hw=>zd7 hbs hg2.size w hw,xn (zd _)⟩
end
theorem zkn (a:ID):ltI a a=false:=by
 cases h:ltI a a with
 | false=>rfl
 | true=>
  rcases(jx a a).1 h with h|⟨_,h⟩
  ·exact absurd h (List.lt_irrefl _)
  ·omega
theorem ztz (a b:ID):ltI a b=true∨a=b∨ltI b a=true:=by
 obtain⟨ka,va⟩:=a;obtain⟨kb,vb⟩:=b
 rcases zga ka kb with h|h|h
 ·exact Or.inl ((jx _ _).2 (Or.inl h))
 ·subst h
  rcases Int.lt_trichotomy va vb with h|h|h
  ·exact Or.inl ((jx _ _).2 (Or.inr ⟨rfl,h⟩))
  ·subst h;exact Or.inr (Or.inl rfl)
  ·exact Or.inr (Or.inr ((jx _ _).2 (Or.inr ⟨rfl,h⟩)))
 ·exact Or.inr (Or.inr ((jx _ _).2 (Or.inl h)))
theorem lt_tr {a b c:ID} (h1:ltI a b=true) (h2:ltI b c=true):ltI a c=true:=by
 refine(jx a c).2 ?_
 rcases(jx a b).1 h1 with h1|⟨e1,h1⟩ <;> rcases(jx b c).1 h2 with h2|⟨e2,h2⟩
 ·exact Or.inl (List.lt_trans h1 h2)
 ·exact Or.inl (e2 ▸ h1)
 ·exact Or.inl (e1 ▸ h2)
 ·exact Or.inr ⟨e1.trans e2,by omega⟩
theorem lt_as {a b:ID} (h1:ltI a b=true):ltI b a=false:=by
 cases h:ltI b a with
 | false=>rfl
 | true=>rw[←zkn a,lt_tr h1 h]
def Yc (l:List ID):Prop:=l.Pairwise fun a b=>ltI a b=true
theorem Qg:∀{l1 l2:List ID},Yc l1→Yc l2→(∀x,x∈l1↔x∈l2)→l1=l2
 | [],[],_,_,_=>rfl
 | [],b :: l2,_,_,h=>absurd ((h b).2 (by simp)) (by simp)
 | a :: l1,[],_,_,h=>absurd ((h a).1 (by simp)) (by simp)
 | a :: l1,b :: l2,h1,h2,h=>by
  obtain⟨p1,q1⟩:=List.pairwise_cons.1 h1;obtain⟨p2,q2⟩:=List.pairwise_cons.1 h2;have hab:a=b:=by
   rcases List.mem_cons.1 ((h a).1 (by simp)) with e|e
   ·exact e
   ·rcases List.mem_cons.1 ((h b).2 (by simp)) with e'|e'
    ·exact e'.symm
    ·have:=lt_as (p2 a e)
     rw[p1 b e'] at this
     cases this
  subst hab;have:l1=l2:=Qg q1 q2 fun x=>by
   constructor
   ·intro hx
    rcases List.mem_cons.1 ((h x).1 (List.mem_cons_of_mem _ hx)) with e|e
    ·subst e;have:=p1 _ hx;rw[zkn] at this;cases this
    ·exact e
   ·intro hx
    rcases List.mem_cons.1 ((h x).2 (List.mem_cons_of_mem _ hx)) with e|e
    ·subst e;have:=p2 _ hx;rw[zkn] at this;cases this
    ·exact e
  rw[this]
theorem zjs {l:List ID} (h:zbr l) (hn:l.Nodup):Yc l:=by
 refine List.pairwise_iff_getElem.2 fun i j hi hj hij=>?_
 have h1:=h i j hij hj;rw[getElem!_pos l j hj,getElem!_pos l i hi] at h1
 rcases ztz l[i] l[j] with e|e|e
 ·exact e
 ·have:=(List.pairwise_iff_getElem.1 hn) i j hi hj hij
  exact absurd e this
 ·rw[e] at h1;cases h1
theorem Yc.nodup {l:List ID} (h:Yc l):l.Nodup:=List.Pairwise.imp (fun {a b} hab e=>by subst e;rw[zkn] at hab;cases hab) h
def Yk (x:ID) (out:List ID):Nat→Nat
 | 0=>0
 | k+1=>if ltI x (out.getD k ⟨⟨#[]⟩,0⟩)=true then Yk x out k else k+1
def Jh (out:List ID) (x:ID):List ID:=out.take (Yk x out out.length)++x :: out.drop (Yk x out out.length)
def Qr (l:List ID):List ID:=l.foldl Jh []
theorem zk9 (x:ID) (out:List ID):∀n,Yk x out n≤n
 | 0=>Nat.le_refl _
 | k+1=>by
  unfold Yk
  split
  ·have:=zk9 x out k;omega
  ·exact Nat.le_refl _
theorem zqs (x:ID) (out:List ID):∀n,∀j,Yk x out n≤j→j<n→ltI x (out.getD j ⟨⟨#[]⟩,0⟩)=true
 | 0,j,_,h=>by omega
 | k+1,j,h1,h2=>by
  unfold Yk at h1
  split at h1
  ·rename_i hl
   rcases Nat.lt_or_ge j k with h|h
   ·exact zqs x out k j h1 h
   ·obtain rfl:j=k:=by omega
    exact hl
  ·omega
theorem zqr (x:ID) (out:List ID):∀n,Yk x out n=0∨ltI x (out.getD (Yk x out n-1) ⟨⟨#[]⟩,0⟩)=false
 | 0=>Or.inl rfl
 | k+1=>by
  unfold Yk
  split
  ·exact zqr x out k
  ·rename_i hl
   exact Or.inr (by simpa using hl)
theorem zmj (out:List ID) (x y:ID):y∈Jh out x↔y=x∨y∈out:=by
 have h:y∈out↔y∈out.take (Yk x out out.length)∨y∈out.drop (Yk x out out.length):=by
  rw[←List.mem_append,List.take_append_drop]
 unfold Jh;rw[List.mem_append,List.mem_cons,h]
 constructor
 ·rintro(h|h|h) <;> simp_all
 ·rintro(h|h|h) <;> simp_all
theorem zmd (out:List ID) (x:ID):(Jh out x).length=out.length+1:=by
 have:=zk9 x out out.length;unfold Jh;rw[List.length_append,List.length_cons,List.length_take,List.length_drop];omega
theorem zl6 {out:List ID} (h:Yc out) {x:ID} (hx:x ∉ out):Yc (Jh out x):=by
 have hk:=zk9 x out out.length;have hup:=zqs x out out.length;have hdn:=zqr x out out.length;unfold Jh;generalize Yk x out out.length=k at *;have hg:∀j (hj:j<out.length),out.getD j ⟨⟨#[]⟩,0⟩=out[j]:=fun j hj=>by simp[List.getD,List.getElem?_eq_getElem hj]
 have hb:∀y∈out.drop k,ltI x y=true:=fun y hy=>by
  obtain⟨i,hi,rfl⟩:=List.getElem_of_mem hy;rw[List.getElem_drop];rw[List.length_drop] at hi;have:=hup (k+i) (by omega) (by omega)
  rwa [hg (k+i) (by omega)] at this
 have ha:∀y∈out.take k,ltI y x=true:=fun y hy=>by
  obtain⟨i,hi,rfl⟩:=List.getElem_of_mem hy;rw[List.getElem_take];rw[List.length_take] at hi
  rcases hdn with h0|h0
  ·omega
  ·rw[hg (k-1) (by omega)] at h0
   have h1:ltI out[k-1] x=true:=by
    rcases ztz out[k-1] x with e|e|e
    ·exact e
    ·exact absurd (e ▸ List.getElem_mem (by omega)) hx
    ·rw[e] at h0;cases h0
   rcases Nat.lt_or_ge i (k-1) with hi'|hi'
   ·exact lt_tr ((List.pairwise_iff_getElem.1 h) i (k-1) (by omega) (by omega) hi') h1
   ·have:i=k-1:=by omega
    subst this
    exact h1
 refine List.pairwise_append.2 ⟨h.sublist (List.take_sublist _ _),List.pairwise_cons.2 ⟨hb,h.sublist (List.drop_sublist _ _)⟩,fun a hta b htb=>?_⟩
 rcases List.mem_cons.1 htb with rfl|htb
 ·exact ha a hta
 ·exact lt_tr (ha a hta) (hb b htb)
theorem zh0:∀(l out:List ID),Yc out→l.Nodup→(∀x∈l,x ∉ out)→Yc (l.foldl Jh out)∧∀y,y∈l.foldl Jh out↔y∈l∨y∈out
 | [],out,h,_,_=>⟨h,fun y=>by simp⟩
 | x :: r,out,h,hn,hd=>by
  obtain⟨h1,h2⟩:=List.nodup_cons.1 hn;obtain⟨g1,g2⟩:=zh0 r (Jh out x) (zl6 h (hd x (by simp))) h2 (fun y hy=>by
   rw[zmj];rintro(e|e)
   ·subst e;exact h1 hy
   ·exact hd y (List.mem_cons_of_mem _ hy) e)
  refine⟨g1,fun y=>?_⟩
  rw[List.foldl_cons,g2,zmj,List.mem_cons]
  constructor
  ·rintro(h|h|h) <;> simp_all
  ·rintro((h|h)|h) <;> simp_all
theorem Yi {l:List ID} (h:l.Nodup):Yc (Qr l):=(zh0 l [] List.Pairwise.nil h (by simp)).1
theorem Vh {l:List ID} (h:l.Nodup) (y:ID):y∈Qr l↔y∈l:=by
 rw[show Qr l=l.foldl Jh [] from rfl,(zh0 l [] List.Pairwise.nil h (by simp)).2]
 simp
theorem zbw (l:List ID):(Qr l).length=l.length:=by
 have:∀(l out:List ID),(l.foldl Jh out).length=l.length+out.length:=by
  intro l
  induction l with
  | nil=>intro out;simp
  | cons x r ih=>intro out;rw[List.foldl_cons,ih,zmd,List.length_cons];omega
 rw[show Qr l=l.foldl Jh [] from rfl,this];simp
theorem any_hit {α:Type} (f:α→Bool) (l:List α) (k:Nat) (hk:k<l.length) (h:f l[k]=true):l.any f=true:=List.any_eq_true.2 ⟨_,List.getElem_mem hk,h⟩
theorem zsz {α:Type} (f:α→Bool) (l:List α) (k:Nat) (h:Ze f l k) (hk:l.length≤k):l.any f=false:=by
 rw[List.any_eq_false];intro x hx;obtain⟨j,hj,rfl⟩:=List.getElem_of_mem hx;simpa using h j hj (by omega)
def Yy (R:yp) (i:ID) (n:Int):Bool:=R.holds.any (fun h:ue=>decide (h.id=i) && (decide (h.node=n) && !h.ref))
theorem zqa (k:ByteArray) (va vb:Int):ltI ⟨k,va⟩ ⟨k,vb⟩=decide (va<vb):=by
 have h:=jx ⟨k,va⟩ ⟨k,vb⟩;simp only[true_and] at h;have h2:¬k.data.toList<k.data.toList:=List.lt_irrefl _
 cases e:ltI ⟨k,va⟩ ⟨k,vb⟩ with
 | true=>
  rw[e] at h
  rcases h.1 rfl with h3|h3
  ·exact absurd h3 h2
  ·simp[h3]
 | false=>
  rw[e] at h;have h4:¬va<vb:=fun h5=>by have:=h.2 (Or.inr h5);cases this
  simpa using h4
section
variable {bs : Nat → Prop} {W : World} {rb : Nat} {R : yp}
set_option maxRecDepth 100000 in
theorem zje (h:RAt bs W rb R) (i:ID) (n:Int):Calls Tryz.prog 139 #[.pointer (some ⟨rb,0,none⟩),zx i,.int .i64 n] W fun e w'=>e = .returned (.bool (Yy R i n))∧W.grownBy w' none:=by
 obtain⟨vL,vC,vV,vP,vH,h⟩:=h.mem;have HV:Hid (Yy R i n=R.holds.any (fun h:ue=>decide (h.id=i) && (decide (h.node=n) && !h.ref))):=(show _=_ from rfl)
 generalize Yy R i n=res at *;have HR:=za (h.grown (zc W (.cells #[.string i.key,.int .i64 i.zvz] 59) none));have HB:=za (heap_alloc_new W (.cells #[.string i.key,.int .i64 i.zvz] 59));have HG:=za (zc W (.cells #[.string i.key,.int .i64 i.zvz] 59) none);clear h;simp only[zx]
 go_enter Tryz.func139,Tryz.ntmps139
 go_wp2;generalize W.alloc (.cells #[.string i.key,.int .i64 i.zvz] 59)=W2 at *
 go_loopw [7] (fun x wr=>∃k:Nat,k≤R.holds.length∧x = .int .i64 k∧Ze (fun h:ue=>decide (h.id=i) && (decide (h.node=n) && !h.ref)) R.holds k∧W2.grownBy wr none) (fun x _=>R.holds.length-(intOf x).toNat)
 case atStart=>exact⟨0,Nat.zero_le _,rfl,fun j hj h=>by omega,zd _⟩
 case round=>
  obtain⟨k,hk,rfl,hno,hg2⟩:=hrel;have HNO:=za hno;have hR:=HR.out.grown hg2;obtain⟨p,cap,hv,hcap,hlc⟩:=hR.holds.form;have c8:=hR.c8;rw[hv] at c8;have bb:=(hg2.block W.heap.size (Array.getElem?_eq_some_iff.1 HB.out).1 (by simp)).trans HB.out
  have b0:wr.cell? ⟨W.heap.size,0,none⟩=some (.string i.key):=(zh bb 0).trans rfl;have b1:wr.cell? ⟨W.heap.size,1,none⟩=some (.int .i64 i.zvz):=(zh bb 1).trans rfl;clear bb hno
  by_cases hlt:k<R.holds.length
  ·obtain⟨g,cap',hv',hc,hfz⟩:=(hR.holds.at zkk).resolve_left (fun e=>by rw[e] at hlt;simp at hlt)
   rw[hv] at hv'
   injection hv' with hv1 hv2 hv3
   subst hv1;have e0:wr.cell? ⟨g,k*5,none⟩=some (.string R.holds[k].id.key):=hc k hlt 0 _ rfl;have e1:wr.cell? ⟨g,k*5+1,none⟩=some (.int .i64 R.holds[k].id.zvz):=hc k hlt 1 _ rfl;have e2:wr.cell? ⟨g,k*5+2,none⟩=some (.int .i64 R.holds[k].node):=hc k hlt 2 _ rfl;have e4:wr.cell? ⟨g,k*5+4,none⟩=some (.bool R.holds[k].ref):=hc k hlt 4 _ rfl;have HH:=za hR;clear hR hv hv2 hv3 hc hfz;have heq:=zoj R.holds[k].id i
   by_cases hi:R.holds[k].id=i
   ·have hd:decide (R.holds[k].id=i)=true:=by simpa using hi
    rw[hd] at heq
    by_cases hn:R.holds[k].node=n
    ·have hdn:(R.holds[k].node == n)=true:=by simpa using hn
     cases hr:R.holds[k].ref with
     | false=>
      rw[hr] at e4;have HI:Hid ((fun h:ue=>decide (h.id=i) && (decide (h.node=n) && !h.ref)) R.holds[k]=true):=(show _=_ from by simp[hi,hn,hr])
      have HI2:=za hr;clear hi hd hn hr;go_wp2
      go_quiet (fail)
      go_wp2
      go_ret
      exact⟨by rw[HV.out,any_hit _ _ k hlt HI.out];rfl,ze HG.out (ze hg2 (zj _ _))⟩
     | true=>
      rw[hr] at e4;have HI:Hid ((fun h:ue=>decide (h.id=i) && (decide (h.node=n) && !h.ref)) R.holds[k]=false):=(show _=_ from by simp[hr])
      clear hi hd hn hr;go_wp2
      go_quiet (fail)
      go_wp2
      go_roundw
      case rel=>exact⟨k+1,by omega,by go_num,HNO.out.step hlt (by simpa using HI.out),ze hg2 (zj _ _)⟩
      case measure=>simp[intOf];omega
    ·have hdn:(R.holds[k].node == n)=false:=by simpa using hn
     have HI:Hid ((fun h:ue=>decide (h.id=i) && (decide (h.node=n) && !h.ref)) R.holds[k]=false):=(show _=_ from by simp[hn])
     clear hi hd hn;go_wp2
     go_quiet (fail)
     go_wp2
     go_roundw
     case rel=>exact⟨k+1,by omega,by go_num,HNO.out.step hlt (by simpa using HI.out),ze hg2 (zj _ _)⟩
     case measure=>simp[intOf];omega
   ·have hd:decide (R.holds[k].id=i)=false:=by simpa using hi
    rw[hd] at heq;have HI:Hid ((fun h:ue=>decide (h.id=i) && (decide (h.node=n) && !h.ref)) R.holds[k]=false):=(show _=_ from by simp[hi])
    clear hi hd;go_wp2
    go_quiet (fail)
    go_wp2
    go_roundw
    case rel=>exact⟨k+1,by omega,by go_num,HNO.out.step hlt (by simpa using HI.out),ze hg2 (zj _ _)⟩
    case measure=>simp[intOf];omega
  ·have HH:=za hR
   clear hR hv;go_wp2
   go_ret
   exact⟨by rw[HV.out,zsz _ _ k HNO.out (by omega)];rfl,ze HG.out hg2⟩
set_option maxRecDepth 100000 in
theorem zsa (a b:ID) (W:World):Calls Tryz.prog 175 #[zx a,zx b] W fun e w'=>e = .returned (.bool (ltI a b))∧W.grownBy w' none:=by
 obtain⟨ka,va⟩:=a;obtain⟨kb,vb⟩:=b;obtain⟨res,HV⟩:∃res,Hid (res=ltI ⟨ka,va⟩ ⟨kb,vb⟩):=⟨_,rfl⟩;rw[show ltI ⟨ka,va⟩ ⟨kb,vb⟩=res from HV.out.symm]
 simp only[zx]
 go_enter Tryz.func175,Tryz.ntmps175
 go_wp2
 all_goals
  go_ret
  refine⟨?_,zg (zg (zd _) _) _⟩;rw[HV.out];have te:=qb ka kb
  by_cases hk:ka=kb
  ·subst hk;first|(rw[zqa];simp;done)|(simp_all [ltI,zku,zcd,Vs];done)|(rw[zqa];simp_all)
  ·simp_all [ltI,zku,zcd,Vs]
end
theorem xc.up {α:Type} {W W2 w:World} {E:TypeId} {sz:Nat} {enc:α→List Value} {v:Value} {l:List α} (h:xc W2 E sz enc v l w) (hg:W.grownBy W2 none):xc W E sz enc v l w:=
 ⟨ze hg h.grown,h.row,fun g hgo=>Nat.le_trans hg.size (h.own g hgo)⟩
theorem oneI:∀x,∀u∈Yl x,u.oneCell'=true:=fun x u hu=>by
 simp only[Yl,List.mem_cons,List.not_mem_nil,or_false] at hu;subst hu;rfl
theorem infoInt:(Tryz.prog.info? 3).map (fun i=>(i.zero,i.size,i.bytes))=some (some (.int .i64 0),1,8):=by kernel_rfl
def Xa (n:Nat):List Int:=(List.range n).map (Int.ofNat ·)
theorem zbu (n:Nat):(Xa n).length=n:=by simp[Xa]
theorem zgz (n k:Nat) (h:k<(Xa n).length):(Xa n)[k]=(k:Int):=by simp[Xa]
def Qx (R:yp) (i:ID):List Int:=(Xa R.N.toNat).filter (Yy R i)
section
variable {bs : Nat → Prop} {W : World} {rb : Nat} {R : yp}
set_option maxRecDepth 100000 in
theorem zk1 (h:RAt bs W rb R) (i:ID) (hn0:0≤R.N) (hn1:R.N≤1000):Calls Tryz.prog 138 #[.pointer (some ⟨rb,0,none⟩),zx i] W fun e w'=>∃v,e = .returned v∧xc W 3 1 Yl v (Qx R i) w':=by
 obtain⟨N,hN⟩:=Int.eq_ofNat_of_zero_le hn0;have hN1:N≤1000:=by omega
 have HV:Hid (Qx R i=(Xa N).filter (Yy R i)):=(show _=_ from by unfold Qx;rw[hN];rfl)
 have HNE:=za hN;generalize Qx R i=res at *;obtain⟨i0,hi,hz0,hz1,hz2⟩:=info_parts infoInt;have HR:=za (h.grown (zc W (.cells #[.string i.key,.int .i64 i.zvz] 59) none));have HB:=za (heap_alloc_new W (.cells #[.string i.key,.int .i64 i.zvz] 59));have HG:=za (zc W (.cells #[.string i.key,.int .i64 i.zvz] 59) none);clear h hn0 hn1 hN;simp only[zx]
 go_enter Tryz.func138,Tryz.ntmps138
 go_wp2;generalize W.alloc (.cells #[.string i.key,.int .i64 i.zvz] 59)=W2 at *
 go_loopw [5,6] (fun lv x wr=>∃k:Nat,k≤N∧x = .int .i64 k∧xc W2 3 1 Yl lv (xf (Yy R i) (Xa N) k) wr) (fun _ x _=>N-(intOf x).toNat)
 case atStart=>exact⟨0,Nat.zero_le _,rfl,by rw[Uv];exact xc.start _ _ _ _⟩
 case round=>
  obtain⟨k,hk,rfl,hgr⟩:=hrel;have hg2:=hgr.grown;have hR:=HR.out.grown hg2;have hkl:=Jk (Yy R i) (Xa N) k;rw[zbu] at hkl;obtain⟨pl,cl,rfl,-,-⟩:=hgr.row.form;have HGR:=za hgr;have c0:=hR.c0;rw[HNE.out] at c0;have hrb:=hR.lt;have b:=(hg2.block W.heap.size (Array.getElem?_eq_some_iff.1 HB.out).1 (by simp)).trans HB.out
  have b0:wr.cell? ⟨W.heap.size,0,none⟩=some (.string i.key):=(zh b 0).trans rfl;have b1:wr.cell? ⟨W.heap.size,1,none⟩=some (.int .i64 i.zvz):=(zh b 1).trans rfl;clear b hgr hg2
  by_cases hlt:k<N
  ·have HHE:Hid (Calls Tryz.prog 139 #[.pointer (some ⟨rb,0,none⟩),.agg #[.string i.key,.int .i64 i.zvz],.int .i64 (k:Int)] wr fun e w'=>e = .returned (.bool (Yy R i (k:Int)))∧wr.grownBy w' none):=(show Calls _ _ _ _ _ from zje hR i k)
   have hkn:k<(Xa N).length:=by rw[zbu];exact hlt
   clear hR
   cases hh:Yy R i (k:Int) with
   | false=>
    rw[hh] at HHE;have HK:Hid (xf (Yy R i) (Xa N) (k+1)=xf (Yy R i) (Xa N) k):=(show _=_ from Uu _ _ _ hkn (by rw[zgz];exact hh))
    clear hh
    go_wp2_with (go_at_call 139;refine HHE.out.mono ?_;rintro e w1 ⟨rfl,hg⟩;have HG1:=za hg;clear hg)
    go_roundw
    case rel=>exact⟨k+1,by omega,by go_num,by rw[HK.out];exact HGR.out.more HG1.out⟩
    case measure=>simp[intOf];omega
   | true=>
    rw[hh] at HHE;have HK:Hid (xf (Yy R i) (Xa N) (k+1)=xf (Yy R i) (Xa N) k ++ [(k:Int)]):=(show _=_ from by rw[Uk _ _ _ hkn (by rw[zgz];exact hh),zgz])
    clear hh;generalize xf (Yy R i) (Xa N) k=q at *
    go_wp2_with (first
     | (go_at_call 139;refine HHE.out.mono ?_;rintro e w1 ⟨rfl,hg⟩;have HG1:=za hg;clear hg)
     | (at_builtin;refine xr (l:=q) (m:=[(k:Int)]) _ rfl (.tmp 19) (.tmp 21) 69 rfl lenI oneI i0 _ 8 Tryz.underlying69 hi hz0 hz1 hz2 rfl (by decide) (by decide) rfl ?a1 rfl ?a2 ?a3 _ rfl ?_))
    case a1=>exact(xc.more (xc.more HGR.out HG1.out) (zg (zd _) _)).row
    case a2=>exact Zw (k:Int) (heap_alloc_new _ _)
    case a3=>simp only[List.length_cons,List.length_nil];omega
    intro p' c' w3 ha;have HA:=za (xc.app (xc.more (xc.more HGR.out HG1.out) (zg (zd _) _)) ha);clear ha;go_wp2
    go_roundw
    case rel=>exact⟨k+1,by omega,by go_num,by rw[HK.out];exact HA.out⟩
    case measure=>simp[intOf];omega
  ·obtain rfl:k=N:=by omega
   have HK:Hid (xf (Yy R i) (Xa k) k=res):=(show _=_ from by rw[HV.out,Jj _ _ _ (by rw[zbu];exact Nat.le_refl _)])
   clear hR;go_wp2
   go_ret
   exact⟨_,rfl,by rw[←HK.out];exact HGR.out.up HG.out⟩
end
def zdm (l:List ID) (k:Nat):List ID:=(l.take k).foldl Jh []
theorem zr1 (l:List ID):zdm l 0 = []:=by simp[zdm]
theorem zr0 (l:List ID) (k:Nat) (hk:k<l.length):zdm l (k+1)=Jh (zdm l k) l[k]:=by
 unfold zdm;rw[List.take_succ_eq_append_getElem hk,List.foldl_append]
 rfl
theorem zl0:∀(l out:List ID),(l.foldl Jh out).length=l.length+out.length
 | [],out=>by simp
 | x :: r,out=>by rw[List.foldl_cons,zl0 r,zmd,List.length_cons];omega
theorem zui (l:List ID) (k:Nat) (hk:k≤l.length):(zdm l k).length=k:=by
 unfold zdm;rw[zl0,List.length_take,Nat.min_eq_left hk];simp
theorem zuh (l:List ID) (k:Nat) (hk:l.length≤k):zdm l k=Qr l:=by
 unfold zdm Qr;rw[List.take_of_length_le hk]
theorem jq:∀x,(ya x).length=2:=fun _=>rfl
theorem zfi:∀x,∀u∈ya x,u.oneCell'=true:=fun x u hu=>by
 simp only[ya,List.mem_cons,List.not_mem_nil,or_false] at hu
 rcases hu with rfl|rfl <;> rfl
theorem zf9:(Tryz.prog.info? 59).map (fun i=>(i.zero,i.size,i.bytes))=some (some (.agg #[.string ⟨#[]⟩,.int .i64 0]),2,24):=by kernel_rfl
theorem zsi (x:ID) (out:List ID) (j:Nat) (hj:j<out.length) (h:ltI x out[j]=true):Yk x out (j+1)=Yk x out j:=by
 conv=>lhs;unfold Yk
 rw[if_pos (by simpa[List.getD,List.getElem?_eq_getElem hj] using h)]
theorem zsj (x:ID) (out:List ID) (j:Nat) (hj:j<out.length) (h:ltI x out[j]=false):Yk x out (j+1)=j+1:=by
 conv=>lhs;unfold Yk
 rw[if_neg (by simpa[List.getD,List.getElem?_eq_getElem hj] using h)]
theorem insL_at {out:List ID} {x:ID} {s:Nat} (h:Yk x out out.length=s):Jh out x=out.take s ++ [x]++out.drop s:=by
 unfold Jh;rw[h,List.append_assoc]
 rfl
end Go.Proofs.YtjfelfjobeeenaaGreat
