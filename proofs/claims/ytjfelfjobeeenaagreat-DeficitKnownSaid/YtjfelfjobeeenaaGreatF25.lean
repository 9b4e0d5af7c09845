/- The document's table goes with the program's, command by command: the plain law, no program. What both tables tell of rows is the same: the plain law. Conditions: they go together. -/
import Derived.Test.YtjfelfjobeeenaaGreatF14
import Derived.Test.YtjfelfjobeeenaaGreatF19
import Derived.Test.YtjfelfjobeeenaaGreatF24
set_option linter.unusedSimpArgs false
set_option linter.unusedVariables false
namespace Go.Proofs.YtjfelfjobeeenaaGreat
open Go.RowKit Go.Sf Go.Shelf
theorem eraseP_filter {K V:Type} (f:K × V→Bool):∀l:List (K × V),(l.map (·.1)).Nodup→(∀x∈l,∀y∈l,f x=true→f y=true→x.1=y.1)→l.eraseP f=l.filter (fun x=>!f x)
 | [],_,_=>rfl
 | p :: r,hn,hu=>by
  simp only[List.map_cons,List.nodup_cons] at hn
  cases hf:f p with
  | true=>
   have hr:r.filter (fun x=>!f x)=r:=by
    rw[List.filter_eq_self]
    intro x hx
    cases hx':f x with
    | false=>rfl
    | true=>exact absurd (List.mem_map.2 ⟨x,hx,(hu p (by simp) x (by simp[hx]) hf hx').symm⟩) hn.1
   rw[List.eraseP_cons_of_pos hf,List.filter_cons_of_neg (by simp[hf]),hr]
  | false=>
   rw[List.eraseP_cons_of_neg (by simp[hf]),List.filter_cons_of_pos (by simp[hf]),eraseP_filter f r hn.2 (fun x hx y hy=>hu x (by simp[hx]) y (by simp[hy]))]
section
variable {K V : Type} [DecidableEq K]
theorem mput_sub (m:List (K × V)) (k:K) (v:V):∀x∈(mput m k v).map (·.1),x=k∨x∈m.map (·.1):=by
 induction m with
 | nil=>intro x hx;simp[mput] at hx;exact Or.inl hx
 | cons p r ih=>
  intro x hx
  simp only[mput] at hx
  split at hx
  ·simp only[List.map_cons,List.mem_cons] at hx ⊢
   rcases hx with h|h
   ·exact Or.inl h
   ·exact Or.inr (Or.inr h)
  ·simp only[List.map_cons,List.mem_cons] at hx ⊢
   rcases hx with h|h
   ·exact Or.inr (Or.inl h)
   ·rcases ih x h with h2|h2
    ·exact Or.inl h2
    ·exact Or.inr (Or.inr h2)
theorem mput_nodup {m:List (K × V)} (h:(m.map (·.1)).Nodup) (k:K) (v:V):((mput m k v).map (·.1)).Nodup:=by
 induction m with
 | nil=>simp[mput]
 | cons p r ih=>
  simp only[List.map_cons,List.nodup_cons] at h
  simp only[mput]
  split
  ·rename_i e;simp only[List.map_cons,List.nodup_cons];rw[←e];exact h
  ·rename_i e
   simp only[List.map_cons,List.nodup_cons]
   refine⟨fun hx=>?_,ih h.2⟩
   rcases mput_sub r k v _ hx with h2|h2
   ·exact e h2
   ·exact h.1 h2
end
theorem mem_sput (l:List Int) (n x:Int):x∈sput l n↔x∈l∨x=n:=by
 unfold sput
 split
 ·rename_i h
  exact⟨Or.inl,fun hx=>hx.elim id fun e=>by rw[e];exact h⟩
 ·simp
theorem mem_sdel (l:List Int) (n x:Int):x∈sdel l n↔x∈l∧x≠n:=by simp[sdel]
theorem mget_smod (m:List (ID × NSet)) (i j:ID) (f:List Int→List Int):mget (smod m i f) j=(mget m j).map fun s=>if j=i then ⟨s.blk,f s.mem⟩ else s:=by
 unfold smod
 induction m with
 | nil=>rfl
 | cons p r ih=>
  simp only[List.map_cons]
  by_cases e:p.1=i
  ·rw[if_pos e]
   simp only[mget]
   by_cases e2:p.1=j
   ·rw[if_pos e2,if_pos e2];simp[←e2,e]
   ·rw[if_neg e2,if_neg e2];exact ih
  ·rw[if_neg e]
   simp only[mget]
   by_cases e2:p.1=j
   ·rw[if_pos e2,if_pos e2];simp[←e2,e]
   ·rw[if_neg e2,if_neg e2];exact ih
theorem mem_smod (m:List (ID × NSet)) (i j:ID) (a x:Int):x∈memH (smod m i fun l=>sdel l a) j↔x∈memH m j∧¬(j=i∧x=a):=by
 unfold memH
 rw[mget_smod]
 cases mget m j with
 | none=>simp
 | some s=>
  simp only[Option.map_some,Option.getD_some]
  split
  ·rename_i e;rw[mem_sdel];simp[e]
  ·rename_i e;simp[e]
theorem mem_sadd (m:List (ID × NSet)) (i j:ID) (a x:Int):x∈memH (sadd m i a 0) j↔x∈memH m j∨(j=i∧x=a):=by
 by_cases e:j=i
 ·subst e
  rw[memH_sadd,mem_sput];simp
 ·have:memH (sadd m i a 0) j=memH m j:=by
   unfold sadd
   split
   ·unfold memH;rw[mget_smod];simp[e]
   ·unfold memH
    have h2:∀(m:List (ID × NSet)),mget (m ++ [(i,(⟨0,[a]⟩:NSet))]) j=mget m j:=by
     intro m
     induction m with
     | nil=>simp[mget,Ne.symm e]
     | cons p r ih=>simp only[List.cons_append,mget];split;rfl;exact ih
    rw[h2]
  rw[this];simp[e]
theorem mem_sdelAll (m:List (ID × NSet)) (a:Int) (j:ID) (x:Int):x∈memH (sdelAll m a) j↔x∈memH m j∧x≠a:=by
 have:mget (sdelAll m a) j=(mget m j).map fun s=>⟨s.blk,sdel s.mem a⟩:=by
  unfold sdelAll
  induction m with
  | nil=>rfl
  | cons p r ih=>
   simp only[List.map_cons,mget]
   split
   ·rfl
   ·exact ih
 unfold memH
 rw[this]
 cases mget m j with
 | none=>simp
 | some s=>simp[mem_sdel]
section
variable {n k : Nat} {T U : Tab} {R S : RTab}
theorem Sim0.pend_mem (hI:Inv n k T) (h:Sim0 T R) (q:ID × Pend):q∈R.pends↔q∈T.pending:=by
 obtain⟨i,p⟩:=q
 constructor
 ·intro hq
  have:=mget_of_mem h.pn hq
  rw[h.pends] at this
  exact mget_mem this
 ·intro hq
  have:=mget_of_mem hI.pnd hq
  rw[←h.pends] at this
  exact mget_mem this
theorem Sim0.frame (h:Sim0 T R) (hN:S.N=R.N) (hW:S.W=R.W) (hl:S.lives=R.lives) (hh:S.holds=R.holds) (uw:U.w=T.w) (ul:U.lives=T.lives) (uh:U.holds=T.holds) (ur:U.refuses=T.refuses) (ho:S.offers=U.offers) (hn:S.next=U.next)
  (hc:∀m,mget S.calls m=mget U.calls m) (hv:∀s,mget S.vals s=mget U.values s) (hp:∀i,mget S.pends i=mget U.pending i) (pn:(S.pends.map (·.1)).Nodup) (vn:(S.vals.map (·.1)).Nodup) (tvn:(U.values.map (·.1)).Nodup):Sim0 U S:=by
 have e:∀a,rlife S a=rlife R a:=fun a=>by unfold rlife;rw[hl]
 refine⟨by rw[hN,ul];exact h.N,by rw[hW,uw];exact h.W,ho,hn,by rw[hl,ul];exact h.lives,hc,hv,hp,pn,vn,tvn,?_,?_,by rw[hh,hN];exact h.hb,by rw[hh];exact h.hn⟩
 ·intro i a;rw[uh,hh,h.hold];simp only[e]
 ·intro i a;rw[ur,hh,h.refu];simp only[e]
theorem sim_stay (hI:Inv n k T) (h:Sim0 T R) (hk:∀x∈R.holds,keepH R x=true):Sim (cleanT T) R:=by
 have:=sim_clean hI h
 rwa [rclean_id hk] at this
theorem rends_get (hI:Inv n k T) (h:Sim0 T R) (i x:ID):mget (rends R i).pends x=mget (mdel T.pending i) x:=by
 show mget (R.pends.eraseP fun p=>decide (p.1=i)) x=mget (T.pending.filter fun p=>decide (p.1≠i)) x
 rw[eraseP_filter _ _ h.pn (fun a _ b _ ha hb=>by simp only[decide_eq_true_eq] at ha hb;rw[ha,hb]),mget_filter h.pn,mget_filter hI.pnd,h.pends]
 cases mget T.pending x <;> simp
theorem rends_nodup (h:Sim0 T R) (i:ID):((rends R i).pends.map (·.1)).Nodup:=by
 have:(rends R i).pends.Sublist R.pends:=List.eraseP_sublist
 exact h.pn.sublist (this.map _)
theorem rbegun_get (hI:Inv n k T) (h:Sim0 T R) (c:Cmd) (x:ID):mget (rbegun R c).pends x=mget (dropC T c.client) x:=by
 show mget (R.pends.eraseP fun p=>decide (p.2.client=c.client)) x=mget (T.pending.filter fun p=>!decide (p.2.client=c.client)) x
 rw[eraseP_filter _ _ h.pn (fun a ha b hb ea eb=>by
  simp only[decide_eq_true_eq] at ea eb
  have h1:=hI.pc a ((h.pend_mem hI a).1 ha)
  have h2:=hI.pc b ((h.pend_mem hI b).1 hb)
  rw[ea] at h1
  rw[eb,h1] at h2
  refine hI.pu a ((h.pend_mem hI a).1 ha) b ((h.pend_mem hI b).1 hb) ?_
  injection h2),mget_filter h.pn,mget_filter hI.pnd,h.pends]
theorem rbegun_nodup (h:Sim0 T R) (c:Cmd):((rbegun R c).pends.map (·.1)).Nodup:=by
 have:(rbegun R c).pends.Sublist R.pends:=List.eraseP_sublist
 exact h.pn.sublist (this.map _)
theorem sim_done (hI:Inv n k T) (h:Sim0 T R) {i:ID} {p:Pend} (code:Int):Sim0 (doneT T i p code) (rdone (rends R i) i p code):=by
 have hc:=h.callV p.client
 have hf:Sim0 { T with pending:=mdel T.pending i } (rends R i):=
  h.frame rfl rfl rfl rfl rfl rfl rfl rfl h.offers h.next h.calls h.vals (rends_get hI h i) (rends_nodup h i) h.vn h.tvn
 unfold rdone doneT doneCalls
 have e1:rcallV (rends R i) p.client=callV T p.client:=hc
 rw[e1]
 split
 ·exact hf.frame rfl rfl rfl rfl rfl rfl rfl rfl h.offers h.next (fun m=>by
   show mget (mput R.calls p.client _) m=mget (mput T.calls p.client _) m
   rw[mget_put,mget_put,h.calls]) hf.vals hf.pends hf.pn hf.vn hf.tvn
 ·exact hf
theorem sim_put (h:Sim0 T R) (s:ByteArray) (v:Val):Sim0 { T with values:=mput T.values s v } { R with vals:=mput R.vals s v }:=
 h.frame rfl rfl rfl rfl rfl rfl rfl rfl h.offers h.next h.calls (fun x=>by
  show mget (mput R.vals s v) x=mget (mput T.values s v) x
  rw[mget_put,mget_put,h.vals]) h.pends h.pn (mput_nodup h.vn s v) (mput_nodup h.tvn s v)
theorem sim_held (h:Sim0 T R) {c:Cmd} (ha:0≤c.node∧c.node<R.N) (hl:rlife R c.node=c.inc):Sim0 (heldT T ⟨c.key,c.ver⟩ c.node 0) (rsays R ⟨⟨c.key,c.ver⟩,c.node,c.inc,false⟩):=by
 refine⟨h.N,h.W,h.offers,h.next,h.lives,h.calls,h.vals,h.pends,h.pn,h.vn,h.tvn,?_,?_,?_,?_⟩
 ·intro i a
  show a∈memH (sadd T.holds ⟨c.key,c.ver⟩ c.node 0) i↔∃x∈(R.holds.filter fun x=>decide (x.id≠(⟨c.key,c.ver⟩:ID)) || decide (x.node≠c.node)) ++ [_],_
  rw[mem_sadd]
  constructor
  ·intro hx
   by_cases e:i=⟨c.key,c.ver⟩∧a=c.node
   ·obtain⟨rfl,rfl⟩:=e
    exact⟨_,List.mem_append_right _ (List.mem_singleton_self _),rfl,rfl,rfl,hl⟩
   ·obtain⟨x,hx,e1,e2,e3,e4⟩:=(h.hold i a).1 (hx.resolve_right e)
    refine⟨x,List.mem_append_left _ (List.mem_filter.2 ⟨hx,?_⟩),e1,e2,e3,e4⟩
    simp only[Bool.or_eq_true,decide_eq_true_eq]
    subst e1 e2
    by_cases e5:x.id=⟨c.key,c.ver⟩
    ·exact Or.inr fun e6=>e ⟨e5,e6⟩
    ·exact Or.inl e5
  ·rintro⟨x,hx,e1,e2,e3,e4⟩
   rcases List.mem_append.1 hx with hx|hx
   ·exact Or.inl ((h.hold i a).2 ⟨x,(List.mem_filter.1 hx).1,e1,e2,e3,e4⟩)
   ·have:=List.mem_singleton.1 hx
    subst this
    exact Or.inr ⟨e1.symm,e2.symm⟩
 ·intro i a
  show a∈memH (smod T.refuses ⟨c.key,c.ver⟩ fun l=>sdel l c.node) i↔∃x∈(R.holds.filter fun x=>decide (x.id≠(⟨c.key,c.ver⟩:ID)) || decide (x.node≠c.node)) ++ [_],_
  rw[mem_smod]
  constructor
  ·rintro⟨hx,hne⟩
   obtain⟨x,hx,e1,e2,e3,e4⟩:=(h.refu i a).1 hx
   refine⟨x,List.mem_append_left _ (List.mem_filter.2 ⟨hx,?_⟩),e1,e2,e3,e4⟩
   simp only[Bool.or_eq_true,decide_eq_true_eq]
   subst e1 e2
   by_cases e5:x.id=⟨c.key,c.ver⟩
   ·exact Or.inr fun e6=>hne ⟨e5,e6⟩
   ·exact Or.inl e5
  ·rintro⟨x,hx,e1,e2,e3,e4⟩
   rcases List.mem_append.1 hx with hx|hx
   ·obtain⟨hx,hf⟩:=List.mem_filter.1 hx
    refine⟨(h.refu i a).2 ⟨x,hx,e1,e2,e3,e4⟩,?_⟩
    rintro⟨rfl,rfl⟩
    simp[e1,e2] at hf
   ·have:=List.mem_singleton.1 hx
    subst this
    cases e3
 ·intro x hx
  rcases List.mem_append.1 hx with hx|hx
  ·exact h.hb x (List.mem_filter.1 hx).1
  ·have:=List.mem_singleton.1 hx
   subst this
   exact ha
 ·show((((R.holds.filter fun x:RHold=>decide (x.id≠(⟨c.key,c.ver⟩:ID)) || decide (x.node≠c.node)) ++ [_]).map fun h:RHold=>(h.id,h.node))).Nodup
  rw[List.map_append]
  refine List.nodup_append.2 ⟨h.hn.sublist ((List.filter_sublist).map _),by simp,fun x hx y hy e=>?_⟩
  obtain⟨q,hq,rfl⟩:=List.mem_map.1 hx
  simp only[List.map_cons,List.map_nil,List.mem_singleton] at hy
  subst hy
  have hf:=(List.mem_filter.1 hq).2
  injection e with e1 e2
  simp[e1,e2] at hf
theorem sim_refused (h:Sim0 T R) {c:Cmd} (ha:0≤c.node∧c.node<R.N) (hl:rlife R c.node=c.inc):Sim0 (refusedT T ⟨c.key,c.ver⟩ c.node 0) (rsays R ⟨⟨c.key,c.ver⟩,c.node,c.inc,true⟩):=by
 refine⟨h.N,h.W,h.offers,h.next,h.lives,h.calls,h.vals,h.pends,h.pn,h.vn,h.tvn,?_,?_,?_,?_⟩
 ·intro i a
  show a∈memH (smod T.holds ⟨c.key,c.ver⟩ fun l=>sdel l c.node) i↔∃x∈(R.holds.filter fun x=>decide (x.id≠(⟨c.key,c.ver⟩:ID)) || decide (x.node≠c.node)) ++ [_],_
  rw[mem_smod]
  constructor
  ·rintro⟨hx,hne⟩
   obtain⟨x,hx,e1,e2,e3,e4⟩:=(h.hold i a).1 hx
   refine⟨x,List.mem_append_left _ (List.mem_filter.2 ⟨hx,?_⟩),e1,e2,e3,e4⟩
   simp only[Bool.or_eq_true,decide_eq_true_eq]
   subst e1 e2
   by_cases e5:x.id=⟨c.key,c.ver⟩
   ·exact Or.inr fun e6=>hne ⟨e5,e6⟩
   ·exact Or.inl e5
  ·rintro⟨x,hx,e1,e2,e3,e4⟩
   rcases List.mem_append.1 hx with hx|hx
   ·obtain⟨hx,hf⟩:=List.mem_filter.1 hx
    refine⟨(h.hold i a).2 ⟨x,hx,e1,e2,e3,e4⟩,?_⟩
    rintro⟨rfl,rfl⟩
    simp[e1,e2] at hf
   ·have:=List.mem_singleton.1 hx
    subst this
    cases e3
 ·intro i a
  show a∈memH (sadd T.refuses ⟨c.key,c.ver⟩ c.node 0) i↔∃x∈(R.holds.filter fun x=>decide (x.id≠(⟨c.key,c.ver⟩:ID)) || decide (x.node≠c.node)) ++ [_],_
  rw[mem_sadd]
  constructor
  ·intro hx
   by_cases e:i=⟨c.key,c.ver⟩∧a=c.node
   ·obtain⟨rfl,rfl⟩:=e
    exact⟨_,List.mem_append_right _ (List.mem_singleton_self _),rfl,rfl,rfl,hl⟩
   ·obtain⟨x,hx,e1,e2,e3,e4⟩:=(h.refu i a).1 (hx.resolve_right e)
    refine⟨x,List.mem_append_left _ (List.mem_filter.2 ⟨hx,?_⟩),e1,e2,e3,e4⟩
    simp only[Bool.or_eq_true,decide_eq_true_eq]
    subst e1 e2
    by_cases e5:x.id=⟨c.key,c.ver⟩
    ·exact Or.inr fun e6=>e ⟨e5,e6⟩
    ·exact Or.inl e5
  ·rintro⟨x,hx,e1,e2,e3,e4⟩
   rcases List.mem_append.1 hx with hx|hx
   ·exact Or.inl ((h.refu i a).2 ⟨x,(List.mem_filter.1 hx).1,e1,e2,e3,e4⟩)
   ·have:=List.mem_singleton.1 hx
    subst this
    exact Or.inr ⟨e1.symm,e2.symm⟩
 ·intro x hx
  rcases List.mem_append.1 hx with hx|hx
  ·exact h.hb x (List.mem_filter.1 hx).1
  ·have:=List.mem_singleton.1 hx
   subst this
   exact ha
 ·show((((R.holds.filter fun x:RHold=>decide (x.id≠(⟨c.key,c.ver⟩:ID)) || decide (x.node≠c.node)) ++ [_]).map fun h:RHold=>(h.id,h.node))).Nodup
  rw[List.map_append]
  refine List.nodup_append.2 ⟨h.hn.sublist ((List.filter_sublist).map _),by simp,fun x hx y hy e=>?_⟩
  obtain⟨q,hq,rfl⟩:=List.mem_map.1 hx
  simp only[List.map_cons,List.map_nil,List.mem_singleton] at hy
  subst hy
  have hf:=(List.mem_filter.1 hq).2
  injection e with e1 e2
  simp[e1,e2] at hf
theorem says_kept (hk:∀x∈R.holds,keepH R x=true) (x:RHold) (hx:keepH R x=true):∀y∈(rsays R x).holds,keepH (rsays R x) y=true:=by
 intro y hy
 rcases List.mem_append.1 hy with hy|hy
 ·exact hk y (List.mem_filter.1 hy).1
 ·have:=List.mem_singleton.1 hy
  subst this
  exact hx
theorem sim_count (m:List (ID × NSet)) (hm:Mems n m) (i:ID) (b:Bool) (hn:(R.holds.map fun h=>(h.id,h.node)).Nodup) (he:∀a,a∈memH m i↔∃h∈R.holds,h.id=i∧h.node=a∧h.ref=b):rcount R i b=(memH m i).length:=by
 have h1:((R.holds.filter fun h=>decide (h.id=i) && h.ref == b).map (·.node)).Nodup:=by
  have h2:=hn.sublist ((List.filter_sublist (p:=fun h:RHold=>decide (h.id=i) && h.ref == b)).map fun h=>(h.id,h.node))
  have h3:((R.holds.filter fun h=>decide (h.id=i) && h.ref == b).map fun h=>(h.id,h.node))=((R.holds.filter fun h=>decide (h.id=i) && h.ref == b).map (·.node)).map fun a=>(i,a):=by
   rw[List.map_map]
   refine List.map_congr_left fun x hx=>?_
   have:=(List.mem_filter.1 hx).2
   simp only[Bool.and_eq_true,decide_eq_true_eq] at this
   simp[this.1]
  rw[h3] at h2
  exact List.Pairwise.of_map (fun a=>(i,a)) (fun a b hab e=>hab (by rw[e])) h2
 have h2:(memH m i).Nodup:=by
  unfold memH
  cases e:mget m i with
  | none=>simp
  | some s=>exact(hm.mem _ (mget_mem e)).1
 have h3:((R.holds.filter fun h=>decide (h.id=i) && h.ref == b).map (·.node)).Perm (memH m i):=by
  rw[List.perm_ext_iff_of_nodup h1 h2]
  intro a
  rw[he,List.mem_map]
  constructor
  ·rintro⟨x,hx,rfl⟩
   obtain⟨hx,hf⟩:=List.mem_filter.1 hx
   simp only[Bool.and_eq_true,decide_eq_true_eq,beq_iff_eq] at hf
   exact⟨x,hx,hf.1,rfl,hf.2⟩
  ·rintro⟨x,hx,e1,e2,e3⟩
   exact⟨x,List.mem_filter.2 ⟨hx,by simp[e1,e3]⟩,e2⟩
 unfold rcount
 rw[←h3.length_eq,List.length_map]
theorem rlife_kept (hk:∀x∈R.holds,keepH R x=true) {x:RHold} (hx:x∈R.holds):rlife R x.node=x.inc:=by
 have:=hk x hx
 simp only[keepH,Bool.and_eq_true,decide_eq_true_eq] at this
 exact this.2.1
theorem Sim0.counts (hI:Inv n k T) (h:Sim0 T R) (hk:∀x∈R.holds,keepH R x=true) (i:ID):rcount R i false=(memH T.holds i).length∧rcount R i true=(memH T.refuses i).length:=by
 refine⟨sim_count T.holds hI.hm i false h.hn fun a=>?_,sim_count T.refuses hI.rm i true h.hn fun a=>?_⟩
 ·rw[h.hold]
  exact⟨fun ⟨x,hx,e1,e2,e3,_⟩=>⟨x,hx,e1,e2,e3⟩,fun ⟨x,hx,e1,e2,e3⟩=>⟨x,hx,e1,e2,e3,rlife_kept hk hx⟩⟩
 ·rw[h.refu]
  exact⟨fun ⟨x,hx,e1,e2,e3,_⟩=>⟨x,hx,e1,e2,e3⟩,fun ⟨x,hx,e1,e2,e3⟩=>⟨x,hx,e1,e2,e3,rlife_kept hk hx⟩⟩
theorem sim_life (hI:Inv n k T) (h:Sim T R) (c:Cmd) (ha:0≤c.node∧c.node<n) (hk:c.kind=2):Sim (cleanT (lifeT T c)) (rdo R c):=by
 have hN:R.N=n:=by rw[h.s0.N,hI.ln]
 have e0:=h.s0.life ha.1 (by rw[hN];exact ha.2)
 have hr:rdo R c=rclean (if rlife R c.node<c.inc∧c.inc≤R.offers then { R with lives:=R.lives.set c.node.toNat c.inc } else R):=by
  unfold rdo;rw[if_neg (by omega),if_pos hk]
 rw[hr]
 have eo:=h.s0.offers
 unfold lifeT
 by_cases hb:lifeB T c=true
 ·rw[if_pos hb]
  have hB:=hb
  unfold lifeB at hB
  simp only[Bool.not_eq_true',Bool.or_eq_false_iff,decide_eq_false_iff_not] at hB
  rw[if_pos (show rlife R c.node<c.inc∧c.inc≤R.offers from by omega)]
  have hI2:=inv_life hI c ha.1
  unfold lifeT at hI2
  rw[if_pos hb] at hI2
  refine sim_clean hI2 ?_
  have hlen:c.node.toNat<R.lives.length:=by rw[h.s0.lives,hI.ln];omega
  have e1:∀x:RHold,(0≤x.node∧x.node<R.N)→rlife { R with lives:=R.lives.set c.node.toNat c.inc } x.node=if x.node=c.node then c.inc else rlife R x.node:=by
   intro x hx
   unfold rlife
   simp only[List.getD_eq_getElem?_getD,List.getElem?_set]
   by_cases e:x.node=c.node
   ·rw[if_pos (by rw[e]),if_pos hlen,if_pos e];rfl
   ·rw[if_neg (by omega),if_neg e]
  refine⟨by show R.N=(T.lives.set _ _).length;rw[List.length_set];exact h.s0.N,h.s0.W,h.s0.offers,h.s0.next,by show R.lives.set _ _=T.lives.set _ _;rw[h.s0.lives],h.s0.calls,h.s0.vals,h.s0.pends,h.s0.pn,h.s0.vn,h.s0.tvn,?_,?_,h.s0.hb,h.s0.hn⟩
  ·intro i a
   show a∈memH (sdelAll T.holds c.node) i↔_
   rw[mem_sdelAll,h.s0.hold]
   constructor
   ·rintro⟨⟨x,hx,e2,e3,e4,e5⟩,hne⟩
    refine⟨x,hx,e2,e3,e4,?_⟩
    rw[e1 x (h.s0.hb x hx),if_neg (by rw[e3];exact hne)];exact e5
   ·rintro⟨x,hx,e2,e3,e4,e5⟩
    have e6:=h.life hx
    rw[e1 x (h.s0.hb x hx)] at e5
    have hne:x.node≠c.node:=by
     intro e7
     rw[if_pos e7] at e5
     rw[e7,e0] at e6
     omega
    exact⟨⟨x,hx,e2,e3,e4,e6⟩,by rw[←e3];exact hne⟩
  ·intro i a
   show a∈memH (sdelAll T.refuses c.node) i↔_
   rw[mem_sdelAll,h.s0.refu]
   constructor
   ·rintro⟨⟨x,hx,e2,e3,e4,e5⟩,hne⟩
    refine⟨x,hx,e2,e3,e4,?_⟩
    rw[e1 x (h.s0.hb x hx),if_neg (by rw[e3];exact hne)];exact e5
   ·rintro⟨x,hx,e2,e3,e4,e5⟩
    have e6:=h.life hx
    rw[e1 x (h.s0.hb x hx)] at e5
    have hne:x.node≠c.node:=by
     intro e7
     rw[if_pos e7] at e5
     rw[e7,e0] at e6
     omega
    exact⟨⟨x,hx,e2,e3,e4,e6⟩,by rw[←e3];exact hne⟩
 ·rw[if_neg hb]
  have hB:¬(rlife R c.node<c.inc∧c.inc≤R.offers):=by
   intro hc
   apply hb
   unfold lifeB
   simp only[Bool.not_eq_true',Bool.or_eq_false_iff,decide_eq_false_iff_not]
   omega
  rw[if_neg hB]
  exact sim_clean hI h.s0
theorem sim_ack (hI:Inv n k T) (h:Sim T R) (c:Cmd) (ha:0≤c.node∧c.node<n):Sim (cleanT (ackT T c 0)) (rack R c):=by
 have hN:R.N=n:=by rw[h.s0.N,hI.ln]
 have haN:0≤c.node∧c.node<R.N:=⟨ha.1,by rw[hN];exact ha.2⟩
 have e0:=h.s0.life haN.1 haN.2
 have hB:(rnowB R c && rwanted R ⟨c.key,c.ver⟩)=ackB T c:=by
  unfold ackB rnowB nowB
  rw[h.s0.wanted,e0]
  congr 1
 unfold rack ackT
 rw[hB]
 by_cases hb:ackB T c=true
 ·rw[if_pos hb,if_pos hb]
  rw[←hB] at hb
  simp only[rnowB,Bool.and_eq_true,decide_eq_true_eq] at hb
  obtain⟨⟨hb1,hb2⟩,hb3⟩:=hb
  have h1:=sim_held h.s0 haN hb2
  have hI1:=inv_held hI ⟨c.key,c.ver⟩ c.node ha
  have hk1:=says_kept h.kept ⟨⟨c.key,c.ver⟩,c.node,c.inc,false⟩ (by simp[keepH,hb2,hb3])
  have hW1:(rsays R ⟨⟨c.key,c.ver⟩,c.node,c.inc,false⟩).W=R.W:=rfl
  rw[←hW1]
  generalize heldT T ⟨c.key,c.ver⟩ c.node 0=T1 at *
  generalize rsays R ⟨⟨c.key,c.ver⟩,c.node,c.inc,false⟩=R1 at *
  unfold ackRest
  rw[h1.pends]
  cases hp:mget T1.pending ⟨c.key,c.ver⟩ with
  | none=>exact sim_stay hI1 h1 hk1
  | some p=>
   simp only
   rw[(h1.counts hI1 hk1 ⟨c.key,c.ver⟩).1,h1.W]
   by_cases hw:((memH T1.holds ⟨c.key,c.ver⟩).length:Int)<T1.w
   ·rw[if_pos hw,if_pos hw];exact sim_stay hI1 h1 hk1
   ·rw[if_neg hw,if_neg hw]
    have hI2:=inv_done hI1 hp 0
    have e1:rlookV (rends R1 ⟨c.key,c.ver⟩) c.key=lookV T1 c.key:=h1.lookV c.key
    by_cases hv:(lookV T1 c.key).ver<c.ver
    ·rw[if_pos hv]
     have e2:rdone (rvalued (rends R1 ⟨c.key,c.ver⟩) c) ⟨c.key,c.ver⟩ p 0 = { rdone (rends R1 ⟨c.key,c.ver⟩) ⟨c.key,c.ver⟩ p 0 with vals:=mput (rdone (rends R1 ⟨c.key,c.ver⟩) ⟨c.key,c.ver⟩ p 0).vals c.key ⟨c.ver,false⟩ }:=by
      unfold rvalued
      rw[e1,if_pos hv]
      unfold rdone
      have e3:rcallV { rends R1 ⟨c.key,c.ver⟩ with vals:=mput (rends R1 ⟨c.key,c.ver⟩).vals c.key ⟨c.ver,false⟩ } p.client=rcallV (rends R1 ⟨c.key,c.ver⟩) p.client:=rfl
      rw[e3]
      split <;> rfl
     rw[e2]
     have h3:=sim_put (sim_done hI1 h1 (i:=⟨c.key,c.ver⟩) (p:=p) 0) c.key ⟨c.ver,false⟩
     refine sim_clean (inv_put hI2 c.key ⟨c.ver,false⟩ ?_ ?_) h3
     ·have:=hI1.pv _ (mget_mem hp)
      exact⟨this.2,by simp only at this ⊢;omega⟩
     ·intro q hq e e2
      obtain⟨h3,h4⟩:=done_pending q hq
      apply h4
      obtain⟨⟨qk,qv⟩,qp⟩:=q
      simp only at e e2 ⊢
      rw[e,e2]
    ·rw[if_neg hv]
     have e2:rvalued (rends R1 ⟨c.key,c.ver⟩) c=rends R1 ⟨c.key,c.ver⟩:=by
      unfold rvalued
      rw[e1,if_neg hv]
     rw[e2]
     exact sim_clean hI2 (sim_done hI1 h1 0)
 ·rw[if_neg hb,if_neg hb]
  exact sim_stay hI h.s0 h.kept
theorem sim_refuse (hI:Inv n k T) (h:Sim T R) (c:Cmd) (ha:0≤c.node∧c.node<n):Sim (cleanT (refuseT T c 0)) (rrefuse R c):=by
 have hN:R.N=n:=by rw[h.s0.N,hI.ln]
 have haN:0≤c.node∧c.node<R.N:=⟨ha.1,by rw[hN];exact ha.2⟩
 have e0:=h.s0.life haN.1 haN.2
 have hB:rnowB R c=nowB T c:=by
  unfold rnowB nowB
  rw[e0]
  congr 1
 unfold rrefuse refuseT refB
 rw[hB,h.s0.pends]
 cases hp:mget T.pending ⟨c.key,c.ver⟩ with
 | none=>simp only[Option.isSome_none,Bool.false_and];exact sim_stay hI h.s0 h.kept
 | some p=>
  simp only[Option.isSome_some,Bool.true_and]
  by_cases hb:nowB T c=true
  ·rw[if_pos hb,if_pos hb]
   rw[←hB] at hb
   simp only[rnowB,Bool.and_eq_true,decide_eq_true_eq] at hb
   obtain⟨hb1,hb2⟩:=hb
   have h1:=sim_refused h.s0 haN hb2
   have hI1:=inv_refused hI ⟨c.key,c.ver⟩ c.node ha
   have hk1:=says_kept h.kept ⟨⟨c.key,c.ver⟩,c.node,c.inc,true⟩ (by simp[keepH,hb2,rwanted,rpendB,h.s0.pends,hp])
   have hp1:mget (refusedT T ⟨c.key,c.ver⟩ c.node 0).pending ⟨c.key,c.ver⟩=some p:=hp
   have hN1:(rsays R ⟨⟨c.key,c.ver⟩,c.node,c.inc,true⟩).N=R.N:=rfl
   rw[←hN1]
   have hW1:(rsays R ⟨⟨c.key,c.ver⟩,c.node,c.inc,true⟩).W=R.W:=rfl
   rw[←hW1]
   generalize refusedT T ⟨c.key,c.ver⟩ c.node 0=T1 at *
   generalize rsays R ⟨⟨c.key,c.ver⟩,c.node,c.inc,true⟩=R1 at *
   unfold refRest
   rw[hp1]
   simp only
   rw[(h1.counts hI1 hk1 ⟨c.key,c.ver⟩).2,h1.W,h1.N]
   by_cases hw:(T1.lives.length:Int)-((memH T1.refuses ⟨c.key,c.ver⟩).length:Int)<T1.w
   ·rw[if_pos hw,if_pos hw]
    exact sim_clean (inv_done hI1 hp1 181) (sim_done hI1 h1 181)
   ·rw[if_neg hw,if_neg hw]
    exact sim_clean hI1 h1
  ·rw[if_neg hb,if_neg hb]
   exact sim_stay hI h.s0 h.kept
theorem sim_began (hI:Inv n k T) (h:Sim T R) (c:Cmd) (hk:c.kind=3):Sim (cleanT (beganT T c)) (rdo R c):=by
 have hr:rdo R c=rclean (if rbeginsB R c=true then { rbegun R c with pends:=(rbegun R c).pends ++ [(⟨c.key,R.next⟩,⟨c.client,c.req⟩)],calls:=mput R.calls c.client ⟨c.req,R.next,false,0⟩,next:=R.next+1 } else R):=by
  unfold rdo;rw[if_neg (by omega),if_neg (by omega),if_pos hk]
 rw[hr,h.s0.begins]
 refine sim_clean (inv_began hI c) ?_
 unfold beganT
 split
 ·have hne:∀p∈(rbegun R c).pends,p.1≠(⟨c.key,R.next⟩:ID):=fun p hp e=>by
   have hp2:p∈R.pends:=(List.eraseP_sublist (l:=R.pends)).subset hp
   have:=(hI.pv p ((h.s0.pend_mem hI p).1 hp2)).2
   rw[e,h.s0.next] at this;simp at this
  rw[←mput_new hne]
  exact h.s0.frame rfl rfl rfl rfl rfl rfl rfl rfl h.s0.offers (by show R.next+1=T.next+1;rw[h.s0.next]) (fun m=>by
   show mget (mput R.calls c.client _) m=mget (mput T.calls c.client _) m
   rw[mget_put,mget_put,h.s0.calls,h.s0.next]) h.s0.vals (fun i=>by
   show mget (mput (rbegun R c).pends _ _) i=mget (mput (dropC T c.client) _ _) i
   rw[mget_put,mget_put,rbegun_get hI h.s0,h.s0.next]) (mput_nodup (rbegun_nodup h.s0 c) _ _) h.s0.vn h.s0.tvn
 ·exact h.s0
theorem sim_removed (hI:Inv n k T) (h:Sim T R) (c:Cmd) (hk:c.kind=6):Sim (cleanT (removedT T c)) (rdo R c):=by
 have hr:rdo R c=rclean (if rbeginsB R c=true then { rbegun R c with vals:=mput R.vals c.key ⟨R.next,true⟩,calls:=mput R.calls c.client ⟨c.req,0,true,0⟩,next:=R.next+1 } else R):=by
  unfold rdo;rw[if_neg (by omega),if_neg (by omega),if_neg (by omega),if_neg (by omega),if_neg (by omega),if_pos hk]
 rw[hr,h.s0.begins]
 refine sim_clean (inv_removed hI c) ?_
 unfold removedT
 split
 ·exact h.s0.frame rfl rfl rfl rfl rfl rfl rfl rfl h.s0.offers (by show R.next+1=T.next+1;rw[h.s0.next]) (fun m=>by
   show mget (mput R.calls c.client _) m=mget (mput T.calls c.client _) m
   rw[mget_put,mget_put,h.s0.calls]) (fun s=>by
   show mget (mput R.vals c.key _) s=mget (mput T.values c.key _) s
   rw[mget_put,mget_put,h.s0.vals,h.s0.next]) (rbegun_get hI h.s0 c) (rbegun_nodup h.s0 c) (mput_nodup h.s0.vn _ _) (mput_nodup h.s0.tvn _ _)
 ·exact h.s0
theorem sim_rejected (hI:Inv n k T) (h:Sim T R) (c:Cmd) (hk:c.kind=7):Sim (cleanT (rejectedT T c)) (rdo R c):=by
 have hr:rdo R c=rclean (if rbeginsB R c=true then { rbegun R c with calls:=mput R.calls c.client ⟨c.req,0,true,c.code⟩ } else R):=by
  unfold rdo;rw[if_neg (by omega),if_neg (by omega),if_neg (by omega),if_neg (by omega),if_neg (by omega),if_neg (by omega)]
 rw[hr,h.s0.begins]
 refine sim_clean (inv_rejected hI c) ?_
 unfold rejectedT
 split
 ·exact h.s0.frame rfl rfl rfl rfl rfl rfl rfl rfl h.s0.offers h.s0.next (fun m=>by
   show mget (mput R.calls c.client _) m=mget (mput T.calls c.client _) m
   rw[mget_put,mget_put,h.s0.calls]) h.s0.vals (rbegun_get hI h.s0 c) (rbegun_nodup h.s0 c) h.s0.vn h.s0.tvn
 ·exact h.s0
theorem sim_step (hI:Inv n k T) (h:Sim T R) (c:Cmd) (ha:0≤c.node∧c.node<n) (h1:1≤c.kind) (h7:c.kind≤7):Sim (stepT T c) (rdo R c):=by
 have hc:c.kind=1∨c.kind=2∨c.kind=3∨c.kind=4∨c.kind=5∨c.kind=6∨c.kind=7:=by omega
 unfold stepT doT opT
 rcases hc with e|e|e|e|e|e|e
 ·rw[if_pos e]
  have hr:rdo R c=rclean { R with offers:=R.offers+1 }:=by unfold rdo;rw[if_pos e]
  rw[hr]
  have h1:=inv_op hI c ha
  unfold opT at h1
  rw[if_pos e] at h1
  exact sim_clean h1 (h.s0.frame rfl rfl rfl rfl rfl rfl rfl rfl (by show R.offers+1=T.offers+1;rw[h.s0.offers]) h.s0.next h.s0.calls h.s0.vals h.s0.pends h.s0.pn h.s0.vn h.s0.tvn)
 ·rw[if_neg (by omega),if_pos e]
  exact sim_life hI h c ha e
 ·rw[if_neg (by omega),if_neg (by omega),if_pos e]
  exact sim_began hI h c e
 ·rw[if_neg (by omega),if_neg (by omega),if_neg (by omega),if_pos e]
  have hr:rdo R c=rack R c:=by unfold rdo;rw[if_neg (by omega),if_neg (by omega),if_neg (by omega),if_pos e]
  rw[hr]
  exact sim_ack hI h c ha
 ·rw[if_neg (by omega),if_neg (by omega),if_neg (by omega),if_neg (by omega),if_pos e]
  have hr:rdo R c=rrefuse R c:=by unfold rdo;rw[if_neg (by omega),if_neg (by omega),if_neg (by omega),if_neg (by omega),if_pos e]
  rw[hr]
  exact sim_refuse hI h c ha
 ·rw[if_neg (by omega),if_neg (by omega),if_neg (by omega),if_neg (by omega),if_neg (by omega),if_pos e]
  exact sim_removed hI h c e
 ·rw[if_neg (by omega),if_neg (by omega),if_neg (by omega),if_neg (by omega),if_neg (by omega),if_neg (by omega)]
  exact sim_rejected hI h c e
theorem sim_new (N:Nat) (w:Int):Sim (newT N w 0).norm (rnew N (clampW N w)):=by
 refine⟨⟨?_,?_,?_,?_,?_,?_,?_,?_,?_,?_,?_,?_,?_,?_,?_⟩,?_⟩ <;> simp[newT,rnew,Tab.norm,nsets,mget,memH]
end
open Go.RowKit Go.Sf Go.Shelf Go.Maps
def rcurL (R:RTab):List ID:=sortL ((R.vals.filter fun v=>!v.2.dead).map fun v=>(⟨v.1,v.2.ver⟩:ID))
def missL (T:Tab) (n:Int):List ID:=if lifeV T n=0 then [] else (curL T).filter (notHas T n)
section
variable {n k : Nat} {T : Tab} {R : RTab}
theorem arr_data (s:ByteArray):(⟨s.data.toList.toArray⟩:ByteArray)=s:=by cases s;simp
theorem mem_rcurL (h:Sim T R) (x:ID):x∈rcurL R↔mget R.vals x.key=some ⟨x.ver,false⟩:=by
 have hn:=h.s0.vn
 have hnd:((R.vals.filter fun v=>!v.2.dead).map fun v=>(⟨v.1,v.2.ver⟩:ID)).Nodup:=by
  have h1:=nodup_filter hn fun v=>!v.2.dead
  rw[List.nodup_iff_pairwise_ne,List.pairwise_map] at h1 ⊢
  exact h1.imp fun hab e=>hab (congrArg ID.key e)
 unfold rcurL
 rw[mem_sortL hnd]
 constructor
 ·intro hx
  obtain⟨v,hv,rfl⟩:=List.mem_map.1 hx
  obtain⟨hv1,hv2⟩:=List.mem_filter.1 hv
  obtain⟨s,ver,dead⟩:=v
  have hd:dead=false:=by simpa using hv2
  subst hd
  exact mget_of_mem hn hv1
 ·intro hx
  have:=mget_mem hx
  exact List.mem_map.2 ⟨_,List.mem_filter.2 ⟨this,rfl⟩,rfl⟩
theorem rcurL_sorted (h:Sim T R):SortedI (rcurL R):=by
 refine sortL_sorted ?_
 have h1:=nodup_filter h.s0.vn fun v=>!v.2.dead
 rw[List.nodup_iff_pairwise_ne,List.pairwise_map] at h1 ⊢
 exact h1.imp fun hab e=>hab (congrArg ID.key e)
theorem skeys_strict (hn:(T.values.map (·.1)).Nodup):(skeys T).Pairwise fun a b=>a<b:=by
 have h1:(T.values.map fun p=>p.1.data.toList).Nodup:=by
  rw[List.nodup_iff_pairwise_ne,List.pairwise_map] at hn ⊢
  exact hn.imp fun hab e=>hab (key_ext _ _ e)
 have h2:(skeys T).Nodup:=(List.mergeSort_perm _ _).nodup_iff.2 h1
 have h3:(skeys T).Pairwise fun a b=>leB a b=true:=List.pairwise_mergeSort (fun a b c h g=>by
  simp only[leB,decide_eq_true_eq] at *
  exact List.le_trans h g) (fun a b=>by
  simp only[leB,Bool.or_eq_true,decide_eq_true_eq]
  exact List.le_total a b) _
 rw[List.nodup_iff_pairwise_ne] at h2
 refine(h3.and h2).imp fun {x y} hxy=>?_
 have a:=hxy.1
 simp only[leB,decide_eq_true_eq] at a
 rcases Std.lt_trichotomy x y with e|e|e
 ·exact e
 ·exact absurd e hxy.2
 ·exact absurd e (by simpa using a)
theorem curL_sorted (hn:(T.values.map (·.1)).Nodup):SortedI (curL T):=by
 unfold SortedI curL
 refine List.Pairwise.filterMap (curAt T) (fun a a' haa b hb b' hb'=>?_) (skeys_strict hn)
 unfold curAt at hb hb'
 split at hb
 ·simp at hb
 ·split at hb'
  ·simp at hb'
  ·simp only[Option.mem_def,Option.some.injEq] at hb hb'
   subst hb hb'
   exact(ltI_iff _ _).2 (Or.inl (by simpa using haa))
theorem mem_curL (hn:(T.values.map (·.1)).Nodup) (x:ID):x∈curL T↔mget T.values x.key=some ⟨x.ver,false⟩:=by
 have hsk:∀s,s∈skeys T↔∃p∈T.values,p.1.data.toList=s:=fun s=>by
  unfold skeys;rw[(List.mergeSort_perm _ _).mem_iff];simp
 unfold curL
 rw[List.mem_filterMap]
 constructor
 ·rintro⟨s,hs,hc⟩
  obtain⟨p,hp,rfl⟩:=(hsk s).1 hs
  unfold curAt at hc
  rw[arr_data] at hc
  have hg:mget T.values p.1=some p.2:=mget_of_mem hn hp
  unfold lookV at hc
  rw[hg] at hc
  simp only[Option.getD_some] at hc
  split at hc
  ·simp at hc
  ·rename_i hd
   simp only[Option.some.injEq] at hc
   subst hc
   obtain⟨s,ver,dead⟩:=p
   have:dead=false:=by simpa using hd
   subst this
   exact hg
 ·intro hx
  refine⟨x.key.data.toList,(hsk _).2 ⟨_,mget_mem hx,rfl⟩,?_⟩
  unfold curAt lookV
  rw[arr_data,hx]
  simp
theorem cur_same (h:Sim T R):curL T=rcurL R:=
 sorted_ext (curL_sorted h.s0.tvn) (rcurL_sorted h) fun x=>by rw[mem_curL h.s0.tvn,mem_rcurL h,h.s0.vals]
theorem held_same (h:Sim T R) (i:ID) (a:Int):heldB R i a=hasB T a i:=by
 unfold heldB hasB
 cases e:R.holds.any (fun h:RHold=>decide (h.id=i) && (decide (h.node=a) && !h.ref)) with
 | true=>
  obtain⟨x,hx,hh⟩:=List.any_eq_true.1 e
  simp only[Bool.and_eq_true,decide_eq_true_eq,Bool.not_eq_true'] at hh
  exact(decide_eq_true ((h.s0.hold i a).2 ⟨x,hx,hh.1,hh.2.1,hh.2.2,h.life hx⟩)).symm
 | false=>
  refine(decide_eq_false fun hm=>?_).symm
  obtain⟨x,hx,h1,h2,h3,_⟩:=(h.s0.hold i a).1 hm
  rw[List.any_eq_false] at e
  exact e x hx (by simp[h1,h2,h3])
theorem rlife_same (h:Sim T R) (a:Int) (hr:0≤a∧a<R.N):rlife R a=lifeV T a:=h.s0.life hr.1 hr.2
theorem ints_ext:∀{l1 l2:List Int},l1.Pairwise (·< ·)→l2.Pairwise (·< ·)→(∀x,x∈l1↔x∈l2)→l1=l2
 | [],[],_,_,_=>rfl
 | [],b :: l2,_,_,h=>absurd ((h b).2 (by simp)) (by simp)
 | a :: l1,[],_,_,h=>absurd ((h a).1 (by simp)) (by simp)
 | a :: l1,b :: l2,h1,h2,h=>by
  obtain⟨p1,q1⟩:=List.pairwise_cons.1 h1
  obtain⟨p2,q2⟩:=List.pairwise_cons.1 h2
  have hab:a=b:=by
   rcases List.mem_cons.1 ((h a).1 (by simp)) with e|e
   ·exact e
   ·rcases List.mem_cons.1 ((h b).2 (by simp)) with e'|e'
    ·exact e'.symm
    ·have h3:=p2 a e
     have h4:=p1 b e'
     omega
  subst hab
  have:l1=l2:=ints_ext q1 q2 fun x=>by
   constructor
   ·intro hx
    rcases List.mem_cons.1 ((h x).1 (List.mem_cons_of_mem _ hx)) with e|e
    ·have:=p1 _ hx;omega
    ·exact e
   ·intro hx
    rcases List.mem_cons.1 ((h x).2 (List.mem_cons_of_mem _ hx)) with e|e
    ·have:=p2 _ hx;omega
    ·exact e
  rw[this]
theorem intsN_sorted (m:Nat):(intsN m).Pairwise (·< ·):=by
 unfold intsN
 rw[List.pairwise_map]
 exact List.pairwise_lt_range.imp fun h=>by simpa using h
theorem mem_intsN (m:Nat) (x:Int):x∈intsN m↔0≤x∧x<m:=by
 unfold intsN
 rw[List.mem_map]
 constructor
 ·rintro⟨j,hj,rfl⟩
  have:=List.mem_range.1 hj
  simp;omega
 ·rintro⟨h0,h1⟩
  exact⟨x.toNat,List.mem_range.2 (by omega),by simp;omega⟩
theorem hold_same (hI:Inv n k T) (h:Sim T R) (i:ID):holdL T i=rholdL R i:=by
 have hnd:(memH T.holds i).Nodup:=by
  unfold memH
  cases e:mget T.holds i with
  | none=>simp
  | some s=>exact(hI.hm.mem _ (mget_mem e)).1
 refine ints_ext ?_ ((intsN_sorted _).filter _) fun x=>?_
 ·unfold holdL
  have h2:=(List.mergeSort_perm (memH T.holds i) fun x y=>decide (x≤y)).nodup_iff.2 hnd
  have h3:((memH T.holds i).mergeSort fun x y=>decide (x≤y)).Pairwise fun a b=>decide (a≤b)=true:=List.pairwise_mergeSort (fun a b c h g=>by
   simp only[decide_eq_true_eq] at *;omega) (fun a b=>by simp only[Bool.or_eq_true,decide_eq_true_eq];omega) _
  rw[List.nodup_iff_pairwise_ne] at h2
  exact(h3.and h2).imp fun ⟨a,b⟩=>by simp only[decide_eq_true_eq] at a;omega
 ·unfold holdL rholdL
  rw[(List.mergeSort_perm _ _).mem_iff,List.mem_filter,mem_intsN,held_same h]
  unfold hasB
  have hb:=(hI.hm.len i).2 x
  have hN:=h.s0.N
  have hl:=hI.ln
  constructor
  ·intro hx
   exact⟨by have:=hb hx;omega,by simpa using hx⟩
  ·rintro⟨_,hx⟩;simpa using hx
end
end Go.Proofs.YtjfelfjobeeenaaGreat
