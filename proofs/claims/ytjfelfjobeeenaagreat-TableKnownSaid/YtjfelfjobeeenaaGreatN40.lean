/- The document's table goes with the program's, command by command: the plain law, no program. Conditions: none, or as the theorems say. -/
import Derived.Test.YtjfelfjobeeenaaGreatN22
import Derived.Test.YtjfelfjobeeenaaGreatN27
import Derived.Test.YtjfelfjobeeenaaGreatN38
namespace Go.Proofs.YtjfelfjobeeenaaGreat
set_option maxHeartbeats 200000000
set_option linter.unusedVariables false
set_option linter.unusedSimpArgs false
open Go.RowKit Go.Sf Go.Shelf
theorem Qu {K V:Type} (f:K × V→Bool):∀l:List (K × V),(l.map (·.1)).Nodup→(∀x∈l,∀y∈l,f x=true→f y=true→x.1=y.1)→l.eraseP f=l.filter (fun x=>!f x)
 | [],_,_=>rfl
 | p :: r,hn,hu=>by
  simp only[List.map_cons,List.nodup_cons] at hn
  cases hf:f p with
  | true=>
   have hr:r.filter (fun x=>!f x)=r:=by
    rw[List.filter_eq_self];intro x hx
    cases hx':f x with
    | false=>rfl
    | true=>exact absurd (List.mem_map.2 ⟨x,hx,(hu p (by simp) x (by simp[hx]) hf hx').symm⟩) hn.1
   rw[List.eraseP_cons_of_pos hf,List.filter_cons_of_neg (by simp[hf]),hr]
  | false=>
   rw[List.eraseP_cons_of_neg (by simp[hf]),List.filter_cons_of_pos (by simp[hf]),Qu f r hn.2 (fun x hx y hy=>hu x (by simp[hx]) y (by simp[hy]))]
section
variable {K V : Type} [DecidableEq K]
theorem zmr (m:List (K × V)) (k:K) (v:V):∀x∈(ym m k v).map (·.1),x=k∨x∈m.map (·.1):=by
 induction m with
 | nil=>intro x hx;simp[ym] at hx;exact Or.inl hx
 | cons p r ih=>
  intro x hx;simp only[ym] at hx
  split at hx
  ·simp only[List.map_cons,List.mem_cons] at hx ⊢
   rcases hx with h|h
   ·exact Or.inl h
   ·exact Or.inr (Or.inr h)
  ·simp only[List.map_cons,List.mem_cons] at hx ⊢
   rcases hx with h|h
   ·exact Or.inr (Or.inl h)
   ·rcases ih x h with h2|h2
    ·exact Or.inl h2
    ·exact Or.inr (Or.inr h2)
theorem jd {m:List (K × V)} (h:(m.map (·.1)).Nodup) (k:K) (v:V):((ym m k v).map (·.1)).Nodup:=by
 induction m with
 | nil=>simp[ym]
 | cons p r ih=>
  simp only[List.map_cons,List.nodup_cons] at h;simp only[ym]
  split
  ·rename_i e;simp only[List.map_cons,List.nodup_cons];rw[←e];exact h
  ·rename_i e
   simp only[List.map_cons,List.nodup_cons];refine⟨fun hx=>?_,ih h.2⟩
   rcases zmr r k v _ hx with h2|h2
   ·exact e h2
   ·exact h.1 h2
end
theorem zmo (l:List Int) (n x:Int):x∈um l n↔x∈l∨x=n:=by
 unfold um
 split
 ·rename_i h
  exact⟨Or.inl,fun hx=>hx.elim id fun e=>by rw[e];exact h⟩
 ·simp
theorem zmm (l:List Int) (n x:Int):x∈Zc l n↔x∈l∧x≠n:=by simp[Zc]
theorem zi2 (m:List (ID × ye)) (i j:ID) (f:List Int→List Int):zt (ql m i f) j=(zt m j).map fun s=>if j=i then ⟨s.blk,f s.mem⟩ else s:=by
 unfold ql
 induction m with
 | nil=>rfl
 | cons p r ih=>
  simp only[List.map_cons]
  by_cases e:p.1=i
  ·rw[if_pos e]
   simp only[zt]
   by_cases e2:p.1=j
   ·rw[if_pos e2,if_pos e2];simp[←e2,e]
   ·rw[if_neg e2,if_neg e2];exact ih
  ·rw[if_neg e]
   simp only[zt]
   by_cases e2:p.1=j
   ·rw[if_pos e2,if_pos e2];simp[←e2,e]
   ·rw[if_neg e2,if_neg e2];exact ih
theorem zmn (m:List (ID × ye)) (i j:ID) (a x:Int):x∈memH (ql m i fun l=>Zc l a) j↔x∈memH m j∧¬(j=i∧x=a):=by
 unfold memH;rw[zi2]
 cases zt m j with
 | none=>simp
 | some s=>
  simp only[Option.map_some,Option.getD_some]
  split
  ·rename_i e;rw[zmm];simp[e]
  ·rename_i e;simp[e]
theorem zml (m:List (ID × ye)) (i j:ID) (a x:Int):x∈memH (Zb m i a 0) j↔x∈memH m j∨(j=i∧x=a):=by
 by_cases e:j=i
 ·subst e
  rw[Vg,zmo];simp
 ·have:memH (Zb m i a 0) j=memH m j:=by
   unfold Zb
   split
   ·unfold memH;rw[zi2];simp[e]
   ·unfold memH
    have h2:∀(m:List (ID × ye)),zt (m ++ [(i,(⟨0,[a]⟩:ye))]) j=zt m j:=by
     intro m
     induction m with
     | nil=>simp[zt,Ne.symm e]
     | cons p r ih=>simp only[List.cons_append,zt];split;rfl;exact ih
    rw[h2]
  rw[this];simp[e]
theorem zfg (m:List (ID × ye)) (a:Int) (j:ID) (x:Int):x∈memH (xi m a) j↔x∈memH m j∧x≠a:=by
 have:zt (xi m a) j=(zt m j).map fun s=>⟨s.blk,Zc s.mem a⟩:=by
  unfold xi
  induction m with
  | nil=>rfl
  | cons p r ih=>
   simp only[List.map_cons,zt]
   split
   ·rfl
   ·exact ih
 unfold memH;rw[this]
 cases zt m j with
 | none=>simp
 | some s=>simp[zmm]
section
variable {n k : Nat} {T U : Tab} {R S : yp}
theorem Zq.pend_mem (hI:Inv n k T) (h:Zq T R) (q:ID × xd):q∈R.zv1↔q∈T.pending:=by
 obtain⟨i,p⟩:=q
 constructor
 ·intro hq
  have:=vo h.pn hq;rw[h.zv1] at this
  exact yd this
 ·intro hq
  have:=vo hI.pnd hq;rw[←h.zv1] at this
  exact yd this
theorem Zq.frame (h:Zq T R) (hN:S.N=R.N) (hW:S.W=R.W) (hl:S.zv0=R.zv0) (hh:S.holds=R.holds) (uw:U.w=T.w) (ul:U.zv0=T.zv0) (uh:U.holds=T.holds) (ur:U.zv2=T.zv2) (ho:S.offers=U.offers) (hn:S.next=U.next)
  (hc:∀m,zt S.calls m=zt U.calls m) (hv:∀s,zt S.vals s=zt U.values s) (hp:∀i,zt S.zv1 i=zt U.pending i) (pn:(S.zv1.map (·.1)).Nodup) (vn:(S.vals.map (·.1)).Nodup) (tvn:(U.values.map (·.1)).Nodup):Zq U S:=by
 have e:∀a,ui S a=ui R a:=fun a=>by unfold ui;rw[hl]
 refine⟨by rw[hN,ul];exact h.N,by rw[hW,uw];exact h.W,ho,hn,by rw[hl,ul];exact h.zv0,hc,hv,hp,pn,vn,tvn,?_,?_,by rw[hh,hN];exact h.hb,by rw[hh];exact h.hn⟩
 ·intro i a;rw[uh,hh,h.hold];simp only[e]
 ·intro i a;rw[ur,hh,h.refu];simp only[e]
theorem zbn (hI:Inv n k T) (h:Zq T R) (hk:∀x∈R.holds,uz R x=true):Sim (jt T) R:=by
 have:=Zd hI h
 rwa [zr6 hk] at this
theorem zr7 (hI:Inv n k T) (h:Zq T R) (i x:ID):zt (uf R i).zv1 x=zt (Ug T.pending i) x:=by
 show zt (R.zv1.eraseP fun p=>decide (p.1=i)) x=zt (T.pending.filter fun p=>decide (p.1≠i)) x
 rw[Qu _ _ h.pn (fun a _ b _ ha hb=>by simp only[decide_eq_true_eq] at ha hb;rw[ha,hb]),Zf h.pn,Zf hI.pnd,h.zv1]
 cases zt T.pending x <;> simp
theorem zni (h:Zq T R) (i:ID):((uf R i).zv1.map (·.1)).Nodup:=by
 have:(uf R i).zv1.Sublist R.zv1:=List.eraseP_sublist
 exact h.pn.sublist (this.map _)
theorem zcx (hI:Inv n k T) (h:Zq T R) (c:Cmd) (x:ID):zt (xp R c).zv1 x=zt (Zz T c.zvw) x:=by
 show zt (R.zv1.eraseP fun p=>decide (p.2.zvw=c.zvw)) x=zt (T.pending.filter fun p=>!decide (p.2.zvw=c.zvw)) x
 rw[Qu _ _ h.pn (fun a ha b hb ea eb=>by
  simp only[decide_eq_true_eq] at ea eb;have h1:=hI.pc a ((h.pend_mem hI a).1 ha);have h2:=hI.pc b ((h.pend_mem hI b).1 hb);rw[ea] at h1;rw[eb,h1] at h2;refine hI.pu a ((h.pend_mem hI a).1 ha) b ((h.pend_mem hI b).1 hb) ?_
  injection h2),Zf h.pn,Zf hI.pnd,h.zv1]
theorem zao (h:Zq T R) (c:Cmd):((xp R c).zv1.map (·.1)).Nodup:=by
 have:(xp R c).zv1.Sublist R.zv1:=List.eraseP_sublist
 exact h.pn.sublist (this.map _)
theorem zhy (hI:Inv n k T) (h:Zq T R) {i:ID} {p:xd} (code:Int):Zq (jw T i p code) (qx (uf R i) i p code):=by
 have hc:=h.callV p.zvw;have hf:Zq { T with pending:=Ug T.pending i } (uf R i):=
  h.frame rfl rfl rfl rfl rfl rfl rfl rfl h.offers h.next h.calls h.vals (zr7 hI h i) (zni h i) h.vn h.tvn
 unfold qx jw Zl;have e1:je (uf R i) p.zvw=callV T p.zvw:=hc;rw[e1]
 split
 ·exact hf.frame rfl rfl rfl rfl rfl rfl rfl rfl h.offers h.next (fun m=>by
   show zt (ym R.calls p.zvw _) m=zt (ym T.calls p.zvw _) m
   rw[uk,uk,h.calls]) hf.vals hf.zv1 hf.pn hf.vn hf.tvn
 ·exact hf
theorem sim_put (h:Zq T R) (s:ByteArray) (v:Val):Zq { T with values:=ym T.values s v } { R with vals:=ym R.vals s v }:=
 h.frame rfl rfl rfl rfl rfl rfl rfl rfl h.offers h.next h.calls (fun x=>by
  show zt (ym R.vals s v) x=zt (ym T.values s v) x
  rw[uk,uk,h.vals]) h.zv1 h.pn (jd h.vn s v) (jd h.tvn s v)
theorem zu6 (h:Zq T R) {c:Cmd} (ha:0≤c.node∧c.node<R.N) (hl:ui R c.node=c.zvx):Zq (uj T ⟨c.key,c.zvz⟩ c.node 0) (yg R ⟨⟨c.key,c.zvz⟩,c.node,c.zvx,false⟩):=by
 refine⟨h.N,h.W,h.offers,h.next,h.zv0,h.calls,h.vals,h.zv1,h.pn,h.vn,h.tvn,?_,?_,?_,?_⟩
 ·intro i a
  show a∈memH (Zb T.holds ⟨c.key,c.zvz⟩ c.node 0) i↔∃x∈(R.holds.filter fun x=>decide (x.id≠(⟨c.key,c.zvz⟩:ID)) || decide (x.node≠c.node)) ++ [_],_
  rw[zml]
  constructor
  ·intro hx
   by_cases e:i=⟨c.key,c.zvz⟩∧a=c.node
   ·obtain⟨rfl,rfl⟩:=e
    exact⟨_,List.mem_append_right _ (List.mem_singleton_self _),rfl,rfl,rfl,hl⟩
   ·obtain⟨x,hx,e1,e2,e3,e4⟩:=(h.hold i a).1 (hx.resolve_right e)
    refine⟨x,List.mem_append_left _ (List.mem_filter.2 ⟨hx,?_⟩),e1,e2,e3,e4⟩;simp only[Bool.or_eq_true,decide_eq_true_eq];subst e1 e2
    by_cases e5:x.id=⟨c.key,c.zvz⟩
    ·exact Or.inr fun e6=>e ⟨e5,e6⟩
    ·exact Or.inl e5
  ·rintro⟨x,hx,e1,e2,e3,e4⟩
   rcases List.mem_append.1 hx with hx|hx
   ·exact Or.inl ((h.hold i a).2 ⟨x,(List.mem_filter.1 hx).1,e1,e2,e3,e4⟩)
   ·have:=List.mem_singleton.1 hx
    subst this
    exact Or.inr ⟨e1.symm,e2.symm⟩
 ·intro i a
  show a∈memH (ql T.zv2 ⟨c.key,c.zvz⟩ fun l=>Zc l c.node) i↔∃x∈(R.holds.filter fun x=>decide (x.id≠(⟨c.key,c.zvz⟩:ID)) || decide (x.node≠c.node)) ++ [_],_
  rw[zmn]
  constructor
  ·rintro⟨hx,hne⟩
   obtain⟨x,hx,e1,e2,e3,e4⟩:=(h.refu i a).1 hx;refine⟨x,List.mem_append_left _ (List.mem_filter.2 ⟨hx,?_⟩),e1,e2,e3,e4⟩;simp only[Bool.or_eq_true,decide_eq_true_eq];subst e1 e2
   by_cases e5:x.id=⟨c.key,c.zvz⟩
   ·exact Or.inr fun e6=>hne ⟨e5,e6⟩
   ·exact Or.inl e5
  ·rintro⟨x,hx,e1,e2,e3,e4⟩
   rcases List.mem_append.1 hx with hx|hx
   ·obtain⟨hx,hf⟩:=List.mem_filter.1 hx
    refine⟨(h.refu i a).2 ⟨x,hx,e1,e2,e3,e4⟩,?_⟩;rintro⟨rfl,rfl⟩;simp[e1,e2] at hf
   ·have:=List.mem_singleton.1 hx
    subst this
    cases e3
 ·intro x hx
  rcases List.mem_append.1 hx with hx|hx
  ·exact h.hb x (List.mem_filter.1 hx).1
  ·have:=List.mem_singleton.1 hx
   subst this
   exact ha
 ·show((((R.holds.filter fun x:ue=>decide (x.id≠(⟨c.key,c.zvz⟩:ID)) || decide (x.node≠c.node)) ++ [_]).map fun h:ue=>(h.id,h.node))).Nodup
  rw[List.map_append];refine List.nodup_append.2 ⟨h.hn.sublist ((List.filter_sublist).map _),by simp,fun x hx y hy e=>?_⟩
  obtain⟨q,hq,rfl⟩:=List.mem_map.1 hx;simp only[List.map_cons,List.map_nil,List.mem_singleton] at hy;subst hy;have hf:=(List.mem_filter.1 hq).2
  injection e with e1 e2
  simp[e1,e2] at hf
theorem znr (h:Zq T R) {c:Cmd} (ha:0≤c.node∧c.node<R.N) (hl:ui R c.node=c.zvx):Zq (xg T ⟨c.key,c.zvz⟩ c.node 0) (yg R ⟨⟨c.key,c.zvz⟩,c.node,c.zvx,true⟩):=by
 refine⟨h.N,h.W,h.offers,h.next,h.zv0,h.calls,h.vals,h.zv1,h.pn,h.vn,h.tvn,?_,?_,?_,?_⟩
 ·intro i a
  show a∈memH (ql T.holds ⟨c.key,c.zvz⟩ fun l=>Zc l c.node) i↔∃x∈(R.holds.filter fun x=>decide (x.id≠(⟨c.key,c.zvz⟩:ID)) || decide (x.node≠c.node)) ++ [_],_
  rw[zmn]
  constructor
  ·rintro⟨hx,hne⟩
   obtain⟨x,hx,e1,e2,e3,e4⟩:=(h.hold i a).1 hx;refine⟨x,List.mem_append_left _ (List.mem_filter.2 ⟨hx,?_⟩),e1,e2,e3,e4⟩;simp only[Bool.or_eq_true,decide_eq_true_eq];subst e1 e2
   by_cases e5:x.id=⟨c.key,c.zvz⟩
   ·exact Or.inr fun e6=>hne ⟨e5,e6⟩
   ·exact Or.inl e5
  ·rintro⟨x,hx,e1,e2,e3,e4⟩
   rcases List.mem_append.1 hx with hx|hx
   ·obtain⟨hx,hf⟩:=List.mem_filter.1 hx
    refine⟨(h.hold i a).2 ⟨x,hx,e1,e2,e3,e4⟩,?_⟩;rintro⟨rfl,rfl⟩;simp[e1,e2] at hf
   ·have:=List.mem_singleton.1 hx
    subst this
    cases e3
 ·intro i a
  show a∈memH (Zb T.zv2 ⟨c.key,c.zvz⟩ c.node 0) i↔∃x∈(R.holds.filter fun x=>decide (x.id≠(⟨c.key,c.zvz⟩:ID)) || decide (x.node≠c.node)) ++ [_],_
  rw[zml]
  constructor
  ·intro hx
   by_cases e:i=⟨c.key,c.zvz⟩∧a=c.node
   ·obtain⟨rfl,rfl⟩:=e
    exact⟨_,List.mem_append_right _ (List.mem_singleton_self _),rfl,rfl,rfl,hl⟩
   ·obtain⟨x,hx,e1,e2,e3,e4⟩:=(h.refu i a).1 (hx.resolve_right e)
    refine⟨x,List.mem_append_left _ (List.mem_filter.2 ⟨hx,?_⟩),e1,e2,e3,e4⟩;simp only[Bool.or_eq_true,decide_eq_true_eq];subst e1 e2
    by_cases e5:x.id=⟨c.key,c.zvz⟩
    ·exact Or.inr fun e6=>e ⟨e5,e6⟩
    ·exact Or.inl e5
  ·rintro⟨x,hx,e1,e2,e3,e4⟩
   rcases List.mem_append.1 hx with hx|hx
   ·exact Or.inl ((h.refu i a).2 ⟨x,(List.mem_filter.1 hx).1,e1,e2,e3,e4⟩)
   ·have:=List.mem_singleton.1 hx
    subst this
    exact Or.inr ⟨e1.symm,e2.symm⟩
 ·intro x hx
  rcases List.mem_append.1 hx with hx|hx
  ·exact h.hb x (List.mem_filter.1 hx).1
  ·have:=List.mem_singleton.1 hx
   subst this
   exact ha
 ·show((((R.holds.filter fun x:ue=>decide (x.id≠(⟨c.key,c.zvz⟩:ID)) || decide (x.node≠c.node)) ++ [_]).map fun h:ue=>(h.id,h.node))).Nodup
  rw[List.map_append];refine List.nodup_append.2 ⟨h.hn.sublist ((List.filter_sublist).map _),by simp,fun x hx y hy e=>?_⟩
  obtain⟨q,hq,rfl⟩:=List.mem_map.1 hx;simp only[List.map_cons,List.map_nil,List.mem_singleton] at hy;subst hy;have hf:=(List.mem_filter.1 hq).2
  injection e with e1 e2
  simp[e1,e2] at hf
theorem zjo (hk:∀x∈R.holds,uz R x=true) (x:ue) (hx:uz R x=true):∀y∈(yg R x).holds,uz (yg R x) y=true:=by
 intro y hy
 rcases List.mem_append.1 hy with hy|hy
 ·exact hk y (List.mem_filter.1 hy).1
 ·have:=List.mem_singleton.1 hy
  subst this
  exact hx
theorem zjq (m:List (ID × ye)) (hm:Xh n m) (i:ID) (b:Bool) (hn:(R.holds.map fun h=>(h.id,h.node)).Nodup) (he:∀a,a∈memH m i↔∃h∈R.holds,h.id=i∧h.node=a∧h.ref=b):us R i b=(memH m i).length:=by
 have h1:((R.holds.filter fun h=>decide (h.id=i) && h.ref == b).map (·.node)).Nodup:=by
  have h2:=hn.sublist ((List.filter_sublist (p:=fun h:ue=>decide (h.id=i) && h.ref == b)).map fun h=>(h.id,h.node))
  have h3:((R.holds.filter fun h=>decide (h.id=i) && h.ref == b).map fun h=>(h.id,h.node))=((R.holds.filter fun h=>decide (h.id=i) && h.ref == b).map (·.node)).map fun a=>(i,a):=by
   rw[List.map_map];refine List.map_congr_left fun x hx=>?_
   have:=(List.mem_filter.1 hx).2;simp only[Bool.and_eq_true,decide_eq_true_eq] at this;simp[this.1]
  rw[h3] at h2
  exact List.Pairwise.of_map (fun a=>(i,a)) (fun a b hab e=>hab (by rw[e])) h2
 have h2:(memH m i).Nodup:=by
  unfold memH
  cases e:zt m i with
  | none=>simp
  | some s=>exact(hm.mem _ (yd e)).1
 have h3:((R.holds.filter fun h=>decide (h.id=i) && h.ref == b).map (·.node)).Perm (memH m i):=by
  rw[List.perm_ext_iff_of_nodup h1 h2];intro a;rw[he,List.mem_map]
  constructor
  ·rintro⟨x,hx,rfl⟩
   obtain⟨hx,hf⟩:=List.mem_filter.1 hx;simp only[Bool.and_eq_true,decide_eq_true_eq,beq_iff_eq] at hf
   exact⟨x,hx,hf.1,rfl,hf.2⟩
  ·rintro⟨x,hx,e1,e2,e3⟩
   exact⟨x,List.mem_filter.2 ⟨hx,by simp[e1,e3]⟩,e2⟩
 unfold us;rw[←h3.length_eq,List.length_map]
theorem zhn (hk:∀x∈R.holds,uz R x=true) {x:ue} (hx:x∈R.holds):ui R x.node=x.zvx:=by
 have:=hk x hx;simp only[uz,Bool.and_eq_true,decide_eq_true_eq] at this
 exact this.2.1
theorem Zq.counts (hI:Inv n k T) (h:Zq T R) (hk:∀x∈R.holds,uz R x=true) (i:ID):us R i false=(memH T.holds i).length∧us R i true=(memH T.zv2 i).length:=by
 refine⟨zjq T.holds hI.hm i false h.hn fun a=>?_,zjq T.zv2 hI.rm i true h.hn fun a=>?_⟩
 ·rw[h.hold]
  exact⟨fun ⟨x,hx,e1,e2,e3,_⟩=>⟨x,hx,e1,e2,e3⟩,fun ⟨x,hx,e1,e2,e3⟩=>⟨x,hx,e1,e2,e3,zhn hk hx⟩⟩
 ·rw[h.refu]
  exact⟨fun ⟨x,hx,e1,e2,e3,_⟩=>⟨x,hx,e1,e2,e3⟩,fun ⟨x,hx,e1,e2,e3⟩=>⟨x,hx,e1,e2,e3,zhn hk hx⟩⟩
theorem zu7 (hI:Inv n k T) (h:Sim T R) (c:Cmd) (ha:0≤c.node∧c.node<n) (hk:c.kind=2):Sim (jt (Xu T c)) (rdo R c):=by
 have hN:R.N=n:=by rw[h.s0.N,hI.ln]
 have e0:=h.s0.life ha.1 (by rw[hN];exact ha.2)
 have hr:rdo R c=ve (if ui R c.node<c.zvx∧c.zvx≤R.offers then { R with zv0:=R.zv0.set c.node.toNat c.zvx } else R):=by
  unfold rdo;rw[if_neg (by omega),if_pos hk]
 rw[hr];have eo:=h.s0.offers;unfold Xu
 by_cases hb:Xb T c=true
 ·rw[if_pos hb]
  have hB:=hb;unfold Xb at hB;simp only[Bool.not_eq_true',Bool.or_eq_false_iff,decide_eq_false_iff_not] at hB;rw[if_pos (show ui R c.node<c.zvx∧c.zvx≤R.offers from by omega)]
  have hI2:=zl9 hI c ha.1;unfold Xu at hI2;rw[if_pos hb] at hI2;refine Zd hI2 ?_;have hlen:c.node.toNat<R.zv0.length:=by rw[h.s0.zv0,hI.ln];omega
  have e1:∀x:ue,(0≤x.node∧x.node<R.N)→ui { R with zv0:=R.zv0.set c.node.toNat c.zvx } x.node=if x.node=c.node then c.zvx else ui R x.node:=by
   intro x hx;unfold ui;simp only[List.getD_eq_getElem?_getD,List.getElem?_set]
   by_cases e:x.node=c.node
   ·rw[if_pos (by rw[e]),if_pos hlen,if_pos e];rfl
   ·rw[if_neg (by omega),if_neg e]
  refine⟨by show R.N=(T.zv0.set _ _).length;rw[List.length_set];exact h.s0.N,h.s0.W,h.s0.offers,h.s0.next,by show R.zv0.set _ _=T.zv0.set _ _;rw[h.s0.zv0],h.s0.calls,h.s0.vals,h.s0.zv1,h.s0.pn,h.s0.vn,h.s0.tvn,?_,?_,h.s0.hb,h.s0.hn⟩
  ·intro i a
   show a∈memH (xi T.holds c.node) i↔_
   rw[zfg,h.s0.hold]
   constructor
   ·rintro⟨⟨x,hx,e2,e3,e4,e5⟩,hne⟩
    refine⟨x,hx,e2,e3,e4,?_⟩;rw[e1 x (h.s0.hb x hx),if_neg (by rw[e3];exact hne)];exact e5
   ·rintro⟨x,hx,e2,e3,e4,e5⟩
    have e6:=h.life hx;rw[e1 x (h.s0.hb x hx)] at e5;have hne:x.node≠c.node:=by
     intro e7;rw[if_pos e7] at e5;rw[e7,e0] at e6;omega
    exact⟨⟨x,hx,e2,e3,e4,e6⟩,by rw[←e3];exact hne⟩
  ·intro i a
   show a∈memH (xi T.zv2 c.node) i↔_
   rw[zfg,h.s0.refu]
   constructor
   ·rintro⟨⟨x,hx,e2,e3,e4,e5⟩,hne⟩
    refine⟨x,hx,e2,e3,e4,?_⟩;rw[e1 x (h.s0.hb x hx),if_neg (by rw[e3];exact hne)];exact e5
   ·rintro⟨x,hx,e2,e3,e4,e5⟩
    have e6:=h.life hx;rw[e1 x (h.s0.hb x hx)] at e5;have hne:x.node≠c.node:=by
     intro e7;rw[if_pos e7] at e5;rw[e7,e0] at e6;omega
    exact⟨⟨x,hx,e2,e3,e4,e6⟩,by rw[←e3];exact hne⟩
 ·rw[if_neg hb]
  have hB:¬(ui R c.node<c.zvx∧c.zvx≤R.offers):=by
   intro hc
   apply hb
   unfold Xb;simp only[Bool.not_eq_true',Bool.or_eq_false_iff,decide_eq_false_iff_not];omega
  rw[if_neg hB]
  exact Zd hI h.s0
theorem sim_ack (hI:Inv n k T) (h:Sim T R) (c:Cmd) (ha:0≤c.node∧c.node<n):Sim (jt (Qs T c 0)) (zf1 R c):=by
 have hN:R.N=n:=by rw[h.s0.N,hI.ln]
 have haN:0≤c.node∧c.node<R.N:=⟨ha.1,by rw[hN];exact ha.2⟩
 have e0:=h.s0.life haN.1 haN.2;have hB:(js R c && rwanted R ⟨c.key,c.zvz⟩)=Qk T c:=by
  unfold Qk js Vi;rw[h.s0.wanted,e0]
  congr 1
 unfold zf1 Qs;rw[hB]
 by_cases hb:Qk T c=true
 ·rw[if_pos hb,if_pos hb]
  rw[←hB] at hb;simp only[js,Bool.and_eq_true,decide_eq_true_eq] at hb;obtain⟨⟨hb1,hb2⟩,hb3⟩:=hb;have h1:=zu6 h.s0 haN hb2;have hI1:=zg0 hI ⟨c.key,c.zvz⟩ c.node ha;have hk1:=zjo h.kept ⟨⟨c.key,c.zvz⟩,c.node,c.zvx,false⟩ (by simp[uz,hb2,hb3])
  have hW1:(yg R ⟨⟨c.key,c.zvz⟩,c.node,c.zvx,false⟩).W=R.W:=rfl;rw[←hW1];generalize uj T ⟨c.key,c.zvz⟩ c.node 0=T1 at *;generalize yg R ⟨⟨c.key,c.zvz⟩,c.node,c.zvx,false⟩=R1 at *;unfold jn;rw[h1.zv1]
  cases hp:zt T1.pending ⟨c.key,c.zvz⟩ with
  | none=>exact zbn hI1 h1 hk1
  | some p=>
   simp only;rw[(h1.counts hI1 hk1 ⟨c.key,c.zvz⟩).1,h1.W]
   by_cases hw:((memH T1.holds ⟨c.key,c.zvz⟩).length:Int)<T1.w
   ·rw[if_pos hw,if_pos hw];exact zbn hI1 h1 hk1
   ·rw[if_neg hw,if_neg hw]
    have hI2:=zdd hI1 hp 0;have e1:qo (uf R1 ⟨c.key,c.zvz⟩) c.key=lookV T1 c.key:=h1.lookV c.key
    by_cases hv:(lookV T1 c.key).zvz<c.zvz
    ·rw[if_pos hv]
     have e2:qx (Xt (uf R1 ⟨c.key,c.zvz⟩) c) ⟨c.key,c.zvz⟩ p 0 = { qx (uf R1 ⟨c.key,c.zvz⟩) ⟨c.key,c.zvz⟩ p 0 with vals:=ym (qx (uf R1 ⟨c.key,c.zvz⟩) ⟨c.key,c.zvz⟩ p 0).vals c.key ⟨c.zvz,false⟩ }:=by
      unfold Xt;rw[e1,if_pos hv];unfold qx;have e3:je { uf R1 ⟨c.key,c.zvz⟩ with vals:=ym (uf R1 ⟨c.key,c.zvz⟩).vals c.key ⟨c.zvz,false⟩ } p.zvw=je (uf R1 ⟨c.key,c.zvz⟩) p.zvw:=rfl
      rw[e3]
      split <;> rfl
     rw[e2];have h3:=sim_put (zhy hI1 h1 (i:=⟨c.key,c.zvz⟩) (p:=p) 0) c.key ⟨c.zvz,false⟩;refine Zd (zkj hI2 c.key ⟨c.zvz,false⟩ ?_ ?_) h3
     ·have:=hI1.pv _ (yd hp)
      exact⟨this.2,by simp only at this ⊢;omega⟩
     ·intro q hq e e2
      obtain⟨h3,h4⟩:=Zg q hq
      apply h4
      obtain⟨⟨qk,qv⟩,qp⟩:=q;simp only at e e2 ⊢;rw[e,e2]
    ·rw[if_neg hv]
     have e2:Xt (uf R1 ⟨c.key,c.zvz⟩) c=uf R1 ⟨c.key,c.zvz⟩:=by
      unfold Xt;rw[e1,if_neg hv]
     rw[e2]
     exact Zd hI2 (zhy hI1 h1 0)
 ·rw[if_neg hb,if_neg hb]
  exact zbn hI h.s0 h.kept
theorem zpk (hI:Inv n k T) (h:Sim T R) (c:Cmd) (ha:0≤c.node∧c.node<n):Sim (jt (Zj T c 0)) (Vo R c):=by
 have hN:R.N=n:=by rw[h.s0.N,hI.ln]
 have haN:0≤c.node∧c.node<R.N:=⟨ha.1,by rw[hN];exact ha.2⟩
 have e0:=h.s0.life haN.1 haN.2;have hB:js R c=Vi T c:=by
  unfold js Vi;rw[e0]
  congr 1
 unfold Vo Zj zer;rw[hB,h.s0.zv1]
 cases hp:zt T.pending ⟨c.key,c.zvz⟩ with
 | none=>simp only[Option.isSome_none,Bool.false_and];exact zbn hI h.s0 h.kept
 | some p=>
  simp only[Option.isSome_some,Bool.true_and]
  by_cases hb:Vi T c=true
  ·rw[if_pos hb,if_pos hb]
   rw[←hB] at hb;simp only[js,Bool.and_eq_true,decide_eq_true_eq] at hb;obtain⟨hb1,hb2⟩:=hb;have h1:=znr h.s0 haN hb2;have hI1:=zbb hI ⟨c.key,c.zvz⟩ c.node ha;have hk1:=zjo h.kept ⟨⟨c.key,c.zvz⟩,c.node,c.zvx,true⟩ (by simp[uz,hb2,rwanted,Qe,h.s0.zv1,hp])
   have hp1:zt (xg T ⟨c.key,c.zvz⟩ c.node 0).pending ⟨c.key,c.zvz⟩=some p:=hp;have hN1:(yg R ⟨⟨c.key,c.zvz⟩,c.node,c.zvx,true⟩).N=R.N:=rfl;rw[←hN1];have hW1:(yg R ⟨⟨c.key,c.zvz⟩,c.node,c.zvx,true⟩).W=R.W:=rfl;rw[←hW1];generalize xg T ⟨c.key,c.zvz⟩ c.node 0=T1 at *;generalize yg R ⟨⟨c.key,c.zvz⟩,c.node,c.zvx,true⟩=R1 at *;unfold Yh;rw[hp1];simp only;rw[(h1.counts hI1 hk1 ⟨c.key,c.zvz⟩).2,h1.W,h1.N]
   by_cases hw:(T1.zv0.length:Int)-((memH T1.zv2 ⟨c.key,c.zvz⟩).length:Int)<T1.w
   ·rw[if_pos hw,if_pos hw]
    exact Zd (zdd hI1 hp1 181) (zhy hI1 h1 181)
   ·rw[if_neg hw,if_neg hw]
    exact Zd hI1 h1
  ·rw[if_neg hb,if_neg hb]
   exact zbn hI h.s0 h.kept
theorem zsh (hI:Inv n k T) (h:Sim T R) (c:Cmd) (hk:c.kind=3):Sim (jt (Va T c)) (rdo R c):=by
 have hr:rdo R c=ve (if vq R c=true then { xp R c with zv1:=(xp R c).zv1 ++ [(⟨c.key,R.next⟩,⟨c.zvw,c.zvy⟩)],calls:=ym R.calls c.zvw ⟨c.zvy,R.next,false,0⟩,next:=R.next+1 } else R):=by
  unfold rdo;rw[if_neg (by omega),if_neg (by omega),if_pos hk]
 rw[hr,h.s0.begins];refine Zd (ziv hI c) ?_;unfold Va
 split
 ·have hne:∀p∈(xp R c).zv1,p.1≠(⟨c.key,R.next⟩:ID):=fun p hp e=>by
   have hp2:p∈R.zv1:=(List.eraseP_sublist (l:=R.zv1)).subset hp;have:=(hI.pv p ((h.s0.pend_mem hI p).1 hp2)).2;rw[e,h.s0.next] at this;simp at this
  rw[←Jn hne]
  exact h.s0.frame rfl rfl rfl rfl rfl rfl rfl rfl h.s0.offers (by show R.next+1=T.next+1;rw[h.s0.next]) (fun m=>by
   show zt (ym R.calls c.zvw _) m=zt (ym T.calls c.zvw _) m
   rw[uk,uk,h.s0.calls,h.s0.next]) h.s0.vals (fun i=>by
   show zt (ym (xp R c).zv1 _ _) i=zt (ym (Zz T c.zvw) _ _) i
   rw[uk,uk,zcx hI h.s0,h.s0.next]) (jd (zao h.s0 c) _ _) h.s0.vn h.s0.tvn
 ·exact h.s0
theorem zns (hI:Inv n k T) (h:Sim T R) (c:Cmd) (hk:c.kind=6):Sim (jt (jz T c)) (rdo R c):=by
 have hr:rdo R c=ve (if vq R c=true then { xp R c with vals:=ym R.vals c.key ⟨R.next,true⟩,calls:=ym R.calls c.zvw ⟨c.zvy,0,true,0⟩,next:=R.next+1 } else R):=by
  unfold rdo;rw[if_neg (by omega),if_neg (by omega),if_neg (by omega),if_neg (by omega),if_neg (by omega),if_pos hk]
 rw[hr,h.s0.begins];refine Zd (zfa hI c) ?_;unfold jz
 split
 ·exact h.s0.frame rfl rfl rfl rfl rfl rfl rfl rfl h.s0.offers (by show R.next+1=T.next+1;rw[h.s0.next]) (fun m=>by
   show zt (ym R.calls c.zvw _) m=zt (ym T.calls c.zvw _) m
   rw[uk,uk,h.s0.calls]) (fun s=>by
   show zt (ym R.vals c.key _) s=zt (ym T.values c.key _) s
   rw[uk,uk,h.s0.vals,h.s0.next]) (zcx hI h.s0 c) (zao h.s0 c) (jd h.s0.vn _ _) (jd h.s0.tvn _ _)
 ·exact h.s0
theorem zk7 (hI:Inv n k T) (h:Sim T R) (c:Cmd) (hk:c.kind=7):Sim (jt (qy T c)) (rdo R c):=by
 have hr:rdo R c=ve (if vq R c=true then { xp R c with calls:=ym R.calls c.zvw ⟨c.zvy,0,true,c.code⟩ } else R):=by
  unfold rdo;rw[if_neg (by omega),if_neg (by omega),if_neg (by omega),if_neg (by omega),if_neg (by omega),if_neg (by omega)]
 rw[hr,h.s0.begins];refine Zd (zde hI c) ?_;unfold qy
 split
 ·exact h.s0.frame rfl rfl rfl rfl rfl rfl rfl rfl h.s0.offers h.s0.next (fun m=>by
   show zt (ym R.calls c.zvw _) m=zt (ym T.calls c.zvw _) m
   rw[uk,uk,h.s0.calls]) h.s0.vals (zcx hI h.s0 c) (zao h.s0 c) h.s0.vn h.s0.tvn
 ·exact h.s0
theorem zu8 (hI:Inv n k T) (h:Sim T R) (c:Cmd) (ha:0≤c.node∧c.node<n) (h1:1≤c.kind) (h7:c.kind≤7):Sim (uc T c) (rdo R c):=by
 have hc:c.kind=1∨c.kind=2∨c.kind=3∨c.kind=4∨c.kind=5∨c.kind=6∨c.kind=7:=by omega
 unfold uc doT opT
 rcases hc with e|e|e|e|e|e|e
 ·rw[if_pos e]
  have hr:rdo R c=ve { R with offers:=R.offers+1 }:=by unfold rdo;rw[if_pos e]
  rw[hr];have h1:=zki hI c ha;unfold opT at h1;rw[if_pos e] at h1
  exact Zd h1 (h.s0.frame rfl rfl rfl rfl rfl rfl rfl rfl (by show R.offers+1=T.offers+1;rw[h.s0.offers]) h.s0.next h.s0.calls h.s0.vals h.s0.zv1 h.s0.pn h.s0.vn h.s0.tvn)
 ·rw[if_neg (by omega),if_pos e]
  exact zu7 hI h c ha e
 ·rw[if_neg (by omega),if_neg (by omega),if_pos e]
  exact zsh hI h c e
 ·rw[if_neg (by omega),if_neg (by omega),if_neg (by omega),if_pos e]
  have hr:rdo R c=zf1 R c:=by unfold rdo;rw[if_neg (by omega),if_neg (by omega),if_neg (by omega),if_pos e]
  rw[hr]
  exact sim_ack hI h c ha
 ·rw[if_neg (by omega),if_neg (by omega),if_neg (by omega),if_neg (by omega),if_pos e]
  have hr:rdo R c=Vo R c:=by unfold rdo;rw[if_neg (by omega),if_neg (by omega),if_neg (by omega),if_neg (by omega),if_pos e]
  rw[hr]
  exact zpk hI h c ha
 ·rw[if_neg (by omega),if_neg (by omega),if_neg (by omega),if_neg (by omega),if_neg (by omega),if_pos e]
  exact zns hI h c e
 ·rw[if_neg (by omega),if_neg (by omega),if_neg (by omega),if_neg (by omega),if_neg (by omega),if_neg (by omega)]
  exact zk7 hI h c e
theorem zqq (N:Nat) (w:Int):Sim (qn N w 0).norm (zce N (yu N w)):=by
 refine⟨⟨?_,?_,?_,?_,?_,?_,?_,?_,?_,?_,?_,?_,?_,?_,?_⟩,?_⟩ <;> simp[qn,zce,Tab.norm,vp,zt,memH]
end
open Go.RowKit Go.Sf Go.Shelf Go.Maps
def Qz (R:yp):List ID:=Qr (R.zv1.map (·.1))
def uo (R:yp):List ID:=Qr ((R.vals.filter fun v=>!v.2.dead).map fun v=>(⟨v.1,v.2.zvz⟩:ID))
def Zi (R:yp) (n:Int) (i:ID):Bool:=!Yy R i n
def Ua (R:yp) (n:Int):List ID:=if n<0∨R.N≤n∨ui R n=0 then [] else (uo R).filter (Zi R n)
def zbe (T:Tab) (n:Int):List ID:=if yq T n=0 then [] else (Ur T).filter (zo5 T n)
section
variable {n k : Nat} {T : Tab} {R : yp}
theorem zmk {K V:Type} {m:List (K × V)} {x:K}:x∈m.map (·.1)↔∃v,(x,v)∈m:=by simp
theorem zr4 (hI:Inv n k T) (h:Sim T R) {l:List ID} (hp:l.Perm (T.pending.map (·.1))) (ho:zbr l):l=Qz R:=by
 refine Qg (zjs ho (hp.nodup_iff.2 hI.pnd)) (Yi h.s0.pn) fun x=>?_
 unfold Qz;rw[Vh h.s0.pn,hp.mem_iff,zmk,zmk]
 constructor
 ·rintro⟨v,hv⟩;exact⟨v,(Zq.pend_mem hI h.s0 _).2 hv⟩
 ·rintro⟨v,hv⟩;exact⟨v,(Zq.pend_mem hI h.s0 _).1 hv⟩
theorem zli (s:ByteArray):(⟨s.data.toList.toArray⟩:ByteArray)=s:=by cases s;simp
theorem zrm (h:Sim T R) (x:ID):x∈uo R↔zt R.vals x.key=some ⟨x.zvz,false⟩:=by
 have hn:=h.s0.vn;have hnd:((R.vals.filter fun v=>!v.2.dead).map fun v=>(⟨v.1,v.2.zvz⟩:ID)).Nodup:=by
  have h1:=Yg hn fun v=>!v.2.dead
  rw[List.nodup_iff_pairwise_ne,List.pairwise_map] at h1 ⊢
  exact h1.imp fun hab e=>hab (congrArg ID.key e)
 unfold uo;rw[Vh hnd]
 constructor
 ·intro hx
  obtain⟨v,hv,rfl⟩:=List.mem_map.1 hx;obtain⟨hv1,hv2⟩:=List.mem_filter.1 hv;obtain⟨s,zvz,dead⟩:=v;have hd:dead=false:=by simpa using hv2
  subst hd
  exact vo hn hv1
 ·intro hx
  have:=yd hx
  exact List.mem_map.2 ⟨_,List.mem_filter.2 ⟨this,rfl⟩,rfl⟩
theorem zkx (h:Sim T R):Yc (uo R):=by
 refine Yi ?_;have h1:=Yg h.s0.vn fun v=>!v.2.dead
 rw[List.nodup_iff_pairwise_ne,List.pairwise_map] at h1 ⊢
 exact h1.imp fun hab e=>hab (congrArg ID.key e)
theorem zk8 (hn:(T.values.map (·.1)).Nodup):(qq T).Pairwise fun a b=>a<b:=by
 have h1:(T.values.map fun p=>p.1.data.toList).Nodup:=by
  rw[List.nodup_iff_pairwise_ne,List.pairwise_map] at hn ⊢
  exact hn.imp fun hab e=>hab (zp7 _ _ e)
 have h2:(qq T).Nodup:=(List.mergeSort_perm _ _).nodup_iff.2 h1;have h3:(qq T).Pairwise fun a b=>leB a b=true:=List.pairwise_mergeSort (fun a b c h g=>by
  simp only[leB,decide_eq_true_eq] at *
  exact List.le_trans h g) (fun a b=>by
  simp only[leB,Bool.or_eq_true,decide_eq_true_eq]
  exact List.le_total a b) _
 rw[List.nodup_iff_pairwise_ne] at h2;refine(h3.and h2).imp fun {x y} hxy=>?_
 have a:=hxy.1;simp only[leB,decide_eq_true_eq] at a
 rcases Std.lt_trichotomy x y with e|e|e
 ·exact e
 ·exact absurd e hxy.2
 ·exact absurd e (by simpa using a)
theorem zln (hn:(T.values.map (·.1)).Nodup):Yc (Ur T):=by
 unfold Yc Ur;refine List.Pairwise.filterMap (Xl T) (fun a a' haa b hb b' hb'=>?_) (zk8 hn)
 unfold Xl at hb hb'
 split at hb
 ·simp at hb
 ·split at hb'
  ·simp at hb'
  ·simp only[Option.mem_def,Option.some.injEq] at hb hb'
   subst hb hb'
   exact(jx _ _).2 (Or.inl (by simpa using haa))
theorem zt2 (hn:(T.values.map (·.1)).Nodup) (x:ID):x∈Ur T↔zt T.values x.key=some ⟨x.zvz,false⟩:=by
 have hsk:∀s,s∈qq T↔∃p∈T.values,p.1.data.toList=s:=fun s=>by
  unfold qq;rw[(List.mergeSort_perm _ _).mem_iff];simp
 unfold Ur;rw[List.mem_filterMap]
 constructor
 ·rintro⟨s,hs,hc⟩
  obtain⟨p,hp,rfl⟩:=(hsk s).1 hs;unfold Xl at hc;rw[zli] at hc;have hg:zt T.values p.1=some p.2:=vo hn hp;unfold lookV at hc;rw[hg] at hc;simp only[Option.getD_some] at hc
  split at hc
  ·simp at hc
  ·rename_i hd
   simp only[Option.some.injEq] at hc;subst hc;obtain⟨s,zvz,dead⟩:=p;have:dead=false:=by simpa using hd
   subst this
   exact hg
 ·intro hx
  refine⟨x.key.data.toList,(hsk _).2 ⟨_,yd hx,rfl⟩,?_⟩;unfold Xl lookV;rw[zli,hx];simp
theorem zlo (h:Sim T R):Ur T=uo R:=
 Qg (zln h.s0.tvn) (zkx h) fun x=>by rw[zt2 h.s0.tvn,zrm h,h.s0.vals]
theorem zis (h:Sim T R) (i:ID) (a:Int):Yy R i a=zec T a i:=by
 unfold Yy zec
 cases e:R.holds.any (fun h:ue=>decide (h.id=i) && (decide (h.node=a) && !h.ref)) with
 | true=>
  obtain⟨x,hx,hh⟩:=List.any_eq_true.1 e;simp only[Bool.and_eq_true,decide_eq_true_eq,Bool.not_eq_true'] at hh
  exact(decide_eq_true ((h.s0.hold i a).2 ⟨x,hx,hh.1,hh.2.1,hh.2.2,h.life hx⟩)).symm
 | false=>
  refine(decide_eq_false fun hm=>?_).symm
  obtain⟨x,hx,h1,h2,h3,_⟩:=(h.s0.hold i a).1 hm;rw[List.any_eq_false] at e
  exact e x hx (by simp[h1,h2,h3])
theorem zro (h:Sim T R) (a:Int):zbe T a=Ua R a:=by
 unfold zbe Ua;have hN:=h.s0.N
 by_cases hr:a<0∨R.N≤a
 ·have h0:yq T a=0:=by unfold yq;rw[if_pos (by omega)]
  rw[if_pos h0,if_pos (by omega)]
 ·have hl:=h.s0.life (a:=a) (by omega) (by omega)
  by_cases h0:yq T a=0
  ·rw[if_pos h0,if_pos (Or.inr (Or.inr (hl.trans h0)))]
  ·rw[if_neg h0,if_neg (by rw[hl];omega),zlo h]
   refine List.filter_congr fun x _=>?_
   unfold zo5 Zi;rw[zis h]
theorem zl7:∀{l1 l2:List Int},l1.Pairwise (·< ·)→l2.Pairwise (·< ·)→(∀x,x∈l1↔x∈l2)→l1=l2
 | [],[],_,_,_=>rfl
 | [],b :: l2,_,_,h=>absurd ((h b).2 (by simp)) (by simp)
 | a :: l1,[],_,_,h=>absurd ((h a).1 (by simp)) (by simp)
 | a :: l1,b :: l2,h1,h2,h=>by
  obtain⟨p1,q1⟩:=List.pairwise_cons.1 h1;obtain⟨p2,q2⟩:=List.pairwise_cons.1 h2;have hab:a=b:=by
   rcases List.mem_cons.1 ((h a).1 (by simp)) with e|e
   ·exact e
   ·rcases List.mem_cons.1 ((h b).2 (by simp)) with e'|e'
    ·exact e'.symm
    ·have h3:=p2 a e
     have h4:=p1 b e';omega
  subst hab;have:l1=l2:=zl7 q1 q2 fun x=>by
   constructor
   ·intro hx
    rcases List.mem_cons.1 ((h x).1 (List.mem_cons_of_mem _ hx)) with e|e
    ·have:=p1 _ hx;omega
    ·exact e
   ·intro hx
    rcases List.mem_cons.1 ((h x).2 (List.mem_cons_of_mem _ hx)) with e|e
    ·have:=p2 _ hx;omega
    ·exact e
  rw[this]
theorem zkg (m:Nat):(Xa m).Pairwise (·< ·):=by
 unfold Xa;rw[List.pairwise_map]
 exact List.pairwise_lt_range.imp fun h=>by simpa using h
theorem zrl (m:Nat) (x:Int):x∈Xa m↔0≤x∧x<m:=by
 unfold Xa;rw[List.mem_map]
 constructor
 ·rintro⟨j,hj,rfl⟩
  have:=List.mem_range.1 hj;simp;omega
 ·rintro⟨h0,h1⟩
  exact⟨x.toNat,List.mem_range.2 (by omega),by simp;omega⟩
theorem zra (hI:Inv n k T) (h:Sim T R) (i:ID):Qm T i=Qx R i:=by
 have hnd:(memH T.holds i).Nodup:=by
  unfold memH
  cases e:zt T.holds i with
  | none=>simp
  | some s=>exact(hI.hm.mem _ (yd e)).1
 refine zl7 ?_ ((zkg _).filter _) fun x=>?_
 ·unfold Qm
  have h2:=(List.mergeSort_perm (memH T.holds i) fun x y=>decide (x≤y)).nodup_iff.2 hnd
  have h3:((memH T.holds i).mergeSort fun x y=>decide (x≤y)).Pairwise fun a b=>decide (a≤b)=true:=List.pairwise_mergeSort (fun a b c h g=>by
   simp only[decide_eq_true_eq] at *;omega) (fun a b=>by simp only[Bool.or_eq_true,decide_eq_true_eq];omega) _
  rw[List.nodup_iff_pairwise_ne] at h2
  exact(h3.and h2).imp fun ⟨a,b⟩=>by simp only[decide_eq_true_eq] at a;omega
 ·unfold Qm Qx
  rw[(List.mergeSort_perm _ _).mem_iff,List.mem_filter,zrl,zis h];unfold zec;have hb:=(hI.hm.len i).2 x;have hN:=h.s0.N;have hl:=hI.ln
  constructor
  ·intro hx
   exact⟨by have:=hb hx;omega,by simpa using hx⟩
  ·rintro⟨_,hx⟩;simpa using hx
end
end Go.Proofs.YtjfelfjobeeenaaGreat
