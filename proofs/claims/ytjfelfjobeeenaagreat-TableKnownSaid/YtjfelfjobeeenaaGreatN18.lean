/- What any command leaves of a table, and what rises: the plain law. Conditions: none, or as the theorems say. -/
import Derived.Test.YtjfelfjobeeenaaGreatN16
import Derived.Shelf.SlSortCmp.WholeK
import Derived.Deep.RegionHeld3
namespace Go.Proofs.YtjfelfjobeeenaaGreat
set_option maxHeartbeats 200000000
set_option linter.unusedVariables false
set_option linter.unusedSimpArgs false
open Go.RowKit Go.Sf Go.Shelf
section
variable {K V : Type} [DecidableEq K]
theorem uk (m:List (K × V)) (k k':K) (v:V):zt (ym m k v) k'=if k'=k then some v else zt m k':=by
 split
 ·rename_i h;subst h;exact Xo m k' v
 ·rename_i h;exact zal m v h
theorem Zf {m:List (K × V)} (hn:(m.map (·.1)).Nodup) (f:K × V→Bool) (k:K):zt (m.filter f) k=(zt m k).bind fun v=>if f (k,v)=true then some v else none:=by
 induction m with
 | nil=>rfl
 | cons p r ih=>
  simp only[List.map_cons,List.nodup_cons] at hn;obtain⟨a,v⟩:=p
  by_cases e:a=k
  ·subst e
   have hr:zt r a=none:=zb3 fun q hq e=>hn.1 (List.mem_map.2 ⟨q,hq,e⟩)
   have ih:=ih hn.2;rw[hr] at ih;simp only[List.filter_cons,zt,if_true,Option.bind_some]
   split
   ·rename_i h;simp[zt]
   ·rename_i h;rw[ih];rfl
  ·simp only[List.filter_cons,zt,if_neg e]
   split
   ·simp only[zt,if_neg e];exact ih hn.2
   ·exact ih hn.2
omit [DecidableEq K] in
theorem Yg {m:List (K × V)} (hn:(m.map (·.1)).Nodup) (f:K × V→Bool):((m.filter f).map (·.1)).Nodup:=
 hn.sublist ((List.filter_sublist).map _)
theorem zch {m:List (K × V)} {k:K}:(zt m k).isSome=true↔∃v,(k,v)∈m:=by
 constructor
 ·intro h
  obtain⟨v,hv⟩:=Option.isSome_iff_exists.1 h
  exact⟨v,yd hv⟩
 ·rintro⟨v,hv⟩
  cases e:zt m k with
  | some _=>rfl
  | none=>exact absurd rfl (jv.1 e _ hv)
end
structure Xh (n:Nat) (m:List (ID × ye)):Prop where
 nodup:(m.map (·.1)).Nodup
 mem:∀p∈m,p.2.mem.Nodup∧∀x∈p.2.mem,0≤x∧x<n
section
variable {n : Nat} {m : List (ID × ye)}
theorem Xh.filt (h:Xh n m) (f:ID × ye→Bool):Xh n (m.filter f):=
 ⟨Yg h.nodup f,fun p hp=>h.mem p (List.mem_filter.1 hp).1⟩
theorem Xh.dels (h:Xh n m) (a:Int):Xh n (xi m a):=by
 refine⟨?_,?_⟩
 ·have:(xi m a).map (·.1)=m.map (·.1):=by unfold xi;rw[List.map_map];rfl
  rw[this];exact h.nodup
 ·intro p hp
  unfold xi at hp;obtain⟨q,hq,rfl⟩:=List.mem_map.1 hp;have:=h.mem q hq
  exact⟨this.1.filter _,fun x hx=>this.2 x (List.mem_filter.1 hx).1⟩
theorem Xh.mods (h:Xh n m) (i:ID) (f:List Int→List Int) (hf:∀l:List Int,(l.Nodup∧∀x∈l,0≤x∧x<n)→((f l).Nodup∧∀x∈f l,0≤x∧x<n)):Xh n (ql m i f):=by
 refine⟨by rw[zet];exact h.nodup,?_⟩
 intro p hp;unfold ql at hp;obtain⟨q,hq,rfl⟩:=List.mem_map.1 hp
 split
 ·exact hf _ (h.mem q hq)
 ·exact h.mem q hq
theorem sput_ok {n:Nat} (a:Int) (ha:0≤a∧a<n) (l:List Int) (h:l.Nodup∧∀x∈l,0≤x∧x<n):(um l a).Nodup∧∀x∈um l a,0≤x∧x<n:=by
 unfold um
 split
 ·exact h
 ·rename_i hn
  refine⟨List.nodup_append.2 ⟨h.1,by simp,fun x hx y hy e=>?_⟩,fun x hx=>?_⟩
  ·simp only[List.mem_singleton] at hy;subst hy;subst e;exact hn hx
  ·rcases List.mem_append.1 hx with hx|hx
   ·exact h.2 x hx
   ·simp only[List.mem_singleton] at hx;subst hx;exact ha
theorem zqo {n:Nat} (a:Int) (l:List Int) (h:l.Nodup∧∀x∈l,0≤x∧x<n):(Zc l a).Nodup∧∀x∈Zc l a,0≤x∧x<n:=
 ⟨h.1.filter _,fun x hx=>h.2 x (List.mem_filter.1 hx).1⟩
theorem Xh.adds (h:Xh n m) (i:ID) (a:Int) (ha:0≤a∧a<n):Xh n (Zb m i a 0):=by
 unfold Zb
 split
 ·exact h.mods i _ (sput_ok a ha)
 ·rename_i hs
  have hm:zt m i=none:=by cases e:zt m i with
   | none=>rfl
   | some _=>rw[e] at hs;exact absurd rfl hs
  have hne:=jv.1 hm;refine⟨?_,?_⟩
  ·rw[List.map_append]
   refine List.nodup_append.2 ⟨h.nodup,by simp,fun x hx y hy e=>?_⟩
   simp only[List.map_cons,List.map_nil,List.mem_singleton] at hy;obtain⟨q,hq,rfl⟩:=List.mem_map.1 hx
   exact hne q hq (e.trans hy)
  ·intro p hp
   rcases List.mem_append.1 hp with hp|hp
   ·exact h.mem p hp
   ·simp only[List.mem_singleton] at hp;subst hp
    exact⟨by simp,fun x hx=>by simp only[List.mem_singleton] at hx;subst hx;exact ha⟩
theorem Yt:∀(n:Nat) (l:List Int),l.Nodup→(∀x∈l,0≤x∧x<n)→l.length≤n:=by
 intro n
 induction n with
 | zero=>
  intro l _ h
  cases l with
  | nil=>simp
  | cons a r=>have:=h a (by simp);omega
 | succ n ih=>
  intro l hn h;have h2:=ih (l.erase (n:Int)) (hn.erase _) (fun x hx=>by
   rw[hn.mem_erase_iff] at hx;have h3:=h x hx.2;have h4:=hx.1;omega)
  rw[List.length_erase] at h2
  split at h2 <;> omega
theorem Xh.len (h:Xh n m) (i:ID):(memH m i).length≤n∧∀x∈memH m i,0≤x∧x<n:=by
 unfold memH
 cases e:zt m i with
 | none=>exact⟨by simp,by simp⟩
 | some s=>
  have:=h.mem _ (yd e)
  exact⟨Yt n _ this.1 this.2,this.2⟩
theorem zmi (h:Xh n m) (f:ID × ye→Bool) (i:ID) (hf:∀s,zt m i=some s→f (i,s)=true):memH (m.filter f) i=memH m i:=by
 unfold memH;rw[Zf h.nodup]
 cases e:zt m i with
 | none=>rfl
 | some s=>simp only[Option.bind_some];rw[if_pos (hf s e)]
theorem Ve (h:Xh n m) (f:ID × ye→Bool) (i:ID) (hf:∀s,f (i,s)=false):memH (m.filter f) i = []:=by
 unfold memH;rw[Zf h.nodup]
 cases e:zt m i with
 | none=>rfl
 | some s=>simp only[Option.bind_some];rw[if_neg (by rw[hf s];decide)];rfl
end
structure Inv (n k:Nat) (T:Tab):Prop where
 ln:T.zv0.length=n
 w:T.w=k
 lo:∀x∈T.zv0,0≤x∧x≤T.offers
 o0:0≤T.offers
 nx:1≤T.next
 pnd:(T.pending.map (·.1)).Nodup
 pv:∀p∈T.pending,1≤p.1.zvz∧p.1.zvz<T.next
 pu:∀p∈T.pending,∀q∈T.pending,p.1.zvz=q.1.zvz→p.1=q.1
 vv:∀k,(lookV T k).zvz<T.next∧0≤(lookV T k).zvz
 pl:∀p∈T.pending,(lookV T p.1.key).zvz≠p.1.zvz
 pc:∀p∈T.pending,callV T p.2.zvw=⟨p.2.zvy,p.1.zvz,false,0⟩
 hm:Xh n T.holds
 rm:Xh n T.zv2
section
variable {n k : Nat} {T U : Tab}
theorem Ji (h:Inv n k T) (hw:U.w=T.w) (hc:U.calls=T.calls) (hv:U.values=T.values) (hp:U.pending=T.pending) (hn:U.next=T.next) (hl:U.zv0.length=n) (hlo:∀x∈U.zv0,0≤x∧x≤U.offers) (ho:0≤U.offers) (hm:Xh n U.holds) (rm:Xh n U.zv2):Inv n k U:=by
 refine⟨hl,hw.trans h.w,hlo,ho,?_,?_,?_,?_,?_,?_,?_,hm,rm⟩
 ·rw[hn];exact h.nx
 ·rw[hp];exact h.pnd
 ·rw[hp,hn];exact h.pv
 ·rw[hp];exact h.pu
 ·intro k;unfold lookV;rw[hv,hn];exact h.vv k
 ·rw[hp];intro p hp';unfold lookV;rw[hv];exact h.pl p hp'
 ·rw[hp];intro p hp';unfold callV;rw[hc];exact h.pc p hp'
theorem Inv.look_ne (h:Inv n k T) {p:ID × xd} (hp:p∈T.pending):look T p.1.key≠p.1.zvz:=by
 unfold look;have h1:=(h.pv p hp).1;have h2:=h.pl p hp
 split
 ·omega
 ·exact h2
theorem Inv.look_le (h:Inv n k T) (s:ByteArray):look T s≤(lookV T s).zvz:=by
 unfold look;have:=(h.vv s).2
 split <;> omega
theorem Inv.lifeV_le (h:Inv n k T) (a:Int):0≤yq T a∧yq T a≤T.offers:=by
 unfold yq
 split
 ·exact⟨Int.le_refl _,h.o0⟩
 ·rename_i hr
  have hlt:a.toNat<T.zv0.length:=by omega
  have:T.zv0.getD a.toNat 0∈T.zv0:=by
   simp only[List.getD_eq_getElem?_getD,List.getElem?_eq_getElem hlt,Option.getD_some]
   exact List.getElem_mem hlt
  exact h.lo _ this
structure Jy (k:Nat) (c:Cmd) (T U:Tab):Prop where
 life:∀a,yq T a≤yq U a∧yq U a≤U.offers
 nx:T.next≤U.next∧U.next≤T.next+1
 of:U.offers≤T.offers+1
 zvy:(callV T c.zvw).zvy≤(callV U c.zvw).zvy
 same:(callV U c.zvw).zvy=(callV T c.zvw).zvy→(callV T c.zvw).done=true→callV U c.zvw=callV T c.zvw
 new:(callV T c.zvw).zvy<(callV U c.zvw).zvy→(callV U c.zvw).done=false→(callV U c.zvw).zvz=T.next
 look:look U c.key=0∨look T c.key≤look U c.key
 pend:∀p∈T.pending,Go.Proofs.YtjfelfjobeeenaaGreat.look U p.1.key=p.1.zvz→k≤(memH U.holds p.1).length
 lost:∀x:ID,x.zvz<T.next→yl T x=false→yl U x=false
theorem Yj {T:Tab} {x:ID}:yl T x=false↔zt T.pending x=none∧(0<x.zvz→Go.Proofs.YtjfelfjobeeenaaGreat.look T x.key≠x.zvz):=by
 unfold yl
 cases zt T.pending x <;> simp
theorem zcy (h:Inv n k T) (c:Cmd) (hc:U.calls=T.calls) (hv:U.values=T.values) (hp:∀x,zt T.pending x=none→zt U.pending x=none) (hn:U.next=T.next) (ho:U.offers≤T.offers+1) (hl:∀a,yq T a≤yq U a∧yq U a≤U.offers):Jy k c T U:=by
 have e1:∀s,Go.Proofs.YtjfelfjobeeenaaGreat.look U s=Go.Proofs.YtjfelfjobeeenaaGreat.look T s:=fun s=>by unfold Go.Proofs.YtjfelfjobeeenaaGreat.look lookV;rw[hv]
 have e2:∀m,callV U m=callV T m:=fun m=>by unfold callV;rw[hc]
 refine⟨hl,by rw[hn];omega,ho,by rw[e2];exact Int.le_refl _,fun _ _=>e2 _,?_,Or.inr (by rw[e1];exact Int.le_refl _),?_,?_⟩
 ·intro h1;rw[e2] at h1;omega
 ·intro p hp' h2;rw[e1] at h2;exact absurd h2 (h.look_ne hp')
 ·intro x hx hw
  rw[Yj] at hw ⊢
  exact⟨hp x hw.1,by rw[e1];exact hw.2⟩
theorem Zg {i:ID} {p:xd} {code:Int} (q:ID × xd) (hq:q∈(jw T i p code).pending):q∈T.pending∧q.1≠i:=by
 have:=List.mem_filter.1 hq
 exact⟨this.1,by simpa using this.2⟩
theorem zgq (h:Inv n k T) {i:ID} {p:xd} (hi:zt T.pending i=some p) (code:Int) (m:Int):callV (jw T i p code) m=if m=p.zvw then ⟨p.zvy,i.zvz,true,code⟩ else callV T m:=by
 have hc:=h.pc _ (yd hi);simp only at hc
 show(zt (Zl T i p code) m).getD _=_
 unfold Zl;rw[hc];simp only[and_self,if_true];rw[uk]
 split <;> rfl
theorem zdd (h:Inv n k T) {i:ID} {p:xd} (hi:zt T.pending i=some p) (code:Int):Inv n k (jw T i p code):=by
 have hm:=yd hi;refine⟨h.ln,h.w,h.lo,h.o0,h.nx,Yg h.pnd _,?_,?_,h.vv,?_,?_,h.hm,h.rm⟩
 ·intro q hq;exact h.pv q (Zg q hq).1
 ·intro q hq r hr;exact h.pu q (Zg q hq).1 r (Zg r hr).1
 ·intro q hq;exact h.pl q (Zg q hq).1
 ·intro q hq
  obtain⟨h1,h2⟩:=Zg q hq;rw[zgq h hi code];have h3:=h.pc q h1
  split
  ·rename_i e
   have h4:=h.pc _ hm;simp only at h4;rw[e,h4] at h3;have:i.zvz=q.1.zvz:=by injection h3
   exact absurd (h.pu q h1 _ hm this.symm) h2
  ·exact h3
theorem zeo (T:Tab) (s:ByteArray) (v:Val) (s':ByteArray):lookV { T with values:=ym T.values s v } s'=if s'=s then v else lookV T s':=by
 show(zt (ym T.values s v) s').getD _=_
 rw[uk]
 split <;> rfl
theorem zkj (h:Inv n k T) (s:ByteArray) (v:Val) (hv:v.zvz<T.next∧0≤v.zvz) (hp:∀p∈T.pending,p.1.key=s→p.1.zvz≠v.zvz):Inv n k { T with values:=ym T.values s v }:=by
 refine⟨h.ln,h.w,h.lo,h.o0,h.nx,h.pnd,h.pv,h.pu,?_,?_,h.pc,h.hm,h.rm⟩
 ·intro s'
  rw[zeo]
  split
  ·exact hv
  ·exact h.vv s'
 ·intro p hp'
  rw[zeo]
  split
  ·rename_i e;exact fun e2=>hp p hp' e e2.symm
  ·exact h.pl p hp'
theorem zi0 {i x:ID} {m:List (ID × xd)} (h:zt m x=none):zt (Ug m i) x=none:=by
 rw[jv] at h ⊢;intro p hp
 exact h p (List.mem_filter.1 hp).1
theorem Vt {c:Int} {q:ID × xd} (h:q∈Zz T c):q∈T.pending∧q.2.zvw≠c:=by
 have:=List.mem_filter.1 h
 exact⟨this.1,by simpa using this.2⟩
theorem zej {c:Int} {x:ID} (h:zt T.pending x=none):zt (Zz T c) x=none:=by
 rw[jv] at h ⊢;intro p hp
 exact h p (List.mem_filter.1 hp).1
theorem ziv (h:Inv n k T) (c:Cmd):Inv n k (Va T c):=by
 unfold Va
 split
 ·have hne:∀p∈Zz T c.zvw,p.1≠(⟨c.key,T.next⟩:ID):=fun p hp e=>by
   have:=(h.pv p (Vt hp).1).2;rw[e] at this;simp at this
  rw[Jn hne];have hmem:∀q,q∈Zz T c.zvw ++ [((⟨c.key,T.next⟩:ID),(⟨c.zvw,c.zvy⟩:xd))]→(q∈T.pending∧q.2.zvw≠c.zvw)∨q=(⟨c.key,T.next⟩,⟨c.zvw,c.zvy⟩):=fun q hq=>by
   rcases List.mem_append.1 hq with hq|hq
   ·exact Or.inl (Vt hq)
   ·exact Or.inr (by simpa using hq)
  refine⟨h.ln,h.w,h.lo,h.o0,by show 1≤T.next+1;have:=h.nx;omega,?_,?_,?_,?_,?_,?_,h.hm,h.rm⟩
  ·show((Zz T c.zvw ++ [((⟨c.key,T.next⟩:ID),(⟨c.zvw,c.zvy⟩:xd))]).map (·.1)).Nodup
   rw[List.map_append];refine List.nodup_append.2 ⟨Yg h.pnd _,by simp,fun x hx y hy e=>?_⟩
   simp only[List.map_cons,List.map_nil,List.mem_singleton] at hy;obtain⟨q,hq,rfl⟩:=List.mem_map.1 hx
   exact hne q hq (e.trans hy)
  ·intro q hq
   show 1≤q.1.zvz∧q.1.zvz<T.next+1
   rcases hmem q hq with ⟨h1,_⟩|rfl
   ·have:=h.pv q h1;omega
   ·have:=h.nx;simp;omega
  ·intro q hq r hr e
   rcases hmem q hq with ⟨h1,_⟩|rfl <;> rcases hmem r hr with ⟨h2,_⟩|rfl
   ·exact h.pu q h1 r h2 e
   ·have:=h.pv q h1;simp at e;omega
   ·have:=h.pv r h2;simp at e;omega
   ·rfl
  ·intro s
   have:=h.vv s
   exact⟨by show(lookV T s).zvz<T.next+1;omega,this.2⟩
  ·intro q hq
   show(lookV T q.1.key).zvz≠q.1.zvz
   rcases hmem q hq with ⟨h1,_⟩|rfl
   ·exact h.pl q h1
   ·have:=(h.vv c.key).1;simp;omega
  ·intro q hq
   show(zt (ym T.calls c.zvw _) q.2.zvw).getD _=_
   rw[uk]
   rcases hmem q hq with ⟨h1,h2⟩|rfl
   ·rw[if_neg h2];exact h.pc q h1
   ·simp
 ·exact h
theorem zl8 (h:Inv n k T) (c:Int) (m:List (Int × yz)) (hm:∀a,a≠c→zt m a=zt T.calls a):Inv n k { T with pending:=Zz T c,calls:=m }:=by
 refine⟨h.ln,h.w,h.lo,h.o0,h.nx,Yg h.pnd _,?_,?_,h.vv,?_,?_,h.hm,h.rm⟩
 ·intro q hq;exact h.pv q (Vt hq).1
 ·intro q hq r hr;exact h.pu q (Vt hq).1 r (Vt hr).1
 ·intro q hq;exact h.pl q (Vt hq).1
 ·intro q hq
  show(zt m q.2.zvw).getD _=_
  rw[hm _ (Vt hq).2]
  exact h.pc q (Vt hq).1
theorem ztv (h:Inv n k T) (x:Int) (hx:T.next≤x):Inv n k { T with next:=x }:=by
 refine⟨h.ln,h.w,h.lo,h.o0,by show 1≤x;have:=h.nx;omega,h.pnd,?_,h.pu,?_,h.pl,h.pc,h.hm,h.rm⟩
 ·intro p hp;have:=h.pv p hp;exact⟨this.1,by show p.1.zvz<x;omega⟩
 ·intro s;have:=h.vv s;exact⟨by show(lookV T s).zvz<x;omega,this.2⟩
theorem zfa (h:Inv n k T) (c:Cmd):Inv n k (jz T c):=by
 unfold jz
 split
 ·have h1:=zl8 h c.zvw (ym T.calls c.zvw ⟨c.zvy,0,true,0⟩) (fun a ha=>zal _ _ ha)
  have h2:=ztv h1 (T.next+1) (by show T.next≤T.next+1;omega)
  have h3:=zkj h2 c.key ⟨T.next,true⟩ ⟨by show T.next<T.next+1;omega,by have:=h.nx;show 0≤T.next;omega⟩ (fun p hp _=>by
   have:=(h1.pv p hp).2;have e:({ T with pending:=Zz T c.zvw,calls:=ym T.calls c.zvw ⟨c.zvy,0,true,0⟩ }:Tab).next=T.next:=rfl
   rw[e] at this
   show p.1.zvz≠T.next;omega)
  exact h3
 ·exact h
theorem zde (h:Inv n k T) (c:Cmd):Inv n k (qy T c):=by
 unfold qy
 split
 ·exact zl8 h c.zvw _ (fun a ha=>zal _ _ ha)
 ·exact h
theorem zl9 (h:Inv n k T) (c:Cmd) (hn:0≤c.node):Inv n k (Xu T c):=by
 unfold Xu
 split
 ·rename_i hB
  unfold Xb at hB;simp only[Bool.not_eq_true',Bool.or_eq_false_iff,decide_eq_false_iff_not] at hB;have h0:=(h.lifeV_le c.node).1;refine Ji (U:=Yp T c 2) h rfl rfl rfl rfl rfl (by show(T.zv0.set _ _).length=n;rw[List.length_set];exact h.ln) ?_ h.o0 (h.hm.dels _) (h.rm.dels _)
  intro x hx
  rcases List.mem_or_eq_of_mem_set hx with hx|rfl
  ·exact h.lo x hx
  ·exact⟨by omega,by show c.zvx≤T.offers;omega⟩
 ·exact h
theorem zg0 (h:Inv n k T) (i:ID) (a:Int) (ha:0≤a∧a<n):Inv n k (uj T i a 0):=
 Ji (U:=uj T i a 0) h rfl rfl rfl rfl rfl h.ln h.lo h.o0 (h.hm.adds i a ha) (h.rm.mods i _ (zqo a))
theorem zbb (h:Inv n k T) (i:ID) (a:Int) (ha:0≤a∧a<n):Inv n k (xg T i a 0):=
 Ji (U:=xg T i a 0) h rfl rfl rfl rfl rfl h.ln h.lo h.o0 (h.hm.mods i _ (zqo a)) (h.rm.adds i a ha)
theorem inv_ack (h:Inv n k T) (c:Cmd) (ha:0≤c.node∧c.node<n):Inv n k (Qs T c 0):=by
 unfold Qs
 split
 ·have h1:=zg0 h ⟨c.key,c.zvz⟩ c.node ha
  generalize uj T ⟨c.key,c.zvz⟩ c.node 0=S at *;unfold jn
  split
  ·exact h1
  ·rename_i p hp
   have h2:=zdd h1 hp 0
   split
   ·exact h1
   ·split
    ·refine zkj h2 c.key ⟨c.zvz,false⟩ ?_ ?_
     ·have:=h1.pv _ (yd hp)
      exact⟨this.2,by simp only at this ⊢;omega⟩
     ·intro q hq e e2
      obtain⟨h3,h4⟩:=Zg q hq
      apply h4
      obtain⟨⟨qk,qv⟩,qp⟩:=q;simp only at e e2 ⊢;rw[e,e2]
    ·exact h2
 ·exact h
theorem zov (h:Inv n k T) (c:Cmd) (ha:0≤c.node∧c.node<n):Inv n k (Zj T c 0):=by
 unfold Zj
 split
 ·have h1:=zbb h ⟨c.key,c.zvz⟩ c.node ha
  generalize xg T ⟨c.key,c.zvz⟩ c.node 0=S at *;unfold Yh
  split
  ·exact h1
  ·rename_i p hp
   split
   ·exact zdd h1 hp 181
   ·exact h1
 ·exact h
theorem zki (h:Inv n k T) (c:Cmd) (ha:0≤c.node∧c.node<n):Inv n k (opT T c 0):=by
 unfold opT
 repeat' split
 ·exact Ji (U:={ T with offers:=T.offers+1 }) h rfl rfl rfl rfl rfl h.ln (fun x hx=>by have:=h.lo x hx;exact⟨this.1,by show x≤T.offers+1;omega⟩) (by show 0≤T.offers+1;have:=h.o0;omega) h.hm h.rm
 ·exact zl9 h c ha.1
 ·exact ziv h c
 ·exact inv_ack h c ha
 ·exact zov h c ha
 ·exact zfa h c
 ·exact zde h c
theorem zrb (h:Inv n k T):Inv n k (jt T):=Ji (U:=jt T) h rfl rfl rfl rfl rfl h.ln h.lo h.o0 (h.hm.filt _) (h.rm.filt _)
theorem ztw (h:Inv n k T) (c:Cmd) (ha:0≤c.node∧c.node<n):Inv n k (uc T c):=zrb (zki h c ha)
theorem zik (h:Inv n k T) {i:ID} {p:xd} (hi:zt T.pending i=some p) (code m:Int) (U:Tab) (hU:callV U m=callV (jw T i p code) m) :
  (callV T m).zvy≤(callV U m).zvy∧((callV U m).zvy=(callV T m).zvy→(callV T m).done=true→callV U m=callV T m)∧((callV T m).zvy<(callV U m).zvy→(callV U m).done=false→(callV U m).zvz=T.next):=by
 rw[hU,zgq h hi code m]
 split
 ·rename_i e
  have h4:=h.pc _ (yd hi);simp only at h4;rw[e,h4];refine⟨Int.le_refl _,fun _ h=>by simp at h,fun h=>by simp at h⟩
 ·exact⟨Int.le_refl _,fun _ _=>rfl,fun h=>by omega⟩
theorem zjf (h:Inv n k T) {i:ID} {p:xd} (hi:zt T.pending i=some p) (code:Int) (c:Cmd):Jy k c T (jw T i p code):=by
 obtain⟨a1,a2,a3⟩:=zik h hi code c.zvw _ rfl;refine⟨fun a=>⟨Int.le_refl _,(h.lifeV_le a).2⟩,⟨Int.le_refl _,by show T.next≤T.next+1;omega⟩,by show T.offers≤T.offers+1;omega,a1,a2,a3,Or.inr (Int.le_refl _),fun q hq e=>absurd e (h.look_ne hq),?_⟩
 intro x hx hw;rw[Yj] at hw ⊢
 exact⟨zi0 hw.1,hw.2⟩
theorem zm4 (T:Tab) (s:ByteArray) (v:Val) (s':ByteArray):Go.Proofs.YtjfelfjobeeenaaGreat.look { T with values:=ym T.values s v } s'=if s'=s then (if v.dead=true then 0 else v.zvz) else Go.Proofs.YtjfelfjobeeenaaGreat.look T s':=by
 unfold Go.Proofs.YtjfelfjobeeenaaGreat.look;rw[zeo]
 split <;> rfl
theorem zic (h:Inv n k T) {i:ID} {p:xd} (hi:zt T.pending i=some p) (c:Cmd) (hk:c.key=i.key) (hc:k≤(memH T.holds i).length) (hl:(lookV T i.key).zvz<i.zvz):Jy k c T { jw T i p 0 with values:=ym T.values i.key ⟨i.zvz,false⟩ }:=by
 obtain⟨a1,a2,a3⟩:=zik h hi 0 c.zvw { jw T i p 0 with values:=ym T.values i.key ⟨i.zvz,false⟩ } rfl
 have hlk:=fun s=>zm4 (jw T i p 0) i.key ⟨i.zvz,false⟩ s
 change ∀s,Go.Proofs.YtjfelfjobeeenaaGreat.look { jw T i p 0 with values:=ym T.values i.key ⟨i.zvz,false⟩ } s=if s=i.key then i.zvz else Go.Proofs.YtjfelfjobeeenaaGreat.look T s at hlk
 have hiv:=h.pv _ (yd hi);simp only at hiv;refine⟨fun a=>⟨Int.le_refl _,(h.lifeV_le a).2⟩,⟨Int.le_refl _,by show T.next≤T.next+1;omega⟩,by show T.offers≤T.offers+1;omega,a1,a2,a3,Or.inr ?_,?_,?_⟩
 ·rw[hlk,hk,if_pos rfl]
  have:=h.look_le i.key;omega
 ·intro q hq e
  rw[hlk] at e
  split at e
  ·rename_i e2
   have:q.1=i:=by
    obtain⟨⟨qk,qv⟩,qp⟩:=q;obtain⟨ik,iv⟩:=i;simp only at e e2 ⊢;rw[e,e2]
   rw[this];exact hc
  ·exact absurd e (h.look_ne hq)
 ·intro x hx hw
  rw[Yj] at hw ⊢;refine⟨zi0 hw.1,fun hx0=>?_⟩
  rw[hlk]
  split
  ·rename_i e2
   intro e;have:x=i:=by
    obtain⟨xk,xv⟩:=x;obtain⟨ik,iv⟩:=i;simp only at e e2 ⊢;rw[e,e2]
   rw[this,hi] at hw
   exact absurd hw.1 (by simp)
  ·exact hw.2 hx0
theorem Za (h:Inv n k T) (c:Cmd):Jy k c T T:=
 zcy h c rfl rfl (fun _ h=>h) rfl (by omega) (fun a=>⟨Int.le_refl _,(h.lifeV_le a).2⟩)
theorem zuz (h:Inv n k T) (c:Cmd) (ha:0≤c.node∧c.node<n):Jy k c T (Qs T c 0):=by
 unfold Qs
 split
 ·have h1:=zg0 h ⟨c.key,c.zvz⟩ c.node ha
  have key:Jy k c (uj T ⟨c.key,c.zvz⟩ c.node 0) (jn (uj T ⟨c.key,c.zvz⟩ c.node 0) c):=by
   generalize uj T ⟨c.key,c.zvz⟩ c.node 0=S at *;unfold jn
   split
   ·exact Za h1 c
   ·rename_i p hp
    split
    ·exact Za h1 c
    ·rename_i hlen
     split
     ·rename_i hl
      have hw:=h1.w
      exact zic h1 hp c rfl (by omega) hl
     ·exact zjf h1 hp 0 c
  exact⟨key.life,key.nx,key.of,key.zvy,key.same,key.new,key.look,key.pend,key.lost⟩
 ·exact Za h c
theorem znj (h:Inv n k T) (c:Cmd) (ha:0≤c.node∧c.node<n):Jy k c T (Zj T c 0):=by
 unfold Zj
 split
 ·have h1:=zbb h ⟨c.key,c.zvz⟩ c.node ha
  have key:Jy k c (xg T ⟨c.key,c.zvz⟩ c.node 0) (Yh (xg T ⟨c.key,c.zvz⟩ c.node 0) c):=by
   generalize xg T ⟨c.key,c.zvz⟩ c.node 0=S at *;unfold Yh
   split
   ·exact Za h1 c
   ·rename_i p hp
    split
    ·exact zjf h1 hp 181 c
    ·exact Za h1 c
  exact⟨key.life,key.nx,key.of,key.zvy,key.same,key.new,key.look,key.pend,key.lost⟩
 ·exact Za h c
theorem zrg (T:Tab) (c:Cmd) (hn:0≤c.node∧c.node<(T.zv0.length:Int)) (a:Int):yq (Yp T c 2) a=if a=c.node then c.zvx else yq T a:=by
 unfold yq;have e:(Yp T c 2).zv0=T.zv0.set c.node.toNat c.zvx:=rfl;rw[e,List.length_set]
 by_cases hr:a<0∨(T.zv0.length:Int)≤a
 ·rw[if_pos hr,if_neg (by omega),if_pos hr]
 ·rw[if_neg hr]
  simp only[List.getD_eq_getElem?_getD,List.getElem?_set]
  by_cases e:a=c.node
  ·subst e
   simp only[if_true];rw[if_pos (by omega)];rfl
  ·rw[if_neg (by omega),if_neg e,if_neg hr]
theorem zr8 (h:Inv n k T) (c:Cmd) (ha:0≤c.node∧c.node<n):Jy k c T (Xu T c):=by
 unfold Xu
 split
 ·rename_i hB
  unfold Xb at hB;simp only[Bool.not_eq_true',Bool.or_eq_false_iff,decide_eq_false_iff_not] at hB;refine zcy h c rfl rfl (fun _ h=>h) rfl (by show T.offers≤T.offers+1;omega) (fun a=>?_)
  have h1:=h.lifeV_le a;rw[zrg T c (by rw[h.ln];exact ha) a]
  show _∧_≤T.offers
  split
  ·rename_i e;subst e;omega
  ·omega
 ·exact Za h c
theorem zpd (h:Inv n k T) (c:Cmd):Jy k c T (Va T c):=by
 unfold Va
 split
 ·rename_i hB
  unfold un at hB;simp only[decide_eq_true_eq] at hB;have e:callV { T with pending:=ym (Zz T c.zvw) ⟨c.key,T.next⟩ ⟨c.zvw,c.zvy⟩,calls:=ym T.calls c.zvw ⟨c.zvy,T.next,false,0⟩,next:=T.next+1 } c.zvw=⟨c.zvy,T.next,false,0⟩:=by
   show(zt (ym T.calls c.zvw _) c.zvw).getD _=_
   rw[uk,if_pos rfl];rfl
  refine⟨fun a=>⟨Int.le_refl _,(h.lifeV_le a).2⟩,⟨by show T.next≤T.next+1;omega,Int.le_refl _⟩,by show T.offers≤T.offers+1;omega,?_,?_,?_,Or.inr (Int.le_refl _),fun q hq e=>absurd e (h.look_ne hq),?_⟩
  ·rw[e];show _≤c.zvy;omega
  ·rw[e];intro h1;simp only at h1;omega
  ·rw[e];intro _ _;rfl
  ·intro x hx hw
   rw[Yj] at hw ⊢;refine⟨?_,hw.2⟩
   show zt (ym (Zz T c.zvw) _ _) x=none
   rw[uk,if_neg (fun e=>by rw[e] at hx;simp at hx)]
   exact zej hw.1
 ·exact Za h c
theorem zk2 (h:Inv n k T) (c:Cmd):Jy k c T (jz T c):=by
 unfold jz
 split
 ·rename_i hB
  unfold un at hB;simp only[decide_eq_true_eq] at hB;have e:callV { T with pending:=Zz T c.zvw,values:=ym T.values c.key ⟨T.next,true⟩,calls:=ym T.calls c.zvw ⟨c.zvy,0,true,0⟩,next:=T.next+1 } c.zvw=⟨c.zvy,0,true,0⟩:=by
   show(zt (ym T.calls c.zvw _) c.zvw).getD _=_
   rw[uk,if_pos rfl];rfl
  have hlk:∀s,Go.Proofs.YtjfelfjobeeenaaGreat.look { T with pending:=Zz T c.zvw,values:=ym T.values c.key ⟨T.next,true⟩,calls:=ym T.calls c.zvw ⟨c.zvy,0,true,0⟩,next:=T.next+1 } s=if s=c.key then 0 else Go.Proofs.YtjfelfjobeeenaaGreat.look T s:=fun s=>zm4 T c.key ⟨T.next,true⟩ s
  refine⟨fun a=>⟨Int.le_refl _,(h.lifeV_le a).2⟩,⟨by show T.next≤T.next+1;omega,Int.le_refl _⟩,by show T.offers≤T.offers+1;omega,?_,?_,?_,Or.inl (by rw[hlk,if_pos rfl]),?_,?_⟩
  ·rw[e];show _≤c.zvy;omega
  ·rw[e];intro h1;simp only at h1;omega
  ·rw[e];intro _ h2;simp at h2
  ·intro q hq e
   rw[hlk] at e
   split at e
   ·have:=(h.pv q hq).1;omega
   ·exact absurd e (h.look_ne hq)
  ·intro x hx hw
   rw[Yj] at hw ⊢;refine⟨zej hw.1,fun hx0=>?_⟩
   rw[hlk]
   split
   ·omega
   ·exact hw.2 hx0
 ·exact Za h c
theorem zid (h:Inv n k T) (c:Cmd):Jy k c T (qy T c):=by
 unfold qy
 split
 ·rename_i hB
  unfold un at hB;simp only[decide_eq_true_eq] at hB;have e:callV { T with pending:=Zz T c.zvw,calls:=ym T.calls c.zvw ⟨c.zvy,0,true,c.code⟩ } c.zvw=⟨c.zvy,0,true,c.code⟩:=by
   show(zt (ym T.calls c.zvw _) c.zvw).getD _=_
   rw[uk,if_pos rfl];rfl
  refine⟨fun a=>⟨Int.le_refl _,(h.lifeV_le a).2⟩,⟨Int.le_refl _,by show T.next≤T.next+1;omega⟩,by show T.offers≤T.offers+1;omega,?_,?_,?_,Or.inr (Int.le_refl _),fun q hq e=>absurd e (h.look_ne hq),?_⟩
  ·rw[e];show _≤c.zvy;omega
  ·rw[e];intro h1;simp only at h1;omega
  ·rw[e];intro _ h2;simp at h2
  ·intro x hx hw
   rw[Yj] at hw ⊢
   exact⟨zej hw.1,hw.2⟩
 ·exact Za h c
theorem rise_op (h:Inv n k T) (c:Cmd) (ha:0≤c.node∧c.node<n):Jy k c T (opT T c 0):=by
 unfold opT
 repeat' split
 ·exact zcy h c rfl rfl (fun _ h=>h) rfl (Int.le_refl _) (fun a=>⟨Int.le_refl _,by have:=(h.lifeV_le a).2;show yq T a≤T.offers+1;omega⟩)
 ·exact zr8 h c ha
 ·exact zpd h c
 ·exact zuz h c ha
 ·exact znj h c ha
 ·exact zk2 h c
 ·exact zid h c
theorem zfx {T:Tab} {x:ID} (h0:0<x.zvz) (h:Go.Proofs.YtjfelfjobeeenaaGreat.look T x.key=x.zvz):yl T x=true:=by
 unfold yl;rw[h];simp[h0]
theorem zpe (hk:1≤k) (hT:Inv n k T) (hU:Inv n k U) {c:Cmd} (h:Jy k c T U):Jy k c T (jt U):=by
 refine⟨h.life,h.nx,h.of,h.zvy,h.same,h.new,h.look,?_,h.lost⟩;intro p hp e;have e':Go.Proofs.YtjfelfjobeeenaaGreat.look U p.1.key=p.1.zvz:=e;have h1:=h.pend p hp e';have hw:yl U p.1=true:=zfx (by have:=(hT.pv p hp).1;omega) e'
 show k≤(memH (U.holds.filter fun p=>!qu U p.1 p.2) p.1).length
 rw[zmi hU.hm _ p.1 (fun s hs=>?_)]
 ·exact h1
 ·unfold memH at h1
  rw[hs] at h1;simp only[Option.map_some,Option.getD_some] at h1;simp only[qu,hw,Bool.not_true,Bool.or_false,Bool.not_eq_true',decide_eq_false_iff_not];omega
theorem zr9 (hk:1≤k) (h:Inv n k T) (c:Cmd) (ha:0≤c.node∧c.node<n):Jy k c T (uc T c):=zpe hk h (zki h c ha) (rise_op h c ha)
def zlf (T:Tab):Prop:=∀x,yl T x=false→memH T.holds x = []
theorem zob (h:Inv n k T) (c:Cmd) (ha:0≤c.node∧c.node<n):zlf (uc T c):=by
 intro x hx;have hU:=zki h c ha;have hx':yl (opT T c 0) x=false:=hx
 show memH ((opT T c 0).holds.filter fun p=>!qu (opT T c 0) p.1 p.2) x = []
 refine Ve hU.hm _ x (fun s=>?_)
 simp[qu,hx']
theorem zkh (N:Nat) (w:Int) (k:Nat) (hk:yu N w=k):Inv N k (qn N w 0).norm:=by
 refine⟨by simp[qn,Tab.norm],hk,?_,Int.le_refl _,Int.le_refl _,?_,?_,?_,?_,?_,?_,⟨?_,?_⟩,⟨?_,?_⟩⟩ <;> simp[qn,Tab.norm,vp,lookV,zt]
end
open Go.RowKit Go.Sf Go.Shelf Go.Sort Go.Lib
def Vs (a b:Int):Int:=if a<b then -1 else if b<a then 1 else 0
def zcd (a b:ByteArray):Int:=if Op.bytesLess a.toList b.toList=true then -1 else if a=b then 0 else 1
def zku (a b:ID):Int:=if zcd a.key b.key=0 then Vs a.zvz b.zvz else zcd a.key b.key
theorem zs8 (a b:Int) (W:World):Calls Tryz.prog 126 #[.int .i64 a,.int .i64 b] W fun e w'=>e = .returned (.int .i64 (Vs a b))∧w'=W:=by
 by_cases h1:a<b
 ·have hc:Vs a b = -1:=by unfold Vs;rw[if_pos h1]
  rw[hc]
  go_enter Tryz.func126,Tryz.ntmps126
  go_wp2
  go_ret
  exact⟨rfl,rfl⟩
 ·by_cases h2:b<a
  ·have hc:Vs a b=1:=by unfold Vs;rw[if_neg h1,if_pos h2]
   rw[hc]
   go_enter Tryz.func126,Tryz.ntmps126
   go_wp2
   go_ret
   exact⟨rfl,rfl⟩
  ·have hc:Vs a b=0:=by unfold Vs;rw[if_neg h1,if_neg h2]
   rw[hc]
   go_enter Tryz.func126,Tryz.ntmps126
   go_wp2
   go_ret
   exact⟨rfl,rfl⟩
theorem zlk (a b:ByteArray) (W:World):Calls Tryz.prog 89 #[.string a,.string b] W fun e w'=>e = .returned (.int .i64 (zcd a b))∧w'=W:=by
 cases h1:Op.bytesLess a.toList b.toList with
 | true=>
  have hc:zcd a b = -1:=by unfold zcd;rw[if_pos h1]
  rw[hc]
  go_enter Tryz.func89,Tryz.ntmps89
  go_wp2
  go_ret
  exact⟨rfl,rfl⟩
 | false=>
  cases h2:(a.toList == b.toList) with
  | true=>
   have e:a=b:=by rw[qb] at h2;exact of_decide_eq_true h2
   have hc:zcd a b=0:=by unfold zcd;rw[if_neg (by rw[h1];decide),if_pos e]
   rw[hc];clear e
   go_enter Tryz.func89,Tryz.ntmps89
   go_wp2
   go_ret
   exact⟨rfl,rfl⟩
  | false=>
   have e:¬a=b:=by rw[qb] at h2;exact of_decide_eq_false h2
   have hc:zcd a b=1:=by unfold zcd;rw[if_neg (by rw[h1];decide),if_neg e]
   rw[hc];clear e
   go_enter Tryz.func89,Tryz.ntmps89
   go_wp2
   go_ret
   exact⟨rfl,rfl⟩
theorem or_any (x y:Int) (g:Nat) (W:World) (h0:W.cell? ⟨g,0,none⟩=some (.int .i64 x)) (h1:W.cell? ⟨g,1,none⟩=some (.int .i64 y)):Calls Tryz.prog 125 #[.slice (some ⟨g,0,none⟩) 2 2] W fun e w'=>e = .returned (.int .i64 (if x=0 then y else x))∧w'=W:=by
 obtain⟨r,hr⟩:∃r,r=if x=0 then y else x:=⟨_,rfl⟩
 rw[←hr]
 go_enter Tryz.func125,Tryz.ntmps125
 go_wp2
 go_loopw [5,8] (fun _ i wr=>wr=W∧(i = .int .i64 0∨(i = .int .i64 1∧x=0)∨(i = .int .i64 2∧x=0∧y=0))) (fun _ i _=>2-(intOf i).toNat)
 case atStart=>exact⟨rfl,Or.inl rfl⟩
 case round=>
  obtain⟨rfl,rfl|⟨rfl,hx⟩|⟨rfl,hx,hy⟩⟩:=hrel
  ·by_cases hx:x=0
   ·subst hx
    go_wp2
    go_roundw
    case rel=>simp
    case measure=>simp[intOf]
   ·rw[if_neg hx] at hr
    subst hr;go_wp2
    go_ret
    exact⟨rfl,rfl⟩
  ·subst hx
   rw[if_pos rfl] at hr;subst hr
   by_cases hy:r=0
   ·subst hy
    go_wp2
    go_roundw
    case rel=>simp
    case measure=>simp[intOf]
   ·go_wp2
    go_ret
    exact⟨rfl,rfl⟩
  ·subst hx;subst hy
   rw[if_pos rfl] at hr;subst hr;go_wp2
   go_ret
   exact⟨rfl,rfl⟩
set_option maxRecDepth 100000 in
theorem zrz (a b:ID) (W:World):Calls Tryz.prog 80 #[zx a,zx b] W fun e w'=>e = .returned (.int .i64 (zku a b))∧∃q os',w'=grow (W.drewN q) os':=by
 obtain⟨ak,av⟩:=a;obtain⟨bk,bv⟩:=b;simp only[zx,zku];have HB:=fun W=>zlk ak bk W
 have HI:=fun W=>zs8 av bv W
 have HO:=fun g W=>or_any (zcd ak bk) (Vs av bv) g W
 generalize zcd ak bk=x at *;generalize Vs av bv=y at *;generalize (if x=0 then y else x)=r at *
 go_enter Tryz.func80,Tryz.ntmps80
 go_wp2;have c0:((W.alloc (.cells #[.string ak,.int .i64 av] 54)).alloc (.cells #[.string bk,.int .i64 bv] 54)).cell? ⟨W.heap.size,0,none⟩=some (.string ak):=by simp[go_sem]
 have c1:((W.alloc (.cells #[.string ak,.int .i64 av] 54)).alloc (.cells #[.string bk,.int .i64 bv] 54)).cell? ⟨W.heap.size,1,none⟩=some (.int .i64 av):=by simp[go_sem]
 have c2:((W.alloc (.cells #[.string ak,.int .i64 av] 54)).alloc (.cells #[.string bk,.int .i64 bv] 54)).cell? ⟨W.heap.size+1,0,none⟩=some (.string bk):=by simp[go_sem]
 have c3:((W.alloc (.cells #[.string ak,.int .i64 av] 54)).alloc (.cells #[.string bk,.int .i64 bv] 54)).cell? ⟨W.heap.size+1,1,none⟩=some (.int .i64 bv):=by simp[go_sem]
 have hg:(W.alloc (.cells #[.string ak,.int .i64 av] 54)).alloc (.cells #[.string bk,.int .i64 bv] 54)=grow (W.drewN 0) #[.cells #[.string ak,.int .i64 av] 54,.cells #[.string bk,.int .i64 bv] 54]:=by rw[alloc_eq_grow,alloc_eq_grow,grow_grow];rfl
 generalize (W.alloc (.cells #[.string ak,.int .i64 av] 54)).alloc (.cells #[.string bk,.int .i64 bv] 54)=W2 at *;have HG:=za hg;clear hg
 go_region_held3 (fun w'=>w'.cell? ⟨W.heap.size,0,none⟩=some (.string ak)∧w'.cell? ⟨W.heap.size,1,none⟩=some (.int .i64 av)∧w'.cell? ⟨W.heap.size+1,0,none⟩=some (.string bk)∧w'.cell? ⟨W.heap.size+1,1,none⟩=some (.int .i64 bv)) (go_keep)
  (first
  | (go_at_call 89;refine(HB _).mono ?_;rintro e w3 ⟨rfl,rfl⟩)
  | (go_at_call 126;refine(HI _).mono ?_;rintro e w3 ⟨rfl,rfl⟩)
  | (go_at_call 125;refine(HO _ _ (by simp[go_sem]) (by simp[go_sem])).mono ?_;rintro e w3 ⟨rfl,rfl⟩))
 all_goals
  go_wp2
  go_ret
  exact⟨rfl,1,_,by rw[HG.out,alloc_eq_grow,grow_grow];rfl⟩
end Go.Proofs.YtjfelfjobeeenaaGreat
