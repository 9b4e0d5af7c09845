/- What any command leaves of a table, and what rises: the plain law. Conditions: a command that may be, of a node that is. The document's table as plain data; that it goes with the program's: the plain law, no program. fields.Writer: what its calls put: the walks. Conditions: a writer that lies in memory, not too many bytes. fields.put at three sizes: the walks. Conditions: a writer that lies in memory, not too many bytes. fields.Writer's Byte, Short, Long; slices.Grow of nothing: the walks. Conditions: a writer that lies in memory, not too many bytes. The document's table in memory. Conditions: none. -/
import Derived.Test.YtjfelfjobeeenaaGreatF10
import Derived.Test.YtjfelfjobeeenaaGreatF2
import Derived.Lib.AppendZerosOnto
import Derived.Deep.RegionHeld3
import Derived.Deep.DeepCutAuto
import Derived.Deep.RegionLaw
import Derived.Test.YtjfelfjobeeenaaGreatChecked
import Derived.WalkLawsBesides
import Derived.WalkSpells
import Derived.Deep.RegionWith
import Derived.Outline
import Derived.Below
import Derived.Laws.OwnMore
set_option linter.unusedSimpArgs false
set_option linter.unusedVariables false
namespace Go.Proofs.YtjfelfjobeeenaaGreat
open Go.RowKit Go.Sf Go.Shelf
section
variable {K V : Type} [DecidableEq K]
theorem mget_put (m:List (K × V)) (k k':K) (v:V):mget (mput m k v) k'=if k'=k then some v else mget m k':=by
 split
 ·rename_i h;subst h;exact mget_mput_same m k' v
 ·rename_i h;exact mget_mput_ne m v h
theorem mget_filter {m:List (K × V)} (hn:(m.map (·.1)).Nodup) (f:K × V→Bool) (k:K):mget (m.filter f) k=(mget m k).bind fun v=>if f (k,v)=true then some v else none:=by
 induction m with
 | nil=>rfl
 | cons p r ih=>
  simp only[List.map_cons,List.nodup_cons] at hn
  obtain⟨a,v⟩:=p
  by_cases e:a=k
  ·subst e
   have hr:mget r a=none:=mget_none fun q hq e=>hn.1 (List.mem_map.2 ⟨q,hq,e⟩)
   have ih:=ih hn.2
   rw[hr] at ih
   simp only[List.filter_cons,mget,if_true,Option.bind_some]
   split
   ·rename_i h;simp[mget]
   ·rename_i h;rw[ih];rfl
  ·simp only[List.filter_cons,mget,if_neg e]
   split
   ·simp only[mget,if_neg e];exact ih hn.2
   ·exact ih hn.2
omit [DecidableEq K] in
theorem nodup_filter {m:List (K × V)} (hn:(m.map (·.1)).Nodup) (f:K × V→Bool):((m.filter f).map (·.1)).Nodup:=
 hn.sublist ((List.filter_sublist).map _)
theorem mget_some_iff {m:List (K × V)} {k:K}:(mget m k).isSome=true↔∃v,(k,v)∈m:=by
 constructor
 ·intro h
  obtain⟨v,hv⟩:=Option.isSome_iff_exists.1 h
  exact⟨v,mget_mem hv⟩
 ·rintro⟨v,hv⟩
  cases e:mget m k with
  | some _=>rfl
  | none=>exact absurd rfl (mget_none_iff.1 e _ hv)
end
structure Mems (n:Nat) (m:List (ID × NSet)):Prop where
 nodup:(m.map (·.1)).Nodup
 mem:∀p∈m,p.2.mem.Nodup∧∀x∈p.2.mem,0≤x∧x<n
section
variable {n : Nat} {m : List (ID × NSet)}
theorem Mems.filt (h:Mems n m) (f:ID × NSet→Bool):Mems n (m.filter f):=
 ⟨nodup_filter h.nodup f,fun p hp=>h.mem p (List.mem_filter.1 hp).1⟩
theorem Mems.dels (h:Mems n m) (a:Int):Mems n (sdelAll m a):=by
 refine⟨?_,?_⟩
 ·have:(sdelAll m a).map (·.1)=m.map (·.1):=by unfold sdelAll;rw[List.map_map];rfl
  rw[this];exact h.nodup
 ·intro p hp
  unfold sdelAll at hp
  obtain⟨q,hq,rfl⟩:=List.mem_map.1 hp
  have:=h.mem q hq
  exact⟨this.1.filter _,fun x hx=>this.2 x (List.mem_filter.1 hx).1⟩
theorem Mems.mods (h:Mems n m) (i:ID) (f:List Int→List Int) (hf:∀l:List Int,(l.Nodup∧∀x∈l,0≤x∧x<n)→((f l).Nodup∧∀x∈f l,0≤x∧x<n)):Mems n (smod m i f):=by
 refine⟨by rw[smod_keys];exact h.nodup,?_⟩
 intro p hp
 unfold smod at hp
 obtain⟨q,hq,rfl⟩:=List.mem_map.1 hp
 split
 ·exact hf _ (h.mem q hq)
 ·exact h.mem q hq
theorem sput_ok {n:Nat} (a:Int) (ha:0≤a∧a<n) (l:List Int) (h:l.Nodup∧∀x∈l,0≤x∧x<n):(sput l a).Nodup∧∀x∈sput l a,0≤x∧x<n:=by
 unfold sput
 split
 ·exact h
 ·rename_i hn
  refine⟨List.nodup_append.2 ⟨h.1,by simp,fun x hx y hy e=>?_⟩,fun x hx=>?_⟩
  ·simp only[List.mem_singleton] at hy;subst hy;subst e;exact hn hx
  ·rcases List.mem_append.1 hx with hx|hx
   ·exact h.2 x hx
   ·simp only[List.mem_singleton] at hx;subst hx;exact ha
theorem sdel_ok {n:Nat} (a:Int) (l:List Int) (h:l.Nodup∧∀x∈l,0≤x∧x<n):(sdel l a).Nodup∧∀x∈sdel l a,0≤x∧x<n:=
 ⟨h.1.filter _,fun x hx=>h.2 x (List.mem_filter.1 hx).1⟩
theorem Mems.adds (h:Mems n m) (i:ID) (a:Int) (ha:0≤a∧a<n):Mems n (sadd m i a 0):=by
 unfold sadd
 split
 ·exact h.mods i _ (sput_ok a ha)
 ·rename_i hs
  have hm:mget m i=none:=by cases e:mget m i with
   | none=>rfl
   | some _=>rw[e] at hs;exact absurd rfl hs
  have hne:=mget_none_iff.1 hm
  refine⟨?_,?_⟩
  ·rw[List.map_append]
   refine List.nodup_append.2 ⟨h.nodup,by simp,fun x hx y hy e=>?_⟩
   simp only[List.map_cons,List.map_nil,List.mem_singleton] at hy
   obtain⟨q,hq,rfl⟩:=List.mem_map.1 hx
   exact hne q hq (e.trans hy)
  ·intro p hp
   rcases List.mem_append.1 hp with hp|hp
   ·exact h.mem p hp
   ·simp only[List.mem_singleton] at hp;subst hp
    exact⟨by simp,fun x hx=>by simp only[List.mem_singleton] at hx;subst hx;exact ha⟩
theorem nodup_range_len:∀(n:Nat) (l:List Int),l.Nodup→(∀x∈l,0≤x∧x<n)→l.length≤n:=by
 intro n
 induction n with
 | zero=>
  intro l _ h
  cases l with
  | nil=>simp
  | cons a r=>have:=h a (by simp);omega
 | succ n ih=>
  intro l hn h
  have h2:=ih (l.erase (n:Int)) (hn.erase _) (fun x hx=>by
   rw[hn.mem_erase_iff] at hx
   have h3:=h x hx.2
   have h4:=hx.1
   omega)
  rw[List.length_erase] at h2
  split at h2 <;> omega
theorem Mems.len (h:Mems n m) (i:ID):(memH m i).length≤n∧∀x∈memH m i,0≤x∧x<n:=by
 unfold memH
 cases e:mget m i with
 | none=>exact⟨by simp,by simp⟩
 | some s=>
  have:=h.mem _ (mget_mem e)
  exact⟨nodup_range_len n _ this.1 this.2,this.2⟩
theorem memH_filter_none (h:Mems n m) (f:ID × NSet→Bool) (i:ID) (hf:∀s,f (i,s)=false):memH (m.filter f) i = []:=by
 unfold memH
 rw[mget_filter h.nodup]
 cases e:mget m i with
 | none=>rfl
 | some s=>simp only[Option.bind_some];rw[if_neg (by rw[hf s];decide)];rfl
end
structure Inv (n k:Nat) (T:Tab):Prop where
 ln:T.lives.length=n
 w:T.w=k
 lo:∀x∈T.lives,0≤x∧x≤T.offers
 o0:0≤T.offers
 nx:1≤T.next
 pnd:(T.pending.map (·.1)).Nodup
 pv:∀p∈T.pending,1≤p.1.ver∧p.1.ver<T.next
 pu:∀p∈T.pending,∀q∈T.pending,p.1.ver=q.1.ver→p.1=q.1
 vv:∀k,(lookV T k).ver<T.next∧0≤(lookV T k).ver
 pl:∀p∈T.pending,(lookV T p.1.key).ver≠p.1.ver
 pc:∀p∈T.pending,callV T p.2.client=⟨p.2.req,p.1.ver,false,0⟩
 hm:Mems n T.holds
 rm:Mems n T.refuses
section
variable {n k : Nat} {T U : Tab}
theorem inv_frame (h:Inv n k T) (hw:U.w=T.w) (hc:U.calls=T.calls) (hv:U.values=T.values) (hp:U.pending=T.pending) (hn:U.next=T.next) (hl:U.lives.length=n) (hlo:∀x∈U.lives,0≤x∧x≤U.offers) (ho:0≤U.offers) (hm:Mems n U.holds) (rm:Mems n U.refuses):Inv n k U:=by
 refine⟨hl,hw.trans h.w,hlo,ho,?_,?_,?_,?_,?_,?_,?_,hm,rm⟩
 ·rw[hn];exact h.nx
 ·rw[hp];exact h.pnd
 ·rw[hp,hn];exact h.pv
 ·rw[hp];exact h.pu
 ·intro k;unfold lookV;rw[hv,hn];exact h.vv k
 ·rw[hp];intro p hp';unfold lookV;rw[hv];exact h.pl p hp'
 ·rw[hp];intro p hp';unfold callV;rw[hc];exact h.pc p hp'
theorem Inv.look_ne (h:Inv n k T) {p:ID × Pend} (hp:p∈T.pending):look T p.1.key≠p.1.ver:=by
 unfold look
 have h1:=(h.pv p hp).1
 have h2:=h.pl p hp
 split
 ·omega
 ·exact h2
theorem Inv.lifeV_le (h:Inv n k T) (a:Int):0≤lifeV T a∧lifeV T a≤T.offers:=by
 unfold lifeV
 split
 ·exact⟨Int.le_refl _,h.o0⟩
 ·rename_i hr
  have hlt:a.toNat<T.lives.length:=by omega
  have:T.lives.getD a.toNat 0∈T.lives:=by
   simp only[List.getD_eq_getElem?_getD,List.getElem?_eq_getElem hlt,Option.getD_some]
   exact List.getElem_mem hlt
  exact h.lo _ this
structure Rise (k:Nat) (c:Cmd) (T U:Tab):Prop where
 life:∀a,lifeV T a≤lifeV U a∧lifeV U a≤U.offers
 nx:T.next≤U.next∧U.next≤T.next+1
 of:U.offers≤T.offers+1
 req:(callV T c.client).req≤(callV U c.client).req
 same:(callV U c.client).req=(callV T c.client).req→(callV T c.client).done=true→callV U c.client=callV T c.client
 new:(callV T c.client).req<(callV U c.client).req→(callV U c.client).done=false→(callV U c.client).ver=T.next
 look:look U c.key=0∨look T c.key≤look U c.key
 pend:∀p∈T.pending,Go.Proofs.YtjfelfjobeeenaaGreat.look U p.1.key=p.1.ver→k≤(memH U.holds p.1).length
 lost:∀x:ID,x.ver<T.next→wantedB T x=false→wantedB U x=false
theorem done_pending {i:ID} {p:Pend} {code:Int} (q:ID × Pend) (hq:q∈(doneT T i p code).pending):q∈T.pending∧q.1≠i:=by
 have:=List.mem_filter.1 hq
 exact⟨this.1,by simpa using this.2⟩
theorem done_calls (h:Inv n k T) {i:ID} {p:Pend} (hi:mget T.pending i=some p) (code:Int) (m:Int):callV (doneT T i p code) m=if m=p.client then ⟨p.req,i.ver,true,code⟩ else callV T m:=by
 have hc:=h.pc _ (mget_mem hi)
 simp only at hc
 show(mget (doneCalls T i p code) m).getD _=_
 unfold doneCalls
 rw[hc]
 simp only[and_self,if_true]
 rw[mget_put]
 split <;> rfl
theorem inv_done (h:Inv n k T) {i:ID} {p:Pend} (hi:mget T.pending i=some p) (code:Int):Inv n k (doneT T i p code):=by
 have hm:=mget_mem hi
 refine⟨h.ln,h.w,h.lo,h.o0,h.nx,nodup_filter h.pnd _,?_,?_,h.vv,?_,?_,h.hm,h.rm⟩
 ·intro q hq;exact h.pv q (done_pending q hq).1
 ·intro q hq r hr;exact h.pu q (done_pending q hq).1 r (done_pending r hr).1
 ·intro q hq;exact h.pl q (done_pending q hq).1
 ·intro q hq
  obtain⟨h1,h2⟩:=done_pending q hq
  rw[done_calls h hi code]
  have h3:=h.pc q h1
  split
  ·rename_i e
   have h4:=h.pc _ hm
   simp only at h4
   rw[e,h4] at h3
   have:i.ver=q.1.ver:=by injection h3
   exact absurd (h.pu q h1 _ hm this.symm) h2
  ·exact h3
theorem put_lookV (T:Tab) (s:ByteArray) (v:Val) (s':ByteArray):lookV { T with values:=mput T.values s v } s'=if s'=s then v else lookV T s':=by
 show(mget (mput T.values s v) s').getD _=_
 rw[mget_put]
 split <;> rfl
theorem inv_put (h:Inv n k T) (s:ByteArray) (v:Val) (hv:v.ver<T.next∧0≤v.ver) (hp:∀p∈T.pending,p.1.key=s→p.1.ver≠v.ver):Inv n k { T with values:=mput T.values s v }:=by
 refine⟨h.ln,h.w,h.lo,h.o0,h.nx,h.pnd,h.pv,h.pu,?_,?_,h.pc,h.hm,h.rm⟩
 ·intro s'
  rw[put_lookV]
  split
  ·exact hv
  ·exact h.vv s'
 ·intro p hp'
  rw[put_lookV]
  split
  ·rename_i e;exact fun e2=>hp p hp' e e2.symm
  ·exact h.pl p hp'
theorem drop_mem {c:Int} {q:ID × Pend} (h:q∈dropC T c):q∈T.pending∧q.2.client≠c:=by
 have:=List.mem_filter.1 h
 exact⟨this.1,by simpa using this.2⟩
theorem inv_began (h:Inv n k T) (c:Cmd):Inv n k (beganT T c):=by
 unfold beganT
 split
 ·have hne:∀p∈dropC T c.client,p.1≠(⟨c.key,T.next⟩:ID):=fun p hp e=>by
   have:=(h.pv p (drop_mem hp).1).2
   rw[e] at this;simp at this
  rw[mput_new hne]
  have hmem:∀q,q∈dropC T c.client ++ [((⟨c.key,T.next⟩:ID),(⟨c.client,c.req⟩:Pend))]→(q∈T.pending∧q.2.client≠c.client)∨q=(⟨c.key,T.next⟩,⟨c.client,c.req⟩):=fun q hq=>by
   rcases List.mem_append.1 hq with hq|hq
   ·exact Or.inl (drop_mem hq)
   ·exact Or.inr (by simpa using hq)
  refine⟨h.ln,h.w,h.lo,h.o0,by show 1≤T.next+1;have:=h.nx;omega,?_,?_,?_,?_,?_,?_,h.hm,h.rm⟩
  ·show((dropC T c.client ++ [((⟨c.key,T.next⟩:ID),(⟨c.client,c.req⟩:Pend))]).map (·.1)).Nodup
   rw[List.map_append]
   refine List.nodup_append.2 ⟨nodup_filter h.pnd _,by simp,fun x hx y hy e=>?_⟩
   simp only[List.map_cons,List.map_nil,List.mem_singleton] at hy
   obtain⟨q,hq,rfl⟩:=List.mem_map.1 hx
   exact hne q hq (e.trans hy)
  ·intro q hq
   show 1≤q.1.ver∧q.1.ver<T.next+1
   rcases hmem q hq with ⟨h1,_⟩|rfl
   ·have:=h.pv q h1;omega
   ·have:=h.nx;simp;omega
  ·intro q hq r hr e
   rcases hmem q hq with ⟨h1,_⟩|rfl <;> rcases hmem r hr with ⟨h2,_⟩|rfl
   ·exact h.pu q h1 r h2 e
   ·have:=h.pv q h1;simp at e;omega
   ·have:=h.pv r h2;simp at e;omega
   ·rfl
  ·intro s
   have:=h.vv s
   exact⟨by show(lookV T s).ver<T.next+1;omega,this.2⟩
  ·intro q hq
   show(lookV T q.1.key).ver≠q.1.ver
   rcases hmem q hq with ⟨h1,_⟩|rfl
   ·exact h.pl q h1
   ·have:=(h.vv c.key).1;simp;omega
  ·intro q hq
   show(mget (mput T.calls c.client _) q.2.client).getD _=_
   rw[mget_put]
   rcases hmem q hq with ⟨h1,h2⟩|rfl
   ·rw[if_neg h2];exact h.pc q h1
   ·simp
 ·exact h
theorem inv_drop (h:Inv n k T) (c:Int) (m:List (Int × CallT)) (hm:∀a,a≠c→mget m a=mget T.calls a):Inv n k { T with pending:=dropC T c,calls:=m }:=by
 refine⟨h.ln,h.w,h.lo,h.o0,h.nx,nodup_filter h.pnd _,?_,?_,h.vv,?_,?_,h.hm,h.rm⟩
 ·intro q hq;exact h.pv q (drop_mem hq).1
 ·intro q hq r hr;exact h.pu q (drop_mem hq).1 r (drop_mem hr).1
 ·intro q hq;exact h.pl q (drop_mem hq).1
 ·intro q hq
  show(mget m q.2.client).getD _=_
  rw[hm _ (drop_mem hq).2]
  exact h.pc q (drop_mem hq).1
theorem inv_next (h:Inv n k T) (x:Int) (hx:T.next≤x):Inv n k { T with next:=x }:=by
 refine⟨h.ln,h.w,h.lo,h.o0,by show 1≤x;have:=h.nx;omega,h.pnd,?_,h.pu,?_,h.pl,h.pc,h.hm,h.rm⟩
 ·intro p hp;have:=h.pv p hp;exact⟨this.1,by show p.1.ver<x;omega⟩
 ·intro s;have:=h.vv s;exact⟨by show(lookV T s).ver<x;omega,this.2⟩
theorem inv_removed (h:Inv n k T) (c:Cmd):Inv n k (removedT T c):=by
 unfold removedT
 split
 ·have h1:=inv_drop h c.client (mput T.calls c.client ⟨c.req,0,true,0⟩) (fun a ha=>mget_mput_ne _ _ ha)
  have h2:=inv_next h1 (T.next+1) (by show T.next≤T.next+1;omega)
  have h3:=inv_put h2 c.key ⟨T.next,true⟩ ⟨by show T.next<T.next+1;omega,by have:=h.nx;show 0≤T.next;omega⟩ (fun p hp _=>by
   have:=(h1.pv p hp).2
   have e:({ T with pending:=dropC T c.client,calls:=mput T.calls c.client ⟨c.req,0,true,0⟩ }:Tab).next=T.next:=rfl
   rw[e] at this
   show p.1.ver≠T.next;omega)
  exact h3
 ·exact h
theorem inv_rejected (h:Inv n k T) (c:Cmd):Inv n k (rejectedT T c):=by
 unfold rejectedT
 split
 ·exact inv_drop h c.client _ (fun a ha=>mget_mput_ne _ _ ha)
 ·exact h
theorem inv_life (h:Inv n k T) (c:Cmd) (hn:0≤c.node):Inv n k (lifeT T c):=by
 unfold lifeT
 split
 ·rename_i hB
  unfold lifeB at hB
  simp only[Bool.not_eq_true',Bool.or_eq_false_iff,decide_eq_false_iff_not] at hB
  have h0:=(h.lifeV_le c.node).1
  refine inv_frame (U:=lifeStep T c 2) h rfl rfl rfl rfl rfl (by show(T.lives.set _ _).length=n;rw[List.length_set];exact h.ln) ?_ h.o0 (h.hm.dels _) (h.rm.dels _)
  intro x hx
  rcases List.mem_or_eq_of_mem_set hx with hx|rfl
  ·exact h.lo x hx
  ·exact⟨by omega,by show c.inc≤T.offers;omega⟩
 ·exact h
theorem inv_held (h:Inv n k T) (i:ID) (a:Int) (ha:0≤a∧a<n):Inv n k (heldT T i a 0):=
 inv_frame (U:=heldT T i a 0) h rfl rfl rfl rfl rfl h.ln h.lo h.o0 (h.hm.adds i a ha) (h.rm.mods i _ (sdel_ok a))
theorem inv_refused (h:Inv n k T) (i:ID) (a:Int) (ha:0≤a∧a<n):Inv n k (refusedT T i a 0):=
 inv_frame (U:=refusedT T i a 0) h rfl rfl rfl rfl rfl h.ln h.lo h.o0 (h.hm.mods i _ (sdel_ok a)) (h.rm.adds i a ha)
theorem inv_ack (h:Inv n k T) (c:Cmd) (ha:0≤c.node∧c.node<n):Inv n k (ackT T c 0):=by
 unfold ackT
 split
 ·have h1:=inv_held h ⟨c.key,c.ver⟩ c.node ha
  generalize heldT T ⟨c.key,c.ver⟩ c.node 0=S at *
  unfold ackRest
  split
  ·exact h1
  ·rename_i p hp
   have h2:=inv_done h1 hp 0
   split
   ·exact h1
   ·split
    ·refine inv_put h2 c.key ⟨c.ver,false⟩ ?_ ?_
     ·have:=h1.pv _ (mget_mem hp)
      exact⟨this.2,by simp only at this ⊢;omega⟩
     ·intro q hq e e2
      obtain⟨h3,h4⟩:=done_pending q hq
      apply h4
      obtain⟨⟨qk,qv⟩,qp⟩:=q
      simp only at e e2 ⊢
      rw[e,e2]
    ·exact h2
 ·exact h
theorem inv_refuse (h:Inv n k T) (c:Cmd) (ha:0≤c.node∧c.node<n):Inv n k (refuseT T c 0):=by
 unfold refuseT
 split
 ·have h1:=inv_refused h ⟨c.key,c.ver⟩ c.node ha
  generalize refusedT T ⟨c.key,c.ver⟩ c.node 0=S at *
  unfold refRest
  split
  ·exact h1
  ·rename_i p hp
   split
   ·exact inv_done h1 hp 181
   ·exact h1
 ·exact h
theorem inv_op (h:Inv n k T) (c:Cmd) (ha:0≤c.node∧c.node<n):Inv n k (opT T c 0):=by
 unfold opT
 repeat' split
 ·exact inv_frame (U:={ T with offers:=T.offers+1 }) h rfl rfl rfl rfl rfl h.ln (fun x hx=>by have:=h.lo x hx;exact⟨this.1,by show x≤T.offers+1;omega⟩) (by show 0≤T.offers+1;have:=h.o0;omega) h.hm h.rm
 ·exact inv_life h c ha.1
 ·exact inv_began h c
 ·exact inv_ack h c ha
 ·exact inv_refuse h c ha
 ·exact inv_removed h c
 ·exact inv_rejected h c
theorem inv_clean (h:Inv n k T):Inv n k (cleanT T):=inv_frame (U:=cleanT T) h rfl rfl rfl rfl rfl h.ln h.lo h.o0 (h.hm.filt _) (h.rm.filt _)
theorem inv_step (h:Inv n k T) (c:Cmd) (ha:0≤c.node∧c.node<n):Inv n k (stepT T c):=inv_clean (inv_op h c ha)
def Clean (T:Tab):Prop:=∀x,wantedB T x=false→memH T.holds x = []
theorem clean_step (h:Inv n k T) (c:Cmd) (ha:0≤c.node∧c.node<n):Clean (stepT T c):=by
 intro x hx
 have hU:=inv_op h c ha
 have hx':wantedB (opT T c 0) x=false:=hx
 show memH ((opT T c 0).holds.filter fun p=>!struckH (opT T c 0) p.1 p.2) x = []
 refine memH_filter_none hU.hm _ x (fun s=>?_)
 simp[struckH,hx']
theorem inv_new (N:Nat) (w:Int) (k:Nat) (hk:clampW N w=k):Inv N k (newT N w 0).norm:=by
 refine⟨by simp[newT,Tab.norm],hk,?_,Int.le_refl _,Int.le_refl _,?_,?_,?_,?_,?_,?_,⟨?_,?_⟩,⟨?_,?_⟩⟩ <;> simp[newT,Tab.norm,nsets,lookV,mget]
end
structure RHold where
 id:ID
 node:Int
 inc:Int
 ref:Bool
structure RTab where
 N:Int
 W:Int
 offers:Int
 next:Int
 lives:List Int
 calls:List (Int × CallT)
 vals:List (ByteArray × Val)
 pends:List (ID × Pend)
 holds:List RHold
def rcallV (R:RTab) (n:Int):CallT:=(mget R.calls n).getD ⟨0,0,false,0⟩
def rlookV (R:RTab) (k:ByteArray):Val:=(mget R.vals k).getD ⟨0,false⟩
def rlook (R:RTab) (k:ByteArray):Int:=if (rlookV R k).dead=true then 0 else (rlookV R k).ver
def rpendB (R:RTab) (i:ID):Bool:=(mget R.pends i).isSome
def rwanted (R:RTab) (i:ID):Bool:=rpendB R i || (decide (0<i.ver) && decide (rlook R i.key=i.ver))
def rlife (R:RTab) (a:Int):Int:=R.lives.getD a.toNat 0
def keepH (R:RTab) (h:RHold):Bool:=rwanted R h.id && (decide (rlife R h.node=h.inc) && (!h.ref || rpendB R h.id))
def rclean (R:RTab):RTab:={ R with holds:=R.holds.filter (keepH R) }
def rsays (R:RTab) (h:RHold):RTab:={ R with holds:=(R.holds.filter fun x=>decide (x.id≠h.id) || decide (x.node≠h.node)) ++ [h] }
def rcount (R:RTab) (i:ID) (ref:Bool):Nat:=(R.holds.filter fun h=>decide (h.id=i) && h.ref == ref).length
def rends (R:RTab) (i:ID):RTab:={ R with pends:=R.pends.eraseP fun p=>decide (p.1=i) }
def rdone (R:RTab) (i:ID) (p:Pend) (code:Int):RTab:=
 if (rcallV R p.client).req=p.req∧(rcallV R p.client).ver=i.ver then { R with calls:=mput R.calls p.client ⟨(rcallV R p.client).req,(rcallV R p.client).ver,true,code⟩ } else R
def rbeginsB (R:RTab) (c:Cmd):Bool:=decide ((rcallV R c.client).req<c.req)
def rbegun (R:RTab) (c:Cmd):RTab:={ R with pends:=R.pends.eraseP fun p=>decide (p.2.client=c.client) }
def rnowB (R:RTab) (c:Cmd):Bool:=decide (1≤c.inc) && decide (rlife R c.node=c.inc)
def rvalued (R:RTab) (c:Cmd):RTab:=if (rlookV R c.key).ver<c.ver then { R with vals:=mput R.vals c.key ⟨c.ver,false⟩ } else R
def rack (R:RTab) (c:Cmd):RTab:=
 if (rnowB R c && rwanted R ⟨c.key,c.ver⟩)=true then
  match mget (rsays R ⟨⟨c.key,c.ver⟩,c.node,c.inc,false⟩).pends ⟨c.key,c.ver⟩ with
  | none=>rsays R ⟨⟨c.key,c.ver⟩,c.node,c.inc,false⟩
  | some p=>if (rcount (rsays R ⟨⟨c.key,c.ver⟩,c.node,c.inc,false⟩) ⟨c.key,c.ver⟩ false:Int)<R.W then rsays R ⟨⟨c.key,c.ver⟩,c.node,c.inc,false⟩
   else rclean (rdone (rvalued (rends (rsays R ⟨⟨c.key,c.ver⟩,c.node,c.inc,false⟩) ⟨c.key,c.ver⟩) c) ⟨c.key,c.ver⟩ p 0)
 else R
def rrefuse (R:RTab) (c:Cmd):RTab:=
 match mget R.pends ⟨c.key,c.ver⟩ with
 | none=>R
 | some p=>if rnowB R c=true then
   rclean (if R.N-(rcount (rsays R ⟨⟨c.key,c.ver⟩,c.node,c.inc,true⟩) ⟨c.key,c.ver⟩ true:Int)<R.W then rdone (rends (rsays R ⟨⟨c.key,c.ver⟩,c.node,c.inc,true⟩) ⟨c.key,c.ver⟩) ⟨c.key,c.ver⟩ p 181 else rsays R ⟨⟨c.key,c.ver⟩,c.node,c.inc,true⟩)
  else R
def rdo (R:RTab) (c:Cmd):RTab:=
 if c.kind=1 then rclean { R with offers:=R.offers+1 }
 else if c.kind=2 then rclean (if rlife R c.node<c.inc∧c.inc≤R.offers then { R with lives:=R.lives.set c.node.toNat c.inc } else R)
 else if c.kind=3 then rclean (if rbeginsB R c=true then { rbegun R c with pends:=(rbegun R c).pends ++ [(⟨c.key,R.next⟩,⟨c.client,c.req⟩)],calls:=mput R.calls c.client ⟨c.req,R.next,false,0⟩,next:=R.next+1 } else R)
 else if c.kind=4 then rack R c
 else if c.kind=5 then rrefuse R c
 else if c.kind=6 then rclean (if rbeginsB R c=true then { rbegun R c with vals:=mput R.vals c.key ⟨R.next,true⟩,calls:=mput R.calls c.client ⟨c.req,0,true,0⟩,next:=R.next+1 } else R)
 else rclean (if rbeginsB R c=true then { rbegun R c with calls:=mput R.calls c.client ⟨c.req,0,true,c.code⟩ } else R)
def rnew (n w:Int):RTab:=⟨n,w,0,1,List.replicate n.toNat 0,[],[],[],[]⟩
structure Sim0 (T:Tab) (R:RTab):Prop where
 N:R.N=T.lives.length
 W:R.W=T.w
 offers:R.offers=T.offers
 next:R.next=T.next
 lives:R.lives=T.lives
 calls:∀m,mget R.calls m=mget T.calls m
 vals:∀s,mget R.vals s=mget T.values s
 pends:∀i,mget R.pends i=mget T.pending i
 pn:(R.pends.map (·.1)).Nodup
 vn:(R.vals.map (·.1)).Nodup
 tvn:(T.values.map (·.1)).Nodup
 hold:∀i a,a∈memH T.holds i↔∃h∈R.holds,h.id=i∧h.node=a∧h.ref=false∧rlife R h.node=h.inc
 refu:∀i a,a∈memH T.refuses i↔∃h∈R.holds,h.id=i∧h.node=a∧h.ref=true∧rlife R h.node=h.inc
 hb:∀h∈R.holds,0≤h.node∧h.node<R.N
 hn:(R.holds.map fun h=>(h.id,h.node)).Nodup
structure Sim (T:Tab) (R:RTab):Prop where
 s0:Sim0 T R
 kept:∀h∈R.holds,keepH R h=true
section
variable {n k : Nat} {T U : Tab} {R S : RTab}
theorem Sim0.callV (h:Sim0 T R) (m:Int):rcallV R m=callV T m:=by unfold rcallV Go.Proofs.YtjfelfjobeeenaaGreat.callV;rw[h.calls]
theorem Sim0.lookV (h:Sim0 T R) (s:ByteArray):rlookV R s=lookV T s:=by unfold rlookV Go.Proofs.YtjfelfjobeeenaaGreat.lookV;rw[h.vals]
theorem Sim0.look (h:Sim0 T R) (s:ByteArray):rlook R s=look T s:=by unfold rlook Go.Proofs.YtjfelfjobeeenaaGreat.look;rw[h.lookV]
theorem Sim0.wanted (h:Sim0 T R) (i:ID):rwanted R i=wantedB T i:=by unfold rwanted rpendB wantedB;rw[h.look,h.pends]
theorem Sim0.life (h:Sim0 T R) {a:Int} (h0:0≤a) (h1:a<R.N):rlife R a=lifeV T a:=by
 unfold rlife lifeV
 rw[if_neg (by rw[h.N] at h1;omega),h.lives]
theorem Sim0.begins (h:Sim0 T R) (c:Cmd):rbeginsB R c=beginsB T c:=by unfold rbeginsB beginsB;rw[h.callV]
theorem rclean_id (h:∀x∈R.holds,keepH R x=true):rclean R=R:=by
 unfold rclean
 rw[List.filter_eq_self.2 h]
theorem keep_rclean (h:RHold):keepH (rclean R) h=keepH R h:=rfl
theorem sim_clean (hI:Inv n k T) (h:Sim0 T R):Sim (cleanT T) (rclean R):=by
 refine⟨⟨h.N,h.W,h.offers,h.next,h.lives,h.calls,h.vals,h.pends,h.pn,h.vn,h.tvn,?_,?_,?_,?_⟩,?_⟩
 ·intro i a
  show a∈memH (T.holds.filter fun p=>!struckH T p.1 p.2) i↔_
  cases hw:wantedB T i with
  | false=>
   rw[memH_filter_none hI.hm _ i (fun s=>by simp[struckH,hw])]
   refine⟨fun h=>by simp at h,?_⟩
   rintro⟨x,hx,rfl,_⟩
   have:=(List.mem_filter.1 hx).2
   simp[keepH,h.wanted,hw] at this
  | true=>
   have hm:a∈memH (T.holds.filter fun p=>!struckH T p.1 p.2) i↔a∈memH T.holds i:=by
    unfold memH
    rw[mget_filter hI.hm.nodup]
    cases e:mget T.holds i with
    | none=>simp
    | some s=>
     simp only[Option.bind_some,Option.map_some,Option.getD_some]
     by_cases hs:s.mem = []
     ·simp[struckH,hs]
     ·have:s.mem.length≠0:=fun e=>hs (List.eq_nil_of_length_eq_zero e)
      simp[struckH,hw,hs]
   rw[hm,h.hold]
   constructor
   ·rintro⟨x,hx,rfl,e2,e3,e4⟩
    exact⟨x,List.mem_filter.2 ⟨hx,by simp[keepH,h.wanted,hw,e3,e4]⟩,rfl,e2,e3,e4⟩
   ·rintro⟨x,hx,rfl,e2,e3,e4⟩
    exact⟨x,(List.mem_filter.1 hx).1,rfl,e2,e3,e4⟩
 ·intro i a
  show a∈memH (T.refuses.filter fun p=>!struckR T p.1 p.2) i↔_
  cases hw:(mget T.pending i).isSome with
  | false=>
   rw[memH_filter_none hI.rm _ i (fun s=>by simp[struckR,hw])]
   refine⟨fun h=>by simp at h,?_⟩
   rintro⟨x,hx,rfl,_,e3,_⟩
   have:=(List.mem_filter.1 hx).2
   simp[keepH,rpendB,h.pends,hw,e3] at this
  | true=>
   have hm:a∈memH (T.refuses.filter fun p=>!struckR T p.1 p.2) i↔a∈memH T.refuses i:=by
    unfold memH
    rw[mget_filter hI.rm.nodup]
    cases e:mget T.refuses i with
    | none=>simp
    | some s=>
     simp only[Option.bind_some,Option.map_some,Option.getD_some]
     by_cases hs:s.mem = []
     ·simp[struckR,hs]
     ·have:s.mem.length≠0:=fun e=>hs (List.eq_nil_of_length_eq_zero e)
      simp[struckR,hw,hs]
   rw[hm,h.refu]
   constructor
   ·rintro⟨x,hx,rfl,e2,e3,e4⟩
    exact⟨x,List.mem_filter.2 ⟨hx,by simp[keepH,rwanted,rpendB,h.pends,hw,e4]⟩,rfl,e2,e3,e4⟩
   ·rintro⟨x,hx,rfl,e2,e3,e4⟩
    exact⟨x,(List.mem_filter.1 hx).1,rfl,e2,e3,e4⟩
 ·intro x hx;exact h.hb x (List.mem_filter.1 hx).1
 ·exact h.hn.sublist ((List.filter_sublist).map _)
 ·intro x hx;rw[keep_rclean];exact(List.mem_filter.1 hx).2
theorem Sim.life (h:Sim T R) {x:RHold} (hx:x∈R.holds):rlife R x.node=x.inc:=by
 have:=h.kept x hx
 simp only[keepH,Bool.and_eq_true,decide_eq_true_eq] at this
 exact this.2.1
end
end Go.Proofs.YtjfelfjobeeenaaGreat
namespace Go.Sf
open Go.RowKit Go.Lib
end Go.Sf
namespace Go.Proofs.YtjfelfjobeeenaaGreat
open Go.RowKit Go.Sf
def be:Nat→Nat→List Int
 | 0,_=>[]
 | k+1,n=>be k (n / 256) ++ [((n%256:Nat):Int)]
@[go_sem] theorem as8_8 (v:Value) (w:World):(Instr.typeAssert (.iface 5 v) 20 5 true).run Tryz.prog w = .ok (.tuple #[v,.bool true]) w:=by kernel_rfl
@[go_sem] theorem as16_8 (v:Value) (w:World):(Instr.typeAssert (.iface 99 v) 20 5 true).run Tryz.prog w = .ok (.tuple #[.int .u8 0,.bool false]) w:=by kernel_rfl
@[go_sem] theorem as16_16 (v:Value) (w:World):(Instr.typeAssert (.iface 99 v) 20 99 true).run Tryz.prog w = .ok (.tuple #[v,.bool true]) w:=by kernel_rfl
@[go_sem] theorem as64_8 (v:Value) (w:World):(Instr.typeAssert (.iface 101 v) 20 5 true).run Tryz.prog w = .ok (.tuple #[.int .u8 0,.bool false]) w:=by kernel_rfl
@[go_sem] theorem as64_16 (v:Value) (w:World):(Instr.typeAssert (.iface 101 v) 20 99 true).run Tryz.prog w = .ok (.tuple #[.int .u16 0,.bool false]) w:=by kernel_rfl
@[go_sem] theorem as64_32 (v:Value) (w:World):(Instr.typeAssert (.iface 101 v) 20 224 true).run Tryz.prog w = .ok (.tuple #[.int .u32 0,.bool false]) w:=by kernel_rfl
structure Turn (bs:Nat→Prop) (w w':World):Prop where
 os:w'.os=w.os
 tape:w'.tape=w.tape
 output:w'.output=w.output
 size:w.heap.size≤w'.heap.size
 block:∀k,k<w.heap.size→¬bs k→w'.heap[k]? = w.heap[k]?
theorem Turn.mono {bs cs:Nat→Prop} {w w':World} (h:Turn bs w w') (hs:∀k,bs k→cs k):Turn cs w w':=⟨h.os,h.tape,h.output,h.size,fun k hk hn=>h.block k hk (fun e=>hn (hs k e))⟩
section
variable {W : World} {wb base : Nat} {v : Value} {l : List Int}
end
open Go.RowKit Go.Sf Go.Shelf
def cellsC (c:Int × CallT):List Value:=[.int .i64 c.1,.int .i64 c.2.req,.int .i64 c.2.ver,.bool c.2.done,.int .i64 c.2.code]
def cellsV (v:ByteArray × Val):List Value:=[.string v.1,.int .i64 v.2.ver,.bool v.2.dead]
def cellsP (p:ID × Pend):List Value:=[.string p.1.key,.int .i64 p.1.ver,.int .i64 p.2.client,.int .i64 p.2.req]
def cellsH (h:RHold):List Value:=[.string h.id.key,.int .i64 h.id.ver,.int .i64 h.node,.int .i64 h.inc,.bool h.ref]
theorem flat_at {α:Type} (enc:α→List Value) (sz:Nat) (he:∀x,(enc x).length=sz):∀(l:List α) (i j:Nat) (hi:i<l.length),j<sz→(l.flatMap enc)[i*sz+j]? = (enc l[i])[j]?
 | [],i,j,hi,_=>by simp at hi
 | x :: r,0,j,hi,hj=>by
  simp only[List.flatMap_cons,Nat.zero_mul,Nat.zero_add,List.getElem_cons_zero]
  rw[List.getElem?_append_left (by rw[he];exact hj)]
 | x :: r,i+1,j,hi,hj=>by
  simp only[List.flatMap_cons,List.getElem_cons_succ]
  rw[List.getElem?_append_right (by rw[he,Nat.succ_mul];omega),he]
  have e:(i+1)*sz+j-sz=i*sz+j:=by rw[Nat.succ_mul];omega
  rw[e]
  exact flat_at enc sz he r i j (by simpa using hi) hj
theorem flat_size {α:Type} (enc:α→List Value) (sz:Nat) (he:∀x,(enc x).length=sz):∀(l:List α),(l.flatMap enc).length=l.length*sz
 | []=>by simp
 | x :: r=>by simp only[List.flatMap_cons,List.length_append,he,flat_size enc sz he r,List.length_cons,Nat.succ_mul];omega
def SRow {α:Type} (W:World) (E:TypeId) (sz:Nat) (enc:α→List Value) (v:Value) (l:List α):Prop:=W.ownsRow 0 E sz v l.length (l.flatMap enc)
section
variable {α : Type} {W W' : World} {E : TypeId} {sz : Nat} {enc : α → List Value} {v : Value} {l : List α}
theorem SRow.form (h:SRow W E sz enc v l):∃p cap,v = .slice p l.length cap∧cap≤9223372036854775807∧l.length≤cap:=by
 rcases h.2 with ⟨e1,h0⟩|⟨b,c,cur,e1,_,_,r1,r2,_⟩
 ·exact⟨none,0,by rw[e1,h0],by omega,by omega⟩
 ·exact⟨_,_,e1,by unfold maxLen at r2;omega,r1⟩
theorem SRow.at (he:∀x,(enc x).length=sz) (h:SRow W E sz enc v l):l = []∨∃g cap,v = .slice (some ⟨g,0,none⟩) l.length cap∧(∀i,(hi:i<l.length)→∀j u,(enc l[i])[j]? = some u→W.cell? ⟨g,i*sz+j,none⟩=some u)∧∀i,W.frozen? ⟨g,i,none⟩=false:=by
 rcases h.2 with ⟨e1,h0⟩|⟨b,c,cur,e1,_,hb,r1,r2,r3,r4⟩
 ·exact Or.inl (List.eq_nil_of_length_eq_zero h0)
 ·refine Or.inr ⟨b,c,e1,fun i hi j u hu=>?_,fun i=>by simp[World.frozen?,hb]⟩
  have hj:j<sz:=by
   have:=(List.getElem?_eq_some_iff.1 hu).1
   rw[he] at this
   exact this
  have h2:=h
  unfold SRow at h2
  rw[e1] at h2
  have hlt:i*sz+j<l.length*sz:=by
   have:(i+1)*sz≤l.length*sz:=Nat.mul_le_mul_right _ hi
   rw[Nat.succ_mul] at this
   omega
  rw[h2.cellAt _ hlt,flat_at enc sz he l i j hi hj]
  exact hu
theorem SRow.same (h:SRow W E sz enc v l) (hs:∀g,v.ownBlock=some g→W'.heap[g]? = W.heap[g]?):SRow W' E sz enc v l:=by
 refine⟨h.1,?_⟩
 rcases h.2 with hn|⟨b,cap,cur,rfl,h1,hb,h3⟩
 ·exact .inl hn
 ·exact .inr ⟨b,cap,cur,rfl,h1,(hs b (by simp[Value.ownBlock])).trans hb,h3⟩
theorem SRow.lt (h:SRow W E sz enc v l) {g:Nat} (hg:v.ownBlock=some g):g<W.heap.size:=(World.ownsRow.lt h g hg).2
theorem SRow.kind (h:SRow W E sz enc v l) {g:Nat} (hg:v.ownBlock=some g):∃c,W.heap[g]? = some (.cells c E (0,0)):=by
 rcases h.2 with ⟨rfl,_⟩|⟨b,cap,cur,rfl,_,hb,_⟩
 ·simp[Value.ownBlock] at hg
 ·simp[Value.ownBlock] at hg
  subst hg
  exact⟨_,hb⟩
theorem SRow.grown (h:SRow W E sz enc v l) {r:Option Nat} (hg:W.grownBy W' r) (hr:∀g,v.ownBlock=some g→r≠some g):SRow W' E sz enc v l:=
 h.same fun g hg2=>hg.block g (h.lt hg2) (fun e=>hr g hg2 e.symm)
end
theorem own_ne {W:World} {α:Type} {E E':TypeId} {sz:Nat} {enc:α→List Value} {v:Value} {l:List α} (h:SRow W E sz enc v l) {g:Nat} {c:Array Value} {fr:Nat × Nat} (hg:W.heap[g]? = some (.cells c E' fr)) (hne:E≠E'):v.ownBlock≠some g:=by
 intro e
 obtain⟨c',h2⟩:=h.kind e
 rw[hg] at h2
 cases h2
 exact hne rfl
def cellsI (n:Int):List Value:=[.int .i64 n]
theorem lenC:∀x,(cellsC x).length=5:=fun _=>rfl
theorem lenV:∀x,(cellsV x).length=3:=fun _=>rfl
theorem lenP:∀x,(cellsP x).length=4:=fun _=>rfl
theorem lenH:∀x,(cellsH x).length=5:=fun _=>rfl
theorem lenI:∀x,(cellsI x).length=1:=fun _=>rfl
structure RMem (W:World) (rb:Nat) (R:RTab) (vL vC vV vP vH:Value):Prop where
 box:W.heap[rb]? = some (.cells #[.int .i64 R.N,.int .i64 R.W,.int .i64 R.offers,.int .i64 R.next,vL,vC,vV,vP,vH] 52 (0,0))
 lives:SRow W 2 1 cellsI vL R.lives
 calls:SRow W 193 5 cellsC vC R.calls
 vals:SRow W 202 3 cellsV vV R.vals
 pends:SRow W 190 4 cellsP vP R.pends
 holds:SRow W 197 5 cellsH vH R.holds
section
variable {W W' : World} {rb : Nat} {R : RTab} {vL vC vV vP vH : Value}
theorem RMem.c0 (h:RMem W rb R vL vC vV vP vH):W.cell? ⟨rb,0,none⟩=some (.int .i64 R.N):=(cell_block h.box 0).trans rfl
theorem RMem.c1 (h:RMem W rb R vL vC vV vP vH):W.cell? ⟨rb,1,none⟩=some (.int .i64 R.W):=(cell_block h.box 1).trans rfl
theorem RMem.c2 (h:RMem W rb R vL vC vV vP vH):W.cell? ⟨rb,2,none⟩=some (.int .i64 R.offers):=(cell_block h.box 2).trans rfl
theorem RMem.c3 (h:RMem W rb R vL vC vV vP vH):W.cell? ⟨rb,3,none⟩=some (.int .i64 R.next):=(cell_block h.box 3).trans rfl
theorem RMem.c4 (h:RMem W rb R vL vC vV vP vH):W.cell? ⟨rb,4,none⟩=some vL:=(cell_block h.box 4).trans rfl
theorem RMem.c5 (h:RMem W rb R vL vC vV vP vH):W.cell? ⟨rb,5,none⟩=some vC:=(cell_block h.box 5).trans rfl
theorem RMem.c6 (h:RMem W rb R vL vC vV vP vH):W.cell? ⟨rb,6,none⟩=some vV:=(cell_block h.box 6).trans rfl
theorem RMem.c7 (h:RMem W rb R vL vC vV vP vH):W.cell? ⟨rb,7,none⟩=some vP:=(cell_block h.box 7).trans rfl
theorem RMem.c8 (h:RMem W rb R vL vC vV vP vH):W.cell? ⟨rb,8,none⟩=some vH:=(cell_block h.box 8).trans rfl
theorem RMem.free (h:RMem W rb R vL vC vV vP vH) (i:Nat):W.frozen? ⟨rb,i,none⟩=false:=free_block h.box i
theorem RMem.lt (h:RMem W rb R vL vC vV vP vH):rb<W.heap.size:=(Array.getElem?_eq_some_iff.1 h.box).1
theorem RMem.grown (h:RMem W rb R vL vC vV vP vH) (hg:W.grownBy W' none):RMem W' rb R vL vC vV vP vH:=
 ⟨(hg.block rb h.lt (by simp)).trans h.box,h.lives.grown hg (by simp),h.calls.grown hg (by simp),h.vals.grown hg (by simp),h.pends.grown hg (by simp),h.holds.grown hg (by simp)⟩
end
def RAt (bs:Nat→Prop) (W:World) (rb:Nat) (R:RTab):Prop:=
 ∃vL vC vV vP vH,RMem W rb R vL vC vV vP vH∧bs rb∧(∀g,vL.ownBlock=some g→bs g)∧(∀g,vC.ownBlock=some g→bs g)∧(∀g,vV.ownBlock=some g→bs g)∧(∀g,vP.ownBlock=some g→bs g)∧(∀g,vH.ownBlock=some g→bs g)
theorem RAt.grown {bs:Nat→Prop} {W W':World} {rb:Nat} {R:RTab} (h:RAt bs W rb R) (hg:W.grownBy W' none):RAt bs W' rb R:=by
 obtain⟨vL,vC,vV,vP,vH,h1,h2⟩:=h
 exact⟨vL,vC,vV,vP,vH,h1.grown hg,h2⟩
theorem RAt.lt {bs:Nat→Prop} {W:World} {rb:Nat} {R:RTab} (h:RAt bs W rb R):rb<W.heap.size:=by
 obtain⟨vL,vC,vV,vP,vH,h1,h2⟩:=h
 exact h1.lt
theorem RAt.turn {bs cs:Nat→Prop} {W W':World} {rb:Nat} {R:RTab} (h:RAt bs W rb R) (ht:∀k,k<W.heap.size→bs k→W'.heap[k]? = W.heap[k]?):RAt bs W' rb R:=by
 obtain⟨vL,vC,vV,vP,vH,h1,h2,h3,h4,h5,h6,h7⟩:=h
 refine⟨vL,vC,vV,vP,vH,⟨(ht rb h1.lt h2).trans h1.box,h1.lives.same fun g hg=>ht g (h1.lives.lt hg) (h3 g hg),h1.calls.same fun g hg=>ht g (h1.calls.lt hg) (h4 g hg),h1.vals.same fun g hg=>ht g (h1.vals.lt hg) (h5 g hg),h1.pends.same fun g hg=>ht g (h1.pends.lt hg) (h6 g hg),h1.holds.same fun g hg=>ht g (h1.holds.lt hg) (h7 g hg)⟩,h2,h3,h4,h5,h6,h7⟩
theorem RAt.mono {bs cs:Nat→Prop} {W:World} {rb:Nat} {R:RTab} (h:RAt bs W rb R) (hs:∀k,k<W.heap.size→bs k→cs k):RAt cs W rb R:=by
 obtain⟨vL,vC,vV,vP,vH,h1,h2,h3,h4,h5,h6,h7⟩:=h
 exact⟨vL,vC,vV,vP,vH,h1,hs _ h1.lt h2,fun g hg=>hs g (h1.lives.lt hg) (h3 g hg),fun g hg=>hs g (h1.calls.lt hg) (h4 g hg),fun g hg=>hs g (h1.vals.lt hg) (h5 g hg),fun g hg=>hs g (h1.pends.lt hg) (h6 g hg),fun g hg=>hs g (h1.holds.lt hg) (h7 g hg)⟩
end Go.Proofs.YtjfelfjobeeenaaGreat
