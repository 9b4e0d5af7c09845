/- TableBytes, plain: what is kept of ranges, and of no empty set; two tables with the same lookups. Conditions: none, or as the theorems say. -/
import Derived.Test.YtjfelfjobeeenaaGreatN47
import Derived.Test.YtjfelfjobeeenaaGreatN31
namespace Go.Proofs.YtjfelfjobeeenaaGreat
set_option maxHeartbeats 200000000
set_option linter.unusedVariables false
set_option linter.unusedSimpArgs false
open Go.RowKit Go.Sf Go.Shelf
def I64 (x:Int):Prop:=-9223372036854775808≤x∧x<9223372036854775808
structure zn7 (p:Int × yz):Prop where
 c0:0≤p.1
 c1:p.1≤65535
 r:I64 p.2.zvy
 v:I64 p.2.zvz
 e0:0≤p.2.code
 e1:p.2.code≤65535
structure zjx (p:ID × xd):Prop where
 k:p.1.key.size≤64
 c0:0≤p.2.zvw
 c1:p.2.zvw≤65535
 r:I64 p.2.zvy
structure Rng (T:Tab):Prop where
 c:∀p∈T.calls,zn7 p
 v:∀p∈T.values,1≤p.2.zvz∧p.1.size≤64
 p:∀p∈T.pending,zjx p
 cn:(T.calls.map (·.1)).Nodup
 vn:(T.values.map (·.1)).Nodup
structure zge (T:Tab):Prop where
 h:∀p∈T.holds,p.2.mem≠[]∧yl T p.1=true
 r:∀p∈T.zv2,p.2.mem≠[]∧(zt T.pending p.1).isSome=true
theorem zb1 {K V:Type} [DecidableEq K] {M:List (K × V)} {i:K} {s:V} {x:K × V} (h:x∈ym M i s):x∈M∨x=(i,s):=by
 induction M with
 | nil=>simp[ym] at h;exact Or.inr h
 | cons p r ih=>
  rw[ym] at h
  by_cases e:p.1=i
  ·rw[if_pos e] at h
   rcases List.mem_cons.1 h with h|h
   ·exact Or.inr h
   ·exact Or.inl (List.mem_cons_of_mem _ h)
  ·rw[if_neg e] at h
   rcases List.mem_cons.1 h with h|h
   ·exact Or.inl (h ▸ List.mem_cons_self)
   ·rcases ih h with h|h
    ·exact Or.inl (List.mem_cons_of_mem _ h)
    ·exact Or.inr h
section
variable {T U : Tab} {c : Cmd}
theorem zpo (T:Tab):zge (jt T):=by
 refine⟨fun p hp=>?_,fun p hp=>?_⟩
 ·obtain⟨h1,h2⟩:=List.mem_filter.1 hp
  simp only[qu,Bool.not_or,Bool.and_eq_true,Bool.not_not,Bool.not_eq_true',decide_eq_false_iff_not] at h2
  exact⟨fun e=>h2.1 (by rw[e];rfl),h2.2⟩
 ·obtain⟨h1,h2⟩:=List.mem_filter.1 hp
  simp only[Vp,Bool.not_or,Bool.and_eq_true,Bool.not_not,Bool.not_eq_true',decide_eq_false_iff_not] at h2
  exact⟨fun e=>h2.1 (by rw[e];rfl),h2.2⟩
theorem zvh (h:zge T) (c:Cmd):zge (Xz T c):=by
 unfold Xz
 split
 ·exact zpo _
 ·exact h
theorem zvi (N:Nat) (w:Int):zge (qn N w 0).norm:=⟨fun p hp=>by simp[qn,Tab.norm,vp] at hp,fun p hp=>by simp[qn,Tab.norm,vp] at hp⟩
theorem rng_new (N:Nat) (w:Int):Rng (qn N w 0).norm:=⟨fun p hp=>by simp[qn,Tab.norm] at hp,fun p hp=>by simp[qn,Tab.norm] at hp,fun p hp=>by simp[qn,Tab.norm] at hp,by simp[qn,Tab.norm],by simp[qn,Tab.norm]⟩
theorem Rng.same (h:Rng T) (hc:U.calls=T.calls) (hv:U.values=T.values) (hp:U.pending=T.pending):Rng U:=⟨by rw[hc];exact h.c,by rw[hv];exact h.v,by rw[hp];exact h.p,by rw[hc];exact h.cn,by rw[hv];exact h.vn⟩
theorem Rng.less (h:Rng T) (hc:U.calls=T.calls) (hv:U.values=T.values) (hp:∀p∈U.pending,p∈T.pending):Rng U:=⟨by rw[hc];exact h.c,by rw[hv];exact h.v,fun p hq=>h.p p (hp p hq),by rw[hc];exact h.cn,by rw[hv];exact h.vn⟩
theorem Rng.call (h:Rng T) {m:Int} {x:yz} (hx:zn7 (m,x)):Rng { T with calls:=ym T.calls m x }:=
 ⟨fun p hp=>by rcases zb1 hp with hp|rfl;exact h.c p hp;exact hx,h.v,h.p,jd h.cn _ _,h.vn⟩
theorem Rng.val (h:Rng T) {s:ByteArray} {x:Val} (hx:1≤x.zvz∧s.size≤64):Rng { T with values:=ym T.values s x }:=
 ⟨h.c,fun p hp=>by rcases zb1 hp with hp|rfl;exact h.v p hp;exact hx,h.p,h.cn,jd h.vn _ _⟩
theorem Rng.pend (h:Rng T) {i:ID} {x:xd} (hx:zjx (i,x)):Rng { T with pending:=ym T.pending i x }:=
 ⟨h.c,h.v,fun p hp=>by rcases zb1 hp with hp|rfl;exact h.p p hp;exact hx,h.cn,h.vn⟩
theorem Rng.callV (h:Rng T) (m:Int):I64 (callV T m).zvy∧I64 (callV T m).zvz:=by
 unfold Go.Proofs.YtjfelfjobeeenaaGreat.callV
 cases e:zt T.calls m with
 | none=>simp[I64]
 | some x=>have:=h.c _ (yd e);exact⟨this.r,this.v⟩
theorem Rng.done (h:Rng T) {i:ID} {p:xd} (hp:zjx (i,p)) {code:Int} (h0:0≤code) (h1:code≤65535):Rng (jw T i p code):=by
 have hb:Rng { T with pending:=Ug T.pending i }:=h.less rfl rfl fun q hq=>(List.mem_filter.1 hq).1
 have hv:=h.callV p.zvw;unfold jw Zl
 split
 ·exact Rng.call (T:={ T with pending:=Ug T.pending i }) hb ⟨hp.c0,hp.c1,hv.1,hv.2,h0,h1⟩
 ·exact hb
theorem rng_act {n k:Nat} (hI:Inv n k T) (h:Rng T) (hx:T.next<1000000):Rng (Xz T c):=by
 have hn1:=hI.nx;unfold Xz
 split
 case isFalse=>exact h
 case isTrue hm=>
  have hm1:=hm.1;unfold ua zcg Qf at hm1;simp only[Bool.and_eq_true,decide_eq_true_eq] at hm1;obtain⟨⟨⟨⟨⟨k1,k7⟩,hb⟩,hl⟩,hs⟩,hk⟩:=hm1;have hreq:I64 c.zvy:=⟨by omega,by omega⟩
  have hnx:I64 T.next:=⟨by omega,by omega⟩
  have i0:I64 0:=⟨by decide,by decide⟩
  have z0:(0:Int)≤0:=by decide
  have z1:(0:Int)≤65535:=by decide
  have hdrop:Rng { T with pending:=Zz T c.zvw }:=h.less rfl rfl fun q hq=>(List.mem_filter.1 hq).1
  unfold uc doT;refine Rng.same (T:=opT T c 0) ?_ rfl rfl rfl;unfold opT
  split
  ·exact h.same rfl rfl rfl
  split
  ·unfold Xu
   split
   ·exact h.same rfl rfl rfl
   ·exact h
  split
  ·unfold Va
   split
   ·have h1:=hdrop.pend (i:=⟨c.key,T.next⟩) (x:=⟨c.zvw,c.zvy⟩) ⟨hk,hs.2.2.1,hs.2.2.2.1,hreq⟩
    exact(h1.call (m:=c.zvw) (x:=⟨c.zvy,T.next,false,0⟩) ⟨hs.2.2.1,hs.2.2.2.1,hreq,hnx,z0,z1⟩).same rfl rfl rfl
   ·exact h
  split
  ·unfold Qs
   split
   ·have h1:Rng (uj T ⟨c.key,c.zvz⟩ c.node 0):=h.same rfl rfl rfl
    unfold jn
    cases e:zt (uj T ⟨c.key,c.zvz⟩ c.node 0).pending ⟨c.key,c.zvz⟩ with
    | none=>exact h1
    | some p=>
     have hp:=h1.p _ (yd e);have h2:=h1.done hp (code:=0) (by decide) (by decide)
     simp only[]
     split
     ·exact h1
     split
     ·rename_i hlt
      refine h2.val ⟨?_,hk⟩
      exact(hI.pv _ (yd (m:=T.pending) e)).1
     ·exact h2
   ·exact h
  split
  ·unfold Zj
   split
   ·have h1:Rng (xg T ⟨c.key,c.zvz⟩ c.node 0):=h.same rfl rfl rfl
    unfold Yh
    cases e:zt (xg T ⟨c.key,c.zvz⟩ c.node 0).pending ⟨c.key,c.zvz⟩ with
    | none=>exact h1
    | some p=>
     have hp:=h1.p _ (yd e);simp only[]
     split
     ·exact h1.done hp (by decide) (by decide)
     ·exact h1
   ·exact h
  split
  ·unfold jz
   split
   ·have h1:=hdrop.val (s:=c.key) (x:=⟨T.next,true⟩) ⟨hn1,hk⟩
    exact(h1.call (m:=c.zvw) (x:=⟨c.zvy,0,true,0⟩) ⟨hs.2.2.1,hs.2.2.2.1,hreq,i0,z0,z1⟩).same rfl rfl rfl
   ·exact h
  ·unfold qy
   split
   ·exact(hdrop.call (m:=c.zvw) (x:=⟨c.zvy,0,true,c.code⟩) ⟨hs.2.2.1,hs.2.2.2.1,hreq,i0,hs.2.2.2.2.1,hs.2.2.2.2.2⟩).same rfl rfl rfl
   ·exact h
end
def za4 (a b:Option ye):Prop:=(a=none∧b=none)∨∃s s',a=some s∧b=some s'∧s.mem.Perm s'.mem
structure Uo (T U:Tab):Prop where
 w:U.w=T.w
 offers:U.offers=T.offers
 next:U.next=T.next
 zv0:U.zv0=T.zv0
 calls:∀m,zt U.calls m=zt T.calls m
 vals:∀s,zt U.values s=zt T.values s
 zv1:∀i,zt U.pending i=zt T.pending i
 holds:∀i,za4 (zt T.holds i) (zt U.holds i)
 refs:∀i,za4 (zt T.zv2 i) (zt U.zv2 i)
structure Nod (T:Tab):Prop where
 c:(T.calls.map (·.1)).Nodup
 v:(T.values.map (·.1)).Nodup
 p:(T.pending.map (·.1)).Nodup
 h:(T.holds.map (·.1)).Nodup
 r:(T.zv2.map (·.1)).Nodup
section
variable {T U : Tab} {R : yp} {n k : Nat}
theorem zbv {K V:Type} [DecidableEq K] {a b:List (K × V)} (ha:(a.map (·.1)).Nodup) (hb:(b.map (·.1)).Nodup) (h:∀i,(zt a i).isSome=(zt b i).isSome):(a.map (·.1)).Perm (b.map (·.1)):=by
 refine(List.perm_ext_iff_of_nodup ha hb).2 fun i=>?_
 have e:∀m:List (K × V),i∈m.map (·.1)↔(zt m i).isSome=true:=fun m=>by
  rw[zch]
  constructor
  ·intro hm
   obtain⟨x,hx,rfl⟩:=List.mem_map.1 hm
   exact⟨x.2,hx⟩
  ·rintro⟨v,hv⟩
   exact List.mem_map.2 ⟨_,hv,rfl⟩
 rw[e a,e b,h i]
theorem zdg {K V:Type} {a b:List (K × V)} (h:(a.map (·.1)).Perm (b.map (·.1))):a.length=b.length:=by
 have:=h.length_eq;simpa using this
theorem zfj {V:Type} {a b:List (ID × V)} (ha:(a.map (·.1)).Nodup) (hb:(b.map (·.1)).Nodup) (h:(a.map (·.1)).Perm (b.map (·.1))):qe a=qe b:=
 Qg (Yi ha) (Yi hb) fun x=>(Vh ha x).trans (h.mem_iff.trans (Vh hb x).symm)
theorem zha {a b:List Int} (h:a.Perm b):Ud a=Ud b:=by
 unfold Ud
 exact mergeSort_of_perm_i h
theorem za4.isSome {a b:Option ye} (h:za4 a b):a.isSome=b.isSome:=by
 rcases h with ⟨rfl,rfl⟩|⟨s,s',rfl,rfl,_⟩ <;> rfl
theorem zfm {a b:List (ID × ye)} (ha:(a.map (·.1)).Nodup) (hb:(b.map (·.1)).Nodup) (h:∀i,za4 (zt a i) (zt b i)):jf a=jf b:=by
 have hp:=zbv ha hb fun i=>(h i).isSome
 unfold jf;rw[zdg hp,zfj ha hb hp]
 congr 1
 congr 1
 funext i
 unfold zah zhv
 rcases h i with ⟨e1,e2⟩|⟨s,s',e1,e2,hs⟩
 ·rw[e1,e2]
 ·rw[e1,e2]
  simp only[Option.getD_some];rw[zha hs,hs.length_eq]
theorem zil (h:Uo T U) (hT:Nod T) (hU:Nod U):qa T=qa U:=by
 have hc:=zbv hT.c hU.c fun i=>by rw[h.calls i]
 have hv:=zbv hT.v hU.v fun i=>by rw[h.vals i]
 have hp:=zbv hT.p hU.p fun i=>by rw[h.zv1 i]
 have e1:Qd T.calls=Qd U.calls:=by
  unfold Qd;rw[zdg hc,show Yz T.calls=Yz U.calls from by unfold Yz;exact zha hc]
  congr 1
  congr 1
  funext i
  unfold zco cAt;rw[h.calls i]
 have e2:Xv T.values=Xv U.values:=by
  unfold Xv;rw[zdg hv,show Zx T.values=Zx U.values from by unfold Zx;refine mergeSort_of_perm ?_;have e:=hv.map (fun k:ByteArray=>k.data.toList);rwa [List.map_map,List.map_map] at e]
  congr 1
  congr 1
  funext i
  unfold zev vAt;rw[h.vals]
 have e3:Vw T.pending=Vw U.pending:=by
  unfold Vw;rw[zdg hp,zfj hT.p hU.p hp]
  congr 1
  congr 1
  funext i
  unfold zbg pAt;rw[h.zv1 i]
 unfold qa;rw[e1,e2,e3,zfm hT.h hU.h h.holds,zfm hT.r hU.r h.refs,h.w,h.offers,h.next,h.zv0]
theorem za4.memH {a b:List (ID × ye)} {i:ID} (h:za4 (zt a i) (zt b i)):(Go.Proofs.YtjfelfjobeeenaaGreat.memH a i).Perm (Go.Proofs.YtjfelfjobeeenaaGreat.memH b i):=by
 unfold Go.Proofs.YtjfelfjobeeenaaGreat.memH
 rcases h with ⟨e1,e2⟩|⟨s,s',e1,e2,hs⟩
 ·rw[e1,e2]
 ·rw[e1,e2];exact hs
theorem Uo.callV (h:Uo T U) (m:Int):callV U m=Go.Proofs.YtjfelfjobeeenaaGreat.callV T m:=by unfold Go.Proofs.YtjfelfjobeeenaaGreat.callV;rw[h.calls]
theorem Uo.lookV (h:Uo T U) (s:ByteArray):lookV U s=Go.Proofs.YtjfelfjobeeenaaGreat.lookV T s:=by unfold Go.Proofs.YtjfelfjobeeenaaGreat.lookV;rw[h.vals]
theorem Uo.look (h:Uo T U) (s:ByteArray):look U s=Go.Proofs.YtjfelfjobeeenaaGreat.look T s:=by unfold Go.Proofs.YtjfelfjobeeenaaGreat.look;rw[h.lookV]
theorem Uo.wanted (h:Uo T U) (i:ID):yl U i=yl T i:=by unfold yl;rw[h.look,h.zv1]
theorem znp {a b:List (ID × ye)} (ha:Xh n a) (hb:Xh n b) (ta:∀p∈a,p.2.mem≠[]) (tb:∀p∈b,p.2.mem≠[]) (i:ID) (h:∀x,x∈memH a i↔x∈memH b i):za4 (zt a i) (zt b i):=by
 unfold memH at h
 cases e1:zt a i with
 | none=>
  cases e2:zt b i with
  | none=>exact Or.inl ⟨rfl,rfl⟩
  | some s=>
   rw[e1,e2] at h
   exfalso
   cases hs:s.mem with
   | nil=>exact tb _ (yd e2) hs
   | cons x r=>have:=(h x).2 (by simp[hs]);simp at this
 | some s=>
  cases e2:zt b i with
  | none=>
   rw[e1,e2] at h
   exfalso
   cases hs:s.mem with
   | nil=>exact ta _ (yd e1) hs
   | cons x r=>have:=(h x).1 (by simp[hs]);simp at this
  | some s'=>
   rw[e1,e2] at h
   exact Or.inr ⟨s,s',rfl,rfl,(List.perm_ext_iff_of_nodup (ha.mem _ (yd e1)).1 (hb.mem _ (yd e2)).1).2 h⟩
theorem zj1 (hT:Inv n k T) (hU:Inv n k U) (h:Sim T R) (g:Sim U R) (tT:zge T) (tU:zge U):Uo T U where
 w:=g.s0.W.symm.trans h.s0.W
 offers:=g.s0.offers.symm.trans h.s0.offers
 next:=g.s0.next.symm.trans h.s0.next
 zv0:=g.s0.zv0.symm.trans h.s0.zv0
 calls m:=(g.s0.calls m).symm.trans (h.s0.calls m)
 vals m:=(g.s0.vals m).symm.trans (h.s0.vals m)
 zv1 m:=(g.s0.zv1 m).symm.trans (h.s0.zv1 m)
 holds i:=znp hT.hm hU.hm (fun p hp=>(tT.h p hp).1) (fun p hp=>(tU.h p hp).1) i fun x=>by rw[h.s0.hold,g.s0.hold]
 refs i:=znp hT.rm hU.rm (fun p hp=>(tT.r p hp).1) (fun p hp=>(tU.r p hp).1) i fun x=>by rw[h.s0.refu,g.s0.refu]
theorem Sim.alike (h:Sim T R) (a:Uo T U) (hU:Nod U):Sim U R:=by
 refine⟨⟨by rw[h.s0.N,a.zv0],by rw[h.s0.W,a.w],by rw[h.s0.offers,a.offers],by rw[h.s0.next,a.next],by rw[h.s0.zv0,a.zv0],fun m=>by rw[h.s0.calls,a.calls],fun m=>by rw[h.s0.vals,a.vals],fun m=>by rw[h.s0.zv1,a.zv1],h.s0.pn,h.s0.vn,hU.v,fun i x=>?_,fun i x=>?_,h.s0.hb,h.s0.hn⟩,h.kept⟩
 ·rw[←h.s0.hold i x];exact(a.holds i).memH.mem_iff.symm
 ·rw[←h.s0.refu i x];exact(a.refs i).memH.mem_iff.symm
theorem zb0 {K V:Type} [DecidableEq K] {a b:List (K × V)} (hb:(b.map (·.1)).Nodup) (h:∀i,zt b i=zt a i) {p:K × V} (hp:p∈b):p∈a:=yd (by rw[←h];exact vo hb hp)
theorem Xh.alike {a b:List (ID × ye)} (h:Xh n a) (hb:(b.map (·.1)).Nodup) (g:∀i,za4 (zt a i) (zt b i)):Xh n b:=by
 refine⟨hb,fun p hp=>?_⟩
 have e2:=vo hb hp
 rcases g p.1 with ⟨_,e⟩|⟨s,s',e1,e3,hs⟩
 ·rw[e2] at e;cases e
 ·rw[e2] at e3
  cases e3
  have h1:=h.mem _ (yd e1)
  exact⟨hs.nodup_iff.1 h1.1,fun x hx=>h1.2 x (hs.mem_iff.2 hx)⟩
theorem Inv.alike (h:Inv n k T) (a:Uo T U) (hU:Nod U):Inv n k U:=by
 have hp:∀p∈U.pending,p∈T.pending:=fun p=>zb0 hU.p a.zv1
 refine⟨by rw[a.zv0];exact h.ln,a.w.trans h.w,by rw[a.zv0,a.offers];exact h.lo,by rw[a.offers];exact h.o0,by rw[a.next];exact h.nx,hU.p,fun p hq=>by rw[a.next];exact h.pv p (hp p hq),fun p hp1 q hq1=>h.pu p (hp p hp1) q (hp q hq1),fun s=>by rw[a.lookV,a.next];exact h.vv s,fun p hq=>by rw[a.lookV];exact h.pl p (hp p hq),fun p hq=>by rw[a.callV];exact h.pc p (hp p hq),h.hm.alike hU.h a.holds,h.rm.alike hU.r a.refs⟩
theorem zge.alike (h:zge T) (a:Uo T U) (hU:Nod U):zge U:=by
 have key:∀{x y:List (ID × ye)},(y.map (·.1)).Nodup→(∀i,za4 (zt x i) (zt y i))→∀p∈y,∃s,(p.1,s)∈x∧s.mem.Perm p.2.mem:=fun {x y} hy g p hp=>by
  have e2:=vo hy hp
  rcases g p.1 with ⟨_,e⟩|⟨s,s',e1,e3,hs⟩
  ·rw[e2] at e;cases e
  ·rw[e2] at e3
   cases e3
   exact⟨s,yd e1,hs⟩
 refine⟨fun p hp=>?_,fun p hp=>?_⟩
 ·obtain⟨s,hs,hq⟩:=key hU.h a.holds p hp
  have h1:=h.h _ hs
  exact⟨fun e=>h1.1 (List.Perm.eq_nil (by rw[←e];exact hq)),by rw[a.wanted];exact h1.2⟩
 ·obtain⟨s,hs,hq⟩:=key hU.r a.refs p hp
  have h1:=h.r _ hs
  exact⟨fun e=>h1.1 (List.Perm.eq_nil (by rw[←e];exact hq)),by rw[a.zv1];exact h1.2⟩
theorem Rng.alike (h:Rng T) (a:Uo T U) (hU:Nod U):Rng U:=
 ⟨fun p hp=>h.c p (zb0 hU.c a.calls hp),fun p hp=>h.v p (zb0 hU.v a.vals hp),fun p hp=>h.p p (zb0 hU.p a.zv1 hp),hU.c,hU.v⟩
end
theorem zhk {x:Int} (h0:0≤x) (h1:x≤65535) (t:List Int):rd 2 (e2 x++t)=some (x.toNat,t):=by
 unfold e2;rw[zfl 2 _ _ (by omega),show(x%65536).toNat=x.toNat by omega]
theorem zqk {n:Nat} (h1:n≤1000000) (t:List Int):rd 4 (e4 n++t)=some (n,t):=by
 unfold e4;rw[zfl 4 _ _ (by omega),show((n:Int)%4294967296).toNat=n by omega]
theorem zhl (x:Int) (t:List Int):rd 8 (e8 x++t)=some ((x%18446744073709551616).toNat,t):=by
 unfold e8;rw[zfl 8 _ _ (by omega)]
theorem zc0 {x:Int} (h:I64 x):s64 (x%18446744073709551616).toNat=x:=by
 have h0:=h.1;have h1:=h.2;unfold s64
 split <;> omega
theorem zqj (b:Bool) (t:List Int):Ue (zf0 b++t)=some (b,t):=by
 unfold Ue zf0;rw[zfl 1 _ _ (by cases b <;> decide)]
 cases b <;> rfl
theorem rdT_e {s:ByteArray} (h:s.size≤255) (t:List Int):rdT (zlu s++t)=some (s,t):=by
 unfold zlu;rw[List.append_assoc,zux s t (by omega)]
theorem zo8 {i:ID} (h:i.key.size≤255) (hv:I64 i.zvz) (t:List Int):Ql (eID i++t)=some (i,t):=by
 unfold Ql eID;rw[List.append_assoc,rdT_e h];simp only[Option.bind_some];rw[zhl];simp only[Option.bind_some];rw[zc0 hv]
theorem zbk {K V:Type} (f:List (K × V)→List Int→Option (List (K × V) × List Int)) (enc:K→List Int) (val:K→V):∀(ks:List K) (m:List (K × V)) (t:List Int),ks.Nodup→(∀k∈ks,k ∉ m.map (·.1))→
  (∀k∈ks,∀m t,k ∉ m.map (·.1)→f m (enc k++t)=some (m ++ [(k,val k)],t))→rep f ks.length m (ks.flatMap enc++t)=some (m++ks.map (fun k=>(k,val k)),t)
 | [],m,t,_,_,_=>by simp[rep]
 | k :: r,m,t,hn,hd,hf=>by
  obtain⟨h1,h2⟩:=List.nodup_cons.1 hn;rw[List.length_cons,rep,List.flatMap_cons,List.append_assoc,hf k (by simp) m _ (hd k (by simp))]
  simp only[Option.bind_some];rw[zbk f enc val r _ t h2 (fun x hx=>?_) (fun x hx=>hf x (List.mem_cons_of_mem _ hx))]
  ·simp
  ·rw[List.map_append,List.mem_append]
   rintro(h|h)
   ·exact hd x (List.mem_cons_of_mem _ hx) h
   ·simp at h
    subst h
    exact h1 hx
theorem zdk {K V:Type} [DecidableEq K] {m:List (K × V)} {k:K} (h:k ∉ m.map (·.1)) (v:V):ym m k v=m ++ [(k,v)]:=
 Jn (fun p hp e=>h (List.mem_map.2 ⟨p,hp,e⟩)) v
theorem zuv {m:List (Int × yz)} {k:Int} {x:yz} (h:zn7 (k,x)) (hk:k ∉ m.map (·.1)) (t:List Int):zap m (zc7 (k,x)++t)=some (m ++ [(k,x)],t):=by
 have hc0:0≤k:=h.c0;have hc1:k≤65535:=h.c1;have he0:0≤x.code:=h.e0;have he1:x.code≤65535:=h.e1;unfold zap zc7;simp only[List.append_assoc];rw[zhk hc0 hc1];simp only[Option.bind_some];rw[zhl];simp only[Option.bind_some];rw[zhl];simp only[Option.bind_some];rw[zqj];simp only[Option.bind_some];rw[zhk he0 he1];simp only[Option.bind_some];rw[zc0 h.r,zc0 h.v,show((k.toNat:Nat):Int)=k by omega,show((x.code.toNat:Nat):Int)=x.code by omega,zdk hk]
theorem rdVal_e {m:List (ByteArray × Val)} {nx:Int} {s:ByteArray} {x:Val} (h1:1≤x.zvz) (h2:x.zvz<nx) (h3:nx≤1000000) (hs:s.size≤255) (hk:s ∉ m.map (·.1)) (t:List Int):zds nx m (zew (s,x)++t)=some (m ++ [(s,x)],t):=by
 unfold zds zew;simp only[List.append_assoc];rw[zo8 (i:=⟨s,x.zvz⟩) hs ⟨by simp only;omega,by simp only;omega⟩]
 simp only[Option.bind_some];rw[if_pos ⟨h1,h2⟩,zqj];simp only[Option.bind_some];rw[zdk hk]
theorem zuw {m:List (ID × xd)} {nx:Int} {i:ID} {x:xd} (h1:1≤i.zvz) (h2:i.zvz<nx) (h3:nx≤1000000) (h:zjx (i,x)) (hk:i ∉ m.map (·.1)) (t:List Int):zaq nx m (zdn (i,x)++t)=some (m ++ [(i,x)],t):=by
 have hs:i.key.size≤64:=h.k;have hc0:0≤x.zvw:=h.c0;have hc1:x.zvw≤65535:=h.c1;unfold zaq zdn;simp only[List.append_assoc];rw[zo8 (by omega) ⟨by omega,by omega⟩]
 simp only[Option.bind_some];rw[if_pos ⟨h1,h2⟩,zhk hc0 hc1];simp only[Option.bind_some];rw[zhl];simp only[Option.bind_some];rw[zc0 h.r,show((x.zvw.toNat:Nat):Int)=x.zvw by omega,zdk hk]
theorem zu9 {m:List (ID × ye)} {i:ID} (hk:i ∉ m.map (·.1)) (l:List Int) (f:List Int→List Int):ql (m ++ [(i,⟨0,l⟩)]) i f=m ++ [(i,⟨0,f l⟩)]:=by
 unfold ql;rw[List.map_append]
 congr 1
 ·conv=>rhs;rw[←List.map_id m]
  apply List.map_congr_left
  intro p hp;rw[if_neg (fun e=>hk (List.mem_map.2 ⟨p,hp,e⟩))]
  rfl
 ·simp
theorem zna {n:Nat} {m:List (ID × ye)} {i:ID} (hk:i ∉ m.map (·.1)) (hn:n≤65535):∀(ns l:List Int) (t:List Int),(l++ns).Nodup→(∀x∈ns,0≤x∧x<n)→Zs n i ns.length (m ++ [(i,⟨0,l⟩)]) (ns.flatMap e2++t)=some (m ++ [(i,⟨0,l++ns⟩)],t)
 | [],l,t,_,_=>by simp[Zs]
 | x :: r,l,t,hnd,hr=>by
  have hx:=hr x (by simp)
  have hxl:x ∉ l:=fun h=>(List.nodup_append.1 hnd).2.2 x h x (by simp) rfl
  rw[List.length_cons,Zs,List.flatMap_cons,List.append_assoc,zfk,zhk hx.1 (by omega)]
  simp only[Option.bind_some];rw[if_pos (by omega),show((x.toNat:Nat):Int)=x by omega,zu9 hk]
  simp only[Option.bind_some];rw[show um l x=l ++ [x] from if_neg hxl,zna hk hn r (l ++ [x]) t (by simpa using hnd) (fun y hy=>hr y (List.mem_cons_of_mem _ hy))]
  simp
theorem zar (n:Int):∀(k:Nat) (m:List (ID × ye)) (l:List Int),Ym n k m l=rep (zaz n) k m l
 | 0,m,l=>rfl
 | k+1,m,l=>by
  rw[Ym,rep]
  congr 1
  funext p
  exact zar n k p.1 p.2
theorem rdSet_e {n:Nat} {m:List (ID × ye)} {i:ID} {s:ye} (hk:i ∉ m.map (·.1)) (hn:n≤255) (hs:i.key.size≤255) (hv:I64 i.zvz) (hm:s.mem.Nodup∧∀x∈s.mem,0≤x∧x<n) (t:List Int):zaz n m (zhv (i,s)++t)=some (m ++ [(i,⟨0,Ud s.mem⟩)],t):=by
 have hl:=Yt n s.mem hm.1 hm.2;have hp:(Ud s.mem).Perm s.mem:=List.mergeSort_perm _ _;unfold zaz zhv;simp only[List.append_assoc];rw[zo8 hs hv];simp only[Option.bind_some];rw[zhk (by omega) (by omega)]
 simp only[Option.bind_some,Int.toNat_natCast];rw[zdk hk,show s.mem.length=(Ud s.mem).length from (zem _).symm,zna hk (by omega) (Ud s.mem) [] t (by simpa using hp.nodup_iff.2 hm.1) (fun x hx=>hm.2 x (hp.mem_iff.1 hx))]
 rfl
theorem zjb {o:Int} (ho:o≤1000000):∀(ls d r t:List Int),r.length=ls.length→(∀x∈ls,0≤x∧x≤o)→Vn o ls.length d.length (d++r) (ls.flatMap e8++t)=some (d++ls,t)
 | [],d,r,t,hl,_=>by
  have:r = []:=List.eq_nil_of_length_eq_zero hl;subst this;simp[Vn]
 | x :: ls,d,[],t,hl,_=>by simp at hl
 | x :: ls,d,y :: r,t,hl,hr=>by
  have hx:=hr x (by simp)
  rw[List.length_cons,Vn,List.flatMap_cons,List.append_assoc,zhl];simp only[Option.bind_some];rw[zc0 ⟨by omega,by omega⟩,if_pos hx]
  have e1:(d++y :: r).set d.length x=(d ++ [x])++r:=by simp
  have e2:d.length+1=(d ++ [x]).length:=by simp
  rw[e1,e2,zjb ho ls (d ++ [x]) r t (by simpa using hl) (fun z hz=>hr z (List.mem_cons_of_mem _ hz))]
  simp
def mkB (s:List UInt8):ByteArray:=⟨s.toArray⟩
def zj3 (m:List (Int × yz)):List (Int × yz):=(Yz m).map fun k=>(k,cAt m k)
def zfv (m:List (ByteArray × Val)) (s:ByteArray):Val:=(zt m s).getD ⟨0,false⟩
def zj5 (m:List (ByteArray × Val)):List (ByteArray × Val):=((Zx m).map mkB).map fun s=>(s,zfv m s)
def zj4 (m:List (ID × xd)):List (ID × xd):=(qe m).map fun i=>(i,pAt m i)
def zbd (m:List (ID × ye)) (i:ID):List Int:=((zt m i).getD ⟨0,[]⟩).mem
def zab (m:List (ID × ye)):List (ID × ye):=(qe m).map fun i=>(i,⟨0,Ud (zbd m i)⟩)
def za6 (T:Tab):Tab:=mkN T.w T.offers T.next T.zv0 (zj3 T.calls) (zj5 T.values) (zj4 T.pending) (zab T.holds) (zab T.zv2)
theorem zek {K V:Type} [DecidableEq K] (f:K→V) (i:K):∀ks:List K,zt (ks.map fun k=>(k,f k)) i=if i∈ks then some (f i) else none
 | []=>rfl
 | k :: r=>by
  rw[List.map_cons,zt]
  by_cases e:k=i
  ·subst e;simp
  ·rw[if_neg e,zek f i r]
   have:(i∈k :: r)=(i∈r):=propext ⟨fun h=>(List.mem_cons.1 h).resolve_left (fun h=>e h.symm),List.mem_cons_of_mem _⟩
   simp only[this]
theorem Jl {K V:Type} (f:K→V) (ks:List K):(ks.map fun k=>(k,f k)).map (·.1)=ks:=by rw[List.map_map];exact List.map_id ks
theorem Zh {K V:Type} [DecidableEq K] {m:List (K × V)} {i:K}:i∈m.map (·.1)↔(zt m i).isSome=true:=by
 rw[zch]
 constructor
 ·intro hm
  obtain⟨x,hx,rfl⟩:=List.mem_map.1 hm
  exact⟨x.2,hx⟩
 ·rintro⟨v,hv⟩
  exact List.mem_map.2 ⟨_,hv,rfl⟩
theorem zcs {K V:Type} [DecidableEq K] {m:List (K × V)} {d:V} {ks:List K} (h:∀i,i∈ks↔i∈m.map (·.1)) (i:K):zt (ks.map fun k=>(k,(zt m k).getD d)) i=zt m i:=by
 rw[zek]
 cases e:zt m i with
 | none=>rw[if_neg (fun hi=>by have:=Zh.1 ((h i).1 hi);rw[e] at this;cases this)]
 | some v=>rw[if_pos ((h i).2 (Zh.2 (by rw[e];rfl)))];rfl
theorem zai {V:Type} (m:List (Int × V)):(Yz m).Perm (m.map (·.1)):=List.mergeSort_perm _ _
theorem zaa {V:Type} (m:List (ByteArray × V)):((Zx m).map mkB).Perm (m.map (·.1)):=by
 have h:(Zx m).Perm (m.map fun p=>p.1.data.toList):=List.mergeSort_perm _ _
 refine(h.map mkB).trans ?_;rw[List.map_map];refine List.Perm.of_eq (List.map_congr_left fun p _=>?_)
 show(⟨p.1.data.toList.toArray⟩:ByteArray)=p.1
 simp
theorem qw {V:Type} {m:List (ID × V)} (h:(m.map (·.1)).Nodup):(qe m).Perm (m.map (·.1)):=
 (List.perm_ext_iff_of_nodup (Yi h).nodup h).2 fun x=>Vh h x
theorem zfq {m:List (ID × ye)} (h:(m.map (·.1)).Nodup) (i:ID):za4 (zt m i) (zt (zab m) i):=by
 unfold zab;rw[zek (fun i=>(⟨0,Ud (zbd m i)⟩:ye))]
 cases e:zt m i with
 | none=>rw[if_neg (fun hi=>by have:=Zh.1 ((qw h).mem_iff.1 hi);rw[e] at this;cases this)];exact Or.inl ⟨rfl,rfl⟩
 | some v=>
  rw[if_pos ((qw h).mem_iff.2 (Zh.2 (by rw[e];rfl)))]
  refine Or.inr ⟨v,_,rfl,rfl,?_⟩
  show v.mem.Perm (Ud (zbd m i))
  rw[show zbd m i=v.mem from by unfold zbd;rw[e];rfl]
  exact(List.mergeSort_perm _ _).symm
section
variable {T : Tab}
theorem ze1 (h:Nod T):Uo T (za6 T) where
 w:=rfl
 offers:=rfl
 next:=rfl
 zv0:=rfl
 calls m:=zcs (fun i=>(zai T.calls).mem_iff) m
 vals s:=zcs (fun i=>(zaa T.values).mem_iff) s
 zv1 i:=zcs (fun i=>(qw h.p).mem_iff) i
 holds i:=zfq h.h i
 refs i:=zfq h.r i
theorem zii (h:Nod T):Nod (za6 T) where
 c:=by show((zj3 T.calls).map (·.1)).Nodup;unfold zj3;rw[Jl];exact(zai T.calls).nodup_iff.2 h.c
 v:=by show((zj5 T.values).map (·.1)).Nodup;unfold zj5;rw[Jl];exact(zaa T.values).nodup_iff.2 h.v
 p:=by show((zj4 T.pending).map (·.1)).Nodup;unfold zj4;rw[Jl];exact(qw h.p).nodup_iff.2 h.p
 h:=by show((zab T.holds).map (·.1)).Nodup;unfold zab;rw[Jl];exact(qw h.h).nodup_iff.2 h.h
 r:=by show((zab T.zv2).map (·.1)).Nodup;unfold zab;rw[Jl];exact(qw h.r).nodup_iff.2 h.r
theorem zqz (h:Nod T):qa (za6 T)=qa T:=(zil (ze1 h) h (zii h)).symm
structure zjz (n k:Nat) (T:Tab):Prop where
 inv:Inv n k T
 rng:Rng T
 tidy:zge T
 nod:Nod T
 cn:vm n=n
 cw:yu n k=k
 nx:T.next≤1000000
 of:T.offers≤1000000
 lc:T.calls.length≤1000000
 lv:T.values.length≤1000000
 lp:T.pending.length≤1000000
 lh:T.holds.length≤1000000
 lr:T.zv2.length≤1000000
variable {n k : Nat}
theorem zjz.id (h:zjz n k T) {i:ID} (hw:yl T i=true):i.key.size≤64∧1≤i.zvz∧i.zvz<T.next:=by
 unfold yl at hw;rw[Bool.or_eq_true] at hw
 rcases hw with hw|hw
 ·cases e:zt T.pending i with
  | none=>rw[e] at hw;cases hw
  | some p=>
   have h1:=yd e;have h2:=h.inv.pv _ h1
   exact⟨(h.rng.p _ h1).k,h2.1,h2.2⟩
 ·simp only[Bool.and_eq_true,decide_eq_true_eq] at hw
  have hv:=h.inv.vv i.key;unfold look at hw;unfold lookV at hw hv
  cases e:zt T.values i.key with
  | none=>rw[e] at hw;simp at hw;omega
  | some v=>
   rw[e] at hw hv;have h1:=h.rng.v _ (yd e);simp only[Option.getD_some] at hw hv
   split at hw
   ·omega
   ·exact⟨h1.2,by omega,by omega⟩
theorem zjz.pendId (h:zjz n k T) {i:ID} (hp:(zt T.pending i).isSome=true):i.key.size≤64∧1≤i.zvz∧i.zvz<T.next:=h.id (by unfold yl;rw[hp];rfl)
theorem n_le {n:Nat} (h:vm n=n):1≤n∧n≤255:=by unfold vm at h;(repeat' split at h) <;> omega
theorem rdC_e (h:zjz n k T) (t:List Int):(rd 4 (Qd T.calls++t)).bind (fun c=>rep zap c.1 [] c.2)=some (zj3 T.calls,t):=by
 have hp:=zai T.calls;have hl:T.calls.length=(Yz T.calls).length:=by have:=hp.length_eq;simpa using this.symm
 unfold Qd;rw[List.append_assoc,zqk h.lc];simp only[Option.bind_some];rw[hl,zbk zap (zco T.calls) (cAt T.calls) (Yz T.calls) [] t (hp.nodup_iff.2 h.nod.c) (fun _ _=>by simp) (fun i hi m t hk=>?_)]
 ·rfl
 ·have hs:=Zh.1 (hp.mem_iff.1 hi)
  cases e:zt T.calls i with
  | none=>rw[e] at hs;cases hs
  | some x=>
   have ec:cAt T.calls i=x:=by unfold cAt;rw[e];rfl
   unfold zco;rw[ec]
   exact zuv (h.rng.c _ (yd e)) hk t
theorem rdV_e (h:zjz n k T) (t:List Int):(rd 4 (Xv T.values++t)).bind (fun c=>rep (zds T.next) c.1 [] c.2)=some (zj5 T.values,t):=by
 have hp:=zaa T.values;have hl:T.values.length=((Zx T.values).map mkB).length:=by have:=hp.length_eq;simpa using this.symm
 have hr:Xv T.values=e4 T.values.length++((Zx T.values).map mkB).flatMap (fun s=>zew (s,zfv T.values s)):=by
  unfold Xv;rw[List.flatMap_map]
  rfl
 rw[hr,List.append_assoc,zqk h.lv];simp only[Option.bind_some];rw[hl,zbk (zds T.next) (fun s=>zew (s,zfv T.values s)) (zfv T.values) ((Zx T.values).map mkB) [] t (hp.nodup_iff.2 h.nod.v) (fun _ _=>by simp) (fun i hi m t hk=>?_)]
 ·rfl
 ·have hs:=Zh.1 (hp.mem_iff.1 hi)
  cases e:zt T.values i with
  | none=>rw[e] at hs;cases hs
  | some x=>
   have ec:zfv T.values i=x:=by unfold zfv;rw[e];rfl
   have h1:=h.rng.v _ (yd e);have h2:=(h.inv.vv i).1;unfold lookV at h2;rw[e] at h2;rw[ec]
   exact rdVal_e h1.1 h2 h.nx (Nat.le_trans h1.2 (by decide)) hk t
theorem rdP_e (h:zjz n k T) (t:List Int):(rd 4 (Vw T.pending++t)).bind (fun c=>rep (zaq T.next) c.1 [] c.2)=some (zj4 T.pending,t):=by
 have hp:=qw h.nod.p;have hl:T.pending.length=(qe T.pending).length:=by have:=hp.length_eq;simpa using this.symm
 unfold Vw;rw[List.append_assoc,zqk h.lp];simp only[Option.bind_some];rw[hl,zbk (zaq T.next) (zbg T.pending) (pAt T.pending) (qe T.pending) [] t (hp.nodup_iff.2 h.nod.p) (fun _ _=>by simp) (fun i hi m t hk=>?_)]
 ·rfl
 ·have hs:=Zh.1 (hp.mem_iff.1 hi)
  cases e:zt T.pending i with
  | none=>rw[e] at hs;cases hs
  | some x=>
   have ec:pAt T.pending i=x:=by unfold pAt;rw[e];rfl
   have h2:=h.inv.pv _ (yd e);unfold zbg;rw[ec]
   exact zuw h2.1 h2.2 h.nx (h.rng.p _ (yd e)) hk t
theorem rdH_e {m0:List (ID × ye)} (hm:Xh n m0) (hn:n≤255) (hl0:m0.length≤1000000) (hid:∀p∈m0,p.1.key.size≤255∧I64 p.1.zvz) (t:List Int):Xq n (jf m0++t)=some (zab m0,t):=by
 have hp:=qw hm.nodup;have hl:m0.length=(qe m0).length:=by have:=hp.length_eq;simpa using this.symm
 unfold Xq jf;rw[List.append_assoc,zqk hl0];simp only[Option.bind_some];rw[zar,hl,zbk (zaz n) (zah m0) (fun i=>⟨0,Ud (zbd m0 i)⟩) (qe m0) [] t (hp.nodup_iff.2 hm.nodup) (fun _ _=>by simp) (fun i hi m t hk=>?_)]
 ·rfl
 ·have hs:=Zh.1 (hp.mem_iff.1 hi)
  cases e:zt m0 i with
  | none=>rw[e] at hs;cases hs
  | some x=>
   have ec:zbd m0 i=x.mem:=by unfold zbd;rw[e];rfl
   have h2:=hid _ (yd e);unfold zah;rw[e,ec]
   exact rdSet_e hk hn h2.1 h2.2 (hm.mem _ (yd e)) t
theorem ztd (h:zjz n k T):zd5 (qa T)=some (za6 T):=by
 have hn:=n_le h.cn;have hln:=h.inv.ln;have hw:=h.inv.w;have hk:0≤(k:Int)∧(k:Int)≤65535:=by
  have:=h.cw;unfold yu at this
  (repeat' split at this) <;> omega
 have hid:∀i:ID,(i.key.size≤64∧1≤i.zvz∧i.zvz<T.next)→i.key.size≤255∧I64 i.zvz:=fun i hi=>by
  have:=h.nx
  exact⟨by omega,by omega,by omega⟩
 have hof:I64 T.offers:=by have h1:=h.of;have h0:=h.inv.o0;exact⟨by omega,by omega⟩
 have hnx:I64 T.next:=by have h1:=h.nx;have h0:=h.inv.nx;exact⟨by omega,by omega⟩
 unfold zd5 qa;simp only[List.append_assoc];rw[zhk (by omega) (by omega)]
 simp only[Option.bind_some];rw[hw,zhk hk.1 hk.2];simp only[Option.bind_some];rw[zhl];simp only[Option.bind_some];rw[zhl];simp only[Option.bind_some];rw[zc0 hof,zc0 hnx,hln,Int.toNat_natCast,Int.toNat_natCast,zth h.cn h.cw h.inv.o0 h.inv.nx];unfold fL;have hl:=zjb (o:=T.offers) h.of T.zv0 [] (List.replicate n 0) (Qd T.calls++(Xv T.values++(Vw T.pending++(jf T.holds++jf T.zv2)))) (by rw[List.length_replicate,hln]) h.inv.lo
 rw[hln] at hl;rw[Nat.sub_zero,show(0:Nat)=([]:List Int).length from rfl,show List.replicate n (0:Int) = []++List.replicate n 0 from rfl,hl]
 simp only[Option.bind_some];have hc:=rdC_e h (Xv T.values++(Vw T.pending++(jf T.holds++jf T.zv2)));have hv:=rdV_e h (Vw T.pending++(jf T.holds++jf T.zv2));have hp:=rdP_e h (jf T.holds++jf T.zv2);have hh:=rdH_e h.inv.hm hn.2 h.lh (fun p hp=>hid p.1 (h.id (h.tidy.h p hp).2)) (jf T.zv2)
 have hr:=rdH_e h.inv.rm hn.2 h.lr (fun p hp=>hid p.1 (h.pendId (h.tidy.r p hp).2)) []
 rw[List.append_nil] at hr;have c1:∀{α β γ:Type} (a:Option α) (f:α→Option β) (g:β→Option γ),a.bind (fun x=>(f x).bind g)=(a.bind f).bind g:=fun a f g=>(Option.bind_assoc a f g).symm
 unfold fC0 fC;rw[c1,hc];simp only[Option.bind_some];unfold fV0 fV;rw[c1,hv];simp only[Option.bind_some];unfold fP0 fP;rw[c1,hp];simp only[Option.bind_some];unfold fH;rw[hh];simp only[Option.bind_some];unfold fR;rw[hr];simp only[Option.bind_some];unfold za6 mkN;rw[hw,List.nil_append]
end
end Go.Proofs.YtjfelfjobeeenaaGreat
