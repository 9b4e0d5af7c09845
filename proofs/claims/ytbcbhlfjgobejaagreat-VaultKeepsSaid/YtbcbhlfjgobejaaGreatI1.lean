/- A step of a region that draws: an operation is taken first. Conditions: none, or as the theorems say. -/
import Derived.Deep.RegionLaw
import Derived.OrdersHeld
import Derived.KernelRfl
import Derived.Test.YtbcbhlfjgobejaaGreatProg
import Derived.WalkKit
import Derived.MapKept
import Derived.WideKeyRuns
import Derived.Maps.OwnSet
import Derived.Maps.RangeRun
import Derived.Maps.RangeWalk
import Derived.Lib.Hide
import Derived.Deep.QuietTactic
import Derived.BigQuiet
import Derived.Laws.AppendOwn
import Derived.Below
theorem Go.zd {p:Prop} (h:p):Go.RowKit.Hid p:=h
theorem Go.zg (w:Go.World) (o:Go.Obj) (b:Option Nat):w.grownBy (w.alloc o) b:=Go.World.grownBy_alloc w o b
set_option linter.unusedSimpArgs false
set_option linter.unusedVariables false
namespace Go
set_option maxHeartbeats 200000000
theorem tk {P:Program} {md:Region.Mode} {ops:Array Oper} {Q:Exit→Act→World→Prop} {S:World→Prop} {i:Nat} {oi:Oper} {v:Value} {fuel:Nat} {listed:Array Bool} {a:Act} {w:World} (hi:ops[i]? = some oi) (hS:S w)
  (he:∀w,S w→(execOp a.eval oi).run P w = .ok (.value v) w) (h:wpAnyH P md ops Q S fuel (listed.setIfInBounds i true) (a.put oi.dst v) w)
  (hg:Region.wanted oi (yielded ops a.tmps)=true:=by rfl) (hs:Region.noSelect ops=true:=by kernel_rfl) (hf:Region.free md ops listed i=true:=by kernel_rfl) (hr:(Region.ready md ops listed).contains i=true:=by kernel_rfl)
  (hQ:∀c a w,Q (.panic c) (a.put oi.dst v) w→Q (.panic c) a w:=by exact fun _ _ _ h=>h):wpAnyH P md ops Q S (fuel+1) listed a w:=
 wpAnyH_take hi hs hf hr hQ (Or.inl ⟨hg,he⟩) hS h
theorem za {α:Type} (xs:List α) (i:Nat) (a:α):xs.toArray.setIfInBounds i a=(xs.set i a).toArray:=List.setIfInBounds_toArray ..
theorem zb {α:Type} (x a:α) (xs:List α):(x :: xs).set 0 a=a :: xs:=rfl
theorem zc {α:Type} (x a:α) (xs:List α) (n:Nat):(x :: xs).set (n+1) a=x :: xs.set n a:=rfl
end Go
namespace Go.Sf
open Go.MapKept Go.RowKit
open Go.ChangeMaps (setBlock)
def zw {K V:Type} [DecidableEq K]:List (K × V)→K→Option V
 | [],_=>none
 | p :: r,k=>if p.1=k then some p.2 else zw r k
def yj {K V:Type} [DecidableEq K]:List (K × V)→K→V→List (K × V)
 | [],k,v=>[(k,v)]
 | p :: r,k,v=>if p.1=k then (k,v) :: r else p :: yj r k v
def qn {K V:Type} [DecidableEq K] (m:List (K × V)) (k:K):List (K × V):=m.filter fun p=>decide (p.1≠k)
structure Qf (P:Program) (kt:TypeId) {K:Type} (enc:K→Value):Prop where
 inj:∀a b,enc a=enc b→a=b
 check:∀em k w,(Instr.checkKey em 10000 kt (enc k)).run P w = .ok () w
 same:∀k,Instr.sameBits 10000 (enc k) (enc k)=true
 find:∀(k:K) (es:List MapEntry) (w:World),(∀x∈es,∃k',x.key=enc k')→
  ((Instr.findKey kt (enc k) es).run P w = .ok none w∧∀x∈es,x.key≠enc k)∨
  ∃j e,(Instr.findKey kt (enc k) es).run P w = .ok (some (j,e.val)) w∧es[j]? = some e∧e.key=enc k
theorem zbr {P:Program} {kt:TypeId} {d:TypeDesc} {K:Type} {enc:K→Value} (hd:P.underlying kt=some d) (hk:∀k,IsKey d (enc k)) (inj:∀a b,enc a=enc b→a=b):Qf P kt enc where
 inj:=inj
 check:=fun em k w=>run_checkKey hd (hk k) em 9999
 same:=fun k=>sameBits_self (hk k) 10000
 find:=fun k es w h=>by
  have h':∀x∈es,IsKey d x.key:=fun x hx=>by obtain⟨k',e⟩:=h x hx;rw[e];exact hk k'
  rcases findNow_spec (hk k) es 0 h' with ⟨h1,h2⟩|⟨j,e,h1,h2,h3⟩
  ·exact .inl ⟨run_findKey hd h1,h2⟩
  ·rw[Nat.zero_add] at h1
   exact .inr ⟨j,e,run_findKey hd h1,h2,h3⟩
theorem zak {P:Program} {kt:TypeId} {K:Type} [DecidableEq K] {enc:K→Value} (inj:∀a b,enc a=enc b→a=b)
  (heq:∀a b w,(Op.equal kt (enc a) (enc b)).run P w = .ok (decide (a=b)) w) (k:K) (w:World):∀(es:List MapEntry) (i:Nat),(∀x∈es,∃k',x.key=enc k')→
  ((Instr.findAsking kt (enc k) es i).run P w = .ok none w∧∀x∈es,x.key≠enc k)∨
  ∃j e,(Instr.findAsking kt (enc k) es i).run P w = .ok (some (i+j,e.val)) w∧es[j]? = some e∧e.key=enc k
 | [],i,_=>.inl ⟨by simp[Instr.findAsking],by simp⟩
 | x :: es,i,h=>by
  obtain⟨k',hk'⟩:=h x (by simp)
  have e1:=heq k k' w
  by_cases hkk:k=k'
  ·subst hkk
   refine .inr ⟨0,x,?_,rfl,hk'⟩;simp[Instr.findAsking,hk',e1,Result.andThen]
  ·rcases zak inj heq k w es (i+1) (fun y hy=>h y (by simp[hy])) with ⟨h1,h2⟩|⟨j,e,h1,h2,h3⟩
   ·refine .inl ⟨by simp[Instr.findAsking,hk',e1,hkk,Result.andThen,h1],fun y hy=>?_⟩
    rcases List.mem_cons.1 hy with rfl|hy
    ·rw[hk'];exact fun e=>hkk (inj _ _ e).symm
    ·exact h2 y hy
   ·refine .inr ⟨j+1,e,?_,by simpa using h2,h3⟩
    simp[Instr.findAsking,hk',e1,hkk,Result.andThen,h1];omega
theorem zdh {P:Program} {kt:TypeId} {K:Type} [DecidableEq K] {enc:K→Value} (hwide:(match P.underlying kt with|some (.array _ _)|some (.struct _)=>true|_=>false)=true)
  (check:∀em k w,(Instr.checkKey em 10000 kt (enc k)).run P w = .ok () w) (same:∀k,Instr.sameBits 10000 (enc k) (enc k)=true) (inj:∀a b,enc a=enc b→a=b)
  (heq:∀a b w,(Op.equal kt (enc a) (enc b)).run P w = .ok (decide (a=b)) w):Qf P kt enc where
 inj:=inj
 check:=check
 same:=same
 find:=fun k es w h=>by
  rw[run_findKey_eq w hwide]
  rcases zak inj heq k w es 0 h with h1|⟨j,e,h1,h2,h3⟩
  ·exact .inl h1
  ·rw[Nat.zero_add] at h1
   exact .inr ⟨j,e,h1,h2,h3⟩
def yg (w:World) (b:Nat) {K V:Type} (ek:K→Value) (ev:V→Value) (m:List (K × V)):Prop:=
 ∃es clock,w.heap[b]? = some (.map es clock)∧Stamped es clock∧es.toList.map (fun e=>(e.key,e.val))=m.map (fun p=>(ek p.1,ev p.2))
section
variable {P : Program} {K V : Type} [DecidableEq K] {ek : K → Value} {ev : V → Value} {w : World} {b : Nat} {m : List (K × V)} {kt et t : TypeId}
omit [DecidableEq K] in
theorem yg.lt (h:yg w b ek ev m):b<w.heap.size:=by
 obtain⟨es,clock,hb,_⟩:=h
 exact(Array.getElem?_eq_some_iff.1 hb).1
omit [DecidableEq K] in
theorem yg.same {w':World} (h:yg w b ek ev m) (e:w'.heap[b]? = w.heap[b]?):yg w' b ek ev m:=by
 obtain⟨es,clock,hb,r⟩:=h
 exact⟨es,clock,e.trans hb,r⟩
omit [DecidableEq K] in
theorem yg.kept {w':World} {row:Option Nat} (h:yg w b ek ev m) (hg:w.grownBy w' row) (hne:some b≠row):yg w' b ek ev m:=by
 have hlt:b<w.heap.size:=by obtain⟨es,clock,hb,_⟩:=h;exact(Array.getElem?_eq_some_iff.1 hb).1
 exact h.same (hg.block b hlt hne)
omit [DecidableEq K] in
theorem yg.alloc (h:yg w b ek ev m) (o:Obj):yg (w.alloc o) b ek ev m:=h.kept (zg w o none) (by simp)
omit [DecidableEq K] in
theorem Jv (w:World) (ek:K→Value) (ev:V→Value):yg (w.alloc (.map #[] 0)) w.heap.size ek ev ([]:List (K × V)):=
 ⟨#[],0,(MapKept.heap_alloc w _).1,stamped_empty 0,rfl⟩
omit [DecidableEq K] in
theorem Xg {es:List MapEntry} {m:List (K × V)} (h:es.map (fun e=>(e.key,e.val))=m.map (fun p=>(ek p.1,ev p.2))) {j:Nat} {e:MapEntry} (he:es[j]? = some e) :
  ∃p,m[j]? = some p∧e.key=ek p.1∧e.val=ev p.2:=by
 have h1:=congrArg (fun l=>l[j]?) h
 simp only[List.getElem?_map,he,Option.map_some] at h1
 cases hm:m[j]? with
 | none=>rw[hm] at h1;simp at h1
 | some p=>
  rw[hm] at h1;simp only[Option.map_some,Option.some.injEq,Prod.mk.injEq] at h1
  exact⟨p,rfl,h1.1,h1.2⟩
omit [DecidableEq K] in
theorem Yd {es:List MapEntry} {m:List (K × V)} (h:es.map (fun e=>(e.key,e.val))=m.map (fun p=>(ek p.1,ev p.2))):∀x∈es,∃p∈m,x.key=ek p.1∧x.val=ev p.2:=fun x hx=>by
 have h1:(x.key,x.val)∈es.map (fun e=>(e.key,e.val)):=List.mem_map.2 ⟨x,hx,rfl⟩
 rw[h] at h1;obtain⟨p,hp,e⟩:=List.mem_map.1 h1;simp only[Prod.mk.injEq] at e
 exact⟨p,hp,e.1.symm,e.2.symm⟩
omit [DecidableEq K] in
theorem Xh {es:List MapEntry} {m:List (K × V)} (h:es.map (fun e=>(e.key,e.val))=m.map (fun p=>(ek p.1,ev p.2))):∀p∈m,∃x∈es,x.key=ek p.1∧x.val=ev p.2:=fun p hp=>by
 have h1:(ek p.1,ev p.2)∈m.map (fun p=>(ek p.1,ev p.2)):=List.mem_map.2 ⟨p,hp,rfl⟩
 rw[←h] at h1;obtain⟨x,hx,e⟩:=List.mem_map.1 h1;simp only[Prod.mk.injEq] at e
 exact⟨x,hx,e.1,e.2⟩
theorem Jw {m:List (K × V)} {k:K} (h:∀p∈m,p.1≠k):zw m k=none:=by
 induction m with
 | nil=>rfl
 | cons p r ih=>rw[zw,if_neg (h p (by simp)),ih (fun q hq=>h q (by simp[hq]))]
theorem uo {m:List (K × V)} {k:K} {v:V} (h:zw m k=some v):(k,v)∈m:=by
 induction m with
 | nil=>simp[zw] at h
 | cons p r ih=>
  rw[zw] at h
  split at h
  ·rename_i e;cases h;subst e;simp
  ·simp[ih h]
theorem Yo {m:List (K × V)} (hn:(m.map (·.1)).Nodup) {k:K} {v:V} (h:(k,v)∈m):zw m k=some v:=by
 induction m with
 | nil=>simp at h
 | cons p r ih=>
  simp only[List.map_cons,List.nodup_cons] at hn;rw[zw]
  rcases List.mem_cons.1 h with e|h
  ·rw[←e];simp
  ·rw[if_neg,ih hn.2 h]
   intro e
   exact hn.1 (e ▸ List.mem_map.2 ⟨(k,v),h,rfl⟩)
theorem qj {m:List (K × V)} {k:K}:zw m k=none↔∀p∈m,p.1≠k:=by
 refine⟨fun h p hp e=>?_,Jw⟩
 induction m with
 | nil=>simp at hp
 | cons q r ih=>
  rw[zw] at h
  split at h
  ·cases h
  ·rename_i hne
   rcases List.mem_cons.1 hp with rfl|hp
   ·exact hne e
   ·exact ih h hp
theorem Zn {m:List (K × V)} {k:K} (h:∀p∈m,p.1≠k) (v:V):yj m k v=m ++ [(k,v)]:=by
 induction m with
 | nil=>rfl
 | cons p r ih=>rw[yj,if_neg (h p (by simp)),ih (fun q hq=>h q (by simp[hq]))];rfl
theorem zeg {m:List (K × V)} (hn:(m.map (·.1)).Nodup) {j:Nat} {p:K × V} (h:m[j]? = some p) (v:V):yj m p.1 v=m.set j (p.1,v):=by
 induction m generalizing j with
 | nil=>simp at h
 | cons q r ih=>
  simp only[List.map_cons,List.nodup_cons] at hn
  cases j with
  | zero=>
   simp only[List.getElem?_cons_zero,Option.some.injEq] at h;subst h;simp[yj]
  | succ j=>
   simp only[List.getElem?_cons_succ] at h;have hne:q.1≠p.1:=fun e=>hn.1 (e ▸ List.mem_map.2 ⟨p,List.mem_of_getElem? h,rfl⟩)
   rw[yj,if_neg hne,ih hn.2 h]
   rfl
theorem zdj {m:List (K × V)} {k:K} (h:∀p∈m,p.1≠k):qn m k=m:=by
 unfold qn;rw[List.filter_eq_self];intro p hp;simpa using h p hp
theorem mdel_at {m:List (K × V)} (hn:(m.map (·.1)).Nodup) {j:Nat} {p:K × V} (h:m[j]? = some p):qn m p.1=m.eraseIdx j:=by
 induction m generalizing j with
 | nil=>simp at h
 | cons q r ih=>
  simp only[List.map_cons,List.nodup_cons] at hn
  cases j with
  | zero=>
   simp only[List.getElem?_cons_zero,Option.some.injEq] at h;subst h;have:qn r q.1=r:=zdj fun x hx e=>hn.1 (e ▸ List.mem_map.2 ⟨x,hx,rfl⟩)
   unfold qn at this ⊢;rw[List.filter_cons_of_neg (by simp),this]
   rfl
  | succ j=>
   simp only[List.getElem?_cons_succ] at h;have hne:q.1≠p.1:=fun e=>hn.1 (e ▸ List.mem_map.2 ⟨p,List.mem_of_getElem? h,rfl⟩)
   have:=ih hn.2 h;unfold qn at this ⊢;rw[List.filter_cons_of_pos (by simpa using hne),this]
   rfl
omit [DecidableEq K] in
theorem yg.nodup (h:yg w b ek ev m):(m.map (·.1)).Nodup:=by
 obtain⟨es,clock,hb,hs,he⟩:=h;have h1:(es.toList.map (·.key))=(m.map (·.1)).map ek:=by
  have:=congrArg (List.map Prod.fst) he;simpa[List.map_map,Function.comp_def] using this
 have h2:=hs.2.2;rw[h1] at h2
 exact(List.nodup_iff_pairwise_ne.1 h2 |> List.pairwise_map.1 |> fun hp=>List.nodup_iff_pairwise_ne.2 (hp.imp fun hne e=>hne (by rw[e])))
theorem yg.lookup (KE:Qf P kt ek) (ht:P.underlying t=some (.map kt et)) {z:Value} (hz:(zeroValue et).run P w = .ok z w) (h:yg w b ek ev m) (k:K) (c:Bool) :
  (Instr.lookup t (.map (some b)) (ek k) c).run P w = .ok (if c then .tuple #[((zw m k).map ev).getD z,.bool (zw m k).isSome] else ((zw m k).map ev).getD z) w:=by
 have hnd:=h.nodup;obtain⟨es,clock,hb,hs,he⟩:=h;have hkeys:∀x∈es.toList,∃k',x.key=ek k':=fun x hx=>by obtain⟨p,_,e,_⟩:=Yd he x hx;exact⟨p.1,e⟩
 rcases KE.find k es.toList w hkeys with ⟨h1,h2⟩|⟨j,e,h1,h2,h3⟩
 ·have hg:zw m k=none:=Jw fun p hp e=>by
   obtain⟨x,hx,e1,_⟩:=Xh he p hp
   exact h2 x hx (by rw[e1,e])
  simp only[Instr.lookup,Sem.run_bind,run_underlying ht,Result.andThen,getObj,Sem.run,hb,KE.check,h1,hz,hg,Sem.run_pure]
  cases c <;> simp
 ·obtain⟨p,hp,e1,e2⟩:=Xg he h2
  have hk:p.1=k:=KE.inj _ _ (e1.symm.trans h3);have hg:zw m k=some p.2:=Yo hnd (by rw[←hk];exact List.mem_of_getElem? hp)
  simp only[Instr.lookup,Sem.run_bind,run_underlying ht,Result.andThen,getObj,Sem.run,hb,KE.check,h1,hg,Sem.run_pure,e2]
  cases c <;> simp
theorem yg.update (KE:Qf P kt ek) (ht:P.underlying t=some (.map kt et)) (h:yg w b ek ev m) (k:K) (v:V) :
  ∃w',(Instr.mapUpdate t (.map (some b)) (ek k) (ev v)).run P w = .ok () w'∧yg w' b ek ev (yj m k v)∧w.grownBy w' (some b)∧w'.heap.size=w.heap.size:=by
 have hnd:=h.nodup;obtain⟨es,clock,hb,hs,he⟩:=h;have hlt:b<w.heap.size:=(Array.getElem?_eq_some_iff.1 hb).1;have hkeys:∀x∈es.toList,∃k',x.key=ek k':=fun x hx=>by obtain⟨p,_,e,_⟩:=Yd he x hx;exact⟨p.1,e⟩
 have grown:∀o,w.grownBy (setBlock w b o) (some b)∧(setBlock w b o).heap.size=w.heap.size:=fun o=>
  ⟨⟨rfl,rfl,rfl,by simp[setBlock],fun i _ hi=>(heap_set hb).2 i (fun e=>hi (by rw[e]))⟩,by simp[setBlock]⟩
 rcases KE.find k es.toList w hkeys with ⟨h1,h2⟩|⟨j,e,h1,h2,h3⟩
 ·have hne:∀p∈m,p.1≠k:=fun p hp e=>by
   obtain⟨x,hx,e1,_⟩:=Xh he p hp
   exact h2 x hx (by rw[e1,e])
  refine⟨setBlock w b (.map (es.push { key:=ek k,val:=ev v,born:=clock }) (clock+1)),?_,⟨_,_,(heap_set hb).1,stamped_push hs (fun x hx=>h2 x hx),?_⟩,grown _⟩
  ·simp only[Instr.mapUpdate,Sem.run_bind,run_underlying ht,Result.andThen,getObj,Sem.run,hb,KE.check,h1,setObj,setBlock]
  ·rw[Zn hne]
   simp[he]
 ·obtain⟨p,hp,e1,e2⟩:=Xg he h2
  have hk:p.1=k:=KE.inj _ _ (e1.symm.trans h3);have hej:es[j]? = some e:=by simpa using h2
  refine⟨setBlock w b (.map (es.modify j fun e=>{ e with key:=ek k,val:=ev v }) clock),?_,⟨_,_,(heap_set hb).1,stamped_modify hs j _ (fun _ _=>rfl) (fun x _ hx=>?_),?_⟩,grown _⟩
  ·have hk2:((es[j]?).map (·.key)).getD (ek k)=ek k:=by rw[hej];exact h3
   simp only[Instr.mapUpdate,Sem.run_bind,run_underlying ht,Result.andThen,getObj,Sem.run,hb,KE.check,h1,hk2,Instr.keyThatStays,KE.same,if_true,Sem.run_pure,setObj,setBlock]
  ·rw[hej] at hx;cases hx;exact h3.symm
  ·rw[←hk,zeg hnd hp]
   apply List.ext_getElem?
   intro i;simp only[List.getElem?_map,Array.getElem?_toList,Array.getElem?_modify,List.getElem?_set];have hj:=congrArg (fun l=>l[i]?) he
   simp only[List.getElem?_map,Array.getElem?_toList] at hj
   by_cases hij:j=i
   ·subst hij
    have hlen:j<m.length:=(List.getElem?_eq_some_iff.1 hp).1;simp[hej,hlen]
   ·simp[hij,hj]
theorem yg.delete (KE:Qf P kt ek) (ht:P.underlying t=some (.map kt et)) (h:yg w b ek ev m) (k:K) (ats:TypeId) (ty:TypeId) :
  ∃w',(Builtin.delete_ #[t,ats] ty #[.map (some b),ek k]).run P w = .ok (.tuple #[]) w'∧yg w' b ek ev (qn m k)∧w.grownBy w' (some b)∧w'.heap.size=w.heap.size:=by
 have hnd:=h.nodup;obtain⟨es,clock,hb,hs,he⟩:=h;have hkeys:∀x∈es.toList,∃k',x.key=ek k':=fun x hx=>by obtain⟨p,_,e,_⟩:=Yd he x hx;exact⟨p.1,e⟩
 have grown:∀o,w.grownBy (setBlock w b o) (some b)∧(setBlock w b o).heap.size=w.heap.size:=fun o=>
  ⟨⟨rfl,rfl,rfl,by simp[setBlock],fun i _ hi=>(heap_set hb).2 i (fun e=>hi (by rw[e]))⟩,by simp[setBlock]⟩
 rcases KE.find k es.toList w hkeys with ⟨h1,h2⟩|⟨j,e,h1,h2,h3⟩
 ·have hne:∀p∈m,p.1≠k:=fun p hp e=>by
   obtain⟨x,hx,e1,_⟩:=Xh he p hp
   exact h2 x hx (by rw[e1,e])
  refine⟨setBlock w b (.map es clock),?_,⟨_,_,(heap_set hb).1,hs,?_⟩,grown _⟩
  ·simp only[Builtin.delete_,Sem.run_bind,run_underlying ht,Result.andThen,getObj,Sem.run,hb,KE.check,h1,setObj,setBlock,List.getElem?_toArray,List.getElem?_cons_zero,List.getElem?_cons_succ,Sem.run_pure]
  ·rw[zdj hne,he]
 ·obtain⟨p,hp,e1,e2⟩:=Xg he h2
  have hk:p.1=k:=KE.inj _ _ (e1.symm.trans h3);refine⟨setBlock w b (.map (es.eraseIdxIfInBounds j) clock),?_,⟨_,_,(heap_set hb).1,stamped_erase hs j,?_⟩,grown _⟩
  ·simp only[Builtin.delete_,Sem.run_bind,run_underlying ht,Result.andThen,getObj,Sem.run,hb,KE.check,h1,setObj,setBlock,List.getElem?_toArray,List.getElem?_cons_zero,List.getElem?_cons_succ,Sem.run_pure]
  ·rw[←hk,mdel_at hnd hp]
   have hjl:j<es.size:=by have:=(List.getElem?_eq_some_iff.1 h2).1;simpa using this
   simp only[Array.eraseIdxIfInBounds,hjl,dite_true,Array.toList_eraseIdx];rw[ChangeMaps.map_eraseIdx,he,←ChangeMaps.map_eraseIdx]
end
theorem zhx {es:List MapEntry} (h:(es.map (·.born)).Nodup) {x y:MapEntry} (hx:x∈es) (hy:y∈es) (e:x.born=y.born):x=y:=by
 induction es with
 | nil=>simp at hx
 | cons z r ih=>
  simp only[List.map_cons,List.nodup_cons] at h
  rcases List.mem_cons.1 hx with rfl|hx <;> rcases List.mem_cons.1 hy with rfl|hy
  ·rfl
  ·exact absurd (e ▸ List.mem_map.2 ⟨y,hy,rfl⟩) h.1
  ·exact absurd (e.symm ▸ List.mem_map.2 ⟨x,by assumption,rfl⟩) h.1
  ·exact ih h.2 hx hy
theorem zkb {es:List MapEntry} (h:(es.map (·.key)).Nodup) {x y:MapEntry} (hx:x∈es) (hy:y∈es) (e:x.key=y.key):x=y:=by
 induction es with
 | nil=>simp at hx
 | cons z r ih=>
  simp only[List.map_cons,List.nodup_cons] at h
  rcases List.mem_cons.1 hx with rfl|hx <;> rcases List.mem_cons.1 hy with rfl|hy
  ·rfl
  ·exact absurd (e ▸ List.mem_map.2 ⟨y,hy,rfl⟩) h.1
  ·exact absurd (e.symm ▸ List.mem_map.2 ⟨x,by assumption,rfl⟩) h.1
  ·exact ih h.2 hx hy
/-! ### at the operation -/
section
variable {P : Program} {K V : Type} [DecidableEq K] {ek : K → Value} {ev : V → Value} (w : World) {ops : Array Oper} {rest : List Oper} {o : Oper} {a : Act} {Q : Exit → Act → World → Prop}
theorem qx (hg:o.guard=none) (x y:Operand) (t:TypeId) (c:Bool) (hop:o.op=Op.lookup t x y c) {kt et:TypeId} (KE:Qf P kt ek) (ht:P.underlying t=some (.map kt et)) {z:Value} (hz:(zeroValue et).run P w = .ok z w)
  (b:Nat) (m:List (K × V)) (hx:a.eval x = .map (some b)) (h:yg w b ek ev m) (k:K) (hy:a.eval y=ek k)
  (hK:wpList P ops Q rest (a.put o.dst (if c then .tuple #[((zw m k).map ev).getD z,.bool (zw m k).isSome] else ((zw m k).map ev).getD z)) w):wpList P ops Q (o :: rest) a w:=by
 refine wpList_plain hg fun K' hK'=>?_
 unfold Oper.wp;simp[execOp,hop,hx,hy,h.lookup KE ht hz k c,Result.andThen]
 exact hK' _ _ (by simpa using hK)
theorem zco (hg:o.guard=none) (x y v:Operand) (t:TypeId) (hop:o.op=Op.mapUpdate t x y v) {kt et:TypeId} (KE:Qf P kt ek) (ht:P.underlying t=some (.map kt et))
  (b:Nat) (m:List (K × V)) (hx:a.eval x = .map (some b)) (h:yg w b ek ev m) (k:K) (u:V) (hy:a.eval y=ek k) (hv:a.eval v=ev u)
  (hK:∀w',yg w' b ek ev (yj m k u)→w.grownBy w' (some b)→w'.heap.size=w.heap.size→wpList P ops Q rest (a.put o.dst undef) w'):wpList P ops Q (o :: rest) a w:=by
 refine wpList_plain hg fun K' hK'=>?_
 obtain⟨w',hrun,r1,r2,r3⟩:=h.update KE ht k u;unfold Oper.wp;simp[execOp,hop,hx,hy,hv,hrun,Result.andThen]
 exact hK' _ _ (hK w' r1 r2 r3)
theorem Vw (hg:o.guard=none) (x y:Operand) (t kt:TypeId) (hop:o.op=Op.call { callee:=Callee.builtin Builtin.delete,args:=#[x,y],argTypes:=#[t,kt] }) {et:TypeId} (KE:Qf P kt ek) (ht:P.underlying t=some (.map kt et))
  (b:Nat) (m:List (K × V)) (hx:a.eval x = .map (some b)) (h:yg w b ek ev m) (k:K) (hy:a.eval y=ek k)
  (hK:∀w',yg w' b ek ev (qn m k)→w.grownBy w' (some b)→w'.heap.size=w.heap.size→wpList P ops Q rest (a.put o.dst (.tuple #[])) w'):wpList P ops Q (o :: rest) a w:=by
 refine wpList_plain hg fun K' hK'=>?_
 obtain⟨w',hrun,r1,r2,r3⟩:=h.delete KE ht k kt o.type;unfold Oper.wp;simp[execOp,hop,resolve,invoke,builtin,hx,hy,hrun,Result.andThen]
 exact hK' _ _ (hK w' r1 r2 r3)
end
/-! ### ranging -/
def ur (w:World) (r b:Nat) {K V:Type} (ek:K→Value) (ev:V→Value) (m:List (K × V)) (seen:K→Bool):Prop:=
 ∃es clock sn,w.heap[b]? = some (.map es clock)∧Stamped es clock∧es.toList.map (fun e=>(e.key,e.val))=m.map (fun p=>(ek p.1,ev p.2))∧
  w.heap[r]? = some (.mapIter (some b) clock sn clock)∧∀e∈es.toList,∀k,e.key=ek k→sn.contains e.born=seen k
section
variable {P : Program} {K V : Type} {ek : K → Value} {ev : V → Value} {w : World} {r b : Nat} {m : List (K × V)} {kt et t : TypeId} {seen : K → Bool}
theorem ur.map (h:ur w r b ek ev m seen):yg w b ek ev m:=by
 obtain⟨es,clock,sn,hb,hs,he,_⟩:=h
 exact⟨es,clock,hb,hs,he⟩
theorem ur.ne (h:ur w r b ek ev m seen):r≠b:=by
 obtain⟨es,clock,sn,hb,hs,he,hr,_⟩:=h;rintro rfl;rw[hb] at hr
 cases hr
theorem ur.lt (h:ur w r b ek ev m seen):r<w.heap.size:=by
 obtain⟨es,clock,sn,hb,hs,he,hr,_⟩:=h
 exact(Array.getElem?_eq_some_iff.1 hr).1
theorem ur.same {w':World} (h:ur w r b ek ev m seen) (e1:w'.heap[b]? = w.heap[b]?) (e2:w'.heap[r]? = w.heap[r]?):ur w' r b ek ev m seen:=by
 obtain⟨es,clock,sn,hb,hs,he,hr,hk⟩:=h
 exact⟨es,clock,sn,e1.trans hb,hs,he,e2.trans hr,hk⟩
theorem ur.kept {w':World} {row:Option Nat} (h:ur w r b ek ev m seen) (hg:w.grownBy w' row) (h1:some b≠row) (h2:some r≠row):ur w' r b ek ev m seen:=
 h.same (hg.block b h.map.lt h1) (hg.block r h.lt h2)
theorem yg.range (ht:P.underlying t=some (.map kt et)) (h:yg w b ek ev m) :
  ∃w',(Instr.range t (.map (some b))).run P w = .ok (.pointer (some ⟨w.heap.size,0,none⟩)) w'∧ur w' w.heap.size b ek ev m (fun _=>false)∧w.grownBy w' none∧w'.heap.size=w.heap.size+1:=by
 have hlt:=h.lt;obtain⟨es,clock,hb,hs,he⟩:=h;refine⟨w.alloc (.mapIter (some b) clock #[] clock),?_,⟨es,clock,#[],(Below.heap_alloc w _ b hlt).trans hb,hs,he,(MapKept.heap_alloc w _).1,fun e _ k _=>by simp⟩,zg w _ none,by simp⟩
 simp only[Instr.range,Sem.run_bind,run_underlying ht,Result.andThen,getObj,Sem.run,hb,Sem.run_pure,newObj]
 rfl
theorem ur.next (inj:∀a b,ek a=ek b→a=b) [DecidableEq K] (h:ur w r b ek ev m seen) (ty:TypeId) :
  ((∀p∈m,seen p.1=true)∧(Instr.next (.pointer (some ⟨r,0,none⟩)) false ty).run P w = .ok (.tuple #[.bool false]) w)∨
  ∃k v w',(k,v)∈m∧seen k=false∧(Instr.next (.pointer (some ⟨r,0,none⟩)) false ty).run P w = .ok (.tuple #[.bool true,ek k,ev v]) w'∧
   ur w' r b ek ev m (fun x=>seen x || decide (x=k))∧w.grownBy w' (some r)∧w'.heap.size=w.heap.size∧
   (Instr.entry (.pointer (some ⟨r,0,none⟩))).run P w' = .ok (.tuple #[ek k,ev v]) w':=by
 have hne:=h.ne;obtain⟨es,clock,sn,hb,hs,he,hr,hk⟩:=h
 rcases run_next_at (P:=P) w ty r b clock clock sn es clock hr hb hs.1 (Nat.le_refl _) with ⟨h0,hrun⟩|⟨e,hmem,w1,hw1,hrun⟩
 ·left
  refine⟨fun p hp=>?_,hrun⟩
  obtain⟨x,hx,e1,e2⟩:=Xh he p hp;rw[←hk x hx p.1 e1];have h1:leftOf es sn = #[]:=Array.eq_empty_of_size_eq_zero h0;unfold leftOf at h1;rw[Array.filter_eq_empty_iff] at h1;have:=h1 x (by simpa using hx)
  simpa using this
 ·right
  have hmem2:e∈es.toList∧sn.contains e.born=false:=by
   unfold leftOf at hmem;simp only[Array.mem_toList_iff,Array.mem_filter] at hmem ⊢
   exact⟨hmem.1,by simpa using hmem.2⟩
  obtain⟨p,hp,e1,e2⟩:=Yd he e hmem2.1;have hr1:w1.heap[r]? = some (.mapIter (some b) clock sn clock):=by rcases hw1 with rfl|rfl <;> exact hr
  have hb1:w1.heap[b]? = some (.map es clock):=by rcases hw1 with rfl|rfl <;> exact hb
  have hlt:r<w1.heap.size:=(Array.getElem?_eq_some_iff.1 hr1).1;have er:(setBlock w1 r (.mapIter (some b) clock (sn.push e.born) clock)).heap[r]? = some (.mapIter (some b) clock (sn.push e.born) clock):=by simp[setBlock,hlt]
  have eb:(setBlock w1 r (.mapIter (some b) clock (sn.push e.born) clock)).heap[b]? = some (.map es clock):=by
   rw[←hb1];simp[setBlock,hne]
  have hg:w.grownBy (setBlock w1 r (.mapIter (some b) clock (sn.push e.born) clock)) (some r):=by
   have hw:w1.os=w.os∧w1.tape=w.tape∧w1.output=w.output∧w1.heap=w.heap:=by rcases hw1 with rfl|rfl <;> exact⟨rfl,rfl,rfl,rfl⟩
   refine⟨hw.1,hw.2.1,hw.2.2.1,by simp[setBlock,hw.2.2.2],fun i _ hi=>?_⟩
   have:r≠i:=fun e=>hi (by rw[e])
   simp[setBlock,hw.2.2.2,this]
  have hsz:(setBlock w1 r (.mapIter (some b) clock (sn.push e.born) clock)).heap.size=w.heap.size:=by rcases hw1 with rfl|rfl <;> (simp only[setBlock,Array.size_setIfInBounds];try rfl)
  refine⟨p.1,p.2,setBlock w1 r (.mapIter (some b) clock (sn.push e.born) clock),hp,?_,?_,⟨es,clock,sn.push e.born,eb,hs,he,er,?_⟩,hg,hsz,?_⟩
  ·rw[←hk e hmem2.1 p.1 e1];exact hmem2.2
  ·rw[hrun,e1,e2]
  ·intro x hx k hxk
   rw[Array.contains_push,hk x hx k hxk]
   congr 1
   rw[Bool.eq_iff_iff];simp only[beq_iff_eq,decide_eq_true_eq]
   constructor
   ·intro hborn
    have:x=e:=zhx hs.2.1 hx hmem2.1 hborn;subst this
    exact inj _ _ (hxk.symm.trans e1)
   ·rintro rfl
    have:x=e:=zkb hs.2.2 hx hmem2.1 (hxk.trans e1.symm);rw[this]
  ·rw[run_entry_at _ r b clock sn es clock e er eb hmem2.1 hs.2.1,e1,e2]
end
section
variable {P : Program} {K V : Type} [DecidableEq K] {ek : K → Value} {ev : V → Value} (w : World) {ops : Array Oper} {rest : List Oper} {o : Oper} {a : Act} {Q : Exit → Act → World → Prop}
def ziy {K V:Type} (m:List (K × V)) (seen:K→Bool):Prop:=∀p∈m,seen p.1=true
structure Came (P:Program) (w w':World) (r b:Nat) {K V:Type} [DecidableEq K] (ek:K→Value) (ev:V→Value) (m:List (K × V)) (seen:K→Bool) (k:K) (v:V):Prop where
 mem:(k,v)∈m
 new:seen k=false
 iter:ur w' r b ek ev m (fun x=>seen x || decide (x=k))
 grown:w.grownBy w' (some r)
 size:w'.heap.size=w.heap.size
 entry:(Instr.entry (.pointer (some ⟨r,0,none⟩))).run P w' = .ok (.tuple #[ek k,ev v]) w'
end
def zfr {K V:Type} (m:List (K × V)) (seen:K→Bool):Nat:=(m.filter fun p=>!seen p.1).length
theorem zbt {K V:Type} [DecidableEq K] {m:List (K × V)} {seen:K→Bool} {k:K} {v:V} (h:(k,v)∈m) (hs:seen k=false):zfr m (fun x=>seen x || decide (x=k))<zfr m seen:=by
 unfold zfr
 induction m with
 | nil=>simp at h
 | cons p r ih=>
  have hle:∀l:List (K × V),(l.filter fun p=>!(seen p.1 || decide (p.1=k))).length≤(l.filter fun p=>!seen p.1).length:=by
   intro l
   induction l with
   | nil=>simp
   | cons q t ih=>
    simp only[List.filter_cons]
    cases hq:seen q.1
    ·by_cases e:q.1=k
     ·simp[e];simp at ih;omega
     ·simp[e];simp at ih;omega
    ·simp;simp at ih;omega
  rcases List.mem_cons.1 h with e|h
  ·subst e
   have:=hle r;simp only[List.filter_cons,hs];simp at this ⊢;omega
  ·have:=ih h
   simp only[List.filter_cons]
   cases hq:seen p.1
   ·by_cases e:p.1=k
    ·simp[e];simp at this;omega
    ·simp[e];simp at this;omega
   ·simp;simp at this;omega
/-! ### for the walk: a map under blocks that are laid, and cells that are stored -/
section
variable {K V : Type} {ek : K → Value} {ev : V → Value} (w : World) {b : Nat} {m : List (K × V)}
@[go_sem] theorem zj5:yg w.drew b ek ev m↔yg w b ek ev m:=Iff.rfl
@[go_sem] theorem znl (a:Addr) (v:Value):yg (w.setCell a v) b ek ev m↔yg w b ek ev m:=by
 have h1:∀es c,(w.setCell a v).heap[b]? = some (.map es c)↔w.heap[b]? = some (.map es c):=fun es c=>by
  simp only[World.setCell,Array.getElem?_modify]
  split
  ·rename_i e
   subst e
   cases hb:w.heap[a.block]? with
   | none=>simp
   | some o=>cases o <;> simp
  ·exact Iff.rfl
 constructor
 ·rintro⟨es,c,hb,r⟩;exact⟨es,c,(h1 es c).1 hb,r⟩
 ·rintro⟨es,c,hb,r⟩;exact⟨es,c,(h1 es c).2 hb,r⟩
@[go_sem] theorem mapT_alloc1 (o:Obj) (h:yg w b ek ev m):yg (w.alloc o) b ek ev m:=h.alloc o
@[go_sem] theorem mapT_alloc2 (o o':Obj) (h:yg w b ek ev m):yg ((w.alloc o).alloc o') b ek ev m:=(h.alloc o).alloc o'
@[go_sem] theorem mapT_alloc3 (o o' o2:Obj) (h:yg w b ek ev m):yg (((w.alloc o).alloc o').alloc o2) b ek ev m:=((h.alloc o).alloc o').alloc o2
@[go_sem] theorem mapT_alloc4 (o o' o2 o3:Obj) (h:yg w b ek ev m):yg ((((w.alloc o).alloc o').alloc o2).alloc o3) b ek ev m:=(((h.alloc o).alloc o').alloc o2).alloc o3
end
theorem xg {w:World} {a:Addr} {v:Value} (h:w.cell? a=some v):a.block<w.heap.size:=by
 unfold World.cell? at h
 split at h
 ·rename_i hh;exact(Array.getElem?_eq_some_iff.1 hh).1
 ·cases h
def zjb (w:World) (r b:Nat):Nat:=
 match w.heap[b]?,w.heap[r]? with
 | some (.map es _),some (.mapIter _ _ sn _)=>(es.toList.filter fun e=>!sn.contains e.born).length
 | _,_=>0
theorem zbu {K V:Type} {ek:K→Value} {ev:V→Value} {seen:K→Bool} {c:MapEntry→Bool}:∀(es:List MapEntry) (m:List (K × V)),es.map (fun e=>(e.key,e.val))=m.map (fun p=>(ek p.1,ev p.2))→
  (∀e∈es,∀k,e.key=ek k→c e=seen k)→(es.filter fun e=>!c e).length=(m.filter fun p=>!seen p.1).length
 | [],[],_,_=>rfl
 | [],_ :: _,h,_=>by simp at h
 | _ :: _,[],h,_=>by simp at h
 | e :: es,p :: m,h,hc=>by
  simp only[List.map_cons,List.cons.injEq,Prod.mk.injEq] at h;have h1:=hc e (by simp) p.1 h.1.1
  have ih:=zbu es m h.2 (fun e he=>hc e (by simp[he]))
  simp only[List.filter_cons,h1]
  cases seen p.1 <;> simp[ih]
theorem ur.left {w:World} {r b:Nat} {K V:Type} {ek:K→Value} {ev:V→Value} {m:List (K × V)} {seen:K→Bool} (h:ur w r b ek ev m seen):zjb w r b=zfr m seen:=by
 obtain⟨es,clock,sn,hb,hs,he,hr,hk⟩:=h;simp only[zjb,hb,hr,zfr]
 exact zbu (c:=fun e=>sn.contains e.born) es.toList m he hk
theorem xt {K V:Type} [DecidableEq K] (m:List (K × V)) (k:K) (v:V):zw (yj m k v) k=some v:=by
 induction m with
 | nil=>simp[yj,zw]
 | cons p r ih=>
  simp only[yj]
  split
  ·simp[zw]
  ·rename_i h;simp[zw,h,ih]
theorem vq {K V:Type} [DecidableEq K] (m:List (K × V)) {k k':K} (v:V) (h:k'≠k):zw (yj m k v) k'=zw m k':=by
 induction m with
 | nil=>simp[yj,zw,Ne.symm h]
 | cons p r ih=>
  simp only[yj]
  split
  ·rename_i e;subst e;simp[zw,Ne.symm h]
  ·simp only[zw,ih]
end Go.Sf
namespace Go.Sf
open Go.MapKept Go.RowKit
structure Ext where
 d:Nat
 os:Array Obj
 deriving Inhabited
def ext (w:World) (x:Ext):World:={ w with heap:=w.heap++x.os,drawn:=x.d }
theorem zd9 {w w':World} (h:w.grownBy w' none):∃x,w'=ext w x:=by
 refine⟨⟨w'.drawn,w'.heap.extract w.heap.size w'.heap.size⟩,?_⟩;have e:w'.heap=w.heap++w'.heap.extract w.heap.size w'.heap.size:=by
  apply Array.ext_getElem?
  intro k;rw[Array.getElem?_append]
  split
  ·rename_i hk;exact h.block k hk (by simp)
  ·rename_i hk
   rw[Array.getElem?_extract]
   split
   ·congr 1;omega
   ·rw[Array.getElem?_eq_none];have:=h.size;omega
 obtain⟨h1,h2,h3,_,_⟩:=h
 cases w;cases w'
 simp only[ext] at *;subst h1;subst h2;subst h3;rw[←e]
section
variable (w : World) (x y : Ext) (a : Addr)
@[go_sem] theorem size_ext:(ext w x).heap.size=w.heap.size+x.os.size:=by simp[ext]
theorem zbp {k:Nat} (h:k<w.heap.size):(ext w x).heap[k]? = w.heap[k]?:=by simp[ext,Array.getElem?_append,h]
@[go_sem] theorem zbj (h:a.block<w.heap.size):(ext w x).cell? a=w.cell? a:=by simp only[World.cell?,zbp w x h]
@[go_sem] theorem frozen_ext (h:a.block<w.heap.size):(ext w x).frozen? a=w.frozen? a:=by simp only[World.frozen?,zbp w x h]
@[go_sem] theorem drew_ext:(ext w x).drew=ext w ⟨x.d+1,x.os⟩:=rfl
@[go_sem] theorem ext_drew:ext w.drew x=ext w x:=rfl
@[go_sem] theorem ext_ext:ext (ext w x) y=ext w ⟨y.d,x.os++y.os⟩:=by simp[ext,Array.append_assoc]
theorem ul:w.grownBy (ext w x) none:=⟨rfl,rfl,rfl,by simp[ext],fun k hk _=>zbp w x hk⟩
@[go_sem] theorem mapT_ext {K V:Type} {ek:K→Value} {ev:V→Value} {b:Nat} {m:List (K × V)} (h:yg w b ek ev m):yg (ext w x) b ek ev m:=h.kept (ul w x) (by simp)
@[go_sem] theorem mapT_ext1 {K V:Type} {ek:K→Value} {ev:V→Value} {b:Nat} {m:List (K × V)} (o:Obj) (h:yg w b ek ev m):yg (ext (w.alloc o) x) b ek ev m:=(h.alloc o).kept (ul _ x) (by simp)
@[go_sem] theorem mapT_ext2 {K V:Type} {ek:K→Value} {ev:V→Value} {b:Nat} {m:List (K × V)} (o o':Obj) (h:yg w b ek ev m):yg (ext ((w.alloc o).alloc o') x) b ek ev m:=((h.alloc o).alloc o').kept (ul _ x) (by simp)
@[go_sem] theorem mapT_ext1b {K V:Type} {ek:K→Value} {ev:V→Value} {b:Nat} {m:List (K × V)} (o:Obj) (h:yg w b ek ev m):yg ((ext w x).alloc o) b ek ev m:=(h.kept (ul _ x) (by simp)).alloc o
end
theorem zo {a b c:World} (h:a.grownBy b none) (k:b.grownBy c none):a.grownBy c none:=
 ⟨k.os.trans h.os,k.tape.trans h.tape,k.output.trans h.output,Nat.le_trans h.size k.size,fun i hi hn=>(k.block i (Nat.lt_of_lt_of_le hi h.size) hn).trans (h.block i hi hn)⟩
theorem zm (w:World):w.grownBy w none:=⟨rfl,rfl,rfl,Nat.le_refl _,fun _ _ _=>rfl⟩
theorem zu {a w:World} (h:a.grownBy w none) (o:Obj):a.grownBy (w.alloc o) none:=zo h (zg w o none)
theorem zl {a w:World} (h:a.grownBy w none):a.grownBy w.drew none:=zo h ⟨rfl,rfl,rfl,Nat.le_refl _,fun _ _ _=>rfl⟩
theorem un {a w:World} (h:a.grownBy w none) (x:Ext):a.grownBy (ext w x) none:=zo h (ul w x)
theorem yp {a w:World} (h:a.grownBy w none) {p:Addr} (hp:a.heap.size≤p.block) (u:Value):a.grownBy (w.setCell p u) none:=
 ⟨h.os,h.tape,h.output,Nat.le_trans h.size (by simp[World.setCell]),fun k hk hn=>(Below.heap_setCell w p u k (by omega)).trans (h.block k hk hn)⟩
theorem yd {P:Program} {id:Nat} {Q:Exit→Act→World→Prop} {a:Act} {w:World} {l:List Oper} (hm:P.follows .mixedOrders=true) (hB:Region.lexB .any l.toArray=true)
  (h:wpQuiet P l.toArray (fun w'=>∃x:Ext,w'=ext w x) (fun a'=>∀w',(∃x:Ext,w'=ext w x)→Q .normal a' w') l a):(Code.region id l.toArray true).wp P Q a w:=
 wp_region_quiet (C:=fun w'=>∃x:Ext,w'=ext w x) hm hB ⟨⟨w.drawn+1,#[]⟩,by simp only[ext,Array.append_empty]⟩ (by simpa using h)
theorem yq {P:Program} {f:FuncId} {args:Array Value} {w:World} {x:Ext} {v:Value}
  (h:Calls P f args (ext w x) fun e w'=>e = .returned v∧(ext w x).grownBy w' none):Calls P f args (ext w x) fun e w''=>e = .returned v∧∃y:Ext,w''=ext w y:=
 h.mono fun _ _ ⟨he,hg⟩=>⟨he,zd9 (zo (ul w x) hg)⟩
end Go.Sf
