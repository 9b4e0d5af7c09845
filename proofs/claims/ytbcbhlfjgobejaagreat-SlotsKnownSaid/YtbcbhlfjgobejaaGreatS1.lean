/- Steps of a region that draws, in short: an operation is named by its number alone. Conditions: none, or as the theorems say. -/
import Derived.Deep.RegionLaw
import Derived.Deep.RegionHeld3
import Derived.KernelRfl
import Derived.Test.YtbcbhlfjgobejaaGreatProg
import Derived.WalkKit
import Derived.MapKept
import Derived.WideKeyRuns
import Derived.Maps.OwnSet
import Derived.Maps.RangeRun
import Derived.Maps.RangeWalk
import Derived.Lib.Hide
import Derived.Laws.AppendOwn
import Derived.Below
theorem Go.zd {p:Prop} (h:p):Go.RowKit.Hid p:=h
theorem Go.ze (w:Go.World) (o:Go.Obj) (b:Option Nat):w.grownBy (w.alloc o) b:=Go.World.grownBy_alloc w o b
set_option linter.unusedSimpArgs false
set_option linter.unusedVariables false
namespace Go
set_option maxHeartbeats 200000000
variable {α:Type} {v:Value}
theorem za (xs:List α) (i:Nat) (a:α):xs.toArray.setIfInBounds i a=(xs.set i a).toArray:=List.setIfInBounds_toArray ..
theorem zb (x a:α) (xs:List α):(x :: xs).set 0 a=a :: xs:=rfl
theorem zc (x a:α) (xs:List α) (n:Nat):(x :: xs).set (n+1) a=x :: xs.set n a:=rfl
section
variable {P : Program} {md : Region.Mode} {ops : Array Oper} {Q : Exit → Act → World → Prop} {S : World → Prop} {ty : TypeId} {pl : String} {af : Array Edge} {fuel : Nat} {listed L : Array Bool} {a b : Act} {w : World} {op : Op} {g : Option (Nat × Bool)} {d : Nat} {D : Option Nat}
theorem qT (i:Nat) (h:wpAnyH P md ops Q S fuel (L.setIfInBounds i true) (b.put (some d) v) w) (hi:ops[i]? = some ⟨some d,op,ty,pl,af,g⟩:=by rfl)
 (hb:a=b:=by(try simp only[Act.put,za,zb,zc]);with_reducible rfl) (hL:listed=L:=by(try simp only[Act.put,za,zb,zc]);with_reducible rfl)
 (hs:Region.noSelect ops=true:=by kernel_rfl) (hr:(Region.ready md ops L).contains i=true:=by kernel_rfl) (hf:Region.free md ops L i=true:=by kernel_rfl) (hg:Region.wanted ⟨some d,op,ty,pl,af,g⟩ (yielded ops b.tmps)=true:=by rfl)
 (he:∀w,S w→(execOp b.eval ⟨some d,op,ty,pl,af,g⟩).run P w = .ok (.value v) w:=by intro w h;(try dsimp only at h);go_simp;try with_reducible rfl)
 (hS:S w:=by assumption) (hQ:∀c (a:Act) w,Q (.panic c) (a.put (some d) v) w→Q (.panic c) a w:=by exact λ_ _ _ h=>h):wpAnyH P md ops Q S (fuel+1) listed a w:=by
 subst hb hL
 exact wpAnyH_take hi hs hf hr hQ (Or.inl ⟨hg,he⟩) hS h
theorem qY (i:Nat) (h:wpAnyH P md ops Q S fuel (L.setIfInBounds i true) (b.put (some d) v) w) (hi:ops[i]? = some ⟨some d,op,ty,pl,af,g⟩:=by rfl)
 (hb:a=b:=by(try simp only[Act.put,za,zb,zc]);with_reducible rfl) (hL:listed=L:=by(try simp only[Act.put,za,zb,zc]);with_reducible rfl)
 (hy:YieldsIf P ops S ⟨some d,op,ty,pl,af,g⟩ v b) (hs:Region.noSelect ops=true:=by kernel_rfl) (hf:Region.free md ops L i=true:=by kernel_rfl) (hr:(Region.ready md ops L).contains i=true:=by kernel_rfl)
 (hS:S w:=by assumption) (hQ:∀c (a:Act) w,Q (.panic c) (a.put (some d) v) w→Q (.panic c) a w:=by exact λ_ _ _ h=>h):wpAnyH P md ops Q S (fuel+1) listed a w:=by
 subst hb hL
 exact wpAnyH_take hi hs hf hr hQ hy hS h
theorem qU (i:Nat) (h:wpAnyH P md ops Q S fuel (L.setIfInBounds i true) (b.put D undef) w) (hi:ops[i]? = some ⟨D,op,ty,pl,af,g⟩:=by rfl)
 (hb:a=b:=by(try simp only[Act.put,za,zb,zc]);with_reducible rfl) (hL:listed=L:=by(try simp only[Act.put,za,zb,zc]);with_reducible rfl)
 (hs:Region.noSelect ops=true:=by kernel_rfl) (hr:(Region.ready md ops L).contains i=true:=by kernel_rfl) (hf:Region.free md ops L i=true:=by kernel_rfl) (hg:Region.wanted ⟨D,op,ty,pl,af,g⟩ (yielded ops b.tmps)=false:=by rfl)
 (hS:S w:=by assumption) (hQ:∀c (a:Act) w,Q (.panic c) (a.put D undef) w→Q (.panic c) a w:=by exact λ_ _ _ h=>h):wpAnyH P md ops Q S (fuel+1) listed a w:=by
 subst hb hL
 exact wpAnyH_take hi hs hf hr hQ (Or.inr ⟨hg,rfl⟩) hS h
theorem qR (rs:List Nat) (h:AllReadyH P md ops Q S fuel L b w rs) (hb:a=b:=by(try simp only[Act.put,za,zb,zc]);with_reducible rfl) (hL:listed=L:=by(try simp only[Act.put,za,zb,zc]);with_reducible rfl)
 (hr:Region.ready md ops L=rs:=by kernel_rfl) (hne:rs≠[]:=by simp):wpAnyH P md ops Q S (fuel+1) listed a w:=by
 subst hb hL
 exact wpAnyH_ready hr hne h
theorem qC {rs:List Nat} (i:Nat) (h:∀K':Act→World→Prop,Shut (∀a w,S w→(S w→wpAnyH P md ops Q S fuel (listed.setIfInBounds i true) a w)→K' a w)→if Region.wanted ⟨D,op,ty,pl,af,g⟩ (yielded ops a.tmps)=true then Oper.wp P ⟨D,op,ty,pl,af,g⟩ a w K' Q else K' (a.put D undef) w)
 (hs:AllReadyH P md ops Q S fuel listed a w rs) (ho:ops[i]? = some ⟨D,op,ty,pl,af,g⟩:=by rfl):AllReadyH P md ops Q S fuel listed a w (i :: rs):=AllReadyH.cons ho h hs
theorem qN:AllReadyH P md ops Q S fuel listed a w []:=AllReadyH.nil
theorem qO (i:Nat) (h:∀K':Act→World→Prop,Shut (∀a w,S w→(S w→wpAnyH P md ops Q S fuel (L.setIfInBounds i true) a w)→K' a w)→if Region.wanted ⟨D,op,ty,pl,af,g⟩ (yielded ops b.tmps)=true then Oper.wp P ⟨D,op,ty,pl,af,g⟩ b w K' Q else K' (b.put D undef) w)
 (ho:ops[i]? = some ⟨D,op,ty,pl,af,g⟩:=by rfl) (hb:a=b:=by(try simp only[Act.put,za,zb,zc]);with_reducible rfl) (hL:listed=L:=by(try simp only[Act.put,za,zb,zc]);with_reducible rfl) (hr:Region.ready md ops L = [i]:=by kernel_rfl):wpAnyH P md ops Q S (fuel+1) listed a w:=by
 subst hb hL
 exact wpAnyH_ready hr (by simp) (AllReadyH.cons ho h AllReadyH.nil)
theorem qD (h:Q .normal b w) (hb:a=b:=by(try simp only[Act.put,za,zb,zc]);with_reducible rfl) (hL:listed=L:=by(try simp only[Act.put,za,zb,zc]);with_reducible rfl) (hr:Region.ready md ops L = []:=by kernel_rfl):wpAnyH P md ops Q S fuel listed a w:=by
 subst hb hL
 exact wpAnyH_done hr h _
theorem qH {id:Nat} {S:World→Prop} (hS:S w.drew) (h:S w.drew→wpAnyH P .any ops Q S ops.size (Array.replicate ops.size false) a w.drew) (hm:P.follows .mixedOrders=true:=by kernel_rfl):(Code.region id ops true).wp P Q a w:=wp_region_held_drew hm hS h
end
end Go
namespace Go.Sf
open Go.MapKept Go.RowKit
open Go.ChangeMaps (setBlock)
variable {j:Nat} {row:Option Nat} {P:Program} {K V:Type} {et kt:TypeId} {w w':World}
def zw {K V:Type} [DecidableEq K]:List (K × V)→K→Option V
 | [],_=>none
 | p :: r,k=>if p.1=k then some p.2 else zw r k
def yo {K V:Type} [DecidableEq K]:List (K × V)→K→V→List (K × V)
 | [],k,v=>[(k,v)]
 | p :: r,k,v=>if p.1=k then (k,v) :: r else p :: yo r k v
def jq {K V:Type} [DecidableEq K] (m:List (K × V)) (k:K):List (K × V):=m.filter λp=>decide (p.1≠k)
structure zbe (P:Program) (kt:TypeId) {K:Type} (enc:K→Value):Prop where
 inj:∀a b,enc a=enc b→a=b
 check:∀em k w,(Instr.checkKey em 10000 kt (enc k)).run P w = .ok () w
 same:∀k,Instr.sameBits 10000 (enc k) (enc k)=true
 find:∀(k:K) (es:List MapEntry) (w:World),(∀x∈es,∃k',x.key=enc k')→
  ((Instr.findKey kt (enc k) es).run P w = .ok none w∧∀x∈es,x.key≠enc k)∨
  ∃j e,(Instr.findKey kt (enc k) es).run P w = .ok (some (j,e.val)) w∧es[j]? = some e∧e.key=enc k
theorem zds {d:TypeDesc} {K:Type} {enc:K→Value} (hd:P.underlying kt=some d) (hk:∀k,IsKey d (enc k)) (inj:∀a b,enc a=enc b→a=b):zbe P kt enc where
 inj:=inj
 check:=λem k w=>run_checkKey hd (hk k) em 9999
 same:=λk=>sameBits_self (hk k) 10000
 find:=λk es w h=>by
  have h':∀x∈es,IsKey d x.key:=λx hx=>by obtain⟨k',e⟩:=h x hx;rw[e];exact hk k'
  rcases findNow_spec (hk k) es 0 h' with ⟨h1,h2⟩|⟨j,e,h1,h2,h3⟩
  ·exact .inl ⟨run_findKey hd h1,h2⟩
  ·rw[Nat.zero_add] at h1
   exact .inr ⟨j,e,run_findKey hd h1,h2,h3⟩
theorem zb7 [DecidableEq K] {enc:K→Value} (inj:∀a b,enc a=enc b→a=b)
 (heq:∀a b w,(Op.equal kt (enc a) (enc b)).run P w = .ok (decide (a=b)) w) (k:K) (w:World):∀(es:List MapEntry) (i:Nat),(∀x∈es,∃k',x.key=enc k')→
  ((Instr.findAsking kt (enc k) es i).run P w = .ok none w∧∀x∈es,x.key≠enc k)∨
  ∃j e,(Instr.findAsking kt (enc k) es i).run P w = .ok (some (i+j,e.val)) w∧es[j]? = some e∧e.key=enc k
 | [],i,_=>.inl ⟨by simp[Instr.findAsking],by simp⟩
 | x :: es,i,h=>by
  obtain⟨k',hk'⟩:=h x (by simp)
  have e1:=heq k k' w
  by_cases hkk:k=k'
  ·subst hkk
   refine .inr ⟨0,x,?_,rfl,hk'⟩;simp[Instr.findAsking,hk',e1,Result.andThen]
  ·rcases zb7 inj heq k w es (i+1) (λy hy=>h y (by simp[hy])) with ⟨h1,h2⟩|⟨j,e,h1,h2,h3⟩
   ·refine .inl ⟨by simp[Instr.findAsking,hk',e1,hkk,Result.andThen,h1],λy hy=>?_⟩
    rcases List.mem_cons.1 hy with rfl|hy
    ·rw[hk'];exact λe=>hkk (inj _ _ e).symm
    ·exact h2 y hy
   ·refine .inr ⟨j+1,e,?_,by simpa using h2,h3⟩
    simp[Instr.findAsking,hk',e1,hkk,Result.andThen,h1];omega
theorem zmq [DecidableEq K] {enc:K→Value} (hwide:(match P.underlying kt with|some (.array _ _)|some (.struct _)=>true|_=>false)=true)
 (check:∀em k w,(Instr.checkKey em 10000 kt (enc k)).run P w = .ok () w) (same:∀k,Instr.sameBits 10000 (enc k) (enc k)=true) (inj:∀a b,enc a=enc b→a=b)
 (heq:∀a b w,(Op.equal kt (enc a) (enc b)).run P w = .ok (decide (a=b)) w):zbe P kt enc where
 inj:=inj
 check:=check
 same:=same
 find:=λk es w h=>by
  rw[run_findKey_eq w hwide]
  rcases zb7 inj heq k w es 0 h with h1|⟨j,e,h1,h2,h3⟩
  ·exact .inl h1
  ·rw[Nat.zero_add] at h1
   exact .inr ⟨j,e,h1,h2,h3⟩
def yg (w:World) (b:Nat) {K V:Type} (ek:K→Value) (ev:V→Value) (m:List (K × V)):Prop:=
 ∃es clock,w.heap[b]? = some (.map es clock)∧Stamped es clock∧es.toList.map (λe=>(e.key,e.val))=m.map (λp=>(ek p.1,ev p.2))
section
variable {P : Program} {K V : Type} [DecidableEq K] {ek : K → Value} {ev : V → Value} {w : World} {b : Nat} {m : List (K × V)} {kt et t : TypeId}
omit [DecidableEq K] in
theorem yg.lt (h:yg w b ek ev m):b<w.heap.size:=by
 obtain⟨es,clock,hb,_⟩:=h
 exact(Array.getElem?_eq_some_iff.1 hb).1
omit [DecidableEq K] in
theorem yg.same (h:yg w b ek ev m) (e:w'.heap[b]? = w.heap[b]?):yg w' b ek ev m:=by
 obtain⟨es,clock,hb,r⟩:=h
 exact⟨es,clock,e.trans hb,r⟩
omit [DecidableEq K] in
theorem yg.kept (h:yg w b ek ev m) (hg:w.grownBy w' row) (hne:some b≠row):yg w' b ek ev m:=by
 have hlt:b<w.heap.size:=by obtain⟨es,clock,hb,_⟩:=h;exact(Array.getElem?_eq_some_iff.1 hb).1
 exact h.same (hg.block b hlt hne)
omit [DecidableEq K] in
theorem yg.alloc (h:yg w b ek ev m) (o:Obj):yg (w.alloc o) b ek ev m:=h.kept (ze w o none) (by simp)
omit [DecidableEq K] in
theorem zfo (w:World) (ek:K→Value) (ev:V→Value):yg (w.alloc (.map #[] 0)) w.heap.size ek ev ([]:List (K × V)):=
 ⟨#[],0,(MapKept.heap_alloc w _).1,stamped_empty 0,rfl⟩
omit [DecidableEq K] in
theorem Vq {es:List MapEntry} {m:List (K × V)} (h:es.map (λe=>(e.key,e.val))=m.map (λp=>(ek p.1,ev p.2))) {e:MapEntry} (he:es[j]? = some e) :
  ∃p,m[j]? = some p∧e.key=ek p.1∧e.val=ev p.2:=by
 have h1:=congrArg (λl=>l[j]?) h
 simp only[List.getElem?_map,he,Option.map_some] at h1
 cases hm:m[j]? with
 | none=>rw[hm] at h1;simp at h1
 | some p=>
  rw[hm] at h1;simp only[Option.map_some,Option.some.injEq,Prod.mk.injEq] at h1
  exact⟨p,rfl,h1.1,h1.2⟩
omit [DecidableEq K] in
theorem Xd {es:List MapEntry} {m:List (K × V)} (h:es.map (λe=>(e.key,e.val))=m.map (λp=>(ek p.1,ev p.2))):∀x∈es,∃p∈m,x.key=ek p.1∧x.val=ev p.2:=λx hx=>by
 have h1:(x.key,x.val)∈es.map (λe=>(e.key,e.val)):=List.mem_map.2 ⟨x,hx,rfl⟩
 rw[h] at h1;obtain⟨p,hp,e⟩:=List.mem_map.1 h1;simp only[Prod.mk.injEq] at e
 exact⟨p,hp,e.1.symm,e.2.symm⟩
omit [DecidableEq K] in
theorem Vr {es:List MapEntry} {m:List (K × V)} (h:es.map (λe=>(e.key,e.val))=m.map (λp=>(ek p.1,ev p.2))):∀p∈m,∃x∈es,x.key=ek p.1∧x.val=ev p.2:=λp hp=>by
 have h1:(ek p.1,ev p.2)∈m.map (λp=>(ek p.1,ev p.2)):=List.mem_map.2 ⟨p,hp,rfl⟩
 rw[←h] at h1;obtain⟨x,hx,e⟩:=List.mem_map.1 h1;simp only[Prod.mk.injEq] at e
 exact⟨x,hx,e.1,e.2⟩
theorem Qq {m:List (K × V)} {k:K} (h:∀p∈m,p.1≠k):zw m k=none:=by
 induction m with
 | nil=>rfl
 | cons p r ih=>rw[zw,if_neg (h p (by simp)),ih (λq hq=>h q (by simp[hq]))]
theorem qj {m:List (K × V)} {k:K} {v:V} (h:zw m k=some v):(k,v)∈m:=by
 induction m with
 | nil=>simp[zw] at h
 | cons p r ih=>
  rw[zw] at h
  split at h
  ·rename_i e;cases h;subst e;simp
  ·simp[ih h]
theorem Yn {m:List (K × V)} (hn:(m.map (·.1)).Nodup) {k:K} {v:V} (h:(k,v)∈m):zw m k=some v:=by
 induction m with
 | nil=>simp at h
 | cons p r ih=>
  simp only[List.map_cons,List.nodup_cons] at hn;rw[zw]
  rcases List.mem_cons.1 h with e|h
  ·rw[←e];simp
  ·rw[if_neg,ih hn.2 h]
   intro e
   exact hn.1 (e ▸ List.mem_map.2 ⟨(k,v),h,rfl⟩)
theorem uz {m:List (K × V)} {k:K}:zw m k=none↔∀p∈m,p.1≠k:=by
 refine⟨λh p hp e=>?_,Qq⟩
 induction m with
 | nil=>simp at hp
 | cons q r ih=>
  rw[zw] at h
  split at h
  ·cases h
  ·rename_i hne
   rcases List.mem_cons.1 hp with rfl|hp
   ·exact hne e
   ·exact ih h hp
theorem Yo {m:List (K × V)} {k:K} (h:∀p∈m,p.1≠k) (v:V):yo m k v=m ++ [(k,v)]:=by
 induction m with
 | nil=>rfl
 | cons p r ih=>rw[yo,if_neg (h p (by simp)),ih (λq hq=>h q (by simp[hq]))];rfl
theorem zg3 {m:List (K × V)} (hn:(m.map (·.1)).Nodup) {p:K × V} (h:m[j]? = some p) (v:V):yo m p.1 v=m.set j (p.1,v):=by
 induction m generalizing j with
 | nil=>simp at h
 | cons q r ih=>
  simp only[List.map_cons,List.nodup_cons] at hn
  cases j with
  | zero=>
   simp only[List.getElem?_cons_zero,Option.some.injEq] at h;subst h;simp[yo]
  | succ j=>
   simp only[List.getElem?_cons_succ] at h;have hne:q.1≠p.1:=λe=>hn.1 (e ▸ List.mem_map.2 ⟨p,List.mem_of_getElem? h,rfl⟩)
   rw[yo,if_neg hne,ih hn.2 h]
   rfl
theorem zfp {m:List (K × V)} {k:K} (h:∀p∈m,p.1≠k):jq m k=m:=by
 unfold jq;rw[List.filter_eq_self];intro p hp;simpa using h p hp
theorem zlm {m:List (K × V)} (hn:(m.map (·.1)).Nodup) {p:K × V} (h:m[j]? = some p):jq m p.1=m.eraseIdx j:=by
 induction m generalizing j with
 | nil=>simp at h
 | cons q r ih=>
  simp only[List.map_cons,List.nodup_cons] at hn
  cases j with
  | zero=>
   simp only[List.getElem?_cons_zero,Option.some.injEq] at h;subst h;have:jq r q.1=r:=zfp λx hx e=>hn.1 (e ▸ List.mem_map.2 ⟨x,hx,rfl⟩)
   unfold jq at this ⊢;rw[List.filter_cons_of_neg (by simp),this]
   rfl
  | succ j=>
   simp only[List.getElem?_cons_succ] at h;have hne:q.1≠p.1:=λe=>hn.1 (e ▸ List.mem_map.2 ⟨p,List.mem_of_getElem? h,rfl⟩)
   have:=ih hn.2 h;unfold jq at this ⊢;rw[List.filter_cons_of_pos (by simpa using hne),this]
   rfl
omit [DecidableEq K] in
theorem yg.nodup (h:yg w b ek ev m):(m.map (·.1)).Nodup:=by
 obtain⟨es,clock,hb,hs,he⟩:=h;have h1:(es.toList.map (·.key))=(m.map (·.1)).map ek:=by
  have:=congrArg (List.map Prod.fst) he;simpa[List.map_map,Function.comp_def] using this
 have h2:=hs.2.2;rw[h1] at h2
 exact(List.nodup_iff_pairwise_ne.1 h2 |> List.pairwise_map.1 |> λhp=>List.nodup_iff_pairwise_ne.2 (hp.imp λhne e=>hne (by rw[e])))
theorem yg.lookup (KE:zbe P kt ek) (ht:P.underlying t=some (.map kt et)) {z:Value} (hz:(zeroValue et).run P w = .ok z w) (h:yg w b ek ev m) (k:K) (c:Bool) :
  (Instr.lookup t (.map (some b)) (ek k) c).run P w = .ok (if c then .tuple #[((zw m k).map ev).getD z,.bool (zw m k).isSome] else ((zw m k).map ev).getD z) w:=by
 have hnd:=h.nodup;obtain⟨es,clock,hb,hs,he⟩:=h;have hkeys:∀x∈es.toList,∃k',x.key=ek k':=λx hx=>by obtain⟨p,_,e,_⟩:=Xd he x hx;exact⟨p.1,e⟩
 rcases KE.find k es.toList w hkeys with ⟨h1,h2⟩|⟨j,e,h1,h2,h3⟩
 ·have hg:zw m k=none:=Qq λp hp e=>by
   obtain⟨x,hx,e1,_⟩:=Vr he p hp
   exact h2 x hx (by rw[e1,e])
  simp only[Instr.lookup,Sem.run_bind,run_underlying ht,Result.andThen,getObj,Sem.run,hb,KE.check,h1,hz,hg,Sem.run_pure]
  cases c <;> simp
 ·obtain⟨p,hp,e1,e2⟩:=Vq he h2
  have hk:p.1=k:=KE.inj _ _ (e1.symm.trans h3);have hg:zw m k=some p.2:=Yn hnd (by rw[←hk];exact List.mem_of_getElem? hp)
  simp only[Instr.lookup,Sem.run_bind,run_underlying ht,Result.andThen,getObj,Sem.run,hb,KE.check,h1,hg,Sem.run_pure,e2]
  cases c <;> simp
theorem yg.update (KE:zbe P kt ek) (ht:P.underlying t=some (.map kt et)) (h:yg w b ek ev m) (k:K) (v:V) :
  ∃w',(Instr.mapUpdate t (.map (some b)) (ek k) (ev v)).run P w = .ok () w'∧yg w' b ek ev (yo m k v)∧w.grownBy w' (some b)∧w'.heap.size=w.heap.size:=by
 have hnd:=h.nodup;obtain⟨es,clock,hb,hs,he⟩:=h;have hlt:b<w.heap.size:=(Array.getElem?_eq_some_iff.1 hb).1;have hkeys:∀x∈es.toList,∃k',x.key=ek k':=λx hx=>by obtain⟨p,_,e,_⟩:=Xd he x hx;exact⟨p.1,e⟩
 have grown:∀o,w.grownBy (setBlock w b o) (some b)∧(setBlock w b o).heap.size=w.heap.size:=λo=>
  ⟨⟨rfl,rfl,rfl,by simp[setBlock],λi _ hi=>(heap_set hb).2 i (λe=>hi (by rw[e]))⟩,by simp[setBlock]⟩
 rcases KE.find k es.toList w hkeys with ⟨h1,h2⟩|⟨j,e,h1,h2,h3⟩
 ·have hne:∀p∈m,p.1≠k:=λp hp e=>by
   obtain⟨x,hx,e1,_⟩:=Vr he p hp
   exact h2 x hx (by rw[e1,e])
  refine⟨setBlock w b (.map (es.push { key:=ek k,val:=ev v,born:=clock }) (clock+1)),?_,⟨_,_,(heap_set hb).1,stamped_push hs (λx hx=>h2 x hx),?_⟩,grown _⟩
  ·simp only[Instr.mapUpdate,Sem.run_bind,run_underlying ht,Result.andThen,getObj,Sem.run,hb,KE.check,h1,setObj,setBlock]
  ·rw[Yo hne]
   simp[he]
 ·obtain⟨p,hp,e1,e2⟩:=Vq he h2
  have hk:p.1=k:=KE.inj _ _ (e1.symm.trans h3);have hej:es[j]? = some e:=by simpa using h2
  refine⟨setBlock w b (.map (es.modify j λe=>{ e with key:=ek k,val:=ev v }) clock),?_,⟨_,_,(heap_set hb).1,stamped_modify hs j _ (λ_ _=>rfl) (λx _ hx=>?_),?_⟩,grown _⟩
  ·have hk2:((es[j]?).map (·.key)).getD (ek k)=ek k:=by rw[hej];exact h3
   simp only[Instr.mapUpdate,Sem.run_bind,run_underlying ht,Result.andThen,getObj,Sem.run,hb,KE.check,h1,hk2,Instr.keyThatStays,KE.same,if_true,Sem.run_pure,setObj,setBlock]
  ·rw[hej] at hx;cases hx;exact h3.symm
  ·rw[←hk,zg3 hnd hp]
   apply List.ext_getElem?
   intro i;simp only[List.getElem?_map,Array.getElem?_toList,Array.getElem?_modify,List.getElem?_set];have hj:=congrArg (λl=>l[i]?) he
   simp only[List.getElem?_map,Array.getElem?_toList] at hj
   by_cases hij:j=i
   ·subst hij
    have hlen:j<m.length:=(List.getElem?_eq_some_iff.1 hp).1;simp[hej,hlen]
   ·simp[hij,hj]
theorem yg.delete (KE:zbe P kt ek) (ht:P.underlying t=some (.map kt et)) (h:yg w b ek ev m) (k:K) (ats:TypeId) (ty:TypeId) :
  ∃w',(Builtin.delete_ #[t,ats] ty #[.map (some b),ek k]).run P w = .ok (.tuple #[]) w'∧yg w' b ek ev (jq m k)∧w.grownBy w' (some b)∧w'.heap.size=w.heap.size:=by
 have hnd:=h.nodup;obtain⟨es,clock,hb,hs,he⟩:=h;have hkeys:∀x∈es.toList,∃k',x.key=ek k':=λx hx=>by obtain⟨p,_,e,_⟩:=Xd he x hx;exact⟨p.1,e⟩
 have grown:∀o,w.grownBy (setBlock w b o) (some b)∧(setBlock w b o).heap.size=w.heap.size:=λo=>
  ⟨⟨rfl,rfl,rfl,by simp[setBlock],λi _ hi=>(heap_set hb).2 i (λe=>hi (by rw[e]))⟩,by simp[setBlock]⟩
 rcases KE.find k es.toList w hkeys with ⟨h1,h2⟩|⟨j,e,h1,h2,h3⟩
 ·have hne:∀p∈m,p.1≠k:=λp hp e=>by
   obtain⟨x,hx,e1,_⟩:=Vr he p hp
   exact h2 x hx (by rw[e1,e])
  refine⟨setBlock w b (.map es clock),?_,⟨_,_,(heap_set hb).1,hs,?_⟩,grown _⟩
  ·simp only[Builtin.delete_,Sem.run_bind,run_underlying ht,Result.andThen,getObj,Sem.run,hb,KE.check,h1,setObj,setBlock,List.getElem?_toArray,List.getElem?_cons_zero,List.getElem?_cons_succ,Sem.run_pure]
  ·rw[zfp hne,he]
 ·obtain⟨p,hp,e1,e2⟩:=Vq he h2
  have hk:p.1=k:=KE.inj _ _ (e1.symm.trans h3);refine⟨setBlock w b (.map (es.eraseIdxIfInBounds j) clock),?_,⟨_,_,(heap_set hb).1,stamped_erase hs j,?_⟩,grown _⟩
  ·simp only[Builtin.delete_,Sem.run_bind,run_underlying ht,Result.andThen,getObj,Sem.run,hb,KE.check,h1,setObj,setBlock,List.getElem?_toArray,List.getElem?_cons_zero,List.getElem?_cons_succ,Sem.run_pure]
  ·rw[←hk,zlm hnd hp]
   have hjl:j<es.size:=by have:=(List.getElem?_eq_some_iff.1 h2).1;simpa using this
   simp only[Array.eraseIdxIfInBounds,hjl,dite_true,Array.toList_eraseIdx];rw[ChangeMaps.map_eraseIdx,he,←ChangeMaps.map_eraseIdx]
end
theorem zkl {es:List MapEntry} (h:(es.map (·.born)).Nodup) {x y:MapEntry} (hx:x∈es) (hy:y∈es) (e:x.born=y.born):x=y:=by
 induction es with
 | nil=>simp at hx
 | cons z r ih=>
  simp only[List.map_cons,List.nodup_cons] at h
  rcases List.mem_cons.1 hx with rfl|hx <;> rcases List.mem_cons.1 hy with rfl|hy
  ·rfl
  ·exact absurd (e ▸ List.mem_map.2 ⟨y,hy,rfl⟩) h.1
  ·exact absurd (e.symm ▸ List.mem_map.2 ⟨x,by assumption,rfl⟩) h.1
  ·exact ih h.2 hx hy
theorem zm2 {es:List MapEntry} (h:(es.map (·.key)).Nodup) {x y:MapEntry} (hx:x∈es) (hy:y∈es) (e:x.key=y.key):x=y:=by
 induction es with
 | nil=>simp at hx
 | cons z r ih=>
  simp only[List.map_cons,List.nodup_cons] at h
  rcases List.mem_cons.1 hx with rfl|hx <;> rcases List.mem_cons.1 hy with rfl|hy
  ·rfl
  ·exact absurd (e ▸ List.mem_map.2 ⟨y,hy,rfl⟩) h.1
  ·exact absurd (e.symm ▸ List.mem_map.2 ⟨x,by assumption,rfl⟩) h.1
  ·exact ih h.2 hx hy
/-! ### at the operation -/
section
variable {P : Program} {K V : Type} [DecidableEq K] {ek : K → Value} {ev : V → Value} (w : World) {ops : Array Oper} {rest : List Oper} {o : Oper} {a : Act} {Q : Exit → Act → World → Prop}
theorem jm (hg:o.guard=none) (x y:Operand) (t:TypeId) (c:Bool) (hop:o.op=Op.lookup t x y c) {kt et:TypeId} (KE:zbe P kt ek) (ht:P.underlying t=some (.map kt et)) {z:Value} (hz:(zeroValue et).run P w = .ok z w)
  (b:Nat) (m:List (K × V)) (hx:a.eval x = .map (some b)) (h:yg w b ek ev m) (k:K) (hy:a.eval y=ek k)
  (hK:wpList P ops Q rest (a.put o.dst (if c then .tuple #[((zw m k).map ev).getD z,.bool (zw m k).isSome] else ((zw m k).map ev).getD z)) w):wpList P ops Q (o :: rest) a w:=by
 refine wpList_plain hg λK' hK'=>?_
 unfold Oper.wp;simp[execOp,hop,hx,hy,h.lookup KE ht hz k c,Result.andThen]
 exact hK' _ _ (by simpa using hK)
theorem zet (hg:o.guard=none) (x y v:Operand) (t:TypeId) (hop:o.op=Op.mapUpdate t x y v) (KE:zbe P kt ek) (ht:P.underlying t=some (.map kt et))
 (b:Nat) (m:List (K × V)) (hx:a.eval x = .map (some b)) (h:yg w b ek ev m) (k:K) (u:V) (hy:a.eval y=ek k) (hv:a.eval v=ev u)
 (hK:∀w',yg w' b ek ev (yo m k u)→w.grownBy w' (some b)→w'.heap.size=w.heap.size→wpList P ops Q rest (a.put o.dst undef) w'):wpList P ops Q (o :: rest) a w:=by
 refine wpList_plain hg λK' hK'=>?_
 obtain⟨w',hrun,r1,r2,r3⟩:=h.update KE ht k u;unfold Oper.wp;simp[execOp,hop,hx,hy,hv,hrun,Result.andThen]
 exact hK' _ _ (hK w' r1 r2 r3)
theorem zes (hg:o.guard=none) (x y:Operand) (t kt:TypeId) (hop:o.op=Op.call { callee:=Callee.builtin Builtin.delete,args:=#[x,y],argTypes:=#[t,kt] }) (KE:zbe P kt ek) (ht:P.underlying t=some (.map kt et))
 (b:Nat) (m:List (K × V)) (hx:a.eval x = .map (some b)) (h:yg w b ek ev m) (k:K) (hy:a.eval y=ek k)
 (hK:∀w',yg w' b ek ev (jq m k)→w.grownBy w' (some b)→w'.heap.size=w.heap.size→wpList P ops Q rest (a.put o.dst (.tuple #[])) w'):wpList P ops Q (o :: rest) a w:=by
 refine wpList_plain hg λK' hK'=>?_
 obtain⟨w',hrun,r1,r2,r3⟩:=h.delete KE ht k kt o.type;unfold Oper.wp;simp[execOp,hop,resolve,invoke,builtin,hx,hy,hrun,Result.andThen]
 exact hK' _ _ (hK w' r1 r2 r3)
end
/-! ### ranging -/
def qd (w:World) (r b:Nat) {K V:Type} (ek:K→Value) (ev:V→Value) (m:List (K × V)) (seen:K→Bool):Prop:=
 ∃es clock sn,w.heap[b]? = some (.map es clock)∧Stamped es clock∧es.toList.map (λe=>(e.key,e.val))=m.map (λp=>(ek p.1,ev p.2))∧
  w.heap[r]? = some (.mapIter (some b) clock sn clock)∧∀e∈es.toList,∀k,e.key=ek k→sn.contains e.born=seen k
section
variable {P : Program} {K V : Type} {ek : K → Value} {ev : V → Value} {w : World} {r b : Nat} {m : List (K × V)} {kt et t : TypeId} {seen : K → Bool}
theorem qd.map (h:qd w r b ek ev m seen):yg w b ek ev m:=by
 obtain⟨es,clock,sn,hb,hs,he,_⟩:=h
 exact⟨es,clock,hb,hs,he⟩
theorem qd.ne (h:qd w r b ek ev m seen):r≠b:=by
 obtain⟨es,clock,sn,hb,hs,he,hr,_⟩:=h;rintro rfl;rw[hb] at hr
 cases hr
theorem qd.lt (h:qd w r b ek ev m seen):r<w.heap.size:=by
 obtain⟨es,clock,sn,hb,hs,he,hr,_⟩:=h
 exact(Array.getElem?_eq_some_iff.1 hr).1
theorem qd.same (h:qd w r b ek ev m seen) (e1:w'.heap[b]? = w.heap[b]?) (e2:w'.heap[r]? = w.heap[r]?):qd w' r b ek ev m seen:=by
 obtain⟨es,clock,sn,hb,hs,he,hr,hk⟩:=h
 exact⟨es,clock,sn,e1.trans hb,hs,he,e2.trans hr,hk⟩
theorem qd.kept (h:qd w r b ek ev m seen) (hg:w.grownBy w' row) (h1:some b≠row) (h2:some r≠row):qd w' r b ek ev m seen:=
 h.same (hg.block b h.map.lt h1) (hg.block r h.lt h2)
theorem yg.range (ht:P.underlying t=some (.map kt et)) (h:yg w b ek ev m) :
  ∃w',(Instr.range t (.map (some b))).run P w = .ok (.pointer (some ⟨w.heap.size,0,none⟩)) w'∧qd w' w.heap.size b ek ev m (λ_=>false)∧w.grownBy w' none∧w'.heap.size=w.heap.size+1:=by
 have hlt:=h.lt;obtain⟨es,clock,hb,hs,he⟩:=h;refine⟨w.alloc (.mapIter (some b) clock #[] clock),?_,⟨es,clock,#[],(Below.heap_alloc w _ b hlt).trans hb,hs,he,(MapKept.heap_alloc w _).1,λe _ k _=>by simp⟩,ze w _ none,by simp⟩
 simp only[Instr.range,Sem.run_bind,run_underlying ht,Result.andThen,getObj,Sem.run,hb,Sem.run_pure,newObj]
 rfl
theorem qd.next (inj:∀a b,ek a=ek b→a=b) [DecidableEq K] (h:qd w r b ek ev m seen) (ty:TypeId) :
  ((∀p∈m,seen p.1=true)∧(Instr.next (.pointer (some ⟨r,0,none⟩)) false ty).run P w = .ok (.tuple #[.bool false]) w)∨
  ∃k v w',(k,v)∈m∧seen k=false∧(Instr.next (.pointer (some ⟨r,0,none⟩)) false ty).run P w = .ok (.tuple #[.bool true,ek k,ev v]) w'∧
   qd w' r b ek ev m (λx=>seen x || decide (x=k))∧w.grownBy w' (some r)∧w'.heap.size=w.heap.size∧
   (Instr.entry (.pointer (some ⟨r,0,none⟩))).run P w' = .ok (.tuple #[ek k,ev v]) w':=by
 have hne:=h.ne;obtain⟨es,clock,sn,hb,hs,he,hr,hk⟩:=h
 rcases run_next_at (P:=P) w ty r b clock clock sn es clock hr hb hs.1 (Nat.le_refl _) with ⟨h0,hrun⟩|⟨e,hmem,w1,hw1,hrun⟩
 ·left
  refine⟨λp hp=>?_,hrun⟩
  obtain⟨x,hx,e1,e2⟩:=Vr he p hp;rw[←hk x hx p.1 e1];have h1:leftOf es sn = #[]:=Array.eq_empty_of_size_eq_zero h0;unfold leftOf at h1;rw[Array.filter_eq_empty_iff] at h1;have:=h1 x (by simpa using hx)
  simpa using this
 ·right
  have hmem2:e∈es.toList∧sn.contains e.born=false:=by
   unfold leftOf at hmem;simp only[Array.mem_toList_iff,Array.mem_filter] at hmem ⊢
   exact⟨hmem.1,by simpa using hmem.2⟩
  obtain⟨p,hp,e1,e2⟩:=Xd he e hmem2.1;have hr1:w1.heap[r]? = some (.mapIter (some b) clock sn clock):=by rcases hw1 with rfl|rfl <;> exact hr
  have hb1:w1.heap[b]? = some (.map es clock):=by rcases hw1 with rfl|rfl <;> exact hb
  have hlt:r<w1.heap.size:=(Array.getElem?_eq_some_iff.1 hr1).1;have er:(setBlock w1 r (.mapIter (some b) clock (sn.push e.born) clock)).heap[r]? = some (.mapIter (some b) clock (sn.push e.born) clock):=by simp[setBlock,hlt]
  have eb:(setBlock w1 r (.mapIter (some b) clock (sn.push e.born) clock)).heap[b]? = some (.map es clock):=by
   rw[←hb1];simp[setBlock,hne]
  have hg:w.grownBy (setBlock w1 r (.mapIter (some b) clock (sn.push e.born) clock)) (some r):=by
   have hw:w1.os=w.os∧w1.tape=w.tape∧w1.output=w.output∧w1.heap=w.heap:=by rcases hw1 with rfl|rfl <;> exact⟨rfl,rfl,rfl,rfl⟩
   refine⟨hw.1,hw.2.1,hw.2.2.1,by simp[setBlock,hw.2.2.2],λi _ hi=>?_⟩
   have:r≠i:=λe=>hi (by rw[e])
   simp[setBlock,hw.2.2.2,this]
  have hsz:(setBlock w1 r (.mapIter (some b) clock (sn.push e.born) clock)).heap.size=w.heap.size:=by rcases hw1 with rfl|rfl <;> (simp only[setBlock,Array.size_setIfInBounds];try rfl)
  refine⟨p.1,p.2,setBlock w1 r (.mapIter (some b) clock (sn.push e.born) clock),hp,?_,?_,⟨es,clock,sn.push e.born,eb,hs,he,er,?_⟩,hg,hsz,?_⟩
  ·rw[←hk e hmem2.1 p.1 e1];exact hmem2.2
  ·rw[hrun,e1,e2]
  ·intro x hx k hxk
   rw[Array.contains_push,hk x hx k hxk]
   congr 1
   rw[Bool.eq_iff_iff];simp only[beq_iff_eq,decide_eq_true_eq]
   constructor
   ·intro hborn
    have:x=e:=zkl hs.2.1 hx hmem2.1 hborn;subst this
    exact inj _ _ (hxk.symm.trans e1)
   ·rintro rfl
    have:x=e:=zm2 hs.2.2 hx hmem2.1 (hxk.trans e1.symm);rw[this]
  ·rw[run_entry_at _ r b clock sn es clock e er eb hmem2.1 hs.2.1,e1,e2]
end
section
variable {P : Program} {K V : Type} [DecidableEq K] {ek : K → Value} {ev : V → Value} (w : World) {ops : Array Oper} {rest : List Oper} {o : Oper} {a : Act} {Q : Exit → Act → World → Prop}
def zlb {K V:Type} (m:List (K × V)) (seen:K→Bool):Prop:=∀p∈m,seen p.1=true
structure Came (P:Program) (w w':World) (r b:Nat) {K V:Type} [DecidableEq K] (ek:K→Value) (ev:V→Value) (m:List (K × V)) (seen:K→Bool) (k:K) (v:V):Prop where
 mem:(k,v)∈m
 new:seen k=false
 iter:qd w' r b ek ev m (λx=>seen x || decide (x=k))
 grown:w.grownBy w' (some r)
 size:w'.heap.size=w.heap.size
 entry:(Instr.entry (.pointer (some ⟨r,0,none⟩))).run P w' = .ok (.tuple #[ek k,ev v]) w'
end
def zia {K V:Type} (m:List (K × V)) (seen:K→Bool):Nat:=(m.filter λp=>!seen p.1).length
theorem zkj {V:Type} [DecidableEq K] {m:List (K × V)} {seen:K→Bool} {k:K} {v:V} (h:(k,v)∈m) (hs:seen k=false):zia m (λx=>seen x || decide (x=k))<zia m seen:=by
 unfold zia
 induction m with
 | nil=>simp at h
 | cons p r ih=>
  have hle:∀l:List (K × V),(l.filter λp=>!(seen p.1 || decide (p.1=k))).length≤(l.filter λp=>!seen p.1).length:=by
   intro l
   induction l with
   | nil=>simp
   | cons q t ih=>
    simp only[List.filter_cons]
    cases hq:seen q.1
    ·by_cases e:q.1=k
     ·simp[e];simp at ih;omega
     ·simp[e];simp at ih;omega
    ·simp;simp at ih;omega
  rcases List.mem_cons.1 h with e|h
  ·subst e
   have:=hle r;simp only[List.filter_cons,hs];simp at this ⊢;omega
  ·have:=ih h
   simp only[List.filter_cons]
   cases hq:seen p.1
   ·by_cases e:p.1=k
    ·simp[e];simp at this;omega
    ·simp[e];simp at this;omega
   ·simp;simp at this;omega
/-! ### for the walk: a map under blocks that are laid, and cells that are stored -/
section
variable {K V : Type} {ek : K → Value} {ev : V → Value} (w : World) {b : Nat} {m : List (K × V)}
@[go_sem] theorem mapT_drew:yg w.drew b ek ev m↔yg w b ek ev m:=Iff.rfl
@[go_sem] theorem zqj (a:Addr) (v:Value):yg (w.setCell a v) b ek ev m↔yg w b ek ev m:=by
 have h1:∀es c,(w.setCell a v).heap[b]? = some (.map es c)↔w.heap[b]? = some (.map es c):=λes c=>by
  simp only[World.setCell,Array.getElem?_modify]
  split
  ·rename_i e
   subst e
   cases hb:w.heap[a.block]? with
   | none=>simp
   | some o=>cases o <;> simp
  ·exact Iff.rfl
 constructor
 ·rintro⟨es,c,hb,r⟩;exact⟨es,c,(h1 es c).1 hb,r⟩
 ·rintro⟨es,c,hb,r⟩;exact⟨es,c,(h1 es c).2 hb,r⟩
@[go_sem] theorem mapT_alloc1 (o:Obj) (h:yg w b ek ev m):yg (w.alloc o) b ek ev m:=h.alloc o
@[go_sem] theorem mapT_alloc2 (o o':Obj) (h:yg w b ek ev m):yg ((w.alloc o).alloc o') b ek ev m:=(h.alloc o).alloc o'
@[go_sem] theorem mapT_alloc3 (o o' o2:Obj) (h:yg w b ek ev m):yg (((w.alloc o).alloc o').alloc o2) b ek ev m:=((h.alloc o).alloc o').alloc o2
@[go_sem] theorem mapT_alloc4 (o o' o2 o3:Obj) (h:yg w b ek ev m):yg ((((w.alloc o).alloc o').alloc o2).alloc o3) b ek ev m:=(((h.alloc o).alloc o').alloc o2).alloc o3
end
theorem xi {a:Addr} {v:Value} (h:w.cell? a=some v):a.block<w.heap.size:=by
 unfold World.cell? at h
 split at h
 ·rename_i hh;exact(Array.getElem?_eq_some_iff.1 hh).1
 ·cases h
def leftW (w:World) (r b:Nat):Nat:=
 match w.heap[b]?,w.heap[r]? with
 | some (.map es _),some (.mapIter _ _ sn _)=>(es.toList.filter λe=>!sn.contains e.born).length
 | _,_=>0
theorem zdu {ek:K→Value} {ev:V→Value} {seen:K→Bool} {c:MapEntry→Bool}:∀(es:List MapEntry) (m:List (K × V)),es.map (λe=>(e.key,e.val))=m.map (λp=>(ek p.1,ev p.2))→
  (∀e∈es,∀k,e.key=ek k→c e=seen k)→(es.filter λe=>!c e).length=(m.filter λp=>!seen p.1).length
 | [],[],_,_=>rfl
 | [],_ :: _,h,_=>by simp at h
 | _ :: _,[],h,_=>by simp at h
 | e :: es,p :: m,h,hc=>by
  simp only[List.map_cons,List.cons.injEq,Prod.mk.injEq] at h;have h1:=hc e (by simp) p.1 h.1.1
  have ih:=zdu es m h.2 (λe he=>hc e (by simp[he]))
  simp only[List.filter_cons,h1]
  cases seen p.1 <;> simp[ih]
theorem qd.left {r b:Nat} {K V:Type} {ek:K→Value} {ev:V→Value} {m:List (K × V)} {seen:K→Bool} (h:qd w r b ek ev m seen):leftW w r b=zia m seen:=by
 obtain⟨es,clock,sn,hb,hs,he,hr,hk⟩:=h;simp only[leftW,hb,hr,zia]
 exact zdu (c:=λe=>sn.contains e.born) es.toList m he hk
theorem ub [DecidableEq K] (m:List (K × V)) (k:K) (v:V):zw (yo m k v) k=some v:=by
 induction m with
 | nil=>simp[yo,zw]
 | cons p r ih=>
  simp only[yo]
  split
  ·simp[zw]
  ·rename_i h;simp[zw,h,ih]
theorem uj [DecidableEq K] (m:List (K × V)) {k k':K} (v:V) (h:k'≠k):zw (yo m k v) k'=zw m k':=by
 induction m with
 | nil=>simp[yo,zw,Ne.symm h]
 | cons p r ih=>
  simp only[yo]
  split
  ·rename_i e;subst e;simp[zw,Ne.symm h]
  ·simp only[zw,ih]
end Go.Sf
