/- Open's rows in memory: a map of rows, each in blocks of its own. Conditions: none, or as the theorems say. -/
import Derived.Test.YtbcbhlfjgobejaaGreatJ25
import Derived.Test.YtbcbhlfjgobejaaGreatJ1
import Derived.OrdersIn
import Derived.OwnWalkIn
import Derived.Deep.RegionHeld3
import Derived.StillTailTactics
import Derived.RangeFuncLeaves
import Derived.WalkKit
import Derived.TacticsInMore
import Derived.RegionIn
import Derived.LoopNIn
import Derived.LoopIn
set_option linter.unusedSimpArgs false
set_option linter.unusedVariables false
namespace Go.Proofs.YtbcbhlfjgobejaaGreat
set_option maxHeartbeats 200000000
open Go.RowKit Go.Sf
def inL (x:Nat × Nat × Nat) (k:Nat):Prop:=k=x.1∨k=x.2.1∨k=x.2.2
structure qh (P:Nat→Prop) (base:Nat) (W:World) (mr:Nat) (loc:zr→Nat × Nat × Nat) (rp:Nat→Prop) (rows:List (zr × xg)):Prop where
 map:yg W mr qy Xx (rows.map fun q=>(q.1,(loc q.1).1))
 row:∀K r,zx rows K=some r→∃cs,Zp W rp (loc K).1 (loc K).2.1 (loc K).2.2 cs r
 ne:∀K r,zx rows K=some r→(loc K).1≠(loc K).2.1∧(loc K).1≠(loc K).2.2∧(loc K).2.1≠(loc K).2.2
 apart:∀K r K' r',zx rows K=some r→zx rows K'=some r'→K≠K'→∀k,inL (loc K) k→¬inL (loc K') k
 free:∀K r,zx rows K=some r→∀k,inL (loc K) k→¬rp k∧P k∧base≤k
 parts:∀k,rp k→P k∧base≤k
 mine:P mr
 low:mr<base
section
variable {P : Nat → Prop} {base : Nat} {W W' : World} {mr : Nat} {loc : zr → Nat × Nat × Nat} {rp : Nat → Prop} {rows : List (zr × xg)}
theorem qh.nodup (h:qh P base W mr loc rp rows):(rows.map (·.1)).Nodup:=by
 have:=h.map.nodup;simpa[List.map_map,Function.comp_def] using this
theorem qh.turn (h:qh P base W mr loc rp rows) (hs:∀k,P k→(k=mr∨base≤k)→W'.heap[k]? = W.heap[k]?):qh P base W' mr loc rp rows where
 map:=h.map.same (hs mr h.mine (Or.inl rfl))
 row:=fun K r hr=>by
  obtain⟨cs,hc⟩:=h.row K r hr;have keep:∀k,inL (loc K) k→W'.heap[k]? = W.heap[k]?:=fun k hk=>hs k (h.free K r hr k hk).2.1 (Or.inr (h.free K r hr k hk).2.2)
  exact⟨cs,hc.kept (keep _ (Or.inl rfl)) (keep _ (Or.inr (Or.inl rfl))) (keep _ (Or.inr (Or.inr rfl))) (fun k hk=>hs k (h.parts k hk).1 (Or.inr (h.parts k hk).2))⟩
 ne:=h.ne
 apart:=h.apart
 free:=h.free
 parts:=h.parts
 mine:=h.mine
 low:=h.low
theorem qh.more (h:qh P base W mr loc rp rows) {P':Nat→Prop} (hp:∀k,P k→P' k):qh P' base W mr loc rp rows:=
 ⟨h.map,h.row,h.ne,h.apart,fun K r hr k hk=>⟨(h.free K r hr k hk).1,hp k (h.free K r hr k hk).2.1,(h.free K r hr k hk).2.2⟩,fun k hk=>⟨hp k (h.parts k hk).1,(h.parts k hk).2⟩,hp _ h.mine,h.low⟩
theorem qh.lt (h:qh P base W mr loc rp rows) {K:zr} {r:xg} (hr:zx rows K=some r) {k:Nat} (hk:inL (loc K) k):k<W.heap.size:=by
 obtain⟨cs,hc⟩:=h.row K r hr;obtain⟨l1,l2,l3⟩:=hc.lt
 rcases hk with rfl|rfl|rfl <;> assumption
theorem Zp.widen {rp':Nat→Prop} {pb ab tb:Nat} {cs:List (Nat × Value × List Int)} {r:xg} (h:Zp W rp pb ab tb cs r) (hs:∀k,rp k→rp' k):Zp W rp' pb ab tb cs r:=
 ⟨h.box,h.at_,h.there,h.cells,fun c hc=>(h.rows c hc).mono hs,h.len,h.few⟩
theorem qh.part (h:qh P base W mr loc rp rows) {rp':Nat→Prop} (h1:∀k,rp k→rp' k) (h2:∀k,rp' k→rp k∨(W.heap.size≤k∧P k)) (hb:base≤W.heap.size):qh P base W mr loc rp' rows where
 map:=h.map
 row:=fun K r hr=>by
  obtain⟨cs,hc⟩:=h.row K r hr
  exact⟨cs,hc.widen h1⟩
 ne:=h.ne
 apart:=h.apart
 free:=fun K r hr k hk=>⟨fun e=>by
  rcases h2 k e with e|e
  ·exact(h.free K r hr k hk).1 e
  ·have:=h.lt hr hk;omega,(h.free K r hr k hk).2⟩
 parts:=fun k hk=>by
  rcases h2 k hk with e|e
  ·exact h.parts k e
  ·exact⟨e.2,by omega⟩
 mine:=h.mine
 low:=h.low
theorem zl3 {f g:zr→Nat × Nat × Nat} {rows:List (zr × xg)} (h:∀q∈rows,f q.1=g q.1):rows.map (fun q=>(q.1,(f q.1).1))=rows.map (fun q=>(q.1,(g q.1).1)):=
 List.map_congr_left fun q hq=>by rw[h q hq]
theorem qh.add (h:qh P base W mr loc rp rows) {K:zr} (hn:zx rows K=none) {W2:World} {pb ab tb:Nat} {cs:List (Nat × Value × List Int)} {r:xg} (hg:W.grownBy W2 none) (hr:Zp W2 (fun _=>False) pb ab tb cs r)
  (n1:pb≠ab∧pb≠tb∧ab≠tb) (hl:W.heap.size≤pb∧W.heap.size≤ab∧W.heap.size≤tb) (hP:P pb∧P ab∧P tb) (hlt:∀k,rp k→k<W.heap.size) (hb:base≤W.heap.size)
  (hm:yg W' mr qy Xx (yu (rows.map fun q=>(q.1,(loc q.1).1)) K pb)) (hg2:W2.grownBy W' (some mr)) (hml:mr<W.heap.size):qh P base W' mr (fun K'=>if K'=K then (pb,ab,tb) else loc K') rp (rows ++ [(K,r)]):=by
 have hne:∀q∈rows,q.1≠K:=ja.1 hn;have hne2:∀q∈rows.map (fun q=>(q.1,(loc q.1).1)),q.1≠K:=fun q hq=>by
  obtain⟨q0,hq0,rfl⟩:=List.mem_map.1 hq
  exact hne q0 hq0
 have hput:rows ++ [(K,r)]=yu rows K r:=(Zj hne r).symm;have hs2:∀k,k<W.heap.size→k≠mr→W'.heap[k]? = W.heap[k]?:=fun k hk hkm=>(hg2.block k (Nat.lt_of_lt_of_le hk hg.size) (fun e=>hkm (by injection e))).trans (hg.block k hk (by simp))
 have hs3:∀k,W.heap.size≤k→k<W2.heap.size→W'.heap[k]? = W2.heap[k]?:=fun k hk hk2=>hg2.block k hk2 (fun e=>by injection e with e;omega)
 obtain⟨l1,l2,l3⟩:=hr.lt;have hK:∀K' r',zx (rows ++ [(K,r)]) K'=some r'→(K'=K∧r'=r)∨(K'≠K∧zx rows K'=some r'):=fun K' r' h'=>by
  rw[hput] at h'
  by_cases e:K'=K
  ·subst e
   rw[vm] at h'
   cases h'
   exact Or.inl ⟨rfl,rfl⟩
  ·rw[uo _ _ e] at h'
   exact Or.inr ⟨e,h'⟩
 refine⟨?_,fun K' r' h'=>?_,fun K' r' h'=>?_,fun K1 r1 K2 r2 h1 h2 h12 k hk=>?_,fun K' r' h' k hk=>?_,h.parts,h.mine,h.low⟩
 ·rw[Zj hne2] at hm
  rw[List.map_append];have:rows.map (fun q=>(q.1,((fun K'=>if K'=K then (pb,ab,tb) else loc K') q.1).1))=rows.map (fun q=>(q.1,(loc q.1).1)):=zl3 (f:=fun K'=>if K'=K then (pb,ab,tb) else loc K') (g:=loc) fun q hq=>if_neg (hne q hq)
  rw[this];simpa using hm
 ·rcases hK K' r' h' with ⟨rfl,rfl⟩|⟨e,h''⟩
  ·simp only[if_true]
   exact⟨cs,(hr.kept (hs3 _ hl.1 l1) (hs3 _ hl.2.1 l2) (hs3 _ hl.2.2 l3) (fun k hk=>hk.elim)).widen (fun k hk=>hk.elim)⟩
  ·simp only[if_neg e]
   obtain⟨cs',hc⟩:=h.row K' r' h'';have hnm:∀k,inL (loc K') k→k≠mr:=fun k hk=>by have:=(h.free K' r' h'' k hk).2.2;have:=h.low;omega
   refine⟨cs',hc.kept (hs2 _ (h.lt h'' (Or.inl rfl)) (hnm _ (Or.inl rfl))) (hs2 _ (h.lt h'' (Or.inr (Or.inl rfl))) (hnm _ (Or.inr (Or.inl rfl)))) (hs2 _ (h.lt h'' (Or.inr (Or.inr rfl))) (hnm _ (Or.inr (Or.inr rfl)))) (fun k hk=>hs2 k (hlt k hk) ?_)⟩
   have:=(h.parts k hk).2;have:=h.low;omega
 ·rcases hK K' r' h' with ⟨rfl,rfl⟩|⟨e,h''⟩
  ·simp only[if_true];exact n1
  ·simp only[if_neg e];exact h.ne K' r' h''
 ·rcases hK K1 r1 h1 with ⟨rfl,rfl⟩|⟨e1,h1'⟩
  ·rcases hK K2 r2 h2 with ⟨rfl,rfl⟩|⟨e2,h2'⟩
   ·exact absurd rfl h12
   ·simp only[if_true] at hk
    simp only[if_neg e2];intro hk2;have:=h.lt h2' hk2
    rcases hk with rfl|rfl|rfl <;> omega
  ·rcases hK K2 r2 h2 with ⟨rfl,rfl⟩|⟨e2,h2'⟩
   ·simp only[if_neg e1] at hk
    simp only[if_true];intro hk2;have:=h.lt h1' hk
    rcases hk2 with rfl|rfl|rfl <;> omega
   ·simp only[if_neg e1] at hk
    simp only[if_neg e2]
    exact h.apart K1 r1 K2 r2 h1' h2' h12 k hk
 ·rcases hK K' r' h' with ⟨rfl,rfl⟩|⟨e,h''⟩
  ·simp only[if_true] at hk
   rcases hk with rfl|rfl|rfl
   ·exact⟨fun e=>by have:=hlt _ e;have:=hl.1;omega,hP.1,by have:=hl.1;omega⟩
   ·exact⟨fun e=>by have:=hlt _ e;have:=hl.2.1;omega,hP.2.1,by have:=hl.2.1;omega⟩
   ·exact⟨fun e=>by have:=hlt _ e;have:=hl.2.2;omega,hP.2.2,by have:=hl.2.2;omega⟩
  ·simp only[if_neg e] at hk
   exact h.free K' r' h'' k hk
theorem map_fst {rows:List (zr × xg)} (hn:(rows.map (·.1)).Nodup) {K:zr} {r:xg} (h:zx rows K=some r) (r':xg) (f:zr→Nat):(yu rows K r').map (fun q=>(q.1,f q.1))=rows.map (fun q=>(q.1,f q.1)):=by
 induction rows with
 | nil=>cases h
 | cons p t ih=>
  simp only[List.map_cons,List.nodup_cons] at hn;unfold yu
  by_cases e:p.1=K
  ·rw[if_pos e];simp[e]
  ·rw[if_neg e]
   unfold zx at h;rw[if_neg e] at h;simp only[List.map_cons];rw[ih hn.2 h]
theorem qh.set (h:qh P base W mr loc rp rows) {K:zr} {r r':xg} (hr:zx rows K=some r) {cs:List (Nat × Value × List Int)} (h':Zp W' rp (loc K).1 (loc K).2.1 (loc K).2.2 cs r') (ht:zm (fun k=>k=(loc K).2.1∨k=(loc K).2.2) W W') (hlt:∀k,rp k→k<W.heap.size) (hml:mr<W.heap.size):qh P base W' mr loc rp (yu rows K r'):=by
 have hnd:=h.nodup;have hfree:=h.free K r hr;have hK:∀K1 r1,zx (yu rows K r') K1=some r1→(K1=K∧r1=r')∨(K1≠K∧zx rows K1=some r1):=fun K1 r1 h1=>by
  by_cases e:K1=K
  ·subst e
   rw[vm] at h1
   cases h1
   exact Or.inl ⟨rfl,rfl⟩
  ·rw[uo _ _ e] at h1
   exact Or.inr ⟨e,h1⟩
 have hget:∀K1 r1,zx (yu rows K r') K1=some r1→∃r0,zx rows K1=some r0:=fun K1 r1 h1=>by
  rcases hK K1 r1 h1 with ⟨rfl,rfl⟩|⟨_,h2⟩
  ·exact⟨r,hr⟩
  ·exact⟨r1,h2⟩
 refine⟨?_,fun K1 r1 h1=>?_,fun K1 r1 h1=>?_,fun K1 r1 K2 r2 h1 h2=>?_,fun K1 r1 h1=>?_,h.parts,h.mine,h.low⟩
 ·rw[map_fst hnd hr r' (fun q=>(loc q).1)]
  refine h.map.same (ht.block mr hml (fun e=>?_))
  have hl:=h.low
  rcases e with e|e
  ·have:=(hfree _ (Or.inr (Or.inl rfl))).2.2;omega
  ·have:=(hfree _ (Or.inr (Or.inr rfl))).2.2;omega
 ·rcases hK K1 r1 h1 with ⟨rfl,rfl⟩|⟨e,h2⟩
  ·exact⟨cs,h'⟩
  ·obtain⟨cs1,hc⟩:=h.row K1 r1 h2
   have hap:=h.apart K1 r1 K r h2 hr e;have keep:∀k,inL (loc K1) k→W'.heap[k]? = W.heap[k]?:=fun k hk=>ht.block k (h.lt h2 hk) (fun e2=>hap k hk (by rcases e2 with e2|e2;exact Or.inr (Or.inl e2);exact Or.inr (Or.inr e2)))
   exact⟨cs1,hc.kept (keep _ (Or.inl rfl)) (keep _ (Or.inr (Or.inl rfl))) (keep _ (Or.inr (Or.inr rfl))) (fun k hk=>ht.block k (hlt k hk) (fun e2=>by
    rcases e2 with e2|e2
    ·exact(hfree k (Or.inr (Or.inl e2))).1 hk
    ·exact(hfree k (Or.inr (Or.inr e2))).1 hk))⟩
 ·obtain⟨r0,h0⟩:=hget K1 r1 h1
  exact h.ne K1 r0 h0
 ·obtain⟨r0,h0⟩:=hget K1 r1 h1
  obtain⟨r0',h0'⟩:=hget K2 r2 h2
  exact h.apart K1 r0 K2 r0' h0 h0'
 ·obtain⟨r0,h0⟩:=hget K1 r1 h1
  exact h.free K1 r0 h0
end
theorem zjz {K V:Type} [DecidableEq K] (m:List (K × V)) (k:K) (v u:V):yu (yu m k v) k u=yu m k u:=by
 induction m with
 | nil=>simp[yu]
 | cons p t ih=>
  by_cases e:p.1=k
  ·simp[yu,e]
  ·simp[yu,e,ih]
end Go.Proofs.YtbcbhlfjgobejaaGreat
namespace Go.Sf
open Go.RowKit Go
variable {n l : Nat} {P : Program} {ops : Array Oper} {Q : Exit → Act → World → Prop}
def Yo (ops:Array Oper):Bool:=ops.all fun o=>match o.op with | .defer _=>false|_=>true
theorem zb3 {ops:Array Oper} (h:Yo ops=true) {i:Nat} {o:Oper} (ho:ops[i]? = some o):∀c,o.op≠.defer c:=fun c e=>by
 unfold Yo at h;rw[Array.all_eq_true] at h;obtain⟨hi,hh⟩:=Array.getElem?_eq_some_iff.1 ho;have:=h i hi;rw[hh,e] at this
 cases this
theorem zgj {row:String} {args:Array Value} {w:World} {R:Value→World→Prop} (h:Rows P row args w R):RowsIn (Fence.wide.inRound l) n P row args w R:=
 fun c cs _=>by
  obtain⟨v,w',r,s⟩:=h c cs
  exact⟨v,w',r,stepsIn_wide.2 s⟩
theorem zb8 {o:Oper} {a:Act} {w:World} {K:Act→World→Prop} (hd:∀c,o.op≠.defer c) (h:o.wp P a w K Q):o.wpIn (Fence.wide.inRound l) n P a w K Q:=by
 refine⟨fun _ _=>trivial,?_⟩
 rw[Oper.semAt_plain (Fence.wide.inRound l) a.eval o hd];unfold Oper.wp at h;generalize (execOp a.eval o).run P w=r at *
 cases r with
 | ok x w'=>
  cases x <;> simp only[Oper.upon,Oper.uponIn] at h ⊢
  case value v=>exact h
  case skip=>exact h
  case defer d=>exact h
  case enter f args=>exact⟨fun e=>(by cases e),callsIn_wide.2 h⟩
  case row row args=>exact⟨fun e=>(by cases e),zgj h⟩
 | halt x w'=>cases x <;> simp only[Oper.upon,Oper.uponIn] at h ⊢ <;> exact h
theorem ze3 (hd:Yo ops=true) (hl:¬LetsOut Q) {i:Nat} {K:Act→World→Prop} {a:Act} {w:World} (h:wpOp P ops Q i K a w):wpOpIn (Fence.wide.inRound l) n P ops Q i K a w:=by
 unfold wpOp at h;unfold wpOpIn
 cases ho:ops[i]? with
 | none=>rw[ho] at h;exact h
 | some o=>
  rw[ho] at h;simp only at h ⊢
  split
  ·rename_i hw
   rw[if_pos hw] at h
   rcases h with h|h
   ·exact zb8 (zb3 hd ho) h
   ·exact absurd h.2 hl
  ·rename_i hw
   rw[if_neg hw] at h
   exact⟨fun _ _=>trivial,h⟩
theorem Yh {md:Region.Mode} (hd:Yo ops=true) (hl:¬LetsOut Q):∀(fuel:Nat) (listed:Array Bool) (a:Act) (w:World),wpAny P md ops Q fuel listed a w→wpAnyIn (Fence.wide.inRound l) n P md ops Q fuel listed a w
 | 0,_,_,_,h=>h
 | fuel+1,listed,a,w,h=>⟨h.1,fun i hi=>ze3 hd hl (wpOp_mono (fun a' w' h'=>Yh hd hl fuel _ a' w' h') (h.2 i hi))⟩
theorem Qz {S:World→Prop} {id:Nat} {a:Act} {w:World} (hm:P.follows .mixedOrders=true) (hd:Yo ops=true) (hl:¬LetsOut Q) (hS:S w.drew)
  (h:S w.drew→wpAnyH P .any ops Q S ops.size (Array.replicate ops.size false) a w.drew):(Code.region id ops true).wpIn (Fence.wide.inRound l) n P Q a w:=
 wpIn_region_any hm (Yh hd hl _ _ _ _ (wpAny_of_held _ _ _ _ (h hS)))
theorem jz (hd:Yo ops=true) (hl:¬LetsOut Q):∀(rest:List Oper) (a:Act) (w:World),(∀o∈rest,o∈ops)→wpList P ops Q rest a w→wpListIn (Fence.wide.inRound l) n P ops Q rest a w
 | [],_,_,_,h=>h
 | o :: rest,a,w,hm,h=>by
  refine wpListIn_step fun K hK=>?_
  unfold wpList at h;obtain⟨i,hi⟩:=Array.getElem?_of_mem (hm o (by simp))
  have hm':∀o∈rest,o∈ops:=fun o' ho'=>hm o' (List.mem_cons_of_mem _ ho')
  split
  ·rename_i hw
   rw[if_pos hw] at h
   rcases h with h|h
   ·exact zb8 (zb3 hd hi) (Oper.wp_mono (fun a' w' h'=>hK a' w' (jz hd hl rest a' w' hm' h')) h)
   ·exact absurd h.2 hl
  ·rename_i hw
   rw[if_neg hw] at h
   exact⟨fun _ _=>trivial,hK _ _ (jz hd hl rest _ _ hm' h)⟩
theorem ug {id:Nat} {a:Act} {w:World} {ops:List Oper} (hd:Yo ops.toArray=true) (hl:¬LetsOut Q) (h:wpList P ops.toArray Q ops a w):(Code.region id ops.toArray false).wpIn (Fence.wide.inRound l) n P Q a w:=
 wpIn_region_lit (jz hd hl ops a w (fun o ho=>by simpa using ho) h)
theorem Qy {F:Fence} {n:Nat} {o:Oper} {rest:List Oper} {a:Act} {w w':World} {v:Value} (hg:o.guard=none) (hd:∀c,o.op≠.defer c) (hc:∀c,o.op≠.call c) (hr:(execOp a.eval o).run P w = .ok (.value v) w') (h:wpListIn F n P ops Q rest (a.put o.dst v) w'):wpListIn F n P ops Q (o :: rest) a w:=by
 refine wpListIn_plain hg fun K hK=>?_
 unfold Oper.wpIn;refine⟨fun f hf=>?_,?_⟩
 ·unfold Oper.about at hf
  cases ho:o.op <;> rw[ho] at hf <;> first|(cases hf;done)|exact absurd ho (hc _)
 ·rw[Oper.semAt_plain F _ _ hd,hr]
  exact hK _ _ h
theorem jk {id:Nat} {a:Act} {w:World} {ops:List Oper} (m:Nat) (hm:P.follows .mixedOrders=true) (hB:Region.lexTailB .any ops.toArray m=true) (hd:Yo ops.toArray=true) (hl:¬LetsOut Q)
  (h:wpStill P ops.toArray { w with drawn:=w.drawn+1 } (fun a'=>wpList P ops.toArray Q (ops.drop m) a' { w with drawn:=w.drawn+1 }) (ops.take m) a):(Code.region id ops.toArray true).wpIn (Fence.wide.inRound l) n P Q a w:=by
 simp only[Region.lexTailB,Bool.and_eq_true,decide_eq_true_eq] at hB;obtain⟨⟨⟨⟨hsel,hn⟩,hs⟩,hc⟩,hlex⟩:=hB;have hmo:m<ops.length:=by simpa using hn
 have e1:(ops.take m).length=m:=by simp;omega
 have e2:(ops.drop m).length=ops.toArray.size-m:=by simp
 have H:=wpAnyL_lex (md:=.any) (g:=ops.toArray.size-m) hsel hs hc hn (ops.take m) 0 (Array.replicate ops.toArray.size false) a (fun j hj=>by
   rw[e1] at hj;simp[hj]) (by simpa using e1)
  ⟨by simp,fun j oj _ hj=>(by rw[getD_replicate_false] at hj;cases hj),fun t _ ht=>getD_in (by simpa using ht) (getD_replicate_false _ _)⟩ (by rw[e1];exact hlex) h
 have K:=wpAny_of_head (Q':=Q) (g:=ops.toArray.size-m) (fun listed a' hL=>by
  have:=wpAny_of_seq (md:=.any) (Q':=Q) (ops.drop m) m listed a' { w with drawn:=w.drawn+1 } (fun j=>by simp[List.getElem?_drop]) (by rw[e2];exact hL.1) hL.2
  rwa [e2] at this) _ _ _ H
 rw[e1,show m+(ops.toArray.size-m)=ops.toArray.size by omega] at K
 exact wpIn_region_any hm (Yh hd hl _ _ _ _ K)
end Go.Sf
namespace Go.Proofs.YtbcbhlfjgobejaaGreat
open Go.RowKit Go.Sf
theorem jr {P:Program} {w:World} {a:Addr} {m:Mode} (fn:Fn) (first cap:Array Value):(store a (.func fn first cap) m).run P w=stored P w a (.func fn first cap) m:=run_store P w a _ m rfl
structure Zd where
 bd:Nat
 b2:Nat
 b3:Nat
 b4:Nat
 b5:Nat
 b6:Nat
 bx:Nat
 st:Nat
 mb:Nat
 tb:Nat
 mr:Nat
def Zd.all (L:Zd):List Nat:=[L.bd,L.b2,L.b3,L.b4,L.b5,L.b6,L.bx,L.st,L.mb,L.tb,L.mr]
def Xs (db:Nat) (s:Bool):Value:=if s then .func (.func 25) #[.pointer (some ⟨db,0,none⟩)] #[] else .func (.func 82) #[] #[]
structure OM (own:Nat→Prop) (db N B:Nat) (L:Zd) (P:Nat→Prop) (loc:zr→Nat × Nat × Nat) (rp:Nat→Prop) (rows:List (zr × xg)) (next:Int) (scr:Bool) (dk:Dk) (W:World):Prop where
 disk:vj P W db dk
 ownP:∀k,own k→P k
 lP:∀k∈L.all,P k∧k<B
 pB:P B∧P (B+1)
 nd:L.all.Nodup
 bd:W.heap[L.bd]? = some (.cells #[.pointer (some ⟨db,0,none⟩)] 28 (0,0))
 b2:W.heap[L.b2]? = some (.cells #[.pointer none] 24 (0,0))
 b3:W.heap[L.b3]? = some (.cells #[.int .i64 0] 25 (0,0))
 b4:W.heap[L.b4]? = some (.cells #[.pointer (some ⟨L.st,0,none⟩)] 24 (0,0))
 b5:W.heap[L.b5]? = some (.cells #[.map (some L.mr)] 133 (0,0))
 b6:W.heap[L.b6]? = some (.cells #[Xs db scr] 39 (0,0))
 bx:W.heap[L.bx]? = some (.cells #[.pointer (some ⟨db,0,none⟩)] 28 (0,0))
 st:W.heap[L.st]? = some (.cells #[.pointer (some ⟨db,0,none⟩),.map (some L.mb),.slice (some ⟨L.tb,0,none⟩) N N,.int .i64 next,.int .i64 0] 132 (0,0))
 mb:W.heap[L.mb]? = some (.map #[] 0)
 tb:W.heap[L.tb]? = some (.cells (ud (List.replicate N false)).toArray 4 (0,0))
 rows:qh P (B+2) W L.mr loc rp rows
 rlt:∀k,rp k→k<W.heap.size
 sz:B+2≤W.heap.size
 nn:dk.n=N
section
variable {own : Nat → Prop} {db N B : Nat} {L : Zd} {P : Nat → Prop} {loc : zr → Nat × Nat × Nat} {rp : Nat → Prop} {rows : List (zr × xg)} {next : Int} {scr : Bool} {dk dk' : Dk} {W W' : World}
theorem xf {l:List Nat} (h:l.Nodup) (i j:Nat) {a b:Nat} (hi:l[i]? = some a) (hj:l[j]? = some b) (hij:i≠j):a≠b:=fun e=>by
 obtain⟨h1,h2⟩:=List.getElem?_eq_some_iff.1 hi;obtain⟨h3,h4⟩:=List.getElem?_eq_some_iff.1 hj
 exact hij ((List.getElem_inj (h₀:=h1) (h₁:=h3) h).1 (by rw[h2,h4,e]))
theorem Zd.mems (L:Zd):L.bd∈L.all∧L.b2∈L.all∧L.b3∈L.all∧L.b4∈L.all∧L.b5∈L.all∧L.b6∈L.all∧L.bx∈L.all∧L.st∈L.all∧L.mb∈L.all∧L.tb∈L.all∧L.mr∈L.all:=by
 simp[Zd.all]
theorem OM.same (h:OM own db N B L P loc rp rows next scr dk W) (hd:vj P W' db dk') (hn:dk'.n=N) (hz:W.heap.size≤W'.heap.size) (hs:∀k,P k→k≠B→k≠B+1→W'.heap[k]? = W.heap[k]?):OM own db N B L P loc rp rows next scr dk' W':=by
 have hL:∀k∈L.all,W'.heap[k]? = W.heap[k]?:=fun k hk=>by
  obtain⟨h1,h2⟩:=h.lP k hk
  exact hs k h1 (by omega) (by omega)
 obtain⟨m1,m2,m3,m4,m5,m6,m7,m8,m9,m10,m11⟩:=L.mems;refine⟨hd,h.ownP,h.lP,h.pB,h.nd,(hL _ m1).trans h.bd,(hL _ m2).trans h.b2,(hL _ m3).trans h.b3,(hL _ m4).trans h.b4,(hL _ m5).trans h.b5,(hL _ m6).trans h.b6,(hL _ m7).trans h.bx,(hL _ m8).trans h.st,(hL _ m9).trans h.mb,(hL _ m10).trans h.tb,h.rows.turn fun k hk hk2=>hs k hk ?_ ?_,fun k hk=>Nat.lt_of_lt_of_le (h.rlt k hk) hz,Nat.le_trans h.sz hz,hn⟩
 ·have:=(h.lP _ m11).2;omega
 ·have:=(h.lP _ m11).2;omega
theorem OM.P_lt (h:OM own db N B L P loc rp rows next scr dk W) {k:Nat} (hk:P k):k<W.heap.size:=h.disk.own_lt hk
theorem OM.grown (h:OM own db N B L P loc rp rows next scr dk W) (hg:W.grownBy W' none):OM own db N B L P loc rp rows next scr dk W':=
 h.same (h.disk.kept hg) h.nn hg.size fun k hk _ _=>hg.block k (h.P_lt hk) (by simp)
theorem OM.wrote (h:OM own db N B L P loc rp rows next scr dk W) (hd:vj P W' db dk') (hn:dk'.n=N) (ht:zm (fun k=>¬P k) W W'):OM own db N B L P loc rp rows next scr dk' W':=
 h.same hd hn ht.size fun k hk _ _=>ht.block k (h.P_lt hk) (fun e=>e hk)
theorem jd (W:World) (k:Nat) (o:Obj):zm (fun j=>j=k) W (W.putObj k o):=
 ⟨rfl,rfl,rfl,by rw[World.putObj_size];exact Nat.le_refl _,fun j _ hj=>World.putObj_heap_other hj⟩
theorem OM.loop (h:OM own db N B L P loc rp rows next scr dk W) (o:Obj):OM own db N B L P loc rp rows next scr dk (W.putObj (B+1) o):=
 h.same (h.disk.turn ((jd W (B+1) o).mono fun k hk=>by rw[hk];exact h.pB.2)) h.nn (by rw[World.putObj_size];exact Nat.le_refl _) fun k hk _ h2=>World.putObj_heap_other h2
theorem OM.widen (h:OM own db N B L P loc rp rows next scr dk W) (hg:W.grownBy W' none):OM own db N B L (fun k=>P k∨(W.heap.size≤k∧k<W'.heap.size)) loc rp rows next scr dk W':=by
 have hk:=h.grown hg
 exact⟨h.disk.more hg (fun k hk=>hk.imp id fun e=>e.1) (fun k hk=>by
  rcases hk with e|e
  ·have:=h.P_lt e;have:=hg.size;omega
  ·exact e.2),fun k ho=>Or.inl (h.ownP k ho),fun k hk=>⟨Or.inl (h.lP k hk).1,(h.lP k hk).2⟩,⟨Or.inl h.pB.1,Or.inl h.pB.2⟩,h.nd,hk.bd,hk.b2,hk.b3,hk.b4,hk.b5,hk.b6,hk.bx,hk.st,hk.mb,hk.tb,hk.rows.more fun k hk=>Or.inl hk,hk.rlt,hk.sz,h.nn⟩
theorem OM.poke (h:OM own db N B L P loc rp rows next scr dk W) {x:Nat} (hx:x∈L.all) (hxm:x≠L.mr) (ht:zm (fun k=>k=x) W W'):vj P W' db dk∧qh P (B+2) W' L.mr loc rp rows∧(∀k∈L.all,k≠x→W'.heap[k]? = W.heap[k]?):=by
 obtain⟨hp,hb⟩:=h.lP x hx;refine⟨h.disk.turn (ht.mono fun k hk=>by rw[hk];exact hp),h.rows.turn fun k hk hk2=>ht.block k (h.P_lt hk) (fun e=>?_),fun k hk hne=>ht.block k (h.P_lt (h.lP k hk).1) hne⟩
 rcases hk2 with e2|e2
 ·exact hxm (e.symm.trans e2)
 ·omega
theorem OM.setNext (h:OM own db N B L P loc rp rows next scr dk W) (m:Int):OM own db N B L P loc rp rows m scr dk (W.setCell ⟨L.st,3,none⟩ (.int .i64 m)):=by
 obtain⟨m1,m2,m3,m4,m5,m6,m7,m8,m9,m10,m11⟩:=L.mems;obtain⟨p1,p2,p3⟩:=h.poke m8 (xf h.nd 7 10 rfl rfl (by decide)) (yj W L.st 3 (.int .i64 m))
 have hz:(W.setCell ⟨L.st,3,none⟩ (.int .i64 m)).heap.size=W.heap.size:=by simp[World.setCell]
 refine⟨p1,h.ownP,h.lP,h.pB,h.nd,(p3 _ m1 (xf h.nd 0 7 rfl rfl (by decide))).trans h.bd,(p3 _ m2 (xf h.nd 1 7 rfl rfl (by decide))).trans h.b2,(p3 _ m3 (xf h.nd 2 7 rfl rfl (by decide))).trans h.b3,(p3 _ m4 (xf h.nd 3 7 rfl rfl (by decide))).trans h.b4,(p3 _ m5 (xf h.nd 4 7 rfl rfl (by decide))).trans h.b5,(p3 _ m6 (xf h.nd 5 7 rfl rfl (by decide))).trans h.b6,(p3 _ m7 (xf h.nd 6 7 rfl rfl (by decide))).trans h.bx,?_,(p3 _ m9 (xf h.nd 8 7 rfl rfl (by decide))).trans h.mb,(p3 _ m10 (xf h.nd 9 7 rfl rfl (by decide))).trans h.tb,p2,fun k hk=>by rw[hz];exact h.rlt k hk,by rw[hz];exact h.sz,h.nn⟩
 simp[World.setCell,Array.getElem?_modify,h.st]
theorem OM.setScrub (h:OM own db N B L P loc rp rows next scr dk W):OM own db N B L P loc rp rows next true dk (W.setCell ⟨L.b6,0,none⟩ (Xs db true)):=by
 obtain⟨m1,m2,m3,m4,m5,m6,m7,m8,m9,m10,m11⟩:=L.mems;obtain⟨p1,p2,p3⟩:=h.poke m6 (xf h.nd 5 10 rfl rfl (by decide)) (yj W L.b6 0 (Xs db true))
 have hz:(W.setCell ⟨L.b6,0,none⟩ (Xs db true)).heap.size=W.heap.size:=by simp[World.setCell]
 refine⟨p1,h.ownP,h.lP,h.pB,h.nd,(p3 _ m1 (xf h.nd 0 5 rfl rfl (by decide))).trans h.bd,(p3 _ m2 (xf h.nd 1 5 rfl rfl (by decide))).trans h.b2,(p3 _ m3 (xf h.nd 2 5 rfl rfl (by decide))).trans h.b3,(p3 _ m4 (xf h.nd 3 5 rfl rfl (by decide))).trans h.b4,(p3 _ m5 (xf h.nd 4 5 rfl rfl (by decide))).trans h.b5,?_,(p3 _ m7 (xf h.nd 6 5 rfl rfl (by decide))).trans h.bx,(p3 _ m8 (xf h.nd 7 5 rfl rfl (by decide))).trans h.st,(p3 _ m9 (xf h.nd 8 5 rfl rfl (by decide))).trans h.mb,(p3 _ m10 (xf h.nd 9 5 rfl rfl (by decide))).trans h.tb,p2,fun k hk=>by rw[hz];exact h.rlt k hk,by rw[hz];exact h.sz,h.nn⟩
 simp[World.setCell,Array.getElem?_modify,h.b6]
theorem OM.addRow (h:OM own db N B L P loc rp rows next scr dk W) {K:zr} (hn:zx rows K=none) {W2:World} {pb ab tb:Nat} {cs:List (Nat × Value × List Int)} {r:xg} (hg:W.grownBy W2 none) (hr:Zp W2 (fun _=>False) pb ab tb cs r)
  (n1:pb≠ab∧pb≠tb∧ab≠tb) (hl:W.heap.size≤pb∧W.heap.size≤ab∧W.heap.size≤tb)
  (hm:yg W' L.mr qy Xx (yu (rows.map fun q=>(q.1,(loc q.1).1)) K pb)) (hg2:W2.grownBy W' (some L.mr)) :
  OM own db N B L (fun k=>P k∨(W.heap.size≤k∧k<W2.heap.size)) (fun K'=>if K'=K then (pb,ab,tb) else loc K') rp (rows ++ [(K,r)]) next scr dk W':=by
 obtain⟨m1,m2,m3,m4,m5,m6,m7,m8,m9,m10,m11⟩:=L.mems;have h2:=h.widen hg;obtain⟨l1,l2,l3⟩:=hr.lt;have hml:=h.P_lt (h.lP _ m11).1;have hrows:=(h.rows.more (P':=fun k=>P k∨(W.heap.size≤k∧k<W2.heap.size)) fun k hk=>Or.inl hk).add hn hg hr n1 hl ⟨Or.inr ⟨hl.1,l1⟩,Or.inr ⟨hl.2.1,l2⟩,Or.inr ⟨hl.2.2,l3⟩⟩ h.rlt h.sz hm hg2 hml
 have hb:∀k,k<W2.heap.size→k≠L.mr→W'.heap[k]? = W2.heap[k]?:=fun k hk hne=>hg2.block k hk (fun e=>hne (by injection e))
 have hL:∀k∈L.all,k≠L.mr→W'.heap[k]? = W2.heap[k]?:=fun k hk hne=>hb k (Nat.lt_of_lt_of_le (h.P_lt (h.lP k hk).1) hg.size) hne
 have ht:zm (fun k=>k=L.mr) W2 W':=⟨hg2.os,hg2.tape,hg2.output,hg2.size,fun k hk hne=>hb k hk hne⟩
 exact⟨h2.disk.turn (ht.mono fun k hk=>by rw[hk];exact Or.inl (h.lP _ m11).1),h2.ownP,h2.lP,h2.pB,h.nd,(hL _ m1 (xf h.nd 0 10 rfl rfl (by decide))).trans h2.bd,(hL _ m2 (xf h.nd 1 10 rfl rfl (by decide))).trans h2.b2,(hL _ m3 (xf h.nd 2 10 rfl rfl (by decide))).trans h2.b3,(hL _ m4 (xf h.nd 3 10 rfl rfl (by decide))).trans h2.b4,(hL _ m5 (xf h.nd 4 10 rfl rfl (by decide))).trans h2.b5,(hL _ m6 (xf h.nd 5 10 rfl rfl (by decide))).trans h2.b6,(hL _ m7 (xf h.nd 6 10 rfl rfl (by decide))).trans h2.bx,(hL _ m8 (xf h.nd 7 10 rfl rfl (by decide))).trans h2.st,(hL _ m9 (xf h.nd 8 10 rfl rfl (by decide))).trans h2.mb,(hL _ m10 (xf h.nd 9 10 rfl rfl (by decide))).trans h2.tb,hrows,fun k hk=>Nat.lt_of_lt_of_le (h2.rlt k hk) hg2.size,Nat.le_trans h2.sz hg2.size,h.nn⟩
theorem OM.setRow (h:OM own db N B L P loc rp rows next scr dk W) {K:zr} {r r':xg} (hr:zx rows K=some r) {cs:List (Nat × Value × List Int)} (h':Zp W' rp (loc K).1 (loc K).2.1 (loc K).2.2 cs r') (ht:zm (fun k=>k=(loc K).2.1∨k=(loc K).2.2) W W') :
  OM own db N B L P loc rp (yu rows K r') next scr dk W':=by
 obtain⟨m1,m2,m3,m4,m5,m6,m7,m8,m9,m10,m11⟩:=L.mems;have hf:=h.rows.free K r hr;have hL:∀k∈L.all,W'.heap[k]? = W.heap[k]?:=fun k hk=>ht.block k (h.P_lt (h.lP k hk).1) (fun e=>by
  have:=(h.lP k hk).2
  rcases e with e|e
  ·have:=(hf _ (Or.inr (Or.inl rfl))).2.2;omega
  ·have:=(hf _ (Or.inr (Or.inr rfl))).2.2;omega)
 exact⟨h.disk.turn (ht.mono fun k hk=>by
  rcases hk with e|e
  ·rw[e];exact(hf _ (Or.inr (Or.inl rfl))).2.1
  ·rw[e];exact(hf _ (Or.inr (Or.inr rfl))).2.1),h.ownP,h.lP,h.pB,h.nd,(hL _ m1).trans h.bd,(hL _ m2).trans h.b2,(hL _ m3).trans h.b3,(hL _ m4).trans h.b4,(hL _ m5).trans h.b5,(hL _ m6).trans h.b6,(hL _ m7).trans h.bx,(hL _ m8).trans h.st,(hL _ m9).trans h.mb,(hL _ m10).trans h.tb,h.rows.set hr h' ht h.rlt (h.P_lt (h.lP _ m11).1),fun k hk=>Nat.lt_of_lt_of_le (h.rlt k hk) ht.size,Nat.le_trans h.sz ht.size,h.nn⟩
theorem OM.part (h:OM own db N B L P loc rp rows next scr dk W) {g:Option Nat} (hg:∀k,g=some k→W.heap.size≤k∧k<W'.heap.size) (hgr:W.grownBy W' none):OM own db N B L (fun k=>P k∨(W.heap.size≤k∧k<W'.heap.size)) loc (fun k=>rp k∨g=some k) rows next scr dk W':=by
 have h2:=h.widen hgr;have hr:qh (fun k=>P k∨(W.heap.size≤k∧k<W'.heap.size)) (B+2) W L.mr loc rp rows:=h.rows.more fun k hk=>Or.inl hk
 have hr2:=hr.part (rp':=fun k=>rp k∨g=some k) (fun k hk=>Or.inl hk) (fun k hk=>hk.imp id fun e=>⟨(hg k e).1,Or.inr (hg k e)⟩) h.sz
 have hr3:qh (fun k=>P k∨(W.heap.size≤k∧k<W'.heap.size)) (B+2) W' L.mr loc (fun k=>rp k∨g=some k) rows:=by
  have h3:=h2.rows;refine⟨h3.map,fun K r hK=>?_,h3.ne,h3.apart,hr2.free,hr2.parts,h3.mine,h3.low⟩
  obtain⟨cs,hc⟩:=h3.row K r hK
  exact⟨cs,hc.widen fun k hk=>Or.inl hk⟩
 exact⟨h2.disk,h2.ownP,h2.lP,h2.pB,h2.nd,h2.bd,h2.b2,h2.b3,h2.b4,h2.b5,h2.b6,h2.bx,h2.st,h2.mb,h2.tb,hr3,fun k hk=>by
  rcases hk with e|e
  ·exact h2.rlt k e
  ·exact(hg k e).2,h2.sz,h2.nn⟩
end
attribute [local go_sem] Oper.semAt_some
def za2 (own:Nat→Prop) (db Bx N:Nat) (x:Nat→List Int) (i:Nat) (W:World):Prop:=
 W.heap[Bx]? = some (.cells #[.pointer (some ⟨db,0,none⟩)] 28 (0,0))∧∃d,vj own W db d∧d.n=N∧d.off=false∧∀j,i≤j→j<N→bk d.now j=x j
def blkV (x:Nat→List Int) (i:Nat):Array Value:=#[.int .i64 (i:Int),.agg (zg (x i)).toArray]
theorem zmw (a:Option Addr) (w:World):(Instr.arrayAt 136 (.slice a 256 256)).run Tryz.prog w = .ok (.pointer a) w:=by kernel_rfl
theorem zjh {o:Oper} {a:Act} {w:World} (y:Operand) (p:Option Addr) (hop:o.op=Op.sliceToArrayPointer 136 y) (hy:a.eval y = .slice p 256 256):(execOp a.eval o).run Tryz.prog w = .ok (.value (.pointer p)) w:=by
 have h:=zmw p w;simp only[execOp,hop,hy,Sem.run_bind,h,Result.andThen]
 rfl
theorem Xk {o:Oper} {a:Act} {w:World} (y:Operand) (ty:TypeId) (hop:o.op=Op.load ty y) (g:Nat) (t:TypeId) (cs:Array Value) (fr:Nat × Nat) (d:TypeDesc) (hy:a.eval y = .pointer (some ⟨g,0,none⟩)) (hg:w.heap[g]? = some (.cells cs t fr))
  (hu:Tryz.prog.underlying ty=some d) (hd:(match d with | .struct _ | .array _ _=>true|_=>false)=true) (hi:(Tryz.prog.info? ty).map (·.size)=some cs.size):(execOp a.eval o).run Tryz.prog w = .ok (.value (.agg cs)) w:=by
 have h:=run_loadVar_row (P:=Tryz.prog) w g t ty cs fr d hg hu (by cases d <;> first|rfl|cases hd) hi
 simp[execOp,hop,hy,Instr.loadAt,Instr.sureAddr,h,Result.andThen]
set_option maxRecDepth 100000 in
theorem zjd (own:Nat→Prop) (db Bx N:Nat) (hN:N≤4096) (x:Nat→List Int) (hx:∀i,(x i).length=256) (W:World) :
  zk7 Fence.wide 4 Tryz.prog 162 #[.pointer (some ⟨Bx,0,none⟩)] (blkV x) N (za2 own db Bx N x) W:=by
 intro l J Jx hJg hJn hY h0;have fT:Fence.wide.fn 81:=trivial;have fR:Fence.wide.fn 114:=trivial;have HG:=zd hJg;have HN:=zd hJn;have HY:=zd hY;have H0:=zd h0;have hb0:za2 own db Bx N x 0 W:=hJn 0 W h0;obtain⟨hbx,d,hd,hdn,hdo,hdx⟩:=hb0;have c0:W.cell? ⟨Bx,0,none⟩=some (.pointer (some ⟨db,0,none⟩)):=(zf hbx 0).trans rfl;have HB:=zd (zee hd);rw[hdn] at HB;clear hJg hJn hY h0 hbx hd hdn hdo hdx;refine callsIn_of_wp Tryz.func162 rfl trivial ?_ rfl;simp only[Tryz.ntmps162,List.size_toArray,List.length_cons,List.length_nil,Nat.reduceAdd,Nat.reduceSub,Array.replicate_succ,Array.replicate_zero,List.push_toArray,List.append_toArray,List.nil_append,List.cons_append]
 gi_wp2_with (gi_at_call 81;refine(callsIn_wide.2 HB.out).mono ?_;rintro e W1 ⟨rfl,h5⟩;obtain rfl:W=W1:=h5.symm)
 clear c0 HB
 gi_loopw [8] (fun s wr=>∃i:Nat,i≤N∧s = .int .i64 (i:Int)∧Hid (J i wr)) (fun s _=>N-(intOf s).toNat)
 case atStart=>exact⟨0,Nat.zero_le _,rfl,H0⟩
 case round=>
  obtain⟨i,hi,rfl,hj⟩:=hrel
  rcases Nat.lt_or_ge i N with hlt|hge
  ·have hb:=HN.out i wr hj.out
   obtain⟨hbx,d,hd,hdn,hdo,hdx⟩:=hb;have c0:wr.cell? ⟨Bx,0,none⟩=some (.pointer (some ⟨db,0,none⟩)):=(zf hbx 0).trans rfl;have hme:d.mayE (i:Int) 0=0:=by
    unfold Dk.mayE;rw[if_neg (by simp[hdo]),if_neg (by omega),if_neg (by omega)]
   have hR:=dread hd (i:Int);unfold Ze at hR;rw[hme] at hR;have hxi:=hdx i (Nat.le_refl _) hlt;simp only[Int.toNat_natCast,hxi] at hR;have HR:=zd hR;have HL:=zd (hx i);have HJ:=zd hj.out;clear hbx hd hdn hdo hdx hme hR hxi hj
   gi_wp2_with (first
    | (gi_at_call 114;refine(callsIn_wide.2 HR.out).mono ?_;rintro e W2 ⟨hg,v,rfl,hv⟩;obtain⟨h1,-⟩|⟨-,⟨⟨g,rfl,-,hrow⟩,-,-⟩⟩:=hv;exact absurd rfl h1;have HROW:=zd hrow;have HJ2:=zd (HG.out i _ _ HJ.out hg);obtain⟨fn,tmps,assign,body,hy,hRn⟩:=HY.out i W2 HJ2.out hlt;simp only[blkV] at hy;clear hrow hg)
    | (refine Qy rfl (fun _ e=>by cases e) (fun _ e=>by cases e) (zjh _ _ rfl rfl) ?_)
    | (refine Qy rfl (fun _ e=>by cases e) (fun _ e=>by cases e) (Xk _ 136 rfl g 174 _ (0,0) _ rfl HROW.out Tryz.underlying136 rfl (jn HL.out)) ?_))
   refine hRn.mono ?_;rintro e W4 (⟨rfl,hJ4⟩|⟨rfl,hJx4⟩)
   ·have HJ4:=zd hJ4
    clear hJ4
    gi_wp2
    go_roundw
    case rel=>exact⟨i+1,by omega,by go_num,HJ4⟩
    case measure=>simp[intOf];omega
   ·gi_wp2
    refine bodyPost_ret (results_none rfl _ _ _) rfl ?_
    exact⟨⟨_,rfl⟩,.inr hJx4⟩
  ·obtain rfl:i=N:=by omega
   gi_wp2
   go_end0
   exact⟨⟨_,rfl⟩,.inl hj.out⟩
end Go.Proofs.YtbcbhlfjgobejaaGreat
