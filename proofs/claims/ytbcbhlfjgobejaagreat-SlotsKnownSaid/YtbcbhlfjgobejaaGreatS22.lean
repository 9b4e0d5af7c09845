/- slices.Collect over the keys of a map of rows. Conditions: none, or as the theorems say. -/
import Derived.Test.YtbcbhlfjgobejaaGreatS18
import Derived.RangeFuncNested
import Derived.RangeFuncLeaves
import Derived.Shelf.Abstract
import Derived.WalkKit
import Derived.OwnWalkIn
import Derived.TacticsInMore
import Derived.RegionIn
import Derived.LoopNIn
import Derived.LoopIn
import Derived.Maps.OwnIn
import Derived.Maps.AppendAt
import Derived.Shelf.SlLaysF0
import Derived.Ground.SlsfProg
import Derived.Shelf.SlGeneric
import Derived.Test.YtbcbhlfjgobejaaGreatProg
import Derived.Sort.OwnSorted
import Derived.Sort.Walk0
import Derived.Shelf.SlSortCmp.NoneTotal
set_option linter.unusedSimpArgs false
set_option linter.unusedVariables false
namespace Go.Sf
set_option maxHeartbeats 200000000
open Go.RowKit Go.MapKept
variable {K V:Type}
section
variable {P : Program} {K V : Type} [DecidableEq K] {ek : K → Value} {ev : V → Value} (w : World) {F : Fence} {nF : Nat} {ops : Array Oper} {rest : List Oper} {o : Oper} {a : Act} {Q : Exit → Act → World → Prop}
omit [DecidableEq K] in
theorem zcu (hg:o.guard=none) (x:Operand) (t:TypeId) (hop:o.op=Op.range t x) {kt et:TypeId} (ht:P.underlying t=some (.map kt et)) (b:Nat) (m:List (K × V)) (hx:a.eval x = .map (some b)) (h:yg w b ek ev m)
 (hK:∀w',qd w' w.heap.size b ek ev m (λ_=>false)→w.grownBy w' none→w'.heap.size=w.heap.size+1→wpListIn F nF P ops Q rest (a.put o.dst (.pointer (some ⟨w.heap.size,0,none⟩))) w'):wpListIn F nF P ops Q (o :: rest) a w:=by
 refine wpListIn_plain hg λK' hK'=>?_
 obtain⟨w',hrun,r1,r2,r3⟩:=h.range ht;unfold Oper.wpIn;refine⟨by simp[Oper.about,hop],?_⟩
 rw[Oper.semAt_plain F _ _ (by rw[hop];intro c hc';cases hc')]
 simp[execOp,hop,hx,hrun,Result.andThen]
 exact hK' _ _ (hK w' r1 r2 r3)
theorem zer (hg:o.guard=none) (it:Operand) (hop:o.op=Op.next it false) (inj:∀a b,ek a=ek b→a=b) (r b:Nat) (m:List (K × V)) (seen:K→Bool) (hit:a.eval it = .pointer (some ⟨r,0,none⟩)) (h:qd w r b ek ev m seen)
 (hDone:zlb m seen→wpListIn F nF P ops Q rest (a.put o.dst (.tuple #[.bool false])) w)
 (hMore:∀k v w',Came P w w' r b ek ev m seen k v→wpListIn F nF P ops Q rest (a.put o.dst (.tuple #[.bool true,ek k,ev v])) w'):wpListIn F nF P ops Q (o :: rest) a w:=by
 refine wpListIn_plain hg λK' hK'=>?_
 unfold Oper.wpIn;refine⟨by simp[Oper.about,hop],?_⟩
 rw[Oper.semAt_plain F _ _ (by rw[hop];intro c hc';cases hc')]
 rcases h.next (P:=P) inj o.type with ⟨h0,hrun⟩|⟨k,v,w',r1,r2,hrun,r3,r4,r5,r6⟩
 ·simp[execOp,hop,hit,hrun,Result.andThen]
  exact hK' _ _ (hDone h0)
 ·simp[execOp,hop,hit,hrun,Result.andThen]
  exact hK' _ _ (hMore k v w' ⟨r1,r2,r3,r4,r5,r6⟩)
end
section
variable {K V : Type} {ek : K → Value} {ev : V → Value} {w w' : World} {r b : Nat} {m : List (K × V)} {seen : K → Bool}
theorem qd.walks (h:qd w r b ek ev m seen) (hk:KeepsWalks w w'):qd w' r b ek ev m seen:=by
 obtain⟨es,clock,sn,hb,hs,he,hr,h2⟩:=h
 exact⟨es,clock,sn,hk.same b _ hb rfl,hs,he,hk.same r _ hr rfl,h2⟩
theorem qd.walk (h:qd w r b ek ev m seen):∃o:Obj,w.heap[r]? = some o∧o.isWalk=true:=by
 obtain⟨es,clock,sn,hb,hs,he,hr,h2⟩:=h
 exact⟨_,hr,rfl⟩
theorem yg.below {n:Nat} (h:yg w b ek ev m) (hb:b<n) (hw:Below n w w'):yg w' b ek ev m:=by
 obtain⟨es,clock,h1,hs,he⟩:=h
 exact⟨es,clock,(hw.block b hb).trans h1,hs,he⟩
end
structure Xh {K V:Type} (m:List (K × V)) (seen:K→Bool) (ss:List K):Prop where
 nodup:ss.Nodup
 sub:∀x∈ss,x∈m.map (·.1)
 iff:∀x,seen x=true↔x∈ss
theorem Xh.start (m:List (K × V)):Xh m (λ_=>false) []:=⟨by simp,by simp,by simp⟩
theorem Xh.step {V:Type} [DecidableEq K] {m:List (K × V)} {seen:K→Bool} {ss:List K} (h:Xh m seen ss) {k:K} {v:V} (hm:(k,v)∈m) (hn:seen k=false):Xh m (λx=>seen x || decide (x=k)) (ss ++ [k]):=by
 have hk:¬k∈ss:=λhk=>by have:=(h.iff k).2 hk;rw[hn] at this;cases this
 refine⟨List.nodup_append.2 ⟨h.nodup,by simp,λx hx y hy e=>?_⟩,λx hx=>?_,λx=>?_⟩
 ·simp only[List.mem_singleton] at hy;subst hy;subst e;exact hk hx
 ·rcases List.mem_append.1 hx with hx|hx
  ·exact h.sub x hx
  ·simp only[List.mem_singleton] at hx;subst hx;exact List.mem_map.2 ⟨_,hm,rfl⟩
 ·simp only[Bool.or_eq_true,decide_eq_true_eq,List.mem_append,List.mem_singleton]
  rw[h.iff]
theorem Xh.perm {K V:Type} {m:List (K × V)} {seen:K→Bool} {ss:List K} (h:Xh m seen ss) (hnd:(m.map (·.1)).Nodup) (ha:zlb m seen):ss.Perm (m.map (·.1)):=
 (List.perm_ext_iff_of_nodup h.nodup hnd).2 λx=>⟨h.sub x,λhx=>by
  obtain⟨p,hp,rfl⟩:=List.mem_map.1 hx
  exact(h.iff p.1).1 (ha p hp)⟩
theorem Xh.lt {V:Type} [DecidableEq K] {m:List (K × V)} {seen:K→Bool} {ss:List K} (h:Xh m seen ss) (hnd:(m.map (·.1)).Nodup) {k:K} {v:V} (hm:(k,v)∈m) (hn:seen k=false):ss.length<m.length:=by
 have h2:=h.step hm hn;have h3:(ss ++ [k]).length≤(m.map (·.1)).length:=h2.nodup.length_le_of_subset h2.sub
 simp at h3;omega
end Go.Sf
namespace Go.Proofs.YtbcbhlfjgobejaaGreat
open Go.RowKit Go.Sf Go.Shelf Go.Maps
attribute [local go_sem] Oper.semAt_some
set_option maxRecDepth 100000 in
theorem zo4 (F:Fence) (n:Nat) (h10:F.fn 171) (hro:F.round=none) (hn:1≤n) (l Bm b:Nat) (m:List (zt × Nat)) (J Jx:List zt→World→Prop)
 (hY:∀pre x W,J pre W→pre.length<m.length→YieldAt F (n-1) Tryz.prog l #[jr x] W λe W'=>(e = .returned (.bool true)∧J (pre ++ [x]) W'∧KeepsWalks W W')∨(e = .returned (.bool false)∧Jx (pre ++ [x]) W'))
 (W:World) (hJ:AbidesFrom W.heap.size J) (hm:W.cell? ⟨Bm,0,none⟩=some (.map (some b))) (hown:yg W b jr Ul m) (h0:J [] W) :
  CallsIn F n Tryz.prog 171 #[.func (.yield l) #[] #[],.pointer (some ⟨Bm,0,none⟩)] W λe W'=>(∃v,e = .returned v)∧((∃xs:List zt,xs.Perm (m.map (·.1))∧J xs W')∨(∃pre:List zt,True∧Jx pre W')):=by
 have hnd:=hown.nodup;refine callsIn_of_wp Tryz.func171 rfl h10 ?_ hro;simp only[Tryz.ntmps171,List.size_toArray,List.length_cons,List.length_nil,Nat.reduceAdd,Nat.reduceSub,Array.replicate_succ,Array.replicate_zero,List.push_toArray,List.append_toArray,List.nil_append,List.cons_append]
 gi_wp2_with (gi_at_range;refine zcu _ rfl _ _ rfl Tryz.underlying133 b m rfl hown ?_;intro w0 hit hg0 hs0)
 go_frame
 gi_loopw [3] (λ_ wr=>∃(seen:zt→Bool) (ss:List zt),qd wr W.heap.size b jr Ul m seen∧Xh m seen ss∧J ss wr) (λ_ wr=>leftW wr W.heap.size b)
 case atStart=>exact⟨_,[],hit,Xh.start m,hJ [] W w0 none h0 hg0 (λr e=>by cases e)⟩
 case round=>
  obtain⟨seen,ss,hit,hC,hJs⟩:=hrel
  gi_wp2_with (gi_at_next;refine zer _ rfl _ rfl zhw W.heap.size b m seen rfl hit ?_ ?_)
  ·intro hall
   gi_wp2
   go_end0
   exact⟨⟨_,rfl⟩,.inl ⟨ss,hC.perm hnd hall,hJs⟩⟩
  ·rintro⟨kk,kv⟩ v w2 hc
   have hJ2:=hJ ss wr w2 (some W.heap.size) hJs hc.grown (λr e=>by cases e;exact⟨Nat.le_refl _,hit.walk⟩)
   have hJ3:=hJ ss w2 (w2.alloc (.cells #[.int .i64 kk,.int .i64 (kv:Int)] 142)) none hJ2 (ze _ _ _) (λr e=>by cases e)
   have hlt:=hC.lt hnd hc.mem hc.new;obtain⟨fn,tmps,assign,body,hy,hR⟩:=hY ss ⟨kk,kv⟩ _ hJ3 hlt;have hen:=hc.entry;simp only[jr] at hy hen ⊢;have hit2:=hc.iter;have hleft:=hit2.left
   gi_wp2
   refine hR.mono ?_;rintro e W3 (⟨rfl,hJ4,hk3⟩|⟨rfl,hJx3⟩)
   ·have hit3:=(qd.kept hit2 (ze w2 (.cells #[.int .i64 kk,.int .i64 (kv:Int)] 142) none) (by simp) (by simp)).walks hk3
    gi_wp2
    go_roundw
    case rel=>exact⟨_,ss ++ [⟨kk,kv⟩],hit3,hC.step hc.mem hc.new,hJ4⟩
    case measure=>
     rw[hit3.left,hit.left]
     exact zkj hc.mem hc.new
   ·gi_wp2
    refine bodyPost_ret (results_none rfl _ _ _) rfl ?_
    exact⟨⟨_,rfl⟩,.inr ⟨_,trivial,hJx3⟩⟩
theorem zez (F:Fence) (n:Nat) (h10:F.fn 171) (hro:F.round=none) (hn:1≤n) (Bm b:Nat) (m:List (zt × Nat)) (w:World) (hBm:Bm<w.heap.size) (hm:w.cell? ⟨Bm,0,none⟩=some (.map (some b))) (hown:yg w b jr Ul m) :
  SeqStopsK F n Tryz.prog 171 #[.pointer (some ⟨Bm,0,none⟩)] (λx:zt=>#[jr x]) KeepsWalks (λxs=>xs.Perm (m.map (·.1))) (λ_=>True) m.length w:=λl J Jx W hW hJ _ hY h0=>
 zo4 F n h10 hro hn l Bm b m J Jx hY W hJ ((hW.cell (p:=⟨Bm,0,none⟩) hBm).trans hm) (hown.below hown.lt hW) h0
theorem key_new (w:World) (x:zt) (t:TypeId):∀j u,(xg x)[j]? = some u→(w.alloc (.cells #[.int .i64 x.k,.int .i64 (x.count:Int)] t)).cell? ((⟨w.heap.size,0,none⟩:Addr).add j)=some u:=by
 intro j u hj
 match j,hj with
 | 0,hj=>simp[xg] at hj;subst hj;simp[Addr.add,go_sem]
 | 1,hj=>simp[xg] at hj;subst hj;simp[Addr.add,go_sem]
 | j+2,hj=>simp[xg] at hj
set_option maxRecDepth 100000 in
theorem zmr (F:Fence) (n:Nat) (h11:F.fn 215) (hro:F.round=none) (hn:2≤n) (g:Nat) (lb:Array Value) (hFg:F.fn g) (eg:∀args w,(callFunc g args).run Tryz.prog w = .ok (.enter g args) w)
 (S:List zt→Prop) (N:Nat) (hN:N≤1000000) (w:World) (hseq:SeqStopsK F (n-1) Tryz.prog g lb (λx:zt=>#[jr x]) KeepsWalks S (λ_=>True) N w) :
  CallsIn F n Tryz.prog 215 #[.slice none 0 0,.func (.func g) #[] lb] w λe w'=>∃(v:Value) (ss:List zt),e = .returned v∧S ss∧w'.ownsRow w.heap.size 142 2 v ss.length (ss.flatMap xg)∧(v = .slice none 0 0↔ss = [])∧Below w.heap.size w w':=by
 have h1:1≤n:=by omega
 obtain⟨i0,hi,hz0,hz1,hz2⟩:=info_parts infoK;refine callsIn_of_wp_marks Tryz.func215 rfl h11 ?_ hro;simp only[Tryz.ntmps215,List.size_toArray,List.length_cons,List.length_nil,Nat.reduceAdd,Nat.reduceSub,Array.replicate_succ,Array.replicate_zero,List.push_toArray,List.append_toArray,List.nil_append,List.cons_append]
 gi_wp2
 have bS:=Boxed.new w 148 (.slice none 0 0);have hB0:Below w.heap.size w (w.alloc (.cells #[.slice none 0 0] 148)):=(Below.refl _ w).alloc (Nat.le_refl _) _;have hsz:(w.alloc (.cells #[.slice none 0 0] 148)).heap.size=w.heap.size+1:=by simp
 generalize w.alloc (.cells #[.slice none 0 0] 148)=W0 at *;refine wpIn_rangeFunc_ownH hro h1 (gf:=g) (lb:=lb) rfl hFg eg hseq walksK_t walksK_b hB0 (λ_=>rfl)
  (λpre W=>(∃v,Boxed W w.heap.size 148 v∧W.ownsRow w.heap.size 142 2 v pre.length (pre.flatMap xg)∧(v = .slice none 0 0↔pre = []))∧Below w.heap.size w W)
  (λ_ _ _=>False)
  (OwnFrom.and (Own.from (holdsRow_own w.heap.size w.heap.size 148 142 2 (λpre:List zt=>pre.length) (λpre=>pre.flatMap xg) (λpre v=>v = .slice none 0 0↔pre = [])) _) (ownFrom_below (Nat.le_refl _) (by omega)))
  (λ_ _ _ _ _ hs _ _=>hs)
  ⟨⟨_,bS,World.ownsRow_nil _ _ _ _,by simp⟩,hB0⟩
  (λx a' W=>∃Bx,w.heap.size<Bx∧W.heap[Bx]? = some (.cells #[.int .i64 x.k,.int .i64 (x.count:Int)] 142 (0,0))∧a' = { tmps:=#[.slice none 0 0,.func (.func g) #[] lb,.pointer (some ⟨w.heap.size,0,none⟩),undef,.slice none 0 0,.pointer (some ⟨Bx,0,none⟩),.func (.func g) #[] lb,jr x,undef,undef,undef,undef,undef],defers:=[] })
  (λx a' _ X Y row hs hg hr=>by
   obtain⟨Bx,h1,h2,h3⟩:=hs;refine⟨Bx,h1,(hg.block Bx (Array.getElem?_eq_some_iff.1 h2).1 (λe=>?_)).trans h2,h3⟩
   obtain⟨_,o,ho,hc⟩:=hr Bx e.symm;rw[h2] at ho;cases ho;cases hc)
  ?assign ?body ?done ?stop
 case assign=>
  rintro l pre ⟨xk,xv⟩ W K ⟨⟨v,bS1,hrow,hnil⟩,hB1⟩ hK;simp only[jr]
  gi_wp2
  exact hK _ _ ((KeepsOthers.alloc _ _).from _) (KeepsWalks.alloc _ _) ⟨⟨v,bS1.alloc _,hrow.alloc _,hnil⟩,hB1.alloc hB1.size _⟩ ⟨W.heap.size,bS1.lt,World.alloc_heap_new W _,rfl⟩
 case body=>
  rintro l pre ⟨xk,xv⟩ a' W hl ⟨r,hr⟩ ⟨⟨v,bS1,hrow,hnil⟩,hB1⟩ ⟨Bx,hBx,bX,rfl⟩ hlt;have cS:=bS1.cell;have fS:=bS1.frozen;have c0:W.cell? ⟨Bx,0,none⟩=some (.int .i64 xk):=(zf bX 0).trans rfl;have c1:W.cell? ⟨Bx,1,none⟩=some (.int .i64 (xv:Int)):=(zf bX 1).trans rfl;simp only[jr]
  gi_wp2_with (gi_at_builtin;refine wpListIn_append_own _ rfl _ _ 148 rfl w.heap.size 142 i0 (.agg #[.int .i64 0,.int .i64 0]) 2 16 Tryz.underlying148 hi hz0 hz1 hz2 rfl (by decide) _ _ _ rfl (hrow.alloc _) ⟨W.heap.size,0,none⟩ 1 1 (xg ⟨xk,xv⟩) rfl rfl (key_new W ⟨xk,xv⟩ _) (by simp[xg,Value.oneCell']) (by unfold maxLen;omega) (by omega) (by have:=hB1.size;simp;omega) ?_;intro v' w1 hown' hgrow _;obtain⟨g',cap',rfl⟩:=ownsRow_succ hown';obtain⟨hv1,hv2,hr2,hk2,hb2⟩:=bS1.appended (by decide) hrow hB1.size (Nat.le_refl _) hown' hgrow;have hc1:=hv1.cell;have hf1:=hv1.frozen)
  exact⟨hk2.from _,hk2.walks,⟨_,hv2,by simpa[List.flatMap_append] using hr2,by simp⟩,hB1.trans hb2⟩
 case done=>
  rintro D zs W hD hS ⟨⟨v,bS1,hrow,hnil⟩,hB1⟩ hK;have cS:=bS1.cell
  gi_wp2
  refine⟨by simp,.inl ⟨_,_,rfl,run_takeDeferred hK,?_⟩⟩
  exact⟨_,results_tmp rfl _ _ _,v,zs,rfl,hS,ownsRow_putObj hrow _ hK rfl,hnil,hB1.trans (belowK_b (w:=w) (Nat.le_refl _) W D _ _ (by omega) hK rfl rfl)⟩
 case stop=>
  rintro D c pre W _ _ h _
  exact h.elim
theorem zkh (F:Fence) (n:Nat) (h8:F.fn 169) (h11:F.fn 215) (hro:F.round=none) (hn:3≤n) (g:Nat) (lb:Array Value) (hFg:F.fn g) (eg:∀args w,(callFunc g args).run Tryz.prog w = .ok (.enter g args) w)
 (S:List zt→Prop) (N:Nat) (hN:N≤1000000) (w:World) (hseq:SeqStopsK F (n-1-1) Tryz.prog g lb (λx:zt=>#[jr x]) KeepsWalks S (λ_=>True) N w) :
  CallsIn F n Tryz.prog 169 #[.func (.func g) #[] lb] w λe w'=>∃(v:Value) (ss:List zt),e = .returned v∧S ss∧w'.ownsRow w.heap.size 142 2 v ss.length (ss.flatMap xg)∧(v = .slice none 0 0↔ss = [])∧Below w.heap.size w w':=by
 have h1:1≤n:=by omega
 refine callsIn_of_wp Tryz.func169 rfl h8 ?_ hro;simp only[Tryz.ntmps169,List.size_toArray,List.length_cons,List.length_nil,Nat.reduceAdd,Nat.reduceSub,Array.replicate_succ,Array.replicate_zero,List.push_toArray,List.append_toArray,List.nil_append,List.cons_append]
 gi_wp2_with (gi_at_call 215;refine(zmr F (n-1) h11 hro (by omega) g lb hFg eg S N hN _ hseq).mono ?_;rintro e w' ⟨v,ss,rfl,hS,hrow,hnil,hb⟩)
 go_ret
 exact⟨v,ss,rfl,hS,hrow,hnil,hb⟩
theorem zmt (mb:Option Nat) (W:World):Calls Tryz.prog 88 #[.map mb] W λe w'=>
  e = .returned (.func (.func 171) #[] #[.pointer (some ⟨W.heap.size,0,none⟩)])∧w'=W.alloc (.cells #[.map mb] 133):=by
 have hmf:∀(fn:Fn) (first cap:Array Value) (w:World),(Instr.makeFunc fn first cap).run Tryz.prog w = .ok (.func fn first cap) w:=λ_ _ _ _=>rfl
 go_enter Tryz.func88,Tryz.ntmps88
 go_wp2
 go_ret
 exact⟨rfl,rfl⟩
end Go.Proofs.YtbcbhlfjgobejaaGreat
namespace Go.Proofs
open Go.Shelf
def Tryz.sortF_ren:Go.Shelf.Ren:=⟨fun|6=>170|15=>191|14=>216|28=>234|29=>235|20=>249|21=>250|22=>251|23=>252|24=>253|25=>254|26=>255|27=>256|46=>273|47=>259|48=>260|49=>274|50=>275|57=>281|n=>n,fun|22=>148|24=>142|25=>156|3=>3|39=>285|0=>0|53=>172|55=>51|4=>4|46=>319|45=>318|50=>324|5=>5|9=>9|66=>342|70=>345|76=>357|77=>358|n=>n,fun|n=>n⟩
theorem Tryz.sortF:Go.Proofs.SlLaysF0.n6 Tryz.prog Tryz.sortF_ren:={
 mixed:=by kernel_rfl
 f6:=⟨Tryz.f170.name,by decide,Tryz.func170.trans (congrArg some (by kernel_rfl))⟩
 f14:=⟨Tryz.f216.name,by decide,Tryz.func216.trans (congrArg some (by kernel_rfl))⟩
 f15:=Tryz.func191.trans (congrArg some (by kernel_rfl))
 f20:=⟨Tryz.f249.name,by decide,Tryz.func249.trans (congrArg some (by kernel_rfl))⟩
 f21:=⟨Tryz.f250.name,by decide,Tryz.func250.trans (congrArg some (by kernel_rfl))⟩
 f22:=⟨Tryz.f251.name,by decide,Tryz.func251.trans (congrArg some (by kernel_rfl))⟩
 f23:=⟨Tryz.f252.name,by decide,Tryz.func252.trans (congrArg some (by kernel_rfl))⟩
 f24:=⟨Tryz.f253.name,by decide,Tryz.func253.trans (congrArg some (by kernel_rfl))⟩
 f25:=⟨Tryz.f254.name,by decide,Tryz.func254.trans (congrArg some (by kernel_rfl))⟩
 f26:=⟨Tryz.f255.name,by decide,Tryz.func255.trans (congrArg some (by kernel_rfl))⟩
 f27:=⟨Tryz.f256.name,by decide,Tryz.func256.trans (congrArg some (by kernel_rfl))⟩
 f28:=Tryz.func234.trans (congrArg some (by kernel_rfl))
 f29:=Tryz.func235.trans (congrArg some (by kernel_rfl))
 f46:=⟨Tryz.f273.name,by decide,Tryz.func273.trans (congrArg some (by kernel_rfl))⟩
 f47:=Tryz.func259.trans (congrArg some (by kernel_rfl))
 f48:=Tryz.func260.trans (congrArg some (by kernel_rfl))
 f49:=⟨Tryz.f274.name,by decide,Tryz.func274.trans (congrArg some (by kernel_rfl))⟩
 f50:=⟨Tryz.f275.name,by decide,Tryz.func275.trans (congrArg some (by kernel_rfl))⟩
 f57:=⟨Tryz.f281.name,by decide,Tryz.func281.trans (congrArg some (by kernel_rfl))⟩
 t0:=Tryz.underlying0
 a0:=Tryz.isAgg0
 z0:=Tryz.sizeOf0
 v0:=Tryz.zeroValue0
 t3:=Tryz.underlying3
 a3:=Tryz.isAgg3
 z3:=Tryz.sizeOf3
 v3:=Tryz.zeroValue3
 t4:=Tryz.underlying4
 a4:=Tryz.isAgg4
 z4:=Tryz.sizeOf4
 v4:=Tryz.zeroValue4
 t5:=Tryz.underlying5
 a5:=Tryz.isAgg5
 z5:=Tryz.sizeOf5
 v5:=Tryz.zeroValue5
 t9:=Tryz.underlying9
 a9:=Tryz.isAgg9
 z9:=Tryz.sizeOf9
 v9:=Tryz.zeroValue9
 t22:=Tryz.underlying148
 a22:=Tryz.isAgg148
 z22:=Tryz.sizeOf148
 v22:=Tryz.zeroValue148
 t25:=Tryz.underlying156
 a25:=Tryz.isAgg156
 z25:=Tryz.sizeOf156
 v25:=Tryz.zeroValue156
 t39:=Tryz.underlying285
 a39:=Tryz.isAgg285
 z39:=Tryz.sizeOf285
 v39:=Tryz.zeroValue285
 t45:=Tryz.underlying318
 a45:=Tryz.isAgg318
 z45:=Tryz.sizeOf318
 v45:=Tryz.zeroValue318
 t46:=Tryz.underlying319
 a46:=Tryz.isAgg319
 z46:=Tryz.sizeOf319
 v46:=Tryz.zeroValue319
 t50:=Tryz.underlying324
 a50:=Tryz.isAgg324
 z50:=Tryz.sizeOf324
 v50:=Tryz.zeroValue324
 t53:=Tryz.underlying172
 a53:=Tryz.isAgg172
 z53:=Tryz.sizeOf172
 v53:=Tryz.zeroValue172
 t55:=Tryz.underlying51
 a55:=Tryz.isAgg51
 z55:=Tryz.sizeOf51
 v55:=Tryz.zeroValue51
 t66:=Tryz.underlying342
 a66:=Tryz.isAgg342
 z66:=Tryz.sizeOf342
 v66:=Tryz.zeroValue342
 t70:=Tryz.underlying345
 a70:=Tryz.isAgg345
 z70:=Tryz.sizeOf345
 v70:=Tryz.zeroValue345
 t76:=Tryz.underlying357
 a76:=Tryz.isAgg357
 z76:=Tryz.sizeOf357
 v76:=Tryz.zeroValue357
 t77:=Tryz.underlying358
 a77:=Tryz.isAgg358
 z77:=Tryz.sizeOf358
 v77:=Tryz.zeroValue358 }
end Go.Proofs
namespace Go.Proofs.YtbcbhlfjgobejaaGreat
open Go.RowKit Go.Sf Go.Shelf Go.Maps Go.Sort Go.Lib
variable {cur:Array Value} {xs:List Value} {g n:Nat} {e:TypeId} {w:World}
instance:Inhabited zt:=⟨⟨0,0⟩⟩
def ltK (a b:zt):Bool:=decide (ordK a b<0)
theorem Qp (a b:zt):ltK a b=true↔Yl a b:=by
 unfold ltK ordK Xs Yl;simp only[decide_eq_true_eq]
 by_cases h1:a.k<b.k
 ·simp[h1]
 ·by_cases h2:b.k<a.k
  ·simp[h1,h2];omega
  ·have e:a.k=b.k:=by omega
   simp only[h1,h2,if_false,if_true,e,Int.lt_irrefl,false_or,true_and]
   by_cases h3:a.count<b.count
   ·simp[h3]
   ·by_cases h4:b.count<a.count <;> simp[h3,h4]
theorem swoK:SWO (ltOf ordK) where
 irrefl x:=by
  have n:¬ltK x x=true:=by rw[Qp];unfold Yl;omega
  simpa[ltOf,ltK] using n
 trans x y z h1 h2:=by
  have h1:=(Qp x y).1 h1;have h2:=(Qp y z).1 h2;refine(Qp x z).2 ?_;unfold Yl at *;omega
 ntrans x y z h1 h2:=by
  have n1:¬ltK x y=true:=by unfold ltK;unfold ltOf at h1;rw[h1];decide
  have n2:¬ltK y z=true:=by unfold ltK;unfold ltOf at h2;rw[h2];decide
  have n3:¬ltK x z=true:=by
   rw[Qp] at *;unfold Yl at *;omega
  simpa[ltOf,ltK] using n3
def zj0 (base:Nat) (w:World) (v:Value) (l:List zt):Prop:=w.ownsRow base 142 2 v l.length (l.flatMap xg)
theorem zbj {w1 w2:World} {row:Option Nat} (h:w.grownBy w1 none) (h2:w1.grownBy w2 row) (hrow:∀k,row=some k→w.heap.size≤k):w.grownBy w2 none:=
 ⟨h2.os.trans h.os,h2.tape.trans h.tape,h2.output.trans h.output,Nat.le_trans h.size h2.size,λk hk _=>
  (h2.block k (Nat.lt_of_lt_of_le hk h.size) (λe=>by have:=hrow k e.symm;omega)).trans (h.block k hk (by simp))⟩
theorem zbi:∀(l:List zt) (t:Nat),t<l.length*2→(l.flatMap xg)[t]? = some ((xg (l[t / 2]!))[t%2]!)
 | [],t,h=>by simp at h
 | x :: r,0,h=>rfl
 | x :: r,1,h=>rfl
 | x :: r,t+2,h=>by
  have ih:=zbi r t (by simp at h;omega)
  have e1:(t+2) / 2=t / 2+1:=by omega
  have e2:(t+2)%2=t%2:=by omega
  rw[e1,e2];have:(x :: r).flatMap xg=Value.int .i64 x.k :: Value.int .i64 (x.count:Int) :: r.flatMap xg:=rfl;rw[this];simpa using ih
theorem Qo (l:List zt):(l.flatMap xg).length=l.length*2:=by
 induction l with
 | nil=>rfl
 | cons x r ih=>simp[xg,ih];omega
theorem zdk (l:List zt):flatK xg 2 l.toArray=(l.flatMap xg).toArray:=by
 apply Array.ext
 ·rw[size_flatK,List.size_toArray,List.size_toArray,Qo]
 ·intro t h1 h2
  have h3:t<l.length*2:=by simpa using h1
  have h4:=get_flatK xg 2 l.toArray t (by simpa using h3)
  rw[getElem!_pos _ t h1] at h4;rw[h4];have h5:=zbi l t h3;simp only[List.getElem_toArray];have h6:t<(l.flatMap xg).length:=by rw[Qo];exact h3
  rw[List.getElem?_eq_getElem h6] at h5;have h7:=Option.some.inj h5;rw[h7];simp
theorem holdsV (hb:w.heap[g]? = some (.cells cur e (0,0))) (ht:cur.toList.take xs.length=xs):Holds id w g 0 xs.toArray:=by
 intro j hj;have hj':j<xs.length:=by simpa using hj
 refine⟨?_,by simp[World.frozen?,hb]⟩
 have h1:(cur.toList.take xs.length)[j]? = xs[j]?:=by rw[ht]
 rw[List.getElem?_take_of_lt hj'] at h1;simp only[World.cell?,hb,Nat.zero_add];simp only[Option.isSome_none,Bool.false_eq_true,if_false];rw[←Array.getElem?_toList,h1];simp[hj']
theorem zgv {os:Array Obj} {fr:Nat × Nat} (d:Array Value) (hb:w.heap[g]? = some (.cells cur e fr)) :
  (grow (putRow id (Sort.ahead w n) g 0 d) os).heap[g]? = some (.cells (putCells id 0 d cur) e fr):=by
 have hg:g<w.heap.size:=(Array.getElem?_eq_some_iff.1 hb).1;rw[heap_grow_old _ _ (by simpa using hg)]
 simp[putRow,mapBlock,Sort.ahead,Array.getElem?_modify,hb,onCells]
theorem zcr {os:Array Obj} (d:Array Value):w.grownBy (grow (putRow id (Sort.ahead w n) g 0 d) os) (some g):=by
 refine⟨rfl,rfl,rfl,by simp,λk hk hne=>?_⟩
 rw[heap_grow_old _ _ (by simpa using hk)]
 have:g≠k:=λe=>hne (by rw[e])
 simp[putRow,mapBlock,Sort.ahead,Array.getElem?_modify,this]
theorem zep (cur:Array Value) (xs:List Value) (h:xs.length≤cur.size):(putCells id 0 xs.toArray cur).toList.take xs.length=xs:=by
 apply List.ext_getElem?
 intro j
 by_cases hj:j<xs.length
 ·rw[List.getElem?_take_of_lt hj,Array.getElem?_toList]
  simp[putCells,hj,show j<cur.size by omega]
 ·rw[List.getElem?_take_eq_none (by omega),List.getElem?_eq_none (by omega)]
theorem zcs {base cap m:Nat} {os:Array Obj} {size:Nat} (hl:xs.length=m*size) (hbase:base≤g) (hb:w.heap[g]? = some (.cells cur e (0,0)))
 (h1:m≤cap) (h2:cap≤maxLen) (h3:cur.size=cap*size) :
  (grow (putRow id (Sort.ahead w n) g 0 xs.toArray) os).ownsRow base e size (.slice (some ⟨g,0,none⟩) m cap) m xs:=
 ⟨hl,.inr ⟨g,cap,_,rfl,hbase,zgv _ hb,h1,h2,by simp[putCells,h3],by
  rw[←hl]
  exact zep cur xs (by rw[hl,h3];exact Nat.mul_le_mul_right size h1)⟩⟩
def zjz (l:List zt):Prop:=∀i j,i<j→j<l.length→ltK l[j]! l[i]! = false
theorem znt (blk cap:Nat) (l:List zt) (w:World) (cur:Array Value) (hb:w.heap[blk]? = some (.cells cur 142 (0,0))) (ht:cur.toList.take (l.length*2)=l.flatMap xg) (hsz:l.length≤1000000) :
  Calls Tryz.prog 170 #[.slice (some ⟨blk,0,none⟩) l.length cap,.func (.func 89) #[] #[]] w λe w'=>
   e = .returned (.tuple #[])∧∃(l':List zt) (n:Nat) (os:Array Obj),l'.Perm l∧zjz l'∧w'=grow (putRow id (Sort.ahead w n) blk 0 (l'.flatMap xg).toArray) os:=by
 have eg:∀args w,(callFunc 89 args).run Tryz.prog w = .ok (.enter 89 args) w:=enters_of Tryz.func89 (by kernel_rfl) rfl
 have hH:HoldsK xg 2 w blk 0 l.toArray:=by
  unfold HoldsK;rw[zdk]
  exact holdsV hb (by rw[Qo];exact ht)
 have hblk:blk<w.heap.size:=(Array.getElem?_eq_some_iff.1 hb).1;have hcon:=AnyQ.slices_SortFunc Tryz.sortF 2 Tryz.isAgg142 Tryz.sizeOf142 xg (λ_=>rfl) (λx v hv=>by simp[xg] at hv;rcases hv with rfl|rfl <;> rfl) ordK swoK 89 #[] blk 0 cap l.toArray w eg
  (λm os dk _ x y=>zko x y _) hH hblk (by simp;omega)
 refine hcon.mono ?_;rintro e w' ⟨he,d',n,os,hp,hs,hw⟩;obtain⟨p1,p2,p3⟩:=hp;have hl:d'.toList.length=l.length:=by simpa using p1
 refine⟨he,d'.toList,n,os,?_,?_,?_⟩
 ·have q1:(d'.extract 0 l.toArray.size)=d':=by rw[←p1];simp
  have q2:(l.toArray.extract 0 l.toArray.size)=l.toArray:=by simp
  rw[q1,q2] at p3;simpa using p3
 ·intro i j hij hj
  have:=hs i j (Nat.zero_le _) hij (by simpa[hl] using hj)
  show ltK d'.toList[j]! d'.toList[i]! = false
  rw[Array.getElem!_toList,Array.getElem!_toList]
  exact this
 ·rw[hw]
  unfold sortWorldK putRowK;have:=zdk d'.toList;simp only[Array.toArray_toList] at this;rw[this]
theorem zk4 (p:Option Addr) (cap:Nat) (fv:Value) (W:World):Calls Tryz.prog 170 #[.slice p 0 cap,fv] W λe w'=>e = .returned (.tuple #[])∧w'=W:=
 AnyF.slices_SortFunc_none Tryz.sortF p cap fv W
def OrdRow (base:Nat) (w':World) (v:Value) (m:List (zt × Nat)) (l:List zt):Prop:=zj0 base w' v l∧l.Perm (m.map (·.1))∧zjz l∧(v = .slice none 0 0↔l = [])
theorem zdt (Bm b:Nat) (m:List (zt × Nat)) (w:World) (hBm:Bm<w.heap.size) (hm:w.cell? ⟨Bm,0,none⟩=some (.map (some b))) (hown:yg w b jr Ul m) (hl:m.length≤1000000) :
  Calls Tryz.prog 169 #[.func (.func 171) #[] #[.pointer (some ⟨Bm,0,none⟩)]] w λe w'=>∃(v:Value) (ss:List zt),e = .returned v∧ss.Perm (m.map (·.1))∧w'.ownsRow w.heap.size 142 2 v ss.length (ss.flatMap xg)∧(v = .slice none 0 0↔ss = [])∧w.grownBy w' none:=by
 have h:=zkh Fence.wide 5 trivial trivial rfl (by omega) 171 #[.pointer (some ⟨Bm,0,none⟩)] trivial (enters_of Tryz.func171 (by kernel_rfl) rfl)
  (λxs=>xs.Perm (m.map (·.1))) m.length hl w (zez Fence.wide _ trivial rfl (by omega) Bm b m w hBm hm hown)
 exact(callsIn_wide.1 h).mono λe w' ⟨v,ss,h1,h2,h3,h4,h5⟩=>⟨v,ss,h1,h2,h3,h4,zb1 h5⟩
set_option maxRecDepth 100000 in
theorem zjg (Bm b:Nat) (m:List (zt × Nat)) (w:World) (hBm:Bm<w.heap.size) (hm:w.cell? ⟨Bm,0,none⟩=some (.map (some b))) (hown:yg w b jr Ul m) (hl:m.length≤1000000) :
  Calls Tryz.prog 87 #[.func (.func 171) #[] #[.pointer (some ⟨Bm,0,none⟩)],.func (.func 89) #[] #[]] w
   λe w'=>∃v l,e = .returned v∧OrdRow w.heap.size w' v m l∧w.grownBy w' none:=by
 have HC:=zd (zdt Bm b m w hBm hm hown hl);have hnd:=hown.nodup;clear hm hown
 go_enter Tryz.func87,Tryz.ntmps87
 go_wp2_with (go_at_call 169;refine HC.out.mono ?_;rintro e w1 ⟨v,ss,rfl,hp,hrow,hnil,hg⟩;have HP:=zd (And.intro hp (And.intro hrow (And.intro hnil hg)));clear hp hrow hnil hg)
 obtain⟨hp,hrow,hnil,hg⟩:=HP.out;have hlen:ss.length≤1000000:=by rw[hp.length_eq];simpa using hl
 rcases hrow.2 with ⟨rfl,hz⟩|⟨g,cap,cur,rfl,hbase,hgb,r1,r2,r3,r4⟩
 ·have hss:ss = []:=List.eq_nil_of_length_eq_zero hz
  subst hss
  go_wp2_with (go_at_call 170;refine(zk4 none 0 _ _).mono ?_;rintro e w2 ⟨rfl,rfl⟩)
  go_ret
  exact⟨_,[],rfl,⟨hrow,hp,λi j h1 h2=>by simp at h2,by simp⟩,hg⟩
 ·have HS:=zd (znt g cap ss w1 cur hgb r4 hlen)
  have HH:=zd (And.intro hbase (And.intro hgb (And.intro r1 (And.intro r2 (And.intro r3 (And.intro hnil (And.intro hg hp)))))));clear hbase hgb r1 r2 r3 r4 hnil hg hp hrow HP
  go_wp2_with (go_at_call 170;refine HS.out.mono ?_;rintro e w2 ⟨rfl,l',n,os,hp2,ho2,rfl⟩;have HZ:=zd (And.intro hp2 ho2);clear hp2 ho2)
  go_ret
  obtain⟨hbase,hgb,r1,r2,r3,hnil,hg,hp⟩:=HH.out;obtain⟨hp2,ho2⟩:=HZ.out;refine⟨_,l',rfl,⟨?_,hp2.trans hp,ho2,?_⟩,zbj hg (zcr _) (λk hk=>by cases hk;exact hbase)⟩
  ·unfold zj0
   rw[hp2.length_eq]
   exact zcs (by rw[Qo,hp2.length_eq]) hbase hgb r1 r2 r3
  ·constructor
   ·intro h;cases h
   ·intro h;subst h
    have:ss = []:=hp2.symm.eq_nil;have:=hnil.2 this
    cases this
end Go.Proofs.YtbcbhlfjgobejaaGreat
