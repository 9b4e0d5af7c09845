/- slices.Collect over the keys of a map whose keys are ids. Conditions: none, or as the theorems say. -/
import Derived.Test.YtjfelfjobeeenaaGreatN16
import Derived.RangeFuncNested
import Derived.RangeFuncLeaves
import Derived.Shelf.Abstract
import Derived.WalkKit
import Derived.OwnWalkIn
import Derived.TacticsInMore
import Derived.RegionIn
import Derived.LoopNIn
import Derived.LoopIn
import Derived.Maps.OwnIn
import Derived.Maps.AppendAt
import Derived.Shelf.SlLaysF0
import Derived.Ground.SlsfProg
import Derived.Shelf.SlGeneric
import Derived.Test.YtjfelfjobeeenaaGreatProg
import Derived.Test.YtjfelfjobeeenaaGreatN18
import Derived.Sort.OwnSorted
import Derived.Sort.Walk0
import Derived.Shelf.SlSortCmp.NoneTotal
namespace Go.Sf
set_option maxHeartbeats 200000000
set_option linter.unusedVariables false
set_option linter.unusedSimpArgs false
open Go.RowKit Go.MapKept
section
variable {P : Program} {K V : Type} [DecidableEq K] {ek : K → Value} {ev : V → Value} (w : World) {F : Fence} {nF : Nat} {ops : Array Oper} {rest : List Oper} {o : Oper} {a : Act} {Q : Exit → Act → World → Prop}
omit [DecidableEq K] in
theorem za1 (hg:o.guard=none) (x:Operand) (t:TypeId) (hop:o.op=Op.range t x) {kt et:TypeId} (ht:P.underlying t=some (.map kt et)) (b:Nat) (m:List (K × V)) (hx:a.eval x = .map (some b)) (h:zw w b ek ev m)
  (hK:∀w',ut w' w.heap.size b ek ev m (fun _=>false)→w.grownBy w' none→w'.heap.size=w.heap.size+1→wpListIn F nF P ops Q rest (a.put o.dst (.pointer (some ⟨w.heap.size,0,none⟩))) w'):wpListIn F nF P ops Q (o :: rest) a w:=by
 refine wpListIn_plain hg fun K' hK'=>?_
 obtain⟨w',hrun,r1,r2,r3⟩:=h.range ht;unfold Oper.wpIn;refine⟨by simp[Oper.about,hop],?_⟩
 rw[Oper.semAt_plain F _ _ (by rw[hop];intro c hc';cases hc')]
 simp[execOp,hop,hx,hrun,Result.andThen]
 exact hK' _ _ (hK w' r1 r2 r3)
theorem zbp (hg:o.guard=none) (it:Operand) (hop:o.op=Op.next it false) (inj:∀a b,ek a=ek b→a=b) (r b:Nat) (m:List (K × V)) (seen:K→Bool) (hit:a.eval it = .pointer (some ⟨r,0,none⟩)) (h:ut w r b ek ev m seen)
  (hDone:zf4 m seen→wpListIn F nF P ops Q rest (a.put o.dst (.tuple #[.bool false])) w)
  (hMore:∀k v w',Came P w w' r b ek ev m seen k v→wpListIn F nF P ops Q rest (a.put o.dst (.tuple #[.bool true,ek k,ev v])) w'):wpListIn F nF P ops Q (o :: rest) a w:=by
 refine wpListIn_plain hg fun K' hK'=>?_
 unfold Oper.wpIn;refine⟨by simp[Oper.about,hop],?_⟩
 rw[Oper.semAt_plain F _ _ (by rw[hop];intro c hc';cases hc')]
 rcases h.next (P:=P) inj o.type with ⟨h0,hrun⟩|⟨k,v,w',r1,r2,hrun,r3,r4,r5,r6⟩
 ·simp[execOp,hop,hit,hrun,Result.andThen]
  exact hK' _ _ (hDone h0)
 ·simp[execOp,hop,hit,hrun,Result.andThen]
  exact hK' _ _ (hMore k v w' ⟨r1,r2,r3,r4,r5,r6⟩)
end
section
variable {K V : Type} {ek : K → Value} {ev : V → Value} {w w' : World} {r b : Nat} {m : List (K × V)} {seen : K → Bool}
theorem ut.walks (h:ut w r b ek ev m seen) (hk:KeepsWalks w w'):ut w' r b ek ev m seen:=by
 obtain⟨es,clock,sn,hb,hs,he,hr,h2⟩:=h
 exact⟨es,clock,sn,hk.same b _ hb rfl,hs,he,hk.same r _ hr rfl,h2⟩
theorem ut.walk (h:ut w r b ek ev m seen):∃o:Obj,w.heap[r]? = some o∧o.isWalk=true:=by
 obtain⟨es,clock,sn,hb,hs,he,hr,h2⟩:=h
 exact⟨_,hr,rfl⟩
theorem zw.below {n:Nat} (h:zw w b ek ev m) (hb:b<n) (hw:Below n w w'):zw w' b ek ev m:=by
 obtain⟨es,clock,h1,hs,he⟩:=h
 exact⟨es,clock,(hw.block b hb).trans h1,hs,he⟩
end
structure Xx {K V:Type} (m:List (K × V)) (seen:K→Bool) (ss:List K):Prop where
 nodup:ss.Nodup
 sub:∀x∈ss,x∈m.map (·.1)
 iff:∀x,seen x=true↔x∈ss
theorem Xx.start {K V:Type} (m:List (K × V)):Xx m (fun _=>false) []:=⟨by simp,by simp,by simp⟩
theorem Xx.step {K V:Type} [DecidableEq K] {m:List (K × V)} {seen:K→Bool} {ss:List K} (h:Xx m seen ss) {k:K} {v:V} (hm:(k,v)∈m) (hn:seen k=false):Xx m (fun x=>seen x || decide (x=k)) (ss ++ [k]):=by
 have hk:¬k∈ss:=fun hk=>by have:=(h.iff k).2 hk;rw[hn] at this;cases this
 refine⟨List.nodup_append.2 ⟨h.nodup,by simp,fun x hx y hy e=>?_⟩,fun x hx=>?_,fun x=>?_⟩
 ·simp only[List.mem_singleton] at hy;subst hy;subst e;exact hk hx
 ·rcases List.mem_append.1 hx with hx|hx
  ·exact h.sub x hx
  ·simp only[List.mem_singleton] at hx;subst hx;exact List.mem_map.2 ⟨_,hm,rfl⟩
 ·simp only[Bool.or_eq_true,decide_eq_true_eq,List.mem_append,List.mem_singleton]
  rw[h.iff]
theorem Xx.perm {K V:Type} {m:List (K × V)} {seen:K→Bool} {ss:List K} (h:Xx m seen ss) (hnd:(m.map (·.1)).Nodup) (ha:zf4 m seen):ss.Perm (m.map (·.1)):=
 (List.perm_ext_iff_of_nodup h.nodup hnd).2 fun x=>⟨h.sub x,fun hx=>by
  obtain⟨p,hp,rfl⟩:=List.mem_map.1 hx
  exact(h.iff p.1).1 (ha p hp)⟩
theorem Xx.lt {K V:Type} [DecidableEq K] {m:List (K × V)} {seen:K→Bool} {ss:List K} (h:Xx m seen ss) (hnd:(m.map (·.1)).Nodup) {k:K} {v:V} (hm:(k,v)∈m) (hn:seen k=false):ss.length<m.length:=by
 have h2:=h.step hm hn;have h3:(ss ++ [k]).length≤(m.map (·.1)).length:=h2.nodup.length_le_of_subset h2.sub
 simp at h3;omega
end Go.Sf
namespace Go.Proofs.YtjfelfjobeeenaaGreat
open Go.RowKit Go.Sf Go.Shelf Go.Maps
attribute [local go_sem] Oper.semAt_some
set_option maxRecDepth 100000 in
theorem idKeys1 (F:Fence) (n:Nat) (h10:F.fn 142) (hro:F.round=none) (hn:1≤n) (l Bm b:Nat) (m:List (ID × xd)) (J Jx:List ID→World→Prop)
  (hY:∀pre x W,J pre W→pre.length<m.length→YieldAt F (n-1) Tryz.prog l #[zx x] W fun e W'=>(e = .returned (.bool true)∧J (pre ++ [x]) W'∧KeepsWalks W W')∨(e = .returned (.bool false)∧Jx (pre ++ [x]) W'))
  (W:World) (hJ:AbidesFrom W.heap.size J) (hm:W.cell? ⟨Bm,0,none⟩=some (.map (some b))) (hown:zw W b zx xw m) (h0:J [] W) :
  CallsIn F n Tryz.prog 142 #[.func (.yield l) #[] #[],.pointer (some ⟨Bm,0,none⟩)] W fun e W'=>(∃v,e = .returned v)∧((∃xs:List ID,xs.Perm (m.map (·.1))∧J xs W')∨(∃pre:List ID,True∧Jx pre W')):=by
 have hnd:=hown.nodup;refine callsIn_of_wp Tryz.func142 rfl h10 ?_ hro;simp only[Tryz.ntmps142,List.size_toArray,List.length_cons,List.length_nil,Nat.reduceAdd,Nat.reduceSub,Array.replicate_succ,Array.replicate_zero,List.push_toArray,List.append_toArray,List.nil_append,List.cons_append]
 gi_wp2_with (gi_at_range;refine za1 _ rfl _ _ rfl Tryz.underlying119 b m rfl hown ?_;intro w0 hit hg0 hs0)
 go_frame
 gi_loopw [3] (fun _ wr=>∃(seen:ID→Bool) (ss:List ID),ut wr W.heap.size b zx xw m seen∧Xx m seen ss∧J ss wr) (fun _ wr=>zfe wr W.heap.size b)
 case atStart=>exact⟨_,[],hit,Xx.start m,hJ [] W w0 none h0 hg0 (fun r e=>by cases e)⟩
 case round=>
  obtain⟨seen,ss,hit,hC,hJs⟩:=hrel
  gi_wp2_with (gi_at_next;refine zbp _ rfl _ rfl Vb W.heap.size b m seen rfl hit ?_ ?_)
  ·intro hall
   gi_wp2
   go_end0
   exact⟨⟨_,rfl⟩,.inl ⟨ss,hC.perm hnd hall,hJs⟩⟩
  ·rintro⟨kk,kv⟩ v w2 hc
   have hJ2:=hJ ss wr w2 (some W.heap.size) hJs hc.grown (fun r e=>by cases e;exact⟨Nat.le_refl _,hit.walk⟩)
   have hJ3:=hJ ss w2 (w2.alloc (.cells #[.string kk,.int .i64 kv] 54)) none hJ2 (zc _ _ _) (fun r e=>by cases e)
   have hlt:=hC.lt hnd hc.mem hc.new;obtain⟨fn,tmps,assign,body,hy,hR⟩:=hY ss ⟨kk,kv⟩ _ hJ3 hlt;have hen:=hc.entry;simp only[zx] at hy hen ⊢;have hit2:=hc.iter;have hleft:=hit2.left
   gi_wp2
   refine hR.mono ?_;rintro e W3 (⟨rfl,hJ4,hk3⟩|⟨rfl,hJx3⟩)
   ·have hit3:=(ut.kept hit2 (zc w2 (.cells #[.string kk,.int .i64 kv] 54) none) (by simp) (by simp)).walks hk3
    gi_wp2
    go_roundw
    case rel=>exact⟨_,ss ++ [⟨kk,kv⟩],hit3,hC.step hc.mem hc.new,hJ4⟩
    case measure=>
     rw[hit3.left,hit.left]
     exact Vd hc.mem hc.new
   ·gi_wp2
    refine bodyPost_ret (results_none rfl _ _ _) rfl ?_
    exact⟨⟨_,rfl⟩,.inr ⟨_,trivial,hJx3⟩⟩
theorem zkd (F:Fence) (n:Nat) (h10:F.fn 142) (hro:F.round=none) (hn:1≤n) (Bm b:Nat) (m:List (ID × xd)) (w:World) (hBm:Bm<w.heap.size) (hm:w.cell? ⟨Bm,0,none⟩=some (.map (some b))) (hown:zw w b zx xw m) :
  SeqStopsK F n Tryz.prog 142 #[.pointer (some ⟨Bm,0,none⟩)] (fun x:ID=>#[zx x]) KeepsWalks (fun xs=>xs.Perm (m.map (·.1))) (fun _=>True) m.length w:=fun l J Jx W hW hJ _ hY h0=>
 idKeys1 F n h10 hro hn l Bm b m J Jx hY W hJ ((hW.cell (p:=⟨Bm,0,none⟩) hBm).trans hm) (hown.below hown.lt hW) h0
theorem id_new (w:World) (x:ID) (t:TypeId):∀j u,(ya x)[j]? = some u→(w.alloc (.cells #[.string x.key,.int .i64 x.zvz] t)).cell? ((⟨w.heap.size,0,none⟩:Addr).add j)=some u:=by
 intro j u hj
 match j,hj with
 | 0,hj=>simp[ya] at hj;subst hj;simp[Addr.add,go_sem]
 | 1,hj=>simp[ya] at hj;subst hj;simp[Addr.add,go_sem]
 | j+2,hj=>simp[ya] at hj
set_option maxRecDepth 100000 in
theorem ztr (F:Fence) (n:Nat) (h11:F.fn 177) (hro:F.round=none) (hn:2≤n) (g:Nat) (lb:Array Value) (hFg:F.fn g) (eg:∀args w,(callFunc g args).run Tryz.prog w = .ok (.enter g args) w)
  (S:List ID→Prop) (N:Nat) (hN:N≤1000000) (w:World) (hseq:SeqStopsK F (n-1) Tryz.prog g lb (fun x:ID=>#[zx x]) KeepsWalks S (fun _=>True) N w) :
  CallsIn F n Tryz.prog 177 #[.slice none 0 0,.func (.func g) #[] lb] w fun e w'=>∃(v:Value) (ss:List ID),e = .returned v∧S ss∧w'.ownsRow w.heap.size 54 2 v ss.length (ss.flatMap ya)∧(v = .slice none 0 0↔ss = [])∧Below w.heap.size w w':=by
 have h1:1≤n:=by omega
 obtain⟨i0,hi,hz0,hz1,hz2⟩:=info_parts zot;refine callsIn_of_wp_marks Tryz.func177 rfl h11 ?_ hro;simp only[Tryz.ntmps177,List.size_toArray,List.length_cons,List.length_nil,Nat.reduceAdd,Nat.reduceSub,Array.replicate_succ,Array.replicate_zero,List.push_toArray,List.append_toArray,List.nil_append,List.cons_append]
 gi_wp2
 have bS:=Boxed.new w 66 (.slice none 0 0);have hB0:Below w.heap.size w (w.alloc (.cells #[.slice none 0 0] 66)):=(Below.refl _ w).alloc (Nat.le_refl _) _;have hsz:(w.alloc (.cells #[.slice none 0 0] 66)).heap.size=w.heap.size+1:=by simp
 generalize w.alloc (.cells #[.slice none 0 0] 66)=W0 at *;refine wpIn_rangeFunc_ownH hro h1 (gf:=g) (lb:=lb) rfl hFg eg hseq walksK_t walksK_b hB0 (fun _=>rfl)
  (fun pre W=>(∃v,Boxed W w.heap.size 66 v∧W.ownsRow w.heap.size 54 2 v pre.length (pre.flatMap ya)∧(v = .slice none 0 0↔pre = []))∧Below w.heap.size w W)
  (fun _ _ _=>False)
  (OwnFrom.and (Own.from (holdsRow_own w.heap.size w.heap.size 66 54 2 (fun pre:List ID=>pre.length) (fun pre=>pre.flatMap ya) (fun pre v=>v = .slice none 0 0↔pre = [])) _) (ownFrom_below (Nat.le_refl _) (by omega)))
  (fun _ _ _ _ _ hs _ _=>hs)
  ⟨⟨_,bS,World.ownsRow_nil _ _ _ _,by simp⟩,hB0⟩
  (fun x a' W=>∃Bx,w.heap.size<Bx∧W.heap[Bx]? = some (.cells #[.string x.key,.int .i64 x.zvz] 54 (0,0))∧a' = { tmps:=#[.slice none 0 0,.func (.func g) #[] lb,.pointer (some ⟨w.heap.size,0,none⟩),undef,.slice none 0 0,.pointer (some ⟨Bx,0,none⟩),.func (.func g) #[] lb,zx x,undef,undef,undef,undef,undef],defers:=[] })
  (fun x a' _ X Y row hs hg hr=>by
   obtain⟨Bx,h1,h2,h3⟩:=hs;refine⟨Bx,h1,(hg.block Bx (Array.getElem?_eq_some_iff.1 h2).1 (fun e=>?_)).trans h2,h3⟩
   obtain⟨_,o,ho,hc⟩:=hr Bx e.symm;rw[h2] at ho;cases ho;cases hc)
  ?assign ?body ?done ?stop
 case assign=>
  rintro l pre ⟨xk,xv⟩ W K ⟨⟨v,bS1,hrow,hnil⟩,hB1⟩ hK;simp only[zx]
  gi_wp2
  exact hK _ _ ((KeepsOthers.alloc _ _).from _) (KeepsWalks.alloc _ _) ⟨⟨v,bS1.alloc _,hrow.alloc _,hnil⟩,hB1.alloc hB1.size _⟩ ⟨W.heap.size,bS1.lt,World.alloc_heap_new W _,rfl⟩
 case body=>
  rintro l pre ⟨xk,xv⟩ a' W hl ⟨r,hr⟩ ⟨⟨v,bS1,hrow,hnil⟩,hB1⟩ ⟨Bx,hBx,bX,rfl⟩ hlt;have cS:=bS1.cell;have fS:=bS1.frozen;have c0:W.cell? ⟨Bx,0,none⟩=some (.string xk):=(zh bX 0).trans rfl;have c1:W.cell? ⟨Bx,1,none⟩=some (.int .i64 xv):=(zh bX 1).trans rfl;simp only[zx]
  gi_wp2_with (gi_at_builtin;refine wpListIn_append_own _ rfl _ _ 66 rfl w.heap.size 54 i0 (.agg #[.string { data:=#[] },.int .i64 0]) 2 24 Tryz.underlying66 hi hz0 hz1 hz2 rfl (by decide) _ _ _ rfl (hrow.alloc _) ⟨W.heap.size,0,none⟩ 1 1 (ya ⟨xk,xv⟩) rfl rfl (id_new W ⟨xk,xv⟩ _) (by simp[ya,Value.oneCell']) (by unfold maxLen;omega) (by omega) (by have:=hB1.size;simp;omega) ?_;intro v' w1 hown' hgrow _;obtain⟨g',cap',rfl⟩:=ownsRow_succ hown';obtain⟨hv1,hv2,hr2,hk2,hb2⟩:=bS1.appended (by decide) hrow hB1.size (Nat.le_refl _) hown' hgrow;have hc1:=hv1.cell;have hf1:=hv1.frozen)
  exact⟨hk2.from _,hk2.walks,⟨_,hv2,by simpa[List.flatMap_append] using hr2,by simp⟩,hB1.trans hb2⟩
 case done=>
  rintro D zs W hD hS ⟨⟨v,bS1,hrow,hnil⟩,hB1⟩ hK;have cS:=bS1.cell
  gi_wp2
  refine⟨by simp,.inl ⟨_,_,rfl,run_takeDeferred hK,?_⟩⟩
  exact⟨_,results_tmp rfl _ _ _,v,zs,rfl,hS,ownsRow_putObj hrow _ hK rfl,hnil,hB1.trans (belowK_b (w:=w) (Nat.le_refl _) W D _ _ (by omega) hK rfl rfl)⟩
 case stop=>
  rintro D c pre W _ _ h _
  exact h.elim
theorem zit (F:Fence) (n:Nat) (h8:F.fn 140) (h11:F.fn 177) (hro:F.round=none) (hn:3≤n) (g:Nat) (lb:Array Value) (hFg:F.fn g) (eg:∀args w,(callFunc g args).run Tryz.prog w = .ok (.enter g args) w)
  (S:List ID→Prop) (N:Nat) (hN:N≤1000000) (w:World) (hseq:SeqStopsK F (n-1-1) Tryz.prog g lb (fun x:ID=>#[zx x]) KeepsWalks S (fun _=>True) N w) :
  CallsIn F n Tryz.prog 140 #[.func (.func g) #[] lb] w fun e w'=>∃(v:Value) (ss:List ID),e = .returned v∧S ss∧w'.ownsRow w.heap.size 54 2 v ss.length (ss.flatMap ya)∧(v = .slice none 0 0↔ss = [])∧Below w.heap.size w w':=by
 have h1:1≤n:=by omega
 refine callsIn_of_wp Tryz.func140 rfl h8 ?_ hro;simp only[Tryz.ntmps140,List.size_toArray,List.length_cons,List.length_nil,Nat.reduceAdd,Nat.reduceSub,Array.replicate_succ,Array.replicate_zero,List.push_toArray,List.append_toArray,List.nil_append,List.cons_append]
 gi_wp2_with (gi_at_call 177;refine(ztr F (n-1) h11 hro (by omega) g lb hFg eg S N hN _ hseq).mono ?_;rintro e w' ⟨v,ss,rfl,hS,hrow,hnil,hb⟩)
 go_ret
 exact⟨v,ss,rfl,hS,hrow,hnil,hb⟩
theorem ziw (mb:Option Nat) (W:World):Calls Tryz.prog 79 #[.map mb] W fun e w'=>
  e = .returned (.func (.func 142) #[] #[.pointer (some ⟨W.heap.size,0,none⟩)])∧w'=W.alloc (.cells #[.map mb] 119):=by
 have hmf:∀(fn:Fn) (first cap:Array Value) (w:World),(Instr.makeFunc fn first cap).run Tryz.prog w = .ok (.func fn first cap) w:=fun _ _ _ _=>rfl
 go_enter Tryz.func79,Tryz.ntmps79
 go_wp2
 go_ret
 exact⟨rfl,rfl⟩
end Go.Proofs.YtjfelfjobeeenaaGreat
namespace Go.Proofs
open Go.Shelf
def Tryz.sortF_ren:Go.Shelf.Ren:=⟨fun|6=>141|15=>179|14=>178|28=>201|29=>202|20=>193|21=>194|22=>195|23=>196|24=>197|25=>198|26=>199|27=>200|46=>225|47=>226|48=>227|49=>228|50=>229|57=>252|n=>n,fun|22=>66|24=>54|25=>149|3=>3|39=>188|0=>0|53=>224|55=>101|4=>4|46=>262|45=>261|50=>266|5=>5|9=>9|66=>283|70=>287|76=>303|77=>304|n=>n,fun|n=>n⟩
theorem Tryz.sortF:Go.Proofs.SlLaysF0.n6 Tryz.prog Tryz.sortF_ren:={
 mixed:=by kernel_rfl
 f6:=⟨Tryz.f141.name,by decide,Tryz.func141.trans (congrArg some (by kernel_rfl))⟩
 f14:=⟨Tryz.f178.name,by decide,Tryz.func178.trans (congrArg some (by kernel_rfl))⟩
 f15:=Tryz.func179.trans (congrArg some (by kernel_rfl))
 f20:=⟨Tryz.f193.name,by decide,Tryz.func193.trans (congrArg some (by kernel_rfl))⟩
 f21:=⟨Tryz.f194.name,by decide,Tryz.func194.trans (congrArg some (by kernel_rfl))⟩
 f22:=⟨Tryz.f195.name,by decide,Tryz.func195.trans (congrArg some (by kernel_rfl))⟩
 f23:=⟨Tryz.f196.name,by decide,Tryz.func196.trans (congrArg some (by kernel_rfl))⟩
 f24:=⟨Tryz.f197.name,by decide,Tryz.func197.trans (congrArg some (by kernel_rfl))⟩
 f25:=⟨Tryz.f198.name,by decide,Tryz.func198.trans (congrArg some (by kernel_rfl))⟩
 f26:=⟨Tryz.f199.name,by decide,Tryz.func199.trans (congrArg some (by kernel_rfl))⟩
 f27:=⟨Tryz.f200.name,by decide,Tryz.func200.trans (congrArg some (by kernel_rfl))⟩
 f28:=Tryz.func201.trans (congrArg some (by kernel_rfl))
 f29:=Tryz.func202.trans (congrArg some (by kernel_rfl))
 f46:=⟨Tryz.f225.name,by decide,Tryz.func225.trans (congrArg some (by kernel_rfl))⟩
 f47:=Tryz.func226.trans (congrArg some (by kernel_rfl))
 f48:=Tryz.func227.trans (congrArg some (by kernel_rfl))
 f49:=⟨Tryz.f228.name,by decide,Tryz.func228.trans (congrArg some (by kernel_rfl))⟩
 f50:=⟨Tryz.f229.name,by decide,Tryz.func229.trans (congrArg some (by kernel_rfl))⟩
 f57:=⟨Tryz.f252.name,by decide,Tryz.func252.trans (congrArg some (by kernel_rfl))⟩
 t0:=Tryz.underlying0
 a0:=Tryz.isAgg0
 z0:=Tryz.sizeOf0
 v0:=Tryz.zeroValue0
 t3:=Tryz.underlying3
 a3:=Tryz.isAgg3
 z3:=Tryz.sizeOf3
 v3:=Tryz.zeroValue3
 t4:=Tryz.underlying4
 a4:=Tryz.isAgg4
 z4:=Tryz.sizeOf4
 v4:=Tryz.zeroValue4
 t5:=Tryz.underlying5
 a5:=Tryz.isAgg5
 z5:=Tryz.sizeOf5
 v5:=Tryz.zeroValue5
 t9:=Tryz.underlying9
 a9:=Tryz.isAgg9
 z9:=Tryz.sizeOf9
 v9:=Tryz.zeroValue9
 t22:=Tryz.underlying66
 a22:=Tryz.isAgg66
 z22:=Tryz.sizeOf66
 v22:=Tryz.zeroValue66
 t25:=Tryz.underlying149
 a25:=Tryz.isAgg149
 z25:=Tryz.sizeOf149
 v25:=Tryz.zeroValue149
 t39:=Tryz.underlying188
 a39:=Tryz.isAgg188
 z39:=Tryz.sizeOf188
 v39:=Tryz.zeroValue188
 t45:=Tryz.underlying261
 a45:=Tryz.isAgg261
 z45:=Tryz.sizeOf261
 v45:=Tryz.zeroValue261
 t46:=Tryz.underlying262
 a46:=Tryz.isAgg262
 z46:=Tryz.sizeOf262
 v46:=Tryz.zeroValue262
 t50:=Tryz.underlying266
 a50:=Tryz.isAgg266
 z50:=Tryz.sizeOf266
 v50:=Tryz.zeroValue266
 t53:=Tryz.underlying224
 a53:=Tryz.isAgg224
 z53:=Tryz.sizeOf224
 v53:=Tryz.zeroValue224
 t55:=Tryz.underlying101
 a55:=Tryz.isAgg101
 z55:=Tryz.sizeOf101
 v55:=Tryz.zeroValue101
 t66:=Tryz.underlying283
 a66:=Tryz.isAgg283
 z66:=Tryz.sizeOf283
 v66:=Tryz.zeroValue283
 t70:=Tryz.underlying287
 a70:=Tryz.isAgg287
 z70:=Tryz.sizeOf287
 v70:=Tryz.zeroValue287
 t76:=Tryz.underlying303
 a76:=Tryz.isAgg303
 z76:=Tryz.sizeOf303
 v76:=Tryz.zeroValue303
 t77:=Tryz.underlying304
 a77:=Tryz.isAgg304
 z77:=Tryz.sizeOf304
 v77:=Tryz.zeroValue304 }
end Go.Proofs
namespace Go.Proofs.YtjfelfjobeeenaaGreat
open Go.RowKit Go.Sf Go.Shelf Go.Maps Go.Sort Go.Lib
instance:Inhabited ID:=⟨⟨⟨#[]⟩,0⟩⟩
def ltI (a b:ID):Bool:=decide (zku a b<0)
theorem jx (a b:ID):ltI a b=true↔a.key.data.toList<b.key.data.toList∨(a.key=b.key∧a.zvz<b.zvz):=by
 unfold ltI zku zcd Vs;have e:Op.bytesLess a.key.toList b.key.toList=decide (a.key.data.toList<b.key.data.toList):=by
  rw[bytesLess_eq];rw[Lib.toList_data,Lib.toList_data]
 rw[e]
 by_cases h1:a.key.data.toList<b.key.data.toList
 ·simp[h1]
 ·by_cases h2:a.key=b.key
  ·simp[h2]
   by_cases h3:a.zvz<b.zvz
   ·simp[h3]
   ·by_cases h4:b.zvz<a.zvz <;> simp[h3,h4]
  ·simp[h1,h2]
theorem zp7 (a b:ByteArray) (h:a.data.toList=b.data.toList):a=b:=by
 cases a;cases b;simp at h;subst h;rfl
theorem zga (a b:ByteArray):a.data.toList<b.data.toList∨a=b∨b.data.toList<a.data.toList:=by
 rcases Std.lt_trichotomy a.data.toList b.data.toList with h|h|h
 ·exact Or.inl h
 ·exact Or.inr (Or.inl (zp7 _ _ h))
 ·exact Or.inr (Or.inr h)
theorem swoI:SWO (ltOf zku) where
 irrefl x:=by
  have n:¬ltI x x=true:=by
   rw[jx];rintro(h|⟨_,h⟩)
   ·exact absurd h Std.lt_irrefl
   ·omega
  simpa[ltOf,ltI] using n
 trans x y z h1 h2:=by
  have h1:=(jx x y).1 h1;have h2:=(jx y z).1 h2;refine(jx x z).2 ?_
  rcases h1 with h1|⟨e1,h1⟩ <;> rcases h2 with h2|⟨e2,h2⟩
  ·exact Or.inl (Std.lt_trans h1 h2)
  ·rw[←e2];exact Or.inl h1
  ·rw[e1];exact Or.inl h2
  ·exact Or.inr ⟨e1.trans e2,by omega⟩
 ntrans x y z h1 h2:=by
  have n1:¬ltI x y=true:=by unfold ltI;unfold ltOf at h1;rw[h1];decide
  have n2:¬ltI y z=true:=by unfold ltI;unfold ltOf at h2;rw[h2];decide
  have n3:¬ltI x z=true:=by
   rw[jx] at n1 n2 ⊢;intro h
   rcases zga x.key y.key with a|a|a
   ·exact n1 (Or.inl a)
   ·rcases zga y.key z.key with b|b|b
    ·exact n2 (Or.inl b)
    ·rcases h with h|⟨e,h⟩
     ·rw[a,b] at h;exact absurd h Std.lt_irrefl
     ·by_cases c:x.zvz<y.zvz
      ·exact n1 (Or.inr ⟨a,c⟩)
      ·exact n2 (Or.inr ⟨b,by omega⟩)
    ·rcases h with h|⟨e,h⟩
     ·rw[a] at h;exact absurd (Std.lt_trans h b) Std.lt_irrefl
     ·rw[←e,a] at b;exact absurd b Std.lt_irrefl
   ·rcases zga y.key z.key with b|b|b
    ·exact n2 (Or.inl b)
    ·rcases h with h|⟨e,h⟩
     ·rw[b] at a;exact absurd (Std.lt_trans h a) Std.lt_irrefl
     ·rw[b,e] at a;exact absurd a Std.lt_irrefl
    ·have c:=Std.lt_trans b a
     rcases h with h|⟨e,h⟩
     ·exact absurd (Std.lt_trans h c) Std.lt_irrefl
     ·rw[e] at c;exact absurd c Std.lt_irrefl
  simpa[ltOf,ltI] using n3
theorem zc9:∀(l:List ID) (t:Nat),t<l.length*2→(l.flatMap ya)[t]? = some ((ya (l[t / 2]!))[t%2]!)
 | [],t,h=>by simp at h
 | x :: r,0,h=>rfl
 | x :: r,1,h=>rfl
 | x :: r,t+2,h=>by
  have ih:=zc9 r t (by simp at h;omega)
  have e1:(t+2) / 2=t / 2+1:=by omega
  have e2:(t+2)%2=t%2:=by omega
  rw[e1,e2];have:(x :: r).flatMap ya=Value.string x.key :: Value.int .i64 x.zvz :: r.flatMap ya:=rfl;rw[this];simpa using ih
theorem za9 (l:List ID):(l.flatMap ya).length=l.length*2:=by
 induction l with
 | nil=>rfl
 | cons x r ih=>simp[ya,ih];omega
theorem zio (l:List ID):flatK ya 2 l.toArray=(l.flatMap ya).toArray:=by
 apply Array.ext
 ·rw[size_flatK,List.size_toArray,List.size_toArray,za9]
 ·intro t h1 h2
  have h3:t<l.length*2:=by simpa using h1
  have h4:=get_flatK ya 2 l.toArray t (by simpa using h3)
  rw[getElem!_pos _ t h1] at h4;rw[h4];have h5:=zc9 l t h3;simp only[List.getElem_toArray];have h6:t<(l.flatMap ya).length:=by rw[za9];exact h3
  rw[List.getElem?_eq_getElem h6] at h5;have h7:=Option.some.inj h5;rw[h7];simp
theorem holdsV {w:World} {g:Nat} {cur:Array Value} {e:TypeId} {xs:List Value} (hb:w.heap[g]? = some (.cells cur e (0,0))) (ht:cur.toList.take xs.length=xs):Holds id w g 0 xs.toArray:=by
 intro j hj;have hj':j<xs.length:=by simpa using hj
 refine⟨?_,by simp[World.frozen?,hb]⟩
 have h1:(cur.toList.take xs.length)[j]? = xs[j]?:=by rw[ht]
 rw[List.getElem?_take_of_lt hj'] at h1;simp only[World.cell?,hb,Nat.zero_add];simp only[Option.isSome_none,Bool.false_eq_true,if_false];rw[←Array.getElem?_toList,h1];simp[hj']
theorem zkc {w:World} {g n:Nat} {os:Array Obj} {cur:Array Value} {e:TypeId} {fr:Nat × Nat} (d:Array Value) (hb:w.heap[g]? = some (.cells cur e fr)) :
  (grow (putRow id (Sort.ahead w n) g 0 d) os).heap[g]? = some (.cells (putCells id 0 d cur) e fr):=by
 have hg:g<w.heap.size:=(Array.getElem?_eq_some_iff.1 hb).1;rw[heap_grow_old _ _ (by simpa using hg)]
 simp[putRow,mapBlock,Sort.ahead,Array.getElem?_modify,hb,onCells]
theorem zax {w:World} {g n:Nat} {os:Array Obj} (d:Array Value):w.grownBy (grow (putRow id (Sort.ahead w n) g 0 d) os) (some g):=by
 refine⟨rfl,rfl,rfl,by simp,fun k hk hne=>?_⟩
 rw[heap_grow_old _ _ (by simpa using hk)]
 have:g≠k:=fun e=>hne (by rw[e])
 simp[putRow,mapBlock,Sort.ahead,Array.getElem?_modify,this]
theorem zh2 (cur:Array Value) (xs:List Value) (h:xs.length≤cur.size):(putCells id 0 xs.toArray cur).toList.take xs.length=xs:=by
 apply List.ext_getElem?
 intro j
 by_cases hj:j<xs.length
 ·rw[List.getElem?_take_of_lt hj,Array.getElem?_toList]
  simp[putCells,hj,show j<cur.size by omega]
 ·rw[List.getElem?_take_eq_none (by omega),List.getElem?_eq_none (by omega)]
theorem zay {w:World} {base g cap n m:Nat} {e:TypeId} {os:Array Obj} {cur:Array Value} {xs:List Value} {size:Nat} (hl:xs.length=m*size) (hbase:base≤g) (hb:w.heap[g]? = some (.cells cur e (0,0)))
  (h1:m≤cap) (h2:cap≤maxLen) (h3:cur.size=cap*size) :
  (grow (putRow id (Sort.ahead w n) g 0 xs.toArray) os).ownsRow base e size (.slice (some ⟨g,0,none⟩) m cap) m xs:=
 ⟨hl,.inr ⟨g,cap,_,rfl,hbase,zkc _ hb,h1,h2,by simp[putCells,h3],by
  rw[←hl]
  exact zh2 cur xs (by rw[hl,h3];exact Nat.mul_le_mul_right size h1)⟩⟩
def zbr (l:List ID):Prop:=∀i j,i<j→j<l.length→ltI l[j]! l[i]! = false
theorem zjr (blk cap:Nat) (l:List ID) (w:World) (cur:Array Value) (hb:w.heap[blk]? = some (.cells cur 54 (0,0))) (ht:cur.toList.take (l.length*2)=l.flatMap ya) (hsz:l.length≤1000000) :
  Calls Tryz.prog 141 #[.slice (some ⟨blk,0,none⟩) l.length cap,.func (.func 80) #[] #[]] w fun e w'=>
   e = .returned (.tuple #[])∧∃(l':List ID) (n:Nat) (os:Array Obj),l'.Perm l∧zbr l'∧w'=grow (putRow id (Sort.ahead w n) blk 0 (l'.flatMap ya).toArray) os:=by
 have eg:∀args w,(callFunc 80 args).run Tryz.prog w = .ok (.enter 80 args) w:=enters_of Tryz.func80 (by kernel_rfl) rfl
 have hH:HoldsK ya 2 w blk 0 l.toArray:=by
  unfold HoldsK;rw[zio]
  exact holdsV hb (by rw[za9];exact ht)
 have hblk:blk<w.heap.size:=(Array.getElem?_eq_some_iff.1 hb).1;have hcon:=AnyQ.slices_SortFunc Tryz.sortF 2 Tryz.isAgg54 Tryz.sizeOf54 ya (fun _=>rfl) (fun x v hv=>by simp[ya] at hv;rcases hv with rfl|rfl <;> rfl) zku swoI 80 #[] blk 0 cap l.toArray w eg
  (fun m os dk _ x y=>zrz x y _) hH hblk (by simp;omega)
 refine hcon.mono ?_;rintro e w' ⟨he,d',n,os,hp,hs,hw⟩;obtain⟨p1,p2,p3⟩:=hp;have hl:d'.toList.length=l.length:=by simpa using p1
 refine⟨he,d'.toList,n,os,?_,?_,?_⟩
 ·have q1:(d'.extract 0 l.toArray.size)=d':=by rw[←p1];simp
  have q2:(l.toArray.extract 0 l.toArray.size)=l.toArray:=by simp
  rw[q1,q2] at p3;simpa using p3
 ·intro i j hij hj
  have:=hs i j (Nat.zero_le _) hij (by simpa[hl] using hj)
  show ltI d'.toList[j]! d'.toList[i]! = false
  rw[Array.getElem!_toList,Array.getElem!_toList]
  exact this
 ·rw[hw]
  unfold sortWorldK putRowK;have:=zio d'.toList;simp only[Array.toArray_toList] at this;rw[this]
theorem zhz (p:Option Addr) (cap:Nat) (fv:Value) (W:World):Calls Tryz.prog 141 #[.slice p 0 cap,fv] W fun e w'=>e = .returned (.tuple #[])∧w'=W:=
 AnyF.slices_SortFunc_none Tryz.sortF p cap fv W
def zf5 (base:Nat) (w':World) (v:Value) (m:List (ID × xd)) (l:List ID):Prop:=jl base w' v l∧l.Perm (m.map (·.1))∧zbr l∧(v = .slice none 0 0↔l = [])
theorem zh9 (Bm b:Nat) (m:List (ID × xd)) (w:World) (hBm:Bm<w.heap.size) (hm:w.cell? ⟨Bm,0,none⟩=some (.map (some b))) (hown:zw w b zx xw m) (hl:m.length≤1000000) :
  Calls Tryz.prog 140 #[.func (.func 142) #[] #[.pointer (some ⟨Bm,0,none⟩)]] w fun e w'=>∃(v:Value) (ss:List ID),e = .returned v∧ss.Perm (m.map (·.1))∧w'.ownsRow w.heap.size 54 2 v ss.length (ss.flatMap ya)∧(v = .slice none 0 0↔ss = [])∧w.grownBy w' none:=by
 have h:=zit Fence.wide 5 trivial trivial rfl (by omega) 142 #[.pointer (some ⟨Bm,0,none⟩)] trivial (enters_of Tryz.func142 (by kernel_rfl) rfl)
  (fun xs=>xs.Perm (m.map (·.1))) m.length hl w (zkd Fence.wide _ trivial rfl (by omega) Bm b m w hBm hm hown)
 exact(callsIn_wide.1 h).mono fun e w' ⟨v,ss,h1,h2,h3,h4,h5⟩=>⟨v,ss,h1,h2,h3,h4,jo h5⟩
set_option maxRecDepth 100000 in
theorem zfs (Bm b:Nat) (m:List (ID × xd)) (w:World) (hBm:Bm<w.heap.size) (hm:w.cell? ⟨Bm,0,none⟩=some (.map (some b))) (hown:zw w b zx xw m) (hl:m.length≤1000000) :
  Calls Tryz.prog 78 #[.func (.func 142) #[] #[.pointer (some ⟨Bm,0,none⟩)],.func (.func 80) #[] #[]] w
   fun e w'=>∃v l,e = .returned v∧zf5 w.heap.size w' v m l∧w.grownBy w' none:=by
 have HC:=za (zh9 Bm b m w hBm hm hown hl);have hnd:=hown.nodup;clear hm hown
 go_enter Tryz.func78,Tryz.ntmps78
 go_wp2_with (go_at_call 140;refine HC.out.mono ?_;rintro e w1 ⟨v,ss,rfl,hp,hrow,hnil,hg⟩;have HP:=za (And.intro hp (And.intro hrow (And.intro hnil hg)));clear hp hrow hnil hg)
 obtain⟨hp,hrow,hnil,hg⟩:=HP.out;have hlen:ss.length≤1000000:=by rw[hp.length_eq];simpa using hl
 rcases hrow.2 with ⟨rfl,hz⟩|⟨g,cap,cur,rfl,hbase,hgb,r1,r2,r3,r4⟩
 ·have hss:ss = []:=List.eq_nil_of_length_eq_zero hz
  subst hss
  go_wp2_with (go_at_call 141;refine(zhz none 0 _ _).mono ?_;rintro e w2 ⟨rfl,rfl⟩)
  go_ret
  exact⟨_,[],rfl,⟨hrow,hp,fun i j h1 h2=>by simp at h2,by simp⟩,hg⟩
 ·have HS:=za (zjr g cap ss w1 cur hgb r4 hlen)
  have HH:=za (And.intro hbase (And.intro hgb (And.intro r1 (And.intro r2 (And.intro r3 (And.intro hnil (And.intro hg hp)))))));clear hbase hgb r1 r2 r3 r4 hnil hg hp hrow HP
  go_wp2_with (go_at_call 141;refine HS.out.mono ?_;rintro e w2 ⟨rfl,l',n,os,hp2,ho2,rfl⟩;have HZ:=za (And.intro hp2 ho2);clear hp2 ho2)
  go_ret
  obtain⟨hbase,hgb,r1,r2,r3,hnil,hg,hp⟩:=HH.out;obtain⟨hp2,ho2⟩:=HZ.out;refine⟨_,l',rfl,⟨?_,hp2.trans hp,ho2,?_⟩,jk hg (zax _) (fun k hk=>by cases hk;exact hbase)⟩
  ·unfold jl
   rw[hp2.length_eq]
   exact zay (by rw[za9,hp2.length_eq]) hbase hgb r1 r2 r3
  ·constructor
   ·intro h;cases h
   ·intro h;subst h
    have:ss = []:=hp2.symm.eq_nil;have:=hnil.2 this
    cases this
section
variable {w : World} {tb : Nat} {T : Tab}
set_option maxRecDepth 100000 in
theorem zm2 (h:yh w tb T) (hl:T.pending.length≤1000000) :
  Calls Tryz.prog 33 #[.pointer (some ⟨tb,0,none⟩)] w fun e w'=>∃v l,e = .returned v∧zf5 w.heap.size w' v T.pending l∧w.grownBy w' none:=by
 have c6:=h.c6;have HT:=za h;have HL:=za hl;clear h hl
 go_enter Tryz.func33,Tryz.ntmps33
 go_wp2_with (first
   | (go_at_call 79;refine(ziw (some T.pb) _).mono ?_;rintro e w1 ⟨rfl,rfl⟩)
   | (go_at_call 78;have hq:=zfs w.heap.size T.pb T.pending (w.alloc (.cells #[.map (some T.pb)] 119)) (by simp[go_sem]) (by simp[go_sem]) ((HT.out.grown (zc _ _ _)).pending) HL.out;refine hq.mono ?_;rintro e w2 ⟨v,l,rfl,hv,hg⟩;have HV:=za (And.intro hv hg);clear hv hg))
 go_ret
 obtain⟨⟨h1,h2,h3,h4⟩,hg⟩:=HV.out
 exact⟨v,l,rfl,⟨Vv h1 (by simp),h2,h3,h4⟩,ze (zc _ _ _) hg⟩
end
theorem zhf {bs:Nat→Prop} {w:World} {tb:Nat} {L:Tab} (h:At bs w tb L) (hl:L.pending.length≤1000000) :
  Calls Tryz.prog 33 #[.pointer (some ⟨tb,0,none⟩)] w fun e w'=>∃v l,e = .returned v∧zf5 w.heap.size w' v L.pending l∧w.grownBy w' none:=by
 obtain⟨T,h1,rfl,h3⟩:=h.ex;have h2:=zm2 h1 hl
 exact h2
end Go.Proofs.YtjfelfjobeeenaaGreat
