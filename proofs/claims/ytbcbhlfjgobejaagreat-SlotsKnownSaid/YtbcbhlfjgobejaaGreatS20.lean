/- What lies in memory amid an opening: boxes, the store that is made, rows, the disk. Conditions: none, or as the theorems say. -/
import Derived.Test.YtbcbhlfjgobejaaGreatS19
import Derived.RangeFuncLeaves
import Derived.WalkKit
import Derived.OwnWalkIn
import Derived.TacticsInMore
import Derived.RegionIn
import Derived.LoopNIn
import Derived.LoopIn
set_option linter.unusedSimpArgs false
set_option linter.unusedVariables false
namespace Go.Proofs.YtbcbhlfjgobejaaGreat
set_option maxHeartbeats 200000000
open Go.RowKit Go.Sf
variable {a:Act} {ops:Array Oper} {scr:Bool} {dk:Dk} {b n:Nat} {P rp:Nat→Prop} {t:TypeId} {v:Value} {W W2 W3 w:World}
theorem Zn {P:Program} {a:Addr} {m:Mode} (fn:Fn) (first cap:Array Value):(store a (.func fn first cap) m).run P w=stored P w a (.func fn first cap) m:=run_store P w a _ m rfl
structure Yh where
 bd:Nat
 b2:Nat
 b3:Nat
 b4:Nat
 b5:Nat
 b6:Nat
 bx:Nat
 st:Nat
 mb:Nat
 tb:Nat
 mr:Nat
def Yh.all (L:Yh):List Nat:=[L.bd,L.b2,L.b3,L.b4,L.b5,L.b6,L.bx,L.st,L.mb,L.tb,L.mr]
def Uf (db:Nat) (s:Bool):Value:=if s then .func (.func 25) #[.pointer (some ⟨db,0,none⟩)] #[] else .func (.func 82) #[] #[]
structure OM (own:Nat→Prop) (db N B:Nat) (L:Yh) (P:Nat→Prop) (loc:zt→Nat × Nat × Nat) (rp:Nat→Prop) (rows:List (zt × xr)) (next:Int) (scr:Bool) (dk:Dk) (W:World):Prop where
 disk:vk P W db dk
 ownP:∀k,own k→P k
 lP:∀k∈L.all,P k∧k<B
 pB:P B∧P (B+1)
 nd:L.all.Nodup
 bd:W.heap[L.bd]? = some (.cells #[.pointer (some ⟨db,0,none⟩)] 28 (0,0))
 b2:W.heap[L.b2]? = some (.cells #[.pointer none] 24 (0,0))
 b3:W.heap[L.b3]? = some (.cells #[.int .i64 0] 25 (0,0))
 b4:W.heap[L.b4]? = some (.cells #[.pointer (some ⟨L.st,0,none⟩)] 24 (0,0))
 b5:W.heap[L.b5]? = some (.cells #[.map (some L.mr)] 133 (0,0))
 b6:W.heap[L.b6]? = some (.cells #[Uf db scr] 39 (0,0))
 bx:W.heap[L.bx]? = some (.cells #[.pointer (some ⟨db,0,none⟩)] 28 (0,0))
 st:W.heap[L.st]? = some (.cells #[.pointer (some ⟨db,0,none⟩),.map (some L.mb),.slice (some ⟨L.tb,0,none⟩) N N,.int .i64 next,.int .i64 0] 132 (0,0))
 mb:W.heap[L.mb]? = some (.map #[] 0)
 tb:W.heap[L.tb]? = some (.cells (ul (List.replicate N false)).toArray 4 (0,0))
 rows:qw P (B+2) W L.mr loc rp rows
 rlt:∀k,rp k→k<W.heap.size
 sz:B+2≤W.heap.size
 nn:dk.n=N
section
variable {own : Nat → Prop} {db N B : Nat} {L : Yh} {P : Nat → Prop} {loc : zt → Nat × Nat × Nat} {rp : Nat → Prop} {rows : List (zt × xr)} {next : Int} {scr : Bool} {dk dk' : Dk} {W W' : World}
theorem xu {l:List Nat} (h:l.Nodup) (i j:Nat) {a:Nat} (hi:l[i]? = some a) (hj:l[j]? = some b) (hij:i≠j):a≠b:=λe=>by
 obtain⟨h1,h2⟩:=List.getElem?_eq_some_iff.1 hi;obtain⟨h3,h4⟩:=List.getElem?_eq_some_iff.1 hj
 exact hij ((List.getElem_inj (h₀:=h1) (h₁:=h3) h).1 (by rw[h2,h4,e]))
theorem Yh.mems (L:Yh):L.bd∈L.all∧L.b2∈L.all∧L.b3∈L.all∧L.b4∈L.all∧L.b5∈L.all∧L.b6∈L.all∧L.bx∈L.all∧L.st∈L.all∧L.mb∈L.all∧L.tb∈L.all∧L.mr∈L.all:=by
 simp[Yh.all]
theorem OM.same (h:OM own db N B L P loc rp rows next scr dk W) (hd:vk P W' db dk') (hn:dk'.n=N) (hz:W.heap.size≤W'.heap.size) (hs:∀k,P k→k≠B→k≠B+1→W'.heap[k]? = W.heap[k]?):OM own db N B L P loc rp rows next scr dk' W':=by
 have hL:∀k∈L.all,W'.heap[k]? = W.heap[k]?:=λk hk=>by
  obtain⟨h1,h2⟩:=h.lP k hk
  exact hs k h1 (by omega) (by omega)
 obtain⟨m1,m2,m3,m4,m5,m6,m7,m8,m9,m10,m11⟩:=L.mems;refine⟨hd,h.ownP,h.lP,h.pB,h.nd,(hL _ m1).trans h.bd,(hL _ m2).trans h.b2,(hL _ m3).trans h.b3,(hL _ m4).trans h.b4,(hL _ m5).trans h.b5,(hL _ m6).trans h.b6,(hL _ m7).trans h.bx,(hL _ m8).trans h.st,(hL _ m9).trans h.mb,(hL _ m10).trans h.tb,h.rows.turn λk hk hk2=>hs k hk ?_ ?_,λk hk=>Nat.lt_of_lt_of_le (h.rlt k hk) hz,Nat.le_trans h.sz hz,hn⟩
 ·have:=(h.lP _ m11).2;omega
 ·have:=(h.lP _ m11).2;omega
theorem OM.P_lt (h:OM own db N B L P loc rp rows next scr dk W) {k:Nat} (hk:P k):k<W.heap.size:=h.disk.own_lt hk
theorem OM.grown (h:OM own db N B L P loc rp rows next scr dk W) (hg:W.grownBy W' none):OM own db N B L P loc rp rows next scr dk W':=
 h.same (h.disk.kept hg) h.nn hg.size λk hk _ _=>hg.block k (h.P_lt hk) (by simp)
theorem OM.wrote (h:OM own db N B L P loc rp rows next scr dk W) (hd:vk P W' db dk') (hn:dk'.n=N) (ht:zm (λk=>¬P k) W W'):OM own db N B L P loc rp rows next scr dk' W':=
 h.same hd hn ht.size λk hk _ _=>ht.block k (h.P_lt hk) (λe=>e hk)
theorem jv (W:World) (k:Nat) (o:Obj):zm (λj=>j=k) W (W.putObj k o):=
 ⟨rfl,rfl,rfl,by rw[World.putObj_size];exact Nat.le_refl _,λj _ hj=>World.putObj_heap_other hj⟩
theorem OM.loop (h:OM own db N B L P loc rp rows next scr dk W) (o:Obj):OM own db N B L P loc rp rows next scr dk (W.putObj (B+1) o):=
 h.same (h.disk.turn ((jv W (B+1) o).mono λk hk=>by rw[hk];exact h.pB.2)) h.nn (by rw[World.putObj_size];exact Nat.le_refl _) λk hk _ h2=>World.putObj_heap_other h2
theorem OM.widen (h:OM own db N B L P loc rp rows next scr dk W) (hg:W.grownBy W' none):OM own db N B L (λk=>P k∨(W.heap.size≤k∧k<W'.heap.size)) loc rp rows next scr dk W':=by
 have hk:=h.grown hg
 exact⟨h.disk.more hg (λk hk=>hk.imp id λe=>e.1) (λk hk=>by
  rcases hk with e|e
  ·have:=h.P_lt e;have:=hg.size;omega
  ·exact e.2),λk ho=>Or.inl (h.ownP k ho),λk hk=>⟨Or.inl (h.lP k hk).1,(h.lP k hk).2⟩,⟨Or.inl h.pB.1,Or.inl h.pB.2⟩,h.nd,hk.bd,hk.b2,hk.b3,hk.b4,hk.b5,hk.b6,hk.bx,hk.st,hk.mb,hk.tb,hk.rows.more λk hk=>Or.inl hk,hk.rlt,hk.sz,h.nn⟩
theorem OM.poke (h:OM own db N B L P loc rp rows next scr dk W) {x:Nat} (hx:x∈L.all) (hxm:x≠L.mr) (ht:zm (λk=>k=x) W W'):vk P W' db dk∧qw P (B+2) W' L.mr loc rp rows∧(∀k∈L.all,k≠x→W'.heap[k]? = W.heap[k]?):=by
 obtain⟨hp,hb⟩:=h.lP x hx;refine⟨h.disk.turn (ht.mono λk hk=>by rw[hk];exact hp),h.rows.turn λk hk hk2=>ht.block k (h.P_lt hk) (λe=>?_),λk hk hne=>ht.block k (h.P_lt (h.lP k hk).1) hne⟩
 rcases hk2 with e2|e2
 ·exact hxm (e.symm.trans e2)
 ·omega
theorem OM.setNext (h:OM own db N B L P loc rp rows next scr dk W) (m:Int):OM own db N B L P loc rp rows m scr dk (W.setCell ⟨L.st,3,none⟩ (.int .i64 m)):=by
 obtain⟨m1,m2,m3,m4,m5,m6,m7,m8,m9,m10,m11⟩:=L.mems;obtain⟨p1,p2,p3⟩:=h.poke m8 (xu h.nd 7 10 rfl rfl (by decide)) (yh W L.st 3 (.int .i64 m))
 have hz:(W.setCell ⟨L.st,3,none⟩ (.int .i64 m)).heap.size=W.heap.size:=by simp[World.setCell]
 refine⟨p1,h.ownP,h.lP,h.pB,h.nd,(p3 _ m1 (xu h.nd 0 7 rfl rfl (by decide))).trans h.bd,(p3 _ m2 (xu h.nd 1 7 rfl rfl (by decide))).trans h.b2,(p3 _ m3 (xu h.nd 2 7 rfl rfl (by decide))).trans h.b3,(p3 _ m4 (xu h.nd 3 7 rfl rfl (by decide))).trans h.b4,(p3 _ m5 (xu h.nd 4 7 rfl rfl (by decide))).trans h.b5,(p3 _ m6 (xu h.nd 5 7 rfl rfl (by decide))).trans h.b6,(p3 _ m7 (xu h.nd 6 7 rfl rfl (by decide))).trans h.bx,?_,(p3 _ m9 (xu h.nd 8 7 rfl rfl (by decide))).trans h.mb,(p3 _ m10 (xu h.nd 9 7 rfl rfl (by decide))).trans h.tb,p2,λk hk=>by rw[hz];exact h.rlt k hk,by rw[hz];exact h.sz,h.nn⟩
 simp[World.setCell,Array.getElem?_modify,h.st]
theorem OM.setScrub (h:OM own db N B L P loc rp rows next scr dk W):OM own db N B L P loc rp rows next true dk (W.setCell ⟨L.b6,0,none⟩ (Uf db true)):=by
 obtain⟨m1,m2,m3,m4,m5,m6,m7,m8,m9,m10,m11⟩:=L.mems;obtain⟨p1,p2,p3⟩:=h.poke m6 (xu h.nd 5 10 rfl rfl (by decide)) (yh W L.b6 0 (Uf db true))
 have hz:(W.setCell ⟨L.b6,0,none⟩ (Uf db true)).heap.size=W.heap.size:=by simp[World.setCell]
 refine⟨p1,h.ownP,h.lP,h.pB,h.nd,(p3 _ m1 (xu h.nd 0 5 rfl rfl (by decide))).trans h.bd,(p3 _ m2 (xu h.nd 1 5 rfl rfl (by decide))).trans h.b2,(p3 _ m3 (xu h.nd 2 5 rfl rfl (by decide))).trans h.b3,(p3 _ m4 (xu h.nd 3 5 rfl rfl (by decide))).trans h.b4,(p3 _ m5 (xu h.nd 4 5 rfl rfl (by decide))).trans h.b5,?_,(p3 _ m7 (xu h.nd 6 5 rfl rfl (by decide))).trans h.bx,(p3 _ m8 (xu h.nd 7 5 rfl rfl (by decide))).trans h.st,(p3 _ m9 (xu h.nd 8 5 rfl rfl (by decide))).trans h.mb,(p3 _ m10 (xu h.nd 9 5 rfl rfl (by decide))).trans h.tb,p2,λk hk=>by rw[hz];exact h.rlt k hk,by rw[hz];exact h.sz,h.nn⟩
 simp[World.setCell,Array.getElem?_modify,h.b6]
theorem OM.addRow (h:OM own db N B L P loc rp rows next scr dk W) {K:zt} (hn:zw rows K=none) {W2:World} {pb ab tb:Nat} {cs:List (Nat × Value × List Int)} {r:xr} (hg:W.grownBy W2 none) (hr:Ys W2 (λ_=>False) pb ab tb cs r)
  (n1:pb≠ab∧pb≠tb∧ab≠tb) (hl:W.heap.size≤pb∧W.heap.size≤ab∧W.heap.size≤tb)
  (hm:yg W' L.mr jr Ul (yo (rows.map λq=>(q.1,(loc q.1).1)) K pb)) (hg2:W2.grownBy W' (some L.mr)) :
  OM own db N B L (λk=>P k∨(W.heap.size≤k∧k<W2.heap.size)) (λK'=>if K'=K then (pb,ab,tb) else loc K') rp (rows ++ [(K,r)]) next scr dk W':=by
 obtain⟨m1,m2,m3,m4,m5,m6,m7,m8,m9,m10,m11⟩:=L.mems;have h2:=h.widen hg;obtain⟨l1,l2,l3⟩:=hr.lt;have hml:=h.P_lt (h.lP _ m11).1;have hrows:=(h.rows.more (P':=λk=>P k∨(W.heap.size≤k∧k<W2.heap.size)) λk hk=>Or.inl hk).add hn hg hr n1 hl ⟨Or.inr ⟨hl.1,l1⟩,Or.inr ⟨hl.2.1,l2⟩,Or.inr ⟨hl.2.2,l3⟩⟩ h.rlt h.sz hm hg2 hml
 have hb:∀k,k<W2.heap.size→k≠L.mr→W'.heap[k]? = W2.heap[k]?:=λk hk hne=>hg2.block k hk (λe=>hne (by injection e))
 have hL:∀k∈L.all,k≠L.mr→W'.heap[k]? = W2.heap[k]?:=λk hk hne=>hb k (Nat.lt_of_lt_of_le (h.P_lt (h.lP k hk).1) hg.size) hne
 have ht:zm (λk=>k=L.mr) W2 W':=⟨hg2.os,hg2.tape,hg2.output,hg2.size,λk hk hne=>hb k hk hne⟩
 exact⟨h2.disk.turn (ht.mono λk hk=>by rw[hk];exact Or.inl (h.lP _ m11).1),h2.ownP,h2.lP,h2.pB,h.nd,(hL _ m1 (xu h.nd 0 10 rfl rfl (by decide))).trans h2.bd,(hL _ m2 (xu h.nd 1 10 rfl rfl (by decide))).trans h2.b2,(hL _ m3 (xu h.nd 2 10 rfl rfl (by decide))).trans h2.b3,(hL _ m4 (xu h.nd 3 10 rfl rfl (by decide))).trans h2.b4,(hL _ m5 (xu h.nd 4 10 rfl rfl (by decide))).trans h2.b5,(hL _ m6 (xu h.nd 5 10 rfl rfl (by decide))).trans h2.b6,(hL _ m7 (xu h.nd 6 10 rfl rfl (by decide))).trans h2.bx,(hL _ m8 (xu h.nd 7 10 rfl rfl (by decide))).trans h2.st,(hL _ m9 (xu h.nd 8 10 rfl rfl (by decide))).trans h2.mb,(hL _ m10 (xu h.nd 9 10 rfl rfl (by decide))).trans h2.tb,hrows,λk hk=>Nat.lt_of_lt_of_le (h2.rlt k hk) hg2.size,Nat.le_trans h2.sz hg2.size,h.nn⟩
theorem OM.setRow (h:OM own db N B L P loc rp rows next scr dk W) {K:zt} {r r':xr} (hr:zw rows K=some r) {cs:List (Nat × Value × List Int)} (h':Ys W' rp (loc K).1 (loc K).2.1 (loc K).2.2 cs r') (ht:zm (λk=>k=(loc K).2.1∨k=(loc K).2.2) W W') :
  OM own db N B L P loc rp (yo rows K r') next scr dk W':=by
 obtain⟨m1,m2,m3,m4,m5,m6,m7,m8,m9,m10,m11⟩:=L.mems;have hf:=h.rows.free K r hr;have hL:∀k∈L.all,W'.heap[k]? = W.heap[k]?:=λk hk=>ht.block k (h.P_lt (h.lP k hk).1) (λe=>by
  have:=(h.lP k hk).2
  rcases e with e|e
  ·have:=(hf _ (Or.inr (Or.inl rfl))).2.2;omega
  ·have:=(hf _ (Or.inr (Or.inr rfl))).2.2;omega)
 exact⟨h.disk.turn (ht.mono λk hk=>by
  rcases hk with e|e
  ·rw[e];exact(hf _ (Or.inr (Or.inl rfl))).2.1
  ·rw[e];exact(hf _ (Or.inr (Or.inr rfl))).2.1),h.ownP,h.lP,h.pB,h.nd,(hL _ m1).trans h.bd,(hL _ m2).trans h.b2,(hL _ m3).trans h.b3,(hL _ m4).trans h.b4,(hL _ m5).trans h.b5,(hL _ m6).trans h.b6,(hL _ m7).trans h.bx,(hL _ m8).trans h.st,(hL _ m9).trans h.mb,(hL _ m10).trans h.tb,h.rows.set hr h' ht h.rlt (h.P_lt (h.lP _ m11).1),λk hk=>Nat.lt_of_lt_of_le (h.rlt k hk) ht.size,Nat.le_trans h.sz ht.size,h.nn⟩
theorem OM.part (h:OM own db N B L P loc rp rows next scr dk W) {g:Option Nat} (hg:∀k,g=some k→W.heap.size≤k∧k<W'.heap.size) (hgr:W.grownBy W' none):OM own db N B L (λk=>P k∨(W.heap.size≤k∧k<W'.heap.size)) loc (λk=>rp k∨g=some k) rows next scr dk W':=by
 have h2:=h.widen hgr;have hr:qw (λk=>P k∨(W.heap.size≤k∧k<W'.heap.size)) (B+2) W L.mr loc rp rows:=h.rows.more λk hk=>Or.inl hk
 have hr2:=hr.part (rp':=λk=>rp k∨g=some k) (λk hk=>Or.inl hk) (λk hk=>hk.imp id λe=>⟨(hg k e).1,Or.inr (hg k e)⟩) h.sz
 have hr3:qw (λk=>P k∨(W.heap.size≤k∧k<W'.heap.size)) (B+2) W' L.mr loc (λk=>rp k∨g=some k) rows:=by
  have h3:=h2.rows;refine⟨h3.map,λK r hK=>?_,h3.ne,h3.apart,hr2.free,hr2.parts,h3.mine,h3.low⟩
  obtain⟨cs,hc⟩:=h3.row K r hK
  exact⟨cs,hc.widen λk hk=>Or.inl hk⟩
 exact⟨h2.disk,h2.ownP,h2.lP,h2.pB,h2.nd,h2.bd,h2.b2,h2.b3,h2.b4,h2.b5,h2.b6,h2.bx,h2.st,h2.mb,h2.tb,hr3,λk hk=>by
  rcases hk with e|e
  ·exact h2.rlt k e
  ·exact(hg k e).2,h2.sz,h2.nn⟩
end
attribute [local go_sem] Oper.semAt_some
def zcv (own:Nat→Prop) (db Bx N:Nat) (x:Nat→List Int) (i:Nat) (W:World):Prop:=
 W.heap[Bx]? = some (.cells #[.pointer (some ⟨db,0,none⟩)] 28 (0,0))∧∃d,vk own W db d∧d.n=N∧d.off=false∧∀j,i≤j→j<N→bk d.now j=x j
def blkV (x:Nat→List Int) (i:Nat):Array Value:=#[.int .i64 (i:Int),.agg (zg (x i)).toArray]
theorem zp1 (a:Option Addr) (w:World):(Instr.arrayAt 136 (.slice a 256 256)).run Tryz.prog w = .ok (.pointer a) w:=by kernel_rfl
theorem zmg {o:Oper} (y:Operand) (p:Option Addr) (hop:o.op=Op.sliceToArrayPointer 136 y) (hy:a.eval y = .slice p 256 256):(execOp a.eval o).run Tryz.prog w = .ok (.value (.pointer p)) w:=by
 have h:=zp1 p w;simp only[execOp,hop,hy,Sem.run_bind,h,Result.andThen]
 rfl
theorem Vw {o:Oper} (y:Operand) (ty:TypeId) (hop:o.op=Op.load ty y) (g:Nat) (t:TypeId) (cs:Array Value) (fr:Nat × Nat) (d:TypeDesc) (hy:a.eval y = .pointer (some ⟨g,0,none⟩)) (hg:w.heap[g]? = some (.cells cs t fr))
 (hu:Tryz.prog.underlying ty=some d) (hd:(match d with | .struct _ | .array _ _=>true|_=>false)=true) (hi:(Tryz.prog.info? ty).map (·.size)=some cs.size):(execOp a.eval o).run Tryz.prog w = .ok (.value (.agg cs)) w:=by
 have h:=run_loadVar_row (P:=Tryz.prog) w g t ty cs fr d hg hu (by cases d <;> first|rfl|cases hd) hi
 simp[execOp,hop,hy,Instr.loadAt,Instr.sureAddr,h,Result.andThen]
set_option maxRecDepth 100000 in
theorem zme (own:Nat→Prop) (db Bx N:Nat) (hN:N≤4096) (x:Nat→List Int) (hx:∀i,(x i).length=256) (W:World) :
  zoa Fence.wide 4 Tryz.prog 162 #[.pointer (some ⟨Bx,0,none⟩)] (blkV x) N (zcv own db Bx N x) W:=by
 intro l J Jx hJg hJn hY h0;have fT:Fence.wide.fn 81:=trivial;have fR:Fence.wide.fn 114:=trivial;have HG:=zd hJg;have HN:=zd hJn;have HY:=zd hY;have H0:=zd h0;have hb0:zcv own db Bx N x 0 W:=hJn 0 W h0;obtain⟨hbx,d,hd,hdn,hdo,hdx⟩:=hb0;have c0:W.cell? ⟨Bx,0,none⟩=some (.pointer (some ⟨db,0,none⟩)):=(zf hbx 0).trans rfl;have HB:=zd (zgp hd);rw[hdn] at HB;clear hJg hJn hY h0 hbx hd hdn hdo hdx;refine callsIn_of_wp Tryz.func162 rfl trivial ?_ rfl;simp only[Tryz.ntmps162,List.size_toArray,List.length_cons,List.length_nil,Nat.reduceAdd,Nat.reduceSub,Array.replicate_succ,Array.replicate_zero,List.push_toArray,List.append_toArray,List.nil_append,List.cons_append]
 gi_wp2_with (gi_at_call 81;refine(callsIn_wide.2 HB.out).mono ?_;rintro e W1 ⟨rfl,h5⟩;obtain rfl:W=W1:=h5.symm)
 clear c0 HB
 gi_loopw [8] (λs wr=>∃i:Nat,i≤N∧s = .int .i64 (i:Int)∧Hid (J i wr)) (λs _=>N-(intOf s).toNat)
 case atStart=>exact⟨0,Nat.zero_le _,rfl,H0⟩
 case round=>
  obtain⟨i,hi,rfl,hj⟩:=hrel
  rcases Nat.lt_or_ge i N with hlt|hge
  ·have hb:=HN.out i wr hj.out
   obtain⟨hbx,d,hd,hdn,hdo,hdx⟩:=hb;have c0:wr.cell? ⟨Bx,0,none⟩=some (.pointer (some ⟨db,0,none⟩)):=(zf hbx 0).trans rfl;have hme:d.mayE (i:Int) 0=0:=by
    unfold Dk.mayE;rw[if_neg (by simp[hdo]),if_neg (by omega),if_neg (by omega)]
   have hR:=dread hd (i:Int);unfold Yi at hR;rw[hme] at hR;have hxi:=hdx i (Nat.le_refl _) hlt;simp only[Int.toNat_natCast,hxi] at hR;have HR:=zd hR;have HL:=zd (hx i);have HJ:=zd hj.out;clear hbx hd hdn hdo hdx hme hR hxi hj
   gi_wp2_with (first
    | (gi_at_call 114;refine(callsIn_wide.2 HR.out).mono ?_;rintro e W2 ⟨hg,v,rfl,hv⟩;obtain⟨h1,-⟩|⟨-,⟨⟨g,rfl,-,hrow⟩,-,-⟩⟩:=hv;exact absurd rfl h1;have HROW:=zd hrow;have HJ2:=zd (HG.out i _ _ HJ.out hg);obtain⟨fn,tmps,assign,body,hy,hRn⟩:=HY.out i W2 HJ2.out hlt;simp only[blkV] at hy;clear hrow hg)
    | (refine za2 rfl (λ_ e=>by cases e) (λ_ e=>by cases e) (zmg _ _ rfl rfl) ?_)
    | (refine za2 rfl (λ_ e=>by cases e) (λ_ e=>by cases e) (Vw _ 136 rfl g 174 _ (0,0) _ rfl HROW.out Tryz.underlying136 rfl (Zi HL.out)) ?_))
   refine hRn.mono ?_;rintro e W4 (⟨rfl,hJ4⟩|⟨rfl,hJx4⟩)
   ·have HJ4:=zd hJ4
    clear hJ4
    gi_wp2
    go_roundw
    case rel=>exact⟨i+1,by omega,by go_num,HJ4⟩
    case measure=>simp[intOf];omega
   ·gi_wp2
    refine bodyPost_ret (results_none rfl _ _ _) rfl ?_
    exact⟨⟨_,rfl⟩,.inr hJx4⟩
  ·obtain rfl:i=N:=by omega
   gi_wp2
   go_end0
   exact⟨⟨_,rfl⟩,.inl hj.out⟩
open Go Go.RowKit Go.Sf
noncomputable def oBody:Code:=match (Tryz.f18).body with
 | some (.seq _ (.seq _ (.seq _ (.seq _ (.seq _ (.seq (.seq _ (.block _ (.rangeFunc _ _ _ b))) _))))))=>b
 | _=>.skip
theorem xf {c:Array Value} (h:w.heap[b]? = some (.cells c t (0,0))) (i:Nat):w.frozen? ⟨b,i,none⟩=false:=by
 simp[World.frozen?,h]
theorem ud {P:Program} {Q:Exit→Act→World→Prop} {o:Oper} {rest:List Oper} {w':World} (hw:Region.wanted o (yielded ops a.tmps)=true) (hr:(execOp a.eval o).run P w = .ok (.value v) w') (h:wpList P ops Q rest (a.put o.dst v) w'):wpList P ops Q (o :: rest) a w:=by
 refine wpList_step λK hK=>?_
 rw[if_pos hw];simp only[Oper.wp,hr,Oper.upon]
 exact hK _ _ h
theorem zhc (w:World):(Instr.build 136 #[]).run Tryz.prog w = .ok (.agg (zg zr).toArray) w:=by kernel_rfl
theorem Je {o:Oper} (hop:o.op=Op.build 136 #[]):(execOp a.eval o).run Tryz.prog w = .ok (.value (.agg (zg zr).toArray)) w:=by
 have h:=zhc w;unfold execOp;rw[hop]
 change (do pure (Next.value (←Instr.build 136 ((#[]:Array (Nat × Operand)).map λp=>(p.1,a.eval p.2)))):Sem Next).run Tryz.prog w=_
 rw[show((#[]:Array (Nat × Operand)).map λp=>(p.1,a.eval p.2)) = #[] from by simp]
 generalize Instr.build 136 #[]=s at *;simp[go_sem,h]
theorem zb5 {o:Oper} {A B:List Int} (t2:TypeId) (x y:Operand) (hop:o.op=Op.binOp .neq 136 x y t2) (hx:a.eval x = .agg (zg A).toArray) (hy:a.eval y = .agg (zg B).toArray) (hA:A.length=256) (hB:B.length=256) (b:Bool) (hb:(!decide (A=B))=b):(execOp a.eval o).run Tryz.prog w = .ok (.value (.bool b)) w:=by
 unfold execOp;rw[hop]
 change (do pure (Next.value (←(do eqGuard .neq 136 x y (a.eval x) (a.eval y);binOp .neq 136 (a.eval x) (a.eval y)))):Sem Next).run Tryz.prog w=_
 rw[hx,hy];have h1:=run_eqGuard_agg (P:=Tryz.prog) w .neq _ x y (zg A).toArray (zg B).toArray zd2;have h2:(binOp .neq 136 (.agg (zg A).toArray) (.agg (zg B).toArray)).run Tryz.prog w = .ok (.bool b) w:=by
  rw[run_neq_struct];have:=zfe hA hB w;unfold vm at this;rw[this,←hb]
  rfl
 simp only[Sem.run_bind,h1,h2,Result.andThen_ok,Sem.run_pure]
def OI (own:Nat→Prop) (W0:World) (db:Nat) (d:Dk) (B:Nat) (L:Yh) (i:Nat) (X:World):Prop:=
 i≤d.n∧(opnD d i).2.1=0∧zm (λk=>¬own k) W0 X∧∃P loc rp,OM own db d.n B L P loc rp (scanN zo (bk d.now) i).rows (scanN zo (bk d.now) i).next (opnD d i).2.2 (opnD d i).1 X
structure OX (own:Nat→Prop) (W0:World) (db:Nat) (d:Dk) (B:Nat) (L:Yh) (c:Code) (X:World):Prop where
 ret:c = .ret
 bad:(opnD d d.n).2.1≠0
 turn:zm (λk=>¬own k) W0 X
 disk:∃P:Nat→Prop,vk P X db (opnD d d.n).1∧(∀k,own k→P k)∧P B∧P (B+1)
 b2:X.heap[L.b2]? = some (.cells #[.pointer none] 24 (0,0))∧L.b2<B
 b3:X.heap[L.b3]? = some (.cells #[.int .i64 (opnD d d.n).2.1] 25 (0,0))∧L.b3<B
section
variable {own : Nat → Prop} {W0 : World} {db : Nat} {d : Dk} {B : Nat} {L : Yh} {i : Nat} {X Y : World}
theorem OI.grown (h:OI own W0 db d B L i X) (hg:X.grownBy Y none):OI own W0 db d B L i Y:=by
 obtain⟨h0,h1,h2,P,loc,rp,h3⟩:=h
 exact⟨h0,h1,h2.trans ⟨hg.os,hg.tape,hg.output,hg.size,λk hk _=>hg.block k hk (by simp)⟩,P,loc,rp,h3.grown hg⟩
theorem OI.loop (h:OI own W0 db d B L i X) (hB:∀k,own k→k<B) (o:Obj):OI own W0 db d B L i (X.putObj (B+1) o):=by
 obtain⟨h0,h1,h2,P,loc,rp,h3⟩:=h
 exact⟨h0,h1,h2.trans ((jv X (B+1) o).mono λk hk ho=>by have:=hB k ho;omega),P,loc,rp,h3.loop o⟩
theorem OX.loop {c:Code} (h:OX own W0 db d B L c X) (hB:∀k,own k→k<B) (o:Obj):OX own W0 db d B L c (X.putObj (B+1) o):=by
 obtain⟨P,h1,h2,h3,h4⟩:=h.disk;refine⟨h.ret,h.bad,h.turn.trans ((jv X (B+1) o).mono λk hk ho=>by have:=hB k ho;omega),⟨P,h1.turn ((jv X (B+1) o).mono λk hk=>by rw[hk];exact h4),h2,h3,h4⟩,⟨(World.putObj_heap_other (by have:=h.b2.2;omega)).trans h.b2.1,h.b2.2⟩,⟨(World.putObj_heap_other (by have:=h.b3.2;omega)).trans h.b3.1,h.b3.2⟩⟩
theorem Vs {C:List Int→Nat} {f:Nat→List Int} (h:saidP C (f n)=none):scanN C f (n+1)=scanN C f n:=by
 conv=>lhs;unfold scanN scanStep
 rw[h]
theorem OI.clean (h:OI own W0 db d B L i X) (hi:i<d.n) (hs:saidP zo (bk d.now i)=none) (hz:bk d.now i=zr):OI own W0 db d B L (i+1) X:=by
 obtain⟨h0,h1,h2,P,loc,rp,h3⟩:=h;unfold OI;rw[Za h1 (Or.inr hz),Vs hs]
 exact⟨hi,h1,h2,P,loc,rp,h3⟩
theorem OI.scrub {loc:zt→Nat × Nat × Nat} {dk':Dk} (hi:i<d.n) (hs:saidP zo (bk d.now i)=none) (hn:opnD d (i+1)=(dk',0,true)) (hM:OM own db d.n B L P loc rp (scanN zo (bk d.now) i).rows (scanN zo (bk d.now) i).next scr dk W2) (ht2:zm (λk=>¬own k) W0 W2)
 (hd:vk P W3 db dk') (hdn:dk'.n=d.n) (ht3:zm (λk=>¬P k) W2 W3) (hown:∀k,own k→∀j∈L.all,k≠j):OI own W0 db d B L (i+1) (W3.setCell ⟨L.b6,0,none⟩ (Uf db true)):=by
 have h3:=(hM.wrote hd hdn ht3).setScrub;unfold OI;rw[hn,Vs hs]
 exact⟨hi,rfl,(ht2.trans (ht3.mono λk hk ho=>hk (hM.ownP k ho))).trans ((yh W3 L.b6 0 _).mono λk hk ho=>hown k ho _ L.mems.2.2.2.2.2.1 hk),P,loc,rp,h3⟩
theorem zn6 {loc:zt→Nat × Nat × Nat} {rows:List (zt × xr)} {next:Int} {N:Nat} (hk:uy B X W2) (hM:OM own db N B L P loc rp rows next scr dk W2) (ht3:zm (λk=>¬P k) W2 W3) (v:Value):uy B X (W3.setCell ⟨L.b6,0,none⟩ v):=by
 have q:=hM.lP _ L.mems.2.2.2.2.2.1;have hz:=hM.sz;have hz3:=ht3.size;have t:=yh W3 L.b6 0 v;refine⟨Nat.le_trans hk.1 (Nat.le_trans ht3.size t.size),?_,?_⟩
 ·rw[t.block B (by omega) (by omega),ht3.block B (by omega) (λe=>e hM.pB.1),hk.2.1]
 ·rw[t.block (B+1) (by omega) (by omega),ht3.block (B+1) (by omega) (λe=>e hM.pB.2),hk.2.2]
theorem znr {C:List Int→Nat} {f:Nat→List Int} {p:Prt} (h:saidP C (f n)=some p):scanN C f (n+1)=⟨yo (scanN C f n).rows ⟨p.k,p.count⟩ (ja ((zw (scanN C f n).rows ⟨p.k,p.count⟩).getD (uc p.count)) p.index (n,p.b)),max (scanN C f n).next (p.k+1)⟩:=by
 conv=>lhs;unfold scanN scanStep
 rw[h]
theorem zeroPtr (w:World):(zeroValue 143).run Tryz.prog w = .ok (.pointer none) w:=by kernel_rfl
theorem zmx (loc:zt→Nat × Nat × Nat) (rows:List (zt × xr)) (K:zt):zw (rows.map λq=>(q.1,(loc q.1).1)) K=(zw rows K).map λ_=>(loc K).1:=by
 induction rows with
 | nil=>rfl
 | cons p t ih=>
  simp only[List.map_cons,zw]
  by_cases h:p.1=K
  ·rw[if_pos h,if_pos h,h];rfl
  ·rw[if_neg h,if_neg h,ih]
theorem zcm {P:Program} {Q:Act→Prop} {o:Oper} {rest:List Oper} (hw:Region.wanted o (yielded ops a.tmps)=true) (hr:(execOp a.eval o).run P w = .ok (.value v) w) (h:wpStill P ops w Q rest (a.put o.dst v)):wpStill P ops w Q (o :: rest) a:=by
 refine wpStill_step λK hK=>?_
 rw[if_pos hw];unfold Oper.still;rw[hr,Oper.stillUpon_value]
 exact hK _ h
theorem jf {o:Oper} {vx vy:Value} (x y:Operand) (c:Bool) (hop:o.op=Op.lookup t x y c) (hx:a.eval x=vx) (hy:a.eval y=vy) (hr:(Instr.lookup t vx vy c).run Tryz.prog w = .ok v w):(execOp a.eval o).run Tryz.prog w = .ok (.value v) w:=by
 unfold execOp;rw[hop]
 change (do pure (Next.value (←Instr.lookup t (a.eval x) (a.eval y) c)):Sem Next).run Tryz.prog w=_
 rw[hx,hy];generalize Instr.lookup t vx vy c=s at *;simp[go_sem,hr]
theorem Xg {base:Nat} {mr:Nat} {loc:zt→Nat × Nat × Nat} {rows:List (zt × xr)} (h:qw P base W mr loc rp rows) (K:zt) (hv:((zw rows K).map λ_=>Ul (loc K).1).getD (.pointer none)=v):(Instr.lookup 133 (.map (some mr)) (jr K) false).run Tryz.prog W = .ok v W:=by
 have:=h.map.lookup (P:=Tryz.prog) keK Tryz.underlying133 (zeroPtr W) K false;rw[zmx,Option.map_map] at this;rw[this,←hv]
 rfl
structure Rw5 (own:Nat→Prop) (W0 W:World) (db:Nat) (d:Dk) (B:Nat) (L:Yh) (i B9 B12:Nat) (p:Prt) (rows:List (zt × xr)) (v:Value) (P:Nat→Prop) (loc:zt→Nat × Nat × Nat) (rp:Nat→Prop) (rows5:List (zt × xr)) (r5:xr) (nx:Int) (X:World):Prop where
 om:OM own db d.n B L P loc rp rows5 nx (opnD d i).2.2 (opnD d i).1 X
 p9:P B9
 p12:P B12
 get:zw rows5 ⟨p.k,p.count⟩=some r5
 put:∀r,yo rows5 ⟨p.k,p.count⟩ r=yo rows ⟨p.k,p.count⟩ r
 is:r5=(zw rows ⟨p.k,p.count⟩).getD (uc p.count)
 len:r5.there.length=p.count
 rv:xw rp X v (zg p.b)
 two:uy B W X
 turn:zm (λk=>¬own k) W0 X
 h9:X.heap[B9]? = some (.cells #[.int .i64 p.k,.int .i64 (p.index:Int),.int .i64 (p.count:Int),v] 138 (0,0))
 h12:X.heap[B12]? = some (.cells #[.int .i64 p.k,.int .i64 (p.count:Int)] 142 (0,0))
theorem OI.two (h:OI own W0 db d B L i X) (hg:X.grownBy Y none):uy B X Y:=by
 obtain⟨h0,h1,h2,P,loc,rp,h3⟩:=h;have hz:=h3.sz
 exact⟨hg.size,hg.block _ (by omega) (by simp),hg.block _ (by omega) (by simp)⟩
theorem Rw5.fin {B9 B12:Nat} {p:Prt} {rows rows5:List (zt × xr)} {loc:zt→Nat × Nat × Nat} {r5:xr} {nx:Int} (h:Rw5 own W0 W db d B L i B9 B12 p rows v P loc rp rows5 r5 nx X) (hi:i<d.n) (h1:(opnD d i).2.1=0) (hs:saidP zo (bk d.now i)=some p)
 (hsc:scanN zo (bk d.now) (i+1)=⟨yo rows ⟨p.k,p.count⟩ (ja ((zw rows ⟨p.k,p.count⟩).getD (uc p.count)) p.index (i,p.b)),nx⟩) {cs:List (Nat × Value × List Int)} (hr:Ys Y rp (loc ⟨p.k,p.count⟩).1 (loc ⟨p.k,p.count⟩).2.1 (loc ⟨p.k,p.count⟩).2.2 cs (ja r5 p.index (i,p.b))) (ht:zm (λk=>k=(loc ⟨p.k,p.count⟩).2.1∨k=(loc ⟨p.k,p.count⟩).2.2) X.drew Y) (how2:∀k,own k→k<B):uy B W Y∧OI own W0 db d B L (i+1) Y:=by
 have hd:=h.om.grown (zj (zi X));have hf:=h.om.rows.free _ _ h.get;have f1:=(hf _ (Or.inr (Or.inl rfl))).2.2;have f2:=(hf _ (Or.inr (Or.inr rfl))).2.2;have hz:=h.om.sz;have hz':X.drew.heap.size=X.heap.size:=rfl;have hset:=hd.setRow h.get hr ht;rw[h.put] at hset;have two:=h.two;refine⟨⟨Nat.le_trans two.1 ht.size,(ht.block B (by omega) (by omega)).trans two.2.1,(ht.block (B+1) (by omega) (by omega)).trans two.2.2⟩,?_⟩
 unfold OI;rw[Za h1 (Or.inl (by rw[hs];rfl)),hsc,←h.is]
 exact⟨hi,h1,(h.turn.trans (⟨rfl,rfl,rfl,Nat.le_refl _,λ_ _ _=>rfl⟩:zm (λk=>¬own k) X X.drew)).trans (ht.mono λk hk ho=>by have:=how2 k ho;omega),P,loc,rp,hset⟩
theorem OI.need (h:OI own W0 db d B L i X) (hoff:d.off=false):zcv (λ_=>False) db L.bx d.n (bk d.now) i X:=by
 obtain⟨hi,h1,_,P,loc,rp,h3⟩:=h;have ho:=zd9 hoff i hi h1
 exact⟨h3.bx,_,h3.disk.less (λ_ e=>e.elim),ho.nn,ho.off,λj hj _=>ho.rest j hj⟩
end
attribute [local go_sem] Oper.semAt_some Zn
section
variable {own : Nat → Prop} {W0 W : World} {db : Nat} {d : Dk} {B : Nat} {L : Yh} {i l B8 : Nat} {x : List Int} {fv u22 u23 u24 u25 u26 u27 u28 u29 u30 u31 u32 u33 u34 u35 u36 u40 u41 u42 u43 u44 u45 u46 u47 u48 u49 u50 u51 u52 u53 u54 u55 u56 u57 u58 u59 u60 u61 u62 u63 u64 u65 u66 u67 u68 u69 u70 u71 u72 u73 u74 u75 u76 u77 u78 u79 u80 u81 u82 u83 u84 u85 u86 u87 u88 u89 u90 u91 u92 u93 u94 u95 u96 u97 u98 u99 u100 u101 u102 u103 u104 u105 u106 u107 u108 u109 u110 u111 u112 u113 u114 u115 u116 u117 u118 u119 u120 u121 u122 u123 u124 u125 u126 u127 u128 u129 u130 u131 u132 u133 u134 u135 u136 u137 u138 u139 u140 u141 u142 u143 u144 u145 u146 u147 u148 u149 u150 u151 u152 u153 u154 u155 u156 u157 u158 u159 u160 : Value}
theorem zd4 (B:Nat) (I:Nat→World→Prop) (Ix:Code→World→Prop) (i:Nat) (W:World):¬LetsOut (Yx B I Ix i W):=λ⟨_,_,h⟩=>h
set_option maxRecDepth 100000 in
theorem zig (hI:OI own W0 db d B L i W) (hi:i<d.n) (hx:bk d.now i=x) (hx1:x.length=256) (hx2:BL x) (h8:W.heap[B8]? = some (.cells (zg x).toArray 136 (0,0))) (hB8:B+2≤B8) (hs:saidP zo x=none) (hz:x=zr) :
  oBody.wpIn (Fence.wide.inRound l) 3 Tryz.prog (Yx B (OI own W0 db d B L) (OX own W0 db d B L) i W) { tmps:=#[.pointer (some ⟨db,0,none⟩),.pointer (some ⟨L.bd,0,none⟩),.pointer (some ⟨L.b2,0,none⟩),.pointer (some ⟨L.b3,0,none⟩),.pointer (some ⟨L.b4,0,none⟩),.pointer (some ⟨L.b5,0,none⟩),.pointer (some ⟨L.b6,0,none⟩),.int .i64 (i:Int),.pointer (some ⟨B8,0,none⟩),undef,undef,undef,undef,undef,undef,undef,undef,undef,undef,undef,undef,undef,u22,u23,u24,u25,u26,u27,u28,u29,u30,u31,u32,u33,u34,u35,u36,fv,.int .i64 (i:Int),.agg (zg x).toArray,u40,u41,u42,u43,u44,u45,u46,u47,u48,u49,u50,u51,u52,u53,u54,u55,u56,u57,u58,u59,u60,u61,u62,u63,u64,u65,u66,u67,u68,u69,u70,u71,u72,u73,u74,u75,u76,u77,u78,u79,u80,u81,u82,u83,u84,u85,u86,u87,u88,u89,u90,u91,u92,u93,u94,u95,u96,u97,u98,u99,u100,u101,u102,u103,u104,u105,u106,u107,u108,u109,u110,u111,u112,u113,u114,u115,u116,u117,u118,u119,u120,u121,u122,u123,u124,u125,u126,u127,u128,u129,u130,u131,u132,u133,u134,u135,u136,u137,u138,u139,u140,u141,u142,u143,u144,u145,u146,u147,u148,u149,u150,u151,u152,u153,u154,u155,u156,u157,u158,u159,u160],defers:=[] } W:=by
 have HL:=zd4 B (OI own W0 db d B L) (OX own W0 db d B L) i W;have HS:=zd (psaid (W:=W) x hx1 hx2);unfold Us at HS;rw[hs] at HS;have HX1:=zd hx1;have H8:=zd h8;have HI:=zd hI;have HXE:=zd hx;have HSN:=zd hs;have HZ:=zd hz;have HIN:=zd hi;have HB8:=zd hB8;have HLL:=zd HL;clear hx1 hx2 h8 hI hx hs hz hi hB8 HL;generalize hPP:Yx B (OI own W0 db d B L) (OX own W0 db d B L) i W=PP at *;have HPP:=zd hPP;clear hPP
 delta oBody
 dsimp only[Tryz.f18];refine wpIn_block (wpIn_seq_k (λK1 hK1=>uo (by kernel_rfl) (λ⟨a,w,h⟩=>HLL.out ⟨a,w,h⟩) ?_))
 go_wp2_with (first
  | (refine wpList_load_row rfl 136 _ rfl B8 rfl 136 (zg x).toArray (0,0) _ H8.out Tryz.underlying136 rfl (Zi HX1.out) ?_)
  | (go_at_call 84;refine HS.out.mono ?_;rintro e W1 ⟨hg,k',i',c',v,rfl,⟨pv,nv,cv,rfl⟩,-⟩;have HG:=zd hg;clear hg))
 refine wpIn_seq_k (λK2 hK2=>wpIn_seq_k (λK3 hK3=>uo (by kernel_rfl) (λ⟨a,w,h⟩=>HLL.out ⟨a,w,h⟩) ?_))
 have HZL:Hid (zr.length=256):=(show _=_ from xt)
 have H9:Hid (∀w',W1.grownBy w' none→w'.heap[B8]? = some (.cells (zg x).toArray 136 (0,0))):=(show ∀w',_→_ from λw' hg=>((zh HG.out hg).block B8 (Array.getElem?_eq_some_iff.1 H8.out).1 (by simp)).trans H8.out)
 go_wp2_with (first
  | (refine ud (by kernel_rfl) (Vw _ 136 rfl B8 136 (zg x).toArray (0,0) _ rfl (H9.out _ (by repeat (first|exact zi _|refine zp ?_ _))) Tryz.underlying136 rfl (Zi HX1.out)) ?_)
  | (refine ud (by kernel_rfl) (Je rfl) ?_)
  | (refine ud (by kernel_rfl) (zb5 _ _ _ rfl rfl rfl HX1.out HZL.out false (by rw[HZ.out];simp)) ?_))
 gi_wp2_with fail
 rw[←HPP.out]
 exact⟨HI.out.two (zp HG.out _),(HI.out.clean HIN.out (by rw[HXE.out];exact HSN.out) (by rw[HXE.out];exact HZ.out)).grown (zp HG.out _)⟩
end
end Go.Proofs.YtbcbhlfjgobejaaGreat
