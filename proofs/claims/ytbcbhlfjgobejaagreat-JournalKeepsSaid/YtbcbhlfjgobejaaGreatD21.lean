/- A range over a function, its rounds told by their numbers: the iterator gives f 0, f 1 and so on, and leans on what the caller's invariant says. Conditions: as the theorem says. Keys of rows: how they lie, how they are told apart, how they are ordered (cmp.Compare, cmp.Or, Open$2): the walks. Conditions: none. What an opening makes of any disk: of each number the record of fewest parts: plain laws, no program. What an opening does to a disk, and what its records are: plain laws, no program. Open's rows in memory: a map of rows, each in blocks of its own. Plain laws of memory. Conditions: as the theorems say. -/
import Derived.Test.YtbcbhlfjgobejaaGreatD20
import Derived.RangeFuncNested
import Derived.RangeFuncLeaves
import Derived.Test.YtbcbhlfjgobejaaGreatD19
import Derived.Shelf.SlSortCmp.WholeK
import Derived.Deep.RegionHeld3
import Derived.Test.YtbcbhlfjgobejaaGreatD17
set_option linter.unusedSimpArgs false
set_option linter.unusedVariables false
namespace Go.Sf
open Go.RowKit Go
variable {F : Fence} {n : Nat} {P : Program}
def ItCall (F:Fence) (n:Nat) (P:Program) (gf:Nat) (lb:Array Value) (f:Nat→Array Value) (N:Nat) (Need:Nat→World→Prop) (W:World):Prop:=
 ∀(l:Nat) (J:Nat→World→Prop) (Jx:World→Prop),(∀i X Y,J i X→X.grownBy Y none→J i Y)→(∀i X,J i X→Need i X)→
  (∀i W1,J i W1→i<N→YieldAt F (n-1) P l (f i) W1 fun e W'=>(e = .returned (.bool true)∧J (i+1) W')∨(e = .returned (.bool false)∧Jx W'))→
  J 0 W→CallsIn F n P gf (#[.func (.yield l) #[] #[]]++lb) W fun e W'=>(∃v,e = .returned v)∧(J N W'∨Jx W')
def KeepsTwo (B:Nat) (W W':World):Prop:=W.heap.size≤W'.heap.size∧W'.heap[B]? = W.heap[B]?∧W'.heap[B+1]? = W.heap[B+1]?
def numPost (B:Nat) (I:Nat→World→Prop) (Ix:Code→World→Prop) (i:Nat) (W:World):Exit→Act→World→Prop
 | .normal,_,W'=>KeepsTwo B W W'∧I (i+1) W'
 | .ret,_,W'=>KeepsTwo B W W'∧Ix .ret W'
 | .exit id,_,W'=>KeepsTwo B W W'∧Ix (.exit id) W'
 | .goto t,_,W'=>KeepsTwo B W W'∧Ix (.goto t) W'
 | _,_,_=>False
theorem rangeFunc_num {g:Operand} {ps:Array Tmp} {assign body:Code} {Q:Exit→Act→World→Prop} {a:Act} {w:World}
  (hro:F.round=none) (h1:1≤n) {gf:Nat} {lb:Array Value} (hg:a.eval g = .func (.func gf) #[] lb) (hFg:F.fn gf) (eg:∀args w,(callFunc gf args).run P w = .ok (.enter gf args) w)
  {f:Nat→Array Value} (hps:∀i,(f i).size=ps.size) {N:Nat} {Need:Nat→World→Prop}
  (hcall:∀W1,w.grownBy W1 none→W1.heap.size=w.heap.size+2→ItCall F (n-1) P gf lb f N Need W1)
  (I:Nat→World→Prop) (Ix:Code→World→Prop) (hIg:∀i X Y,I i X→X.grownBy Y none→I i Y)
  (hIl:∀i X r r',I i X→X.heap[w.heap.size+1]? = some (.loop r)→I i (X.putObj (w.heap.size+1) (.loop r')))
  (hIx:∀c X r r',Ix c X→X.heap[w.heap.size+1]? = some (.loop r)→Ix c (X.putObj (w.heap.size+1) (.loop r')))
  (hIn:∀i X,I i X→Need i X)
  (h0:∀W1,w.grownBy W1 none→W1.heap.size=w.heap.size+2→I 0 W1)
  (Ax:Nat→Act→World→Prop) (hAx:∀i a' X r r',Ax i a' X→X.heap[w.heap.size+1]? = some (.loop r)→Ax i a' (X.putObj (w.heap.size+1) (.loop r')))
  (hassign:∀(l i:Nat) (W:World) (K:Act→World→Prop),w.heap.size+2≤W.heap.size→I i W→i<N→(∀a' W',KeepsTwo w.heap.size W W'→I i W'→Ax i a' W'→K a' W')→
   assign.wpIn (F.inRound l) (n-1-1) P (Exit.then K (fun _ _ _=>False)) { tmps:=(ps.zip (f i)).foldl (fun t (p,v)=>t.setIfInBounds p v) a.tmps,defers:=[] } W)
  (hbody:∀(l i:Nat) (a':Act) (W:World),w.heap.size+2≤W.heap.size→I i W→Ax i a' W→i<N→body.wpIn (F.inRound l) (n-1-1) P (numPost w.heap.size I Ix i W) a' W)
  (hdone:∀(W:World),I N W→W.heap[w.heap.size]? = some (.deferred (some []))→Q .normal { a with defers:={ target:=.collected w.heap.size,args:=#[] } :: a.defers } W)
  (hstop:∀(c:Code) (W:World),Ix c W→W.heap[w.heap.size]? = some (.deferred (some []))→c.wpIn F n P Q { a with defers:={ target:=.collected w.heap.size,args:=#[] } :: a.defers } W) :
  (Code.rangeFunc g ps assign body).wpIn F n P Q a w:=by
 refine wpIn_rangeFunc ?_
 intro fn hfn
 rw[hro]
 obtain⟨rec,hrec⟩:∃rec:LoopState→Option Code→Loop,rec=fun st pe=>{ state:=st,pending:=pe,fn,tmps:=a.tmps,params:=ps,assign,body,defers:=w.heap.size }:=⟨_,rfl⟩
 obtain⟨W1,hW1⟩:∃W1,(w.alloc (.deferred (some []))).alloc (.loop (rec .ready none))=W1:=⟨_,rfl⟩
 have hs1:W1.heap.size=w.heap.size+2:=by rw[←hW1];simp
 have hg1:w.grownBy W1 none:=by rw[←hW1];exact grown_trans (World.grownBy_alloc _ _ none) (World.grownBy_alloc _ _ none)
 have hL1:W1.heap[w.heap.size+1]? = some (.loop (rec .ready none)):=by
  have:=World.alloc_heap_new (w.alloc (.deferred (some []))) (.loop (rec .ready none))
  rw[←hW1];rwa [World.size_alloc] at this
 have hK1:W1.heap[w.heap.size]? = some (.deferred (some [])):=by
  rw[←hW1];exact(Below.heap_alloc _ _ _ (by simp)).trans (World.alloc_heap_new w _)
 refine⟨w.heap.size+1,[{ target:=.collected w.heap.size,args:=#[] }],W1,{ target:=.fn (.func gf) lb,args:=#[.func (.yield (w.heap.size+1)) #[] #[]] },W1,gf,
  #[.func (.yield (w.heap.size+1)) #[] #[]]++lb,W1,?_,?_,?_,?_,fun _=>h1,?_⟩
 ·rw[←hW1,hrec];exact run_enterLoop_outer _ _ _ _ _
 ·simp only[resolve,hg]
  simp[go_sem]
 ·intro f' hf';simp[Target.leads] at hf';subst hf';exact hFg
 ·simp[invoke,go_sem,eg]
 ·refine(hcall W1 hg1 hs1 (w.heap.size+1)
   (fun i W=>I i W∧W.heap[w.heap.size+1]? = some (.loop (rec .ready none))∧W.heap[w.heap.size]? = some (.deferred (some [])))
   (fun W=>∃c,Ix c W∧W.heap[w.heap.size+1]? = some (.loop (rec .done (some c)))∧W.heap[w.heap.size]? = some (.deferred (some [])))
   (fun i X Y hs hgr=>⟨hIg i X Y hs.1 hgr,(hgr.block _ (Array.getElem?_eq_some_iff.1 hs.2.1).1 (by simp)).trans hs.2.1,(hgr.block _ (Array.getElem?_eq_some_iff.1 hs.2.2).1 (by simp)).trans hs.2.2⟩)
   (fun i X hs=>hIn i X hs.1)
   ?_ ⟨h0 W1 hg1 hs1,hL1,hK1⟩).mono ?_
  ·rintro i Wa ⟨hi,hl,hk⟩ hlen
   have hy:=run_yield (P:=P) (args:=f i) hl (by rw[hrec];exact hps i)
   rw[hrec] at hy
   refine⟨fn,_,assign,body,hy,roundIn_of_wpIn hfn (hassign _ i Wa _ (by have:=(Array.getElem?_eq_some_iff.1 hl).1;omega) hi hlen ?_)⟩
   clear hy
   intro a' W hkf hia hax
   replace hl:=hkf.2.2.trans hl
   replace hk:=hkf.2.1.trans hk
   have hlt:w.heap.size+1<W.heap.size:=(Array.getElem?_eq_some_iff.1 hl).1
   have hl2:(W.putObj (w.heap.size+1) (.loop { rec .ready none with state:=.busy })).heap[w.heap.size+1]? = some (.loop { rec .ready none with state:=.busy }):=World.putObj_heap_same hlt
   have hk2:(W.putObj (w.heap.size+1) (.loop { rec .ready none with state:=.busy })).heap[w.heap.size]? = some (.deferred (some [])):=(World.putObj_heap_other (by omega)).trans hk
   refine⟨_,run_beginRound hl (by rw[hrec]),?_⟩
   refine wpIn_mono (hbody _ i a' _ (by rw[World.putObj_size];omega) (hIl i _ _ _ hia hl) (hAx i a' _ _ _ hax hl) hlen) ?_
   have fin:∀(jump:Option Code) (W3:World),KeepsTwo w.heap.size (W.putObj (w.heap.size+1) (.loop { rec .ready none with state:=.busy })) W3→
     (Instr.endRound (w.heap.size+1) jump).run P W3 = .ok (.bool jump.isNone) (W3.putObj (w.heap.size+1) (.loop (rec (if jump.isNone then .ready else .done) jump)))∧
     W3.heap[w.heap.size+1]? = some (.loop { rec .ready none with state:=.busy })∧
     (W3.putObj (w.heap.size+1) (.loop (rec (if jump.isNone then .ready else .done) jump))).heap[w.heap.size+1]? = some (.loop (rec (if jump.isNone then .ready else .done) jump))∧
     (W3.putObj (w.heap.size+1) (.loop (rec (if jump.isNone then .ready else .done) jump))).heap[w.heap.size]? = some (.deferred (some [])):=fun jump W3 hk3=>by
    have hl3:=hk3.2.2.trans hl2
    have hend:=run_endRound (P:=P) jump hl3
    rw[hrec] at hend ⊢
    exact⟨hend,by rw[hrec] at hl3;exact hl3,World.putObj_heap_same (Array.getElem?_eq_some_iff.1 hl3).1,(World.putObj_heap_other (by omega)).trans (hk3.2.1.trans hk2)⟩
   rintro e a3 W3 hp
   cases e with
   | normal=>
    obtain⟨hk3,hi3⟩:=hp
    obtain⟨hr,hl3,hl4,hk4⟩:=fin none W3 hk3
    exact⟨_,_,hr,.inl ⟨rfl,hIl _ _ _ _ hi3 hl3,hl4,hk4⟩⟩
   | ret=>
    obtain⟨hk3,hi3⟩:=hp
    obtain⟨hr,hl3,hl4,hk4⟩:=fin (some .ret) W3 hk3
    exact⟨_,_,hr,.inr ⟨rfl,.ret,hIx _ _ _ _ hi3 hl3,hl4,hk4⟩⟩
   | exit id=>
    obtain⟨hk3,hi3⟩:=hp
    obtain⟨hr,hl3,hl4,hk4⟩:=fin (some (.exit id)) W3 hk3
    exact⟨_,_,hr,.inr ⟨rfl,.exit id,hIx _ _ _ _ hi3 hl3,hl4,hk4⟩⟩
   | goto t=>
    obtain⟨hk3,hi3⟩:=hp
    obtain⟨hr,hl3,hl4,hk4⟩:=fin (some (.goto t)) W3 hk3
    exact⟨_,_,hr,.inr ⟨rfl,.goto t,hIx _ _ _ _ hi3 hl3,hl4,hk4⟩⟩
   | panic ch=>exact hp.elim
   | outgrown=>exact hp.elim
  ·rintro e W2 ⟨⟨v,rfl⟩,(⟨hi,hl,hk⟩|⟨c,hi,hl,hk⟩)⟩
   ·exact⟨none,_,by have:=run_endLoop (P:=P) hl (by rw[hrec];simp);rw[hrec] at this;exact this,hdone _ (hIl _ _ _ _ hi hl) ((World.putObj_heap_other (by omega)).trans hk)⟩
   ·exact⟨some c,_,by have:=run_endLoop (P:=P) hl (by rw[hrec];simp);rw[hrec] at this;exact this,hstop c _ (hIx _ _ _ _ hi hl) ((World.putObj_heap_other (by omega)).trans hk)⟩
end Go.Sf
namespace Go.Proofs.YtbcbhlfjgobejaaGreat
open Go.RowKit Go.Sf Go.Shelf Go.Sort Go.Lib
def encK (k:Key19):Value:=.agg #[.int .i64 k.k,.int .i64 (k.count:Int)]
def keyCells (k:Key19):List Value:=[.int .i64 k.k,.int .i64 (k.count:Int)]
def encRw (pb:Nat):Value:=.pointer (some ⟨pb,0,none⟩)
theorem encK_inj (a b:Key19) (h:encK a=encK b):a=b:=by
 cases a;cases b;simp[encK] at h;obtain⟨h1,h2⟩:=h;subst h1;congr 1;omega
theorem checkK (em:Bool) (k:Key19) (w:World):(Instr.checkKey em 10000 142 (encK k)).run Tryz.prog w = .ok () w:=by
 cases k;kernel_rfl
theorem equalK (a b:Key19) (w:World):(Op.equal 142 (encK a) (encK b)).run Tryz.prog w = .ok (decide (a=b)) w:=by
 obtain⟨k,n⟩:=a
 obtain⟨k',n'⟩:=b
 have e0:((n:Int) == (n':Int))=decide (n=n'):=by
  by_cases e:n=n'
  ·simp[e]
  ·simp[e];omega
 simp[Op.equal,Op.maxDepth,encK,go_sem,e0]
 by_cases e1:k=k' <;> by_cases e2:n=n' <;> simp[e1,e2]
theorem sameK (k:Key19):Instr.sameBits 10000 (encK k) (encK k)=true:=by
 cases k;simp[encK,Instr.sameBits]
theorem keK:KEnc Tryz.prog 142 encK:=kenc_wide (by kernel_rfl) checkK sameK encK_inj equalK
theorem infoK:(Tryz.prog.info? 142).map (fun i=>(i.zero,i.size,i.bytes))=some (some (.agg #[.int .i64 0,.int .i64 0]),2,16):=by kernel_rfl
def cmpI (a b:Int):Int:=if a<b then -1 else if b<a then 1 else 0
def ordK (a b:Key19):Int:=if cmpI a.k b.k=0 then cmpI (a.count:Int) (b.count:Int) else cmpI a.k b.k
set_option maxHeartbeats 1000000 in
theorem cmpI_any (a b:Int) (W:World):Calls Tryz.prog 91 #[.int .i64 a,.int .i64 b] W fun e w'=>e = .returned (.int .i64 (cmpI a b))∧w'=W:=by
 by_cases h1:a<b
 ·have hc:cmpI a b = -1:=by unfold cmpI;rw[if_pos h1]
  rw[hc]
  go_enter Tryz.func91,Tryz.ntmps91
  go_wp2
  go_ret
  exact⟨rfl,rfl⟩
 ·by_cases h2:b<a
  ·have hc:cmpI a b=1:=by unfold cmpI;rw[if_neg h1,if_pos h2]
   rw[hc]
   go_enter Tryz.func91,Tryz.ntmps91
   go_wp2
   go_ret
   exact⟨rfl,rfl⟩
  ·have hc:cmpI a b=0:=by unfold cmpI;rw[if_neg h1,if_neg h2]
   rw[hc]
   go_enter Tryz.func91,Tryz.ntmps91
   go_wp2
   go_ret
   exact⟨rfl,rfl⟩
set_option maxHeartbeats 1000000 in
theorem cmpN_any (a b:Int) (W:World):Calls Tryz.prog 92 #[.int .i64 a,.int .i64 b] W fun e w'=>e = .returned (.int .i64 (cmpI a b))∧w'=W:=by
 by_cases h1:a<b
 ·have hc:cmpI a b = -1:=by unfold cmpI;rw[if_pos h1]
  rw[hc]
  go_enter Tryz.func92,Tryz.ntmps92
  go_wp2
  go_ret
  exact⟨rfl,rfl⟩
 ·by_cases h2:b<a
  ·have hc:cmpI a b=1:=by unfold cmpI;rw[if_neg h1,if_pos h2]
   rw[hc]
   go_enter Tryz.func92,Tryz.ntmps92
   go_wp2
   go_ret
   exact⟨rfl,rfl⟩
  ·have hc:cmpI a b=0:=by unfold cmpI;rw[if_neg h1,if_neg h2]
   rw[hc]
   go_enter Tryz.func92,Tryz.ntmps92
   go_wp2
   go_ret
   exact⟨rfl,rfl⟩
set_option maxHeartbeats 1000000 in
theorem or_any (x y:Int) (g:Nat) (W:World) (h0:W.cell? ⟨g,0,none⟩=some (.int .i64 x)) (h1:W.cell? ⟨g,1,none⟩=some (.int .i64 y)):Calls Tryz.prog 90 #[.slice (some ⟨g,0,none⟩) 2 2] W fun e w'=>e = .returned (.int .i64 (if x=0 then y else x))∧w'=W:=by
 obtain⟨r,hr⟩:∃r,r=if x=0 then y else x:=⟨_,rfl⟩
 rw[←hr]
 go_enter Tryz.func90,Tryz.ntmps90
 go_wp2
 go_loopw [5,8] (fun _ i wr=>wr=W∧(i = .int .i64 0∨(i = .int .i64 1∧x=0)∨(i = .int .i64 2∧x=0∧y=0))) (fun _ i _=>2-(intOf i).toNat)
 case atStart=>exact⟨rfl,Or.inl rfl⟩
 case round=>
  obtain⟨rfl,rfl|⟨rfl,hx⟩|⟨rfl,hx,hy⟩⟩:=hrel
  ·by_cases hx:x=0
   ·subst hx
    go_wp2
    go_roundw
    case rel=>simp
    case measure=>simp[intOf]
   ·rw[if_neg hx] at hr
    subst hr
    go_wp2
    go_ret
    exact⟨rfl,rfl⟩
  ·subst hx
   rw[if_pos rfl] at hr
   subst hr
   by_cases hy:r=0
   ·subst hy
    go_wp2
    go_roundw
    case rel=>simp
    case measure=>simp[intOf]
   ·go_wp2
    go_ret
    exact⟨rfl,rfl⟩
  ·subst hx;subst hy
   rw[if_pos rfl] at hr
   subst hr
   go_wp2
   go_ret
   exact⟨rfl,rfl⟩
set_option maxHeartbeats 2000000 in
set_option maxRecDepth 100000 in
theorem orderK_any (a b:Key19) (W:World):Calls Tryz.prog 89 #[encK a,encK b] W fun e w'=>e = .returned (.int .i64 (ordK a b))∧∃q os',w'=grow (W.drewN q) os':=by
 obtain⟨ak,av⟩:=a
 obtain⟨bk,bv⟩:=b
 simp only[encK,ordK]
 have HB:=fun W=>cmpI_any ak bk W
 have HI:=fun W=>cmpN_any (av:Int) (bv:Int) W
 have HO:=fun g W=>or_any (cmpI ak bk) (cmpI (av:Int) (bv:Int)) g W
 generalize cmpI ak bk=x at *
 generalize cmpI (av:Int) (bv:Int)=y at *
 generalize (if x=0 then y else x)=r at *
 go_enter Tryz.func89,Tryz.ntmps89
 go_wp2
 have c0:((W.alloc (.cells #[.int .i64 ak,.int .i64 (av:Int)] 142)).alloc (.cells #[.int .i64 bk,.int .i64 (bv:Int)] 142)).cell? ⟨W.heap.size,0,none⟩=some (.int .i64 ak):=by simp[go_sem]
 have c1:((W.alloc (.cells #[.int .i64 ak,.int .i64 (av:Int)] 142)).alloc (.cells #[.int .i64 bk,.int .i64 (bv:Int)] 142)).cell? ⟨W.heap.size,1,none⟩=some (.int .i64 (av:Int)):=by simp[go_sem]
 have c2:((W.alloc (.cells #[.int .i64 ak,.int .i64 (av:Int)] 142)).alloc (.cells #[.int .i64 bk,.int .i64 (bv:Int)] 142)).cell? ⟨W.heap.size+1,0,none⟩=some (.int .i64 bk):=by simp[go_sem]
 have c3:((W.alloc (.cells #[.int .i64 ak,.int .i64 (av:Int)] 142)).alloc (.cells #[.int .i64 bk,.int .i64 (bv:Int)] 142)).cell? ⟨W.heap.size+1,1,none⟩=some (.int .i64 (bv:Int)):=by simp[go_sem]
 have hg:(W.alloc (.cells #[.int .i64 ak,.int .i64 (av:Int)] 142)).alloc (.cells #[.int .i64 bk,.int .i64 (bv:Int)] 142)=grow (W.drewN 0) #[.cells #[.int .i64 ak,.int .i64 (av:Int)] 142,.cells #[.int .i64 bk,.int .i64 (bv:Int)] 142]:=by rw[alloc_eq_grow,alloc_eq_grow,grow_grow];rfl
 generalize (W.alloc (.cells #[.int .i64 ak,.int .i64 (av:Int)] 142)).alloc (.cells #[.int .i64 bk,.int .i64 (bv:Int)] 142)=W2 at *
 have HG:=Lib.hid hg
 clear hg
 go_region_held3 (fun w'=>w'.cell? ⟨W.heap.size,0,none⟩=some (.int .i64 ak)∧w'.cell? ⟨W.heap.size,1,none⟩=some (.int .i64 (av:Int))∧w'.cell? ⟨W.heap.size+1,0,none⟩=some (.int .i64 bk)∧w'.cell? ⟨W.heap.size+1,1,none⟩=some (.int .i64 (bv:Int))) (go_keep)
  (first
  | (go_at_call 91;refine(HB _).mono ?_;rintro e w3 ⟨rfl,rfl⟩)
  | (go_at_call 92;refine(HI _).mono ?_;rintro e w3 ⟨rfl,rfl⟩)
  | (go_at_call 90;refine(HO _ _ (by simp[go_sem]) (by simp[go_sem])).mono ?_;rintro e w3 ⟨rfl,rfl⟩))
 all_goals
  go_wp2
  go_ret
  exact⟨rfl,1,_,by rw[HG.out,alloc_eq_grow,grow_grow];rfl⟩
open Go.Sf
open Classical in
noncomputable def opnD (d:Dk):Nat→Dk × Int × Bool
 | 0=>(d,0,false)
 | n+1=>if (opnD d n).2.1≠0 then opnD d n
   else if (saidP crcB (bk d.now n)).isSome=true∨bk d.now n=zeroB then opnD d n
   else ((opnD d n).1.written n [],(opnD d n).1.writeV n [],true)
theorem opnD_stop {d:Dk} {n:Nat} (h:(opnD d n).2.1≠0):opnD d (n+1)=opnD d n:=by
 conv=>lhs;unfold opnD
 rw[if_pos h]
theorem opnD_clean {d:Dk} {n:Nat} (h:(opnD d n).2.1=0) (hc:(saidP crcB (bk d.now n)).isSome=true∨bk d.now n=zeroB):opnD d (n+1)=opnD d n:=by
 conv=>lhs;unfold opnD
 rw[if_neg (by simp[h]),if_pos hc]
theorem opnD_scrub {d:Dk} {n:Nat} (h:(opnD d n).2.1=0) (h1:(saidP crcB (bk d.now n)).isSome=false) (h2:bk d.now n≠zeroB):opnD d (n+1)=((opnD d n).1.written n [],(opnD d n).1.writeV n [],true):=by
 conv=>lhs;unfold opnD
 rw[if_neg (by simp[h]),if_neg (by simp[h1,h2])]
theorem opnD_till {d:Dk} {n:Nat} (h:(opnD d n).2.1≠0):∀m,n≤m→opnD d m=opnD d n
 | 0,hm=>by
  obtain rfl:n=0:=by omega
  rfl
 | m+1,hm=>by
  rcases Nat.lt_or_ge m n with h1|h1
  ·obtain rfl:n=m+1:=by omega
   rfl
  ·have ih:=opnD_till h m h1
   rw[opnD_stop (by rw[ih];exact h),ih]
theorem padB_nil:padB []=zeroB:=rfl
structure OpnOk (d:Dk) (n:Nat):Prop where
 nn:(opnD d n).1.n=d.n
 off:(opnD d n).1.off=false
 late:(opnD d n).1.late.length≤d.late.length+n
 rest:∀i,n≤i→bk (opnD d n).1.now i=bk d.now i
 met:∀i,i<n→bk (opnD d n).1.now i=scrub crcB (bk d.now i)
 steps:(opnD d n).1.stepB=true∨(opnD d n).1.stepB=false
theorem written_zero {d:Dk} {i:Nat} (hoff:d.off=false) (hi:i<d.n):d.mayE i 0=0∧d.writeV i []=(if d.stepB=true then 0 else 180)∧d.written i []=(if d.stepB=true then (d.lay i zeroB).went else (d.lay i zeroB).gone):=by
 have hm:d.mayE i 0=0:=by
  unfold Dk.mayE
  rw[if_neg (by simp[hoff]),if_neg (by omega),if_neg (by omega)]
 refine⟨hm,?_,?_⟩
 ·unfold Dk.writeV
  simp[hm]
 ·unfold Dk.written
  simp[hm,padB_nil]
theorem opn_ok {d:Dk} (hoff:d.off=false):∀n,n≤d.n→(opnD d n).2.1=0→OpnOk d n
 | 0,_,_=>⟨rfl,hoff,by simp[opnD],fun i _=>rfl,fun i hi=>by omega,by cases(opnD d 0).1.stepB <;> simp⟩
 | n+1,hn,h=>by
  have h0:(opnD d n).2.1=0:=by
   apply Classical.byContradiction
   intro hne
   rw[opnD_stop hne] at h
   exact hne h
  have ih:=opn_ok hoff n (by omega) h0
  by_cases hc:(saidP crcB (bk d.now n)).isSome=true∨bk d.now n=zeroB
  ·have e:=opnD_clean h0 hc
   refine⟨by rw[e];exact ih.nn,by rw[e];exact ih.off,by rw[e];have:=ih.late;omega,fun i hi=>by rw[e];exact ih.rest i (by omega),fun i hi=>?_,by cases(opnD d (n+1)).1.stepB <;> simp⟩
   rw[e]
   rcases Nat.lt_or_ge i n with h1|h1
   ·exact ih.met i h1
   ·obtain rfl:i=n:=by omega
    rw[ih.rest i (Nat.le_refl _)]
    refine(scrub_clean ?_).symm
    rcases hc with hc|hc
    ·exact Or.inr (Option.isSome_iff_exists.1 hc)
    ·exact Or.inl hc
  ·have hc1:(saidP crcB (bk d.now n)).isSome=false:=by
    cases e:(saidP crcB (bk d.now n)).isSome
    ·rfl
    ·exact absurd (Or.inl e) hc
   have hc2:bk d.now n≠zeroB:=fun e=>hc (Or.inr e)
   have e:=opnD_scrub h0 hc1 hc2
   obtain⟨z1,z2,z3⟩:=written_zero ih.off (i:=n) (by rw[ih.nn];omega)
   rw[e] at h
   simp only at h
   have hs:(opnD d n).1.stepB=true:=by
    rw[z2] at h
    cases hb:(opnD d n).1.stepB
    ·rw[hb] at h;simp at h
    ·rfl
   rw[if_pos hs] at z3
   refine⟨?_,?_,?_,fun i hi=>?_,fun i hi=>?_,by cases(opnD d (n+1)).1.stepB <;> simp⟩
   ·rw[e];simp only;rw[z3];exact ih.nn
   ·rw[e];simp only;rw[z3];exact ih.off
   ·rw[e];simp only;rw[z3];have:=ih.late;simp[Dk.went,Dk.lay];omega
   ·rw[e];simp only;rw[z3]
    show bk (mput (opnD d n).1.now (n:Int) zeroB) i=_
    rw[bk_put_ne _ _ (by omega)]
    exact ih.rest i (by omega)
   ·rw[e];simp only;rw[z3]
    show bk (mput (opnD d n).1.now (n:Int) zeroB) i=_
    rcases Nat.lt_or_ge i n with h1|h1
    ·rw[bk_put_ne _ _ (by omega)]
     exact ih.met i h1
    ·obtain rfl:i=n:=by omega
     rw[bk_put_same]
     unfold scrub
     rw[if_neg (by rw[hc1];simp)]
section
variable {C : List Int → Nat} {f : Nat → List Int} {N : Nat}
theorem whole_bounds (hf:∀i,i<N→BL (f i)) {K:Key19} {r:RowM} (hr:mget (scanN C f N).rows K=some r) (hw:r.whole=true):BL (rowBytes r)∧(rowBytes r).length≤131072∧rowBlocks r≠[]∧(∀i∈rowBlocks r,i<N)∧r.cells.length≤570∧(∀c∈r.cells,c.2.length≤230)∧1≤K.k∧K.k≤4611686018427387904:=by
 have hs:=scan_ok (C:=C) f N
 have hro:=hs.row K r hr
 obtain⟨c1,c2,c3⟩:=hs.c K r hr
 have hall:=(whole_iff hro).1 hw
 have hcell:∀j,j<K.count→∃i b,r.cells[j]? = some (i,b)∧i<N∧saidP C (f i)=some ⟨K.k,j,K.count,b⟩:=fun j hj=>by
  obtain⟨⟨i,b⟩,hx⟩:=Option.isSome_iff_exists.1 (hall j hj)
  obtain⟨h1,h2⟩:=firstP_some hx
  exact⟨i,b,(hro.yes j hj _ hx).2,h1,h2⟩
 have hmem:∀c∈r.cells,∃j,j<K.count∧r.cells[j]? = some c∧c.1<N∧saidP C (f c.1)=some ⟨K.k,j,K.count,c.2⟩:=fun c hc=>by
  obtain⟨j,hj⟩:=List.getElem?_of_mem hc
  have hjl:j<K.count:=by rw[←hro.l1];exact(List.getElem?_eq_some_iff.1 hj).1
  obtain⟨i,b,h1,h2,h3⟩:=hcell j hjl
  rw[hj] at h1
  cases h1
  exact⟨j,hjl,hj,h2,h3⟩
 have hlen:∀m,m≤K.count→((r.cells.take m).flatMap (·.2)).length≤m*230∧(m<K.count→((r.cells.take m).flatMap (·.2)).length=m*230)
   ∧(m=K.count→((r.cells.take m).flatMap (·.2)).length≤131072):=fun m=>by
  induction m with
  | zero=>intro _;simp
  | succ m ih=>
   intro hm
   obtain⟨g1,g2,g3⟩:=ih (by omega)
   obtain⟨i,b,h1,h2,h3⟩:=hcell m (by omega)
   have hp:=(said_some h3).1
   have hl:=hp.l1
   simp only at hl
   have e:((r.cells.take (m+1)).flatMap (·.2)).length=((r.cells.take m).flatMap (·.2)).length+b.length:=by
    obtain⟨q1,q2⟩:=List.getElem?_eq_some_iff.1 h1
    rw[List.take_succ_eq_append_getElem q1,q2]
    simp
   rw[e]
   have g2:=g2 (by omega)
   refine⟨by omega,fun hlt=>?_,fun heq=>?_⟩
   ·have:=hp.full (by show m+1≠K.count;omega)
    simp only at this
    omega
   ·have:=(hp.last (by show m+1=K.count;omega)).1
    simp only at this
    omega
 have hfull:(r.cells.take K.count)=r.cells:=List.take_of_length_le (by rw[hro.l1];exact Nat.le_refl _)
 refine⟨fun x hx=>?_,?_,fun e=>?_,fun i hi=>?_,by rw[hro.l1];exact c2,fun c hc=>?_,c3,?_⟩
 ·obtain⟨c,hc,hxc⟩:=List.mem_flatMap.1 hx
  obtain⟨j,hj,_,hN,hsd⟩:=hmem c hc
  have he:=(said_some hsd).2
  have hb:=hf _ hN
  rw[←he] at hb
  refine hb x ?_
  unfold encP bodyP hdP
  simp only[List.mem_append]
  exact Or.inl (Or.inl (Or.inl (Or.inr hxc)))
 ·have:=(hlen K.count (Nat.le_refl _)).2.2 rfl
  rw[hfull] at this
  exact this
 ·have:r.cells.length=0:=by simpa[rowBlocks] using e
  rw[hro.l1] at this
  omega
 ·obtain⟨c,hc,rfl⟩:=List.mem_map.1 hi
  obtain⟨_,_,_,hN,_⟩:=hmem c hc
  exact hN
 ·obtain⟨_,_,_,_,hsd⟩:=hmem c hc
  exact(said_some hsd).1.l1
 ·obtain⟨i,b,_,_,h3⟩:=hcell 0 (by omega)
  exact(said_some h3).1.k2
theorem scan_next_k {M:Int} (hM:4611686018427387905≤M) (n:Nat):(scanN C f n).next≤M:=by
 induction n with
 | zero=>show(1:Int)≤M;omega
 | succ n ih=>
  unfold scanN scanStep
  cases e:saidP C (f n) with
  | none=>exact ih
  | some p=>
   have:=(said_some e).1.k2
   show max _ _≤M
   omega
end
open Go.RowKit Go.Sf
def inL (x:Nat × Nat × Nat) (k:Nat):Prop:=k=x.1∨k=x.2.1∨k=x.2.2
structure RwsAt (P:Nat→Prop) (base:Nat) (W:World) (mr:Nat) (loc:Key19→Nat × Nat × Nat) (rp:Nat→Prop) (rows:List (Key19 × RowM)):Prop where
 map:MapT W mr encK encRw (rows.map fun q=>(q.1,(loc q.1).1))
 row:∀K r,mget rows K=some r→∃cs,RwAt W rp (loc K).1 (loc K).2.1 (loc K).2.2 cs r
 ne:∀K r,mget rows K=some r→(loc K).1≠(loc K).2.1∧(loc K).1≠(loc K).2.2∧(loc K).2.1≠(loc K).2.2
 apart:∀K r K' r',mget rows K=some r→mget rows K'=some r'→K≠K'→∀k,inL (loc K) k→¬inL (loc K') k
 free:∀K r,mget rows K=some r→∀k,inL (loc K) k→¬rp k∧P k∧base≤k
 parts:∀k,rp k→P k∧base≤k
 mine:P mr
 low:mr<base
section
variable {P : Nat → Prop} {base : Nat} {W W' : World} {mr : Nat} {loc : Key19 → Nat × Nat × Nat} {rp : Nat → Prop} {rows : List (Key19 × RowM)}
theorem RwsAt.nodup (h:RwsAt P base W mr loc rp rows):(rows.map (·.1)).Nodup:=by
 have:=h.map.nodup
 simpa[List.map_map,Function.comp_def] using this
theorem RwsAt.turn (h:RwsAt P base W mr loc rp rows) (hs:∀k,P k→(k=mr∨base≤k)→W'.heap[k]? = W.heap[k]?):RwsAt P base W' mr loc rp rows where
 map:=h.map.same (hs mr h.mine (Or.inl rfl))
 row:=fun K r hr=>by
  obtain⟨cs,hc⟩:=h.row K r hr
  have keep:∀k,inL (loc K) k→W'.heap[k]? = W.heap[k]?:=fun k hk=>hs k (h.free K r hr k hk).2.1 (Or.inr (h.free K r hr k hk).2.2)
  exact⟨cs,hc.kept (keep _ (Or.inl rfl)) (keep _ (Or.inr (Or.inl rfl))) (keep _ (Or.inr (Or.inr rfl))) (fun k hk=>hs k (h.parts k hk).1 (Or.inr (h.parts k hk).2))⟩
 ne:=h.ne
 apart:=h.apart
 free:=h.free
 parts:=h.parts
 mine:=h.mine
 low:=h.low
theorem RwsAt.more (h:RwsAt P base W mr loc rp rows) {P':Nat→Prop} (hp:∀k,P k→P' k):RwsAt P' base W mr loc rp rows:=
 ⟨h.map,h.row,h.ne,h.apart,fun K r hr k hk=>⟨(h.free K r hr k hk).1,hp k (h.free K r hr k hk).2.1,(h.free K r hr k hk).2.2⟩,fun k hk=>⟨hp k (h.parts k hk).1,(h.parts k hk).2⟩,hp _ h.mine,h.low⟩
theorem RwsAt.lt (h:RwsAt P base W mr loc rp rows) {K:Key19} {r:RowM} (hr:mget rows K=some r) {k:Nat} (hk:inL (loc K) k):k<W.heap.size:=by
 obtain⟨cs,hc⟩:=h.row K r hr
 obtain⟨l1,l2,l3⟩:=hc.lt
 rcases hk with rfl|rfl|rfl <;> assumption
theorem RwAt.widen {rp':Nat→Prop} {pb ab tb:Nat} {cs:List (Nat × Value × List Int)} {r:RowM} (h:RwAt W rp pb ab tb cs r) (hs:∀k,rp k→rp' k):RwAt W rp' pb ab tb cs r:=
 ⟨h.box,h.at_,h.there,h.cells,fun c hc=>(h.rows c hc).mono hs,h.len,h.few⟩
theorem RwsAt.part (h:RwsAt P base W mr loc rp rows) {rp':Nat→Prop} (h1:∀k,rp k→rp' k) (h2:∀k,rp' k→rp k∨(W.heap.size≤k∧P k)) (hb:base≤W.heap.size):RwsAt P base W mr loc rp' rows where
 map:=h.map
 row:=fun K r hr=>by
  obtain⟨cs,hc⟩:=h.row K r hr
  exact⟨cs,hc.widen h1⟩
 ne:=h.ne
 apart:=h.apart
 free:=fun K r hr k hk=>⟨fun e=>by
  rcases h2 k e with e|e
  ·exact(h.free K r hr k hk).1 e
  ·have:=h.lt hr hk;omega,(h.free K r hr k hk).2⟩
 parts:=fun k hk=>by
  rcases h2 k hk with e|e
  ·exact h.parts k e
  ·exact⟨e.2,by omega⟩
 mine:=h.mine
 low:=h.low
theorem map_locs {f g:Key19→Nat × Nat × Nat} {rows:List (Key19 × RowM)} (h:∀q∈rows,f q.1=g q.1):rows.map (fun q=>(q.1,(f q.1).1))=rows.map (fun q=>(q.1,(g q.1).1)):=
 List.map_congr_left fun q hq=>by rw[h q hq]
theorem RwsAt.add (h:RwsAt P base W mr loc rp rows) {K:Key19} (hn:mget rows K=none) {W2:World} {pb ab tb:Nat} {cs:List (Nat × Value × List Int)} {r:RowM} (hg:W.grownBy W2 none) (hr:RwAt W2 (fun _=>False) pb ab tb cs r)
  (n1:pb≠ab∧pb≠tb∧ab≠tb) (hl:W.heap.size≤pb∧W.heap.size≤ab∧W.heap.size≤tb) (hP:P pb∧P ab∧P tb) (hlt:∀k,rp k→k<W.heap.size) (hb:base≤W.heap.size)
  (hm:MapT W' mr encK encRw (mput (rows.map fun q=>(q.1,(loc q.1).1)) K pb)) (hg2:W2.grownBy W' (some mr)) (hml:mr<W.heap.size):RwsAt P base W' mr (fun K'=>if K'=K then (pb,ab,tb) else loc K') rp (rows ++ [(K,r)]):=by
 have hne:∀q∈rows,q.1≠K:=mget_none_iff.1 hn
 have hne2:∀q∈rows.map (fun q=>(q.1,(loc q.1).1)),q.1≠K:=fun q hq=>by
  obtain⟨q0,hq0,rfl⟩:=List.mem_map.1 hq
  exact hne q0 hq0
 have hput:rows ++ [(K,r)]=mput rows K r:=(mput_new hne r).symm
 have hs2:∀k,k<W.heap.size→k≠mr→W'.heap[k]? = W.heap[k]?:=fun k hk hkm=>(hg2.block k (Nat.lt_of_lt_of_le hk hg.size) (fun e=>hkm (by injection e))).trans (hg.block k hk (by simp))
 have hs3:∀k,W.heap.size≤k→k<W2.heap.size→W'.heap[k]? = W2.heap[k]?:=fun k hk hk2=>hg2.block k hk2 (fun e=>by injection e with e;omega)
 obtain⟨l1,l2,l3⟩:=hr.lt
 have hK:∀K' r',mget (rows ++ [(K,r)]) K'=some r'→(K'=K∧r'=r)∨(K'≠K∧mget rows K'=some r'):=fun K' r' h'=>by
  rw[hput] at h'
  by_cases e:K'=K
  ·subst e
   rw[mget_mput_same] at h'
   cases h'
   exact Or.inl ⟨rfl,rfl⟩
  ·rw[mget_mput_ne _ _ e] at h'
   exact Or.inr ⟨e,h'⟩
 refine⟨?_,fun K' r' h'=>?_,fun K' r' h'=>?_,fun K1 r1 K2 r2 h1 h2 h12 k hk=>?_,fun K' r' h' k hk=>?_,h.parts,h.mine,h.low⟩
 ·rw[mput_new hne2] at hm
  rw[List.map_append]
  have:rows.map (fun q=>(q.1,((fun K'=>if K'=K then (pb,ab,tb) else loc K') q.1).1))=rows.map (fun q=>(q.1,(loc q.1).1)):=map_locs (f:=fun K'=>if K'=K then (pb,ab,tb) else loc K') (g:=loc) fun q hq=>if_neg (hne q hq)
  rw[this]
  simpa using hm
 ·rcases hK K' r' h' with ⟨rfl,rfl⟩|⟨e,h''⟩
  ·simp only[if_true]
   exact⟨cs,(hr.kept (hs3 _ hl.1 l1) (hs3 _ hl.2.1 l2) (hs3 _ hl.2.2 l3) (fun k hk=>hk.elim)).widen (fun k hk=>hk.elim)⟩
  ·simp only[if_neg e]
   obtain⟨cs',hc⟩:=h.row K' r' h''
   have hnm:∀k,inL (loc K') k→k≠mr:=fun k hk=>by have:=(h.free K' r' h'' k hk).2.2;have:=h.low;omega
   refine⟨cs',hc.kept (hs2 _ (h.lt h'' (Or.inl rfl)) (hnm _ (Or.inl rfl))) (hs2 _ (h.lt h'' (Or.inr (Or.inl rfl))) (hnm _ (Or.inr (Or.inl rfl)))) (hs2 _ (h.lt h'' (Or.inr (Or.inr rfl))) (hnm _ (Or.inr (Or.inr rfl)))) (fun k hk=>hs2 k (hlt k hk) ?_)⟩
   have:=(h.parts k hk).2;have:=h.low;omega
 ·rcases hK K' r' h' with ⟨rfl,rfl⟩|⟨e,h''⟩
  ·simp only[if_true];exact n1
  ·simp only[if_neg e];exact h.ne K' r' h''
 ·rcases hK K1 r1 h1 with ⟨rfl,rfl⟩|⟨e1,h1'⟩
  ·rcases hK K2 r2 h2 with ⟨rfl,rfl⟩|⟨e2,h2'⟩
   ·exact absurd rfl h12
   ·simp only[if_true] at hk
    simp only[if_neg e2]
    intro hk2
    have:=h.lt h2' hk2
    rcases hk with rfl|rfl|rfl <;> omega
  ·rcases hK K2 r2 h2 with ⟨rfl,rfl⟩|⟨e2,h2'⟩
   ·simp only[if_neg e1] at hk
    simp only[if_true]
    intro hk2
    have:=h.lt h1' hk
    rcases hk2 with rfl|rfl|rfl <;> omega
   ·simp only[if_neg e1] at hk
    simp only[if_neg e2]
    exact h.apart K1 r1 K2 r2 h1' h2' h12 k hk
 ·rcases hK K' r' h' with ⟨rfl,rfl⟩|⟨e,h''⟩
  ·simp only[if_true] at hk
   rcases hk with rfl|rfl|rfl
   ·exact⟨fun e=>by have:=hlt _ e;have:=hl.1;omega,hP.1,by have:=hl.1;omega⟩
   ·exact⟨fun e=>by have:=hlt _ e;have:=hl.2.1;omega,hP.2.1,by have:=hl.2.1;omega⟩
   ·exact⟨fun e=>by have:=hlt _ e;have:=hl.2.2;omega,hP.2.2,by have:=hl.2.2;omega⟩
  ·simp only[if_neg e] at hk
   exact h.free K' r' h'' k hk
theorem map_fst {rows:List (Key19 × RowM)} (hn:(rows.map (·.1)).Nodup) {K:Key19} {r:RowM} (h:mget rows K=some r) (r':RowM) (f:Key19→Nat):(mput rows K r').map (fun q=>(q.1,f q.1))=rows.map (fun q=>(q.1,f q.1)):=by
 induction rows with
 | nil=>cases h
 | cons p t ih=>
  simp only[List.map_cons,List.nodup_cons] at hn
  unfold mput
  by_cases e:p.1=K
  ·rw[if_pos e];simp[e]
  ·rw[if_neg e]
   unfold mget at h
   rw[if_neg e] at h
   simp only[List.map_cons]
   rw[ih hn.2 h]
theorem RwsAt.set (h:RwsAt P base W mr loc rp rows) {K:Key19} {r r':RowM} (hr:mget rows K=some r) {cs:List (Nat × Value × List Int)} (h':RwAt W' rp (loc K).1 (loc K).2.1 (loc K).2.2 cs r') (ht:Turn (fun k=>k=(loc K).2.1∨k=(loc K).2.2) W W') (hlt:∀k,rp k→k<W.heap.size) (hml:mr<W.heap.size):RwsAt P base W' mr loc rp (mput rows K r'):=by
 have hnd:=h.nodup
 have hfree:=h.free K r hr
 have hK:∀K1 r1,mget (mput rows K r') K1=some r1→(K1=K∧r1=r')∨(K1≠K∧mget rows K1=some r1):=fun K1 r1 h1=>by
  by_cases e:K1=K
  ·subst e
   rw[mget_mput_same] at h1
   cases h1
   exact Or.inl ⟨rfl,rfl⟩
  ·rw[mget_mput_ne _ _ e] at h1
   exact Or.inr ⟨e,h1⟩
 have hget:∀K1 r1,mget (mput rows K r') K1=some r1→∃r0,mget rows K1=some r0:=fun K1 r1 h1=>by
  rcases hK K1 r1 h1 with ⟨rfl,rfl⟩|⟨_,h2⟩
  ·exact⟨r,hr⟩
  ·exact⟨r1,h2⟩
 refine⟨?_,fun K1 r1 h1=>?_,fun K1 r1 h1=>?_,fun K1 r1 K2 r2 h1 h2=>?_,fun K1 r1 h1=>?_,h.parts,h.mine,h.low⟩
 ·rw[map_fst hnd hr r' (fun q=>(loc q).1)]
  refine h.map.same (ht.block mr hml (fun e=>?_))
  have hl:=h.low
  rcases e with e|e
  ·have:=(hfree _ (Or.inr (Or.inl rfl))).2.2;omega
  ·have:=(hfree _ (Or.inr (Or.inr rfl))).2.2;omega
 ·rcases hK K1 r1 h1 with ⟨rfl,rfl⟩|⟨e,h2⟩
  ·exact⟨cs,h'⟩
  ·obtain⟨cs1,hc⟩:=h.row K1 r1 h2
   have hap:=h.apart K1 r1 K r h2 hr e
   have keep:∀k,inL (loc K1) k→W'.heap[k]? = W.heap[k]?:=fun k hk=>ht.block k (h.lt h2 hk) (fun e2=>hap k hk (by rcases e2 with e2|e2;exact Or.inr (Or.inl e2);exact Or.inr (Or.inr e2)))
   exact⟨cs1,hc.kept (keep _ (Or.inl rfl)) (keep _ (Or.inr (Or.inl rfl))) (keep _ (Or.inr (Or.inr rfl))) (fun k hk=>ht.block k (hlt k hk) (fun e2=>by
    rcases e2 with e2|e2
    ·exact(hfree k (Or.inr (Or.inl e2))).1 hk
    ·exact(hfree k (Or.inr (Or.inr e2))).1 hk))⟩
 ·obtain⟨r0,h0⟩:=hget K1 r1 h1
  exact h.ne K1 r0 h0
 ·obtain⟨r0,h0⟩:=hget K1 r1 h1
  obtain⟨r0',h0'⟩:=hget K2 r2 h2
  exact h.apart K1 r0 K2 r0' h0 h0'
 ·obtain⟨r0,h0⟩:=hget K1 r1 h1
  exact h.free K1 r0 h0
end
theorem mput_mput {K V:Type} [DecidableEq K] (m:List (K × V)) (k:K) (v u:V):mput (mput m k v) k u=mput m k u:=by
 induction m with
 | nil=>simp[mput]
 | cons p t ih=>
  by_cases e:p.1=k
  ·simp[mput,e]
  ·simp[mput,e,ih]
end Go.Proofs.YtbcbhlfjgobejaaGreat
