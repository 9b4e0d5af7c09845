/- A range over a function (a method's value, too), its rounds told by their numbers; the iterator has rows of its own, which the rounds leave. Conditions: as the theorem says. The journal's old records, one by one: the iterator's walk. Conditions: the journal's box stays as it lies; few records. -/
import Derived.Test.YtbcbhlfjgobejaaGreatD21
import Derived.RangeFuncNested
import Derived.RangeFuncLeaves
import Derived.Test.YtbcbhlfjgobejaaGreatD29
import Derived.Test.YtbcbhlfjgobejaaGreatD22
set_option linter.unusedSimpArgs false
set_option linter.unusedVariables false
namespace Go.Sf
open Go.RowKit Go
variable {F : Fence} {n : Nat} {P : Program}
def ItCallP (F:Fence) (n:Nat) (P:Program) (gf:Nat) (la lb:Array Value) (f:Nat→Array Value) (N:Nat) (Need:Nat→World→Prop) (W:World):Prop:=
 ∀(l:Nat) (J:(Nat→Prop)→Nat→World→Prop) (Jx:World→Prop),(∀pr i X Y,J pr i X→X.grownBy Y none→J pr i Y)→(∀pr i X Y,J pr i X→X.grownBy Y none→J (fun k=>pr k∨(X.heap.size≤k∧k<Y.heap.size)) i Y)→(∀pr i X,J pr i X→Need i X)→
  (∀pr i W1,J pr i W1→i<N→YieldAt F (n-1) P l (f i) W1 fun e W'=>(e = .returned (.bool true)∧J pr (i+1) W'∧∀k,pr k→W'.heap[k]? = W1.heap[k]?)∨(e = .returned (.bool false)∧Jx W'))→
  J (fun _=>False) 0 W→CallsIn F n P gf (la ++ #[.func (.yield l) #[] #[]]++lb) W fun e W'=>(∃v,e = .returned v)∧((∃pr,J pr N W')∨Jx W')
def numPostP (B:Nat) (pr:Nat→Prop) (I:(Nat→Prop)→Nat→World→Prop) (Ix:Code→World→Prop) (i:Nat) (W:World):Exit→Act→World→Prop
 | .normal,_,W'=>KeepsTwo B W W'∧I pr (i+1) W'∧∀k,pr k→W'.heap[k]? = W.heap[k]?
 | .ret,_,W'=>KeepsTwo B W W'∧Ix .ret W'
 | .exit id,_,W'=>KeepsTwo B W W'∧Ix (.exit id) W'
 | .goto t,_,W'=>KeepsTwo B W W'∧Ix (.goto t) W'
 | _,_,_=>False
theorem rangeFunc_numP {g:Operand} {ps:Array Tmp} {assign body:Code} {Q:Exit→Act→World→Prop} {a:Act} {w:World}
  (hro:F.round=none) (h1:1≤n) {gf:Nat} {la lb:Array Value} (hg:a.eval g = .func (.func gf) la lb) (hFg:F.fn gf) (eg:∀args w,(callFunc gf args).run P w = .ok (.enter gf args) w)
  {f:Nat→Array Value} (hps:∀i,(f i).size=ps.size) {N:Nat} {Need:Nat→World→Prop}
  (hcall:∀W1,w.grownBy W1 none→W1.heap.size=w.heap.size+2→ItCallP F (n-1) P gf la lb f N Need W1)
  (I:(Nat→Prop)→Nat→World→Prop) (Ix:Code→World→Prop) (hIg:∀pr i X Y,I pr i X→X.grownBy Y none→I pr i Y) (hIm:∀pr i X Y,I pr i X→X.grownBy Y none→I (fun k=>pr k∨(X.heap.size≤k∧k<Y.heap.size)) i Y)
  (hIl:∀pr i X r r',I pr i X→X.heap[w.heap.size+1]? = some (.loop r)→I pr i (X.putObj (w.heap.size+1) (.loop r')))
  (hIx:∀c X r r',Ix c X→X.heap[w.heap.size+1]? = some (.loop r)→Ix c (X.putObj (w.heap.size+1) (.loop r')))
  (hIn:∀pr i X,I pr i X→Need i X)
  (h0:∀W1,w.grownBy W1 none→W1.heap.size=w.heap.size+2→I (fun _=>False) 0 W1)
  (Ax:Nat→Act→World→Prop) (hAx:∀i a' X r r',Ax i a' X→X.heap[w.heap.size+1]? = some (.loop r)→Ax i a' (X.putObj (w.heap.size+1) (.loop r')))
  (hassign:∀(pr:Nat→Prop) (l i:Nat) (W:World) (K:Act→World→Prop),w.heap.size+2≤W.heap.size→I pr i W→i<N→(∀a' W',KeepsTwo w.heap.size W W'→I pr i W'→Ax i a' W'→(∀k,pr k→W'.heap[k]? = W.heap[k]?)→K a' W')→
   assign.wpIn (F.inRound l) (n-1-1) P (Exit.then K (fun _ _ _=>False)) { tmps:=(ps.zip (f i)).foldl (fun t (p,v)=>t.setIfInBounds p v) a.tmps,defers:=[] } W)
  (hbody:∀(pr:Nat→Prop) (l i:Nat) (a':Act) (W:World),w.heap.size+2≤W.heap.size→I pr i W→Ax i a' W→i<N→body.wpIn (F.inRound l) (n-1-1) P (numPostP w.heap.size pr I Ix i W) a' W)
  (hdone:∀(pr:Nat→Prop) (W:World),I pr N W→W.heap[w.heap.size]? = some (.deferred (some []))→Q .normal { a with defers:={ target:=.collected w.heap.size,args:=#[] } :: a.defers } W)
  (hstop:∀(c:Code) (W:World),Ix c W→W.heap[w.heap.size]? = some (.deferred (some []))→c.wpIn F n P Q { a with defers:={ target:=.collected w.heap.size,args:=#[] } :: a.defers } W) :
  (Code.rangeFunc g ps assign body).wpIn F n P Q a w:=by
 refine wpIn_rangeFunc ?_
 intro fn hfn
 rw[hro]
 obtain⟨rec,hrec⟩:∃rec:LoopState→Option Code→Loop,rec=fun st pe=>{ state:=st,pending:=pe,fn,tmps:=a.tmps,params:=ps,assign,body,defers:=w.heap.size }:=⟨_,rfl⟩
 obtain⟨W1,hW1⟩:∃W1,(w.alloc (.deferred (some []))).alloc (.loop (rec .ready none))=W1:=⟨_,rfl⟩
 have hs1:W1.heap.size=w.heap.size+2:=by rw[←hW1];simp
 have hg1:w.grownBy W1 none:=by rw[←hW1];exact grown_trans (World.grownBy_alloc _ _ none) (World.grownBy_alloc _ _ none)
 have hL1:W1.heap[w.heap.size+1]? = some (.loop (rec .ready none)):=by
  have:=World.alloc_heap_new (w.alloc (.deferred (some []))) (.loop (rec .ready none))
  rw[←hW1];rwa [World.size_alloc] at this
 have hK1:W1.heap[w.heap.size]? = some (.deferred (some [])):=by
  rw[←hW1];exact(Below.heap_alloc _ _ _ (by simp)).trans (World.alloc_heap_new w _)
 refine⟨w.heap.size+1,[{ target:=.collected w.heap.size,args:=#[] }],W1,{ target:=.fn (.func gf) lb,args:=la ++ #[.func (.yield (w.heap.size+1)) #[] #[]] },W1,gf,
  la ++ #[.func (.yield (w.heap.size+1)) #[] #[]]++lb,W1,?_,?_,?_,?_,fun _=>h1,?_⟩
 ·rw[←hW1,hrec];exact run_enterLoop_outer _ _ _ _ _
 ·simp only[resolve,hg]
  simp[go_sem]
 ·intro f' hf';simp[Target.leads] at hf';subst hf';exact hFg
 ·simp[invoke,go_sem,eg]
 ·refine(hcall W1 hg1 hs1 (w.heap.size+1)
   (fun pr i W=>I pr i W∧W.heap[w.heap.size+1]? = some (.loop (rec .ready none))∧W.heap[w.heap.size]? = some (.deferred (some []))∧∀k,pr k→w.heap.size+2≤k)
   (fun W=>∃c,Ix c W∧W.heap[w.heap.size+1]? = some (.loop (rec .done (some c)))∧W.heap[w.heap.size]? = some (.deferred (some [])))
   (fun pr i X Y hs hgr=>⟨hIg pr i X Y hs.1 hgr,(hgr.block _ (Array.getElem?_eq_some_iff.1 hs.2.1).1 (by simp)).trans hs.2.1,(hgr.block _ (Array.getElem?_eq_some_iff.1 hs.2.2.1).1 (by simp)).trans hs.2.2.1,hs.2.2.2⟩)
   (fun pr i X Y hs hgr=>⟨hIm pr i X Y hs.1 hgr,(hgr.block _ (Array.getElem?_eq_some_iff.1 hs.2.1).1 (by simp)).trans hs.2.1,(hgr.block _ (Array.getElem?_eq_some_iff.1 hs.2.2.1).1 (by simp)).trans hs.2.2.1,fun k hk=>hk.elim (hs.2.2.2 k) (fun e=>by have:=(Array.getElem?_eq_some_iff.1 hs.2.1).1;omega)⟩)
   (fun pr i X hs=>hIn pr i X hs.1)
   ?_ ⟨h0 W1 hg1 hs1,hL1,hK1,fun _ hk=>hk.elim⟩).mono ?_
  ·rintro pr i Wa ⟨hi,hl,hk,hpr⟩ hlen
   have hy:=run_yield (P:=P) (args:=f i) hl (by rw[hrec];exact hps i)
   rw[hrec] at hy
   refine⟨fn,_,assign,body,hy,roundIn_of_wpIn hfn (hassign pr _ i Wa _ (by have:=(Array.getElem?_eq_some_iff.1 hl).1;omega) hi hlen ?_)⟩
   clear hy
   intro a' W hkf hia hax hpk
   replace hl:=hkf.2.2.trans hl
   replace hk:=hkf.2.1.trans hk
   have hlt:w.heap.size+1<W.heap.size:=(Array.getElem?_eq_some_iff.1 hl).1
   have hl2:(W.putObj (w.heap.size+1) (.loop { rec .ready none with state:=.busy })).heap[w.heap.size+1]? = some (.loop { rec .ready none with state:=.busy }):=World.putObj_heap_same hlt
   have hk2:(W.putObj (w.heap.size+1) (.loop { rec .ready none with state:=.busy })).heap[w.heap.size]? = some (.deferred (some [])):=(World.putObj_heap_other (by omega)).trans hk
   refine⟨_,run_beginRound hl (by rw[hrec]),?_⟩
   refine wpIn_mono (hbody pr _ i a' _ (by rw[World.putObj_size];omega) (hIl pr i _ _ _ hia hl) (hAx i a' _ _ _ hax hl) hlen) ?_
   have fin:∀(jump:Option Code) (W3:World),KeepsTwo w.heap.size (W.putObj (w.heap.size+1) (.loop { rec .ready none with state:=.busy })) W3→
     (Instr.endRound (w.heap.size+1) jump).run P W3 = .ok (.bool jump.isNone) (W3.putObj (w.heap.size+1) (.loop (rec (if jump.isNone then .ready else .done) jump)))∧
     W3.heap[w.heap.size+1]? = some (.loop { rec .ready none with state:=.busy })∧
     (W3.putObj (w.heap.size+1) (.loop (rec (if jump.isNone then .ready else .done) jump))).heap[w.heap.size+1]? = some (.loop (rec (if jump.isNone then .ready else .done) jump))∧
     (W3.putObj (w.heap.size+1) (.loop (rec (if jump.isNone then .ready else .done) jump))).heap[w.heap.size]? = some (.deferred (some [])):=fun jump W3 hk3=>by
    have hl3:=hk3.2.2.trans hl2
    have hend:=run_endRound (P:=P) jump hl3
    rw[hrec] at hend ⊢
    exact⟨hend,by rw[hrec] at hl3;exact hl3,World.putObj_heap_same (Array.getElem?_eq_some_iff.1 hl3).1,(World.putObj_heap_other (by omega)).trans (hk3.2.1.trans hk2)⟩
   rintro e a3 W3 hp
   cases e with
   | normal=>
    obtain⟨hk3,hi3,hp3⟩:=hp
    obtain⟨hr,hl3,hl4,hk4⟩:=fin none W3 hk3
    refine⟨_,_,hr,.inl ⟨rfl,⟨hIl _ _ _ _ _ hi3 hl3,hl4,hk4,hpr⟩,fun k hk5=>?_⟩⟩
    have hk6:=hpr k hk5
    rw[World.putObj_heap_other (by omega),hp3 k hk5,World.putObj_heap_other (by omega),hpk k hk5]
   | ret=>
    obtain⟨hk3,hi3⟩:=hp
    obtain⟨hr,hl3,hl4,hk4⟩:=fin (some .ret) W3 hk3
    exact⟨_,_,hr,.inr ⟨rfl,.ret,hIx _ _ _ _ hi3 hl3,hl4,hk4⟩⟩
   | exit id=>
    obtain⟨hk3,hi3⟩:=hp
    obtain⟨hr,hl3,hl4,hk4⟩:=fin (some (.exit id)) W3 hk3
    exact⟨_,_,hr,.inr ⟨rfl,.exit id,hIx _ _ _ _ hi3 hl3,hl4,hk4⟩⟩
   | goto t=>
    obtain⟨hk3,hi3⟩:=hp
    obtain⟨hr,hl3,hl4,hk4⟩:=fin (some (.goto t)) W3 hk3
    exact⟨_,_,hr,.inr ⟨rfl,.goto t,hIx _ _ _ _ hi3 hl3,hl4,hk4⟩⟩
   | panic ch=>exact hp.elim
   | outgrown=>exact hp.elim
  ·rintro e W2 ⟨⟨v,rfl⟩,(⟨pr,hi,hl,hk,_⟩|⟨c,hi,hl,hk⟩)⟩
   ·exact⟨none,_,by have:=run_endLoop (P:=P) hl (by rw[hrec];simp);rw[hrec] at this;exact this,hdone pr _ (hIl _ _ _ _ _ hi hl) ((World.putObj_heap_other (by omega)).trans hk)⟩
   ·exact⟨some c,_,by have:=run_endLoop (P:=P) hl (by rw[hrec];simp);rw[hrec] at this;exact this,hstop c _ (hIx _ _ _ _ hi hl) ((World.putObj_heap_other (by omega)).trans hk)⟩
end Go.Sf
namespace Go.Proofs.YtbcbhlfjgobejaaGreat
open Go.RowKit Go.Sf Go.Shelf
attribute [local go_sem] Oper.semAt_some
def olds (ks:List Int) (a:Int):List Int:=ks.takeWhile fun k=>decide (k<a)
theorem olds_lt (a:Int):∀(ks:List Int) (i:Nat),i<(olds ks a).length→∃h:i<ks.length,ks[i]<a
 | [],i,h=>by simp[olds] at h
 | k :: t,i,h=>by
  unfold olds at h
  rw[List.takeWhile_cons] at h
  split at h
  ·rename_i hk
   cases i with
   | zero=>exact⟨by simp,by simpa using hk⟩
   | succ i=>
    obtain⟨h1,h2⟩:=olds_lt a t i (by unfold olds;simpa using h)
    exact⟨by simp;omega,by simpa using h2⟩
  ·simp at h
theorem olds_ge (a:Int):∀(ks:List Int) (h:(olds ks a).length<ks.length),¬ks[(olds ks a).length]<a
 | [],h=>by simp at h
 | k :: t,h=>by
  by_cases hk:k<a
  ·have e:olds (k :: t) a=k :: olds t a:=by unfold olds;rw[List.takeWhile_cons,if_pos (by simpa using hk)]
   have h2:=olds_ge a t (by rw[e] at h;simpa using h)
   simp only[e,List.length_cons,List.getElem_cons_succ]
   exact h2
  ·have e:olds (k :: t) a = []:=by unfold olds;rw[List.takeWhile_cons,if_neg (by simpa using hk)]
   simp only[e,List.length_nil,List.getElem_cons_zero]
   exact hk
theorem olds_le (ks:List Int) (a:Int):(olds ks a).length≤ks.length:=List.Sublist.length_le (List.takeWhile_sublist _)
theorem olds_get (a:Int):∀(ks:List Int) (i:Nat) (h:i<(olds ks a).length) (h2:i<ks.length),(olds ks a)[i]=ks[i]
 | [],i,h,_=>by simp[olds] at h
 | k :: t,i,h,h2=>by
  by_cases hk:k<a
  ·have e:olds (k :: t) a=k :: olds t a:=by unfold olds;rw[List.takeWhile_cons,if_pos (by simpa using hk)]
   cases i with
   | zero=>simp only[e,List.getElem_cons_zero]
   | succ i=>
    have:=olds_get a t i (by rw[e] at h;simpa using h) (by simpa using h2)
    simp only[e,List.getElem_cons_succ]
    exact this
  ·have e:olds (k :: t) a = []:=by unfold olds;rw[List.takeWhile_cons,if_neg (by simpa using hk)]
   rw[e] at h;simp at h
def OldNeed (jb st:Nat) (ks:List Int) (a:Int) (i:Nat) (X:World):Prop:=
 X.cell? ⟨jb,0,none⟩=some (.pointer (some ⟨st,0,none⟩))∧X.cell? ⟨jb,1,none⟩=some (.int .i64 a)∧
 (i=0→Calls Tryz.prog 26 #[.pointer (some ⟨st,0,none⟩)] X fun e w'=>X.grownBy w' none∧∃v,e = .returned v∧w'.ownsRow X.heap.size 2 1 v ks.length (ks.map (Value.int .i64)))
set_option maxRecDepth 100000 in
set_option maxHeartbeats 4000000 in
theorem old_it (jb st:Nat) (ks:List Int) (a:Int) (hks:ks.length≤1000000) (W:World) :
  ItCallP Fence.wide 4 Tryz.prog 181 #[.pointer (some ⟨jb,0,none⟩)] #[] (fun i=>#[.int .i64 (ks.getD i 0)]) (olds ks a).length (OldNeed jb st ks a) W:=by
 intro l J Jx hJg hJm hJn hY h0
 have fT:Fence.wide.fn 26:=trivial
 have HM:=Lib.hid hJm
 have HN:=Lib.hid hJn
 have HY:=Lib.hid hY
 have H0:=Lib.hid h0
 obtain⟨c0,c1,hnum⟩:=hJn _ 0 W h0
 have HNUM:=Lib.hid (hnum rfl)
 have hjl:=cell_lt c0
 clear hJg hJm hJn hY h0 hnum
 obtain⟨N,hN⟩:∃N,N=(olds ks a).length:=⟨_,rfl⟩
 have HLT:Hid (∀i,i<N→∃h:i<ks.length,ks[i]<a):=(fun i hi=>olds_lt a ks i (by rw[←hN];exact hi))
 have HGE:Hid (∀h:N<ks.length,¬ks[N]<a):=(by subst hN;exact olds_ge a ks)
 have hle:N≤ks.length:=by rw[hN];exact olds_le ks a
 rw[←hN] at HY ⊢
 clear hN
 refine callsIn_of_wp Tryz.func181 rfl trivial ?_ rfl
 simp only[Tryz.ntmps181,List.size_toArray,List.length_cons,List.length_nil,Nat.reduceAdd,Nat.reduceSub,Array.replicate_succ,Array.replicate_zero,List.push_toArray,List.append_toArray,List.nil_append,List.cons_append]
 gi_wp2_with (gi_at_call 26;refine(callsIn_wide.2 HNUM.out).mono ?_;rintro e W1 ⟨hg1,v,rfl,hrow⟩;obtain⟨p,c,rfl⟩:=row_slice hrow;have HROW:=Lib.hid hrow;have HG1:=Lib.hid hg1;clear hrow hg1)
 have HC:Hid (∀i,(hi:i<ks.length)→∃g,p=some ⟨g,0,none⟩∧W.heap.size≤g∧g<W1.heap.size∧W1.cell? ⟨g,i,none⟩=some (.int .i64 ks[i])):=(fun i hi=>by
  rcases HROW.out.2 with ⟨h1,h2⟩|⟨g,cap,cur,h1,hb,hg,_⟩
  ·omega
  ·injection h1 with e1
   have hc:=World.ownsRow.cells HROW.out (g:=g) (by rw[e1];rfl) i (.int .i64 ks[i]) (by simp[hi])
   rw[addr_at] at hc
   exact⟨g,e1,hb,(Array.getElem?_eq_some_iff.1 hg).1,hc⟩)
 obtain⟨pr,hpr⟩:∃pr:Nat→Prop,pr=fun k=>False∨(W.heap.size≤k∧k<W1.heap.size):=⟨_,rfl⟩
 have HJ1:Hid (J pr 0 W1∧∀g,p=some ⟨g,0,none⟩→W1.heap[g]? = W1.heap[g]?):=(show _∧_ from ⟨by rw[hpr];exact HM.out _ 0 W W1 H0.out HG1.out,fun _ _=>rfl⟩)
 have HPR:Hid (∀g,W.heap.size≤g→g<W1.heap.size→pr g):=(fun g h1 h2=>by rw[hpr];exact Or.inr ⟨h1,h2⟩)
 clear c0 c1 HNUM HROW HM H0 hpr hjl
 gi_loopw [12] (fun s wr=>∃i:Nat,i≤N∧s = .int .i64 (i:Int)∧Hid (J pr i wr∧∀g,p=some ⟨g,0,none⟩→wr.heap[g]? = W1.heap[g]?)) (fun s _=>N-(intOf s).toNat)
 case atStart=>exact⟨0,Nat.zero_le _,rfl,HJ1⟩
 case round=>
  obtain⟨i,hi,rfl,hj⟩:=hrel
  obtain⟨c0,c1,-⟩:=HN.out pr i wr hj.out.1
  have hjl:=cell_lt c0
  rcases Nat.lt_or_ge i N with hlt|hge
  ·obtain⟨him,hka⟩:=HLT.out i hlt
   obtain⟨g,rfl,hg1,hg2,hc⟩:=HC.out i him
   have hcw:wr.cell? ⟨g,i,none⟩=some (.int .i64 ks[i]):=(World.cell?_of_block (a:=⟨g,i,none⟩) (hj.out.2 g rfl)).trans hc
   have hgl:=cell_lt hcw
   obtain⟨fn,tmps,assign,body,hy,hRn⟩:=HY.out pr i wr hj.out.1 hlt
   have HKP:=Lib.hid (HPR.out g hg1 hg2)
   have HJO:=Lib.hid hj.out.2
   simp only[List.getD_eq_getElem?_getD,List.getElem?_eq_getElem him,Option.getD_some] at hy
   clear hc hg1 hg2 hj
   generalize ks[i]=kk at *
   gi_wp2
   refine hRn.mono ?_
   rintro e W4 (⟨rfl,hJ4,hk4⟩|⟨rfl,hJx4⟩)
   ·have HJ4:Hid (J pr (i+1) W4∧∀g',some (⟨g,0,none⟩:Addr)=some ⟨g',0,none⟩→W4.heap[g']? = W1.heap[g']?):=(show _∧_ from ⟨hJ4,fun g' e=>by
     injection e with e
     injection e with e
     subst e
     exact(hk4 g HKP.out).trans (HJO.out g rfl)⟩)
    clear hJ4 hk4
    gi_wp2
    go_roundw
    case rel=>exact⟨i+1,by omega,by go_num,HJ4⟩
    case measure=>simp[intOf];omega
   ·gi_wp2
    refine bodyPost_ret (results_none rfl _ _ _) rfl ?_
    exact⟨⟨_,rfl⟩,.inr hJx4⟩
  ·obtain rfl:i=N:=by omega
   have HJN:=Lib.hid hj.out.1
   by_cases him:i<ks.length
   ·obtain⟨g,rfl,hg1,hg2,hc⟩:=HC.out i him
    have hcw:wr.cell? ⟨g,i,none⟩=some (.int .i64 ks[i]):=(World.cell?_of_block (a:=⟨g,i,none⟩) (hj.out.2 g rfl)).trans hc
    have hgl:=cell_lt hcw
    have hka:=HGE.out him
    clear hc hg1 hg2 hj
    generalize ks[i]=kk at *
    gi_wp2
    refine⟨fun _ e=>(by cases e),?_⟩
    gi_wp2
    refine bodyPost_ret (results_none rfl _ _ _) rfl ?_
    exact⟨⟨_,rfl⟩,.inl ⟨pr,HJN.out⟩⟩
   ·clear hj
    gi_wp2
    go_end0
    exact⟨⟨_,rfl⟩,.inl ⟨pr,HJN.out⟩⟩
end Go.Proofs.YtbcbhlfjgobejaaGreat
