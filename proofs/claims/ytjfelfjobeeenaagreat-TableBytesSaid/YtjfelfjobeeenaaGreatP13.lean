/- fields.Writer's Byte, Short, Long; slices.Grow of nothing: the walks. Conditions: a writer that lies in memory, not too many bytes. The document's table in memory. Conditions: none. The document's table: what its readers answer: the walks. Conditions: a table that lies in memory. The document's table: Call, Value, Look, Wanted, count: the walks. Conditions: a table that lies in memory. -/
import Derived.Test.YtjfelfjobeeenaaGreatP12
import Derived.Laws.OwnMore
namespace Go.Proofs.YtjfelfjobeeenaaGreat
set_option linter.unusedVariables false
set_option linter.unusedSimpArgs false
open Go.RowKit Go.Sf
def Puts (W:World) (wb base:Nat) (v:Value) (l:List Int) (e:Ending) (w':World):Prop:=
 e = .returned (.tuple #[])∧∃v',WBox w' wb base v' l∧Turn (fun k=>k=wb∨v.ownBlock=some k) W w'∧(v.ownBlock=v'.ownBlock∨∀g,v'.ownBlock=some g→W.heap.size≤g)
section
variable {W : World} {wb base : Nat} {v : Value} {l : List Int}
set_option maxRecDepth 100000 in
theorem byte_any (h:WBox W wb base v l) (hb:base≤wb) (hl:l.length≤100000000) (N:Nat) (hN:N<256):Calls Tryz.prog 49 #[.pointer (some ⟨wb,0,none⟩),.int .u8 N] W fun e w'=>Puts W wb base v (l++be 1 N) e w':=by
 have H:=Lib.hid h
 clear h
 go_enter Tryz.func49,Tryz.ntmps49
 go_wp2_with (go_at_call 107;refine(put8 H.out hb hl N hN).mono ?_;rintro e w' ⟨rfl,hq⟩;have HQ:=Lib.hid hq;clear hq)
 first|go_end0|refine bodyPost_ret (results_none rfl _ _ _) rfl ?_
 exact⟨rfl,HQ.out⟩
set_option maxRecDepth 100000 in
theorem short_any (h:WBox W wb base v l) (hb:base≤wb) (hl:l.length≤100000000) (N:Nat) (hN:N<256 ^ 2):Calls Tryz.prog 50 #[.pointer (some ⟨wb,0,none⟩),.int .u16 N] W fun e w'=>Puts W wb base v (l++be 2 N) e w':=by
 have H:=Lib.hid h
 clear h
 go_enter Tryz.func50,Tryz.ntmps50
 go_wp2_with (go_at_call 108;refine(put16 H.out hb hl N hN).mono ?_;rintro e w' ⟨rfl,hq⟩;have HQ:=Lib.hid hq;clear hq)
 first|go_end0|refine bodyPost_ret (results_none rfl _ _ _) rfl ?_
 exact⟨rfl,HQ.out⟩
set_option maxRecDepth 100000 in
theorem long_any (h:WBox W wb base v l) (hb:base≤wb) (hl:l.length≤100000000) (N:Nat) (hN:N<256 ^ 8):Calls Tryz.prog 51 #[.pointer (some ⟨wb,0,none⟩),.int .u64 N] W fun e w'=>Puts W wb base v (l++be 8 N) e w':=by
 have H:=Lib.hid h
 clear h
 go_enter Tryz.func51,Tryz.ntmps51
 go_wp2_with (go_at_call 109;refine(put64 H.out hb hl N hN).mono ?_;rintro e w' ⟨rfl,hq⟩;have HQ:=Lib.hid hq;clear hq)
 first|go_end0|refine bodyPost_ret (results_none rfl _ _ _) rfl ?_
 exact⟨rfl,HQ.out⟩
end
theorem row_front {W:World} {base:Nat} {e:TypeId} {g n cap:Nat} {xs:List Value} (h:W.ownsRow base e 1 (.slice (some ⟨g,0,none⟩) n cap) n xs):W.ownsRow base e 1 (.slice (some ⟨g,0,none⟩) 0 cap) 0 []:=by
 refine⟨by simp,?_⟩
 rcases h.2 with ⟨e1,_⟩|⟨b,c,cur,e1,h1,hb,r1,r2,r3,r4⟩
 ·cases e1
 ·cases e1
  exact .inr ⟨g,cap,cur,rfl,h1,hb,Nat.zero_le _,r2,r3,by simp⟩
theorem wpList_zeros {P:Program} (w:World) {ops:Array Oper} {rest:List Oper} {o:Oper} {a:Act} {Q:Exit→Act→World→Prop} (hgd:o.guard=none) (s x:Operand) (t tn e:TypeId) (hop:o.op = .call { callee:=.builtin .append,args:=#[s,x],argTypes:=#[t,tn] })
  (i:TypeInfo) (kn kq:IntKind) (ht:P.underlying t=some (.slice e)) (htn:P.underlying tn=some (.int kn)) (hi:P.info? e=some i) (hz:i.zero=some (.int .u8 0)) (hsize:i.size=1) (hby:i.bytes=1)
  (base:Nat) (v:Value) (n:Nat) (xs:List Value) (hs:a.eval s=v) (hown:w.ownsRow base e 1 v n xs) (k:Nat) (hx:a.eval x = .int kq k) (h0:0<k) (hk:n+k≤1000000000) (hbase:base≤w.heap.size)
  (h:∀g cap w',w'.ownsRow base e 1 (.slice (some ⟨g,0,none⟩) (n+k) cap) (n+k) (xs++List.replicate k (.int .u8 0))→w.grownBy w' v.ownBlock→(v.ownBlock=some g∨g=w.heap.size)→wpList P ops Q rest (a.put o.dst (.slice (some ⟨g,0,none⟩) (n+k) cap)) w') :
  wpList P ops Q (o :: rest) a w:=by
 obtain⟨g,cap,w',hr,h1,h2,h3⟩:=run_zeros_own (P:=P) w base t tn o.type e i kn kq ht htn hi hz hsize hby v n xs hown k h0 hk hbase
 exact Go.Lib.wpList_append_run w hgd s x t tn hop v (.int kq k) hs hx _ _ hr (h g cap w' h1 h2 h3)
set_option maxHeartbeats 2000000 in
set_option maxRecDepth 100000 in
theorem grow_any (n:Nat) (hn:n≤1000000000) (W:World):Calls Tryz.prog 189 #[.slice none 0 0,.int .i64 n] W fun e w'=>∃v,e = .returned v∧w'.ownsRow W.heap.size 5 1 v 0 []∧W.grownBy w' none∧(n=0→v = .slice none 0 0):=by
 obtain⟨i0,hi,hz0,hz1,hz2⟩:=info_parts infoU8
 rcases Nat.eq_zero_or_pos n with h0|h0
 ·subst h0
  go_enter Tryz.func189,Tryz.ntmps189
  go_wp2
  go_ret
  exact⟨_,rfl,World.ownsRow_nil _ _ _ _,grown_refl _,fun _=>rfl⟩
 ·go_enter Tryz.func189,Tryz.ntmps189
  go_wp2_with (at_builtin;refine wpList_zeros _ rfl _ _ 25 3 5 rfl i0 .i64 .i64 Tryz.underlying25 Tryz.underlying3 hi hz0 hz1 hz2 W.heap.size _ 0 [] rfl (World.ownsRow_nil _ _ _ _) n rfl h0 (by omega) (by simp) ?_;intro g cap w1 ho hg hat;have HO:=Lib.hid ho;have HG:=Lib.hid hg;clear ho hg hat)
  go_ret
  exact⟨_,rfl,row_front HO.out,HG.out,fun h=>by omega⟩
open Go.RowKit Go.Sf Go.Shelf
def cellsC (c:Int × CallT):List Value:=[.int .i64 c.1,.int .i64 c.2.req,.int .i64 c.2.ver,.bool c.2.done,.int .i64 c.2.code]
def cellsV (v:ByteArray × Val):List Value:=[.string v.1,.int .i64 v.2.ver,.bool v.2.dead]
def cellsP (p:ID × Pend):List Value:=[.string p.1.key,.int .i64 p.1.ver,.int .i64 p.2.client,.int .i64 p.2.req]
def cellsH (h:RHold):List Value:=[.string h.id.key,.int .i64 h.id.ver,.int .i64 h.node,.int .i64 h.inc,.bool h.ref]
theorem flat_at {α:Type} (enc:α→List Value) (sz:Nat) (he:∀x,(enc x).length=sz):∀(l:List α) (i j:Nat) (hi:i<l.length),j<sz→(l.flatMap enc)[i*sz+j]? = (enc l[i])[j]?
 | [],i,j,hi,_=>by simp at hi
 | x :: r,0,j,hi,hj=>by
  simp only[List.flatMap_cons,Nat.zero_mul,Nat.zero_add,List.getElem_cons_zero]
  rw[List.getElem?_append_left (by rw[he];exact hj)]
 | x :: r,i+1,j,hi,hj=>by
  simp only[List.flatMap_cons,List.getElem_cons_succ]
  rw[List.getElem?_append_right (by rw[he,Nat.succ_mul];omega),he]
  have e:(i+1)*sz+j-sz=i*sz+j:=by rw[Nat.succ_mul];omega
  rw[e]
  exact flat_at enc sz he r i j (by simpa using hi) hj
theorem flat_size {α:Type} (enc:α→List Value) (sz:Nat) (he:∀x,(enc x).length=sz):∀(l:List α),(l.flatMap enc).length=l.length*sz
 | []=>by simp
 | x :: r=>by simp only[List.flatMap_cons,List.length_append,he,flat_size enc sz he r,List.length_cons,Nat.succ_mul];omega
def SRow {α:Type} (W:World) (E:TypeId) (sz:Nat) (enc:α→List Value) (v:Value) (l:List α):Prop:=W.ownsRow 0 E sz v l.length (l.flatMap enc)
section
variable {α : Type} {W W' : World} {E : TypeId} {sz : Nat} {enc : α → List Value} {v : Value} {l : List α}
theorem SRow.form (h:SRow W E sz enc v l):∃p cap,v = .slice p l.length cap∧cap≤9223372036854775807∧l.length≤cap:=by
 rcases h.2 with ⟨e1,h0⟩|⟨b,c,cur,e1,_,_,r1,r2,_⟩
 ·exact⟨none,0,by rw[e1,h0],by omega,by omega⟩
 ·exact⟨_,_,e1,by unfold maxLen at r2;omega,r1⟩
theorem SRow.at (he:∀x,(enc x).length=sz) (h:SRow W E sz enc v l):l = []∨∃g cap,v = .slice (some ⟨g,0,none⟩) l.length cap∧(∀i,(hi:i<l.length)→∀j u,(enc l[i])[j]? = some u→W.cell? ⟨g,i*sz+j,none⟩=some u)∧∀i,W.frozen? ⟨g,i,none⟩=false:=by
 rcases h.2 with ⟨e1,h0⟩|⟨b,c,cur,e1,_,hb,r1,r2,r3,r4⟩
 ·exact Or.inl (List.eq_nil_of_length_eq_zero h0)
 ·refine Or.inr ⟨b,c,e1,fun i hi j u hu=>?_,fun i=>by simp[World.frozen?,hb]⟩
  have hj:j<sz:=by
   have:=(List.getElem?_eq_some_iff.1 hu).1
   rw[he] at this
   exact this
  have h2:=h
  unfold SRow at h2
  rw[e1] at h2
  have hlt:i*sz+j<l.length*sz:=by
   have:(i+1)*sz≤l.length*sz:=Nat.mul_le_mul_right _ hi
   rw[Nat.succ_mul] at this
   omega
  rw[h2.cellAt _ hlt,flat_at enc sz he l i j hi hj]
  exact hu
theorem SRow.same (h:SRow W E sz enc v l) (hs:∀g,v.ownBlock=some g→W'.heap[g]? = W.heap[g]?):SRow W' E sz enc v l:=by
 refine⟨h.1,?_⟩
 rcases h.2 with hn|⟨b,cap,cur,rfl,h1,hb,h3⟩
 ·exact .inl hn
 ·exact .inr ⟨b,cap,cur,rfl,h1,(hs b (by simp[Value.ownBlock])).trans hb,h3⟩
theorem SRow.lt (h:SRow W E sz enc v l) {g:Nat} (hg:v.ownBlock=some g):g<W.heap.size:=(World.ownsRow.lt h g hg).2
theorem SRow.kind (h:SRow W E sz enc v l) {g:Nat} (hg:v.ownBlock=some g):∃c,W.heap[g]? = some (.cells c E (0,0)):=by
 rcases h.2 with ⟨rfl,_⟩|⟨b,cap,cur,rfl,_,hb,_⟩
 ·simp[Value.ownBlock] at hg
 ·simp[Value.ownBlock] at hg
  subst hg
  exact⟨_,hb⟩
theorem SRow.grown (h:SRow W E sz enc v l) {r:Option Nat} (hg:W.grownBy W' r) (hr:∀g,v.ownBlock=some g→r≠some g):SRow W' E sz enc v l:=
 h.same fun g hg2=>hg.block g (h.lt hg2) (fun e=>hr g hg2 e.symm)
end
theorem own_ne {W:World} {α:Type} {E E':TypeId} {sz:Nat} {enc:α→List Value} {v:Value} {l:List α} (h:SRow W E sz enc v l) {g:Nat} {c:Array Value} {fr:Nat × Nat} (hg:W.heap[g]? = some (.cells c E' fr)) (hne:E≠E'):v.ownBlock≠some g:=by
 intro e
 obtain⟨c',h2⟩:=h.kind e
 rw[hg] at h2
 cases h2
 exact hne rfl
def cellsI (n:Int):List Value:=[.int .i64 n]
theorem lenC:∀x,(cellsC x).length=5:=fun _=>rfl
theorem lenV:∀x,(cellsV x).length=3:=fun _=>rfl
theorem lenP:∀x,(cellsP x).length=4:=fun _=>rfl
theorem lenH:∀x,(cellsH x).length=5:=fun _=>rfl
theorem lenI:∀x,(cellsI x).length=1:=fun _=>rfl
structure RMem (W:World) (rb:Nat) (R:RTab) (vL vC vV vP vH:Value):Prop where
 box:W.heap[rb]? = some (.cells #[.int .i64 R.N,.int .i64 R.W,.int .i64 R.offers,.int .i64 R.next,vL,vC,vV,vP,vH] 52 (0,0))
 lives:SRow W 2 1 cellsI vL R.lives
 calls:SRow W 193 5 cellsC vC R.calls
 vals:SRow W 202 3 cellsV vV R.vals
 pends:SRow W 190 4 cellsP vP R.pends
 holds:SRow W 197 5 cellsH vH R.holds
section
variable {W W' : World} {rb : Nat} {R : RTab} {vL vC vV vP vH : Value}
theorem RMem.c0 (h:RMem W rb R vL vC vV vP vH):W.cell? ⟨rb,0,none⟩=some (.int .i64 R.N):=(cell_block h.box 0).trans rfl
theorem RMem.c1 (h:RMem W rb R vL vC vV vP vH):W.cell? ⟨rb,1,none⟩=some (.int .i64 R.W):=(cell_block h.box 1).trans rfl
theorem RMem.c2 (h:RMem W rb R vL vC vV vP vH):W.cell? ⟨rb,2,none⟩=some (.int .i64 R.offers):=(cell_block h.box 2).trans rfl
theorem RMem.c3 (h:RMem W rb R vL vC vV vP vH):W.cell? ⟨rb,3,none⟩=some (.int .i64 R.next):=(cell_block h.box 3).trans rfl
theorem RMem.c4 (h:RMem W rb R vL vC vV vP vH):W.cell? ⟨rb,4,none⟩=some vL:=(cell_block h.box 4).trans rfl
theorem RMem.c5 (h:RMem W rb R vL vC vV vP vH):W.cell? ⟨rb,5,none⟩=some vC:=(cell_block h.box 5).trans rfl
theorem RMem.c6 (h:RMem W rb R vL vC vV vP vH):W.cell? ⟨rb,6,none⟩=some vV:=(cell_block h.box 6).trans rfl
theorem RMem.c7 (h:RMem W rb R vL vC vV vP vH):W.cell? ⟨rb,7,none⟩=some vP:=(cell_block h.box 7).trans rfl
theorem RMem.c8 (h:RMem W rb R vL vC vV vP vH):W.cell? ⟨rb,8,none⟩=some vH:=(cell_block h.box 8).trans rfl
theorem RMem.free (h:RMem W rb R vL vC vV vP vH) (i:Nat):W.frozen? ⟨rb,i,none⟩=false:=free_block h.box i
theorem RMem.lt (h:RMem W rb R vL vC vV vP vH):rb<W.heap.size:=(Array.getElem?_eq_some_iff.1 h.box).1
theorem RMem.grown (h:RMem W rb R vL vC vV vP vH) (hg:W.grownBy W' none):RMem W' rb R vL vC vV vP vH:=
 ⟨(hg.block rb h.lt (by simp)).trans h.box,h.lives.grown hg (by simp),h.calls.grown hg (by simp),h.vals.grown hg (by simp),h.pends.grown hg (by simp),h.holds.grown hg (by simp)⟩
end
def RAt (bs:Nat→Prop) (W:World) (rb:Nat) (R:RTab):Prop:=
 ∃vL vC vV vP vH,RMem W rb R vL vC vV vP vH∧bs rb∧(∀g,vL.ownBlock=some g→bs g)∧(∀g,vC.ownBlock=some g→bs g)∧(∀g,vV.ownBlock=some g→bs g)∧(∀g,vP.ownBlock=some g→bs g)∧(∀g,vH.ownBlock=some g→bs g)
theorem RAt.grown {bs:Nat→Prop} {W W':World} {rb:Nat} {R:RTab} (h:RAt bs W rb R) (hg:W.grownBy W' none):RAt bs W' rb R:=by
 obtain⟨vL,vC,vV,vP,vH,h1,h2⟩:=h
 exact⟨vL,vC,vV,vP,vH,h1.grown hg,h2⟩
theorem RAt.lt {bs:Nat→Prop} {W:World} {rb:Nat} {R:RTab} (h:RAt bs W rb R):rb<W.heap.size:=by
 obtain⟨vL,vC,vV,vP,vH,h1,h2⟩:=h
 exact h1.lt
theorem RAt.turn {bs cs:Nat→Prop} {W W':World} {rb:Nat} {R:RTab} (h:RAt bs W rb R) (ht:∀k,k<W.heap.size→bs k→W'.heap[k]? = W.heap[k]?):RAt bs W' rb R:=by
 obtain⟨vL,vC,vV,vP,vH,h1,h2,h3,h4,h5,h6,h7⟩:=h
 refine⟨vL,vC,vV,vP,vH,⟨(ht rb h1.lt h2).trans h1.box,h1.lives.same fun g hg=>ht g (h1.lives.lt hg) (h3 g hg),h1.calls.same fun g hg=>ht g (h1.calls.lt hg) (h4 g hg),h1.vals.same fun g hg=>ht g (h1.vals.lt hg) (h5 g hg),h1.pends.same fun g hg=>ht g (h1.pends.lt hg) (h6 g hg),h1.holds.same fun g hg=>ht g (h1.holds.lt hg) (h7 g hg)⟩,h2,h3,h4,h5,h6,h7⟩
theorem RAt.mono {bs cs:Nat→Prop} {W:World} {rb:Nat} {R:RTab} (h:RAt bs W rb R) (hs:∀k,k<W.heap.size→bs k→cs k):RAt cs W rb R:=by
 obtain⟨vL,vC,vV,vP,vH,h1,h2,h3,h4,h5,h6,h7⟩:=h
 exact⟨vL,vC,vV,vP,vH,h1,hs _ h1.lt h2,fun g hg=>hs g (h1.lives.lt hg) (h3 g hg),fun g hg=>hs g (h1.calls.lt hg) (h4 g hg),fun g hg=>hs g (h1.vals.lt hg) (h5 g hg),fun g hg=>hs g (h1.pends.lt hg) (h6 g hg),fun g hg=>hs g (h1.holds.lt hg) (h7 g hg)⟩
def firstI {α:Type} (f:α→Bool) (l:List α):Int:=match l.findIdx? f with
 | some k=>k
 | none=>-1
def NoneB {α:Type} (f:α→Bool) (l:List α) (k:Nat):Prop:=∀j,(hj:j<l.length)→j<k→f l[j]=false
section
variable {α : Type} {f : α → Bool} {l : List α} {k : Nat}
theorem noneB_zero:NoneB f l 0:=fun j _ h=>by omega
theorem NoneB.step (h:NoneB f l k) (hk:k<l.length) (hf:f l[k]=false):NoneB f l (k+1):=fun j hj h2=>by
 by_cases e:j=k
 ·subst e;exact hf
 ·exact h j hj (by omega)
theorem firstI_hit (h:NoneB f l k) (hk:k<l.length) (hf:f l[k]=true):firstI f l=k:=by
 have:l.findIdx? f=some k:=by
  rw[List.findIdx?_eq_some_iff_getElem]
  exact⟨hk,hf,fun j hj=>by simp[h j (by omega) hj]⟩
 unfold firstI;rw[this]
theorem firstI_none (h:NoneB f l k) (hk:l.length≤k):firstI f l = -1:=by
 have:l.findIdx? f=none:=by
  rw[List.findIdx?_eq_none_iff]
  intro x hx
  obtain⟨j,hj,rfl⟩:=List.getElem_of_mem hx
  exact h j hj (by omega)
 unfold firstI;rw[this]
end
theorem grown_drewN (w:World) (n:Nat):w.grownBy (w.drewN n) none:=⟨rfl,rfl,rfl,Nat.le_refl _,fun _ _ _=>rfl⟩
theorem eql_id (a b:ID) (w:World):(binOp .eql 59 (.agg #[.string a.key,.int .i64 a.ver]) (.agg #[.string b.key,.int .i64 b.ver])).run Tryz.prog w = .ok (.bool (decide (a=b))) w:=by
 obtain⟨a1,a2⟩:=a
 obtain⟨b1,b2⟩:=b
 simp[go_sem,toList_eq_iff]
 by_cases e1:a1=b1 <;> by_cases e2:a2=b2 <;> simp[e1,e2]
def pendI (R:RTab) (i:ID):Int:=firstI (fun p=>decide (p.1=i)) R.pends
section
variable {W : World} {rb : Nat} {R : RTab} {vL vC vV vP vH : Value}
set_option maxHeartbeats 2000000 in
set_option maxRecDepth 100000 in
theorem rpend_core (h:RMem W rb R vL vC vV vP vH) (i:ID):Calls Tryz.prog 117 #[.pointer (some ⟨rb,0,none⟩),encID i] W fun e w'=>e = .returned (.int .i64 (pendI R i))∧W.grownBy w' none:=by
 unfold pendI
 have HR:=Lib.hid (h.grown (World.grownBy_alloc W (.cells #[.string i.key,.int .i64 i.ver] 59) none))
 have HB:=Lib.hid (heap_alloc_new W (.cells #[.string i.key,.int .i64 i.ver] 59))
 have HG:=Lib.hid (World.grownBy_alloc W (.cells #[.string i.key,.int .i64 i.ver] 59) none)
 clear h
 simp only[encID]
 go_enter Tryz.func117,Tryz.ntmps117
 go_wp2
 generalize W.alloc (.cells #[.string i.key,.int .i64 i.ver] 59)=W2 at *
 go_loopw [5] (fun x wr=>∃k:Nat,k≤R.pends.length∧x = .int .i64 k∧NoneB (fun p:ID × Pend=>decide (p.1=i)) R.pends k∧W2.grownBy wr none) (fun x _=>R.pends.length-(intOf x).toNat)
 case atStart=>exact⟨0,Nat.zero_le _,rfl,noneB_zero,grown_refl _⟩
 case round=>
  obtain⟨k,hk,rfl,hno,hg2⟩:=hrel
  have hR:=HR.out.grown hg2
  obtain⟨p,cap,hv,hcap,hlc⟩:=hR.pends.form
  have c7:=hR.c7
  rw[hv] at c7
  have HNO:=Lib.hid hno
  clear hno
  by_cases hlt:k<R.pends.length
  ·obtain⟨g,cap',hv',hc,hfz⟩:=(hR.pends.at lenP).resolve_left (fun e=>by rw[e] at hlt;simp at hlt)
   rw[hv] at hv'
   injection hv' with hv1 hv2 hv3
   subst hv1
   have e0:wr.cell? ⟨g,k*4,none⟩=some (.string R.pends[k].1.key):=hc k hlt 0 _ rfl
   have e1:wr.cell? ⟨g,k*4+1,none⟩=some (.int .i64 R.pends[k].1.ver):=hc k hlt 1 _ rfl
   have b:=(hg2.block W.heap.size (Array.getElem?_eq_some_iff.1 HB.out).1 (by simp)).trans HB.out
   have b0:wr.cell? ⟨W.heap.size,0,none⟩=some (.string i.key):=(cell_block b 0).trans rfl
   have b1:wr.cell? ⟨W.heap.size,1,none⟩=some (.int .i64 i.ver):=(cell_block b 1).trans rfl
   have HH:=Lib.hid hR
   clear hR hv hv2 hv3 hc hfz b
   have heq:=eql_id R.pends[k].1 i
   by_cases hi:R.pends[k].1=i
   ·have hd:decide (R.pends[k].1=i)=true:=by simpa using hi
    rw[hd] at heq
    have HI:=Lib.hid (And.intro hi hd)
    clear hi hd
    go_wp2
    go_quiet (fail)
    go_wp2
    go_ret
    exact⟨by rw[firstI_hit HNO.out hlt HI.out.2];rfl,grown_trans HG.out (grown_trans hg2 (grown_drewN _ _))⟩
   ·have hd:decide (R.pends[k].1=i)=false:=by simpa using hi
    rw[hd] at heq
    have HI:=Lib.hid (And.intro hi hd)
    clear hi hd
    go_wp2
    go_quiet (fail)
    go_wp2
    go_roundw
    case rel=>exact⟨k+1,by omega,by go_num,HNO.out.step hlt HI.out.2,grown_trans hg2 (grown_drewN _ _)⟩
    case measure=>simp[intOf];omega
  ·have hge:k=R.pends.length:=by omega
   have HK:=Lib.hid hge
   have HH:=Lib.hid hR
   clear hR hv hge
   go_wp2
   go_ret
   exact⟨by rw[firstI_none HNO.out (Nat.le_of_eq HK.out.symm)];rfl,grown_trans HG.out hg2⟩
end
section
variable {K V : Type} [DecidableEq K]
theorem mget_hit {l:List (K × V)} {x:K} {k:Nat} (h:NoneB (fun p:K × V=>decide (p.1=x)) l k) (hk:k<l.length) (hf:l[k].1=x):mget l x=some l[k].2:=by
 induction l generalizing k with
 | nil=>simp at hk
 | cons p r ih=>
  cases k with
  | zero=>
   simp only[List.getElem_cons_zero] at hf ⊢
   simp[mget,hf]
  | succ k=>
   have h0:=h 0 (by simp) (by omega)
   simp only[List.getElem_cons_zero,decide_eq_false_iff_not] at h0
   simp only[mget,if_neg h0,List.getElem_cons_succ]
   exact ih (fun j hj hjk=>by have:=h (j+1) (by simpa using hj) (by omega);simpa using this) (by simpa using hk) (by simpa using hf)
theorem mget_miss {l:List (K × V)} {x:K} {k:Nat} (h:NoneB (fun p:K × V=>decide (p.1=x)) l k) (hk:l.length≤k):mget l x=none:=by
 refine mget_none fun p hp e=>?_
 obtain⟨j,hj,rfl⟩:=List.getElem_of_mem hp
 have:=h j hj (by omega)
 simp[e] at this
end
def encRCall (n:Int) (c:CallT):Value:=.agg #[.int .i64 n,.int .i64 c.req,.int .i64 c.ver,.bool c.done,.int .i64 c.code]
def encRVal (s:ByteArray) (v:Val):Value:=.agg #[.string s,.int .i64 v.ver,.bool v.dead]
section
variable {W : World} {rb : Nat} {R : RTab} {vL vC vV vP vH : Value}
set_option maxHeartbeats 2000000 in
set_option maxRecDepth 100000 in
theorem rcall_core (h:RMem W rb R vL vC vV vP vH) (n:Int):Calls Tryz.prog 146 #[.pointer (some ⟨rb,0,none⟩),.int .i64 n] W fun e w'=>e = .returned (encRCall n (rcallV R n))∧W.grownBy w' none:=by
 have HV:Hid (encRCall n (rcallV R n)=encRCall n ((mget R.calls n).getD ⟨0,0,false,0⟩)):=(show _=_ from rfl)
 generalize encRCall n (rcallV R n)=res at *
 have HR:=Lib.hid (h.grown (World.grownBy_alloc W (.cells #[.int .i64 0,.int .i64 0,.int .i64 0,.bool false,.int .i64 0] 193) none))
 have HB:=Lib.hid (heap_alloc_new W (.cells #[.int .i64 0,.int .i64 0,.int .i64 0,.bool false,.int .i64 0] 193))
 have HG:=Lib.hid (World.grownBy_alloc W (.cells #[.int .i64 0,.int .i64 0,.int .i64 0,.bool false,.int .i64 0] 193) none)
 clear h
 go_enter Tryz.func146,Tryz.ntmps146
 go_wp2
 generalize W.alloc (.cells #[.int .i64 0,.int .i64 0,.int .i64 0,.bool false,.int .i64 0] 193)=W2 at *
 go_loopw [5] (fun x wr=>∃k:Nat,k≤R.calls.length∧x = .int .i64 k∧NoneB (fun p:Int × CallT=>decide (p.1=n)) R.calls k∧W2.grownBy wr none) (fun x _=>R.calls.length-(intOf x).toNat)
 case atStart=>exact⟨0,Nat.zero_le _,rfl,noneB_zero,grown_refl _⟩
 case round=>
  obtain⟨k,hk,rfl,hno,hg2⟩:=hrel
  have hR:=HR.out.grown hg2
  obtain⟨p,cap,hv,hcap,hlc⟩:=hR.calls.form
  have c5:=hR.c5
  rw[hv] at c5
  have HNO:=Lib.hid hno
  have b:=(hg2.block W.heap.size (Array.getElem?_eq_some_iff.1 HB.out).1 (by simp)).trans HB.out
  have b0:∃u,wr.cell? ⟨W.heap.size,0,none⟩=some u:=⟨_,(cell_block b 0).trans rfl⟩
  have b1:∃u,wr.cell? ⟨W.heap.size,1,none⟩=some u:=⟨_,(cell_block b 1).trans rfl⟩
  have b2:∃u,wr.cell? ⟨W.heap.size,2,none⟩=some u:=⟨_,(cell_block b 2).trans rfl⟩
  have b3:∃u,wr.cell? ⟨W.heap.size,3,none⟩=some u:=⟨_,(cell_block b 3).trans rfl⟩
  have b4:∃u,wr.cell? ⟨W.heap.size,4,none⟩=some u:=⟨_,(cell_block b 4).trans rfl⟩
  obtain⟨u0,b0⟩:=b0
  obtain⟨u1,b1⟩:=b1
  obtain⟨u2,b2⟩:=b2
  obtain⟨u3,b3⟩:=b3
  obtain⟨u4',b4⟩:=b4
  have z0:=free_block b 0
  have z1:=free_block b 1
  have z2:=free_block b 2
  have z3:=free_block b 3
  have z4:=free_block b 4
  clear hno b
  by_cases hlt:k<R.calls.length
  ·obtain⟨g,cap',hv',hc,hfz⟩:=(hR.calls.at lenC).resolve_left (fun e=>by rw[e] at hlt;simp at hlt)
   rw[hv] at hv'
   injection hv' with hv1 hv2 hv3
   subst hv1
   have e0:wr.cell? ⟨g,k*5,none⟩=some (.int .i64 R.calls[k].1):=hc k hlt 0 _ rfl
   have e1:wr.cell? ⟨g,k*5+1,none⟩=some (.int .i64 R.calls[k].2.req):=hc k hlt 1 _ rfl
   have e2:wr.cell? ⟨g,k*5+2,none⟩=some (.int .i64 R.calls[k].2.ver):=hc k hlt 2 _ rfl
   have e3:wr.cell? ⟨g,k*5+3,none⟩=some (.bool R.calls[k].2.done):=hc k hlt 3 _ rfl
   have e4:wr.cell? ⟨g,k*5+4,none⟩=some (.int .i64 R.calls[k].2.code):=hc k hlt 4 _ rfl
   have HH:=Lib.hid hR
   clear hR hv hv2 hv3 hc hfz
   by_cases hi:R.calls[k].1=n
   ·have HI:=Lib.hid hi
    have hres:Hid (res=encRCall n R.calls[k].2):=(show res=_ from by rw[HV.out,mget_hit HNO.out hlt hi];rfl)
    clear hi
    have hd:(R.calls[k].1 == n)=true:=by rw[HI.out];simp
    go_wp2
    refine bodyPost_ret (v:=encRCall n R.calls[k].2) (by simp[encRCall,results,Tryz.results146,go_sem, *,HI.out]) rfl ⟨by rw[hres.out],?_⟩
    repeat (refine grown_setCell ?_ (Nat.le_refl _) _)
    exact grown_trans HG.out hg2
   ·have hd:(R.calls[k].1 == n)=false:=by simpa using hi
    have HI:=Lib.hid hi
    clear hi
    go_wp2
    go_roundw
    case rel=>exact⟨k+1,by omega,by go_num,HNO.out.step hlt (by simpa using HI.out),hg2⟩
    case measure=>simp[intOf];omega
  ·have hge:R.calls.length≤k:=by omega
   have hres:Hid (res=encRCall n ⟨0,0,false,0⟩):=(show res=_ from by rw[HV.out,mget_miss HNO.out hge];rfl)
   have HH:=Lib.hid hR
   clear hR hv hge
   go_wp2
   refine bodyPost_ret (v:=encRCall n ⟨0,0,false,0⟩) (by simp[encRCall,results,Tryz.results146,go_sem, *]) rfl ⟨by rw[hres.out],?_⟩
   repeat (refine grown_setCell ?_ (Nat.le_refl _) _)
   exact grown_trans HG.out hg2
set_option maxHeartbeats 2000000 in
set_option maxRecDepth 100000 in
theorem rvalue_core (h:RMem W rb R vL vC vV vP vH) (n:ByteArray):Calls Tryz.prog 120 #[.pointer (some ⟨rb,0,none⟩),.string n] W fun e w'=>e = .returned (encRVal n (rlookV R n))∧W.grownBy w' none:=by
 have HV:Hid (encRVal n (rlookV R n)=encRVal n ((mget R.vals n).getD ⟨0,false⟩)):=(show _=_ from rfl)
 generalize encRVal n (rlookV R n)=res at *
 have HR:=Lib.hid (h.grown (World.grownBy_alloc W (.cells #[.string ⟨#[]⟩,.int .i64 0,.bool false] 202) none))
 have HB:=Lib.hid (heap_alloc_new W (.cells #[.string ⟨#[]⟩,.int .i64 0,.bool false] 202))
 have HG:=Lib.hid (World.grownBy_alloc W (.cells #[.string ⟨#[]⟩,.int .i64 0,.bool false] 202) none)
 clear h
 go_enter Tryz.func120,Tryz.ntmps120
 go_wp2
 generalize W.alloc (.cells #[.string ⟨#[]⟩,.int .i64 0,.bool false] 202)=W2 at *
 go_loopw [5] (fun x wr=>∃k:Nat,k≤R.vals.length∧x = .int .i64 k∧NoneB (fun p:ByteArray × Val=>decide (p.1=n)) R.vals k∧W2.grownBy wr none) (fun x _=>R.vals.length-(intOf x).toNat)
 case atStart=>exact⟨0,Nat.zero_le _,rfl,noneB_zero,grown_refl _⟩
 case round=>
  obtain⟨k,hk,rfl,hno,hg2⟩:=hrel
  have hR:=HR.out.grown hg2
  obtain⟨p,cap,hv,hcap,hlc⟩:=hR.vals.form
  have c6:=hR.c6
  rw[hv] at c6
  have HNO:=Lib.hid hno
  have b:=(hg2.block W.heap.size (Array.getElem?_eq_some_iff.1 HB.out).1 (by simp)).trans HB.out
  have b0:∃u,wr.cell? ⟨W.heap.size,0,none⟩=some u:=⟨_,(cell_block b 0).trans rfl⟩
  have b1:∃u,wr.cell? ⟨W.heap.size,1,none⟩=some u:=⟨_,(cell_block b 1).trans rfl⟩
  have b2:∃u,wr.cell? ⟨W.heap.size,2,none⟩=some u:=⟨_,(cell_block b 2).trans rfl⟩
  obtain⟨u0,b0⟩:=b0
  obtain⟨u1,b1⟩:=b1
  obtain⟨u2,b2⟩:=b2
  have z0:=free_block b 0
  have z1:=free_block b 1
  have z2:=free_block b 2
  clear hno b
  by_cases hlt:k<R.vals.length
  ·obtain⟨g,cap',hv',hc,hfz⟩:=(hR.vals.at lenV).resolve_left (fun e=>by rw[e] at hlt;simp at hlt)
   rw[hv] at hv'
   injection hv' with hv1 hv2 hv3
   subst hv1
   have e0:wr.cell? ⟨g,k*3,none⟩=some (.string R.vals[k].1):=hc k hlt 0 _ rfl
   have e1:wr.cell? ⟨g,k*3+1,none⟩=some (.int .i64 R.vals[k].2.ver):=hc k hlt 1 _ rfl
   have e2:wr.cell? ⟨g,k*3+2,none⟩=some (.bool R.vals[k].2.dead):=hc k hlt 2 _ rfl
   have HH:=Lib.hid hR
   clear hR hv hv2 hv3 hc hfz
   by_cases hi:R.vals[k].1=n
   ·have HI:=Lib.hid hi
    have hres:Hid (res=encRVal n R.vals[k].2):=(show res=_ from by rw[HV.out,mget_hit HNO.out hlt hi];rfl)
    clear hi
    have hd:(R.vals[k].1.toList == n.toList)=true:=by rw[HI.out];simp
    go_wp2
    refine bodyPost_ret (v:=encRVal n R.vals[k].2) (by simp[encRVal,results,Tryz.results120,go_sem, *,HI.out]) rfl ⟨by rw[hres.out],?_⟩
    repeat (refine grown_setCell ?_ (Nat.le_refl _) _)
    exact grown_trans HG.out hg2
   ·have hd:(R.vals[k].1.toList == n.toList)=false:=by rw[toList_eq_iff];simpa using hi
    have HI:=Lib.hid hi
    clear hi
    go_wp2
    go_roundw
    case rel=>exact⟨k+1,by omega,by go_num,HNO.out.step hlt (by simpa using HI.out),hg2⟩
    case measure=>simp[intOf];omega
  ·have hge:R.vals.length≤k:=by omega
   have hres:Hid (res=encRVal n ⟨0,false⟩):=(show res=_ from by rw[HV.out,mget_miss HNO.out hge];rfl)
   have HH:=Lib.hid hR
   clear hR hv hge
   go_wp2
   refine bodyPost_ret (v:=encRVal n ⟨0,false⟩) (by simp[encRVal,results,Tryz.results120,go_sem, *]) rfl ⟨by rw[hres.out],?_⟩
   repeat (refine grown_setCell ?_ (Nat.le_refl _) _)
   exact grown_trans HG.out hg2
theorem rlook_eq (R:RTab) (k:ByteArray):rlook R k=if (rlookV R k).dead=true then 0 else (rlookV R k).ver:=rfl
set_option maxHeartbeats 2000000 in
set_option maxRecDepth 100000 in
theorem rlook_core (h:RMem W rb R vL vC vV vP vH) (k:ByteArray):Calls Tryz.prog 149 #[.pointer (some ⟨rb,0,none⟩),.string k] W fun e w'=>e = .returned (.int .i64 (rlook R k))∧W.grownBy w' none:=by
 have HC:=Lib.hid (fun w (hg:W.grownBy w none)=>rvalue_core (h.grown hg) k)
 clear h
 have hl:=rlook_eq R k
 generalize rlook R k=res at *
 generalize rlookV R k=v at *
 obtain⟨vv,vd⟩:=v
 simp only[encRVal] at HC hl
 cases vd with
 | false=>
  have HL:Hid (res=vv):=(show res=vv from by simpa using hl)
  clear hl
  go_enter Tryz.func149,Tryz.ntmps149
  go_wp2_with (go_at_call 120;refine(HC.out _ (by repeat (first|exact grown_refl _|refine grown_alloc ?_ _|refine grown_drew ?_))).mono ?_;rintro e w1 ⟨rfl,hg⟩;have HG:=Lib.hid hg;clear hg)
  go_ret
  exact⟨by rw[HL.out];rfl,by repeat (first|exact HG.out|exact grown_refl _|refine grown_alloc ?_ _|refine grown_drew ?_)⟩
 | true=>
  have HL:Hid (res=0):=(show res=0 from by simpa using hl)
  clear hl
  go_enter Tryz.func149,Tryz.ntmps149
  go_wp2_with (go_at_call 120;refine(HC.out _ (by repeat (first|exact grown_refl _|refine grown_alloc ?_ _|refine grown_drew ?_))).mono ?_;rintro e w1 ⟨rfl,hg⟩;have HG:=Lib.hid hg;clear hg)
  go_ret
  exact⟨by rw[HL.out];rfl,by repeat (first|exact HG.out|exact grown_refl _|refine grown_alloc ?_ _|refine grown_drew ?_)⟩
end
end Go.Proofs.YtjfelfjobeeenaaGreat
