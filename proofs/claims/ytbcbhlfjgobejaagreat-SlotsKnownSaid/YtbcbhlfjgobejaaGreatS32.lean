/- The document's disk in memory; Fail, Crash, may, step, Open, Reaches, Read: the walks. Conditions: none, or as the theorems say. -/
import Derived.Test.YtbcbhlfjgobejaaGreatS26
import Derived.Test.YtbcbhlfjgobejaaGreatS31
set_option linter.unusedSimpArgs false
set_option linter.unusedVariables false
namespace Go.Proofs.YtbcbhlfjgobejaaGreat
set_option maxHeartbeats 200000000
open Go.RowKit Go.Sf Go.Shelf
variable {cap g n sz:Nat} {rs:Nat→Prop} {α:Type} {v:Value} {W w:World}
theorem zir {base:Nat} {e:TypeId} {xs:List Value} (h:W.ownsRow base e sz (.slice (some ⟨g,0,none⟩) n cap) n xs) (i:Nat) (u:Value) :
  (W.setCell ⟨g,i,none⟩ u).ownsRow base e sz (.slice (some ⟨g,0,none⟩) n cap) n (xs.set i u):=by
 refine⟨by rw[List.length_set];exact h.1,?_⟩
 rcases h.2 with ⟨e1,_⟩|⟨b,c,cur,e1,h1,hb,r1,r2,r3,r4⟩
 ·cases e1
 ·cases e1
  refine .inr ⟨g,cap,cur.setIfInBounds i u,rfl,h1,?_,r1,r2,by simpa using r3,?_⟩
  ·simp[World.setCell,Array.getElem?_modify,hb]
  ·rw[Array.toList_setIfInBounds,←r4,List.take_set]
theorem zfj (enc:α→List Value) (sz:Nat) (he:∀x,(enc x).length=sz) (x':α) (j:Nat) (u:Value) (hj:j<sz):∀(l:List α) (i:Nat) (hi:i<l.length),enc x'=(enc l[i]).set j u→(l.set i x').flatMap enc=(l.flatMap enc).set (i*sz+j) u
 | [],i,hi,_=>by simp at hi
 | a :: r,0,hi,h=>by
  simp only[List.set_cons_zero,List.flatMap_cons,Nat.zero_mul,Nat.zero_add];rw[List.set_append_left _ _ (by rw[he];exact hj),h]
  rfl
 | a :: r,i+1,hi,h=>by
  simp only[List.set_cons_succ,List.flatMap_cons];rw[zfj enc sz he x' j u hj r i (by simpa using hi) h,List.set_append_right _ _ (by rw[he,Nat.succ_mul];omega),he]
  congr 2
  rw[Nat.succ_mul];omega
theorem yl.set {E:TypeId} {enc:α→List Value} {l:List α} (he:∀x,(enc x).length=sz) (h:yl W E sz enc (.slice (some ⟨g,0,none⟩) l.length cap) l) (i j:Nat) (hi:i<l.length) (hj:j<sz) (x':α) (u:Value) (hx:enc x'=(enc l[i]).set j u):yl (W.setCell ⟨g,i*sz+j,none⟩ u) E sz enc (.slice (some ⟨g,0,none⟩) l.length cap) (l.set i x'):=by
 have:=zir (show W.ownsRow 0 E sz (.slice (some ⟨g,0,none⟩) l.length cap) l.length (l.flatMap enc) from h) (i*sz+j) u
 unfold yl;rw[List.length_set,zfj enc sz he x' j u hj l i hi hx]
 exact this
def rblkE (q:List Int × Value):List Value:=[.string (ofB q.1),q.2]
def jk (q:Nat × List Int):List Value:=[.int .i64 (q.1:Int),.string (ofB q.2)]
theorem Qv (q:List Int × Value):(rblkE q).length=2:=rfl
theorem Zx (q:Nat × List Int):(jk q).length=2:=rfl
def Vj (rs:Nat→Prop) (w:World) (v:Value) (m:List (Nat × List Int)):Prop:=∃p cap,v = .slice p m.length cap∧(m = []∨∃b off,p=some ⟨b,off,none⟩∧rs b∧∀j u,(m.flatMap jk)[j]? = some u→w.cell? ⟨b,off+j,none⟩=some u)
theorem Vj.turn {w':World} {m:List (Nat × List Int)} (h:Vj rs w v m) (hs:∀k,rs k→w'.heap[k]? = w.heap[k]?):Vj rs w' v m:=by
 obtain⟨p,cap,rfl,hc⟩:=h;refine⟨p,cap,rfl,?_⟩
 rcases hc with h0|⟨b,off,rfl,h1,h2⟩
 ·exact Or.inl h0
 ·refine Or.inr ⟨b,off,rfl,h1,λj u hu=>?_⟩
  rw[←h2 j u hu]
  exact World.cell?_of_block (a:=⟨b,off+j,none⟩) (hs b h1)
theorem Vj.mono {rs':Nat→Prop} {m:List (Nat × List Int)} (h:Vj rs w v m) (hs:∀k,rs k→rs' k):Vj rs' w v m:=by
 obtain⟨p,cap,rfl,hc⟩:=h;refine⟨p,cap,rfl,?_⟩
 rcases hc with h0|⟨b,off,rfl,h1,h2⟩
 ·exact Or.inl h0
 ·exact Or.inr ⟨b,off,rfl,hs _ h1,h2⟩
theorem Vj.nil (rs:Nat→Prop) (w:World):Vj rs w (.slice none 0 0) []:=⟨none,0,rfl,Or.inl rfl⟩
structure uu (rs:Nat→Prop) (W:World) (db:Nat) (bv:Value) (bs:List (List Int × Value)) (R:RDk):Prop where
 box:W.heap[db]? = some (.cells #[bv,.int .i64 (wrap64 R.done),.int .i64 R.well,.bool R.gone] 185 (0,0))
 row:yl W 188 2 rblkE bv bs
 len:bs.length=R.blocks.length
 at_:∀(i:Nat) (x:zc9) (y:List Int × Value),R.blocks[i]? = some x→bs[i]? = some y→y.1=x.settled∧Vj (λk=>rs k∧k≠db∧bv.ownBlock≠some k) W y.2 x.late
 rdb:rs db
 rbv:∀g,bv.ownBlock=some g→rs g
 lt:∀k,rs k→k<W.heap.size
 n:R.blocks.length≤4096
 w0 : -1≤R.well
 w1:R.well<9223372036854775808
 ok:∀x∈R.blocks,(x.settled.length=256∧BL x.settled)∧∀w∈x.late,w.2.length=256∧BL w.2
 few:yf R≤1000000
def R18 (rs:Nat→Prop) (W:World) (db:Nat) (R:RDk):Prop:=∃bv bs,uu rs W db bv bs R
def ua (rs:Nat→Prop) (w w':World) (k:Nat):Prop:=rs k∨(w.heap.size≤k∧k<w'.heap.size)
section
variable {rs rs' : Nat → Prop} {W W' : World} {db : Nat} {bv : Value} {bs : List (List Int × Value)} {R R' : RDk}
theorem uu.ne (h:uu rs W db bv bs R):bv.ownBlock≠some db:=ji h.row h.box (by decide)
theorem uu.up (h:uu rs W db bv bs R) (hs:∀k,rs k→rs' k) (hl:∀k,rs' k→k<W.heap.size):uu rs' W db bv bs R:=
 ⟨h.box,h.row,h.len,λi x y hx hy=>⟨(h.at_ i x y hx hy).1,(h.at_ i x y hx hy).2.mono λk hk=>⟨hs k hk.1,hk.2⟩⟩,hs _ h.rdb,λg hg=>hs _ (h.rbv g hg),hl,h.n,h.w0,h.w1,h.ok,h.few⟩
theorem uu.same (h:uu rs W db bv bs R) (hs:∀k,rs k→W'.heap[k]? = W.heap[k]?) (hz:W.heap.size≤W'.heap.size):uu rs W' db bv bs R:=
 ⟨(hs _ h.rdb).trans h.box,h.row.same λg hg=>hs g (h.rbv g hg),h.len,λi x y hx hy=>⟨(h.at_ i x y hx hy).1,(h.at_ i x y hx hy).2.turn λk hk=>hs k hk.1⟩,h.rdb,h.rbv,λk hk=>Nat.lt_of_lt_of_le (h.lt k hk) hz,h.n,h.w0,h.w1,h.ok,h.few⟩
theorem R18.up (h:R18 rs W db R) (hs:∀k,rs k→rs' k) (hl:∀k,rs' k→k<W.heap.size):R18 rs' W db R:=by
 obtain⟨bv,bs,h⟩:=h
 exact⟨bv,bs,h.up hs hl⟩
theorem R18.same (h:R18 rs W db R) (hs:∀k,rs k→W'.heap[k]? = W.heap[k]?) (hz:W.heap.size≤W'.heap.size):R18 rs W' db R:=by
 obtain⟨bv,bs,h⟩:=h
 exact⟨bv,bs,h.same hs hz⟩
theorem R18.lt (h:R18 rs W db R) {k:Nat} (hk:rs k):k<W.heap.size:=by
 obtain⟨bv,bs,h⟩:=h
 exact h.lt k hk
theorem R18.kept (h:R18 rs W db R) (hg:W.grownBy W' none):R18 rs W' db R:=h.same (λk hk=>hg.block k (h.lt hk) (by simp)) hg.size
theorem R18.turn (h:R18 rs W db R) (ht:zm (λk=>¬rs k) W W'):R18 rs W' db R:=h.same (λk hk=>ht.block k (h.lt hk) (λe=>e hk)) ht.size
theorem R18.new (h:R18 rs W db R) (hg:W.grownBy W' none):R18 (ua rs W W') W' db R:=(h.kept hg).up (λk hk=>Or.inl hk) (λk hk=>by
 rcases hk with e|e
 ·exact Nat.lt_of_lt_of_le (h.lt e) hg.size
 ·exact e.2)
theorem uu.cells (h:uu rs W db bv bs R):W.cell? ⟨db,0,none⟩=some bv∧W.cell? ⟨db,1,none⟩=some (.int .i64 (wrap64 R.done))∧W.cell? ⟨db,2,none⟩=some (.int .i64 R.well)∧W.cell? ⟨db,3,none⟩=some (.bool R.gone)∧∀i,W.frozen? ⟨db,i,none⟩=false:=by
 have hb:=h.box;refine⟨?_,?_,?_,?_,λi=>?_⟩ <;> simp[World.cell?,World.frozen?,hb]
theorem uu.form (h:uu rs W db bv bs R):∃p cap,bv = .slice p R.blocks.length cap∧R.blocks.length≤cap∧cap≤9223372036854775807:=by
 obtain⟨p,cap,e,h1,h2⟩:=h.row.form;rw[h.len] at e h2
 exact⟨p,cap,e,h2,h1⟩
theorem uu.blk (h:uu rs W db bv bs R) {i:Nat} {x:zc9} (hx:R.blocks[i]? = some x):∃g cap p n c,bv = .slice (some ⟨g,0,none⟩) R.blocks.length cap∧i<R.blocks.length∧W.cell? ⟨g,i*2,none⟩=some (.string (ofB x.settled))∧W.cell? ⟨g,i*2+1,none⟩=some (.slice p n c)∧n=x.late.length∧Vj (λk=>rs k∧k≠db∧k≠g) W (.slice p n c) x.late∧(∀i,W.frozen? ⟨g,i,none⟩=false)∧bs[i]? = some (x.settled,.slice p n c)∧g≠db:=by
 have hi:i<R.blocks.length:=(List.getElem?_eq_some_iff.1 hx).1;have hib:i<bs.length:=by rw[h.len];exact hi
 obtain⟨y,hy⟩:∃y,bs[i]? = some y:=⟨_,List.getElem?_eq_getElem hib⟩;have hyy:bs[i]=y:=(List.getElem?_eq_some_iff.1 hy).2;obtain⟨h1,h2⟩:=h.at_ i x y hx hy;obtain⟨y1,y2⟩:=y;simp only at h1 h2;subst h1;obtain⟨p,c,rfl,h3⟩:=h2;have h2:Vj (λk=>rs k∧k≠db∧bv.ownBlock≠some k) W (.slice p x.late.length c) x.late:=⟨p,c,rfl,h3⟩
 rcases yl.at Qv h.row with h0|⟨g,cap,e,hc,hf⟩
 ·rw[h0] at hib;simp at hib
 ·rw[h.len] at e
  have hne:=h.ne;subst e;refine⟨g,cap,p,_,c,rfl,hi,hc i hib 0 _ (by rw[hyy];rfl),hc i hib 1 _ (by rw[hyy];rfl),rfl,h2.mono λk hk=>⟨hk.1,hk.2.1,λe=>hk.2.2 (by rw[e];rfl)⟩,hf,hy,λe=>hne (by rw[e];rfl)⟩
theorem uu.set (h:uu rs W db bv bs R) (i:Nat) (v:Value) (hb:(#[bv,.int .i64 (wrap64 R.done),.int .i64 R.well,.bool R.gone]:Array Value).setIfInBounds i v = #[bv,.int .i64 (wrap64 R'.done),.int .i64 R'.well,.bool R'.gone])
 (e1:R'.blocks=R.blocks) (e5 : -1≤R'.well) (e6:R'.well<9223372036854775808):uu rs (W.setCell ⟨db,i,none⟩ v) db bv bs R':=by
 have hs:=zv W db i v;have hx:=h.box;have hne:=h.ne;refine⟨?_,h.row.grown hs (λg hg e=>?_),by rw[e1];exact h.len,λj x y hx2 hy=>?_,h.rdb,h.rbv,λk hk=>Nat.lt_of_lt_of_le (h.lt k hk) hs.size,by rw[e1];exact h.n,e5,e6,by rw[e1];exact h.ok,?_⟩
 ·simp only[World.setCell,Array.getElem?_modify,hx,if_true,Option.map_some]
  rw[hb]
  rfl
 ·cases e;exact hne hg
 ·rw[e1] at hx2
  refine⟨(h.at_ j x y hx2 hy).1,(h.at_ j x y hx2 hy).2.turn λk hk=>hs.block k (h.lt k hk.1) (λe=>hk.2.1 ?_)⟩
  injection e
 ·have:=h.few
  unfold yf at this ⊢;rw[e1];exact this
theorem uu.turnSet (h:uu rs W db bv bs R) (i:Nat) (v:Value):zm rs W (W.setCell ⟨db,i,none⟩ v):=(yh W db i v).mono λk hk=>by rw[hk];exact h.rdb
set_option maxRecDepth 100000 in
theorem rmay (h:R18 rs W db R) (i:Int) (n:Nat):Calls Tryz.prog 117 #[.pointer (some ⟨db,0,none⟩),.int .i64 i] W λe w'=>e = .returned (.int .i64 (if R.gone=true then 180 else if i<0∨(R.blocks.length:Int)≤i then 2 else 0))∧w'=W:=by
 obtain⟨bv,bs,h⟩:=h;obtain⟨p,cap,rfl,-,-⟩:=h.form;have hn:=h.n;obtain⟨c0,c1,c2,c3,y⟩:=h.cells;clear h;generalize R.blocks.length=m at *
 cases hg:R.gone
 ·rw[hg] at c3
  by_cases h1:i<0
  ·have e:(if false=true then (180:Int) else if i<0∨(m:Int)≤i then 2 else 0)=2:=by simp[h1]
   rw[e];clear e
   go_enter Tryz.func117,Tryz.ntmps117
   go_wp2
   go_ret
   exact⟨rfl,rfl⟩
  ·by_cases h2:(m:Int)≤i
   ·have e:(if false=true then (180:Int) else if i<0∨(m:Int)≤i then 2 else 0)=2:=by simp[h2]
    rw[e];clear e
    go_enter Tryz.func117,Tryz.ntmps117
    go_wp2
    go_ret
    exact⟨rfl,rfl⟩
   ·have e:(if false=true then (180:Int) else if i<0∨(m:Int)≤i then 2 else 0)=0:=by simp[h1,h2]
    rw[e];clear e
    go_enter Tryz.func117,Tryz.ntmps117
    go_wp2
    go_ret
    exact⟨rfl,rfl⟩
 ·rw[hg] at c3
  rw[if_pos rfl]
  go_enter Tryz.func117,Tryz.ntmps117
  go_wp2
  go_ret
  exact⟨rfl,rfl⟩
def RDk.failed (R:RDk) (n:Int):RDk:={ R with well:=max (-1) n }
def RDk.off (R:RDk):RDk:={ R with gone:=true,well:=-1 }
set_option maxRecDepth 100000 in
theorem rfail (h:R18 rs W db R) (n:Int) (hn:n<9223372036854775808):Calls Tryz.prog 40 #[.pointer (some ⟨db,0,none⟩),.int .i64 n] W λe w'=>e = .returned (.tuple #[])∧R18 rs w' db (R.failed n)∧zm rs W w':=by
 obtain⟨bv,bs,h⟩:=h;have HC:Hid (∀m,m=max (-1) n→uu rs (W.setCell ⟨db,2,none⟩ (.int .i64 m)) db bv bs (R.failed n)∧zm rs W (W.setCell ⟨db,2,none⟩ (.int .i64 m))):=(λm hm=>⟨h.set 2 _ (by subst hm;rfl) rfl (by show -1≤max (-1) n;omega) (by show max (-1) n<_;omega),h.turnSet _ _⟩)
 obtain⟨c0,c1,c2,c3,y⟩:=h.cells;clear h
 go_enter Tryz.func40,Tryz.ntmps40
 go_wp2
 all_goals first|go_end0|refine bodyPost_ret (results_none rfl _ _ _) rfl ?_
 all_goals exact⟨rfl,⟨_,_,(HC.out _ (by omega)).1⟩,(HC.out _ (by omega)).2⟩
set_option maxRecDepth 100000 in
theorem zpv (h:R18 rs W db R):Calls Tryz.prog 42 #[.pointer (some ⟨db,0,none⟩)] W λe w'=>e = .returned (.tuple #[])∧R18 rs w' db R.off∧zm rs W w':=by
 obtain⟨bv,bs,h⟩:=h;have h1:=h.set (R':={ R with gone:=true }) 3 (.bool true) rfl rfl h.w0 h.w1
 have HC:Hid (uu rs ((W.setCell ⟨db,3,none⟩ (.bool true)).setCell ⟨db,2,none⟩ (.int .i64 (-1))) db bv bs R.off∧zm rs W ((W.setCell ⟨db,3,none⟩ (.bool true)).setCell ⟨db,2,none⟩ (.int .i64 (-1)))):=(show _∧_ from ⟨h1.set 2 _ rfl rfl (by show(-1:Int)≤-1;omega) (by show(-1:Int)<_;omega),(h.turnSet _ _).trans (h1.turnSet _ _)⟩)
 obtain⟨c0,c1,c2,c3,y⟩:=h.cells;clear h h1
 go_enter Tryz.func42,Tryz.ntmps42
 go_wp2
 all_goals first|go_end0|refine bodyPost_ret (results_none rfl _ _ _) rfl ?_
 all_goals exact⟨rfl,⟨_,_,HC.out.1⟩,HC.out.2⟩
def RDk.stepB (R:RDk):Bool:=!decide (R.well=0)
def RDk.went (R:RDk):RDk:={ R with done:=R.done+1,well:=if R.well>0 then R.well-1 else R.well }
def RDk.fell (R:RDk):RDk:={ R with done:=R.done+1,well:=-1,gone:=true }
set_option maxRecDepth 100000 in
theorem rstep (h:R18 rs W db R):Calls Tryz.prog 119 #[.pointer (some ⟨db,0,none⟩)] W λe w'=>e = .returned (.bool R.stepB)∧R18 rs w' db (if R.stepB=true then R.went else R.fell)∧zm rs W w':=by
 obtain⟨bv,bs,h⟩:=h;have h1:=h.set (R':={ R with done:=R.done+1 }) 1 (.int .i64 (wrap64 (wrap64 R.done+1))) (by rw[zgi];rfl) rfl h.w0 h.w1
 have w0:=h.w0;have w1:=h.w1;have hT:=h.turnSet 1 (.int .i64 (wrap64 (wrap64 R.done+1)))
 by_cases hw:R.well=0
 ·have hb:R.stepB=false:=by simp[RDk.stepB,hw]
  rw[hb];simp only[Bool.false_eq_true,if_false];have HCR:=zd (zpv (rs:=rs) (W:=W.setCell ⟨db,1,none⟩ (.int .i64 (wrap64 (wrap64 R.done+1)))) (db:=db) (R:={ R with done:=R.done+1 }) ⟨_,_,h1⟩)
  have HT:=zd hT;have HE:Hid (RDk.off { R with done:=R.done+1 }=R.fell):=(show _=_ from rfl)
  rw[HE.out] at HCR;obtain⟨c0,c1,c2,c3,y⟩:=h.cells;clear h h1 hT HE hb;rw[hw] at c2;generalize R.fell=RF at *;generalize R.done=dn at *
  go_enter Tryz.func119,Tryz.ntmps119
  go_wp2_with (go_at_call 42;refine HCR.out.mono ?_;rintro e w1 ⟨rfl,hd,ht⟩;have HD:=zd hd;have HT2:=zd ht;clear hd ht)
  go_ret
  exact⟨rfl,HD.out,HT.out.trans HT2.out⟩
 ·have hb:R.stepB=true:=by simp[RDk.stepB,hw]
  rw[hb];simp only[if_true]
  by_cases hp:R.well>0
  ·have HC:=zd (h1.set (R':=R.went) 2 (.int .i64 (R.well-1)) (by unfold RDk.went;rw[if_pos hp];rfl) rfl (by unfold RDk.went;rw[if_pos hp];show -1≤R.well-1;omega) (by unfold RDk.went;rw[if_pos hp];show R.well-1<_;omega))
   have HT:=zd (hT.trans (h1.turnSet 2 (.int .i64 (R.well-1))));obtain⟨c0,c1,c2,c3,y⟩:=h.cells;clear h h1 hT hb;generalize R.went=RF at *;generalize R.done=dn at *;generalize R.well=wl at *
   go_enter Tryz.func119,Tryz.ntmps119
   go_wp2
   go_ret
   exact⟨rfl,⟨_,_,HC.out⟩,HT.out⟩
  ·have HC:Hid (uu rs (W.setCell ⟨db,1,none⟩ (.int .i64 (wrap64 (wrap64 R.done+1)))) db bv bs R.went):=(show uu _ _ _ _ _ _ from by
    unfold RDk.went;rw[if_neg hp]
    exact h1)
   have HT:=zd hT;obtain⟨c0,c1,c2,c3,y⟩:=h.cells;clear h h1 hT hb;generalize R.went=RF at *;generalize R.done=dn at *;generalize R.well=wl at *
   go_enter Tryz.func119,Tryz.ntmps119
   go_wp2
   go_ret
   exact⟨rfl,⟨_,_,HC.out⟩,HT.out⟩
end
section
variable {rs rs' : Nat → Prop} {W W' : World} {db : Nat} {R R' : RDk}
theorem Xl:∀(l:List Nat) (n:Nat),n∈l→n≤l.sum
 | a :: t,n,h=>by
  rw[List.sum_cons]
  rcases List.mem_cons.1 h with rfl|h
  ·omega
  ·have:=Xl t n h
   omega
theorem zm5 (R:RDk):yf R=((R.blocks.take R.blocks.length).map λb=>b.late.length).sum:=by rw[List.take_length];rfl
theorem zjr (l:List Nat):∀k,(l.take k).sum≤l.sum:=λk=>by
 conv=>rhs;rw[←List.take_append_drop k l,List.sum_append]
 omega
set_option maxRecDepth 100000 in
theorem ropen18 (h:R18 rs W db R):Calls Tryz.prog 118 #[.pointer (some ⟨db,0,none⟩)] W λe w'=>e = .returned (.int .i64 (yf R:Int))∧w'=W:=by
 obtain⟨bv,bs,h⟩:=h;obtain⟨p,cap,rfl,-,-⟩:=h.form;have hn:=h.n;have hfew:=h.few;obtain⟨c0,c1,c2,c3,y⟩:=h.cells;obtain⟨m,hm⟩:∃m,m=R.blocks.length:=⟨_,rfl⟩;have HB:Hid (∀k,k<m→∃g p1 n1 c1,p=some ⟨g,0,none⟩∧W.cell? ⟨g,k*2+1,none⟩=some (.slice p1 n1 c1)∧((R.blocks.take (k+1)).map λb=>b.late.length).sum=((R.blocks.take k).map λb=>b.late.length).sum+n1):=(λk hk=>by
  have hk2:k<R.blocks.length:=by omega
  obtain⟨g,cap',p1,n1,c1,e,-,-,hc,hl,-,-,-⟩:=h.blk (List.getElem?_eq_getElem hk2)
  injection e with e1
  refine⟨g,p1,n1,c1,e1,hc,?_⟩;rw[List.take_succ_eq_append_getElem hk2,List.map_append,List.sum_append,hl];simp)
 have HS:Hid (∀k,((R.blocks.take k).map λb=>b.late.length).sum≤1000000):=(λk=>by
  rw[List.map_take]
  exact Nat.le_trans (zjr _ k) hfew)
 rw[zm5 R];rw[←hm] at hn ⊢;obtain⟨F,hF⟩:∃F:Nat→Nat,∀k,F k=((R.blocks.take k).map λb=>b.late.length).sum:=⟨_,λ_=>rfl⟩
 have HF0:F 0=0:=by rw[hF];rfl
 simp only[←hF] at HB HS ⊢;rw[←hm] at c0;clear h hm hfew hF
 go_enter Tryz.func118,Tryz.ntmps118
 go_wp2
 go_loopw [3,4] (λn i wr=>W=wr∧∃k:Nat,k≤m∧i = .int .i64 k∧n = .int .i64 (F k:Int)) (λ_ i _=>m-(intOf i).toNat)
 case atStart=>exact⟨rfl,0,by omega,rfl,by rw[HF0];rfl⟩
 case round=>
  obtain⟨rfl,k,hk,rfl,rfl⟩:=hrel;have hs:=HS.out k
  by_cases hkm:k<m
  ·obtain⟨g,p1,n1,c1',rfl,hc,hsum⟩:=HB.out k hkm
   have hs2:=HS.out (k+1);have HSUM:=zd hsum;rw[hsum] at hs2;clear hsum;go_wp2;refine⟨⟨trivial,k+1,by omega,by simp,by rw[HSUM.out];simp⟩,by simp[intOf];omega⟩
  ·obtain rfl:k=m:=by omega
   go_wp2
   go_ret
   exact⟨rfl,rfl⟩
set_option maxRecDepth 100000 in
theorem zpz {fates:List Int} (hv:zx W v fates) (hb:BL fates) (hl:fates.length≤1000000) (n:Nat):Calls Tryz.prog 116 #[.int .i64 (n:Int),v] W λe w'=>e = .returned (.int .i64 (um fates n:Int))∧w'=W:=by
 obtain⟨p,cap,rfl,hc⟩:=hv.ex
 by_cases hlt:n<fates.length
 ·obtain⟨a,rfl,cell⟩:∃a,p=some a∧W.cell? (a.add n)=some (.int .u8 fates[n]):=by
   rcases hc with h0|⟨a,rfl,h1⟩
   ·rw[h0] at hlt;simp at hlt
   ·exact⟨a,rfl,h1 n _ (by simp[zg,hlt])⟩
  have hbn:=hb fates[n] (List.getElem_mem _);have hre:um fates n=if fates[n]=255 then 256 else fates[n].toNat:=by simp[um,List.getElem?_eq_getElem hlt]
  rw[hre];generalize fates[n]=x at *;generalize fates.length=m at *;clear hv hc hb hre
  by_cases h255:x=255
  ·subst h255
   simp only[if_true]
   go_enter Tryz.func116,Tryz.ntmps116
   go_wp2
   go_ret
   exact⟨rfl,rfl⟩
  ·rw[if_neg h255]
   have hx:((x.toNat:Nat):Int)=x:=by omega
   rw[hx]
   go_enter Tryz.func116,Tryz.ntmps116
   go_wp2
   go_ret
   exact⟨rfl,rfl⟩
 ·have hre:um fates n=0:=by simp[um,List.getElem?_eq_none (Nat.le_of_not_lt hlt)]
  rw[hre];generalize fates.length=m at *;clear hv hc hb hre
  go_enter Tryz.func116,Tryz.ntmps116
  go_wp2
  go_ret
  exact⟨rfl,rfl⟩
def RDk.mayE (R:RDk) (i:Int):Int:=if R.gone=true then 180 else if i<0∨(R.blocks.length:Int)≤i then 2 else 0
def RDk.bytes (R:RDk) (i:Nat):List Int:=match R.blocks[i]? with
 | none=>[]
 | some x=>jo x.late x.settled
theorem zl0 (R:RDk) (i:Int) (h:R.mayE i=0):R.gone=false∧∃k:Nat,i=(k:Int)∧k<R.blocks.length:=by
 unfold RDk.mayE at h
 cases hg:R.gone
 ·refine⟨rfl,?_⟩
  rw[hg] at h;simp only[Bool.false_eq_true,if_false] at h
  split at h
  ·cases h
  ·exact⟨i.toNat,by omega,by omega⟩
 ·rw[hg,if_pos rfl] at h
  cases h
theorem Vj.last {m:List (Nat × List Int)} {p:Option Addr} {c:Nat} (h:Vj rs W (.slice p n c) m) (h0:0<n) (x:List Int):∃b off,p=some ⟨b,off,none⟩∧rs b∧W.cell? ⟨b,off+(n-1)*2+1,none⟩=some (.string (ofB (jo m x))):=by
 obtain⟨p',c',e,hc⟩:=h
 injection e with e1 e2 e3
 subst e1 e2 e3
 rcases hc with hm|⟨b,off,rfl,hrs,hc⟩
 ·rw[hm] at h0;simp at h0
 ·refine⟨b,off,rfl,hrs,?_⟩
  rw[Nat.add_assoc];refine hc _ _ ?_;rw[Jy jk 2 Zx m (m.length-1) 1 (by omega) (by omega)]
  unfold jo;rw[List.getLast?_eq_getElem?,List.getElem?_eq_getElem (l:=m) (by omega)]
  rfl
set_option maxRecDepth 100000 in
theorem rread (h:R18 rs W db R) (i:Int):Calls Tryz.prog 107 #[.pointer (some ⟨db,0,none⟩),.int .i64 i] W λe w'=>e = .returned (.tuple #[.string (if R.mayE i=0 then ofB (R.bytes i.toNat) else ⟨#[]⟩),.int .i64 (R.mayE i)])∧w'=W:=by
 have HM:=zd (rmay h i 0);have HM2:Hid (Calls Tryz.prog 117 #[.pointer (some ⟨db,0,none⟩),.int .i64 i] W λe w'=>e = .returned (.int .i64 (R.mayE i))∧w'=W):=(show Calls _ _ _ _ _ from HM.out)
 clear HM
 by_cases he:R.mayE i=0
 ·obtain⟨hg,k,rfl,hk⟩:=zl0 R i he
  rw[he] at HM2 ⊢;simp only[if_true,Int.toNat_natCast];obtain⟨bv,bs,h⟩:=h;have hx:R.blocks[k]? = some R.blocks[k]:=List.getElem?_eq_getElem hk;obtain⟨g,cap,p,n,c,rfl,-,cs,cl,hn,hl,-,-,-⟩:=h.blk hx;have hnn:=h.n;have hfew:=h.few;obtain⟨c0,c1,c2,c3,y⟩:=h.cells;have hby:R.bytes k=jo R.blocks[k].late R.blocks[k].settled:=by unfold RDk.bytes;rw[hx]
  have hnf:n≤1000000:=by
   have:n≤yf R:=by
    rw[hn];unfold yf
    exact Xl _ _ (List.mem_map.2 ⟨_,List.getElem_mem hk,rfl⟩)
   omega
  rw[hby];have HL:=zd hl;clear h hl hx hby hfew he;generalize R.blocks[k]=x at *;obtain⟨xs,xl⟩:=x;simp only at *;generalize R.blocks.length=m at *
  by_cases h0:0<n
  ·obtain⟨a,off,rfl,-,hc⟩:=HL.out.last h0 xs
   have hcn:((n:Int)-1)=((n-1:Nat):Int):=by omega
   generalize jo xl xs=z at *;clear hn;obtain⟨n1,rfl⟩:∃n1,n=n1+1:=⟨n-1,by omega⟩
   simp only[Nat.add_sub_cancel] at hc hcn
   go_enter Tryz.func107,Tryz.ntmps107
   go_wp2_with (go_at_call 117;refine HM2.out.mono ?_;rintro e w1 ⟨rfl,h5⟩;obtain rfl:W=w1:=h5.symm)
   go_ret2
   exact⟨rfl,rfl⟩
  ·obtain rfl:n=0:=by omega
   have hz:jo xl xs=xs:=by
    have:xl = []:=List.eq_nil_of_length_eq_zero hn.symm;subst this
    rfl
   rw[hz];clear hz hn HL
   go_enter Tryz.func107,Tryz.ntmps107
   go_wp2_with (go_at_call 117;refine HM2.out.mono ?_;rintro e w1 ⟨rfl,h5⟩;obtain rfl:W=w1:=h5.symm)
   go_ret2
   exact⟨rfl,rfl⟩
 ·rw[if_neg he]
  clear h;generalize R.mayE i=ev at *
  go_enter Tryz.func107,Tryz.ntmps107
  go_wp2_with (go_at_call 117;refine HM2.out.mono ?_;rintro e w1 ⟨rfl,h5⟩;obtain rfl:W=w1:=h5.symm)
  go_ret2
  exact⟨rfl,rfl⟩
end
end Go.Proofs.YtbcbhlfjgobejaaGreat
