/- A store in memory: how it lies; Next, Broken, met: the walks. Conditions: none, or as the theorems say. -/
import Derived.Test.YtbcbhlfjgobejaaGreatI14
import Derived.StillTailTactics
set_option linter.unusedSimpArgs false
set_option linter.unusedVariables false
namespace Go.Proofs.YtbcbhlfjgobejaaGreat
set_option maxHeartbeats 200000000
open Go.RowKit Go.Sf
structure Sto where
 d:Dk
 recs:List (Int × (List Int × List Nat))
 taken:List Bool
 next:Int
 broken:Int
def qp (l:List Nat):List Value:=l.map fun (i:Nat)=>Value.int .i64 (i:Int)
def um (l:List Bool):List Value:=l.map Value.bool
def Xn (v:Value × Value):Value:=.agg #[v.1,v.2]
structure ye (rb:Nat→Prop) (W:World) (v:Value) (cs:List Value):Prop where
 ex:∃p cap,v = .slice p cs.length cap∧cs.length≤cap∧cap≤9223372036854775807∧(cs = []∨∃a,p=some a∧rb a.block∧∀j u,cs[j]? = some u→W.cell? (a.add j)=some u)
theorem ye.turn {rb:Nat→Prop} {W W':World} {v:Value} {cs:List Value} (h:ye rb W v cs) (hs:∀k,rb k→W'.heap[k]? = W.heap[k]?):ye rb W' v cs:=by
 obtain⟨p,cap,rfl,h1,h2,h3⟩:=h.ex;refine⟨p,cap,rfl,h1,h2,?_⟩
 rcases h3 with h3|⟨a,rfl,hb,h4⟩
 ·exact Or.inl h3
 ·refine Or.inr ⟨a,rfl,hb,fun j u hu=>?_⟩
  have hbl:(a.add j).block=a.block:=by unfold Addr.add;split <;> rfl
  exact(World.cell?_of_block (hs _ (by rw[hbl];exact hb))).trans (h4 j u hu)
theorem ye.mono {rb rb':Nat→Prop} {W:World} {v:Value} {cs:List Value} (h:ye rb W v cs) (hs:∀k,rb k→rb' k):ye rb' W v cs:=by
 obtain⟨p,cap,rfl,h1,h2,h3⟩:=h.ex;refine⟨p,cap,rfl,h1,h2,?_⟩
 rcases h3 with h3|⟨a,rfl,hb,h4⟩
 ·exact Or.inl h3
 ·exact Or.inr ⟨a,rfl,hs _ hb,h4⟩
theorem ye.raw {rb:Nat→Prop} {W:World} {v:Value} {l:List Int} (h:ye rb W v (zi l)):yc W v l:=by
 obtain⟨p,cap,rfl,h1,h2,h3⟩:=h.ex;refine⟨p,cap,by rw[zr],?_⟩
 rcases h3 with h3|⟨a,rfl,_,h4⟩
 ·exact Or.inl (by simpa[zi] using h3)
 ·exact Or.inr ⟨a,rfl,h4⟩
structure SOk (S:Sto):Prop where
 tl:S.taken.length=S.d.n
 blks:∀r∈S.recs,r.2.2≠[]∧∀i∈r.2.2,i<S.taken.length
 bytes:∀r∈S.recs,BL r.2.1∧r.2.1.length≤131072
 n0:1≤S.next
 n1:S.next≤4611686018427387905
def zf1 (own:Nat→Prop) (st mb tb:Nat) (rb:Nat→Prop) (k:Nat):Prop:=own k∨k=st∨k=mb∨k=tb∨rb k
structure SAt (own:Nat→Prop) (W:World) (st db mb tb:Nat) (rv:Int→Value × Value) (rb:Nat→Prop) (S:Sto):Prop where
 box:W.heap[st]? = some (.cells #[.pointer (some ⟨db,0,none⟩),.map (some mb),.slice (some ⟨tb,0,none⟩) S.taken.length S.taken.length,.int .i64 S.next,.int .i64 S.broken] 132 (0,0))
 recs:yg W mb (Value.int .i64) Xn (S.recs.map fun r=>(r.1,rv r.1))
 rows:∀r∈S.recs,ye rb W (rv r.1).1 (zi r.2.1)∧ye rb W (rv r.1).2 (qp r.2.2)
 tak:W.heap[tb]? = some (.cells (um S.taken).toArray 4 (0,0))
 disk:vl (zf1 own st mb tb rb) W db S.d
 away:∀k,own k→k≠st∧k≠mb∧k≠tb∧¬rb k
 rbs:∀k,rb k→k≠st∧k≠mb∧k≠tb
 ok:SOk S
def Zc (own:Nat→Prop) (W:World) (st db:Nat) (S:Sto):Prop:=∃mb tb rv rb,SAt own W st db mb tb rv rb S
section
variable {own : Nat → Prop} {W W' : World} {st db mb tb : Nat} {rv : Int → Value × Value} {rb : Nat → Prop} {S : Sto}
theorem SAt.st_lt (h:SAt own W st db mb tb rv rb S):st<W.heap.size:=(Array.getElem?_eq_some_iff.1 h.box).1
theorem SAt.tb_lt (h:SAt own W st db mb tb rv rb S):tb<W.heap.size:=(Array.getElem?_eq_some_iff.1 h.tak).1
theorem SAt.mb_lt (h:SAt own W st db mb tb rv rb S):mb<W.heap.size:=h.recs.lt
theorem SAt.rb_lt (h:SAt own W st db mb tb rv rb S) {k:Nat} (hk:rb k):k<W.heap.size:=h.disk.own_lt (Or.inr (Or.inr (Or.inr (Or.inr hk))))
theorem SAt.own_lt (h:SAt own W st db mb tb rv rb S) {k:Nat} (hk:own k):k<W.heap.size:=h.disk.own_lt (Or.inl hk)
theorem SAt.ne (h:SAt own W st db mb tb rv rb S):st≠mb∧st≠tb∧mb≠tb:=by
 obtain⟨es,c,hb,_⟩:=h.recs;have h1:=h.box;have h2:=h.tak;refine⟨fun e=>?_,fun e=>?_,fun e=>?_⟩
 ·rw[e,hb] at h1;cases h1
 ·rw[e,h2] at h1
  injection h1 with h1
  injection h1 with h1 h3
  cases h3
 ·rw[e,h2] at hb;cases hb
theorem SAt.turned (h:SAt own W st db mb tb rv rb S) {d':Dk} (hd:vl (zf1 own st mb tb rb) W' db d') (ht:zq (fun k=>¬zf1 own st mb tb rb k) W W') (hn:d'.n=S.d.n):SAt own W' st db mb tb rv rb { S with d:=d' } where
 box:=(ht.block st h.st_lt (fun e=>e (Or.inr (Or.inl rfl)))).trans h.box
 recs:=h.recs.same (ht.block mb h.mb_lt (fun e=>e (Or.inr (Or.inr (Or.inl rfl)))))
 rows:=fun r hr=>⟨(h.rows r hr).1.turn fun k hk=>ht.block k (h.rb_lt hk) (fun e=>e (Or.inr (Or.inr (Or.inr (Or.inr hk))))),(h.rows r hr).2.turn fun k hk=>ht.block k (h.rb_lt hk) (fun e=>e (Or.inr (Or.inr (Or.inr (Or.inr hk)))))⟩
 tak:=(ht.block tb h.tb_lt (fun e=>e (Or.inr (Or.inr (Or.inr (Or.inl rfl)))))).trans h.tak
 disk:=hd
 away:=h.away
 rbs:=h.rbs
 ok:=⟨h.ok.tl.trans hn.symm,h.ok.blks,h.ok.bytes,h.ok.n0,h.ok.n1⟩
theorem Ul {st mb tb:Nat} {rb:Nat→Prop} (ht:zq (fun k=>¬zf1 own st mb tb rb k) W W'):zq (fun k=>¬own k) W W':=ht.mono fun k hk e=>hk (Or.inl e)
theorem SAt.kept (h:SAt own W st db mb tb rv rb S) (hg:W.grownBy W' none):SAt own W' st db mb tb rv rb S:=
 h.turned (d':=S.d) (h.disk.kept hg) ⟨hg.os,hg.tape,hg.output,hg.size,fun k hk _=>hg.block k hk (by simp)⟩ rfl
theorem Zc.kept (h:Zc own W st db S) (hg:W.grownBy W' none):Zc own W' st db S:=by
 obtain⟨mb,tb,rv,rb,h⟩:=h
 exact⟨mb,tb,rv,rb,h.kept hg⟩
theorem SAt.more (h:SAt own W st db mb tb rv rb S) (hg:W.grownBy W' none) {rb':Nat→Prop} (h1:∀k,rb k→rb' k) (h2:∀k,rb' k→rb k∨W.heap.size≤k) (h3:∀k,rb' k→k<W'.heap.size):SAt own W' st db mb tb rv rb' S:=by
 have hk:=h.kept hg;refine⟨hk.box,hk.recs,fun r hr=>⟨(hk.rows r hr).1.mono h1,(hk.rows r hr).2.mono h1⟩,hk.tak,h.disk.more hg (fun k hk=>?_) (fun k hk=>?_),fun k hk2=>?_,fun k hk=>?_,h.ok⟩
 ·rcases hk with e|e|e|e|e
  ·exact Or.inl (Or.inl e)
  ·exact Or.inl (Or.inr (Or.inl e))
  ·exact Or.inl (Or.inr (Or.inr (Or.inl e)))
  ·exact Or.inl (Or.inr (Or.inr (Or.inr (Or.inl e))))
  ·rcases h2 k e with g|g
   ·exact Or.inl (Or.inr (Or.inr (Or.inr (Or.inr g))))
   ·exact Or.inr g
 ·have hs:=hg.size
  rcases hk with e|e|e|e|e
  ·have:=h.own_lt e;omega
  ·have:=h.st_lt;omega
  ·have:=h.mb_lt;omega
  ·have:=h.tb_lt;omega
  ·exact h3 k e
 ·obtain⟨a1,a2,a3,a4⟩:=h.away k hk2
  refine⟨a1,a2,a3,fun e=>?_⟩
  rcases h2 k e with g|g
  ·exact a4 g
  ·have:=h.own_lt hk2;omega
 ·rcases h2 k hk with g|g
  ·exact h.rbs k g
  ·have a1:=h.st_lt
   have a2:=h.mb_lt;have a3:=h.tb_lt
   exact⟨by omega,by omega,by omega⟩
theorem SAt.cells (h:SAt own W st db mb tb rv rb S):W.cell? ⟨st,0,none⟩=some (.pointer (some ⟨db,0,none⟩))∧W.cell? ⟨st,1,none⟩=some (.map (some mb))∧W.cell? ⟨st,2,none⟩=some (.slice (some ⟨tb,0,none⟩) S.taken.length S.taken.length)∧W.cell? ⟨st,3,none⟩=some (.int .i64 S.next)∧W.cell? ⟨st,4,none⟩=some (.int .i64 S.broken)∧∀i,W.frozen? ⟨st,i,none⟩=false:=by
 have hb:=h.box;refine⟨?_,?_,?_,?_,?_,fun i=>?_⟩ <;> simp[World.cell?,World.frozen?,hb]
theorem vl.turn {own:Nat→Prop} {d:Dk} (h:vl own W db d) (ht:zq own W W'):vl own W' db d:=by
 obtain⟨sb,nb,lv,h⟩:=h.ex
 exact⟨sb,nb,lv,(ht.block db h.dlt h.odb).trans h.box,h.st.same (ht.block sb h.st.lt h.osb),h.now.same (ht.block nb h.now.lt h.onb),uz h.late (fun g hg=>ht.block g (Go.Proofs.YtbcbhlfjgobejaaGreat.own_lt h.late hg) (h.olv g hg)),h.sn,h.odb,h.osb,h.onb,h.olv,fun k hk=>Nat.lt_of_lt_of_le (h.lt k hk) ht.size,h.n,h.w0,h.w1,h.bst,h.bnow,h.blate,h.few⟩
theorem SAt.change (h:SAt own W st db mb tb rv rb S) (ht:zq (fun k=>k=st∨k=mb∨k=tb) W W') (rv':Int→Value × Value) (S':Sto) (hd:S'.d=S.d)
  (box:W'.heap[st]? = some (.cells #[.pointer (some ⟨db,0,none⟩),.map (some mb),.slice (some ⟨tb,0,none⟩) S'.taken.length S'.taken.length,.int .i64 S'.next,.int .i64 S'.broken] 132 (0,0)))
  (recs:yg W' mb (Value.int .i64) Xn (S'.recs.map fun r=>(r.1,rv' r.1)))
  (rows:∀r∈S'.recs,ye rb W (rv' r.1).1 (zi r.2.1)∧ye rb W (rv' r.1).2 (qp r.2.2))
  (tak:W'.heap[tb]? = some (.cells (um S'.taken).toArray 4 (0,0))) (ok:SOk S'):SAt own W' st db mb tb rv' rb S'∧zq (fun k=>¬own k) W W':=by
 have hrb:∀k,rb k→W'.heap[k]? = W.heap[k]?:=fun k hk=>ht.block k (h.rb_lt hk) (fun e=>by
  obtain⟨a1,a2,a3⟩:=h.rbs k hk
  rcases e with e|e|e <;> contradiction)
 refine⟨⟨box,recs,fun r hr=>⟨(rows r hr).1.turn hrb,(rows r hr).2.turn hrb⟩,tak,?_,h.away,h.rbs,ok⟩,ht.mono fun k hk ho=>?_⟩
 ·rw[hd]
  refine h.disk.turn (ht.mono fun k hk=>?_)
  rcases hk with e|e|e
  ·exact Or.inr (Or.inl e)
  ·exact Or.inr (Or.inr (Or.inl e))
  ·exact Or.inr (Or.inr (Or.inr (Or.inl e)))
 ·obtain⟨a1,a2,a3,_⟩:=h.away k ho
  rcases hk with e|e|e <;> contradiction
theorem SAt.setNext (h:SAt own W st db mb tb rv rb S) (n:Int) (h0:1≤n) (h1:n≤4611686018427387905):SAt own (W.setCell ⟨st,3,none⟩ (.int .i64 n)) st db mb tb rv rb { S with next:=n }∧zq (fun k=>¬own k) W (W.setCell ⟨st,3,none⟩ (.int .i64 n)):=by
 obtain⟨n1,n2,_⟩:=h.ne;refine h.change ((yt W st 3 _).mono fun k hk=>Or.inl hk) rv _ rfl ?_ ?_ h.rows ?_ ⟨h.ok.tl,h.ok.blks,h.ok.bytes,h0,h1⟩
 ·simp[World.setCell,Array.getElem?_modify,h.box]
 ·exact h.recs.kept (yb W st 3 _) (by simp;exact Ne.symm n1)
 ·exact((yb W st 3 _).block tb h.tb_lt (by simp;exact Ne.symm n2)).trans h.tak
theorem SAt.setBroken (h:SAt own W st db mb tb rv rb S) (n:Int):SAt own (W.setCell ⟨st,4,none⟩ (.int .i64 n)) st db mb tb rv rb { S with broken:=n }∧zq (fun k=>¬own k) W (W.setCell ⟨st,4,none⟩ (.int .i64 n)):=by
 obtain⟨n1,n2,_⟩:=h.ne;refine h.change ((yt W st 4 _).mono fun k hk=>Or.inl hk) rv _ rfl ?_ ?_ h.rows ?_ ⟨h.ok.tl,h.ok.blks,h.ok.bytes,h.ok.n0,h.ok.n1⟩
 ·simp[World.setCell,Array.getElem?_modify,h.box]
 ·exact h.recs.kept (yb W st 4 _) (by simp;exact Ne.symm n1)
 ·exact((yb W st 4 _).block tb h.tb_lt (by simp;exact Ne.symm n2)).trans h.tak
set_option maxRecDepth 100000 in
theorem Qx (h:SAt own W st db mb tb rv rb S):Calls Tryz.prog 46 #[.pointer (some ⟨st,0,none⟩)] W fun e w'=>e = .returned (.int .i64 S.broken)∧w'=W:=by
 obtain⟨c0,c1,c2,c3,c4,y⟩:=h.cells;clear h
 go_enter Tryz.func46,Tryz.ntmps46
 go_wp2
 go_ret
 exact⟨rfl,rfl⟩
def Sto.met (S:Sto) (e:Int):Sto:=if e=0 then S else { S with broken:=e }
set_option maxRecDepth 100000 in
theorem zgq (h:SAt own W st db mb tb rv rb S) (e:Int):Calls Tryz.prog 96 #[.pointer (some ⟨st,0,none⟩),.int .i64 e] W fun e' w'=>e' = .returned (.bool (decide (e=0)))∧SAt own w' st db mb tb rv rb (S.met e)∧zq (fun k=>¬own k) W w':=by
 obtain⟨c0,c1,c2,c3,c4,y⟩:=h.cells;have HS:=zd (h.setBroken e);have H0:=zd h;clear h;unfold Sto.met
 by_cases he:e=0
 ·subst he
  go_enter Tryz.func96,Tryz.ntmps96
  go_wp2
  go_ret
  exact⟨by simp,by simpa using H0.out,zq.refl _ _⟩
 ·rw[if_neg he]
  go_enter Tryz.func96,Tryz.ntmps96
  go_wp2
  go_ret
  exact⟨by simp[he],HS.out.1,HS.out.2⟩
end
theorem zbq:Qf Tryz.prog 2 (Value.int .i64):=zbr Tryz.underlying2 (fun _=>rfl) (fun a b h=>by simpa using h)
theorem zbv {α β:Type} (f:Int→α→β) (m:List (Int × α)) (k:Int):zw (m.map fun r=>(r.1,f r.1 r.2)) k=(zw m k).map (f k):=by
 induction m with
 | nil=>rfl
 | cons p r ih=>
  simp only[List.map_cons,zw]
  by_cases h:p.1=k
  ·rw[if_pos h,if_pos h,h];rfl
  ·rw[if_neg h,if_neg h,ih]
theorem zmk {α β:Type} (f f':Int→β) (m:List (Int × α)) (k:Int) (v:α) (hf:∀j,j≠k→f' j=f j) (hn:(m.map (·.1)).Nodup):yj (m.map fun r=>(r.1,f r.1)) k (f' k)=(yj m k v).map fun r=>(r.1,f' r.1):=by
 induction m with
 | nil=>rfl
 | cons p r ih=>
  simp only[List.map_cons,yj];simp only[List.map_cons,List.nodup_cons] at hn
  by_cases h:p.1=k
  ·rw[if_pos h,if_pos h]
   simp only[List.map_cons]
   congr 1
   apply List.map_congr_left
   intro q hq;rw[hf];intro e
   exact hn.1 (List.mem_map.2 ⟨q,hq,by rw[h,e]⟩)
  ·rw[if_neg h,if_neg h,ih hn.2]
   simp only[List.map_cons,hf _ h]
theorem zmg {α β:Type} (f:Int→β) (m:List (Int × α)) (k:Int):qn (m.map fun r=>(r.1,f r.1)) k=(qn m k).map fun r=>(r.1,f r.1):=by
 unfold qn;rw[List.filter_map]
 rfl
theorem zml {α:Type} {m:List (Int × α)} (hn:(m.map (·.1)).Nodup) {k:Int} {v:α} {r:Int × α} (hr:r∈yj m k v):r=(k,v)∨(r∈m∧r.1≠k):=by
 have h1:zw (yj m k v) r.1=some r.2:=Yo (zb0 hn k v) hr
 by_cases h:r.1=k
 ·left
  rw[h,xt] at h1
  cases h1
  rw[←h]
 ·right
  rw[vq _ _ h] at h1
  exact⟨uo h1,h⟩
def qu (t:List Bool) (bl:List Nat) (x:Bool):List Bool:=bl.foldl (fun t i=>t.set i x) t
theorem qv (x:Bool):∀(bl:List Nat) (t:List Bool),(qu t bl x).length=t.length
 | [],_=>rfl
 | i :: r,t=>by show(qu (t.set i x) r x).length=_;rw[qv x r];simp
theorem zdy (t:List Bool) (bl:List Nat) (i:Nat) (x:Bool):qu t (bl ++ [i]) x=(qu t bl x).set i x:=by
 unfold qu;rw[List.foldl_append];rfl
def Sto.kept (S:Sto) (k:Int) (b:List Int) (bl:List Nat):Sto:={ S with recs:=yj S.recs k (b,bl),taken:=qu S.taken bl true }
theorem zc5 (t:List Bool) (i:Nat) (x:Bool):(um t).toArray.setIfInBounds i (.bool x)=(um (t.set i x)).toArray:=by
 simp[um,List.map_set]
section
variable {own : Nat → Prop} {W W' : World} {st db mb tb : Nat} {rv : Int → Value × Value} {rb : Nat → Prop} {S : Sto}
theorem SAt.taken_le (h:SAt own W st db mb tb rv rb S):S.taken.length≤4096:=by
 obtain⟨sb,nb,lv,hd⟩:=h.disk.ex;rw[h.ok.tl]
 exact hd.n
theorem SAt.setTaken (h:SAt own W st db mb tb rv rb S) (i:Nat) (x:Bool):SAt own (W.setCell ⟨tb,i,none⟩ (.bool x)) st db mb tb rv rb { S with taken:=S.taken.set i x }∧zq (fun k=>¬own k) W (W.setCell ⟨tb,i,none⟩ (.bool x)):=by
 obtain⟨n1,n2,n3⟩:=h.ne;refine h.change ((yt W tb i _).mono fun k hk=>Or.inr (Or.inr hk)) rv _ rfl ?_ ?_ h.rows ?_ ⟨by simpa using h.ok.tl,by simpa using h.ok.blks,h.ok.bytes,h.ok.n0,h.ok.n1⟩
 ·have:=((yb W tb i (.bool x)).block st h.st_lt (by simp;exact n2)).trans h.box
  simpa using this
 ·exact h.recs.kept (yb W tb i _) (by simp;exact n3)
 ·rw[←zc5]
  simp[World.setCell,Array.getElem?_modify,h.tak]
theorem SAt.put (h:SAt own W st db mb tb rv rb S) {k:Int} {v:Value × Value} {b:List Int} {bl:List Nat} (hw:yg W' mb (Value.int .i64) Xn (yj (S.recs.map fun r=>(r.1,rv r.1)) k v)) (hg:W.grownBy W' (some mb))
  (h1:ye rb W v.1 (zi b)) (h2:ye rb W v.2 (qp bl)) (hbl:bl≠[]∧∀i∈bl,i<S.taken.length) (hbb:BL b∧b.length≤131072) :
  SAt own W' st db mb tb (fun j=>if j=k then v else rv j) rb { S with recs:=yj S.recs k (b,bl) }∧zq (fun k=>¬own k) W W':=by
 obtain⟨n1,n2,n3⟩:=h.ne;have hnd:(S.recs.map (·.1)).Nodup:=by have:=h.recs.nodup;simpa[List.map_map,Function.comp_def] using this
 have hmem:∀r∈yj S.recs k (b,bl),r=(k,(b,bl))∨(r∈S.recs∧r.1≠k):=fun r hr=>zml hnd hr
 refine h.change ⟨hg.os,hg.tape,hg.output,hg.size,fun j hj hn=>hg.block j hj (fun e=>hn (Or.inr (Or.inl (by injection e))))⟩ _ _ rfl ?_ ?_ (fun r hr=>?_) ?_ ⟨h.ok.tl,fun r hr=>?_,fun r hr=>?_,h.ok.n0,h.ok.n1⟩
 ·exact(hg.block st h.st_lt (by simp;exact n1)).trans h.box
 ·rw[←zmk rv (fun j=>if j=k then v else rv j) S.recs k (b,bl) (fun j hj=>if_neg hj) hnd,if_pos rfl];exact hw
 ·rcases hmem r hr with rfl|⟨hr2,hk⟩
  ·simp only[if_true];exact⟨h1,h2⟩
  ·simp only[if_neg hk];exact h.rows r hr2
 ·exact(hg.block tb h.tb_lt (by simp;exact Ne.symm n3)).trans h.tak
 ·rcases hmem r hr with rfl|⟨hr2,hk⟩
  ·exact hbl
  ·exact h.ok.blks r hr2
 ·rcases hmem r hr with rfl|⟨hr2,hk⟩
  ·exact hbb
  ·exact h.ok.bytes r hr2
theorem SAt.del (h:SAt own W st db mb tb rv rb S) {k:Int} (hw:yg W' mb (Value.int .i64) Xn (qn (S.recs.map fun r=>(r.1,rv r.1)) k)) (hg:W.grownBy W' (some mb)) :
  SAt own W' st db mb tb rv rb { S with recs:=qn S.recs k }∧zq (fun k=>¬own k) W W':=by
 obtain⟨n1,n2,n3⟩:=h.ne;have hmem:∀r∈qn S.recs k,r∈S.recs:=fun r hr=>(List.mem_filter.1 hr).1
 refine h.change ⟨hg.os,hg.tape,hg.output,hg.size,fun j hj hn=>hg.block j hj (fun e=>hn (Or.inr (Or.inl (by injection e))))⟩ _ _ rfl ?_ ?_ (fun r hr=>h.rows r (hmem r hr)) ?_ ⟨h.ok.tl,fun r hr=>h.ok.blks r (hmem r hr),fun r hr=>h.ok.bytes r (hmem r hr),h.ok.n0,h.ok.n1⟩
 ·exact(hg.block st h.st_lt (by simp;exact n1)).trans h.box
 ·rw[←zmg rv S.recs k];exact hw
 ·exact(hg.block tb h.tb_lt (by simp;exact Ne.symm n3)).trans h.tak
set_option maxRecDepth 100000 in
theorem skeep (h:SAt own W st db mb tb rv rb S) (k:Int) {v:Value × Value} {b:List Int} {bl:List Nat} (h1:ye rb W v.1 (zi b)) (h2:ye rb W v.2 (qp bl)) (hbl:bl≠[]∧∀i∈bl,i<S.taken.length) (hbb:BL b∧b.length≤131072) :
  Calls Tryz.prog 94 #[.pointer (some ⟨st,0,none⟩),.int .i64 k,Xn v] W fun e w'=>e = .returned (.tuple #[])∧(∃rv',SAt own w' st db mb tb rv' rb (S.kept k b bl))∧zq (fun k=>¬own k) W w':=by
 obtain⟨v1,v2⟩:=v;obtain⟨c0,c1,c2,c3,c4,y⟩:=h.cells;have HS:=zd h;have hlt:=h.st_lt;have H1:=zd h1;have H2:=zd h2;have HBL:=zd hbl;have HBB:=zd hbb;clear h h1 h2 hbl hbb;unfold Xn
 go_enter Tryz.func94,Tryz.ntmps94
 go_wp2;have hg1:=zg W (.cells #[v1,v2] 158) none;have HG1:=zd hg1;have k1:=hg1.cell c1 (by simp)
 have b0:(W.alloc (.cells #[v1,v2] 158)).cell? ⟨W.heap.size,0,none⟩=some v1:=(zh (heap_alloc_new _ _) 0).trans rfl;have b1:(W.alloc (.cells #[v1,v2] 158)).cell? ⟨W.heap.size,1,none⟩=some v2:=(zh (heap_alloc_new _ _) 1).trans rfl;have HM1:=zd ((HS.out.kept hg1).recs);clear hg1;generalize W.alloc (.cells #[v1,v2] 158)=W1 at *
 go_still_tail 6,(by kernel_rfl)
 change wpList _ _ _ _ _ W1.drew
 have hg2:=zl HG1.out;have b0:W1.drew.cell? ⟨W.heap.size,0,none⟩=some v1:=b0;have b1:W1.drew.cell? ⟨W.heap.size,1,none⟩=some v2:=b1;have HS2:=zd (HS.out.kept hg2);have HT2:Hid (zq (fun k=>¬own k) W W1.drew):=⟨hg2.os,hg2.tape,hg2.output,hg2.size,fun k hk _=>hg2.block k hk (by simp)⟩
 have HR:Hid (∀W':World,W.grownBy W' none→ye rb W' v1 (zi b)∧ye rb W' v2 (qp bl)):=(fun W' hg=>⟨H1.out.turn fun k hk=>hg.block k (HS.out.rb_lt hk) (by simp),H2.out.turn fun k hk=>hg.block k (HS.out.rb_lt hk) (by simp)⟩)
 have HR2:=zd (HR.out _ hg2);have HM2:=zd HS2.out.recs;have hmb:=HS.out.mb_lt;clear hg2 HM1 HG1 k1 HR;generalize W1.drew=W2 at *;refine zco (ek:=Value.int .i64) (ev:=Xn) _ rfl _ _ _ 129 rfl zbq Tryz.underlying129 mb _ rfl HM2.out k (v1,v2) rfl rfl ?_;intro w3 hm3 hg3 hs3;obtain⟨hs4,ht4⟩:=HS2.out.put hm3 hg3 HR2.out.1 HR2.out.2 HBL.out HBB.out;have b2:w3.cell? ⟨W.heap.size,1,none⟩=some v2:=hg3.cell b1 (by simp;omega)
 have HS4:=zd hs4;have HT4:=zd (HT2.out.trans ht4);clear hm3 hg3 hs3 hs4 ht4 b0 b1 HM2 HS2 HT2 HR2;obtain⟨p2,cap2,rfl,g1,g2,-⟩:=H2.out.ex;generalize hnn:(qp bl).length=nn at *;obtain rfl:nn=bl.length:=by rw[←hnn];simp[qp]
 have htl:S.taken.length≤4096:=HS.out.taken_le;have hbl4:bl.length≤9223372036854775807:=by omega
 obtain⟨S2,hS2⟩:∃S2:Sto,S2 = { S with recs:=yj S.recs k (b,bl) }:=⟨_,rfl⟩
 have hkd:∀j:Nat,j=bl.length→{ S2 with taken:=qu S.taken (bl.take j) true }=S.kept k b bl:=fun j hj=>by rw[hj,List.take_length,hS2];rfl
 have HKD:=zd hkd;rw[←hS2] at HS4;have HIN:Hid ((k,(b,bl))∈S2.recs):=(show _∈S2.recs from by rw[hS2];exact uo (xt _ _ _))
 have HTK:=zd (show S2.taken=S.taken from by rw[hS2])
 clear hS2 hkd H1 H2 HS c0 c1 c2 c3 c4 y;obtain⟨rv',hrv⟩:∃rv':Int→Value × Value,rv'=fun j=>if j=k then (v1,.slice p2 bl.length cap2) else rv j:=⟨_,rfl⟩
 rw[←hrv] at HS4;have HRV:Hid (rv' k=(v1,.slice p2 bl.length cap2)):=(show rv' k=_ from by rw[hrv];simp)
 clear hrv;go_wp2
 go_loopw [17] (fun i wr=>∃j:Nat,j≤bl.length∧i = .int .i64 j∧SAt own wr st db mb tb rv' rb { S2 with taken:=qu S.taken (bl.take j) true }∧zq (fun k=>¬own k) W wr) (fun i _=>bl.length-(intOf i).toNat)
 case atStart=>
  refine⟨0,Nat.zero_le _,rfl,?_,HT4.out⟩;have:=HS4.out;simp only[List.take_zero,qu,List.foldl_nil];rw[←HTK.out]
  exact this
 case round=>
  obtain⟨j,hj,rfl,hD,hT⟩:=hrel;obtain⟨e0,e1,e2,e3,e4,ey⟩:=hD.cells;simp only[qv] at e2
  by_cases hlt:j<bl.length
  ·obtain⟨x,hx⟩:∃x,bl[j]? = some x:=⟨_,List.getElem?_eq_getElem hlt⟩
   have hxl:=HBL.out.2 x (List.mem_of_getElem? hx);obtain⟨a,rfl,ha⟩:∃a,p2=some a∧wr.cell? (a.add j)=some (.int .i64 x):=by
    have hr:=(hD.rows _ HIN.out).2;simp only[HRV.out] at hr;obtain⟨p',cap',e,_,_,hc⟩:=hr.ex
    injection e with q1 _ _
    subst q1
    rcases hc with h0|⟨a,h1,_,h2⟩
    ·have:(qp bl).length=0:=by rw[h0];rfl
     omega
    ·exact⟨a,h1,h2 j _ (by simp[qp,hx])⟩
   have hst:=hD.setTaken x true;have etk:qu S.taken (bl.take (j+1)) true=(qu S.taken (bl.take j) true).set x true:=by
    rw[List.take_add_one,hx,Option.toList_some,zdy]
   have HN:Hid (SAt own (wr.setCell ⟨tb,x,none⟩ (.bool true)) st db mb tb rv' rb { S2 with taken:=qu S.taken (bl.take (j+1)) true }∧zq (fun k=>¬own k) W (wr.setCell ⟨tb,x,none⟩ (.bool true))):=(by
    rw[etk]
    exact⟨hst.1,hT.trans hst.2⟩)
   have hfr:wr.frozen? ⟨tb,x,none⟩=false:=by simp[World.frozen?,hD.tak]
   have hcl:∃u,wr.cell? ⟨tb,x,none⟩=some u:=⟨_,(zh hD.tak x).trans (List.getElem?_toArray.trans (List.getElem?_eq_getElem (by simp[um,qv];omega)))⟩
   obtain⟨u,hu⟩:=hcl;have hN1:(x:Int)<S.taken.length:=by omega
   clear hD hT hst etk;generalize S.taken.length=nt at *;go_wp2
   go_roundw
   case rel=>exact⟨j+1,by omega,by go_num,HN.out.1,HN.out.2⟩
   case measure=>simp[intOf];omega
  ·obtain rfl:j=bl.length:=by omega
   have HF:Hid (SAt own wr st db mb tb rv' rb (S.kept k b bl)∧zq (fun k=>¬own k) W wr):=(by rw[←HKD.out bl.length rfl];exact⟨hD,hT⟩)
   clear hD hT;go_wp2
   first|go_end0|refine bodyPost_ret (results_none rfl _ _ _) rfl ?_
   exact⟨rfl,⟨_,HF.out.1⟩,HF.out.2⟩
end
def zdc (t:List Bool):Nat:=t.countP (fun x=>!x)
theorem Jk (w:World):(zeroValue 158).run Tryz.prog w = .ok (Xn (.slice none 0 0,.slice none 0 0)) w:=by kernel_rfl
section
variable {own : Nat → Prop} {W W' : World} {st db mb tb : Nat} {rv : Int → Value × Value} {rb : Nat → Prop} {S : Sto}
def uv (W w':World) (v:Value) (l:List Int):Prop:=w'.ownsRow W.heap.size 5 1 v l.length (zi l)
set_option maxRecDepth 100000 in
theorem sget (h:SAt own W st db mb tb rv rb S) (k:Int):Calls Tryz.prog 21 #[.pointer (some ⟨st,0,none⟩),.int .i64 k] W fun e w'=>W.grownBy w' none∧∃v,e = .returned (.tuple #[v,.bool (zw S.recs k).isSome])∧((zw S.recs k=none∧v = .slice none 0 0)∨∃r,zw S.recs k=some r∧uv W w' v r.1):=by
 obtain⟨c0,c1,c2,c3,c4,y⟩:=h.cells;have HM:=zd h.recs;have hlt:=h.st_lt;have eg:=zbv (fun j (_:List Int × List Nat)=>rv j) S.recs k
 cases hg:zw S.recs k with
 | none=>
  rw[hg] at eg;have HE:Hid ((((zw (S.recs.map fun r=>(r.1,rv r.1)) k).map Xn).getD (Xn (.slice none 0 0,.slice none 0 0))) = .agg #[.slice none 0 0,.slice none 0 0]∧(zw (S.recs.map fun r=>(r.1,rv r.1)) k).isSome=false):=(show _∧_ from by rw[eg];exact⟨rfl,rfl⟩)
  clear h eg hg
  go_enter Tryz.func21,Tryz.ntmps21
  go_wp2_with (first
   | (refine qx _ rfl _ _ 129 true rfl zbq Tryz.underlying129 (Jk _) mb _ rfl HM.out k rfl ?_;rw[HE.out.1,HE.out.2,if_pos rfl])
   | (go_at_call 97;refine(zc6 _).mono ?_;rintro e w2 ⟨rfl,h5⟩;subst h5))
  go_ret2
  exact⟨zg _ _ _,_,rfl,Or.inl ⟨trivial,rfl⟩⟩
 | some r=>
  rw[hg] at eg;obtain⟨r1,r2⟩:=r;have hmem:=uo hg;have hrow:=(h.rows _ hmem).1;have hlen:=(h.ok.bytes _ hmem).2;simp only at hrow hlen;obtain⟨⟨va,vb⟩,hv⟩:∃p,rv k=p:=⟨_,rfl⟩;rw[hv] at hrow eg;simp only at hrow;obtain⟨pa,na,ca,rfl⟩:∃pa na ca,va = .slice pa na ca:=by
   obtain⟨_,_,e1,_⟩:=hrow.ex
   exact⟨_,_,_,e1⟩
  obtain⟨pb,nb,cb,rfl⟩:∃pb nb cb,vb = .slice pb nb cb:=by
   have h2:=(h.rows _ hmem).2;simp only[hv] at h2;obtain⟨_,_,e2,_⟩:=h2.ex
   exact⟨_,_,_,e2⟩
  have HE:Hid ((((zw (S.recs.map fun r=>(r.1,rv r.1)) k).map Xn).getD (Xn (.slice none 0 0,.slice none 0 0))) = .agg #[.slice pa na ca,.slice pb nb cb]∧(zw (S.recs.map fun r=>(r.1,rv r.1)) k).isSome=true):=(show _∧_ from by rw[eg];exact⟨rfl,rfl⟩)
  have HC:Hid (∀W':World,W.grownBy W' none→Calls Tryz.prog 97 #[.slice pa na ca] W' fun e w'=>∃v',e = .returned v'∧w'.ownsRow W'.heap.size 5 1 v' r1.length (zi r1)∧W'.grownBy w' none):=(fun W' hg=>jp ((hrow.turn fun k hk=>hg.block k (h.rb_lt hk) (by simp)).raw) (by omega) (fun e=>by
   obtain⟨p,cap,e1,_,_,e2⟩:=hrow.ex
   rcases e2 with e2|⟨a,e2,_⟩
   ·simpa[zi] using e2
   ·rw[e1,e2] at e;cases e))
  clear h eg hrow
  go_enter Tryz.func21,Tryz.ntmps21
  go_wp2_with (first
   | (refine qx _ rfl _ _ 129 true rfl zbq Tryz.underlying129 (Jk _) mb _ rfl HM.out k rfl ?_;rw[HE.out.1,HE.out.2,if_pos rfl])
   | (go_at_call 97;refine(HC.out _ (zg _ _ _)).mono ?_;rintro e w2 ⟨v2,rfl,ho,hg⟩;have HO:=zd ho;have HG:=zd hg;clear ho hg))
  go_ret2
  exact⟨zo (zg _ _ _) HG.out,_,rfl,Or.inr ⟨_,rfl,Ye HO.out (by simp)⟩⟩
end
end Go.Proofs.YtbcbhlfjgobejaaGreat
