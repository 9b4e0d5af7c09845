/- A store in memory: how it lies; Next, Broken, met: the walks. Conditions: none, or as the theorems say. -/
import Derived.Test.YtbcbhlfjgobejaaGreatS13
import Derived.StillTailTactics
set_option linter.unusedSimpArgs false
set_option linter.unusedVariables false
namespace Go.Proofs.YtbcbhlfjgobejaaGreat
set_option maxHeartbeats 200000000
open Go.RowKit Go.Sf
variable {k:Int} {b:List Int} {bl:List Nat} {cs:List Value} {rb rb':Nat→Prop} {α β:Type} {v:Value} {W:World}
structure Sto where
 d:Dk
 recs:List (Int × (List Int × List Nat))
 taken:List Bool
 next:Int
 broken:Int
def jj (l:List Nat):List Value:=l.map λ(i:Nat)=>Value.int .i64 (i:Int)
def ul (l:List Bool):List Value:=l.map Value.bool
def Vv (v:Value × Value):Value:=.agg #[v.1,v.2]
structure xw (rb:Nat→Prop) (W:World) (v:Value) (cs:List Value):Prop where
 ex:∃p cap,v = .slice p cs.length cap∧cs.length≤cap∧cap≤9223372036854775807∧(cs = []∨∃a,p=some a∧rb a.block∧∀j u,cs[j]? = some u→W.cell? (a.add j)=some u)
theorem xw.turn {W':World} (h:xw rb W v cs) (hs:∀k,rb k→W'.heap[k]? = W.heap[k]?):xw rb W' v cs:=by
 obtain⟨p,cap,rfl,h1,h2,h3⟩:=h.ex;refine⟨p,cap,rfl,h1,h2,?_⟩
 rcases h3 with h3|⟨a,rfl,hb,h4⟩
 ·exact Or.inl h3
 ·refine Or.inr ⟨a,rfl,hb,λj u hu=>?_⟩
  have hbl:(a.add j).block=a.block:=by unfold Addr.add;split <;> rfl
  exact(World.cell?_of_block (hs _ (by rw[hbl];exact hb))).trans (h4 j u hu)
theorem xw.mono (h:xw rb W v cs) (hs:∀k,rb k→rb' k):xw rb' W v cs:=by
 obtain⟨p,cap,rfl,h1,h2,h3⟩:=h.ex;refine⟨p,cap,rfl,h1,h2,?_⟩
 rcases h3 with h3|⟨a,rfl,hb,h4⟩
 ·exact Or.inl h3
 ·exact Or.inr ⟨a,rfl,hs _ hb,h4⟩
theorem xw.raw {l:List Int} (h:xw rb W v (zg l)):zx W v l:=by
 obtain⟨p,cap,rfl,h1,h2,h3⟩:=h.ex;refine⟨p,cap,by rw[zu],?_⟩
 rcases h3 with h3|⟨a,rfl,_,h4⟩
 ·exact Or.inl (by simpa[zg] using h3)
 ·exact Or.inr ⟨a,rfl,h4⟩
structure SOk (S:Sto):Prop where
 tl:S.taken.length=S.d.n
 blks:∀r∈S.recs,r.2.2≠[]∧∀i∈r.2.2,i<S.taken.length
 bytes:∀r∈S.recs,BL r.2.1∧r.2.1.length≤131072
 n0:1≤S.next
 n1:S.next≤4611686018427387905
def ownS (own:Nat→Prop) (st mb tb:Nat) (rb:Nat→Prop) (k:Nat):Prop:=own k∨k=st∨k=mb∨k=tb∨rb k
structure SAt (own:Nat→Prop) (W:World) (st db mb tb:Nat) (rv:Int→Value × Value) (rb:Nat→Prop) (S:Sto):Prop where
 box:W.heap[st]? = some (.cells #[.pointer (some ⟨db,0,none⟩),.map (some mb),.slice (some ⟨tb,0,none⟩) S.taken.length S.taken.length,.int .i64 S.next,.int .i64 S.broken] 132 (0,0))
 recs:yg W mb (Value.int .i64) Vv (S.recs.map λr=>(r.1,rv r.1))
 rows:∀r∈S.recs,xw rb W (rv r.1).1 (zg r.2.1)∧xw rb W (rv r.1).2 (jj r.2.2)
 tak:W.heap[tb]? = some (.cells (ul S.taken).toArray 4 (0,0))
 disk:vk (ownS own st mb tb rb) W db S.d
 away:∀k,own k→k≠st∧k≠mb∧k≠tb∧¬rb k
 rbs:∀k,rb k→k≠st∧k≠mb∧k≠tb
 ok:SOk S
def Jk (own:Nat→Prop) (W:World) (st db:Nat) (S:Sto):Prop:=∃mb tb rv rb,SAt own W st db mb tb rv rb S
section
variable {own : Nat → Prop} {W W' : World} {st db mb tb : Nat} {rv : Int → Value × Value} {rb : Nat → Prop} {S : Sto}
theorem SAt.st_lt (h:SAt own W st db mb tb rv rb S):st<W.heap.size:=(Array.getElem?_eq_some_iff.1 h.box).1
theorem SAt.tb_lt (h:SAt own W st db mb tb rv rb S):tb<W.heap.size:=(Array.getElem?_eq_some_iff.1 h.tak).1
theorem SAt.mb_lt (h:SAt own W st db mb tb rv rb S):mb<W.heap.size:=h.recs.lt
theorem SAt.rb_lt (h:SAt own W st db mb tb rv rb S) {k:Nat} (hk:rb k):k<W.heap.size:=h.disk.own_lt (Or.inr (Or.inr (Or.inr (Or.inr hk))))
theorem SAt.own_lt (h:SAt own W st db mb tb rv rb S) {k:Nat} (hk:own k):k<W.heap.size:=h.disk.own_lt (Or.inl hk)
theorem SAt.ne (h:SAt own W st db mb tb rv rb S):st≠mb∧st≠tb∧mb≠tb:=by
 obtain⟨es,c,hb,_⟩:=h.recs;have h1:=h.box;have h2:=h.tak;refine⟨λe=>?_,λe=>?_,λe=>?_⟩
 ·rw[e,hb] at h1;cases h1
 ·rw[e,h2] at h1
  injection h1 with h1
  injection h1 with h1 h3
  cases h3
 ·rw[e,h2] at hb;cases hb
theorem SAt.turned (h:SAt own W st db mb tb rv rb S) {d':Dk} (hd:vk (ownS own st mb tb rb) W' db d') (ht:zm (λk=>¬ownS own st mb tb rb k) W W') (hn:d'.n=S.d.n):SAt own W' st db mb tb rv rb { S with d:=d' } where
 box:=(ht.block st h.st_lt (λe=>e (Or.inr (Or.inl rfl)))).trans h.box
 recs:=h.recs.same (ht.block mb h.mb_lt (λe=>e (Or.inr (Or.inr (Or.inl rfl)))))
 rows:=λr hr=>⟨(h.rows r hr).1.turn λk hk=>ht.block k (h.rb_lt hk) (λe=>e (Or.inr (Or.inr (Or.inr (Or.inr hk))))),(h.rows r hr).2.turn λk hk=>ht.block k (h.rb_lt hk) (λe=>e (Or.inr (Or.inr (Or.inr (Or.inr hk)))))⟩
 tak:=(ht.block tb h.tb_lt (λe=>e (Or.inr (Or.inr (Or.inr (Or.inl rfl)))))).trans h.tak
 disk:=hd
 away:=h.away
 rbs:=h.rbs
 ok:=⟨h.ok.tl.trans hn.symm,h.ok.blks,h.ok.bytes,h.ok.n0,h.ok.n1⟩
theorem Qz {st mb tb:Nat} (ht:zm (λk=>¬ownS own st mb tb rb k) W W'):zm (λk=>¬own k) W W':=ht.mono λk hk e=>hk (Or.inl e)
theorem SAt.kept (h:SAt own W st db mb tb rv rb S) (hg:W.grownBy W' none):SAt own W' st db mb tb rv rb S:=
 h.turned (d':=S.d) (h.disk.kept hg) ⟨hg.os,hg.tape,hg.output,hg.size,λk hk _=>hg.block k hk (by simp)⟩ rfl
theorem Jk.kept (h:Jk own W st db S) (hg:W.grownBy W' none):Jk own W' st db S:=by
 obtain⟨mb,tb,rv,rb,h⟩:=h
 exact⟨mb,tb,rv,rb,h.kept hg⟩
theorem SAt.more (h:SAt own W st db mb tb rv rb S) (hg:W.grownBy W' none) (h1:∀k,rb k→rb' k) (h2:∀k,rb' k→rb k∨W.heap.size≤k) (h3:∀k,rb' k→k<W'.heap.size):SAt own W' st db mb tb rv rb' S:=by
 have hk:=h.kept hg;refine⟨hk.box,hk.recs,λr hr=>⟨(hk.rows r hr).1.mono h1,(hk.rows r hr).2.mono h1⟩,hk.tak,h.disk.more hg (λk hk=>?_) (λk hk=>?_),λk hk2=>?_,λk hk=>?_,h.ok⟩
 ·rcases hk with e|e|e|e|e
  ·exact Or.inl (Or.inl e)
  ·exact Or.inl (Or.inr (Or.inl e))
  ·exact Or.inl (Or.inr (Or.inr (Or.inl e)))
  ·exact Or.inl (Or.inr (Or.inr (Or.inr (Or.inl e))))
  ·rcases h2 k e with g|g
   ·exact Or.inl (Or.inr (Or.inr (Or.inr (Or.inr g))))
   ·exact Or.inr g
 ·have hs:=hg.size
  rcases hk with e|e|e|e|e
  ·have:=h.own_lt e;omega
  ·have:=h.st_lt;omega
  ·have:=h.mb_lt;omega
  ·have:=h.tb_lt;omega
  ·exact h3 k e
 ·obtain⟨a1,a2,a3,a4⟩:=h.away k hk2
  refine⟨a1,a2,a3,λe=>?_⟩
  rcases h2 k e with g|g
  ·exact a4 g
  ·have:=h.own_lt hk2;omega
 ·rcases h2 k hk with g|g
  ·exact h.rbs k g
  ·have a1:=h.st_lt
   have a2:=h.mb_lt;have a3:=h.tb_lt
   exact⟨by omega,by omega,by omega⟩
theorem SAt.cells (h:SAt own W st db mb tb rv rb S):W.cell? ⟨st,0,none⟩=some (.pointer (some ⟨db,0,none⟩))∧W.cell? ⟨st,1,none⟩=some (.map (some mb))∧W.cell? ⟨st,2,none⟩=some (.slice (some ⟨tb,0,none⟩) S.taken.length S.taken.length)∧W.cell? ⟨st,3,none⟩=some (.int .i64 S.next)∧W.cell? ⟨st,4,none⟩=some (.int .i64 S.broken)∧∀i,W.frozen? ⟨st,i,none⟩=false:=by
 have hb:=h.box;refine⟨?_,?_,?_,?_,?_,λi=>?_⟩ <;> simp[World.cell?,World.frozen?,hb]
theorem vk.turn {own:Nat→Prop} {d:Dk} (h:vk own W db d) (ht:zm own W W'):vk own W' db d:=by
 obtain⟨sb,nb,lv,h⟩:=h.ex
 exact⟨sb,nb,lv,(ht.block db h.dlt h.odb).trans h.box,h.st.same (ht.block sb h.st.lt h.osb),h.now.same (ht.block nb h.now.lt h.onb),qm h.late (λg hg=>ht.block g (Go.Proofs.YtbcbhlfjgobejaaGreat.own_lt h.late hg) (h.olv g hg)),h.sn,h.odb,h.osb,h.onb,h.olv,λk hk=>Nat.lt_of_lt_of_le (h.lt k hk) ht.size,h.n,h.w0,h.w1,h.bst,h.bnow,h.blate,h.few⟩
theorem SAt.change (h:SAt own W st db mb tb rv rb S) (ht:zm (λk=>k=st∨k=mb∨k=tb) W W') (rv':Int→Value × Value) (S':Sto) (hd:S'.d=S.d)
 (box:W'.heap[st]? = some (.cells #[.pointer (some ⟨db,0,none⟩),.map (some mb),.slice (some ⟨tb,0,none⟩) S'.taken.length S'.taken.length,.int .i64 S'.next,.int .i64 S'.broken] 132 (0,0)))
 (recs:yg W' mb (Value.int .i64) Vv (S'.recs.map λr=>(r.1,rv' r.1)))
 (rows:∀r∈S'.recs,xw rb W (rv' r.1).1 (zg r.2.1)∧xw rb W (rv' r.1).2 (jj r.2.2))
 (tak:W'.heap[tb]? = some (.cells (ul S'.taken).toArray 4 (0,0))) (ok:SOk S'):SAt own W' st db mb tb rv' rb S'∧zm (λk=>¬own k) W W':=by
 have hrb:∀k,rb k→W'.heap[k]? = W.heap[k]?:=λk hk=>ht.block k (h.rb_lt hk) (λe=>by
  obtain⟨a1,a2,a3⟩:=h.rbs k hk
  rcases e with e|e|e <;> contradiction)
 refine⟨⟨box,recs,λr hr=>⟨(rows r hr).1.turn hrb,(rows r hr).2.turn hrb⟩,tak,?_,h.away,h.rbs,ok⟩,ht.mono λk hk ho=>?_⟩
 ·rw[hd]
  refine h.disk.turn (ht.mono λk hk=>?_)
  rcases hk with e|e|e
  ·exact Or.inr (Or.inl e)
  ·exact Or.inr (Or.inr (Or.inl e))
  ·exact Or.inr (Or.inr (Or.inr (Or.inl e)))
 ·obtain⟨a1,a2,a3,_⟩:=h.away k ho
  rcases hk with e|e|e <;> contradiction
theorem SAt.setNext (h:SAt own W st db mb tb rv rb S) (n:Int) (h0:1≤n) (h1:n≤4611686018427387905):SAt own (W.setCell ⟨st,3,none⟩ (.int .i64 n)) st db mb tb rv rb { S with next:=n }∧zm (λk=>¬own k) W (W.setCell ⟨st,3,none⟩ (.int .i64 n)):=by
 obtain⟨n1,n2,_⟩:=h.ne;refine h.change ((yh W st 3 _).mono λk hk=>Or.inl hk) rv _ rfl ?_ ?_ h.rows ?_ ⟨h.ok.tl,h.ok.blks,h.ok.bytes,h0,h1⟩
 ·simp[World.setCell,Array.getElem?_modify,h.box]
 ·exact h.recs.kept (zv W st 3 _) (by simp;exact Ne.symm n1)
 ·exact((zv W st 3 _).block tb h.tb_lt (by simp;exact Ne.symm n2)).trans h.tak
theorem SAt.setBroken (h:SAt own W st db mb tb rv rb S) (n:Int):SAt own (W.setCell ⟨st,4,none⟩ (.int .i64 n)) st db mb tb rv rb { S with broken:=n }∧zm (λk=>¬own k) W (W.setCell ⟨st,4,none⟩ (.int .i64 n)):=by
 obtain⟨n1,n2,_⟩:=h.ne;refine h.change ((yh W st 4 _).mono λk hk=>Or.inl hk) rv _ rfl ?_ ?_ h.rows ?_ ⟨h.ok.tl,h.ok.blks,h.ok.bytes,h.ok.n0,h.ok.n1⟩
 ·simp[World.setCell,Array.getElem?_modify,h.box]
 ·exact h.recs.kept (zv W st 4 _) (by simp;exact Ne.symm n1)
 ·exact((zv W st 4 _).block tb h.tb_lt (by simp;exact Ne.symm n2)).trans h.tak
set_option maxRecDepth 100000 in
theorem snext (h:SAt own W st db mb tb rv rb S):Calls Tryz.prog 29 #[.pointer (some ⟨st,0,none⟩)] W λe w'=>e = .returned (.int .i64 S.next)∧w'=W:=by
 obtain⟨c0,c1,c2,c3,c4,y⟩:=h.cells;clear h
 go_enter Tryz.func29,Tryz.ntmps29
 go_wp2
 go_ret
 exact⟨rfl,rfl⟩
set_option maxRecDepth 100000 in
theorem Qw (h:SAt own W st db mb tb rv rb S):Calls Tryz.prog 46 #[.pointer (some ⟨st,0,none⟩)] W λe w'=>e = .returned (.int .i64 S.broken)∧w'=W:=by
 obtain⟨c0,c1,c2,c3,c4,y⟩:=h.cells;clear h
 go_enter Tryz.func46,Tryz.ntmps46
 go_wp2
 go_ret
 exact⟨rfl,rfl⟩
def Sto.met (S:Sto) (e:Int):Sto:=if e=0 then S else { S with broken:=e }
set_option maxRecDepth 100000 in
theorem zje (h:SAt own W st db mb tb rv rb S) (e:Int):Calls Tryz.prog 96 #[.pointer (some ⟨st,0,none⟩),.int .i64 e] W λe' w'=>e' = .returned (.bool (decide (e=0)))∧SAt own w' st db mb tb rv rb (S.met e)∧zm (λk=>¬own k) W w':=by
 obtain⟨c0,c1,c2,c3,c4,y⟩:=h.cells;have HS:=zd (h.setBroken e);have H0:=zd h;clear h;unfold Sto.met
 by_cases he:e=0
 ·subst he
  go_enter Tryz.func96,Tryz.ntmps96
  go_wp2
  go_ret
  exact⟨by simp,by simpa using H0.out,zm.refl _ _⟩
 ·rw[if_neg he]
  go_enter Tryz.func96,Tryz.ntmps96
  go_wp2
  go_ret
  exact⟨by simp[he],HS.out.1,HS.out.2⟩
end
theorem zdr:zbe Tryz.prog 2 (Value.int .i64):=zds Tryz.underlying2 (λ_=>rfl) (λa b h=>by simpa using h)
theorem zdw (f:Int→α→β) (m:List (Int × α)) (k:Int):zw (m.map λr=>(r.1,f r.1 r.2)) k=(zw m k).map (f k):=by
 induction m with
 | nil=>rfl
 | cons p r ih=>
  simp only[List.map_cons,zw]
  by_cases h:p.1=k
  ·rw[if_pos h,if_pos h,h];rfl
  ·rw[if_neg h,if_neg h,ih]
theorem zpf (f f':Int→β) (m:List (Int × α)) (k:Int) (v:α) (hf:∀j,j≠k→f' j=f j) (hn:(m.map (·.1)).Nodup):yo (m.map λr=>(r.1,f r.1)) k (f' k)=(yo m k v).map λr=>(r.1,f' r.1):=by
 induction m with
 | nil=>rfl
 | cons p r ih=>
  simp only[List.map_cons,yo];simp only[List.map_cons,List.nodup_cons] at hn
  by_cases h:p.1=k
  ·rw[if_pos h,if_pos h]
   simp only[List.map_cons]
   congr 1
   apply List.map_congr_left
   intro q hq;rw[hf];intro e
   exact hn.1 (List.mem_map.2 ⟨q,hq,by rw[h,e]⟩)
  ·rw[if_neg h,if_neg h,ih hn.2]
   simp only[List.map_cons,hf _ h]
theorem zpc (f:Int→β) (m:List (Int × α)) (k:Int):jq (m.map λr=>(r.1,f r.1)) k=(jq m k).map λr=>(r.1,f r.1):=by
 unfold jq;rw[List.filter_map]
 rfl
theorem zpg {α:Type} {m:List (Int × α)} (hn:(m.map (·.1)).Nodup) {v:α} {r:Int × α} (hr:r∈yo m k v):r=(k,v)∨(r∈m∧r.1≠k):=by
 have h1:zw (yo m k v) r.1=some r.2:=Yn (zd3 hn k v) hr
 by_cases h:r.1=k
 ·left
  rw[h,ub] at h1
  cases h1
  rw[←h]
 ·right
  rw[uj _ _ h] at h1
  exact⟨qj h1,h⟩
def qa (t:List Bool) (bl:List Nat) (x:Bool):List Bool:=bl.foldl (λt i=>t.set i x) t
theorem qx (x:Bool):∀(bl:List Nat) (t:List Bool),(qa t bl x).length=t.length
 | [],_=>rfl
 | i :: r,t=>by show(qa (t.set i x) r x).length=_;rw[qx x r];simp
theorem zgc (t:List Bool) (bl:List Nat) (i:Nat) (x:Bool):qa t (bl ++ [i]) x=(qa t bl x).set i x:=by
 unfold qa;rw[List.foldl_append];rfl
def Sto.kept (S:Sto) (k:Int) (b:List Int) (bl:List Nat):Sto:={ S with recs:=yo S.recs k (b,bl),taken:=qa S.taken bl true }
theorem ze9 (t:List Bool) (i:Nat) (x:Bool):(ul t).toArray.setIfInBounds i (.bool x)=(ul (t.set i x)).toArray:=by
 simp[ul,List.map_set]
section
variable {own : Nat → Prop} {W W' : World} {st db mb tb : Nat} {rv : Int → Value × Value} {rb : Nat → Prop} {S : Sto}
theorem SAt.taken_le (h:SAt own W st db mb tb rv rb S):S.taken.length≤4096:=by
 obtain⟨sb,nb,lv,hd⟩:=h.disk.ex;rw[h.ok.tl]
 exact hd.n
theorem SAt.setTaken (h:SAt own W st db mb tb rv rb S) (i:Nat) (x:Bool):SAt own (W.setCell ⟨tb,i,none⟩ (.bool x)) st db mb tb rv rb { S with taken:=S.taken.set i x }∧zm (λk=>¬own k) W (W.setCell ⟨tb,i,none⟩ (.bool x)):=by
 obtain⟨n1,n2,n3⟩:=h.ne;refine h.change ((yh W tb i _).mono λk hk=>Or.inr (Or.inr hk)) rv _ rfl ?_ ?_ h.rows ?_ ⟨by simpa using h.ok.tl,by simpa using h.ok.blks,h.ok.bytes,h.ok.n0,h.ok.n1⟩
 ·have:=((zv W tb i (.bool x)).block st h.st_lt (by simp;exact n2)).trans h.box
  simpa using this
 ·exact h.recs.kept (zv W tb i _) (by simp;exact n3)
 ·rw[←ze9]
  simp[World.setCell,Array.getElem?_modify,h.tak]
theorem SAt.put (h:SAt own W st db mb tb rv rb S) {v:Value × Value} (hw:yg W' mb (Value.int .i64) Vv (yo (S.recs.map λr=>(r.1,rv r.1)) k v)) (hg:W.grownBy W' (some mb))
 (h1:xw rb W v.1 (zg b)) (h2:xw rb W v.2 (jj bl)) (hbl:bl≠[]∧∀i∈bl,i<S.taken.length) (hbb:BL b∧b.length≤131072) :
  SAt own W' st db mb tb (λj=>if j=k then v else rv j) rb { S with recs:=yo S.recs k (b,bl) }∧zm (λk=>¬own k) W W':=by
 obtain⟨n1,n2,n3⟩:=h.ne;have hnd:(S.recs.map (·.1)).Nodup:=by have:=h.recs.nodup;simpa[List.map_map,Function.comp_def] using this
 have hmem:∀r∈yo S.recs k (b,bl),r=(k,(b,bl))∨(r∈S.recs∧r.1≠k):=λr hr=>zpg hnd hr
 refine h.change ⟨hg.os,hg.tape,hg.output,hg.size,λj hj hn=>hg.block j hj (λe=>hn (Or.inr (Or.inl (by injection e))))⟩ _ _ rfl ?_ ?_ (λr hr=>?_) ?_ ⟨h.ok.tl,λr hr=>?_,λr hr=>?_,h.ok.n0,h.ok.n1⟩
 ·exact(hg.block st h.st_lt (by simp;exact n1)).trans h.box
 ·rw[←zpf rv (λj=>if j=k then v else rv j) S.recs k (b,bl) (λj hj=>if_neg hj) hnd,if_pos rfl];exact hw
 ·rcases hmem r hr with rfl|⟨hr2,hk⟩
  ·simp only[if_true];exact⟨h1,h2⟩
  ·simp only[if_neg hk];exact h.rows r hr2
 ·exact(hg.block tb h.tb_lt (by simp;exact Ne.symm n3)).trans h.tak
 ·rcases hmem r hr with rfl|⟨hr2,hk⟩
  ·exact hbl
  ·exact h.ok.blks r hr2
 ·rcases hmem r hr with rfl|⟨hr2,hk⟩
  ·exact hbb
  ·exact h.ok.bytes r hr2
theorem SAt.del (h:SAt own W st db mb tb rv rb S) (hw:yg W' mb (Value.int .i64) Vv (jq (S.recs.map λr=>(r.1,rv r.1)) k)) (hg:W.grownBy W' (some mb)) :
  SAt own W' st db mb tb rv rb { S with recs:=jq S.recs k }∧zm (λk=>¬own k) W W':=by
 obtain⟨n1,n2,n3⟩:=h.ne;have hmem:∀r∈jq S.recs k,r∈S.recs:=λr hr=>(List.mem_filter.1 hr).1
 refine h.change ⟨hg.os,hg.tape,hg.output,hg.size,λj hj hn=>hg.block j hj (λe=>hn (Or.inr (Or.inl (by injection e))))⟩ _ _ rfl ?_ ?_ (λr hr=>h.rows r (hmem r hr)) ?_ ⟨h.ok.tl,λr hr=>h.ok.blks r (hmem r hr),λr hr=>h.ok.bytes r (hmem r hr),h.ok.n0,h.ok.n1⟩
 ·exact(hg.block st h.st_lt (by simp;exact n1)).trans h.box
 ·rw[←zpc rv S.recs k];exact hw
 ·exact(hg.block tb h.tb_lt (by simp;exact Ne.symm n3)).trans h.tak
set_option maxRecDepth 100000 in
theorem skeep (h:SAt own W st db mb tb rv rb S) (k:Int) {v:Value × Value} (h1:xw rb W v.1 (zg b)) (h2:xw rb W v.2 (jj bl)) (hbl:bl≠[]∧∀i∈bl,i<S.taken.length) (hbb:BL b∧b.length≤131072) :
  Calls Tryz.prog 94 #[.pointer (some ⟨st,0,none⟩),.int .i64 k,Vv v] W λe w'=>e = .returned (.tuple #[])∧(∃rv',SAt own w' st db mb tb rv' rb (S.kept k b bl))∧zm (λk=>¬own k) W w':=by
 obtain⟨v1,v2⟩:=v;obtain⟨c0,c1,c2,c3,c4,y⟩:=h.cells;have HS:=zd h;have hlt:=h.st_lt;have H1:=zd h1;have H2:=zd h2;have HBL:=zd hbl;have HBB:=zd hbb;clear h h1 h2 hbl hbb;unfold Vv
 go_enter Tryz.func94,Tryz.ntmps94
 go_wp2;have hg1:=ze W (.cells #[v1,v2] 158) none;have HG1:=zd hg1;have k1:=hg1.cell c1 (by simp)
 have b0:(W.alloc (.cells #[v1,v2] 158)).cell? ⟨W.heap.size,0,none⟩=some v1:=(zf (heap_alloc_new _ _) 0).trans rfl;have b1:(W.alloc (.cells #[v1,v2] 158)).cell? ⟨W.heap.size,1,none⟩=some v2:=(zf (heap_alloc_new _ _) 1).trans rfl;have HM1:=zd ((HS.out.kept hg1).recs);clear hg1;generalize W.alloc (.cells #[v1,v2] 158)=W1 at *
 go_still_tail 6,(by kernel_rfl)
 change wpList _ _ _ _ _ W1.drew
 have hg2:=zj HG1.out;have b0:W1.drew.cell? ⟨W.heap.size,0,none⟩=some v1:=b0;have b1:W1.drew.cell? ⟨W.heap.size,1,none⟩=some v2:=b1;have HS2:=zd (HS.out.kept hg2);have HT2:Hid (zm (λk=>¬own k) W W1.drew):=⟨hg2.os,hg2.tape,hg2.output,hg2.size,λk hk _=>hg2.block k hk (by simp)⟩
 have HR:Hid (∀W':World,W.grownBy W' none→xw rb W' v1 (zg b)∧xw rb W' v2 (jj bl)):=(λW' hg=>⟨H1.out.turn λk hk=>hg.block k (HS.out.rb_lt hk) (by simp),H2.out.turn λk hk=>hg.block k (HS.out.rb_lt hk) (by simp)⟩)
 have HR2:=zd (HR.out _ hg2);have HM2:=zd HS2.out.recs;have hmb:=HS.out.mb_lt;clear hg2 HM1 HG1 k1 HR;generalize W1.drew=W2 at *;refine zet (ek:=Value.int .i64) (ev:=Vv) _ rfl _ _ _ 129 rfl zdr Tryz.underlying129 mb _ rfl HM2.out k (v1,v2) rfl rfl ?_;intro w3 hm3 hg3 hs3;obtain⟨hs4,ht4⟩:=HS2.out.put hm3 hg3 HR2.out.1 HR2.out.2 HBL.out HBB.out;have b2:w3.cell? ⟨W.heap.size,1,none⟩=some v2:=hg3.cell b1 (by simp;omega)
 have HS4:=zd hs4;have HT4:=zd (HT2.out.trans ht4);clear hm3 hg3 hs3 hs4 ht4 b0 b1 HM2 HS2 HT2 HR2;obtain⟨p2,cap2,rfl,g1,g2,-⟩:=H2.out.ex;generalize hnn:(jj bl).length=nn at *;obtain rfl:nn=bl.length:=by rw[←hnn];simp[jj]
 have htl:S.taken.length≤4096:=HS.out.taken_le;have hbl4:bl.length≤9223372036854775807:=by omega
 obtain⟨S2,hS2⟩:∃S2:Sto,S2 = { S with recs:=yo S.recs k (b,bl) }:=⟨_,rfl⟩
 have hkd:∀j:Nat,j=bl.length→{ S2 with taken:=qa S.taken (bl.take j) true }=S.kept k b bl:=λj hj=>by rw[hj,List.take_length,hS2];rfl
 have HKD:=zd hkd;rw[←hS2] at HS4;have HIN:Hid ((k,(b,bl))∈S2.recs):=(show _∈S2.recs from by rw[hS2];exact qj (ub _ _ _))
 have HTK:=zd (show S2.taken=S.taken from by rw[hS2])
 clear hS2 hkd H1 H2 HS c0 c1 c2 c3 c4 y;obtain⟨rv',hrv⟩:∃rv':Int→Value × Value,rv'=λj=>if j=k then (v1,.slice p2 bl.length cap2) else rv j:=⟨_,rfl⟩
 rw[←hrv] at HS4;have HRV:Hid (rv' k=(v1,.slice p2 bl.length cap2)):=(show rv' k=_ from by rw[hrv];simp)
 clear hrv;go_wp2
 go_loopw [17] (λi wr=>∃j:Nat,j≤bl.length∧i = .int .i64 j∧SAt own wr st db mb tb rv' rb { S2 with taken:=qa S.taken (bl.take j) true }∧zm (λk=>¬own k) W wr) (λi _=>bl.length-(intOf i).toNat)
 case atStart=>
  refine⟨0,Nat.zero_le _,rfl,?_,HT4.out⟩;have:=HS4.out;simp only[List.take_zero,qa,List.foldl_nil];rw[←HTK.out]
  exact this
 case round=>
  obtain⟨j,hj,rfl,hD,hT⟩:=hrel;obtain⟨e0,e1,e2,e3,e4,ey⟩:=hD.cells;simp only[qx] at e2
  by_cases hlt:j<bl.length
  ·obtain⟨x,hx⟩:∃x,bl[j]? = some x:=⟨_,List.getElem?_eq_getElem hlt⟩
   have hxl:=HBL.out.2 x (List.mem_of_getElem? hx);obtain⟨a,rfl,ha⟩:∃a,p2=some a∧wr.cell? (a.add j)=some (.int .i64 x):=by
    have hr:=(hD.rows _ HIN.out).2;simp only[HRV.out] at hr;obtain⟨p',cap',e,_,_,hc⟩:=hr.ex
    injection e with q1 _ _
    subst q1
    rcases hc with h0|⟨a,h1,_,h2⟩
    ·have:(jj bl).length=0:=by rw[h0];rfl
     omega
    ·exact⟨a,h1,h2 j _ (by simp[jj,hx])⟩
   have hst:=hD.setTaken x true;have etk:qa S.taken (bl.take (j+1)) true=(qa S.taken (bl.take j) true).set x true:=by
    rw[List.take_add_one,hx,Option.toList_some,zgc]
   have HN:Hid (SAt own (wr.setCell ⟨tb,x,none⟩ (.bool true)) st db mb tb rv' rb { S2 with taken:=qa S.taken (bl.take (j+1)) true }∧zm (λk=>¬own k) W (wr.setCell ⟨tb,x,none⟩ (.bool true))):=(by
    rw[etk]
    exact⟨hst.1,hT.trans hst.2⟩)
   have hfr:wr.frozen? ⟨tb,x,none⟩=false:=by simp[World.frozen?,hD.tak]
   have hcl:∃u,wr.cell? ⟨tb,x,none⟩=some u:=⟨_,(zf hD.tak x).trans (List.getElem?_toArray.trans (List.getElem?_eq_getElem (by simp[ul,qx];omega)))⟩
   obtain⟨u,hu⟩:=hcl;have hN1:(x:Int)<S.taken.length:=by omega
   clear hD hT hst etk;generalize S.taken.length=nt at *;go_wp2
   go_roundw
   case rel=>exact⟨j+1,by omega,by go_num,HN.out.1,HN.out.2⟩
   case measure=>simp[intOf];omega
  ·obtain rfl:j=bl.length:=by omega
   have HF:Hid (SAt own wr st db mb tb rv' rb (S.kept k b bl)∧zm (λk=>¬own k) W wr):=(by rw[←HKD.out bl.length rfl];exact⟨hD,hT⟩)
   clear hD hT;go_wp2
   first|go_end0|refine bodyPost_ret (results_none rfl _ _ _) rfl ?_
   exact⟨rfl,⟨_,HF.out.1⟩,HF.out.2⟩
end
def freeN (t:List Bool):Nat:=t.countP (λx=>!x)
theorem zj9 (t:List Bool) (x:Bool):freeN (t ++ [x])=freeN t+if x=true then 0 else 1:=by
 unfold freeN;rw[List.countP_append]
 cases x <;> simp
theorem zou (t:List Bool):freeN t≤t.length:=List.countP_le_length
theorem zbd (w:World):(zeroValue 158).run Tryz.prog w = .ok (Vv (.slice none 0 0,.slice none 0 0)) w:=by kernel_rfl
section
variable {own : Nat → Prop} {W W' : World} {st db mb tb : Nat} {rv : Int → Value × Value} {rb : Nat → Prop} {S : Sto}
set_option maxRecDepth 100000 in
theorem sfree (h:SAt own W st db mb tb rv rb S):Calls Tryz.prog 22 #[.pointer (some ⟨st,0,none⟩)] W λe w'=>e = .returned (.int .i64 (freeN S.taken))∧w'=W:=by
 obtain⟨c0,c1,c2,c3,c4,y⟩:=h.cells;have htl:=h.taken_le;have HB:Hid (∀j x,S.taken[j]? = some x→W.cell? ⟨tb,j,none⟩=some (.bool x)):=(λj x hx=>by rw[zf h.tak];simp[ul,hx])
 clear h
 go_enter Tryz.func22,Tryz.ntmps22
 go_wp2
 go_loopw [3,13] (λn i wr=>∃j:Nat,j≤S.taken.length∧i = .int .i64 j∧n = .int .i64 (freeN (S.taken.take j))∧wr=W) (λ_ i _=>S.taken.length-(intOf i).toNat)
 case atStart=>exact⟨0,Nat.zero_le _,rfl,rfl,rfl⟩
 case round=>
  obtain⟨j,hj,rfl,rfl,hw⟩:=hrel;obtain rfl:W=wr:=hw.symm
  by_cases hlt:j<S.taken.length
  ·obtain⟨x,hx⟩:∃x,S.taken[j]? = some x:=⟨_,List.getElem?_eq_getElem hlt⟩
   have hc:=HB.out j x hx;have hf:=zou (S.taken.take j);have HN:Hid (freeN (S.taken.take (j+1))=freeN (S.taken.take j)+if x=true then 0 else 1):=(show _=_ from by rw[List.take_add_one,hx,Option.toList_some,zj9])
   have hf2:freeN (S.taken.take j)≤4096:=by rw[List.length_take] at hf;omega
   clear hf;generalize freeN (S.taken.take j)=f0 at *
   cases x
   ·go_wp2
    go_roundw
    case rel=>exact⟨j+1,by omega,by go_num,by rw[HN.out];go_num,trivial⟩
    case measure=>simp[intOf];omega
   ·go_wp2
    go_roundw
    case rel=>exact⟨j+1,by omega,by go_num,by rw[HN.out];go_num,trivial⟩
    case measure=>simp[intOf];omega
  ·obtain rfl:j=S.taken.length:=by omega
   rw[List.take_length] at *;go_wp2
   go_ret
   exact⟨rfl,rfl⟩
def jx (W w':World) (v:Value) (l:List Int):Prop:=w'.ownsRow W.heap.size 5 1 v l.length (zg l)
set_option maxRecDepth 100000 in
theorem sget (h:SAt own W st db mb tb rv rb S) (k:Int):Calls Tryz.prog 21 #[.pointer (some ⟨st,0,none⟩),.int .i64 k] W λe w'=>W.grownBy w' none∧∃v,e = .returned (.tuple #[v,.bool (zw S.recs k).isSome])∧((zw S.recs k=none∧v = .slice none 0 0)∨∃r,zw S.recs k=some r∧jx W w' v r.1):=by
 obtain⟨c0,c1,c2,c3,c4,y⟩:=h.cells;have HM:=zd h.recs;have hlt:=h.st_lt;have eg:=zdw (λj (_:List Int × List Nat)=>rv j) S.recs k
 cases hg:zw S.recs k with
 | none=>
  rw[hg] at eg;have HE:Hid ((((zw (S.recs.map λr=>(r.1,rv r.1)) k).map Vv).getD (Vv (.slice none 0 0,.slice none 0 0))) = .agg #[.slice none 0 0,.slice none 0 0]∧(zw (S.recs.map λr=>(r.1,rv r.1)) k).isSome=false):=(show _∧_ from by rw[eg];exact⟨rfl,rfl⟩)
  clear h eg hg
  go_enter Tryz.func21,Tryz.ntmps21
  go_wp2_with (first
   | (refine jm _ rfl _ _ 129 true rfl zdr Tryz.underlying129 (zbd _) mb _ rfl HM.out k rfl ?_;rw[HE.out.1,HE.out.2,if_pos rfl])
   | (go_at_call 97;refine(zfc _).mono ?_;rintro e w2 ⟨rfl,h5⟩;subst h5))
  go_ret2
  exact⟨ze _ _ _,_,rfl,Or.inl ⟨trivial,rfl⟩⟩
 | some r=>
  rw[hg] at eg;obtain⟨r1,r2⟩:=r;have hmem:=qj hg;have hrow:=(h.rows _ hmem).1;have hlen:=(h.ok.bytes _ hmem).2;simp only at hrow hlen;obtain⟨⟨va,vb⟩,hv⟩:∃p,rv k=p:=⟨_,rfl⟩;rw[hv] at hrow eg;simp only at hrow;obtain⟨pa,na,ca,rfl⟩:∃pa na ca,va = .slice pa na ca:=by
   obtain⟨_,_,e1,_⟩:=hrow.ex
   exact⟨_,_,_,e1⟩
  obtain⟨pb,nb,cb,rfl⟩:∃pb nb cb,vb = .slice pb nb cb:=by
   have h2:=(h.rows _ hmem).2;simp only[hv] at h2;obtain⟨_,_,e2,_⟩:=h2.ex
   exact⟨_,_,_,e2⟩
  have HE:Hid ((((zw (S.recs.map λr=>(r.1,rv r.1)) k).map Vv).getD (Vv (.slice none 0 0,.slice none 0 0))) = .agg #[.slice pa na ca,.slice pb nb cb]∧(zw (S.recs.map λr=>(r.1,rv r.1)) k).isSome=true):=(show _∧_ from by rw[eg];exact⟨rfl,rfl⟩)
  have HC:Hid (∀W':World,W.grownBy W' none→Calls Tryz.prog 97 #[.slice pa na ca] W' λe w'=>∃v',e = .returned v'∧w'.ownsRow W'.heap.size 5 1 v' r1.length (zg r1)∧W'.grownBy w' none):=(λW' hg=>Xb ((hrow.turn λk hk=>hg.block k (h.rb_lt hk) (by simp)).raw) (by omega) (λe=>by
   obtain⟨p,cap,e1,_,_,e2⟩:=hrow.ex
   rcases e2 with e2|⟨a,e2,_⟩
   ·simpa[zg] using e2
   ·rw[e1,e2] at e;cases e))
  clear h eg hrow
  go_enter Tryz.func21,Tryz.ntmps21
  go_wp2_with (first
   | (refine jm _ rfl _ _ 129 true rfl zdr Tryz.underlying129 (zbd _) mb _ rfl HM.out k rfl ?_;rw[HE.out.1,HE.out.2,if_pos rfl])
   | (go_at_call 97;refine(HC.out _ (ze _ _ _)).mono ?_;rintro e w2 ⟨v2,rfl,ho,hg⟩;have HO:=zd ho;have HG:=zd hg;clear ho hg))
  go_ret2
  exact⟨zh (ze _ _ _) HG.out,_,rfl,Or.inr ⟨_,rfl,Xf HO.out (by simp)⟩⟩
end
end Go.Proofs.YtbcbhlfjgobejaaGreat
