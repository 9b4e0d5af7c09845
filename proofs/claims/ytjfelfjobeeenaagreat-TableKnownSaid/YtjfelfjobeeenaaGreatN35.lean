/- TableRises: its states. Conditions: none, or as the theorems say. -/
import Derived.Test.YtjfelfjobeeenaaGreatN20
namespace Go.Proofs.YtjfelfjobeeenaaGreat
set_option maxHeartbeats 200000000
set_option linter.unusedVariables false
set_option linter.unusedSimpArgs false
open Go.RowKit Go.Sf Go.Shelf
structure Top (w:World) (n k tb:Nat) (L:Tab) (lost:Value) (lostL:List ID) (j:Nat) (W:World):Prop where
 st:RSt w (fun b=>lost.ownBlock=some b) tb L W
 inv:Inv n k L
 cl:zlf L
 of:L.offers≤j
 nx:L.next≤j+1
 row:jl w.heap.size W lost lostL
 gone:∀x∈lostL,x.zvz<L.next∧yl L x=false
 len:lostL.length≤100*j
theorem zcl {X W:World} {c:Array Value} {t:TypeId} (h:(X.alloc (.cells c t)).grownBy W none):W.heap[X.heap.size]? = some (.cells c t (0,0)):=
 (h.block X.heap.size (by simp) (by simp)).trans (World.alloc_heap_new X _)
theorem za5 {X W:World} {c:Array Value} {t:TypeId} (h:(X.alloc (.cells c t)).drew.grownBy W none):W.heap[X.heap.size]? = some (.cells c t (0,0)):=
 (h.block X.heap.size (by show X.heap.size<(X.alloc (.cells c t)).heap.size;simp) (by simp)).trans (World.alloc_heap_new X _)
theorem zd2 {V X W:World} {o:Obj} {s:Nat} (h:(X.alloc o).drew.grownBy W none) (hx:V.grownBy X none) (hs:V.heap.size=s+1):s≠X.heap.size∧X.heap.size≠s∧V.heap.size≤X.heap.size:=by
 have:=hx.size;omega
theorem zgf {V X W:World} {o:Obj} {s:Nat} (h:(X.alloc o).grownBy W none) (hx:V.grownBy X none) (hs:V.heap.size=s+1):s≠X.heap.size∧X.heap.size≠s∧V.heap.size≤X.heap.size:=by
 have:=hx.size;omega
theorem zaj {A B:World} {g:Nat} {o:Obj} (h:A.heap[g]? = some o) (hg:A.grownBy B none):B.heap[g]? = some o:=
 (hg.block g (Array.getElem?_eq_some_iff.1 h).1 (by simp)).trans h
theorem zh8 {W:World} {g:Nat} {a b c d:Value} {t:TypeId} (h:W.heap[g]? = some (.cells #[a,b,c,d] t (0,0))) :
  W.cell? ⟨g,0,none⟩=some a∧W.cell? ⟨g,1,none⟩=some b∧W.cell? ⟨g,2,none⟩=some c∧W.cell? ⟨g,3,none⟩=some d∧W.frozen? ⟨g,0,none⟩=false∧W.frozen? ⟨g,1,none⟩=false∧W.frozen? ⟨g,2,none⟩=false∧W.frozen? ⟨g,3,none⟩=false:=
 ⟨(zh h 0).trans rfl,(zh h 1).trans rfl,(zh h 2).trans rfl,(zh h 3).trans rfl,yr h 0,yr h 1,yr h 2,yr h 3⟩
def ownR (lost:Value) (g1 g2:Nat) (pv:Value) (b:Nat):Prop:=lost.ownBlock=some b∨b=g1∨b=g2∨pv.ownBlock=some b
structure Bx (w:World) (c:Cmd) (cv:yz) (lost:Value) (lostL:List ID) (g1 g2:Nat) (pv:Value) (pl:List ID) (W:World):Prop where
 c:W.heap[g1]? = some (.cells (xa c).toArray 24 (0,0))
 call:W.heap[g2]? = some (.cells #[.int .i64 cv.zvy,.int .i64 cv.zvz,.bool cv.done,.int .i64 cv.code] 77 (0,0))
 pend:jl w.heap.size W pv pl
 row:jl w.heap.size W lost lostL
 ne:g1≠g2
 ne2:∀g,lost.ownBlock=some g→pv.ownBlock≠some g
structure RdS (w:World) (tb:Nat) (L:Tab) (c:Cmd) (cv:yz) (lost:Value) (lostL:List ID) (g1 g2:Nat) (pv:Value) (pl:List ID) (W:World):Prop where
 st:RSt w (ownR lost g1 g2 pv) tb L W
 bx:Bx w c cv lost lostL g1 g2 pv pl W
theorem zor {a b:World} (h:a.grownBy b none) (r:Option Nat):a.grownBy b r:=⟨h.os,h.tape,h.output,h.size,fun k hk _=>h.block k hk (by simp)⟩
theorem set4 {W:World} {g:Nat} {a b c d:Value} {t:TypeId} (h:W.heap[g]? = some (.cells #[a,b,c,d] t (0,0))) (x0 x1 x2 x3:Value) :
  ((((W.setCell ⟨g,0,none⟩ x0).setCell ⟨g,1,none⟩ x1).setCell ⟨g,2,none⟩ x2).setCell ⟨g,3,none⟩ x3).heap[g]? = some (.cells #[x0,x1,x2,x3] t (0,0))∧
  W.grownBy ((((W.setCell ⟨g,0,none⟩ x0).setCell ⟨g,1,none⟩ x1).setCell ⟨g,2,none⟩ x2).setCell ⟨g,3,none⟩ x3) (some g):=by
 constructor
 ·simp[World.setCell,Array.getElem?_modify,h]
 ·have e:∀(W:World) (o:Nat) (x:Value),W.grownBy (W.setCell ⟨g,o,none⟩ x) (some g):=fun W o x=>
   ⟨rfl,rfl,rfl,by simp[World.setCell],fun k _ hk=>Below.heap_setCell _ _ _ k (fun e=>hk (by rw[e]))⟩
  have tr:∀{A B C:World},A.grownBy B (some g)→B.grownBy C (some g)→A.grownBy C (some g):=fun h1 h2=>
   ⟨h2.os.trans h1.os,h2.tape.trans h1.tape,h2.output.trans h1.output,Nat.le_trans h1.size h2.size,fun k hk hn=>(h2.block k (Nat.lt_of_lt_of_le hk h1.size) hn).trans (h1.block k hk hn)⟩
  exact tr (tr (tr (e _ _ _) (e _ _ _)) (e _ _ _)) (e _ _ _)
theorem mk_rd {w:World} {n k tb:Nat} {L:Tab} {lost:Value} {lostL:List ID} {j:Nat} {wr W1 w3 w4:World} {own:Nat→Prop} {c:Cmd} {cv:yz} {pv:Value} {pl:List ID} {g2:Nat}
  (htop:Top w n k tb L lost lostL j wr) (h1:wr.grownBy W1 none∧W1.heap[wr.heap.size]? = some (.cells (xa c).toArray 24 (0,0))∧W1.heap.size=wr.heap.size+1) (hG:W1.grownBy w3 none) (hS:RSt w own tb L w3)
  (hP:jl w.heap.size w3 pv pl) (hpg:∀g,pv.ownBlock=some g→W1.heap.size≤g) (hk:W1.heap.size≤g2) (hz:w3.heap.size≤g2∨∃cc,w3.heap[g2]? = some (.cells cc 77 (0,0))) (hg4:w3.grownBy w4 (some g2))
  (h2:w4.heap[g2]? = some (.cells #[.int .i64 cv.zvy,.int .i64 cv.zvz,.bool cv.done,.int .i64 cv.code] 77 (0,0))):RdS w tb L c cv lost lostL wr.heap.size g2 pv pl w4:=by
 obtain⟨ha,hb,hc⟩:=h1;have hlt:=hG.size;have hne:g2≠wr.heap.size:=by omega
 have hx3:∀{g:Nat} {cc:Array Value} {t:TypeId},w3.heap[g]? = some (.cells cc t (0,0))→t≠77→g≠g2:=by
  intro g cc t hg ht e;subst e
  rcases hz with hz|⟨c2,hz⟩
  ·have:=(Array.getElem?_eq_some_iff.1 hg).1;omega
  ·rw[hg] at hz;cases hz;exact ht rfl
 have hc3:w3.heap[wr.heap.size]? = some (.cells (xa c).toArray 24 (0,0)):=zaj hb hG;have hc4:w4.heap[wr.heap.size]? = some (.cells (xa c).toArray 24 (0,0)):=(hg4.block _ (by omega) (fun e=>hne (by cases e;rfl))).trans hc3
 have hrow3:jl w.heap.size w3 lost lostL:=Qa htop.row (fun g hg=>by
  obtain⟨cc,hcc⟩:=Xp htop.row hg
  exact(hG.block g (by have:=(Array.getElem?_eq_some_iff.1 hcc).1;omega) (by simp)).trans (ha.block g (Array.getElem?_eq_some_iff.1 hcc).1 (by simp)))
 have up:∀{v:Value} {l:List ID},jl w.heap.size w3 v l→jl w.heap.size w4 v l:=fun hr=>Qa hr (fun g hg=>by
  obtain⟨cc,hcc⟩:=Xp hr hg
  exact hg4.block g (Array.getElem?_eq_some_iff.1 hcc).1 (fun e=>hx3 hcc (by decide) (by cases e;rfl)))
 have hp4:=up hP;have hr4:=up hrow3;have hst4:RSt w (fun _=>False) tb L w4:=by
  have hws:=htop.st.base.size;refine⟨?_,jk hS.base hg4 (fun b e=>by cases e;omega),fun _ h=>h.elim⟩
  obtain⟨T,t1,t2,t3⟩:=hS.tab.ex;refine⟨T,t1.same (fun b hb=>hg4.block b (t1.lt b hb) (fun e=>?_)),t2,fun b hb=>⟨(t3 b hb).1,fun h=>h.elim⟩⟩
  have hbl:=t1.lt b hb;have e:b=g2:=by cases e;rfl
  subst e
  rcases hz with hz|⟨c2,hz⟩
  ·omega
  ·exact zi6 t1 hz (by decide) (by decide) hb
 refine⟨hst4.take (fun g hg=>Or.inr ?_),⟨hc4,h2,hp4,hr4,fun e=>hne e.symm,fun g hg hp=>by
  obtain⟨cc,hcc⟩:=Xp htop.row hg;have:=(Array.getElem?_eq_some_iff.1 hcc).1;have:=hpg g hp;omega⟩⟩
 rcases hg with hg|rfl|rfl|hg
 ·obtain⟨cc,hcc⟩:=Xp hr4 hg;exact⟨_,_,_,hcc,by decide,by decide⟩
 ·exact⟨_,_,_,hc4,by decide,by decide⟩
 ·exact⟨_,_,_,h2,by decide,by decide⟩
 ·obtain⟨cc,hcc⟩:=Xp hp4 hg;exact⟨_,_,_,hcc,by decide,by decide⟩
theorem Bx.same {w:World} {c:Cmd} {cv:yz} {lost:Value} {lostL:List ID} {g1 g2:Nat} {pv:Value} {pl:List ID} {W W':World} (h:Bx w c cv lost lostL g1 g2 pv pl W) (hs:∀b,ownR lost g1 g2 pv b→W'.heap[b]? = W.heap[b]?):Bx w c cv lost lostL g1 g2 pv pl W':=
 ⟨(hs _ (Or.inr (Or.inl rfl))).trans h.c,(hs _ (Or.inr (Or.inr (Or.inl rfl)))).trans h.call,Qa h.pend (fun g hg=>hs g (Or.inr (Or.inr (Or.inr hg)))),Qa h.row (fun g hg=>hs g (Or.inl hg)),h.ne,h.ne2⟩
theorem RdS.grown {w:World} {tb:Nat} {L:Tab} {c:Cmd} {cv:yz} {lost:Value} {lostL:List ID} {g1 g2:Nat} {pv:Value} {pl:List ID} {W W':World} (h:RdS w tb L c cv lost lostL g1 g2 pv pl W) (hg:W.grownBy W' none):RdS w tb L c cv lost lostL g1 g2 pv pl W':=
 ⟨h.st.grown hg,h.bx.same (h.st.kept hg)⟩
def zdh (L:Tab) (a:Nat):List Value:=(List.range a).map fun (i:Nat)=>Value.int .i64 (yq L i)
theorem zoy (L:Tab) (a:Nat):zdh L (a+1)=zdh L a ++ [.int .i64 (yq L a)]:=by simp[zdh,List.range_succ]
structure Re (w:World) (n tb:Nat) (L0 L:Tab) (c:Cmd) (cv:yz) (lost:Value) (lostL:List ID) (g1 g2:Nat) (pv:Value) (pl:List ID) (lv:Value) (W:World):Prop where
 st:RSt w (fun b=>ownR lost g1 g2 pv b∨lv.ownBlock=some b) tb L W
 bx:Bx w c cv lost lostL g1 g2 pv pl W
 lv:W.ownsRow w.heap.size 2 1 lv n (zdh L0 n)
section
variable {w : World} {n tb : Nat} {L0 L L' : Tab} {c : Cmd} {cv : yz} {lost : Value} {lostL : List ID} {g1 g2 : Nat} {pv : Value} {pl : List ID} {lv : Value} {W W' : World}
theorem mk_re (h:RdS w tb L c cv lost lostL g1 g2 pv pl W) (hg:W.grownBy W' none) (hr:W'.ownsRow W.heap.size 2 1 lv n (zdh L n)):Re w n tb L L c cv lost lostL g1 g2 pv pl lv W':=by
 refine⟨?_,(h.grown hg).bx,⟨hr.1,hr.2.imp id fun ⟨g,cap,cur,a,b,r⟩=>⟨g,cap,cur,a,Nat.le_trans h.st.base.size b,r⟩⟩⟩
 rcases hr.2 with ⟨rfl,_⟩|⟨g,cap,cur,rfl,hb,hcc,_⟩
 ·exact(h.st.grown hg).less (fun b hb=>by
   rcases hb with hb|hb
   ·exact hb
   ·simp[Value.ownBlock] at hb)
 ·exact(h.st.fresh hg g hb (Array.getElem?_eq_some_iff.1 hcc).1).less (fun b hb=>by
   rcases hb with hb|hb
   ·exact Or.inl hb
   ·simp[Value.ownBlock] at hb;exact Or.inr hb.symm)
theorem Re.grown (h:Re w n tb L0 L c cv lost lostL g1 g2 pv pl lv W) (hg:W.grownBy W' none):Re w n tb L0 L c cv lost lostL g1 g2 pv pl lv W':=
 ⟨h.st.grown hg,h.bx.same (fun b hb=>h.st.kept hg b (Or.inl hb)),Qa h.lv (fun g hg2=>h.st.kept hg g (Or.inr hg2))⟩
theorem Re.step (h:Re w n tb L0 L c cv lost lostL g1 g2 pv pl lv W) (hst:RSt w (fun b=>ownR lost g1 g2 pv b∨lv.ownBlock=some b) tb L' W') (hs:zcc (fun b=>ownR lost g1 g2 pv b∨lv.ownBlock=some b) W W'):Re w n tb L0 L' c cv lost lostL g1 g2 pv pl lv W':=
 ⟨hst,h.bx.same (fun b hb=>hs b (Or.inl hb)),Qa h.lv (fun g hg2=>hs g (Or.inr hg2))⟩
end
theorem infoI64:(Tryz.prog.info? 2).map (fun i=>(i.zero,i.size,i.bytes))=some (some (.int .i64 0),1,8):=by kernel_rfl
section
variable {w : World} {own : Nat → Prop} {tb : Nat} {L : Tab} {W V : World}
theorem RSt.look_ro (h:RSt w own tb L W) (k:ByteArray) (v:Int) (hv:Go.Proofs.YtjfelfjobeeenaaGreat.look L k=v) (hg:W.grownBy V none):Calls Tryz.prog 34 #[.pointer (some ⟨tb,0,none⟩),.string k] V fun e w'=>e = .returned (.int .i64 v)∧V.grownBy w' none:=
 ((h.grown hg).look k v hv).mono fun e w' ⟨a,_,b⟩=>⟨a,b⟩
theorem RSt.wanted_ro (h:RSt w own tb L W) (k:ByteArray) (n:Int) (v:Bool) (hv:yl L ⟨k,n⟩=v) (hg:W.grownBy V none):Calls Tryz.prog 36 #[.pointer (some ⟨tb,0,none⟩),.agg #[.string k,.int .i64 n]] V fun e w'=>e = .returned (.bool v)∧V.grownBy w' none:=
 ((h.grown hg).wanted k n v hv).mono fun e w' ⟨a,_,b⟩=>⟨a,b⟩
theorem RSt.life_ro (h:RSt w own tb L W) (n v:Int) (hl:L.zv0.length≤1000000) (hv:yq L n=v) (hg:W.grownBy V none):Calls Tryz.prog 23 #[.pointer (some ⟨tb,0,none⟩),.int .i64 n] V fun e w'=>e = .returned (.int .i64 v)∧V.grownBy w' none:=
 ((h.grown hg).life n v hl hv).mono fun e w' ⟨a,_,b⟩=>⟨a,b⟩
theorem RSt.offered_ro (h:RSt w own tb L W) (v:Int) (hv:L.offers=v) (hg:W.grownBy V none):Calls Tryz.prog 35 #[.pointer (some ⟨tb,0,none⟩)] V fun e w'=>e = .returned (.int .i64 v)∧V.grownBy w' none:=
 ((h.grown hg).offered v hv).mono fun e w' ⟨a,_,b⟩=>⟨a,b⟩
end
theorem znl {W:World} {base n:Nat} {v:Value} {l:List ID} (h:jl base W v l) {g cap:Nat} (hv:v = .slice (some ⟨g,0,none⟩) n cap) (q:Nat) (hq:q<l.length) (x:ID) (hx:l[q]! = x) :
  W.cell? ⟨g,q*2,none⟩=some (.string x.key)∧W.cell? ⟨g,q*2+1,none⟩=some (.int .i64 x.zvz):=by
 have hn:n=l.length:=by
  rcases h.2 with ⟨e,h0⟩|⟨b,c,cur,e,_⟩
  ·rw[hv] at e;cases e
  ·rw[hv] at e;cases e;rfl
 subst hn;have h1:=zc9 l (q*2) (by omega)
 have h2:=zc9 l (q*2+1) (by omega)
 have e1:q*2 / 2=q:=by omega
 have e2:q*2%2=0:=by omega
 have e3:(q*2+1) / 2=q:=by omega
 have e4:(q*2+1)%2=1:=by omega
 rw[e1,e2,hx] at h1;rw[e3,e4,hx] at h2
 rcases h.2 with ⟨e,h0⟩|⟨b,c,cur,e,hb,hcc,r1,r2,r3,r4⟩
 ·rw[hv] at e;cases e
 ·rw[hv] at e
  cases e
  have key:∀(i:Nat) (u:Value),(l.flatMap ya)[i]? = some u→i<l.length*2→W.cell? ⟨g,i,none⟩=some u:=by
   intro i u hu hi;rw[zh hcc i,←Array.getElem?_toList,←hu,←r4,List.getElem?_take_of_lt hi]
  exact⟨key _ _ h1 (by omega),key _ _ h2 (by omega)⟩
inductive ToldS (k:Nat) (L:Tab) (x:ID):Prop where
 | pend (h1:yl L x=true) (h2:look L x.key≠x.zvz)
 | cur (h1:look L x.key=x.zvz) (h2:k≤(memH L.holds x).length)
 | lost (h1:yl L x=false) (h2:look L x.key≠x.zvz)
theorem told {n k:Nat} {L L':Tab} {c:Cmd} (hI:Inv n k L) (hR:Jy k c L L') {x:ID} (hx:x∈L.pending.map (·.1)):ToldS k L' x∧1≤x.zvz∧x.zvz<L'.next:=by
 obtain⟨p,hp,rfl⟩:=List.mem_map.1 hx;have hv:=hI.pv p hp;have hn:=hR.nx;refine⟨?_,hv.1,by omega⟩
 by_cases h:look L' p.1.key=p.1.zvz
 ·exact .cur h (hR.pend p hp h)
 ·cases hw:yl L' p.1 with
  | true=>exact .pend hw h
  | false=>exact .lost hw h
structure Pl (w:World) (tb:Nat) (L:Tab) (pv:Value) (pl:List ID) (lost:Value) (lst:List ID) (b:Nat) (W:World):Prop where
 st:RSt w (fun _=>False) tb L W
 pend:jl w.heap.size W pv pl
 row:jl w.heap.size W lost lst
 gone:∀x∈lst,x.zvz<L.next∧yl L x=false
 len:lst.length≤b
 ne:∀g,lost.ownBlock=some g→pv.ownBlock≠some g
theorem Pl.grown {w:World} {tb:Nat} {L:Tab} {pv:Value} {pl:List ID} {lost:Value} {lst:List ID} {b:Nat} {W W':World} (h:Pl w tb L pv pl lost lst b W) (hg:W.grownBy W' none):Pl w tb L pv pl lost lst b W':=
 ⟨h.st.grown hg,h.pend.kept hg (by cases hv:pv.ownBlock <;> simp),h.row.kept hg (by cases hv:lost.ownBlock <;> simp),h.gone,h.len,h.ne⟩
theorem Pl.more {w:World} {tb:Nat} {L:Tab} {pv:Value} {pl:List ID} {lost lost':Value} {lst:List ID} {b:Nat} {W W':World} {x:ID} (h:Pl w tb L pv pl lost lst b W)
  (ho:W'.ownsRow w.heap.size 54 2 lost' (lst.length+1) (lst.flatMap ya ++ [.string x.key,.int .i64 x.zvz])) (hg:W.grownBy W' lost.ownBlock) (hat:lost'.ownBlock=lost.ownBlock∨lost'.ownBlock=some W.heap.size) (hx:x.zvz<L.next∧yl L x=false):Pl w tb L pv pl lost' (lst ++ [x]) (b+1) W':=by
 have hlr:∀g,lost.ownBlock=some g→∃c,W.heap[g]? = some (.cells c 54 (0,0)):=fun g hg=>Xp h.row hg
 refine⟨?_,Qa h.pend (fun g hg2=>hg.block g (by obtain⟨c,hc⟩:=Xp h.pend hg2;exact(Array.getElem?_eq_some_iff.1 hc).1) (fun e=>h.ne g e.symm hg2)),?_,?_,by simp;exact h.len,?_⟩
 ·have h1:RSt w (fun b=>lost.ownBlock=some b) tb L W:=h.st.take (fun g hg2=>Or.inr (by obtain⟨c,hc⟩:=hlr g hg2;exact⟨_,_,_,hc,by decide,by decide⟩))
  exact(h1.write hg (fun b hb=>⟨hb,Jt h.row b hb⟩)).less (fun _ h=>h.elim)
 ·unfold jl
  simpa[List.flatMap_append,ya] using ho
 ·intro y hy
  rcases List.mem_append.1 hy with hy|hy
  ·exact h.gone y hy
  ·simp only[List.mem_singleton] at hy;subst hy;exact hx
 ·intro g hg2 hp
  rcases hat with e|e
  ·rw[e] at hg2;exact h.ne g hg2 hp
  ·rw[e] at hg2
   cases hg2
   obtain⟨c,hc⟩:=Xp h.pend hp;have:=(Array.getElem?_eq_some_iff.1 hc).1;omega
end Go.Proofs.YtjfelfjobeeenaaGreat
