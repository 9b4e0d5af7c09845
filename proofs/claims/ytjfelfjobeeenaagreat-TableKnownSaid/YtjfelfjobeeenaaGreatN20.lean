/- The running state of a law over a table, with blocks of its own; a table's calls at it. Conditions: none, or as the theorems say. -/
import Derived.Test.YtjfelfjobeeenaaGreatN18
import Derived.Test.YtjfelfjobeeenaaGreatN16
import Derived.Test.YtjfelfjobeeenaaGreatN19
import Derived.Test.YtjfelfjobeeenaaGreatN4
import Derived.Test.YtjfelfjobeeenaaGreatN5
import Derived.Deep.DeepCutAuto
import Derived.Deep.RegionLaw
import Derived.StillTailTactics
namespace Go.Proofs.YtjfelfjobeeenaaGreat
set_option maxHeartbeats 200000000
set_option linter.unusedVariables false
set_option linter.unusedSimpArgs false
open Go.RowKit Go.Sf Go.Shelf
theorem zak {K V:Type} {ek:K→Value} {ev:V→Value} {w w':World} {b:Nat} {m:List (K × V)} (h:zw w b ek ev m) (e:w'.heap[b]? = w.heap[b]?):zw w' b ek ev m:=by
 obtain⟨es,clock,hb,hs,he⟩:=h
 exact⟨es,clock,e.trans hb,hs,he⟩
theorem yh.same {w W:World} {tb:Nat} {T:Tab} (h:yh w tb T) (hs:∀b∈T.blocks tb,W.heap[b]? = w.heap[b]?):yh W tb T where
 cells:=(hs _ (by simp[Tab.blocks])).trans h.cells
 zv0:=(hs _ (by simp[Tab.blocks])).trans h.zv0
 calls:=zak h.calls (hs _ (by simp[Tab.blocks]))
 values:=zak h.values (hs _ (by simp[Tab.blocks]))
 pending:=zak h.pending (hs _ (by simp[Tab.blocks]))
 holds:=zak h.holds (hs _ (by simp[Tab.blocks]))
 zv2:=zak h.zv2 (hs _ (by simp[Tab.blocks]))
 hsets:=fun x hx=>zak (h.hsets x hx) (hs _ (by simp only[Tab.blocks,List.mem_cons,List.mem_append,List.mem_map];exact Or.inr (Or.inr (Or.inr (Or.inr (Or.inr (Or.inr (Or.inr (Or.inl ⟨x,hx,rfl⟩)))))))))
 rsets:=fun x hx=>zak (h.rsets x hx) (hs _ (by simp only[Tab.blocks,List.mem_cons,List.mem_append,List.mem_map];exact Or.inr (Or.inr (Or.inr (Or.inr (Or.inr (Or.inr (Or.inr (Or.inr ⟨x,hx,rfl⟩)))))))))
 nodup:=h.nodup
theorem At.same {bs:Nat→Prop} {w W:World} {tb:Nat} {L:Tab} (h:At bs w tb L) (hs:∀k,k<w.heap.size→bs k→W.heap[k]? = w.heap[k]?):At bs W tb L:=by
 obtain⟨T,h1,h2,h3⟩:=h.ex
 exact⟨T,h1.same fun b hb=>hs b (h1.lt b hb) (h3 b hb),h2,h3⟩
structure RSt (w:World) (own:Nat→Prop) (tb:Nat) (L:Tab) (W:World):Prop where
 tab:At (fun k=>w.heap.size≤k∧¬own k) W tb L
 base:w.grownBy W none
 lt:∀g,own g→g<W.heap.size
def zcc (own:Nat→Prop) (W W':World):Prop:=∀k,own k→W'.heap[k]? = W.heap[k]?
theorem zcc.trans {own:Nat→Prop} {A B C:World} (h:zcc own A B) (g:zcc own B C):zcc own A C:=fun k hk=>(g k hk).trans (h k hk)
def Xz (L:Tab) (c:Cmd):Tab:=if ua c=true∧c.node<(L.zv0.length:Int) then uc L c else L
theorem Jm {c:Cmd} (h:ua c=true):1≤c.kind∧c.kind≤7∧0≤c.node:=by
 unfold ua Qf at h;simp only[Bool.and_eq_true,decide_eq_true_eq] at h;omega
section
variable {n k : Nat} {L : Tab}
theorem zpu (h:Inv n k L) (c:Cmd):Inv n k (Xz L c):=by
 unfold Xz
 split
 ·rename_i hm
  have:=Jm hm.1
  exact ztw h c ⟨this.2.2,by have:=h.ln;omega⟩
 ·exact h
theorem zsy (hk:1≤k) (h:Inv n k L) (c:Cmd):Jy k c L (Xz L c):=by
 unfold Xz
 split
 ·rename_i hm
  have:=Jm hm.1
  exact zr9 hk h c ⟨this.2.2,by have:=h.ln;omega⟩
 ·exact Za h c
theorem zqv (h:Inv n k L) (hc:zlf L) (c:Cmd):zlf (Xz L c):=by
 unfold Xz
 split
 ·rename_i hm
  have:=Jm hm.1
  exact zob h c ⟨this.2.2,by have:=h.ln;omega⟩
 ·exact hc
theorem Inv.pend_len (h:Inv n k L):(L.pending.length:Int)<L.next:=by
 have hnd:(L.pending.map fun p=>p.1.zvz).Nodup:=by
  have h1:=h.pnd;have h2:=h.pu;clear h;generalize L.pending=m at *
  induction m with
  | nil=>simp
  | cons p r ih=>
   simp only[List.map_cons,List.nodup_cons] at h1 ⊢;refine⟨fun hm=>?_,ih h1.2 (fun a ha b hb=>h2 a (by simp[ha]) b (by simp[hb]))⟩
   obtain⟨q,hq,e⟩:=List.mem_map.1 hm
   exact h1.1 (List.mem_map.2 ⟨q,hq,h2 q (by simp[hq]) p (by simp) e⟩)
 have hn:=h.nx;have h3:=Yt (L.next-1).toNat ((L.pending.map fun p=>p.1.zvz-1)) (by
  have:(L.pending.map fun p=>p.1.zvz-1)=(L.pending.map fun p=>p.1.zvz).map (·- 1):=by rw[List.map_map];rfl
  rw[this];rw[List.nodup_iff_pairwise_ne,List.pairwise_map]
  exact List.Pairwise.imp (fun hab e=>hab (by omega)) (List.nodup_iff_pairwise_ne.1 hnd)) (fun x hx=>by
   obtain⟨p,hp,rfl⟩:=List.mem_map.1 hx;have:=h.pv p hp;omega)
 simp at h3;omega
theorem Inv.fits (h:Inv n k L) (hn:n≤1000000) (i:ID):Xw (memH L.holds i):=
 Vc ⟨fun x hx=>by have:=(h.hm.len i).2 x hx;omega,by have:=(h.hm.len i).1;omega⟩
theorem Inv.ok (h:Inv n k L) (hn:n≤1000000) (ho:L.offers<1000000) (hx:L.next<1000000):L.Ok:=
 ⟨h.o0,by omega,by have:=h.nx;omega,by omega,by rw[h.ln];omega,fun i=>by have:=(h.rm.len i).1;omega⟩
end
section
variable {w W W' : World} {own : Nat → Prop} {tb : Nat} {L : Tab}
theorem RSt.grown (h:RSt w own tb L W) (hg:W.grownBy W' none):RSt w own tb L W':=⟨h.tab.grown hg,ze h.base hg,fun g hg2=>Nat.lt_of_lt_of_le (h.lt g hg2) hg.size⟩
theorem RSt.kept (h:RSt w own tb L W) (hg:W.grownBy W' none):zcc own W W':=fun k hk=>hg.block k (h.lt k hk) (by simp)
theorem RSt.write (h:RSt w own tb L W) {g:Option Nat} (hg:W.grownBy W' g) (ho:∀b,g=some b→own b∧w.heap.size≤b):RSt w own tb L W':=
 ⟨h.tab.same fun k hk hb=>hg.block k hk (fun e=>hb.2 (ho k e.symm).1),jk h.base hg (fun b e=>(ho b e).2),fun g2 h2=>Nat.lt_of_lt_of_le (h.lt g2 h2) hg.size⟩
theorem RSt.fresh (h:RSt w own tb L W) (hg:W.grownBy W' none) (g:Nat) (hge:W.heap.size≤g) (hlt:g<W'.heap.size):RSt w (fun k=>own k∨k=g) tb L W':=
 ⟨(h.tab.mono (fun k hk hb=>⟨hb.1,by rintro(h1|h1);exact hb.2 h1;omega⟩)).grown hg,ze h.base hg,fun g2 h2=>by
  rcases h2 with h2|h2
  ·exact Nat.lt_of_lt_of_le (h.lt g2 h2) hg.size
  ·omega⟩
theorem RSt.less (h:RSt w own tb L W) {own':Nat→Prop} (hs:∀k,own' k→own k):RSt w own' tb L W:=
 ⟨h.tab.mono (fun k hk hb=>⟨hb.1,fun h2=>hb.2 (hs k h2)⟩),h.base,fun g hg=>h.lt g (hs g hg)⟩
theorem RSt.look (h:RSt w own tb L W) (k:ByteArray) (v:Int) (hv:look L k=v):Calls Tryz.prog 34 #[.pointer (some ⟨tb,0,none⟩),.string k] W fun e w'=>e = .returned (.int .i64 v)∧RSt w own tb L w'∧W.grownBy w' none:=by
 subst hv
 exact(zkm h.tab k).mono fun e w' ⟨a,b⟩=>⟨a,h.grown b,b⟩
theorem RSt.wanted (h:RSt w own tb L W) (k:ByteArray) (n:Int) (v:Bool) (hv:yl L ⟨k,n⟩=v):Calls Tryz.prog 36 #[.pointer (some ⟨tb,0,none⟩),.agg #[.string k,.int .i64 n]] W fun e w'=>e = .returned (.bool v)∧RSt w own tb L w'∧W.grownBy w' none:=by
 subst hv
 exact(zex h.tab ⟨k,n⟩).mono fun e w' ⟨a,b⟩=>⟨a,h.grown b,b⟩
theorem RSt.call (h:RSt w own tb L W) (n:Int) (v:yz) (hv:callV L n=v):Calls Tryz.prog 32 #[.pointer (some ⟨tb,0,none⟩),.int .i64 n] W fun e w'=>e = .returned (.agg #[.int .i64 v.zvy,.int .i64 v.zvz,.bool v.done,.int .i64 v.code])∧RSt w own tb L w'∧W.grownBy w' none:=by
 subst hv
 exact(zj2 h.tab n).mono fun e w' ⟨a,b⟩=>⟨a,h.grown b,b⟩
theorem RSt.next (h:RSt w own tb L W) (v:Int) (hv:L.next=v):Calls Tryz.prog 31 #[.pointer (some ⟨tb,0,none⟩)] W fun e w'=>e = .returned (.int .i64 v)∧RSt w own tb L w'∧W.grownBy w' none:=by
 subst hv
 exact(zkq h.tab).mono fun e w' ⟨a,b⟩=>⟨a,h.grown b,b⟩
theorem RSt.life (h:RSt w own tb L W) (n v:Int) (hl:L.zv0.length≤1000000) (hv:yq L n=v):Calls Tryz.prog 23 #[.pointer (some ⟨tb,0,none⟩),.int .i64 n] W fun e w'=>e = .returned (.int .i64 v)∧RSt w own tb L w'∧W.grownBy w' none:=by
 subst hv
 exact(zkl h.tab n (by omega)).mono fun e w' ⟨a,b⟩=>⟨a,h.grown b,b⟩
theorem RSt.holders (h:RSt w own tb L W) (k:ByteArray) (n:Int) (l:Nat) (hf:Xw (memH L.holds ⟨k,n⟩)) (hv:(memH L.holds ⟨k,n⟩).length=l):Calls Tryz.prog 37 #[.pointer (some ⟨tb,0,none⟩),.agg #[.string k,.int .i64 n]] W fun e w'=>∃p c,e = .returned (.slice p l c)∧RSt w own tb L w'∧W.grownBy w' none:=by
 subst hv;refine(zcq h.tab ⟨k,n⟩ hf).mono ?_;rintro e w' ⟨v,a,b⟩;obtain⟨p,c,hv⟩:=zed b;rw[zdc] at hv
 exact⟨p,c,by rw[a,hv],h.grown b.2.2,b.2.2⟩
theorem RSt.pending (h:RSt w own tb L W) (hl:L.pending.length≤1000000):Calls Tryz.prog 33 #[.pointer (some ⟨tb,0,none⟩)] W fun e w'=>∃v l,e = .returned v∧zf5 w.heap.size w' v L.pending l∧(∀g,v.ownBlock=some g→W.heap.size≤g)∧RSt w own tb L w'∧W.grownBy w' none:=
 (zhf h.tab hl).mono fun e w' ⟨v,l,a,b,c⟩=>⟨v,l,a,⟨Vv b.1 h.base.size,b.2⟩,Jt b.1,h.grown c,c⟩
theorem zi6 {T:Tab} (h:yh W tb T) {g:Nat} {c:Array Value} {t:TypeId} {fr:Nat × Nat} (hg:W.heap[g]? = some (.cells c t fr)) (h1:t≠122) (h2:t≠2):g ∉ T.blocks tb:=by
 have hmap:∀{b:Nat} {K V:Type} {ek:K→Value} {ev:V→Value} {m:List (K × V)},zw W b ek ev m→g≠b:=by
  rintro b K V ek ev m ⟨es,clock,hb,_⟩ e;rw[e,hb] at hg;cases hg
 intro hb;simp only[Tab.blocks,List.mem_cons,List.mem_append,List.mem_map] at hb
 rcases hb with e|e|e|e|e|e|e|⟨x,hx,e⟩|⟨x,hx,e⟩
 ·rw[e,h.cells] at hg;cases hg;exact h1 rfl
 ·rw[e,h.zv0] at hg;cases hg;exact h2 rfl
 ·exact hmap h.calls e
 ·exact hmap h.values e
 ·exact hmap h.pending e
 ·exact hmap h.holds e
 ·exact hmap h.zv2 e
 ·exact hmap (h.hsets x hx) e.symm
 ·exact hmap (h.rsets x hx) e.symm
theorem RSt.take (h:RSt w own tb L W) {own':Nat→Prop} (hs:∀g,own' g→own g∨∃c t fr,W.heap[g]? = some (.cells c t fr)∧t≠122∧t≠2):RSt w own' tb L W:=by
 refine⟨?_,h.base,fun g hg=>?_⟩
 ·obtain⟨T,h1,h2,h3⟩:=h.tab.ex
  refine⟨T,h1,h2,fun b hb=>⟨(h3 b hb).1,fun ho=>?_⟩⟩
  rcases hs b ho with h4|⟨c,t,fr,h4,h5,h6⟩
  ·exact(h3 b hb).2 h4
  ·exact zi6 h1 h4 h5 h6 hb
 ·rcases hs g hg with h4|⟨c,t,fr,h4,_,_⟩
  ·exact h.lt g h4
  ·exact(Array.getElem?_eq_some_iff.1 h4).1
theorem Xp {base n:Nat} {e:TypeId} {size:Nat} {v:Value} {xs:List Value} (h:W.ownsRow base e size v n xs) {g:Nat} (hg:v.ownBlock=some g):∃c,W.heap[g]? = some (.cells c e (0,0)):=by
 rcases h.2 with ⟨rfl,_⟩|⟨b,cap,cur,rfl,_,hb,_⟩
 ·simp[Value.ownBlock] at hg
 ·simp[Value.ownBlock] at hg
  subst hg
  exact⟨_,hb⟩
theorem Qa {base n:Nat} {e:TypeId} {size:Nat} {v:Value} {xs:List Value} (h:W.ownsRow base e size v n xs) (hs:∀g,v.ownBlock=some g→W'.heap[g]? = W.heap[g]?):W'.ownsRow base e size v n xs:=by
 refine⟨h.1,?_⟩
 rcases h.2 with hn|⟨b,cap,cur,rfl,h1,hb,h3⟩
 ·exact .inl hn
 ·exact .inr ⟨b,cap,cur,rfl,h1,(hs b (by simp[Value.ownBlock])).trans hb,h3⟩
set_option maxRecDepth 100000 in
theorem zfh {T:Tab} (h:yh W tb T):Calls Tryz.prog 35 #[.pointer (some ⟨tb,0,none⟩)] W fun e w'=>e = .returned (.int .i64 T.offers)∧W.grownBy w' none:=by
 have c1:=h.c1;clear h
 go_enter Tryz.func35,Tryz.ntmps35
 go_wp2
 go_ret
 exact⟨rfl,zd _⟩
theorem RSt.offered (h:RSt w own tb L W) (v:Int) (hv:L.offers=v):Calls Tryz.prog 35 #[.pointer (some ⟨tb,0,none⟩)] W fun e w'=>e = .returned (.int .i64 v)∧RSt w own tb L w'∧W.grownBy w' none:=by
 subst hv;obtain⟨T,h1,h2,h3⟩:=h.tab.ex;have hq:=zfh h1;have e:T.offers=L.offers:=by rw[←h2];rfl
 rw[e] at hq
 exact hq.mono fun e w' ⟨a,b⟩=>⟨a,h.grown b,b⟩
theorem zj8 {bs:Nat→Prop} {n k:Nat} (h:At bs W tb L) (hI:Inv n k L) (hn:n≤1000000) (ho:L.offers<1000000) (hx:L.next<1000000) (c:Cmd) (hkey:(c.key.size:Int)≤9223372036854775807) (hbs:∀k,W.heap.size≤k→bs k) :
  Calls Tryz.prog 22 #[.pointer (some ⟨tb,0,none⟩),zp c] W fun e w'=>e = .returned (.int .i64 (if ua c=true∧c.node<(L.zv0.length:Int) then 0 else 2))∧At bs w' tb (Xz L c)∧Out bs W w':=by
 unfold Xz
 by_cases hm:ua c=true
 ·by_cases hc:c.node<(L.zv0.length:Int)
  ·rw[if_pos ⟨hm,hc⟩,if_pos ⟨hm,hc⟩]
   have:=Jm hm
   exact do_at h c hkey (hI.ok hn ho hx) hm hc this.1 this.2.1 this.2.2 hbs
  ·rw[if_neg (fun e=>hc e.2),if_neg (fun e=>hc e.2)]
   obtain⟨T,h1,h2,h3⟩:=h.ex;have e:T.zv0.length=L.zv0.length:=by rw[←h2];rfl
   have hl:=hI.ln;refine(do_bad2 h1 c hkey (by omega) hm (by omega)).mono ?_
   rintro e w' ⟨a,b⟩
   exact⟨a,h.grown b,Out.of_grown b _⟩
 ·rw[if_neg (fun e=>hm e.1),if_neg (fun e=>hm e.1)]
  obtain⟨T,h1,h2,h3⟩:=h.ex;have e:T.zv0.length=L.zv0.length:=by rw[←h2];rfl
  have hl:=hI.ln;refine(do_bad1 h1 c hkey (by omega) (by simpa using hm)).mono ?_
  rintro e w' ⟨a,b⟩
  exact⟨a,h.grown b,Out.of_grown b _⟩
theorem RSt.act {n k:Nat} (h:RSt w own tb L W) (hI:Inv n k L) (hn:n≤1000000) (ho:L.offers<1000000) (hx:L.next<1000000) (kind node zvw zvx zvy zvz:Int) (key:ByteArray) (code:Int) (hkey:(key.size:Int)≤9223372036854775807) (r:Int)
  (hr:(if ua ⟨kind,node,zvw,zvx,zvy,zvz,key,code⟩=true∧node<(L.zv0.length:Int) then (0:Int) else 2)=r) (L':Tab) (hL:Xz L ⟨kind,node,zvw,zvx,zvy,zvz,key,code⟩=L') :
  Calls Tryz.prog 22 #[.pointer (some ⟨tb,0,none⟩),.agg #[.int .u8 kind,.int .i64 node,.int .i64 zvw,.int .i64 zvx,.int .i64 zvy,.int .i64 zvz,.string key,.int .i64 code]] W fun e w'=>e = .returned (.int .i64 r)∧RSt w own tb L' w'∧zcc own W w':=by
 subst hr hL;refine(zj8 h.tab hI hn ho hx ⟨kind,node,zvw,zvx,zvy,zvz,key,code⟩ hkey (fun k hk=>⟨by have:=h.base.size;omega,fun e=>by have:=h.lt k e;omega⟩)).mono ?_
 rintro e w' ⟨a,b,c⟩;refine⟨a,⟨b,⟨c.os.trans h.base.os,c.tape.trans h.base.tape,c.output.trans h.base.output,Nat.le_trans h.base.size c.size,fun k hk hn=>?_⟩,fun g hg=>Nat.lt_of_lt_of_le (h.lt g hg) c.size⟩,fun k hk=>c.block k (h.lt k hk) (fun e=>e.2 hk)⟩
 exact(c.block k (Nat.lt_of_lt_of_le hk h.base.size) (fun e=>by omega)).trans (h.base.block k hk (by simp))
end
def Xg (w:World) (base:Nat) (v:Value) (l:List Cmd):Prop:=
 ∃p cap,v = .slice p l.length cap∧l.length≤9223372036854775807∧(∀c∈l,(c.key.size:Int)≤9223372036854775807)∧(l = []∨∃b off,p=some ⟨b,off,none⟩∧b<base∧∀i,i<l.length→∀j u,(xa (l.getD i wkD))[j]? = some u→w.cell? ⟨b,off+i*8+j,none⟩=some u)
set_option maxRecDepth 100000 in
theorem zeg (v:Value) (l:List Cmd) (base:Nat) (w:World) (h:Xg w base v l) :
  Calls Tryz.prog 29 #[v] w fun e w'=>∃r,e = .returned (.bool r)∧w.grownBy w' none∧(r=false→l.length≤80):=by
 obtain⟨p,cap,rfl,hlen,hks,hrow⟩:=h
 rcases Nat.lt_or_ge 80 l.length with h80|h80
 ·clear hrow hks
  go_enter Tryz.func29,Tryz.ntmps29
  go_wp2
  go_ret
  exact⟨true,rfl,zd _,by simp⟩
 ·have HL:Hid (∀r:Bool,r=false→l.length≤80):=fun _ _=>h80
  have HK:=za hks;have HR:=za hrow;clear hks hrow;generalize hn:l.length=m at *
  go_enter Tryz.func29,Tryz.ntmps29
  go_wp2
  go_loopw [3,4] (fun s i wr=>∃(j:Nat) (x:Int),j≤m∧i = .int .i64 j∧s = .int .i64 x∧0≤x∧x≤2000∧wr=w) (fun _ i _=>m-(intOf i).toNat)
  case atStart=>exact⟨0,0,Nat.zero_le _,rfl,rfl,by omega,by omega,rfl⟩
  case round=>
   obtain⟨j,x,hj,rfl,rfl,hx0,hx1,rfl⟩:=hrel
   rcases Nat.lt_or_ge j m with hlt|hge
   ·rcases HR.out with h0|⟨b,off,rfl,hb,hc⟩
    ·subst h0;simp at hn;omega
    ·have hcell:=hc j hlt 6 _ rfl
     have hk:=HK.out (l.getD j wkD) (by simp only[List.getD_eq_getElem?_getD,List.getElem?_eq_getElem (show j<l.length by omega),Option.getD_some];exact List.getElem_mem _)
     clear hc HR;generalize l.getD j wkD=c at *;obtain⟨kind,node,zvw,zvx,zvy,zvz,key,code⟩:=c;simp only at hcell hk;generalize hks:(key.size:Int)=ks at *;have hk0:0≤ks:=by omega
     by_cases hgt:2000-x<ks
     ·go_wp2
      go_ret
      exact⟨true,rfl,zd _,by simp⟩
     ·go_wp2
      go_roundw
      case rel=>exact⟨j+1,x+ks,by omega,rfl,by simp,by omega,by omega,by simp⟩
      case measure=>simp[intOf];omega
   ·go_wp2
    go_ret
    exact⟨false,rfl,zd _,HL.out _⟩
open Go.RowKit Go.Sf
@[go_sem] theorem as32_8 (v:Value) (w:World):(Instr.typeAssert (.iface 224 v) 20 5 true).run Tryz.prog w = .ok (.tuple #[.int .u8 0,.bool false]) w:=by kernel_rfl
@[go_sem] theorem as32_16 (v:Value) (w:World):(Instr.typeAssert (.iface 224 v) 20 99 true).run Tryz.prog w = .ok (.tuple #[.int .u16 0,.bool false]) w:=by kernel_rfl
@[go_sem] theorem as32_32 (v:Value) (w:World):(Instr.typeAssert (.iface 224 v) 20 224 true).run Tryz.prog w = .ok (.tuple #[v,.bool true]) w:=by kernel_rfl
set_option maxRecDepth 100000 in
theorem size32 (n:Int) (W:World):Calls Tryz.prog 212 #[.int .u32 n] W fun e w'=>e = .returned (.int .i64 4)∧w'=W:=by
 go_enter Tryz.func212,Tryz.ntmps212
 go_wp2
 go_ret
 exact⟨rfl,rfl⟩
set_option maxRecDepth 100000 in
theorem put32 {W:World} {wb base:Nat} {v:Value} {l:List Int} (h:Xy W wb base v l) (hb:base≤wb) (hl:l.length≤100000000) (N:Nat) (hN:N<256 ^ 4):Calls Tryz.prog 182 #[.pointer (some ⟨wb,0,none⟩),.int .u32 N] W fun e w'=>e = .returned (.tuple #[])∧∃v',Xy w' wb base v' (l++be 4 N)∧yc (fun k=>k=wb∨v.ownBlock=some k) W w'∧(v.ownBlock=v'.ownBlock∨∀g,v'.ownBlock=some g→W.heap.size≤g):=by
 obtain⟨i0,hi,hz0,hz1,hz2⟩:=info_parts Zr;obtain⟨p,cap,rfl⟩:=qs h.row;have c0:W.cell? ⟨wb,0,none⟩=some (.slice p l.length cap):=by simp[World.cell?,h.box]
 have f0:W.frozen? ⟨wb,0,none⟩=false:=by simp[World.frozen?,h.box]
 have hwb:wb<W.heap.size:=(Array.getElem?_eq_some_iff.1 h.box).1;have H:=za h;clear h
 go_enter Tryz.func182,Tryz.ntmps182
 go_upto_region 2 with fail
 go_cut [] (fun wx=>∃g cap2,zc2 wx wb base g cap2 (l.length+4) (zu l++List.replicate 4 (.int .u8 0))∧yc (fun q=>q=wb∨Value.ownBlock (.slice p l.length cap)=some q) W wx∧(Value.ownBlock (.slice p l.length cap)=some g∨W.heap.size≤g))
 case first=>
  go_region_law (first
   | (go_simp;go_at_call 212;refine(size32 _ _).mono ?_;rintro e w3 ⟨rfl,rfl⟩)
   | (refine zau rfl _ _ 25 3 5 rfl i0 .i64 .i64 Tryz.underlying25 Tryz.underlying3 hi hz0 hz1 hz2 base _ l.length (zu l) rfl H.out.row 4 rfl (by omega) (by omega) (by show base≤W.heap.size;omega) ?_;intro g cap2 w1 ho hg hat;have hx1:w1.heap[wb]? = some (.cells #[.slice p l.length cap] 96 (0,0)):=(hg.block wb hwb (fun e=>H.out.ne e.symm)).trans H.out.box;have d0:w1.cell? ⟨wb,0,none⟩=some (.slice p l.length cap):=(by simp[World.cell?,hx1]);have y0:w1.frozen? ⟨wb,0,none⟩=false:=(by simp[World.frozen?,hx1]);have HO:=za ho;have HGR:=za hg;have HAT:=za hat;have HX:=za hx1;clear ho hg hat hx1))
  all_goals
   go_wp2_with fail
   go_meet
   exact⟨g,cap2,zgb hwb H.out.ne HX.out HO.out HGR.out HAT.out⟩
 case rest=>
  obtain⟨g,cap2,hp,ht,hat⟩:=hcut;have HTN:=za ht;have HAT:=za hat;have d0:=hp.c0;clear ht hat c0 f0;have hlen:l.length+4≤1000000000:=by omega
  go_wp2
  go_loopw [1,5] (fun nv i wr=>∃(m nc:Nat) (tail:List Int),m≤4∧nv = .int .u32 nc∧nc<256 ^ 4∧i = .int .i64 ((l.length:Int)+m-1)∧be 4 N=be m nc++tail∧tail.length+m=4∧zc2 wr wb base g cap2 (l.length+4) (zu l++List.replicate m (.int .u8 0)++zu tail)∧yc (fun q=>q=wb∨Value.ownBlock (.slice p l.length cap)=some q∨W.heap.size≤q) W wr) (fun _ i _=>(intOf i+1-(l.length:Int)).toNat)
  case atStart=>exact⟨4,N,[],by omega,rfl,hN,by congr 1 <;> omega,by simp,by simp,by simpa[zu] using hp,HTN.out.mono (fun q h=>by rcases h with h|h;exact Or.inl h;exact Or.inr (Or.inl h))⟩
  case round=>
   obtain⟨m,nc,tail,hm,rfl,hnc,rfl,hbe,htl,hp,ht⟩:=hrel;have e0:=hp.c0;have HP:=za hp;have HT:=za ht;clear hp ht d0
   cases m with
   | zero=>
    go_wp2
    first|go_end0|refine bodyPost_ret (results_none rfl _ _ _) rfl ?_
    have hbt:be 4 N=tail:=by simpa[be] using hbe
    have hln:(l++be 4 N).length=l.length+4:=by simp[yn]
    refine⟨rfl,_,⟨HP.out.box,?_⟩,HT.out.old,?_⟩
    ·rw[hln,hbt]
     have:=HP.out.row;simpa[zu] using this
    ·rcases HAT.out with h|h
     ·exact Or.inl h
     ·exact Or.inr (fun q hq=>by simp[Value.ownBlock] at hq;omega)
   | succ m=>
    have hsel:=HP.out.row;obtain⟨cell0,hz⟩:∃u,wr.cell? ⟨g,l.length+m,none⟩=some u:=by
     rcases hsel.2 with ⟨e1,_⟩|⟨b,c,cur,e1,_,hb,r1,r2,r3,r4⟩
     ·cases e1
     ·cases e1
      refine⟨cur[l.length+m]'(by omega),?_⟩
      simp[World.cell?,hb]
    have hfz:wr.frozen? ⟨g,l.length+m,none⟩=false:=by
     rcases hsel.2 with ⟨e1,_⟩|⟨b,c,cur,e1,_,hb,r1,r2,r3,r4⟩
     ·cases e1
     ·cases e1
      simp[World.frozen?,hb]
    clear hsel;go_wp2
    go_roundw
    case rel=>
     refine⟨m,nc / 256,((nc%256:Nat):Int) :: tail,by omega,by simp,Nat.lt_of_le_of_lt (Nat.div_le_self _ _) hnc,by congr 1;omega,by rw[hbe,Uq];simp,by simp only[List.length_cons];omega,?_,HT.out.set _ (by rcases HAT.out with h|h;exact Or.inr (Or.inl h);exact Or.inr (Or.inr h))⟩
     have hnm:((nc%256:Nat):Int)=(nc:Int)%256:=rfl;rw[hnm]
     exact HP.out.step (by omega) _
    case measure=>simp[intOf];omega
section
variable {W : World} {wb base : Nat} {v : Value} {l : List Int}
set_option maxRecDepth 100000 in
theorem zvq (h:Xy W wb base v l) (hb:base≤wb) (hl:l.length≤100000000) (N:Nat) (hN:N<256 ^ 4):Calls Tryz.prog 152 #[.pointer (some ⟨wb,0,none⟩),.int .u32 N] W fun e w'=>za3 W wb base v (l++be 4 N) e w':=by
 have H:=za h;clear h
 go_enter Tryz.func152,Tryz.ntmps152
 go_wp2_with (go_at_call 182;refine(put32 H.out hb hl N hN).mono ?_;rintro e w' ⟨rfl,hq⟩;have HQ:=za hq;clear hq)
 first|go_end0|refine bodyPost_ret (results_none rfl _ _ _) rfl ?_
 exact⟨rfl,HQ.out⟩
end
def e2 (x:Int):List Int:=be 2 (x%65536).toNat
def e4 (x:Int):List Int:=be 4 (x%4294967296).toNat
def e8 (x:Int):List Int:=be 8 (x%18446744073709551616).toNat
def zf0 (b:Bool):List Int:=be 1 (if b then 1 else 0)
def zlu (s:ByteArray):List Int:=be 1 s.size++qz s
def eID (i:ID):List Int:=zlu i.key++e8 i.zvz
theorem xy {bs:Nat→Prop} {a b c:World} (h:a.grownBy b none) (g:yc bs b c):yc bs a c:=
 ⟨g.os.trans h.os,g.tape.trans h.tape,g.output.trans h.output,Nat.le_trans h.size g.size,fun k hk hn=>(g.block k (Nat.lt_of_lt_of_le hk h.size) hn).trans (h.block k hk (by simp))⟩
structure WS (own:Nat→Prop) (wb:Nat) (l:List Int) (w:World):Prop where
 ex:∃v,Xy w wb wb v l∧∀g,v.ownBlock=some g→¬own g
 nw:¬own wb
 lt:∀g,own g→g<w.heap.size
def jm (own:Nat→Prop) (wb:Nat) (l:List Int) (w:World) (e:Ending) (w':World):Prop:=e = .returned (.tuple #[])∧WS own wb l w'∧yc (fun k=>¬own k) w w'
section
variable {own : Nat → Prop} {w w' : World} {wb : Nat} {l l' : List Int}
theorem WS.wlt (h:WS own wb l w):wb<w.heap.size:=by
 obtain⟨v,h1,_⟩:=h.ex
 exact(Array.getElem?_eq_some_iff.1 h1.box).1
theorem WS.keep (h:WS own wb l w) (hg:w.grownBy w' none):WS own wb l w':=by
 obtain⟨v,h1,h2⟩:=h.ex
 exact⟨⟨v,h1.kept hg,h2⟩,h.nw,fun g hg2=>Nat.lt_of_lt_of_le (h.lt g hg2) hg.size⟩
theorem zd0 {v:Value} (h1:Xy w wb wb v l) (h2:∀g,v.ownBlock=some g→¬own g) (h:WS own wb l w) {e:Ending} (hp:za3 w wb wb v l' e w'):jm own wb l' w e w':=by
 obtain⟨rfl,v',hw,ht,hv⟩:=hp;refine⟨rfl,⟨⟨v',hw,fun g hg ho=>?_⟩,h.nw,fun g ho=>Nat.lt_of_lt_of_le (h.lt g ho) ht.size⟩,ht.mono fun k hk ho=>?_⟩
 ·rcases hv with e|e
  ·exact h2 g (e.trans hg) ho
  ·have:=e g hg;have:=h.lt g ho;omega
 ·rcases hk with rfl|hk
  ·exact h.nw ho
  ·exact h2 k hk ho
theorem WS.fresh (h:WS own wb l w) (hg:w.grownBy w' none) (g:Nat) (hge:w.heap.size≤g) (hlt:g<w'.heap.size):WS (fun k=>own k∨k=g) wb l w':=by
 obtain⟨v,h1,h2⟩:=h.ex;refine⟨⟨v,h1.kept hg,fun k hk ho=>?_⟩,fun e=>e.elim h.nw (fun e=>by have:=h.wlt;omega),fun k hk=>hk.elim (fun e=>Nat.lt_of_lt_of_le (h.lt k e) hg.size) (fun e=>by omega)⟩
 rcases ho with ho|ho
 ·exact h2 k hk ho
 ·have:k<w.heap.size:=by
   rcases h1.row.2 with ⟨e,_⟩|⟨b,c,cur,e,_,hb,_⟩
   ·rw[e] at hk;simp[Value.ownBlock] at hk
   ·rw[e] at hk;simp[Value.ownBlock] at hk;subst hk;exact(Array.getElem?_eq_some_iff.1 hb).1
  omega
theorem WS.less (h:WS own wb l w) {own':Nat→Prop} (hs:∀k,own' k→own k):WS own' wb l w:=by
 obtain⟨v,h1,h2⟩:=h.ex
 exact⟨⟨v,h1,fun g hg ho=>h2 g hg (hs g ho)⟩,fun e=>h.nw (hs _ e),fun g hg=>h.lt g (hs g hg)⟩
theorem WS.shortZ (h:WS own wb l w) (hl:l.length≤100000) (x:Int):Calls Tryz.prog 50 #[.pointer (some ⟨wb,0,none⟩),.int .u16 (x%65536)] w (jm own wb (l++e2 x) w):=by
 obtain⟨v,h1,h2⟩:=h.ex;have hx:(((x%65536).toNat:Nat):Int)=x%65536:=by omega
 have hh:=zjp h1 (Nat.le_refl _) (by omega) (x%65536).toNat (by omega)
 rw[hx] at hh
 exact hh.mono fun e w' hp=>zd0 h1 h2 h hp
theorem WS.wordZ (h:WS own wb l w) (hl:l.length≤100000) (x:Int):Calls Tryz.prog 152 #[.pointer (some ⟨wb,0,none⟩),.int .u32 (x%4294967296)] w (jm own wb (l++e4 x) w):=by
 obtain⟨v,h1,h2⟩:=h.ex;have hx:(((x%4294967296).toNat:Nat):Int)=x%4294967296:=by omega
 have hh:=zvq h1 (Nat.le_refl _) (by omega) (x%4294967296).toNat (by omega)
 rw[hx] at hh
 exact hh.mono fun e w' hp=>zd0 h1 h2 h hp
theorem WS.longZ (h:WS own wb l w) (hl:l.length≤100000) (x:Int):Calls Tryz.prog 51 #[.pointer (some ⟨wb,0,none⟩),.int .u64 (x%18446744073709551616)] w (jm own wb (l++e8 x) w):=by
 obtain⟨v,h1,h2⟩:=h.ex;have hx:(((x%18446744073709551616).toNat:Nat):Int)=x%18446744073709551616:=by omega
 have hh:=zmf h1 (Nat.le_refl _) (by omega) (x%18446744073709551616).toNat (by omega)
 rw[hx] at hh
 exact hh.mono fun e w' hp=>zd0 h1 h2 h hp
theorem WS.byteZ (h:WS own wb l w) (hl:l.length≤100000) (x:Nat) (hx:x<256):Calls Tryz.prog 49 #[.pointer (some ⟨wb,0,none⟩),.int .u8 x] w (jm own wb (l++be 1 x) w):=by
 obtain⟨v,h1,h2⟩:=h.ex
 exact(zgg h1 (Nat.le_refl _) (by omega) x hx).mono fun e w' hp=>zd0 h1 h2 h hp
theorem WS.textZ (h:WS own wb l w) (hl:l.length≤100000) (s:ByteArray) (hs:s.size≤1000000):Calls Tryz.prog 52 #[.pointer (some ⟨wb,0,none⟩),.string s] w (jm own wb (l++zlu s) w):=by
 obtain⟨v,h1,h2⟩:=h.ex;refine(znz s h1 (Nat.le_refl _) (by omega)).mono fun e w' hp=>?_
 rw[List.append_assoc] at hp
 exact zd0 h1 h2 h hp
set_option maxRecDepth 100000 in
theorem WS.bitZ (h:WS own wb l w) (hl:l.length≤100000) (b:Bool):Calls Tryz.prog 87 #[.pointer (some ⟨wb,0,none⟩),.bool b] w (jm own wb (l++zf0 b) w):=by
 have H:=za h;have hwl:=h.wlt;clear h
 cases b
 ·have H0:Hid (Calls Tryz.prog 49 #[.pointer (some ⟨wb,0,none⟩),.int .u8 0] w (jm own wb (l++zf0 false) w)):=(show Calls _ _ _ _ _ from H.out.byteZ hl 0 (by omega))
  go_enter Tryz.func87,Tryz.ntmps87
  go_wp2_with (go_at_call 49;refine H0.out.mono ?_;rintro e w' ⟨rfl,hq⟩;have HQ:=za hq;clear hq)
  first|go_end0|refine bodyPost_ret (results_none rfl _ _ _) rfl ?_
  exact⟨rfl,HQ.out⟩
 ·have H0:Hid (Calls Tryz.prog 49 #[.pointer (some ⟨wb,0,none⟩),.int .u8 1] w (jm own wb (l++zf0 true) w)):=(show Calls _ _ _ _ _ from H.out.byteZ hl 1 (by omega))
  go_enter Tryz.func87,Tryz.ntmps87
  go_wp2_with (go_at_call 49;refine H0.out.mono ?_;rintro e w' ⟨rfl,hq⟩;have HQ:=za hq;clear hq)
  first|go_end0|refine bodyPost_ret (results_none rfl _ _ _) rfl ?_
  exact⟨rfl,HQ.out⟩
theorem zag (i:ID):(eID i).length=i.key.size+9:=by have h1:=zy i.key;simp only[eID,zlu,e8,yn,List.length_append,h1];omega
set_option maxRecDepth 100000 in
theorem WS.idZ (h:WS own wb l w) (i:ID) (hl:l.length+i.key.size≤90000):Calls Tryz.prog 91 #[.pointer (some ⟨wb,0,none⟩),.agg #[.string i.key,.int .i64 i.zvz]] w (jm own wb (l++eID i) w):=by
 have hwl:=h.wlt;have HL:Hid (l.length+i.key.size≤90000):=(show _≤_ from hl)
 have HG:=za (zc w (.cells #[.string i.key,.int .i64 i.zvz] 54) none);have HB:=za (heap_alloc_new w (.cells #[.string i.key,.int .i64 i.zvz] 54));have H:=za (h.fresh HG.out w.heap.size (Nat.le_refl _) (by simp))
 have HLN:Hid ((l++zlu i.key).length≤100000):=(show _≤_ from by have h1:=zy i.key;simp only[zlu,yn,List.length_append,h1];omega)
 have HE:Hid (l++zlu i.key++e8 i.zvz=l++eID i):=(show _=_ from by simp[eID,List.append_assoc])
 have HSZ:Hid (w.heap.size<(w.alloc (.cells #[.string i.key,.int .i64 i.zvz] 54)).heap.size):=(show _<_ from by simp)
 clear h hl
 go_enter Tryz.func91,Tryz.ntmps91
 go_upto_region 2 with (go_at_call 52;refine(H.out.textZ (by have:=HL.out;omega) i.key (by have:=HL.out;omega)).mono ?_;rintro e w1 ⟨rfl,hq,ht⟩;have HQ:=za hq;have HT:=za ht;clear hq ht)
 have B1:=(HT.out.block w.heap.size HSZ.out (fun e=>e (Or.inr rfl))).trans HB.out
 have b1:w1.cell? ⟨w.heap.size,1,none⟩=some (.int .i64 i.zvz):=(zh B1 1).trans rfl;have lb:=yo b1;have hwl1:=HQ.out.wlt;clear B1;have HLG:Hid (∀w2:World,w1.grownBy w2 none→Calls Tryz.prog 51 #[.pointer (some ⟨wb,0,none⟩),.int .u64 (i.zvz%18446744073709551616)] w2 (jm (fun k=>own k∨k=w.heap.size) wb (l++eID i) w2)):=(show ∀_,_→Calls _ _ _ _ _ from fun w2 hg=>by have:=(HQ.out.keep hg).longZ HLN.out i.zvz;rw[HE.out] at this;exact this)
 go_still_tail 6,(by kernel_rfl)
 go_wp2_with (go_at_call 51;refine(HLG.out _ (zf (zd _))).mono ?_;rintro e w2 ⟨rfl,hq,ht⟩;have HQ2:=za hq;have HT2:=za ht;clear hq ht)
 first|go_end0|refine bodyPost_ret (results_none rfl _ _ _) rfl ?_
 refine⟨rfl,HQ2.out.less fun k hk=>Or.inl hk,?_⟩
 refine(xy HG.out ((HT.out.trans (xy (zf (zd _)) HT2.out)).mono fun k hk ho=>hk (Or.inl ho)))
end
def zc7 (p:Int × yz):List Int:=e2 p.1++e8 p.2.zvy++e8 p.2.zvz++zf0 p.2.done++e2 p.2.code
def zew (p:ByteArray × Val):List Int:=eID ⟨p.1,p.2.zvz⟩++zf0 p.2.dead
def zdn (p:ID × xd):List Int:=eID p.1++e2 p.2.zvw++e8 p.2.zvy
theorem Qt (x:Int):(e2 x).length=2:=yn _ _
theorem Vz (x:Int):(e4 x).length=4:=yn _ _
theorem za8 (x:Int):(e8 x).length=8:=yn _ _
theorem zgt (b:Bool):(zf0 b).length=1:=yn _ _
theorem zqx (p:Int × yz):(zc7 p).length=21:=by simp[zc7,Qt,za8,zgt]
theorem zn1 (p:ByteArray × Val):(zew p).length=p.1.size+10:=by simp[zew,zag,zgt]
theorem zja (p:ID × xd):(zdn p).length=p.1.key.size+19:=by simp[zdn,zag,Qt,za8]
section
variable {own : Nat → Prop} {w wa wz : World} {wb g : Nat} {l : List Int}
theorem Qj (hg:w.grownBy wa none) (hq:WS (fun k=>own k∨k=g) wb l wz) (ht:yc (fun k=>¬(own k∨k=g)) wa wz):jm own wb l w (.returned (.tuple #[])) wz:=
 ⟨rfl,hq.less fun k hk=>Or.inl hk,xy hg (ht.mono fun k hk ho=>hk (Or.inl ho))⟩
theorem zc1 {o:Obj} (ht:yc (fun k=>¬(own k∨k=g)) wa wz) (hb:wa.heap[g]? = some o):wz.heap[g]? = some o:=
 (ht.block g (Array.getElem?_eq_some_iff.1 hb).1 (fun e=>e (Or.inr rfl))).trans hb
set_option maxRecDepth 100000 in
theorem by1_any (h:WS own wb l w) (n:Int) (c:yz) (hl:l.length≤90000):Calls Tryz.prog 86 #[.int .i64 n,.agg #[.int .i64 c.zvy,.int .i64 c.zvz,.bool c.done,.int .i64 c.code],.pointer (some ⟨wb,0,none⟩)] w (jm own wb (l++zc7 (n,c)) w):=by
 obtain⟨zvy,zvz,done,code⟩:=c;simp only;have HG:=za (zc w (.cells #[.int .i64 zvy,.int .i64 zvz,.bool done,.int .i64 code] 77) none);have HB:=za (heap_alloc_new w (.cells #[.int .i64 zvy,.int .i64 zvz,.bool done,.int .i64 code] 77));have H:=za (h.fresh HG.out w.heap.size (Nat.le_refl _) (by simp))
 have HE:Hid (l++e2 n++e8 zvy++e8 zvz++zf0 done++e2 code=l++zc7 (n,⟨zvy,zvz,done,code⟩)):=(show _=_ from by simp[zc7,List.append_assoc])
 have hl1:(l++e2 n).length≤90002:=by rw[List.length_append,Qt];omega
 have hl2:(l++e2 n++e8 zvy).length≤90010:=by rw[List.length_append,za8];omega
 have hl3:(l++e2 n++e8 zvy++e8 zvz).length≤90018:=by rw[List.length_append,za8];omega
 have hl4:(l++e2 n++e8 zvy++e8 zvz++zf0 done).length≤90019:=by rw[List.length_append,zgt];omega
 have HL:=za (And.intro hl (And.intro hl1 (And.intro hl2 (And.intro hl3 hl4))));clear h hl hl1 hl2 hl3 hl4
 go_enter Tryz.func86,Tryz.ntmps86
 go_upto_region 1 with fail
 generalize w.alloc (.cells #[.int .i64 zvy,.int .i64 zvz,.bool done,.int .i64 code] 77)=wa at *;generalize hgb:w.heap.size=gb at *;clear hgb;have hwl:=H.out.wlt
 go_upto_region 2 with (go_at_call 50;refine(H.out.shortZ (by have:=HL.out;omega) n).mono ?_;rintro e w1 ⟨rfl,hq,ht⟩;have HQ1:=za hq;have HT1:=za ht;clear hq ht)
 have hwl:=HQ1.out.wlt;have b0:w1.cell? ⟨gb,0,none⟩=some (.int .i64 zvy):=(zh (zc1 HT1.out HB.out) 0).trans rfl
 go_upto_region 3 with (go_at_call 51;refine(HQ1.out.longZ (by have:=HL.out;omega) zvy).mono ?_;rintro e w2 ⟨rfl,hq,ht⟩;have HQ2:=za hq;have HT2:=za (HT1.out.trans ht);clear hq ht b0)
 have hwl:=HQ2.out.wlt;have b1:w2.cell? ⟨gb,1,none⟩=some (.int .i64 zvz):=(zh (zc1 HT2.out HB.out) 1).trans rfl
 go_upto_region 4 with (go_at_call 51;refine(HQ2.out.longZ (by have:=HL.out;omega) zvz).mono ?_;rintro e w3 ⟨rfl,hq,ht⟩;have HQ3:=za hq;have HT3:=za (HT2.out.trans ht);clear hq ht b1)
 have hwl:=HQ3.out.wlt;have b2:w3.cell? ⟨gb,2,none⟩=some (.bool done):=(zh (zc1 HT3.out HB.out) 2).trans rfl
 go_upto_region 5 with (go_at_call 87;refine(HQ3.out.bitZ (by have:=HL.out;omega) done).mono ?_;rintro e w4 ⟨rfl,hq,ht⟩;have HQ4:=za hq;have HT4:=za (HT3.out.trans ht);clear hq ht b2)
 have hwl:=HQ4.out.wlt;have b3:w4.cell? ⟨gb,3,none⟩=some (.int .i64 code):=(zh (zc1 HT4.out HB.out) 3).trans rfl
 go_wp2_with (go_at_call 50;refine(HQ4.out.shortZ (by have:=HL.out;omega) code).mono ?_;rintro e w5 ⟨rfl,hq,ht⟩;have HQ5:=za hq;have HT5:=za (HT4.out.trans ht);clear hq ht b3)
 first|go_end0|refine bodyPost_ret (results_none rfl _ _ _) rfl ?_
 rw[←HE.out]
 exact Qj HG.out HQ5.out HT5.out
set_option maxRecDepth 100000 in
theorem by2_any (h:WS own wb l w) (s:ByteArray) (c:Val) (hl:l.length+s.size≤90000):Calls Tryz.prog 90 #[.string s,.agg #[.int .i64 c.zvz,.bool c.dead],.pointer (some ⟨wb,0,none⟩)] w (jm own wb (l++zew (s,c)) w):=by
 obtain⟨zvz,dead⟩:=c;simp only;have HG:=za (zc w (.cells #[.int .i64 zvz,.bool dead] 151) none);have HB:=za (heap_alloc_new w (.cells #[.int .i64 zvz,.bool dead] 151));have H:=za (h.fresh HG.out w.heap.size (Nat.le_refl _) (by simp))
 have HE:Hid (l++eID ⟨s,zvz⟩++zf0 dead=l++zew (s,⟨zvz,dead⟩)):=(show _=_ from by simp[zew,List.append_assoc])
 have hl1:(l++eID ⟨s,zvz⟩).length≤90009:=by rw[List.length_append,zag];simp only;omega
 have HL:=za (And.intro hl hl1);clear h hl hl1
 go_enter Tryz.func90,Tryz.ntmps90
 go_upto_region 1 with fail
 generalize w.alloc (.cells #[.int .i64 zvz,.bool dead] 151)=wa at *;generalize hgb:w.heap.size=gb at *;clear hgb;have hwl:=H.out.wlt;have b0:wa.cell? ⟨gb,0,none⟩=some (.int .i64 zvz):=(zh HB.out 0).trans rfl
 go_upto_region 2 with (go_at_call 91;refine(H.out.idZ ⟨s,zvz⟩ HL.out.1).mono ?_;rintro e w1 ⟨rfl,hq,ht⟩;have HQ1:=za hq;have HT1:=za ht;clear hq ht b0)
 have hwl:=HQ1.out.wlt;have b1:w1.cell? ⟨gb,1,none⟩=some (.bool dead):=(zh (zc1 HT1.out HB.out) 1).trans rfl
 go_wp2_with (go_at_call 87;refine(HQ1.out.bitZ (by have:=HL.out;omega) dead).mono ?_;rintro e w2 ⟨rfl,hq,ht⟩;have HQ2:=za hq;have HT2:=za (HT1.out.trans ht);clear hq ht b1)
 first|go_end0|refine bodyPost_ret (results_none rfl _ _ _) rfl ?_
 rw[←HE.out]
 exact Qj HG.out HQ2.out HT2.out
end
end Go.Proofs.YtjfelfjobeeenaaGreat
