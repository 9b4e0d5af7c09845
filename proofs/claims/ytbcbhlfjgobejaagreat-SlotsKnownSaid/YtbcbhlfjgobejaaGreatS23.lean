/- Behind Open's loop: what lies in memory; the records that are kept, key by key. Conditions: none, or as the theorems say. -/
import Derived.Test.YtbcbhlfjgobejaaGreatS17
import Derived.Test.YtbcbhlfjgobejaaGreatS20
import Derived.Test.YtbcbhlfjgobejaaGreatS22
import Derived.Maps.AppendAt
import Derived.Lib.AppendZeros
import Derived.Deep.RegionLaw
set_option linter.unusedSimpArgs false
set_option linter.unusedVariables false
namespace Go.Proofs.YtbcbhlfjgobejaaGreat
set_option maxHeartbeats 200000000
open Go.RowKit Go.Sf
variable {tmps:Array Value} {d:Dk} {Q:Exit→Act→World→Prop} {rv:Int→Value × Value} {xs:List Value} {B B19 b base db mb n st t tb:Nat} {own ownA rb rp:Nat→Prop} {S:Sto} {va vb:Value} {W W0 W3 X v w:World}
def xc (rows:List (zt × xr)) (S:Sto) (K:zt):Sto:=match zw rows K with
 | none=>S
 | some r=>if (zw S.recs K.k).isSome=true∨r.whole=false then S else S.kept K.k (vp r) (xo r)
def vj (rows:List (zt × xr)) (ks:List zt) (S:Sto):Sto:=ks.foldl (xc rows) S
theorem Yy (rows:List (zt × xr)):∀(ks:List zt) (S:Sto),(vj rows ks S).recs=Xm rows ks S.recs
 | [],S=>rfl
 | K :: t,S=>by
  unfold Xm
  show(vj rows t (xc rows S K)).recs=_
  rw[Yy rows t];unfold xc
  cases zw rows K with
  | none=>rfl
  | some r=>
   simp only
   split <;> rfl
theorem zg9 {rows:List (zt × xr)} {ks:List zt} {j:Nat} {K:zt} (h:ks[j]? = some K) (S:Sto):vj rows (ks.take (j+1)) S=xc rows (vj rows (ks.take j) S) K:=by
 obtain⟨h1,h2⟩:=List.getElem?_eq_some_iff.1 h;rw[List.take_succ_eq_append_getElem h1,h2];unfold vj;rw[List.foldl_append]
 rfl
theorem zm9 (rows:List (zt × xr)) (S:Sto) (K:zt):(xc rows S K).d=S.d∧(xc rows S K).next=S.next∧(xc rows S K).broken=S.broken:=by
 unfold xc
 cases zw rows K with
 | none=>exact⟨rfl,rfl,rfl⟩
 | some r=>simp only;split <;> exact⟨rfl,rfl,rfl⟩
theorem Xe (rows:List (zt × xr)):∀(ks:List zt) (S:Sto),(vj rows ks S).d=S.d∧(vj rows ks S).next=S.next∧(vj rows ks S).broken=S.broken
 | [],S=>⟨rfl,rfl,rfl⟩
 | K :: t,S=>by
  obtain⟨h1,h2,h3⟩:=Xe rows t (xc rows S K);obtain⟨g1,g2,g3⟩:=zm9 rows S K
  exact⟨h1.trans g1,h2.trans g2,h3.trans g3⟩
theorem zpe {K V:Type} [DecidableEq K] (m:List (K × V)) (k:K) (v:V):(yo m k v).length≤m.length+1:=by
 induction m with
 | nil=>simp[yo]
 | cons p t ih=>
  unfold yo
  split
  ·simp
  ·simp only[List.length_cons];omega
theorem zjc {C:List Int→Nat} {f:Nat→List Int} (n:Nat):(scanN C f n).rows.length≤n:=by
 induction n with
 | zero=>simp[scanN]
 | succ n ih=>
  unfold scanN scanStep
  cases saidP C (f n) with
  | none=>simp only;omega
  | some p=>simp only;have:=zpe (scanN C f n).rows ⟨p.k,p.count⟩ (ja ((zw (scanN C f n).rows ⟨p.k,p.count⟩).getD (uc p.count)) p.index (n,p.b));omega
theorem key_tri (a b:zt):Yl a b∨a=b∨Yl b a:=by
 unfold Yl
 rcases Int.lt_trichotomy a.k b.k with h|h|h
 ·exact Or.inl (Or.inl h)
 ·rcases Nat.lt_trichotomy a.count b.count with g|g|g
  ·exact Or.inl (Or.inr ⟨h,g⟩)
  ·right;left;cases a;cases b;simp_all
  ·exact Or.inr (Or.inr (Or.inr ⟨h.symm,g⟩))
 ·exact Or.inr (Or.inr (Or.inl h))
theorem zh7 {l:List zt} (h:zjz l) (hn:l.Nodup):l.Pairwise Yl:=by
 rw[List.pairwise_iff_getElem];intro i j hi hj hij;have h1:=h i j hij hj;rw[getElem!_pos l j hj,getElem!_pos l i hi] at h1
 rcases key_tri l[i] l[j] with g|g|g
 ·exact g
 ·exact absurd ((List.getElem_inj hn).1 g) (by omega)
 ·rw[(Qp _ _).2 g] at h1;cases h1
structure AF (own ownA:Nat→Prop) (W0:World) (db B:Nat) (L:Yh) (loc:zt→Nat × Nat × Nat) (rp:Nat→Prop) (rows:List (zt × xr)) (gk:Nat) (ks:List zt) (X:World):Prop where
 b2:X.heap[L.b2]? = some (.cells #[.pointer none] 24 (0,0))
 b3:X.heap[L.b3]? = some (.cells #[.int .i64 0] 25 (0,0))
 b4:X.heap[L.b4]? = some (.cells #[.pointer (some ⟨L.st,0,none⟩)] 24 (0,0))
 b5:X.heap[L.b5]? = some (.cells #[.map (some L.mr)] 133 (0,0))
 dB:X.heap[B]? = some (.deferred (some []))
 a2:ownA L.b2∧ownA L.b3∧ownA L.b4∧ownA L.b5∧ownA B
 ne:L.b2≠L.b3∧L.b2<B∧L.b3<B
 rows:qw ownA (B+2) X L.mr loc rp rows
 rlt:∀k,rp k→k<X.heap.size
 ks:∀j K,ks[j]? = some K→ownA gk∧X.cell? ⟨gk,j*2,none⟩=some (.int .i64 K.k)∧X.cell? ⟨gk,j*2+1,none⟩=some (.int .i64 (K.count:Int))
 turn:zm (λk=>¬own k) W0 X
 sub:∀k,own k→ownA k
 oB:∀k,own k→k<B∧k≠L.b2∧k≠L.b3
 lt:∀k,ownA k→k<X.heap.size
section
variable {own ownA : Nat → Prop} {W0 : World} {db B N : Nat} {L : Yh} {loc : zt → Nat × Nat × Nat} {rp P : Nat → Prop} {rows : List (zt × xr)} {gk : Nat} {ks : List zt} {X Y : World} {next : Int} {scr : Bool} {dk : Dk}
theorem AF.turned (h:AF own ownA W0 db B L loc rp rows gk ks X) (ht:zm (λk=>¬ownA k) X Y):AF own ownA W0 db B L loc rp rows gk ks Y:=by
 have hb:∀k,ownA k→Y.heap[k]? = X.heap[k]?:=λk hk=>ht.block k (h.lt k hk) (λe=>e hk)
 refine⟨(hb _ h.a2.1).trans h.b2,(hb _ h.a2.2.1).trans h.b3,(hb _ h.a2.2.2.1).trans h.b4,(hb _ h.a2.2.2.2.1).trans h.b5,(hb _ h.a2.2.2.2.2).trans h.dB,h.a2,h.ne,h.rows.turn λk hk _=>hb k hk,λk hk=>Nat.lt_of_lt_of_le (h.rlt k hk) ht.size,λj K hj=>?_,h.turn.trans (ht.mono λk hk ho=>hk (h.sub k ho)),h.sub,h.oB,λk hk=>Nat.lt_of_lt_of_le (h.lt k hk) ht.size⟩
 obtain⟨q1,q2,q3⟩:=h.ks j K hj
 exact⟨q1,(World.cell?_of_block (hb _ q1)).trans q2,(World.cell?_of_block (hb _ q1)).trans q3⟩
theorem Ji (A:Nat→Prop) (hg:X.grownBy Y none):zm A X Y:=⟨hg.os,hg.tape,hg.output,hg.size,λk hk _=>hg.block k hk (by simp)⟩
theorem AF.grown (h:AF own ownA W0 db B L loc rp rows gk ks X) (hg:X.grownBy Y none):AF own ownA W0 db B L loc rp rows gk ks Y:=h.turned (Ji _ hg)
theorem zpl (h:OM own db N B L P loc rp rows next scr dk X) (h1:1≤next) (h2:next≤4611686018427387905) :
  SAt (λk=>P k∧k≠L.st∧k≠L.mb∧k≠L.tb) X L.st db L.mb L.tb (λ_=>(.slice none 0 0,.slice none 0 0)) (λ_=>False) ⟨dk,[],List.replicate N false,next,0⟩:=by
 refine⟨?_,⟨#[],0,h.mb,MapKept.stamped_empty 0,rfl⟩,λr hr=>by simp at hr,h.tb,h.disk.less λk hk=>?_,λk hk=>⟨hk.2.1,hk.2.2.1,hk.2.2.2,λe=>e⟩,λk hk=>hk.elim,⟨by simp[h.nn],λr hr=>by simp at hr,λr hr=>by simp at hr,h1,h2⟩⟩
 ·have:=h.st
  simpa using this
 ·rcases hk with e|e|e|e|e
  ·exact e.1
  ·rw[e];exact(h.lP _ L.mems.2.2.2.2.2.2.2.1).1
  ·rw[e];exact(h.lP _ L.mems.2.2.2.2.2.2.2.2.1).1
  ·rw[e];exact(h.lP _ L.mems.2.2.2.2.2.2.2.2.2.1).1
  ·exact e.elim
theorem om_af (h:OM own db N B L P loc rp rows next scr dk X) (hB:X.heap[B]? = some (.deferred (some []))) (ht:zm (λk=>¬own k) W0 X) (hown:∀k,own k→k<B∧∀j∈L.all,k≠j)
 (hks:∀j K,ks[j]? = some K→(P gk∧B+2≤gk)∧X.cell? ⟨gk,j*2,none⟩=some (.int .i64 K.k)∧X.cell? ⟨gk,j*2+1,none⟩=some (.int .i64 (K.count:Int))) :
  AF own (λk=>P k∧k≠L.st∧k≠L.mb∧k≠L.tb) W0 db B L loc rp rows gk ks X:=by
 obtain⟨m1,m2,m3,m4,m5,m6,m7,m8,m9,m10,m11⟩:=L.mems;have big:∀k,B≤k→k≠L.st∧k≠L.mb∧k≠L.tb:=λk hk=>by
  have q1:=(h.lP _ m8).2;have q2:=(h.lP _ m9).2;have q3:=(h.lP _ m10).2;omega
 refine⟨h.b2,h.b3,h.b4,h.b5,hB,⟨⟨(h.lP _ m2).1,xu h.nd 1 7 rfl rfl (by decide),xu h.nd 1 8 rfl rfl (by decide),xu h.nd 1 9 rfl rfl (by decide)⟩,⟨(h.lP _ m3).1,xu h.nd 2 7 rfl rfl (by decide),xu h.nd 2 8 rfl rfl (by decide),xu h.nd 2 9 rfl rfl (by decide)⟩,⟨(h.lP _ m4).1,xu h.nd 3 7 rfl rfl (by decide),xu h.nd 3 8 rfl rfl (by decide),xu h.nd 3 9 rfl rfl (by decide)⟩,⟨(h.lP _ m5).1,xu h.nd 4 7 rfl rfl (by decide),xu h.nd 4 8 rfl rfl (by decide),xu h.nd 4 9 rfl rfl (by decide)⟩,⟨h.pB.1,big B (Nat.le_refl _)⟩⟩,
  ⟨xu h.nd 1 2 rfl rfl (by decide),(h.lP _ m2).2,(h.lP _ m3).2⟩,⟨h.rows.map,h.rows.row,h.rows.ne,h.rows.apart,λK r hr k hk=>?_,λk hk=>?_,?_,h.rows.low⟩,h.rlt,λj K hj=>?_,ht,λk ho=>⟨h.ownP k ho,(hown k ho).2 _ m8,(hown k ho).2 _ m9,(hown k ho).2 _ m10⟩,λk ho=>⟨(hown k ho).1,(hown k ho).2 _ m2,(hown k ho).2 _ m3⟩,λk hk=>h.P_lt hk.1⟩
 ·obtain⟨q1,q2,q3⟩:=h.rows.free K r hr k hk
  exact⟨q1,⟨q2,big k (by omega)⟩,q3⟩
 ·obtain⟨q1,q2⟩:=h.rows.parts k hk
  exact⟨⟨q1,big k (by omega)⟩,q2⟩
 ·exact⟨h.rows.mine,xu h.nd 10 7 rfl rfl (by decide),xu h.nd 10 8 rfl rfl (by decide),xu h.nd 10 9 rfl rfl (by decide)⟩
 ·obtain⟨⟨q1,q2⟩,q3,q4⟩:=hks j K hj
  exact⟨⟨q1,big gk (by omega)⟩,q3,q4⟩
end
noncomputable def Dk.opened (d:Dk):Dk × Int:=if (opnD d d.n).2.1≠0 then ((opnD d d.n).1,(opnD d d.n).2.1) else if (opnD d d.n).2.2=true then ((opnD d d.n).1.synced,(opnD d d.n).1.syncV) else ((opnD d d.n).1,0)
noncomputable def openS (d:Dk) (ks:List zt):Sto:=vj (scanN zo (bk d.now) d.n).rows ks ⟨d.opened.1,[],List.replicate d.n false,(scanN zo (bk d.now) d.n).next,0⟩
def jc (d:Dk) (ks:List zt):Prop:=(∀K,K∈ks↔∃r,zw (scanN zo (bk d.now) d.n).rows K=some r)∧ks.Pairwise Yl
def Yw (own:Nat→Prop) (W0:World) (db:Nat) (d:Dk) (e:Ending) (w':World):Prop:=
 zm (λk=>¬own k) W0 w'∧((d.opened.2≠0∧e = .returned (.tuple #[.pointer none,.int .i64 d.opened.2])∧vk own w' db d.opened.1)∨
  (d.opened.2=0∧∃st ks,e = .returned (.tuple #[.pointer (some ⟨st,0,none⟩),.int .i64 0])∧jc d ks∧Jk own w' st db (openS d ks)))
theorem Qf {fn:Func} {p q:Tmp} (h:fn.results = #[.cell p 24,.cell q 25]) (tmps:Array Value) (w:World) (a b:Nat) (v0:Option Addr) (v1:Int) (hp:tmps.getD p undef = .pointer (some ⟨a,0,none⟩)) (hq:tmps.getD q undef = .pointer (some ⟨b,0,none⟩))
 (h0:w.heap[a]? = some (.cells #[.pointer v0] 24 (0,0))) (h1:w.heap[b]? = some (.cells #[.int .i64 v1] 25 (0,0))):(results fn tmps).run Tryz.prog w = .ok (.tuple #[.pointer v0,.int .i64 v1]) w:=by
 have c0:w.cell? ⟨a,0,none⟩=some (.pointer v0):=(zf h0 0).trans rfl;have c1:w.cell? ⟨b,0,none⟩=some (.int .i64 v1):=(zf h1 0).trans rfl;have hp':tmps[p]?.getD undef = .pointer (some ⟨a,0,none⟩):=by simpa using hp
 have hq':tmps[q]?.getD undef = .pointer (some ⟨b,0,none⟩):=by simpa using hq
 simp[results,h,hp',hq',asAddr,go_sem,c0,c1]
theorem Jm {R:Ending→World→Prop} {a:Nat} {v0:Option Addr} {v1:Int} (hK:X.heap[B]? = some (.deferred (some []))) (hp:tmps.getD 2 undef = .pointer (some ⟨a,0,none⟩)) (hq:tmps.getD 3 undef = .pointer (some ⟨b,0,none⟩))
 (h0:X.heap[a]? = some (.cells #[.pointer v0] 24 (0,0))) (h1:X.heap[b]? = some (.cells #[.int .i64 v1] 25 (0,0))) (hR:∀o,R (.returned (.tuple #[.pointer v0,.int .i64 v1])) (X.putObj B o)) :
  bodyPostM Fence.wide 5 Tryz.prog Tryz.f18 R .ret { tmps:=tmps,defers:=[{ target:=.collected B,args:=#[] }] } X:=by
 have na:B≠a:=λe=>by subst e;rw[hK] at h0;cases h0
 have nb:B≠b:=λe=>by subst e;rw[hK] at h1;cases h1
 refine⟨by simp,.inl ⟨_,_,rfl,run_takeDeferred hK,?_⟩⟩
 exact⟨_,Qf rfl _ _ a b v0 v1 hp hq ((World.putObj_heap_other (by first|exact na|exact Ne.symm na)).trans h0) ((World.putObj_heap_other (by first|exact nb|exact Ne.symm nb)).trans h1),hR _⟩
theorem zn1 {L:Yh} {c:Code} (h:OX own W0 db d B L c X) (hK:X.heap[B]? = some (.deferred (some []))) (hB:∀k,own k→k<B) (hp:tmps.getD 2 undef = .pointer (some ⟨L.b2,0,none⟩)) (hq:tmps.getD 3 undef = .pointer (some ⟨L.b3,0,none⟩)) :
  bodyPostM Fence.wide 5 Tryz.prog Tryz.f18 (Yw own W0 db d) .ret { tmps:=tmps,defers:=[{ target:=.collected B,args:=#[] }] } X:=by
 obtain⟨P,q1,q2,q3,q4⟩:=h.disk;have ho:d.opened=((opnD d d.n).1,(opnD d d.n).2.1):=by unfold Dk.opened;rw[if_pos h.bad]
 refine Jm hK hp hq h.b2.1 h.b3.1 λo=>⟨h.turn.trans ((jv X B o).mono λk hk ho=>by have:=hB k ho;omega),Or.inl ⟨by rw[ho];exact h.bad,by rw[ho],?_⟩⟩
 rw[ho]
 exact(q1.turn ((jv X B o).mono λk hk=>by rw[hk];exact q3)).less q2
def noP (Q:Exit→Act→World→Prop):Exit→Act→World→Prop
 | .normal,a,w=>Q .normal a w
 | .ret,a,w=>Q .ret a w
 | _,_,_=>False
theorem noP_le:∀e a w,noP Q e a w→Q e a w:=λe a w h=>by cases e <;> first|exact h|exact h.elim
theorem zg8 {rows:List (zt × xr)} {K:zt} (h:(zw S.recs K.k).isSome=true):xc rows S K=S:=by
 unfold xc
 cases zw rows K with
 | none=>rfl
 | some r=>simp only;rw[if_pos (Or.inl h)]
theorem zg7 {rows:List (zt × xr)} {K:zt} {r:xr} (hr:zw rows K=some r) (h:r.whole=false):xc rows S K=S:=by
 unfold xc;rw[hr];simp only;rw[if_pos (Or.inr h)]
theorem ziu {rows:List (zt × xr)} {K:zt} {r:xr} (hr:zw rows K=some r) (hn:(zw S.recs K.k).isSome=false) (h:r.whole=true):xc rows S K=S.kept K.k (vp r) (xo r):=by
 unfold xc;rw[hr];simp only;rw[if_neg (by simp[hn,h])]
theorem znc (h:SAt own W st db mb tb rv rb S) (k:Int):∃(p1:Option Addr) (n1 c1:Nat) (p2:Option Addr) (n2 c2:Nat),∀W':World,W'.heap[mb]? = W.heap[mb]?→(Instr.lookup 129 (.map (some mb)) (.int .i64 k) true).run Tryz.prog W' = .ok (.tuple #[.agg #[.slice p1 n1 c1,.slice p2 n2 c2],.bool (zw S.recs k).isSome]) W':=by
 have hm:=λ(W':World) (hs:W'.heap[mb]? = W.heap[mb]?)=>(h.recs.same hs).lookup (P:=Tryz.prog) zdr Tryz.underlying129 (zbd W') k true
 have e:=zdw (λk (r:List Int × List Nat)=>rv k) S.recs k
 simp only[e] at hm
 cases hg:zw S.recs k with
 | none=>
  rw[hg] at hm
  exact⟨none,0,0,none,0,0,hm⟩
 | some r=>
  rw[hg] at hm;obtain⟨h1,h2⟩:=h.rows (k,r) (qj hg);obtain⟨p1,c1,e1,-⟩:=h1.ex;obtain⟨p2,c2,e2,-⟩:=h2.ex;refine⟨p1,(zg r.1).length,c1,p2,(jj r.2).length,c2,λW' hs=>?_⟩
  rw[←e1,←e2]
  exact hm W' hs
theorem zgy {v:Value} {l:List zt} (h:zj0 base w v l):∃p gk cap,v = .slice p l.length cap∧(l = []∨(p=some ⟨gk,0,none⟩∧base≤gk∧gk<w.heap.size))∧∀j K,l[j]? = some K→(base≤gk∧gk<w.heap.size)∧w.cell? ⟨gk,j*2,none⟩=some (.int .i64 K.k)∧w.cell? ⟨gk,j*2+1,none⟩=some (.int .i64 (K.count:Int)):=by
 have hlt:=@World.ownsRow.lt _ _ _ _ _ _ _ h;have hc:=λg=>@World.ownsRow.cells _ _ _ _ _ _ _ h g
 rcases h.2 with ⟨e,h0⟩|⟨g,cap,cur,e,hb,hg,r⟩
 ·have:l = []:=List.eq_nil_of_length_eq_zero h0
  subst this
  exact⟨none,0,0,by rw[e];rfl,Or.inl rfl,λj K hj=>by simp at hj⟩
 ·subst e
  obtain⟨l1,l2⟩:=hlt g rfl;refine⟨some ⟨g,0,none⟩,g,cap,rfl,Or.inr ⟨rfl,l1,l2⟩,λj K hj=>⟨⟨l1,l2⟩,?_,?_⟩⟩
  all_goals
   have hj1:=(List.getElem?_eq_some_iff.1 hj).1;have hf:=zbi l
  ·have:=hc g rfl (j*2) (.int .i64 K.k) (by
    have:=hf (j*2) (by omega)
    rw[this];have e1:j*2 / 2=j:=by omega
    have e2:j*2%2=0:=by omega
    rw[e1,e2,getElem!_pos l j hj1];have:=(List.getElem?_eq_some_iff.1 hj).2;rw[this]
    rfl)
   rwa [ut] at this
  ·have:=hc g rfl (j*2+1) (.int .i64 (K.count:Int)) (by
    have:=hf (j*2+1) (by omega)
    rw[this];have e1:(j*2+1) / 2=j:=by omega
    have e2:(j*2+1)%2=1:=by omega
    rw[e1,e2,getElem!_pos l j hj1];have:=(List.getElem?_eq_some_iff.1 hj).2;rw[this]
    rfl)
   rwa [ut] at this
open Go.RowKit Go.Sf Go.Shelf
theorem Zl {e:TypeId} {size:Nat} {v:Value} (h:W.ownsRow base e size v n xs) {g:Nat} (hg:v.ownBlock=some g):(∃c,W.heap[g]? = some (.cells c e (0,0)))∧base≤g:=by
 rcases h.2 with ⟨rfl,_⟩|⟨b,cap,cur,rfl,hb0,hb,_⟩
 ·simp[Value.ownBlock] at hg
 ·simp[Value.ownBlock] at hg
  subst hg
  exact⟨⟨_,hb⟩,hb0⟩
theorem zge {ops:Array Oper} {o:Oper} {a:Act} {K:Act→World→Prop} {F:Prop} (hgd:o.guard=none) (s x:Operand) (t:TypeId) (hop:o.op=Op.call { callee:=Callee.builtin Builtin.append,args:=#[s,x],argTypes:=#[t,t] })
 {E:TypeId} (z:Value) (bytes:Nat) (ht:Tryz.prog.underlying t=some (.slice E)) (hi:(Tryz.prog.info? E).map (λi=>(i.zero,i.size,i.bytes))=some (some z,1,bytes)) (hzs:z.cells.size=1) (hb:bytes≤1000)
 {m c:Nat} {v:Value} {p:Option Addr} {news:List Value} (hs:a.eval s=v) (h:w.ownsRow base E 1 v n xs) (hx:a.eval x = .slice p m c) (hm:news.length=m) (hy:news = []∨∃ad,p=some ad∧∀j u,news[j]? = some u→w.cell? (ad.add j)=some u) (h1c:∀u∈news,u.oneCell'=true) (hl:n+m≤1000000000) (hbase:base≤w.heap.size)
 (hK:∀p' cap' w',w'.ownsRow base E 1 (.slice p' (n+m) cap') (n+m) (xs++news)→w.grownBy w' v.ownBlock→K (a.put o.dst (.slice p' (n+m) cap')) w'):if Region.wanted o (yielded ops a.tmps)=true then Oper.wp Tryz.prog o a w K Q else F:=by
 have hw:Region.wanted o (yielded ops a.tmps)=true:=by simp[Region.wanted,hgd]
 rw[if_pos hw];obtain⟨i,hi1,hz1,hz2,hz3⟩:=info_parts hi;have hbm:(n+m)*bytes≤140737488355328:=Nat.le_trans (Nat.mul_le_mul_left _ hb) (by omega)
 have fin:∀(v':Value) (w':World),(Builtin.append_ #[t,t] o.type #[v,.slice p m c]).run Tryz.prog w = .ok v' w'→w'.ownsRow base E 1 v' (n+m) (xs++news)→w.grownBy w' v.ownBlock→Oper.wp Tryz.prog o a w K Q:=λv' w' hr h2 h3=>by
  obtain⟨p',cap',rfl⟩:∃p' cap',v' = .slice p' (n+m) cap':=by
   rcases h2.2 with ⟨e,h0⟩|⟨g,cc,cur,e,_⟩
   ·exact⟨none,0,by rw[e,h0]⟩
   ·exact⟨_,_,e⟩
  exact Go.Lib.wp_append_run w s x t t hop v _ hs hx _ _ hr (hK p' cap' w' h2 h3)
 cases p with
 | none=>
  have h0:news = []:=by
   rcases hy with h0|⟨ad,ha,_⟩
   ·exact h0
   ·cases ha
  subst h0;simp only[List.length_nil] at hm;subst hm;have e0:(Builtin.append_ #[t,t] o.type #[v,.slice none 0 c]).run Tryz.prog w = .ok v w:=by
   rcases h.2 with ⟨rfl,h0⟩|⟨g,c',cur,rfl,_,_,hnc,_⟩
   ·simp[Builtin.append_,run_underlying ht,sizeOf,typeInfo,hi1,Builtin.lenOf,Builtin.firstCells,h0]
   ·simp[Builtin.append_,run_underlying ht,sizeOf,typeInfo,hi1,Builtin.lenOf,Builtin.firstCells,hnc,storeCells]
  exact fin v w e0 (by rw[List.append_nil];exact h) ⟨rfl,rfl,rfl,Nat.le_refl _,λ_ _ _=>rfl⟩
 | some ad=>
  have hnews:∀j u,news[j]? = some u→w.cell? (ad.add j)=some u:=by
   rcases hy with h0|⟨ad',ha,hc⟩
   ·subst h0;intro j u hu;simp at hu
   ·cases ha;exact hc
  obtain⟨v',w',hr,h2,h3,h4,h5⟩:=run_append_own_at (P:=Tryz.prog) w base t o.type E i z 1 bytes ht hi1 hz1 hz2 hz3 hzs (by omega) v n xs h ad m c news (by omega) hnews h1c (by unfold maxLen;omega) hbm hbase
  exact fin v' w' hr h2 h3
structure RX (rp:Nat→Prop) (W3:World) (B19 B21:Nat) (va vb ra rb:Value) (ba:List Int) (ib:List Nat) (c:Nat × Value × List Int) (v:World):Prop where
 gr:W3.grownBy v none
 lo:W3.heap.size≤B19∧B19<B21
 box:v.heap[B19]? = some (.cells #[va,vb] 158 (0,0))
 bytes:v.ownsRow (B19+1) 5 1 ra ba.length (zg ba)
 ints:v.ownsRow (B19+1) 3 1 rb ib.length (jj ib)
 x:v.heap[B21]? = some (.cells #[.int .i64 (c.1:Int),c.2.1] 146 (0,0))
 src:xw rp v c.2.1 (zg c.2.2)
 rlt:∀k,rp k→k<W3.heap.size
section
variable {rp : Nat → Prop} {W3 : World} {B19 B21 : Nat} {va vb ra rb : Value} {ba : List Int} {ib : List Nat} {c : Nat × Value × List Int} {v v' : World}
theorem RX.grown (h:RX rp W3 B19 B21 va vb ra rb ba ib c v) (hg:v.grownBy v' none):RX rp W3 B19 B21 va vb ra rb ba ib c v':=
 ⟨zh h.gr hg,h.lo,(hg.block _ (Array.getElem?_eq_some_iff.1 h.box).1 (by simp)).trans h.box,qm h.bytes λg hgb=>hg.block g (own_lt h.bytes hgb) (by simp),qm h.ints λg hgb=>hg.block g (own_lt h.ints hgb) (by simp),(hg.block _ (Array.getElem?_eq_some_iff.1 h.x).1 (by simp)).trans h.x,h.src.turn λk hk=>hg.block k (Nat.lt_of_lt_of_le (h.rlt k hk) h.gr.size) (by simp),h.rlt⟩
theorem RX.app (h:RX rp W3 B19 B21 va vb ra rb ba ib c v) {ra':Value} {ba':List Int} (hg:v.grownBy v' ra.ownBlock) (hr:v'.ownsRow (B19+1) 5 1 ra' ba'.length (zg ba')):RX rp W3 B19 B21 va vb ra' rb ba' ib c v':=by
 have hne:∀k o,v.heap[k]? = some o→(∀c',o≠Obj.cells c' 5 (0,0))→v'.heap[k]? = v.heap[k]?:=λk o hk ho=>hg.block k (Array.getElem?_eq_some_iff.1 hk).1 (λe=>by
  obtain⟨⟨c',hc⟩,_⟩:=Zl h.bytes e.symm;rw[hk] at hc
  injection hc with hc
  exact ho c' hc)
 refine⟨zbj h.gr hg λk e=>by have:=(Zl h.bytes e).2;have:=h.lo.1;omega,h.lo,(hne _ _ h.box λc' e=>by injection e with _ e;exact absurd e (by decide)).trans h.box,hr,qm h.ints λg hgb=>?_,(hne _ _ h.x λc' e=>by injection e with _ e;exact absurd e (by decide)).trans h.x,h.src.turn λk hk=>hg.block k (Nat.lt_of_lt_of_le (h.rlt k hk) h.gr.size) (λe=>by have:=(Zl h.bytes e.symm).2;have:=h.rlt k hk;have:=h.lo.1;omega),h.rlt⟩
 obtain⟨⟨c',hc⟩,_⟩:=Zl h.ints hgb
 exact hne _ _ hc λc'' e=>by injection e with _ e;exact absurd e (by decide)
theorem RX.app_keeps (h:RX rp W3 B19 B21 va vb ra rb ba ib c v) (hg:v.grownBy v' ra.ownBlock) {k:Nat} {o:Obj} (hk:v.heap[k]? = some o) (ho:∀c',o≠Obj.cells c' 5 (0,0)):v'.heap[k]? = some o:=
 (hg.block k (Array.getElem?_eq_some_iff.1 hk).1 (λe=>by
  obtain⟨⟨c',hc⟩,_⟩:=Zl h.bytes e.symm;rw[hk] at hc
  injection hc with hc
  exact ho c' hc)).trans hk
theorem bs_cell {n:Int} {T:TypeId} (h:w.heap[b]? = some (.cells #[.int .i64 n] T (0,0))) (j:Nat) (u:Value) (hu:([.int .i64 n]:List Value)[j]? = some u):w.cell? ((⟨b,0,none⟩:Addr).add j)=some u:=by
 match j,hu with
 | 0,hu=>simp at hu;subst hu;rw[ut];exact(zf h 0).trans rfl
 | j+1,hu=>simp at hu
theorem flat_le {l:List (Nat × List Int)} (h:∀c∈l,c.2.length≤230):(l.flatMap (·.2)).length≤l.length*230:=by
 induction l with
 | nil=>simp
 | cons x t ih=>
  have h1:=h x (by simp)
  have h2:=ih λc hc=>h c (List.mem_cons_of_mem _ hc)
  simp only[List.flatMap_cons,List.length_append,List.length_cons];omega
theorem RX.appi (h:RX rp W3 B19 B21 va vb ra rb ba ib c v) {rb':Value} {ib':List Nat} (hg:v.grownBy v' rb.ownBlock) (hr:v'.ownsRow (B19+1) 3 1 rb' ib'.length (jj ib')):RX rp W3 B19 B21 va vb ra rb' ba ib' c v':=by
 have hne:∀k o,v.heap[k]? = some o→(∀c',o≠Obj.cells c' 3 (0,0))→v'.heap[k]? = v.heap[k]?:=λk o hk ho=>hg.block k (Array.getElem?_eq_some_iff.1 hk).1 (λe=>by
  obtain⟨⟨c',hc⟩,_⟩:=Zl h.ints e.symm;rw[hk] at hc
  injection hc with hc
  exact ho c' hc)
 refine⟨zbj h.gr hg λk e=>by have:=(Zl h.ints e).2;have:=h.lo.1;omega,h.lo,(hne _ _ h.box λc' e=>by injection e with _ e;exact absurd e (by decide)).trans h.box,qm h.bytes λg hgb=>?_,hr,(hne _ _ h.x λc' e=>by injection e with _ e;exact absurd e (by decide)).trans h.x,h.src.turn λk hk=>hg.block k (Nat.lt_of_lt_of_le (h.rlt k hk) h.gr.size) (λe=>by have:=(Zl h.ints e.symm).2;have:=h.rlt k hk;have:=h.lo.1;omega),h.rlt⟩
 obtain⟨⟨c',hc⟩,_⟩:=Zl h.bytes hgb
 exact hne _ _ hc λc'' e=>by injection e with _ e;exact absurd e (by decide)
theorem RX.set (h:RX rp W3 B19 B21 va vb ra rb ba ib c v) (i:Nat) (u va' vb':Value) (hb:(#[va,vb]:Array Value).setIfInBounds i u = #[va',vb']):RX rp W3 B19 B21 va' vb' ra rb ba ib c (v.setCell ⟨B19,i,none⟩ u):=by
 have ht:=yh v B19 i u;have hne:∀k,k<v.heap.size→k≠B19→(v.setCell ⟨B19,i,none⟩ u).heap[k]? = v.heap[k]?:=λk hk hn=>ht.block k hk hn
 refine⟨yi h.gr h.lo.1 u,h.lo,?_,qm h.bytes λg hgb=>hne g (own_lt h.bytes hgb) (by have:=(Zl h.bytes hgb).2;omega),qm h.ints λg hgb=>hne g (own_lt h.ints hgb) (by have:=(Zl h.ints hgb).2;omega),(hne B21 (Array.getElem?_eq_some_iff.1 h.x).1 (by have:=h.lo.2;omega)).trans h.x,h.src.turn λk hk=>hne k (Nat.lt_of_lt_of_le (h.rlt k hk) h.gr.size) (by have:=h.rlt k hk;have:=h.lo.1;omega),h.rlt⟩
 simp[World.setCell,Array.getElem?_modify,h.box,hb]
end
theorem zjl:∀(cs:List (Nat × Value × List Int)) (t:Nat) (c:Nat × Value × List Int),cs[t]? = some c→(cs.flatMap ym)[t*2]? = some (.int .i64 (c.1:Int))∧(cs.flatMap ym)[t*2+1]? = some c.2.1
 | [],t,c,h=>by simp at h
 | x :: r,0,c,h=>by simp at h;subst h;exact⟨rfl,rfl⟩
 | x :: r,t+1,c,h=>by
  have ih:=zjl r t c (by simpa using h)
  have e1:(t+1)*2=t*2+2:=by omega
  rw[List.flatMap_cons,e1]
  exact⟨ih.1,ih.2⟩
structure RI (W3:World) (B19:Nat) (r:xr) (t:Nat) (va vb:Value) (v:World):Prop where
 gr:W3.grownBy v none
 lo:W3.heap.size≤B19
 box:v.heap[B19]? = some (.cells #[va,vb] 158 (0,0))
 bytes:v.ownsRow (B19+1) 5 1 va ((r.cells.take t).flatMap (·.2)).length (zg ((r.cells.take t).flatMap (·.2)))
 ints:v.ownsRow (B19+1) 3 1 vb ((r.cells.take t).map (·.1)).length (jj ((r.cells.take t).map (·.1)))
theorem RI.start (W3:World) (r:xr):RI W3 W3.heap.size r 0 (.slice none 0 0) (.slice none 0 0) (W3.alloc (.cells #[.slice none 0 0,.slice none 0 0] 158)):=
 ⟨ze _ _ _,Nat.le_refl _,heap_alloc_new _ _,World.ownsRow_nil _ _ _ _,World.ownsRow_nil _ _ _ _⟩
theorem RI.form {r:xr} (h:RI W3 B19 r t va vb v):(∃p c,va = .slice p ((r.cells.take t).flatMap (·.2)).length c)∧∃p c,vb = .slice p ((r.cells.take t).map (·.1)).length c:=by
 constructor
 ·rcases h.bytes.2 with ⟨e,h0⟩|⟨g,c,cur,e,_⟩
  ·exact⟨none,0,by rw[e,h0]⟩
  ·exact⟨_,_,e⟩
 ·rcases h.ints.2 with ⟨e,h0⟩|⟨g,c,cur,e,_⟩
  ·exact⟨none,0,by rw[e,h0]⟩
  ·exact⟨_,_,e⟩
theorem RI.part {r:xr} (h:RI W3 B19 r t va vb v) {c:Nat × Value × List Int} (hs:xw rp W3 c.2.1 (zg c.2.2)) (hr:∀k,rp k→k<W3.heap.size):RX rp W3 B19 v.heap.size va vb va vb ((r.cells.take t).flatMap (·.2)) ((r.cells.take t).map (·.1)) c (v.alloc (.cells #[.int .i64 (c.1:Int),c.2.1] 146)):=by
 have hg:=ze v (.cells #[.int .i64 (c.1:Int),c.2.1] 146) none;have hb:=(Array.getElem?_eq_some_iff.1 h.box).1
 exact⟨zh h.gr hg,⟨h.lo,hb⟩,(hg.block _ hb (by simp)).trans h.box,qm h.bytes λg hgb=>hg.block g (own_lt h.bytes hgb) (by simp),qm h.ints λg hgb=>hg.block g (own_lt h.ints hgb) (by simp),heap_alloc_new _ _,hs.turn λk hk=>(zh h.gr hg).block k (hr k hk) (by simp),hr⟩
theorem RI.next {B21:Nat} {r:xr} {c:Nat × Value × List Int} (h:RX rp W3 B19 B21 va vb va vb ((r.cells.take t).flatMap (·.2)++c.2.2) ((r.cells.take t).map (·.1) ++ [c.1]) c v) (hc:r.cells[t]? = some (c.1,c.2.2)):RI W3 B19 r (t+1) va vb v:=by
 obtain⟨h1,h2⟩:=List.getElem?_eq_some_iff.1 hc;have e:r.cells.take (t+1)=r.cells.take t ++ [(c.1,c.2.2)]:=by rw[List.take_succ_eq_append_getElem h1,h2]
 have e1:(r.cells.take (t+1)).flatMap (·.2)=(r.cells.take t).flatMap (·.2)++c.2.2:=by rw[e];simp
 have e2:(r.cells.take (t+1)).map (·.1)=(r.cells.take t).map (·.1) ++ [c.1]:=by rw[e];simp
 exact⟨h.gr,h.lo.1,h.box,by rw[e1];exact h.bytes,by rw[e2];exact h.ints⟩
theorem SAt.others {W':World} (h:SAt own W st db mb tb rv rb S) (ht:zm own W W'):SAt own W' st db mb tb rv rb S where
 box:=(ht.block st h.st_lt (λe=>(h.away _ e).1 rfl)).trans h.box
 recs:=h.recs.same (ht.block mb h.mb_lt (λe=>(h.away _ e).2.1 rfl))
 rows:=λr hr=>⟨(h.rows r hr).1.turn λk hk=>ht.block k (h.rb_lt hk) (λe=>(h.away _ e).2.2.2 hk),(h.rows r hr).2.turn λk hk=>ht.block k (h.rb_lt hk) (λe=>(h.away _ e).2.2.2 hk)⟩
 tak:=(ht.block tb h.tb_lt (λe=>(h.away _ e).2.2.1 rfl)).trans h.tak
 disk:=h.disk.turn (ht.mono λk hk=>Or.inl hk)
 away:=h.away
 rbs:=h.rbs
 ok:=h.ok
theorem RI.done {ownA:Nat→Prop} {r:xr} (h:RI W3 B19 r t va vb v) (hm:r.cells.length≤t):xw (λk=>rb k∨(W3.heap.size≤k∧k<v.heap.size)) v va (zg (vp r))∧xw (λk=>rb k∨(W3.heap.size≤k∧k<v.heap.size)) v vb (jj (xo r)):=by
 have e:r.cells.take t=r.cells:=List.take_of_length_le hm;have h1:=h.bytes;have h2:=h.ints;have hlo:=h.lo;rw[e] at h1 h2;rw[←zu] at h1;have e2:(jj (r.cells.map (·.1))).length=(r.cells.map (·.1)).length:=by simp[jj]
 rw[←e2] at h2;obtain⟨a1,a2⟩:=zc4 h1;obtain⟨b1,b2⟩:=zc4 h2
 exact⟨a1.mono λk hk=>Or.inr ⟨by have:=(a2 k hk).1;omega,(a2 k hk).2⟩,b1.mono λk hk=>Or.inr ⟨by have:=(b2 k hk).1;omega,(b2 k hk).2⟩⟩
theorem zos {L:Yh} {loc:zt→Nat × Nat × Nat} {rows:List (zt × xr)} {gk:Nat} {ks:List zt} 
 (h:AF own ownA W0 db B L loc rp rows gk ks X) (hs:SAt ownA X L.st db L.mb L.tb rv rb (openS d ks)) (hok:d.opened.2=0) (hk:jc d ks) (hp:tmps.getD 2 undef = .pointer (some ⟨L.b2,0,none⟩)) (hq:tmps.getD 3 undef = .pointer (some ⟨L.b3,0,none⟩)) :
  bodyPostM Fence.wide 5 Tryz.prog Tryz.f18 (Yw own W0 db d) .ret { tmps:=tmps,defers:=[{ target:=.collected B,args:=#[] }] } ((X.setCell ⟨L.b2,0,none⟩ (.pointer (some ⟨L.st,0,none⟩))).setCell ⟨L.b3,0,none⟩ (.int .i64 0)):=by
 obtain⟨n1,n2,n3⟩:=h.ne;obtain⟨q2,q3,q4,q5,qB⟩:=h.a2;have t1:=(yh X L.b2 0 (.pointer (some ⟨L.st,0,none⟩))).mono (cs:=λk=>k=L.b2∨k=L.b3) (λk hk=>Or.inl hk)
 have t2:=(yh (X.setCell ⟨L.b2,0,none⟩ (.pointer (some ⟨L.st,0,none⟩))) L.b3 0 (.int .i64 0)).mono (cs:=λk=>k=L.b2∨k=L.b3) (λk hk=>Or.inr hk)
 have tt:=t1.trans t2;have hBlt:=h.lt B qB;refine Jm ((tt.block B hBlt (by omega)).trans h.dB) hp hq (a:=L.b2) (b:=L.b3) (v0:=some ⟨L.st,0,none⟩) (v1:=0) ?_ ?_ λo=>⟨?_,Or.inr ⟨hok,L.st,ks,rfl,hk,?_⟩⟩
 ·simp[World.setCell,Array.getElem?_modify,h.b2,n1,Ne.symm n1]
 ·simp[World.setCell,Array.getElem?_modify,h.b3,n1,Ne.symm n1]
 ·refine(h.turn.trans (tt.mono λk hk ho=>?_)).trans ((jv _ B o).mono λk hk ho=>by have:=(h.oB k ho).1;omega)
  rcases hk with e|e
  ·exact(h.oB k ho).2.1 e
  ·exact(h.oB k ho).2.2 e
 ·have ht:zm ownA X (((X.setCell ⟨L.b2,0,none⟩ (.pointer (some ⟨L.st,0,none⟩))).setCell ⟨L.b3,0,none⟩ (.int .i64 0)).putObj B o):=(tt.mono (cs:=ownA) λk hk=>by
   rcases hk with e|e
   ·rw[e];exact q2
   ·rw[e];exact q3).trans ((jv _ B o).mono λk hk=>by rw[hk];exact qB)
  exact⟨L.mb,L.tb,rv,rb,(hs.others ht).less h.sub⟩
end Go.Proofs.YtbcbhlfjgobejaaGreat
