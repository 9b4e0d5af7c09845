/- What an opening does to a disk, and what its records are: plain laws, no program. Conditions: none, or as the theorems say. -/
import Derived.Test.YtbcbhlfjgobejaaGreatS18
import Derived.Test.YtbcbhlfjgobejaaGreatS2
import Derived.OrdersIn
import Derived.OwnWalkIn
import Derived.Deep.RegionHeld3
import Derived.StillTailTactics
set_option linter.unusedSimpArgs false
set_option linter.unusedVariables false
namespace Go.Proofs.YtbcbhlfjgobejaaGreat
set_option maxHeartbeats 200000000
open Go.Sf
variable {d:Dk} {n:Nat} {rp':Nat→Prop}
open Classical in
noncomputable def opnD (d:Dk):Nat→Dk × Int × Bool
 | 0=>(d,0,false)
 | n+1=>if (opnD d n).2.1≠0 then opnD d n
   else if (saidP zo (bk d.now n)).isSome=true∨bk d.now n=zr then opnD d n
   else ((opnD d n).1.written n [],(opnD d n).1.writeV n [],true)
theorem Qr (h:(opnD d n).2.1≠0):opnD d (n+1)=opnD d n:=by
 conv=>lhs;unfold opnD
 rw[if_pos h]
theorem Za (h:(opnD d n).2.1=0) (hc:(saidP zo (bk d.now n)).isSome=true∨bk d.now n=zr):opnD d (n+1)=opnD d n:=by
 conv=>lhs;unfold opnD
 rw[if_neg (by simp[h]),if_pos hc]
theorem Ub (h:(opnD d n).2.1=0) (h1:(saidP zo (bk d.now n)).isSome=false) (h2:bk d.now n≠zr):opnD d (n+1)=((opnD d n).1.written n [],(opnD d n).1.writeV n [],true):=by
 conv=>lhs;unfold opnD
 rw[if_neg (by simp[h]),if_neg (by simp[h1,h2])]
theorem zft (h:(opnD d n).2.1≠0):∀m,n≤m→opnD d m=opnD d n
 | 0,hm=>by
  obtain rfl:n=0:=by omega
  rfl
 | m+1,hm=>by
  rcases Nat.lt_or_ge m n with h1|h1
  ·obtain rfl:n=m+1:=by omega
   rfl
  ·have ih:=zft h m h1
   rw[Qr (by rw[ih];exact h),ih]
theorem zis:vf []=zr:=rfl
structure OpnOk (d:Dk) (n:Nat):Prop where
 nn:(opnD d n).1.n=d.n
 off:(opnD d n).1.off=false
 late:(opnD d n).1.late.length≤d.late.length+n
 rest:∀i,n≤i→bk (opnD d n).1.now i=bk d.now i
 met:∀i,i<n→bk (opnD d n).1.now i=scrub zo (bk d.now i)
 steps:(opnD d n).1.stepB=true∨(opnD d n).1.stepB=false
theorem za7 {i:Nat} (hoff:d.off=false) (hi:i<d.n):d.mayE i 0=0∧d.writeV i []=(if d.stepB=true then 0 else 180)∧d.written i []=(if d.stepB=true then (d.lay i zr).went else (d.lay i zr).gone):=by
 have hm:d.mayE i 0=0:=by
  unfold Dk.mayE;rw[if_neg (by simp[hoff]),if_neg (by omega),if_neg (by omega)]
 refine⟨hm,?_,?_⟩
 ·unfold Dk.writeV
  simp[hm]
 ·unfold Dk.written
  simp[hm,zis]
theorem zd9 (hoff:d.off=false):∀n,n≤d.n→(opnD d n).2.1=0→OpnOk d n
 | 0,_,_=>⟨rfl,hoff,by simp[opnD],λi _=>rfl,λi hi=>by omega,by cases(opnD d 0).1.stepB <;> simp⟩
 | n+1,hn,h=>by
  have h0:(opnD d n).2.1=0:=by
   apply Classical.byContradiction
   intro hne;rw[Qr hne] at h
   exact hne h
  have ih:=zd9 hoff n (by omega) h0
  by_cases hc:(saidP zo (bk d.now n)).isSome=true∨bk d.now n=zr
  ·have e:=Za h0 hc
   refine⟨by rw[e];exact ih.nn,by rw[e];exact ih.off,by rw[e];have:=ih.late;omega,λi hi=>by rw[e];exact ih.rest i (by omega),λi hi=>?_,by cases(opnD d (n+1)).1.stepB <;> simp⟩
   rw[e]
   rcases Nat.lt_or_ge i n with h1|h1
   ·exact ih.met i h1
   ·obtain rfl:i=n:=by omega
    rw[ih.rest i (Nat.le_refl _)];refine(Vd ?_).symm
    rcases hc with hc|hc
    ·exact Or.inr (Option.isSome_iff_exists.1 hc)
    ·exact Or.inl hc
  ·have hc1:(saidP zo (bk d.now n)).isSome=false:=by
    cases e:(saidP zo (bk d.now n)).isSome
    ·rfl
    ·exact absurd (Or.inl e) hc
   have hc2:bk d.now n≠zr:=λe=>hc (Or.inr e)
   have e:=Ub h0 hc1 hc2;obtain⟨z1,z2,z3⟩:=za7 ih.off (i:=n) (by rw[ih.nn];omega)
   rw[e] at h;simp only at h;have hs:(opnD d n).1.stepB=true:=by
    rw[z2] at h
    cases hb:(opnD d n).1.stepB
    ·rw[hb] at h;simp at h
    ·rfl
   rw[if_pos hs] at z3;refine⟨?_,?_,?_,λi hi=>?_,λi hi=>?_,by cases(opnD d (n+1)).1.stepB <;> simp⟩
   ·rw[e];simp only;rw[z3];exact ih.nn
   ·rw[e];simp only;rw[z3];exact ih.off
   ·rw[e];simp only;rw[z3];have:=ih.late;simp[Dk.went,Dk.lay];omega
   ·rw[e];simp only;rw[z3]
    show bk (yo (opnD d n).1.now (n:Int) zr) i=_
    rw[Zw _ _ (by omega)]
    exact ih.rest i (by omega)
   ·rw[e];simp only;rw[z3]
    show bk (yo (opnD d n).1.now (n:Int) zr) i=_
    rcases Nat.lt_or_ge i n with h1|h1
    ·rw[Zw _ _ (by omega)]
     exact ih.met i h1
    ·obtain rfl:i=n:=by omega
     rw[je];unfold scrub;rw[if_neg (by rw[hc1];simp)]
section
variable {C : List Int → Nat} {f : Nat → List Int} {N : Nat}
theorem zhg (hf:∀i,i<N→BL (f i)) {K:zt} {r:xr} (hr:zw (scanN C f N).rows K=some r) (hw:r.whole=true):BL (vp r)∧(vp r).length≤131072∧xo r≠[]∧(∀i∈xo r,i<N)∧r.cells.length≤570∧(∀c∈r.cells,c.2.length≤230)∧1≤K.k∧K.k≤4611686018427387904:=by
 have hs:=qv (C:=C) f N;have hro:=hs.row K r hr;obtain⟨c1,c2,c3⟩:=hs.c K r hr;have hall:=(zby hro).1 hw;have hcell:∀j,j<K.count→∃i b,r.cells[j]? = some (i,b)∧i<N∧saidP C (f i)=some ⟨K.k,j,K.count,b⟩:=λj hj=>by
  obtain⟨⟨i,b⟩,hx⟩:=Option.isSome_iff_exists.1 (hall j hj);obtain⟨h1,h2⟩:=Zc hx
  exact⟨i,b,(hro.yes j hj _ hx).2,h1,h2⟩
 have hmem:∀c∈r.cells,∃j,j<K.count∧r.cells[j]? = some c∧c.1<N∧saidP C (f c.1)=some ⟨K.k,j,K.count,c.2⟩:=λc hc=>by
  obtain⟨j,hj⟩:=List.getElem?_of_mem hc;have hjl:j<K.count:=by rw[←hro.l1];exact(List.getElem?_eq_some_iff.1 hj).1
  obtain⟨i,b,h1,h2,h3⟩:=hcell j hjl;rw[hj] at h1
  cases h1
  exact⟨j,hjl,hj,h2,h3⟩
 have hlen:∀m,m≤K.count→((r.cells.take m).flatMap (·.2)).length≤m*230∧(m<K.count→((r.cells.take m).flatMap (·.2)).length=m*230)
   ∧(m=K.count→((r.cells.take m).flatMap (·.2)).length≤131072):=λm=>by
  induction m with
  | zero=>intro _;simp
  | succ m ih=>
   intro hm;obtain⟨g1,g2,g3⟩:=ih (by omega)
   obtain⟨i,b,h1,h2,h3⟩:=hcell m (by omega)
   have hp:=(yr h3).1;have hl:=hp.l1;simp only at hl;have e:((r.cells.take (m+1)).flatMap (·.2)).length=((r.cells.take m).flatMap (·.2)).length+b.length:=by
    obtain⟨q1,q2⟩:=List.getElem?_eq_some_iff.1 h1;rw[List.take_succ_eq_append_getElem q1,q2];simp
   rw[e];have g2:=g2 (by omega)
   refine⟨by omega,λhlt=>?_,λheq=>?_⟩
   ·have:=hp.full (by show m+1≠K.count;omega)
    simp only at this;omega
   ·have:=(hp.last (by show m+1=K.count;omega)).1
    simp only at this;omega
 have hfull:(r.cells.take K.count)=r.cells:=List.take_of_length_le (by rw[hro.l1];exact Nat.le_refl _)
 refine⟨λx hx=>?_,?_,λe=>?_,λi hi=>?_,by rw[hro.l1];exact c2,λc hc=>?_,c3,?_⟩
 ·obtain⟨c,hc,hxc⟩:=List.mem_flatMap.1 hx
  obtain⟨j,hj,_,hN,hsd⟩:=hmem c hc;have he:=(yr hsd).2;have hb:=hf _ hN;rw[←he] at hb;refine hb x ?_;unfold xe uv hdP;simp only[List.mem_append]
  exact Or.inl (Or.inl (Or.inl (Or.inr hxc)))
 ·have:=(hlen K.count (Nat.le_refl _)).2.2 rfl
  rw[hfull] at this
  exact this
 ·have:r.cells.length=0:=by simpa[xo] using e
  rw[hro.l1] at this;omega
 ·obtain⟨c,hc,rfl⟩:=List.mem_map.1 hi
  obtain⟨_,_,_,hN,_⟩:=hmem c hc
  exact hN
 ·obtain⟨_,_,_,_,hsd⟩:=hmem c hc
  exact(yr hsd).1.l1
 ·obtain⟨i,b,_,_,h3⟩:=hcell 0 (by omega)
  exact(yr h3).1.k2
theorem zck {M:Int} (hM:4611686018427387905≤M) (n:Nat):(scanN C f n).next≤M:=by
 induction n with
 | zero=>show(1:Int)≤M;omega
 | succ n ih=>
  unfold scanN scanStep
  cases e:saidP C (f n) with
  | none=>exact ih
  | some p=>
   have:=(yr e).1.k2
   show max _ _≤M
   omega
end
open Go.RowKit Go.Sf
def inL (x:Nat × Nat × Nat) (k:Nat):Prop:=k=x.1∨k=x.2.1∨k=x.2.2
structure qw (P:Nat→Prop) (base:Nat) (W:World) (mr:Nat) (loc:zt→Nat × Nat × Nat) (rp:Nat→Prop) (rows:List (zt × xr)):Prop where
 map:yg W mr jr Ul (rows.map λq=>(q.1,(loc q.1).1))
 row:∀K r,zw rows K=some r→∃cs,Ys W rp (loc K).1 (loc K).2.1 (loc K).2.2 cs r
 ne:∀K r,zw rows K=some r→(loc K).1≠(loc K).2.1∧(loc K).1≠(loc K).2.2∧(loc K).2.1≠(loc K).2.2
 apart:∀K r K' r',zw rows K=some r→zw rows K'=some r'→K≠K'→∀k,inL (loc K) k→¬inL (loc K') k
 free:∀K r,zw rows K=some r→∀k,inL (loc K) k→¬rp k∧P k∧base≤k
 parts:∀k,rp k→P k∧base≤k
 mine:P mr
 low:mr<base
section
variable {P : Nat → Prop} {base : Nat} {W W' : World} {mr : Nat} {loc : zt → Nat × Nat × Nat} {rp : Nat → Prop} {rows : List (zt × xr)}
theorem qw.nodup (h:qw P base W mr loc rp rows):(rows.map (·.1)).Nodup:=by
 have:=h.map.nodup;simpa[List.map_map,Function.comp_def] using this
theorem qw.turn (h:qw P base W mr loc rp rows) (hs:∀k,P k→(k=mr∨base≤k)→W'.heap[k]? = W.heap[k]?):qw P base W' mr loc rp rows where
 map:=h.map.same (hs mr h.mine (Or.inl rfl))
 row:=λK r hr=>by
  obtain⟨cs,hc⟩:=h.row K r hr;have keep:∀k,inL (loc K) k→W'.heap[k]? = W.heap[k]?:=λk hk=>hs k (h.free K r hr k hk).2.1 (Or.inr (h.free K r hr k hk).2.2)
  exact⟨cs,hc.kept (keep _ (Or.inl rfl)) (keep _ (Or.inr (Or.inl rfl))) (keep _ (Or.inr (Or.inr rfl))) (λk hk=>hs k (h.parts k hk).1 (Or.inr (h.parts k hk).2))⟩
 ne:=h.ne
 apart:=h.apart
 free:=h.free
 parts:=h.parts
 mine:=h.mine
 low:=h.low
theorem qw.more (h:qw P base W mr loc rp rows) {P':Nat→Prop} (hp:∀k,P k→P' k):qw P' base W mr loc rp rows:=
 ⟨h.map,h.row,h.ne,h.apart,λK r hr k hk=>⟨(h.free K r hr k hk).1,hp k (h.free K r hr k hk).2.1,(h.free K r hr k hk).2.2⟩,λk hk=>⟨hp k (h.parts k hk).1,(h.parts k hk).2⟩,hp _ h.mine,h.low⟩
theorem qw.lt (h:qw P base W mr loc rp rows) {K:zt} {r:xr} (hr:zw rows K=some r) {k:Nat} (hk:inL (loc K) k):k<W.heap.size:=by
 obtain⟨cs,hc⟩:=h.row K r hr;obtain⟨l1,l2,l3⟩:=hc.lt
 rcases hk with rfl|rfl|rfl <;> assumption
theorem Ys.widen {pb ab tb:Nat} {cs:List (Nat × Value × List Int)} {r:xr} (h:Ys W rp pb ab tb cs r) (hs:∀k,rp k→rp' k):Ys W rp' pb ab tb cs r:=
 ⟨h.box,h.at_,h.there,h.cells,λc hc=>(h.rows c hc).mono hs,h.len,h.few⟩
theorem qw.part (h:qw P base W mr loc rp rows) (h1:∀k,rp k→rp' k) (h2:∀k,rp' k→rp k∨(W.heap.size≤k∧P k)) (hb:base≤W.heap.size):qw P base W mr loc rp' rows where
 map:=h.map
 row:=λK r hr=>by
  obtain⟨cs,hc⟩:=h.row K r hr
  exact⟨cs,hc.widen h1⟩
 ne:=h.ne
 apart:=h.apart
 free:=λK r hr k hk=>⟨λe=>by
  rcases h2 k e with e|e
  ·exact(h.free K r hr k hk).1 e
  ·have:=h.lt hr hk;omega,(h.free K r hr k hk).2⟩
 parts:=λk hk=>by
  rcases h2 k hk with e|e
  ·exact h.parts k e
  ·exact⟨e.2,by omega⟩
 mine:=h.mine
 low:=h.low
theorem zo9 {f g:zt→Nat × Nat × Nat} {rows:List (zt × xr)} (h:∀q∈rows,f q.1=g q.1):rows.map (λq=>(q.1,(f q.1).1))=rows.map (λq=>(q.1,(g q.1).1)):=
 List.map_congr_left λq hq=>by rw[h q hq]
theorem qw.add (h:qw P base W mr loc rp rows) {K:zt} (hn:zw rows K=none) {W2:World} {pb ab tb:Nat} {cs:List (Nat × Value × List Int)} {r:xr} (hg:W.grownBy W2 none) (hr:Ys W2 (λ_=>False) pb ab tb cs r)
  (n1:pb≠ab∧pb≠tb∧ab≠tb) (hl:W.heap.size≤pb∧W.heap.size≤ab∧W.heap.size≤tb) (hP:P pb∧P ab∧P tb) (hlt:∀k,rp k→k<W.heap.size) (hb:base≤W.heap.size)
  (hm:yg W' mr jr Ul (yo (rows.map λq=>(q.1,(loc q.1).1)) K pb)) (hg2:W2.grownBy W' (some mr)) (hml:mr<W.heap.size):qw P base W' mr (λK'=>if K'=K then (pb,ab,tb) else loc K') rp (rows ++ [(K,r)]):=by
 have hne:∀q∈rows,q.1≠K:=uz.1 hn;have hne2:∀q∈rows.map (λq=>(q.1,(loc q.1).1)),q.1≠K:=λq hq=>by
  obtain⟨q0,hq0,rfl⟩:=List.mem_map.1 hq
  exact hne q0 hq0
 have hput:rows ++ [(K,r)]=yo rows K r:=(Yo hne r).symm;have hs2:∀k,k<W.heap.size→k≠mr→W'.heap[k]? = W.heap[k]?:=λk hk hkm=>(hg2.block k (Nat.lt_of_lt_of_le hk hg.size) (λe=>hkm (by injection e))).trans (hg.block k hk (by simp))
 have hs3:∀k,W.heap.size≤k→k<W2.heap.size→W'.heap[k]? = W2.heap[k]?:=λk hk hk2=>hg2.block k hk2 (λe=>by injection e with e;omega)
 obtain⟨l1,l2,l3⟩:=hr.lt;have hK:∀K' r',zw (rows ++ [(K,r)]) K'=some r'→(K'=K∧r'=r)∨(K'≠K∧zw rows K'=some r'):=λK' r' h'=>by
  rw[hput] at h'
  by_cases e:K'=K
  ·subst e
   rw[ub] at h'
   cases h'
   exact Or.inl ⟨rfl,rfl⟩
  ·rw[uj _ _ e] at h'
   exact Or.inr ⟨e,h'⟩
 refine⟨?_,λK' r' h'=>?_,λK' r' h'=>?_,λK1 r1 K2 r2 h1 h2 h12 k hk=>?_,λK' r' h' k hk=>?_,h.parts,h.mine,h.low⟩
 ·rw[Yo hne2] at hm
  rw[List.map_append];have:rows.map (λq=>(q.1,((λK'=>if K'=K then (pb,ab,tb) else loc K') q.1).1))=rows.map (λq=>(q.1,(loc q.1).1)):=zo9 (f:=λK'=>if K'=K then (pb,ab,tb) else loc K') (g:=loc) λq hq=>if_neg (hne q hq)
  rw[this];simpa using hm
 ·rcases hK K' r' h' with ⟨rfl,rfl⟩|⟨e,h''⟩
  ·simp only[if_true]
   exact⟨cs,(hr.kept (hs3 _ hl.1 l1) (hs3 _ hl.2.1 l2) (hs3 _ hl.2.2 l3) (λk hk=>hk.elim)).widen (λk hk=>hk.elim)⟩
  ·simp only[if_neg e]
   obtain⟨cs',hc⟩:=h.row K' r' h'';have hnm:∀k,inL (loc K') k→k≠mr:=λk hk=>by have:=(h.free K' r' h'' k hk).2.2;have:=h.low;omega
   refine⟨cs',hc.kept (hs2 _ (h.lt h'' (Or.inl rfl)) (hnm _ (Or.inl rfl))) (hs2 _ (h.lt h'' (Or.inr (Or.inl rfl))) (hnm _ (Or.inr (Or.inl rfl)))) (hs2 _ (h.lt h'' (Or.inr (Or.inr rfl))) (hnm _ (Or.inr (Or.inr rfl)))) (λk hk=>hs2 k (hlt k hk) ?_)⟩
   have:=(h.parts k hk).2;have:=h.low;omega
 ·rcases hK K' r' h' with ⟨rfl,rfl⟩|⟨e,h''⟩
  ·simp only[if_true];exact n1
  ·simp only[if_neg e];exact h.ne K' r' h''
 ·rcases hK K1 r1 h1 with ⟨rfl,rfl⟩|⟨e1,h1'⟩
  ·rcases hK K2 r2 h2 with ⟨rfl,rfl⟩|⟨e2,h2'⟩
   ·exact absurd rfl h12
   ·simp only[if_true] at hk
    simp only[if_neg e2];intro hk2;have:=h.lt h2' hk2
    rcases hk with rfl|rfl|rfl <;> omega
  ·rcases hK K2 r2 h2 with ⟨rfl,rfl⟩|⟨e2,h2'⟩
   ·simp only[if_neg e1] at hk
    simp only[if_true];intro hk2;have:=h.lt h1' hk
    rcases hk2 with rfl|rfl|rfl <;> omega
   ·simp only[if_neg e1] at hk
    simp only[if_neg e2]
    exact h.apart K1 r1 K2 r2 h1' h2' h12 k hk
 ·rcases hK K' r' h' with ⟨rfl,rfl⟩|⟨e,h''⟩
  ·simp only[if_true] at hk
   rcases hk with rfl|rfl|rfl
   ·exact⟨λe=>by have:=hlt _ e;have:=hl.1;omega,hP.1,by have:=hl.1;omega⟩
   ·exact⟨λe=>by have:=hlt _ e;have:=hl.2.1;omega,hP.2.1,by have:=hl.2.1;omega⟩
   ·exact⟨λe=>by have:=hlt _ e;have:=hl.2.2;omega,hP.2.2,by have:=hl.2.2;omega⟩
  ·simp only[if_neg e] at hk
   exact h.free K' r' h'' k hk
theorem map_fst {rows:List (zt × xr)} (hn:(rows.map (·.1)).Nodup) {K:zt} {r:xr} (h:zw rows K=some r) (r':xr) (f:zt→Nat):(yo rows K r').map (λq=>(q.1,f q.1))=rows.map (λq=>(q.1,f q.1)):=by
 induction rows with
 | nil=>cases h
 | cons p t ih=>
  simp only[List.map_cons,List.nodup_cons] at hn;unfold yo
  by_cases e:p.1=K
  ·rw[if_pos e];simp[e]
  ·rw[if_neg e]
   unfold zw at h;rw[if_neg e] at h;simp only[List.map_cons];rw[ih hn.2 h]
theorem qw.set (h:qw P base W mr loc rp rows) {K:zt} {r r':xr} (hr:zw rows K=some r) {cs:List (Nat × Value × List Int)} (h':Ys W' rp (loc K).1 (loc K).2.1 (loc K).2.2 cs r') (ht:zm (λk=>k=(loc K).2.1∨k=(loc K).2.2) W W') (hlt:∀k,rp k→k<W.heap.size) (hml:mr<W.heap.size):qw P base W' mr loc rp (yo rows K r'):=by
 have hnd:=h.nodup;have hfree:=h.free K r hr;have hK:∀K1 r1,zw (yo rows K r') K1=some r1→(K1=K∧r1=r')∨(K1≠K∧zw rows K1=some r1):=λK1 r1 h1=>by
  by_cases e:K1=K
  ·subst e
   rw[ub] at h1
   cases h1
   exact Or.inl ⟨rfl,rfl⟩
  ·rw[uj _ _ e] at h1
   exact Or.inr ⟨e,h1⟩
 have hget:∀K1 r1,zw (yo rows K r') K1=some r1→∃r0,zw rows K1=some r0:=λK1 r1 h1=>by
  rcases hK K1 r1 h1 with ⟨rfl,rfl⟩|⟨_,h2⟩
  ·exact⟨r,hr⟩
  ·exact⟨r1,h2⟩
 refine⟨?_,λK1 r1 h1=>?_,λK1 r1 h1=>?_,λK1 r1 K2 r2 h1 h2=>?_,λK1 r1 h1=>?_,h.parts,h.mine,h.low⟩
 ·rw[map_fst hnd hr r' (λq=>(loc q).1)]
  refine h.map.same (ht.block mr hml (λe=>?_))
  have hl:=h.low
  rcases e with e|e
  ·have:=(hfree _ (Or.inr (Or.inl rfl))).2.2;omega
  ·have:=(hfree _ (Or.inr (Or.inr rfl))).2.2;omega
 ·rcases hK K1 r1 h1 with ⟨rfl,rfl⟩|⟨e,h2⟩
  ·exact⟨cs,h'⟩
  ·obtain⟨cs1,hc⟩:=h.row K1 r1 h2
   have hap:=h.apart K1 r1 K r h2 hr e;have keep:∀k,inL (loc K1) k→W'.heap[k]? = W.heap[k]?:=λk hk=>ht.block k (h.lt h2 hk) (λe2=>hap k hk (by rcases e2 with e2|e2;exact Or.inr (Or.inl e2);exact Or.inr (Or.inr e2)))
   exact⟨cs1,hc.kept (keep _ (Or.inl rfl)) (keep _ (Or.inr (Or.inl rfl))) (keep _ (Or.inr (Or.inr rfl))) (λk hk=>ht.block k (hlt k hk) (λe2=>by
    rcases e2 with e2|e2
    ·exact(hfree k (Or.inr (Or.inl e2))).1 hk
    ·exact(hfree k (Or.inr (Or.inr e2))).1 hk))⟩
 ·obtain⟨r0,h0⟩:=hget K1 r1 h1
  exact h.ne K1 r0 h0
 ·obtain⟨r0,h0⟩:=hget K1 r1 h1
  obtain⟨r0',h0'⟩:=hget K2 r2 h2
  exact h.apart K1 r0 K2 r0' h0 h0'
 ·obtain⟨r0,h0⟩:=hget K1 r1 h1
  exact h.free K1 r0 h0
end
theorem zmz {K V:Type} [DecidableEq K] (m:List (K × V)) (k:K) (v u:V):yo (yo m k v) k u=yo m k u:=by
 induction m with
 | nil=>simp[yo]
 | cons p t ih=>
  by_cases e:p.1=k
  ·simp[yo,e]
  ·simp[yo,e,ih]
end Go.Proofs.YtbcbhlfjgobejaaGreat
namespace Go.Sf
open Go.RowKit Go
variable {a:Act} {i id:Nat} {w:World}
variable {n l : Nat} {P : Program} {ops : Array Oper} {Q : Exit → Act → World → Prop}
def Xx (ops:Array Oper):Bool:=ops.all λo=>match o.op with | .defer _=>false|_=>true
theorem zd1 {ops:Array Oper} (h:Xx ops=true) {o:Oper} (ho:ops[i]? = some o):∀c,o.op≠.defer c:=λc e=>by
 unfold Xx at h;rw[Array.all_eq_true] at h;obtain⟨hi,hh⟩:=Array.getElem?_eq_some_iff.1 ho;have:=h i hi;rw[hh,e] at this
 cases this
theorem zi3 {row:String} {args:Array Value} {R:Value→World→Prop} (h:Rows P row args w R):RowsIn (Fence.wide.inRound l) n P row args w R:=
 λc cs _=>by
  obtain⟨v,w',r,s⟩:=h c cs
  exact⟨v,w',r,stepsIn_wide.2 s⟩
theorem zd5 {o:Oper} {K:Act→World→Prop} (hd:∀c,o.op≠.defer c) (h:o.wp P a w K Q):o.wpIn (Fence.wide.inRound l) n P a w K Q:=by
 refine⟨λ_ _=>trivial,?_⟩
 rw[Oper.semAt_plain (Fence.wide.inRound l) a.eval o hd];unfold Oper.wp at h;generalize (execOp a.eval o).run P w=r at *
 cases r with
 | ok x w'=>
  cases x <;> simp only[Oper.upon,Oper.uponIn] at h ⊢
  case value v=>exact h
  case skip=>exact h
  case defer d=>exact h
  case enter f args=>exact⟨λe=>(by cases e),callsIn_wide.2 h⟩
  case row row args=>exact⟨λe=>(by cases e),zi3 h⟩
 | halt x w'=>cases x <;> simp only[Oper.upon,Oper.uponIn] at h ⊢ <;> exact h
theorem zhi (hd:Xx ops=true) (hl:¬LetsOut Q) {K:Act→World→Prop} (h:wpOp P ops Q i K a w):wpOpIn (Fence.wide.inRound l) n P ops Q i K a w:=by
 unfold wpOp at h;unfold wpOpIn
 cases ho:ops[i]? with
 | none=>rw[ho] at h;exact h
 | some o=>
  rw[ho] at h;simp only at h ⊢
  split
  ·rename_i hw
   rw[if_pos hw] at h
   rcases h with h|h
   ·exact zd5 (zd1 hd ho) h
   ·exact absurd h.2 hl
  ·rename_i hw
   rw[if_neg hw] at h
   exact⟨λ_ _=>trivial,h⟩
theorem Xp {md:Region.Mode} (hd:Xx ops=true) (hl:¬LetsOut Q):∀(fuel:Nat) (listed:Array Bool) (a:Act) (w:World),wpAny P md ops Q fuel listed a w→wpAnyIn (Fence.wide.inRound l) n P md ops Q fuel listed a w
 | 0,_,_,_,h=>h
 | fuel+1,listed,a,w,h=>⟨h.1,λi hi=>zhi hd hl (wpOp_mono (λa' w' h'=>Xp hd hl fuel _ a' w' h') (h.2 i hi))⟩
theorem za3 {S:World→Prop} (hm:P.follows .mixedOrders=true) (hd:Xx ops=true) (hl:¬LetsOut Q) (hS:S w.drew)
 (h:S w.drew→wpAnyH P .any ops Q S ops.size (Array.replicate ops.size false) a w.drew):(Code.region id ops true).wpIn (Fence.wide.inRound l) n P Q a w:=
 wpIn_region_any hm (Xp hd hl _ _ _ _ (wpAny_of_held _ _ _ _ (h hS)))
theorem Yb (hd:Xx ops=true) (hl:¬LetsOut Q):∀(rest:List Oper) (a:Act) (w:World),(∀o∈rest,o∈ops)→wpList P ops Q rest a w→wpListIn (Fence.wide.inRound l) n P ops Q rest a w
 | [],_,_,_,h=>h
 | o :: rest,a,w,hm,h=>by
  refine wpListIn_step λK hK=>?_
  unfold wpList at h;obtain⟨i,hi⟩:=Array.getElem?_of_mem (hm o (by simp))
  have hm':∀o∈rest,o∈ops:=λo' ho'=>hm o' (List.mem_cons_of_mem _ ho')
  split
  ·rename_i hw
   rw[if_pos hw] at h
   rcases h with h|h
   ·exact zd5 (zd1 hd hi) (Oper.wp_mono (λa' w' h'=>hK a' w' (Yb hd hl rest a' w' hm' h')) h)
   ·exact absurd h.2 hl
  ·rename_i hw
   rw[if_neg hw] at h
   exact⟨λ_ _=>trivial,hK _ _ (Yb hd hl rest _ _ hm' h)⟩
theorem uo {ops:List Oper} (hd:Xx ops.toArray=true) (hl:¬LetsOut Q) (h:wpList P ops.toArray Q ops a w):(Code.region id ops.toArray false).wpIn (Fence.wide.inRound l) n P Q a w:=
 wpIn_region_lit (Yb hd hl ops a w (λo ho=>by simpa using ho) h)
theorem za2 {F:Fence} {n:Nat} {o:Oper} {rest:List Oper} {w':World} {v:Value} (hg:o.guard=none) (hd:∀c,o.op≠.defer c) (hc:∀c,o.op≠.call c) (hr:(execOp a.eval o).run P w = .ok (.value v) w') (h:wpListIn F n P ops Q rest (a.put o.dst v) w'):wpListIn F n P ops Q (o :: rest) a w:=by
 refine wpListIn_plain hg λK hK=>?_
 unfold Oper.wpIn;refine⟨λf hf=>?_,?_⟩
 ·unfold Oper.about at hf
  cases ho:o.op <;> rw[ho] at hf <;> first|(cases hf;done)|exact absurd ho (hc _)
 ·rw[Oper.semAt_plain F _ _ hd,hr]
  exact hK _ _ h
theorem Zb {ops:List Oper} (m:Nat) (hm:P.follows .mixedOrders=true) (hB:Region.lexTailB .any ops.toArray m=true) (hd:Xx ops.toArray=true) (hl:¬LetsOut Q)
 (h:wpStill P ops.toArray { w with drawn:=w.drawn+1 } (λa'=>wpList P ops.toArray Q (ops.drop m) a' { w with drawn:=w.drawn+1 }) (ops.take m) a):(Code.region id ops.toArray true).wpIn (Fence.wide.inRound l) n P Q a w:=by
 simp only[Region.lexTailB,Bool.and_eq_true,decide_eq_true_eq] at hB;obtain⟨⟨⟨⟨hsel,hn⟩,hs⟩,hc⟩,hlex⟩:=hB;have hmo:m<ops.length:=by simpa using hn
 have e1:(ops.take m).length=m:=by simp;omega
 have e2:(ops.drop m).length=ops.toArray.size-m:=by simp
 have H:=wpAnyL_lex (md:=.any) (g:=ops.toArray.size-m) hsel hs hc hn (ops.take m) 0 (Array.replicate ops.toArray.size false) a (λj hj=>by
   rw[e1] at hj;simp[hj]) (by simpa using e1)
  ⟨by simp,λj oj _ hj=>(by rw[getD_replicate_false] at hj;cases hj),λt _ ht=>getD_in (by simpa using ht) (getD_replicate_false _ _)⟩ (by rw[e1];exact hlex) h
 have K:=wpAny_of_head (Q':=Q) (g:=ops.toArray.size-m) (λlisted a' hL=>by
  have:=wpAny_of_seq (md:=.any) (Q':=Q) (ops.drop m) m listed a' { w with drawn:=w.drawn+1 } (λj=>by simp[List.getElem?_drop]) (by rw[e2];exact hL.1) hL.2
  rwa [e2] at this) _ _ _ H
 rw[e1,show m+(ops.toArray.size-m)=ops.toArray.size by omega] at K
 exact wpIn_region_any hm (Xp hd hl _ _ _ _ K)
end Go.Sf
