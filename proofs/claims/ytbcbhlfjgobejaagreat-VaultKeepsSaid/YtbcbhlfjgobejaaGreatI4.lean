/- What an opening finds on a disk: rows of parts: plain laws, no program. Conditions: none, or as the theorems say. -/
import Derived.Test.YtbcbhlfjgobejaaGreatI3
import Derived.Test.YtbcbhlfjgobejaaGreatI1
set_option linter.unusedSimpArgs false
set_option linter.unusedVariables false
namespace Go.Proofs.YtbcbhlfjgobejaaGreat
set_option maxHeartbeats 200000000
open Go.Sf
structure zx where
 k:Int
 count:Nat
deriving DecidableEq
structure xm where
 cells:List (Nat × List Int)
 there:List Bool
def ua (n:Nat):xm:=⟨List.replicate n (0,[]),List.replicate n false⟩
def qq (r:xm) (j:Nat) (x:Nat × List Int):xm:=if r.there.getD j true=true then r else ⟨r.cells.set j x,r.there.set j true⟩
def xm.whole (r:xm):Bool:=!r.there.contains false
structure Scan where
 rows:List (zx × xm)
 next:Int
section
variable (C : List Int → Nat)
noncomputable def scanStep (s:Scan) (i:Nat) (x:List Int):Scan:=match saidP C x with
 | none=>s
 | some p=>⟨yj s.rows ⟨p.k,p.count⟩ (qq ((zw s.rows ⟨p.k,p.count⟩).getD (ua p.count)) p.index (i,p.b)),max s.next (p.k+1)⟩
noncomputable def scanN (f:Nat→List Int):Nat→Scan
 | 0=>⟨[],1⟩
 | n+1=>scanStep C (scanN f n) n (f n)
noncomputable def firstP (f:Nat→List Int) (K:zx) (j:Nat):Nat→Option (Nat × List Int)
 | 0=>none
 | n+1=>match firstP f K j n with
  | some x=>some x
  | none=>match saidP C (f n) with
   | some p=>if p.k=K.k∧p.count=K.count∧p.index=j then some (n,p.b) else none
   | none=>none
variable {C}
theorem Vl {f:Nat→List Int} {K:zx} {j:Nat}:∀{n i:Nat} {b:List Int},firstP C f K j n=some (i,b)→i<n∧saidP C (f i)=some ⟨K.k,j,K.count,b⟩
 | 0,i,b,h=>by simp[firstP] at h
 | n+1,i,b,h=>by
  unfold firstP at h
  cases e:firstP C f K j n with
  | some x=>
   rw[e] at h
   cases h
   obtain⟨h1,h2⟩:=Vl e
   exact⟨by omega,h2⟩
  | none=>
   rw[e] at h;simp only at h
   cases e2:saidP C (f n) with
   | none=>rw[e2] at h;cases h
   | some p=>
    rw[e2] at h;simp only at h
    split at h
    ·rename_i hh
     cases h
     obtain⟨h1,h2,h3⟩:=hh;refine⟨by omega,?_⟩
     rw[e2]
     cases p
     simp_all
    ·cases h
theorem zal {f:Nat→List Int} {K:zx} {j:Nat}:∀{n:Nat},firstP C f K j n=none→∀i,i<n→∀b,saidP C (f i)≠some ⟨K.k,j,K.count,b⟩
 | 0,h,i,hi,b=>by omega
 | n+1,h,i,hi,b=>by
  unfold firstP at h
  cases e:firstP C f K j n with
  | some x=>rw[e] at h;cases h
  | none=>
   rw[e] at h
   rcases Nat.lt_or_ge i n with hl|hl
   ·exact zal e i hl b
   ·obtain rfl:i=n:=by omega
    intro e2;simp only[e2] at h;simp at h
structure ze5 (C:List Int→Nat) (f:Nat→List Int) (n:Nat) (K:zx) (r:xm):Prop where
 l1:r.cells.length=K.count
 l2:r.there.length=K.count
 yes:∀j,j<K.count→∀x,firstP C f K j n=some x→r.there[j]? = some true∧r.cells[j]? = some x
 no:∀j,j<K.count→firstP C f K j n=none→r.there[j]? = some false
structure ScanOk (C:List Int→Nat) (f:Nat→List Int) (n:Nat) (s:Scan):Prop where
 nd:(s.rows.map (·.1)).Nodup
 row:∀K r,zw s.rows K=some r→ze5 C f n K r
 out:∀K,zw s.rows K=none→∀j,firstP C f K j n=none
 c:∀K r,zw s.rows K=some r→1≤K.count∧K.count≤570∧1≤K.k
 nx:1≤s.next
 lt:∀i,i<n→∀p,saidP C (f i)=some p→p.k<s.next
theorem zko (f:Nat→List Int) (n:Nat) (K:zx) (h:∀j,firstP C f K j n=none):ze5 C f n K (ua K.count):=
 ⟨by simp[ua],by simp[ua],fun j _ x hx=>(by rw[h j] at hx;cases hx),fun j hj _=>by simp[ua,hj]⟩
theorem Xq {f:Nat→List Int} {K:zx} {j n:Nat} {p:Prt} (hs:saidP C (f n)=some p) (h:¬(p.k=K.k∧p.count=K.count∧p.index=j)):firstP C f K j (n+1)=firstP C f K j n:=by
 conv=>lhs;unfold firstP
 cases e:firstP C f K j n with
 | some x=>rfl
 | none=>simp only[hs];rw[if_neg h]
theorem Xp {f:Nat→List Int} {K:zx} {j n:Nat} (hs:saidP C (f n)=none):firstP C f K j (n+1)=firstP C f K j n:=by
 conv=>lhs;unfold firstP
 cases e:firstP C f K j n with
 | some x=>rfl
 | none=>simp only[hs]
theorem zhp {f:Nat→List Int} {n:Nat} {p:Prt} (hs:saidP C (f n)=some p):firstP C f ⟨p.k,p.count⟩ p.index (n+1)=some ((firstP C f ⟨p.k,p.count⟩ p.index n).getD (n,p.b)):=by
 conv=>lhs;unfold firstP
 cases e:firstP C f ⟨p.k,p.count⟩ p.index n with
 | some x=>rfl
 | none=>simp only[hs];simp
theorem zkp {f:Nat→List Int} {n:Nat} {p:Prt} {r:xm} (hs:saidP C (f n)=some p) (h:ze5 C f n ⟨p.k,p.count⟩ r):ze5 C f (n+1) ⟨p.k,p.count⟩ (qq r p.index (n,p.b)):=by
 have hi:=(vw hs).1.i1;have hhit:=zhp hs;have hoth:∀j,j≠p.index→firstP C f ⟨p.k,p.count⟩ j (n+1)=firstP C f ⟨p.k,p.count⟩ j n:=fun j hj=>Xq hs (fun e=>hj e.2.2.symm)
 cases e:firstP C f ⟨p.k,p.count⟩ p.index n with
 | some x=>
  obtain⟨h1,h2⟩:=h.yes p.index hi x e;have er:qq r p.index (n,p.b)=r:=by unfold qq;rw[if_pos (by rw[List.getD_eq_getElem?_getD,h1];rfl)]
  rw[er];rw[e] at hhit;refine⟨h.l1,h.l2,fun j hj x' hx'=>?_,fun j hj hn=>?_⟩
  ·by_cases hji:j=p.index
   ·subst hji
    rw[hhit] at hx'
    cases hx'
    exact⟨h1,h2⟩
   ·rw[hoth j hji] at hx'
    exact h.yes j hj x' hx'
  ·by_cases hji:j=p.index
   ·subst hji
    rw[hhit] at hn;cases hn
   ·rw[hoth j hji] at hn
    exact h.no j hj hn
 | none=>
  have h1:=h.no p.index hi e;have er:qq r p.index (n,p.b)=⟨r.cells.set p.index (n,p.b),r.there.set p.index true⟩:=by unfold qq;rw[if_neg (by rw[List.getD_eq_getElem?_getD,h1];simp)]
  rw[er];rw[e] at hhit;simp only[Option.getD_none] at hhit;have hl1:=h.l1;have hl2:=h.l2;simp only at hl1 hl2;refine⟨by simp[hl1],by simp[hl2],fun j hj x' hx'=>?_,fun j hj hn=>?_⟩
  ·by_cases hji:j=p.index
   ·subst hji
    rw[hhit] at hx'
    cases hx'
    exact⟨by simp[List.getElem?_set,hl2,hi],by simp[List.getElem?_set,hl1,hi]⟩
   ·rw[hoth j hji] at hx'
    obtain⟨g1,g2⟩:=h.yes j hj x' hx'
    exact⟨by simp only[List.getElem?_set];rw[if_neg (fun e=>hji e.symm)];exact g1,by simp only[List.getElem?_set];rw[if_neg (fun e=>hji e.symm)];exact g2⟩
  ·by_cases hji:j=p.index
   ·subst hji
    rw[hhit] at hn;cases hn
   ·rw[hoth j hji] at hn
    simp only[List.getElem?_set];rw[if_neg (fun e=>hji e.symm)]
    exact h.no j hj hn
theorem zb0 {K V:Type} [DecidableEq K] {m:List (K × V)} (h:(m.map (·.1)).Nodup) (k:K) (v:V):((yj m k v).map (·.1)).Nodup:=by
 cases e:zw m k with
 | none=>
  have hn:=qj.1 e;rw[Zn hn,List.map_append];refine List.nodup_append.2 ⟨h,by simp,fun a ha b hb e2=>?_⟩
  simp at hb;subst hb e2;obtain⟨q,hq,rfl⟩:=List.mem_map.1 ha
  exact hn q hq rfl
 | some u=>
  have hm:=uo e;obtain⟨j,hj,hjj⟩:=List.getElem_of_mem hm;have:=zeg h (j:=j) (p:=(k,u)) (by rw[List.getElem?_eq_getElem hj,hjj]) v
  simp only at this;rw[this,List.map_set];have e3:(m.map (·.1)).set j k=m.map (·.1):=by
   apply List.ext_getElem?
   intro i;rw[List.getElem?_set]
   split
   ·rename_i hi
    subst hi;simp[hj,hjj]
   ·rfl
  rw[e3]
  exact h
theorem jy (f:Nat→List Int):∀n,ScanOk C f n (scanN C f n)
 | 0=>⟨by simp[scanN],fun K r h=>by simp[scanN,zw] at h,fun K _ j=>rfl,fun K r h=>by simp[scanN,zw] at h,Int.le_refl _,fun i hi=>by omega⟩
 | n+1=>by
  have ih:=jy f n;unfold scanN scanStep
  cases hs:saidP C (f n) with
  | none=>
   refine⟨ih.nd,fun K r h=>?_,fun K h j=>?_,ih.c,ih.nx,fun i hi p hp=>?_⟩
   ·have h0:=ih.row K r h
    exact⟨h0.l1,h0.l2,fun j hj x hx=>h0.yes j hj x (by rwa [Xp hs] at hx),fun j hj hn=>h0.no j hj (by rwa [Xp hs] at hn)⟩
   ·rw[Xp hs];exact ih.out K h j
   ·rcases Nat.lt_or_ge i n with hl|hl
    ·exact ih.lt i hl p hp
    ·obtain rfl:i=n:=by omega
     rw[hs] at hp;cases hp
  | some p=>
   have hm:=(vw hs).1;simp only;refine⟨zb0 ih.nd _ _,fun K r h=>?_,fun K h j=>?_,fun K r h=>?_,?_,fun i hi q hq=>?_⟩
   ·by_cases hK:K=⟨p.k,p.count⟩
    ·subst hK
     simp only at h;rw[xt] at h
     cases h
     refine zkp hs ?_
     cases e:zw (scanN C f n).rows ⟨p.k,p.count⟩ with
     | none=>exact zko f n _ (ih.out _ e)
     | some r0=>exact ih.row _ r0 e
    ·simp only at h
     rw[vq _ _ hK] at h;have h0:=ih.row K r h;have hne:∀j,firstP C f K j (n+1)=firstP C f K j n:=fun j=>Xq hs (fun e=>hK (by cases K;simp only at e;rw[zx.mk.injEq];exact⟨e.1.symm,e.2.1.symm⟩))
     exact⟨h0.l1,h0.l2,fun j hj x hx=>h0.yes j hj x (by rwa [hne] at hx),fun j hj hn=>h0.no j hj (by rwa [hne] at hn)⟩
   ·by_cases hK:K=⟨p.k,p.count⟩
    ·subst hK
     simp only at h;rw[xt] at h;cases h
    ·simp only at h
     rw[vq _ _ hK] at h;rw[Xq hs (fun e=>hK (by cases K;simp only at e;rw[zx.mk.injEq];exact⟨e.1.symm,e.2.1.symm⟩))]
     exact ih.out K h j
   ·by_cases hK:K=⟨p.k,p.count⟩
    ·subst hK
     exact⟨hm.c1,hm.c2,hm.k1⟩
    ·simp only at h
     rw[vq _ _ hK] at h
     exact ih.c K r h
   ·exact Int.le_trans ih.nx (Int.le_max_left _ _)
   ·rcases Nat.lt_or_ge i n with hl|hl
    ·have:=ih.lt i hl q hq
     simp only;omega
    ·obtain rfl:i=n:=by omega
     rw[hs] at hq
     cases hq
     simp only;omega
theorem zae {f:Nat→List Int} {n:Nat} {K:zx} {r:xm} (h:ze5 C f n K r):r.whole=true↔∀j,j<K.count→(firstP C f K j n).isSome=true:=by
 unfold xm.whole;simp only[Bool.not_eq_true',List.contains_eq_mem,decide_eq_false_iff_not]
 constructor
 ·intro hn j hj
  cases e:firstP C f K j n with
  | some x=>rfl
  | none=>exact absurd (List.mem_of_getElem? (h.no j hj e)) hn
 ·intro hall hm
  obtain⟨j,hj,hjj⟩:=List.getElem_of_mem hm;have hjc:j<K.count:=by rw[←h.l2];exact hj
  obtain⟨x,hx⟩:=Option.isSome_iff_exists.1 (hall j hjc);have:=(h.yes j hjc x hx).1;rw[List.getElem?_eq_getElem hj,hjj] at this
  cases this
end
def uc (b:List Int) (j:Nat):List Int:=(b.drop (j*230)).take 230
theorem Jo (b:List Int) (j:Nat):(uc b j).length=min 230 (b.length-j*230):=by simp[uc]
theorem zah (b:List Int):∀n,(List.range n).flatMap (uc b)=b.take (n*230)
 | 0=>by simp
 | n+1=>by
  rw[List.range_succ,List.flatMap_append,zah b n];simp only[List.flatMap_cons,List.flatMap_nil,List.append_nil,uc];rw[show(n+1)*230=n*230+230 by omega,List.take_add]
theorem zhm (b:List Int):(List.range (zt b.length)).flatMap (uc b)=b:=by
 rw[zah,List.take_of_length_le];unfold zt;omega
theorem uq (n:Nat):1≤zt n:=by unfold zt;omega
theorem Ue {k:Int} (h1:1≤k) (h2:k≤4611686018427387904) {b:List Int} (hb:b.length≤131072) {j:Nat} (hj:j<zt b.length):Jm ⟨k,j,zt b.length,uc b j⟩:=by
 have hl:=Jo b j;have hp:zt b.length=max 1 (b.length / 230+min 1 (b.length%230)):=rfl;refine⟨h1,h2,uq _,by show zt b.length≤570;omega,hj,by show(uc b j).length≤230;omega,fun h=>?_,fun h=>?_⟩
 ·simp only at h ⊢
  omega
 ·simp only at h ⊢
  have e:j*230+(uc b j).length=b.length:=by omega
  rw[e]
  exact⟨hb,h.symm ▸ rfl⟩
section
variable (C : List Int → Nat)
structure vf (f:Nat→List Int) (N:Nat) (all:List (Int × List Int)) (blk:Int→List Nat) (next:Int):Prop where
 srt:(all.map (·.1)).Pairwise (·< ·)
 len:∀q∈all,q.2.length≤131072
 bln:∀q∈all,(blk q.1).length=zt q.2.length
 blt:∀q∈all,∀i∈blk q.1,i<N
 at_:∀q∈all,∀j i,(blk q.1)[j]? = some i→saidP C (f i)=some ⟨q.1,j,zt q.2.length,uc q.2 j⟩
 only:∀i,i<N→∀p,saidP C (f i)=some p→∀q∈all,q.1=p.k→p.count=zt q.2.length∧(blk q.1)[p.index]? = some i
 part:∀i,i<N→∀p,saidP C (f i)=some p→(∀q∈all,q.1≠p.k)→∀c,1≤c→∃j,j<c∧∀i',i'<N→∀b,saidP C (f i')≠some ⟨p.k,j,c,b⟩
 lt:∀i,i<N→∀p,saidP C (f i)=some p→p.k<next
 pos:1≤next
 clean:∀i,i<N→f i=zz∨∃p,saidP C (f i)=some p
variable {C}
variable {f f' : Nat → List Int} {N : Nat} {all : List (Int × List Int)} {blk : Int → List Nat} {next : Int}
theorem vf.key (h:vf C f N all blk next) {q:Int × List Int} (hq:q∈all):1≤q.1∧q.1<next:=by
 have hl:=h.bln q hq;have hp:=uq q.2.length;obtain⟨i,hi⟩:∃i,(blk q.1)[0]? = some i:=⟨_,List.getElem?_eq_getElem (by omega)⟩
 have h1:=h.at_ q hq 0 i hi;have h2:=h.blt q hq i (List.mem_of_getElem? hi)
 exact⟨(vw h1).1.k1,h.lt i h2 _ h1⟩
theorem vf.uniq (h:vf C f N all blk next) {q q':Int × List Int} (hq:q∈all) (hq':q'∈all) (e:q.1=q'.1):q=q':=by
 obtain⟨i,hi,rfl⟩:=List.getElem_of_mem hq;obtain⟨j,hj,rfl⟩:=List.getElem_of_mem hq';have hs:=h.srt;rw[List.pairwise_iff_getElem] at hs
 rcases Nat.lt_trichotomy i j with hl|hl|hl
 ·have:=hs i j (by simpa using hi) (by simpa using hj) hl
  simp at this;omega
 ·subst hl;rfl
 ·have:=hs j i (by simpa using hj) (by simpa using hi) hl
  simp at this;omega
theorem vf.apart (h:vf C f N all blk next) {q q':Int × List Int} (hq:q∈all) (hq':q'∈all) {i:Nat} (hi:i∈blk q.1) (hi':i∈blk q'.1):q=q':=by
 obtain⟨a,ha⟩:=List.getElem?_of_mem hi;obtain⟨b,hb⟩:=List.getElem?_of_mem hi';have h1:=h.at_ q hq a i ha;have h2:=h.at_ q' hq' b i hb;rw[h1] at h2;have:=congrArg Prt.k (Option.some.inj h2)
 exact h.uniq hq hq' this
theorem vf.up (h:vf C f N all blk next) {m:Int} (hm:next≤m):vf C f N all blk m:=
 ⟨h.srt,h.len,h.bln,h.blt,h.at_,h.only,h.part,fun i hi p hp=>Int.lt_of_lt_of_le (h.lt i hi p hp) hm,Int.le_trans h.pos hm,h.clean⟩
theorem vf.to (h:vf C f N all blk next) {m:Int} (hm:1≤m) (hl:∀i,i<N→∀p,saidP C (f i)=some p→p.k<m):vf C f N all blk m:=
 ⟨h.srt,h.len,h.bln,h.blt,h.at_,h.only,h.part,hl,hm,h.clean⟩
theorem vf.same (h:vf C f N all blk next) (e:∀i,i<N→f' i=f i):vf C f' N all blk next:=
 ⟨h.srt,h.len,h.bln,h.blt,fun q hq j i hi=>by rw[e i (h.blt q hq i (List.mem_of_getElem? hi))];exact h.at_ q hq j i hi,
 fun i hi p hp=>h.only i hi p (by rwa [e i hi] at hp),fun i hi p hp hn c hc=>by
  obtain⟨j,hj,hj2⟩:=h.part i hi p (by rwa [e i hi] at hp) hn c hc
  exact⟨j,hj,fun i' hi' b=>by rw[e i' hi'];exact hj2 i' hi' b⟩,
 fun i hi p hp=>h.lt i hi p (by rwa [e i hi] at hp),h.pos,fun i hi=>by rw[e i hi];exact h.clean i hi⟩
theorem zly (N:Nat) (hf:∀i,i<N→f i=zz):vf C f N [] (fun _=>[]) 1:=
 have hz:∀i,i<N→saidP C (f i)=none:=fun i hi=>by rw[hf i hi];exact qs (by simp[zz])
 ⟨by simp,by simp,by simp,by simp,by simp,by simp,fun i hi p hp=>(by rw[hz i hi] at hp;cases hp),fun i hi p hp=>(by rw[hz i hi] at hp;cases hp),Int.le_refl _,fun i hi=>Or.inl (hf i hi)⟩
theorem vf.put (h:vf C f N all blk next) (hN:next≤4611686018427387904) {b:List Int} (hb:b.length≤131072) {fr:List Nat} (hfl:fr.length=zt b.length) (hfn:fr.Nodup) (hfN:∀i∈fr,i<N) (hff:∀q∈all,∀i∈fr,i ∉ blk q.1)
  (hout:∀i,i<N→i ∉ fr→f' i=f i) (hin:∀j i,fr[j]? = some i→f' i=f i∨f' i=zz∨f' i=vp C ⟨next,j,zt b.length,uc b j⟩) :
  vf C f' N all blk (next+1)∨((∀j i,fr[j]? = some i→f' i=vp C ⟨next,j,zt b.length,uc b j⟩)∧vf C f' N (all ++ [(next,b)]) (fun k=>if k=next then fr else blk k) (next+1)):=by
 have hz:saidP C zz=none:=qs (by simp[zz])
 have hnw:∀j,j<zt b.length→saidP C (vp C ⟨next,j,zt b.length,uc b j⟩)=some ⟨next,j,zt b.length,uc b j⟩:=fun j hj=>zgl (Ue h.pos hN hb hj)
 -- what a block says behind it
 have hsay:∀i,i<N→∀p,saidP C (f' i)=some p→saidP C (f i)=some p∨(∃j,fr[j]? = some i∧p=⟨next,j,zt b.length,uc b j⟩):=fun i hi p hp=>by
  by_cases hm:i∈fr
  ·obtain⟨j,hj⟩:=List.getElem?_of_mem hm
   have hjl:j<zt b.length:=by rw[←hfl];exact(List.getElem?_eq_some_iff.1 hj).1
   rcases hin j i hj with e|e|e
   ·left;rwa [e] at hp
   ·rw[e,hz] at hp;cases hp
   ·right
    rw[e,hnw j hjl] at hp
    cases hp
    exact⟨j,hj,rfl⟩
  ·left;rwa [hout i hi hm] at hp
 have hold:∀q∈all,∀i∈blk q.1,f' i=f i:=fun q hq i hi=>hout i (h.blt q hq i hi) (fun hm=>hff q hq i hm hi)
 have hlt:∀i,i<N→∀p,saidP C (f' i)=some p→p.k<next+1:=fun i hi p hp=>by
  rcases hsay i hi p hp with h1|⟨j,_,rfl⟩
  ·have:=h.lt i hi p h1;omega
  ·show next<next+1;omega
 have hcl:∀i,i<N→f' i=zz∨∃p,saidP C (f' i)=some p:=fun i hi=>by
  by_cases hm:i∈fr
  ·obtain⟨j,hj⟩:=List.getElem?_of_mem hm
   have hjl:j<zt b.length:=by rw[←hfl];exact(List.getElem?_eq_some_iff.1 hj).1
   rcases hin j i hj with e|e|e
   ·rw[e];exact h.clean i hi
   ·exact Or.inl e
   ·right;rw[e];exact⟨_,hnw j hjl⟩
  ·rw[hout i hi hm];exact h.clean i hi
 have hkn:∀q∈all,q.1≠next:=fun q hq e=>by have:=(h.key hq).2;omega
 by_cases hall:∀j i,fr[j]? = some i→f' i=vp C ⟨next,j,zt b.length,uc b j⟩
 ·right
  refine⟨hall,?_⟩;have hbk:∀q∈all,(if q.1=next then fr else blk q.1)=blk q.1:=fun q hq=>if_neg (hkn q hq)
  refine⟨?_,fun q hq=>?_,fun q hq=>?_,fun q hq=>?_,fun q hq j i hi=>?_,fun i hi p hp q hq e=>?_,fun i hi p hp hn c hc=>?_,hlt,by have:=h.pos;omega,hcl⟩
  ·rw[List.map_append,List.pairwise_append]
   refine⟨h.srt,by simp,fun a ha c hc=>?_⟩
   obtain⟨q,hq,rfl⟩:=List.mem_map.1 ha;simp at hc;subst hc
   exact(h.key hq).2
  ·rcases List.mem_append.1 hq with hq|hq
   ·exact h.len q hq
   ·rw[List.mem_singleton.1 hq];exact hb
  ·rcases List.mem_append.1 hq with hq|hq
   ·simp only[hbk q hq];exact h.bln q hq
   ·rw[List.mem_singleton.1 hq];simp only[if_true];exact hfl
  ·rcases List.mem_append.1 hq with hq|hq
   ·simp only[hbk q hq];exact h.blt q hq
   ·rw[List.mem_singleton.1 hq];simp only[if_true];exact hfN
  ·rcases List.mem_append.1 hq with hq|hq
   ·simp only[hbk q hq] at hi
    rw[hold q hq i (List.mem_of_getElem? hi)]
    exact h.at_ q hq j i hi
   ·rw[List.mem_singleton.1 hq] at hi ⊢
    simp only[if_true] at hi;rw[hall j i hi]
    exact hnw j (by rw[←hfl];exact(List.getElem?_eq_some_iff.1 hi).1)
  ·rcases hsay i hi p hp with h1|⟨j,hj,rfl⟩
   ·rcases List.mem_append.1 hq with hq|hq
    ·simp only[hbk q hq];exact h.only i hi p h1 q hq e
    ·rw[List.mem_singleton.1 hq] at e
     have:=h.lt i hi p h1;simp only at e;omega
   ·rcases List.mem_append.1 hq with hq|hq
    ·exact absurd e (hkn q hq)
    ·rw[List.mem_singleton.1 hq]
     simp only[if_true]
     exact⟨trivial,hj⟩
  ·rcases hsay i hi p hp with h1|⟨j,hj,rfl⟩
   ·obtain⟨j,hj,hj2⟩:=h.part i hi p h1 (fun q hq=>hn q (List.mem_append_left _ hq)) c hc
    refine⟨j,hj,fun i' hi' b' e=>?_⟩
    rcases hsay i' hi' _ e with h2|⟨j',_,h3⟩
    ·exact hj2 i' hi' b' h2
    ·have:=congrArg Prt.k h3
     simp only at this
     exact hn (next,b) (by simp) this.symm
   ·exact absurd rfl (hn (next,b) (by simp))
 ·left
  -- some part of it did not come
  obtain⟨j0,i0,hj0,hne⟩:∃j i,fr[j]? = some i∧f' i≠vp C ⟨next,j,zt b.length,uc b j⟩:=by
   apply Classical.byContradiction
   intro hno
   exact hall fun j i hji=>Classical.byContradiction fun hne=>hno ⟨j,i,hji,hne⟩
  have hj0l:j0<zt b.length:=by rw[←hfl];exact(List.getElem?_eq_some_iff.1 hj0).1
  refine⟨h.srt,h.len,h.bln,h.blt,fun q hq j i hi=>?_,fun i hi p hp q hq e=>?_,fun i hi p hp hn c hc=>?_,hlt,by have:=h.pos;omega,hcl⟩
  ·rw[hold q hq i (List.mem_of_getElem? hi)];exact h.at_ q hq j i hi
  ·rcases hsay i hi p hp with h1|⟨j,hj,rfl⟩
   ·exact h.only i hi p h1 q hq e
   ·exact absurd e (hkn q hq)
  ·rcases hsay i hi p hp with h1|⟨j,hj,rfl⟩
   ·obtain⟨j,hj,hj2⟩:=h.part i hi p h1 hn c hc
    refine⟨j,hj,fun i' hi' b' e=>?_⟩
    rcases hsay i' hi' _ e with h2|⟨j',_,h3⟩
    ·exact hj2 i' hi' b' h2
    ·have h4:=congrArg Prt.k h3
     simp only at h4;have:=h.lt i hi p h1;omega
   ·by_cases hcc:c=zt b.length
    ·subst hcc
     refine⟨j0,hj0l,fun i' hi' b' e=>?_⟩
     rcases hsay i' hi' _ e with h2|⟨j',hj',h3⟩
     ·have:=h.lt i' hi' _ h2
      simp only at this;omega
     ·have h4:=congrArg Prt.index h3
      simp only at h4;subst h4;rw[hj0] at hj'
      cases hj'
      rcases hin j0 i0 hj0 with e2|e2|e2
      ·rw[e2] at e
       have:=h.lt i0 hi' _ e;simp only at this;omega
      ·rw[e2,hz] at e;cases e
      ·exact hne e2
    ·refine⟨0,by omega,fun i' hi' b' e=>?_⟩
     rcases hsay i' hi' _ e with h2|⟨j',hj',h3⟩
     ·have:=h.lt i' hi' _ h2
      simp only at this;omega
     ·have h4:=congrArg Prt.count h3
      simp only at h4
      exact hcc h4
theorem vf.rem (h:vf C f N all blk next) {q0:Int × List Int} (hq0:q0∈all) {i0:Nat} (hi0:(blk q0.1)[0]? = some i0) (hz0:f' i0=zz) (hout:∀i,i<N→i≠i0→f' i=f i) :
  vf C f' N (all.filter fun q=>decide (q.1≠q0.1)) blk next:=by
 have hz:saidP C zz=none:=qs (by simp[zz])
 have hsay:∀i,i<N→∀p,saidP C (f' i)=some p→i≠i0∧saidP C (f i)=some p:=fun i hi p hp=>by
  by_cases hm:i=i0
  ·rw[hm,hz0,hz] at hp;cases hp
  ·exact⟨hm,by rwa [hout i hi hm] at hp⟩
 have hsub:∀q∈all.filter (fun q=>decide (q.1≠q0.1)),q∈all∧q.1≠q0.1:=fun q hq=>by simpa using hq
 refine⟨?_,fun q hq=>h.len q (hsub q hq).1,fun q hq=>h.bln q (hsub q hq).1,fun q hq=>h.blt q (hsub q hq).1,fun q hq j i hi=>?_,fun i hi p hp q hq e=>?_,fun i hi p hp hn c hc=>?_,fun i hi p hp=>h.lt i hi p (hsay i hi p hp).2,h.pos,fun i hi=>?_⟩
 ·exact h.srt.sublist (List.Sublist.map _ List.filter_sublist)
 ·have hne:i≠i0:=fun e=>(hsub q hq).2 (by rw[h.apart (hsub q hq).1 hq0 (List.mem_of_getElem? hi) (e ▸ List.mem_of_getElem? hi0)])
  rw[hout i (h.blt q (hsub q hq).1 i (List.mem_of_getElem? hi)) hne]
  exact h.at_ q (hsub q hq).1 j i hi
 ·exact h.only i hi p (hsay i hi p hp).2 q (hsub q hq).1 e
 ·obtain⟨hne,h1⟩:=hsay i hi p hp
  by_cases hk:q0.1=p.k
  ·refine⟨0,by omega,fun i' hi' b' e=>?_⟩
   obtain⟨hne',h2⟩:=hsay i' hi' _ e;have:=(h.only i' hi' _ h2 q0 hq0 hk).2;simp only at this;rw[hi0] at this
   cases this
   exact hne' rfl
  ·obtain⟨j,hj,hj2⟩:=h.part i hi p h1 (fun q hq e=>by
    refine hn q (List.mem_filter.2 ⟨hq,by simp;intro e2;exact hk (by omega)⟩) e) c hc
   exact⟨j,hj,fun i' hi' b' e=>hj2 i' hi' b' (hsay i' hi' _ e).2⟩
 ·by_cases hm:i=i0
  ·left;rw[hm];exact hz0
  ·rw[hout i hi hm];exact h.clean i hi
end
def ud (r:xm):List Int:=r.cells.flatMap (·.2)
def xp (r:xm):List Nat:=r.cells.map (·.1)
def Qr (rows:List (zx × xm)):List zx→List (Int × (List Int × List Nat))→List (Int × (List Int × List Nat))
 | [],acc=>acc
 | K :: t,acc=>match zw rows K with
  | none=>Qr rows t acc
  | some r=>if (zw acc K.k).isSome=true∨r.whole=false then Qr rows t acc else Qr rows t (yj acc K.k (ud r,xp r))
def Vo (a b:zx):Prop:=a.k<b.k∨(a.k=b.k∧a.count<b.count)
section
variable {C : List Int → Nat} {f : Nat → List Int} {N : Nat} {all : List (Int × List Int)} {blk : Int → List Nat} {next : Int}
theorem zd2 (h:vf C f N all blk next) {K:zx} {r:xm} (hr:zw (scanN C f N).rows K=some r) (hw:r.whole=true) :
  ∃q∈all,q.1=K.k∧K.count=zt q.2.length∧ud r=q.2∧xp r=blk q.1:=by
 have hs:=jy (C:=C) f N;have hro:=hs.row K r hr;obtain⟨c1,c2,c3⟩:=hs.c K r hr;have hall:=(zae hro).1 hw;have hpart:∀j,j<K.count→∃i b,firstP C f K j N=some (i,b)∧i<N∧saidP C (f i)=some ⟨K.k,j,K.count,b⟩:=fun j hj=>by
  obtain⟨⟨i,b⟩,hx⟩:=Option.isSome_iff_exists.1 (hall j hj);obtain⟨h1,h2⟩:=Vl hx
  exact⟨i,b,hx,h1,h2⟩
 obtain⟨i0,b0,_,hi0,hs0⟩:=hpart 0 (by omega)
 have hex:∃q∈all,q.1=K.k:=by
  apply Classical.byContradiction
  intro hno;obtain⟨j,hj,hj2⟩:=h.part i0 hi0 _ hs0 (fun q hq e=>hno ⟨q,hq,e⟩) K.count c1
  obtain⟨i,b,_,hi,hsi⟩:=hpart j hj
  exact hj2 i hi b hsi
 obtain⟨q,hq,hqk⟩:=hex;have hcount:=(h.only i0 hi0 _ hs0 q hq hqk).1;simp only at hcount;have hcell:∀j,j<K.count→∃i,(blk q.1)[j]? = some i∧r.cells[j]? = some (i,uc q.2 j):=fun j hj=>by
  obtain⟨i,b,hx,hi,hsi⟩:=hpart j hj;have h1:=(h.only i hi _ hsi q hq hqk).2;simp only at h1;have h2:=h.at_ q hq j i h1;rw[hsi] at h2;have h3:=congrArg Prt.b (Option.some.inj h2);simp only at h3;rw[←h3]
  exact⟨i,h1,(hro.yes j hj _ hx).2⟩
 have hbl:(blk q.1).length=K.count:=by rw[h.bln q hq,hcount]
 have e1:r.cells=(List.range K.count).map fun j=>((blk q.1).getD j 0,uc q.2 j):=by
  apply List.ext_getElem?
  intro j
  rcases Nat.lt_or_ge j K.count with hj|hj
  ·obtain⟨i,h1,h2⟩:=hcell j hj
   rw[h2,List.getElem?_map,List.getElem?_range hj];simp[List.getD_eq_getElem?_getD,h1]
  ·rw[List.getElem?_eq_none (by rw[hro.l1];exact hj),List.getElem?_eq_none (by simp;exact hj)]
 refine⟨q,hq,hqk,hcount,?_,?_⟩
 ·unfold ud
  rw[e1,List.flatMap_map];simp only;rw[hcount]
  exact zhm q.2
 ·unfold xp
  rw[e1,List.map_map]
  apply List.ext_getElem?
  intro j
  rcases Nat.lt_or_ge j K.count with hj|hj
  ·obtain⟨i,h1,h2⟩:=hcell j hj
   rw[List.getElem?_map,List.getElem?_range hj,h1];simp[List.getD_eq_getElem?_getD,h1]
  ·rw[List.getElem?_eq_none (by simp;exact hj),List.getElem?_eq_none (by rw[hbl];exact hj)]
theorem zkj (h:vf C f N all blk next) {q:Int × List Int} (hq:q∈all):∃r,zw (scanN C f N).rows ⟨q.1,zt q.2.length⟩=some r∧r.whole=true:=by
 have hs:=jy (C:=C) f N;have hbl:=h.bln q hq;have hsome:∀j,j<zt q.2.length→(firstP C f ⟨q.1,zt q.2.length⟩ j N).isSome=true:=fun j hj=>by
  obtain⟨i,hi⟩:∃i,(blk q.1)[j]? = some i:=⟨_,List.getElem?_eq_getElem (by omega)⟩
  cases e:firstP C f ⟨q.1,zt q.2.length⟩ j N with
  | some x=>rfl
  | none=>exact absurd (h.at_ q hq j i hi) (zal e i (h.blt q hq i (List.mem_of_getElem? hi)) _)
 cases e:zw (scanN C f N).rows ⟨q.1,zt q.2.length⟩ with
 | none=>
  have:=hsome 0 (by have:=uq q.2.length;omega)
  rw[hs.out _ e 0] at this
  cases this
 | some r=>exact⟨r,rfl,(zae (hs.row _ r e)).2 hsome⟩
def Qk (rows:List (zx × xm)) (K:zx):Option (Int × (List Int × List Nat)):=match zw rows K with
 | none=>none
 | some r=>if r.whole=true then some (K.k,(ud r,xp r)) else none
theorem jf {K V:Type} [DecidableEq K] {m:List (K × V)} {k:K} (h:zw m k=none) (v:V):yj m k v=m ++ [(k,v)]:=Zn (qj.1 h) v
theorem Qt (rows:List (zx × xm)):∀(ks:List zx) (acc:List (Int × (List Int × List Nat))),(∀K∈ks,(Qk rows K).isSome=true→zw acc K.k=none)→((ks.filterMap (Qk rows)).map (·.1)).Nodup→Qr rows ks acc=acc++ks.filterMap (Qk rows)
 | [],acc,_,_=>by simp[Qr]
 | K :: t,acc,h1,h2=>by
  unfold Qr
  cases e:zw rows K with
  | none=>
   have eg:Qk rows K=none:=by simp[Qk,e]
   rw[List.filterMap_cons_none eg] at h2 ⊢
   exact Qt rows t acc (fun K' hK'=>h1 K' (List.mem_cons_of_mem _ hK')) h2
  | some r=>
   cases hw:r.whole with
   | false=>
    have eg:Qk rows K=none:=by simp[Qk,e,hw]
    simp only;rw[if_pos (Or.inr hw)];rw[List.filterMap_cons_none eg] at h2 ⊢
    exact Qt rows t acc (fun K' hK'=>h1 K' (List.mem_cons_of_mem _ hK')) h2
   | true=>
    have eg:Qk rows K=some (K.k,(ud r,xp r)):=by simp[Qk,e,hw]
    have hn:=h1 K (by simp) (by rw[eg];rfl)
    simp only;rw[if_neg (by rw[hn,hw];simp)]
    rw[List.filterMap_cons_some eg] at h2 ⊢;simp only[List.map_cons,List.nodup_cons] at h2;rw[jf hn,Qt rows t _ (fun K' hK' hs=>?_) h2.2,List.append_assoc]
    ·rfl
    ·have hk:K'.k≠K.k:=fun ek=>h2.1 (by
      obtain⟨y,hy⟩:=Option.isSome_iff_exists.1 hs;refine List.mem_map.2 ⟨y,List.mem_filterMap.2 ⟨K',hK',hy⟩,?_⟩;have:y.1=K'.k:=by
       unfold Qk at hy
       split at hy
       ·cases hy
       ·split at hy
        ·cases hy;rfl
        ·cases hy
      rw[this,ek])
     have:=h1 K' (List.mem_cons_of_mem _ hK') hs;rw[←jf hn,vq _ _ hk]
     exact this
theorem zas {α:Type} (g:α→Int):∀{l1 l2:List α},l1.Pairwise (fun a b=>g a<g b)→l2.Pairwise (fun a b=>g a<g b)→(∀x,x∈l1↔x∈l2)→l1=l2
 | [],l2,_,_,h=>by
  cases l2 with
  | nil=>rfl
  | cons a r=>exact absurd ((h a).2 (by simp)) (by simp)
 | a :: r,l2,h1,h2,h=>by
  cases l2 with
  | nil=>exact absurd ((h a).1 (by simp)) (by simp)
  | cons b t=>
   rw[List.pairwise_cons] at h1 h2;have hab:a=b:=by
    rcases List.mem_cons.1 ((h a).1 (by simp)) with e|e
    ·exact e
    ·rcases List.mem_cons.1 ((h b).2 (by simp)) with e2|e2
     ·exact e2.symm
     ·have:=h1.1 b e2;have:=h2.1 a e;omega
   subst hab
   congr 1
   refine zas g h1.2 h2.2 fun x=>⟨fun hx=>?_,fun hx=>?_⟩
   ·rcases List.mem_cons.1 ((h x).1 (by simp[hx])) with e|e
    ·have:=h1.1 x hx;subst e;omega
    ·exact e
   ·rcases List.mem_cons.1 ((h x).2 (by simp[hx])) with e|e
    ·have:=h2.1 x hx;subst e;omega
    ·exact e
theorem zjx (h:vf C f N all blk next) {ks:List zx} (hks:∀K,K∈ks↔∃r,zw (scanN C f N).rows K=some r) (hsrt:ks.Pairwise Vo):Qr (scanN C f N).rows ks []=all.map fun q=>(q.1,(q.2,blk q.1)):=by
 have hgot:∀K y,Qk (scanN C f N).rows K=some y→∃q∈all,q.1=K.k∧K.count=zt q.2.length∧y=(q.1,(q.2,blk q.1)):=fun K y hy=>by
  unfold Qk at hy
  cases e:zw (scanN C f N).rows K with
  | none=>rw[e] at hy;cases hy
  | some r=>
   rw[e] at hy;simp only at hy
   split at hy
   ·rename_i hw
    cases hy
    obtain⟨q,hq,h1,h2,h3,h4⟩:=zd2 h e hw
    exact⟨q,hq,h1,h2,by rw[h3,h4,h1]⟩
   ·cases hy
 have hfm:(ks.filterMap (Qk (scanN C f N).rows)).Pairwise (fun a b=>a.1<b.1):=by
  rw[List.pairwise_filterMap];refine hsrt.imp_of_mem fun {K K'} hK hK' hlt y hy y' hy'=>?_
  obtain⟨q,hq,h1,h2,rfl⟩:=hgot K y hy;obtain⟨q',hq',h1',h2',rfl⟩:=hgot K' y' hy';simp only
  rcases hlt with hl|⟨hl,hc⟩
  ·omega
  ·have:=h.uniq hq hq' (by omega)
   subst this;omega
 rw[Qt _ ks [] (fun K _ _=>rfl) (by
  rw[List.nodup_iff_pairwise_ne,List.pairwise_map]
  exact hfm.imp fun hlt e=>by omega)]
 rw[List.nil_append];refine zas (fun y=>y.1) hfm ?_ fun y=>⟨fun hy=>?_,fun hy=>?_⟩
 ·rw[List.pairwise_map]
  have:=h.srt;rw[List.pairwise_map] at this
  exact this
 ·obtain⟨K,hK,hy2⟩:=List.mem_filterMap.1 hy
  obtain⟨q,hq,h1,h2,rfl⟩:=hgot K y hy2
  exact List.mem_map.2 ⟨q,hq,rfl⟩
 ·obtain⟨q,hq,rfl⟩:=List.mem_map.1 hy
  obtain⟨r,hr,hw⟩:=zkj h hq;obtain⟨q',hq',h1,h2,h3,h4⟩:=zd2 h hr hw;have:=h.uniq hq' hq h1;subst this;refine List.mem_filterMap.2 ⟨_,(hks _).2 ⟨r,hr⟩,?_⟩;unfold Qk;rw[hr];simp only;rw[if_pos hw,h3,h4]
end
end Go.Proofs.YtbcbhlfjgobejaaGreat
