/- What an opening finds where the power went amid a Put, or a Remove: plain laws, no program. Conditions: none, or as the theorems say. -/
import Derived.Test.YtbcbhlfjgobejaaGreatI5
set_option linter.unusedSimpArgs false
set_option linter.unusedVariables false
namespace Go.Proofs.YtbcbhlfjgobejaaGreat
set_option maxHeartbeats 200000000
open Go.Sf
section
variable {C : List Int → Nat} {f g : Nat → List Int} {N : Nat} {all : List (Int × List Int)} {blk : Int → List Nat} {next : Int}
theorem zcc (x:List Int):saidP C (scrub C x)=saidP C x:=by
 cases e:saidP C x with
 | none=>
  have:scrub C x=zz:=by unfold scrub;rw[e];rfl
  rw[this]
  exact qs (by simp[zz])
 | some p=>rw[Xs e,e]
theorem Uj (h:∀i,i<N→saidP C (g i)=saidP C (f i)):∀n,n≤N→scanN C g n=scanN C f n
 | 0,_=>rfl
 | n+1,hn=>by
  unfold scanN scanStep;rw[Uj h n (by omega),h n (by omega)]
theorem Qy {M:Int} (hM:1≤M) (h:∀i,i<N→∀p,saidP C (f i)=some p→p.k<M):∀n,n≤N→(scanN C f n).next≤M
 | 0,_=>hM
 | n+1,hn=>by
  have ih:=Qy hM h n (by omega)
  unfold scanN scanStep
  cases e:saidP C (f n) with
  | none=>exact ih
  | some p=>
   have:=h n (by omega) p e
   show max _ _≤M
   omega
theorem vf.opened (h:vf C f N all blk next):vf C f N all blk (scanN C f N).next∧(scanN C f N).next≤next:=
 ⟨h.to (jy f N).nx (jy f N).lt,Qy h.pos h.lt N (Nat.le_refl _)⟩
def xu (C:List Int→Nat) (k:Int) (b:List Int) (fr:List Nat):List (Nat × List Int):=(List.range fr.length).map fun j=>(fr.getD j 0,vp C ⟨k,j,zt b.length,uc b j⟩)
theorem Uh (k:Int) (b:List Int) (fr:List Nat):(xu C k b fr).map (·.1)=fr:=by
 unfold xu;rw[List.map_map]
 apply List.ext_getElem?
 intro j
 rcases Nat.lt_or_ge j fr.length with h|h
 ·rw[List.getElem?_map,List.getElem?_range h,List.getElem?_eq_getElem h]
  simp[List.getD_eq_getElem?_getD,h]
 ·rw[List.getElem?_eq_none (by simpa using h),List.getElem?_eq_none h]
theorem zab {k:Int} {b:List Int} {fr:List Nat} {j i:Nat} (h:fr[j]? = some i):(xu C k b fr)[j]? = some (i,vp C ⟨k,j,zt b.length,uc b j⟩):=by
 unfold xu;have hj:=(List.getElem?_eq_some_iff.1 h).1;rw[List.getElem?_map,List.getElem?_range hj];simp[List.getD_eq_getElem?_getD,h]
theorem zjy (h:vf C f N all blk next) (hN:next≤4611686018427387904) {b:List Int} (hb:b.length≤131072) {fr:List Nat} (hfl:fr.length=zt b.length) (hfn:fr.Nodup) (hfN:∀i∈fr,i<N) (hff:∀q∈all,∀i∈fr,i ∉ blk q.1)
  (st:List (Int × List Int)) (hst:∀i,i<N→bk st i=f i) (fates:List Int) (m:Nat) (hg:∀i,i<N→g i=scrub C (bk (qo fates 0 (qz ((xu C next b fr).take m)) st) i)) :
  vf C g N all blk (next+1)∨vf C g N (all ++ [(next,b)]) (fun k=>if k=next then fr else blk k) (next+1):=by
 have hnd:(((xu C next b fr).take m).map (·.1)).Nodup:=by
  rw[List.map_take,Uh]
  exact List.Nodup.sublist (List.take_sublist _ _) hfn
 have hout:∀i,i<N→i ∉ fr→g i=f i:=fun i hi hm=>by
  rw[hg i hi,Yc _ _ _ _ _ (fun w hw e=>hm (by
   have:w.1∈(xu C next b fr).map (·.1):=List.mem_map.2 ⟨w,List.mem_of_mem_take hw,rfl⟩
   rw[Uh,e] at this
   exact this)),hst i hi]
  exact qt (h.clean i hi)
 have hin:∀j i,fr[j]? = some i→g i=f i∨g i=zz∨g i=vp C ⟨next,j,zt b.length,uc b j⟩:=fun j i hji=>by
  have hjl:j<zt b.length:=by rw[←hfl];exact(List.getElem?_eq_some_iff.1 hji).1
  have hi:=hfN i (List.mem_of_getElem? hji);rw[hg i hi]
  rcases Nat.lt_or_ge j m with hjm|hjm
  ·have hw:((xu C next b fr).take m)[j]? = some (i,vp C ⟨next,j,zt b.length,uc b j⟩):=by
    rw[List.getElem?_take_of_lt hjm];exact zab hji
   have:=Qp fates 0 _ st hnd j _ hw;simp only at this;rw[this,hst i hi]
   exact zkw (h.clean i hi) (Ue h.pos hN hb hjl) (fun p hp=>by have:=h.lt i hi p hp;show p.k≠next;omega) _
  ·left
   rw[Yc _ _ _ _ _ (fun w hw e=>by
    obtain⟨t,ht⟩:=List.getElem?_of_mem hw;have htm:t<m:=by
     rcases Nat.lt_or_ge t m with h1|h1
     ·exact h1
     ·rw[List.getElem?_eq_none (by rw[List.length_take];omega)] at ht;cases ht
    rw[List.getElem?_take_of_lt htm] at ht;have h1:fr[t]? = some i:=by
     have:=congrArg (fun l=>l[t]?) (Uh (C:=C) next b fr)
     simp only[List.getElem?_map,ht,Option.map_some] at this;rw[←this,e]
    obtain⟨g1,g2⟩:=List.getElem?_eq_some_iff.1 h1;obtain⟨g3,g4⟩:=List.getElem?_eq_some_iff.1 hji;have h2:=(List.getElem_inj (i:=t) (j:=j) (h₀:=g1) (h₁:=g3) hfn).1 (g2.trans g4.symm);omega),hst i hi]
   exact qt (h.clean i hi)
 rcases h.put hN hb hfl hfn hfN hff hout hin with h1|⟨_,h1⟩
 ·exact Or.inl h1
 ·exact Or.inr h1
theorem zec (h:vf C f N all blk next) (hN:next≤4611686018427387904) {b:List Int} (hb:b.length≤131072) {fr:List Nat} (hfl:fr.length=zt b.length) (hfn:fr.Nodup) (hfN:∀i∈fr,i<N) (hff:∀q∈all,∀i∈fr,i ∉ blk q.1)
  (hout:∀i,i<N→i ∉ fr→g i=f i) (hin:∀j i,fr[j]? = some i→g i=vp C ⟨next,j,zt b.length,uc b j⟩) :
  vf C g N (all ++ [(next,b)]) (fun k=>if k=next then fr else blk k) (next+1):=by
 rcases h.put hN hb hfl hfn hfN hff hout (fun j i hji=>Or.inr (Or.inr (hin j i hji))) with h1|⟨_,h1⟩
 ·-- then all its parts are there, and none of its records: it can not be
  exfalso
  obtain⟨i0,hi0⟩:∃i,fr[0]? = some i:=⟨_,List.getElem?_eq_getElem (by have:=uq b.length;omega)⟩
  have hs:∀j i,fr[j]? = some i→saidP C (g i)=some ⟨next,j,zt b.length,uc b j⟩:=fun j i hji=>by
   rw[hin j i hji]
   exact zgl (Ue h.pos hN hb (by rw[←hfl];exact(List.getElem?_eq_some_iff.1 hji).1))
  obtain⟨j,hj,hj2⟩:=h1.part i0 (hfN i0 (List.mem_of_getElem? hi0)) _ (hs 0 i0 hi0) (fun q hq e=>by have:=(h.key hq).2;simp only at e;omega) (zt b.length) (uq _)
  obtain⟨i,hi⟩:∃i,fr[j]? = some i:=⟨_,List.getElem?_eq_getElem (by omega)⟩
  exact hj2 i (hfN i (List.mem_of_getElem? hi)) _ (hs j i hi)
 ·exact h1
theorem zjz (h:vf C f N all blk next) {q0:Int × List Int} (hq0:q0∈all) {i0:Nat} (hi0:(blk q0.1)[0]? = some i0)
  (st:List (Int × List Int)) (hst:∀i,i<N→bk st i=f i) (fates:List Int) (hg:∀i,i<N→g i=scrub C (bk (qo fates 0 (qz [(i0,zz)]) st) i)) :
  vf C g N all blk next∨vf C g N (all.filter fun q=>decide (q.1≠q0.1)) blk next:=by
 have hi:=h.blt q0 hq0 i0 (List.mem_of_getElem? hi0);have hout:∀i,i<N→i≠i0→g i=f i:=fun i hi hm=>by
  rw[hg i hi,Yc _ _ _ _ _ (fun w hw e=>by simp at hw;subst hw;exact hm e.symm),hst i hi]
  exact qt (h.clean i hi)
 have hat:=Qp fates 0 [(i0,zz)] st (by simp) 0 _ rfl
 simp only at hat;have e0:=hg i0 hi;rw[hat,hst i0 hi] at e0
 rcases zia (C:=C) (h.clean i0 hi) (Ys fates (0+0)) with e|e
 ·left
  refine h.same fun i hi'=>?_
  by_cases hm:i=i0
  ·rw[hm,e0,e]
  ·exact hout i hi' hm
 ·right
  exact h.rem hq0 hi0 (by rw[e0,e]) hout
end
end Go.Proofs.YtbcbhlfjgobejaaGreat
