/- What the document's opening makes of any disk: the same records: plain laws, no program. Conditions: none, or as the theorems say. -/
import Derived.Test.YtbcbhlfjgobejaaGreatS18
import Derived.Test.YtbcbhlfjgobejaaGreatS5
set_option linter.unusedSimpArgs false
set_option linter.unusedVariables false
namespace Go.Proofs.YtbcbhlfjgobejaaGreat
set_option maxHeartbeats 200000000
open Go.Sf
variable {d:Dk} {k:Int} {c i n:Nat}
section
variable (C : List Int → Nat)
noncomputable def findR (f:Nat→List Int) (N:Nat) (k:Int) (c:Nat):Nat→Option ye
 | 0=>some ([],[])
 | j+1=>match findR f N k c j with
  | none=>none
  | some r=>match firstP C f ⟨k,c⟩ j N with
   | none=>none
   | some x=>some (r.1++x.2,r.2 ++ [x.1])
def jp:List (Int × ye)→Int × ye→List (Int × ye)
 | [],r=>[r]
 | x :: t,r=>if x.1=r.1 then (if r.2.2.length<x.2.2.length then r else x) :: t else if r.1<x.1 then r :: x :: t else x :: jp t r
noncomputable def openR (f:Nat→List Int) (N:Nat):Nat→List (Int × ye)
 | 0=>[]
 | n+1=>match saidP C (f n) with
  | none=>openR f N n
  | some p=>if p.index=0 then match findR C f N p.k p.count p.count with
    | none=>openR f N n
    | some r=>jp (openR f N n) (p.k,r)
   else openR f N n
noncomputable def nextR (f:Nat→List Int):Nat→Int
 | 0=>1
 | n+1=>match saidP C (f n) with
  | none=>max (nextR f n) 1
  | some p=>max (nextR f n) (p.k+1)
variable {C}
variable {f : Nat → List Int} {N : Nat}
theorem zah:∀n,nextR C f n=(scanN C f n).next
 | 0=>rfl
 | n+1=>by
  unfold nextR scanN scanStep
  cases e:saidP C (f n) with
  | none=>
   simp only;rw[zah n];have:=(qv (C:=C) f n).nx;omega
  | some p=>simp only;rw[zah n]
theorem zff {r:xr} (h:ze3 C f N ⟨k,c⟩ r):∀j,j≤c→findR C f N k c j=if (∀i,i<j→r.there[i]? = some true) then some ((r.cells.take j).flatMap (·.2),(r.cells.take j).map (·.1)) else none
 | 0,_=>by simp[findR]
 | j+1,hj=>by
  unfold findR;rw[zff h j (by omega)]
  by_cases hall:∀i,i<j→r.there[i]? = some true
  ·rw[if_pos hall]
   simp only
   cases e:firstP C f ⟨k,c⟩ j N with
   | none=>
    have:=h.no j (by show j<c;omega) e
    rw[if_neg (λg=>by have:=g j (by omega);simp_all)]
   | some x=>
    obtain⟨h1,h2⟩:=h.yes j (by show j<c;omega) x e
    rw[if_pos (λi hi=>by
     rcases Nat.lt_or_ge i j with g|g
     ·exact hall i g
     ·obtain rfl:i=j:=by omega
      exact h1)]
    obtain⟨g1,g2⟩:=List.getElem?_eq_some_iff.1 h2;rw[List.take_succ_eq_append_getElem g1,g2];simp
  ·rw[if_neg hall]
   simp only;rw[if_neg (λg=>hall λi hi=>g i (by omega))]
theorem Vx (h:firstP C f ⟨k,c⟩ 0 N=none):∀j,1≤j→findR C f N k c j=none
 | 0,hj=>by omega
 | 1,_=>by unfold findR findR;simp[h]
 | j+2,_=>by
  unfold findR;rw[Vx h (j+1) (by omega)]
theorem zaa (k:Int) (c:Nat) (hc:1≤c):Yt (scanN C f N).rows ⟨k,c⟩=findR C f N k c c:=by
 have hs:=qv (C:=C) f N;unfold Yt
 cases e:zw (scanN C f N).rows ⟨k,c⟩ with
 | none=>
  simp only;rw[Vx (hs.out _ e 0) c hc]
 | some r=>
  have hro:=hs.row _ r e;have l1:=hro.l1;have l2:=hro.l2;simp only at l1 l2 ⊢;rw[zff hro c (Nat.le_refl _),List.take_of_length_le (by omega)]
  unfold xr.whole vp xo;have:(!r.there.contains false)=true↔∀i,i<c→r.there[i]? = some true:=by
   simp only[Bool.not_eq_true',List.contains_eq_mem,decide_eq_false_iff_not]
   constructor
   ·intro hn i hi
    have hil:i<r.there.length:=by omega
    rw[List.getElem?_eq_getElem hil]
    cases e2:r.there[i] with
    | true=>rfl
    | false=>exact absurd (e2 ▸ List.getElem_mem hil) hn
   ·intro hall hm
    obtain⟨i,hi,hii⟩:=List.getElem_of_mem hm;have:=hall i (by omega)
    rw[List.getElem?_eq_getElem hi,hii] at this
    cases this
  by_cases hw:(!r.there.contains false)=true
  ·rw[if_pos hw,if_pos (this.1 hw)]
  ·rw[if_neg hw,if_neg (λg=>hw (this.2 g))]
theorem zh4 (k:Int):Yt (scanN C f N).rows ⟨k,0⟩=none:=by
 have hs:=qv (C:=C) f N;unfold Yt
 cases e:zw (scanN C f N).rows ⟨k,0⟩ with
 | none=>rfl
 | some r=>have:=(hs.c _ r e).1;simp only at this;omega
theorem Zj:∀j r,findR C f N k c j=some r→r.2.length=j
 | 0,r,h=>by
  unfold findR at h
  cases h;rfl
 | j+1,r,h=>by
  unfold findR at h
  cases e:findR C f N k c j with
  | none=>rw[e] at h;cases h
  | some r0=>
   rw[e] at h;simp only at h;have ih:=Zj j r0 e
   split at h
   ·cases h
   ·cases h;simp[ih]
def Met (C:List Int→Nat) (f:Nat→List Int) (n:Nat) (k:Int) (c:Nat):Prop:=∃i,i<n∧∃b,saidP C (f i)=some ⟨k,0,c,b⟩
structure zob (C:List Int→Nat) (f:Nat→List Int) (N n:Nat) (L:List (Int × ye)):Prop where
 srt:L.Pairwise (λa b=>a.1<b.1)
 mem:∀y,y∈L↔∃c,Met C f n y.1 c∧findR C f N y.1 c c=some y.2∧∀c',c'<c→Met C f n y.1 c'→findR C f N y.1 c' c'=none
theorem add_srt {L:List (Int × ye)} {r:Int × ye} (h:L.Pairwise (λa b=>a.1<b.1)):(jp L r).Pairwise (λa b=>a.1<b.1)∧∀y∈jp L r,y∈L∨y=r:=by
 induction L with
 | nil=>simp[jp]
 | cons x t ih=>
  rw[List.pairwise_cons] at h;obtain⟨h1,h2⟩:=ih h.2;unfold jp
  split
  ·rename_i hx
   split
   ·refine⟨?_,λy hy=>?_⟩
    ·rw[List.pairwise_cons];exact⟨λy hy=>by have:=h.1 y hy;omega,h.2⟩
    ·rcases List.mem_cons.1 hy with e|e
     ·exact Or.inr e
     ·exact Or.inl (List.mem_cons_of_mem _ e)
   ·exact⟨List.pairwise_cons.2 h,λy hy=>Or.inl hy⟩
  ·split
   ·rename_i h3 h4
    refine⟨?_,λy hy=>?_⟩
    ·rw[List.pairwise_cons,List.pairwise_cons]
     exact⟨λy hy=>by
      rcases List.mem_cons.1 hy with e|e
      ·rw[e];exact h4
      ·have:=h.1 y e;omega,h⟩
    ·rcases List.mem_cons.1 hy with e|e
     ·exact Or.inr e
     ·exact Or.inl e
   ·rename_i h3 h4
    refine⟨?_,λy hy=>?_⟩
    ·rw[List.pairwise_cons]
     exact⟨λy hy=>by
      rcases h2 y hy with e|e
      ·exact h.1 y e
      ·rw[e];omega,h1⟩
    ·rcases List.mem_cons.1 hy with e|e
     ·left;simp[e]
     ·rcases h2 y e with g|g
      ·left;simp[g]
      ·exact Or.inr g
theorem add_mem {L:List (Int × ye)} {r:Int × ye} (h:L.Pairwise (λa b=>a.1<b.1)) (y:Int × ye) :
  y∈jp L r↔(y∈L∧(y.1=r.1→¬r.2.2.length<y.2.2.length))∨(y=r∧∀z∈L,z.1=r.1→r.2.2.length<z.2.2.length):=by
 induction L with
 | nil=>simp[jp]
 | cons x t ih=>
  rw[List.pairwise_cons] at h;have ih:=ih h.2;unfold jp
  by_cases hx:x.1=r.1
  ·have ht:∀z∈t,z.1≠r.1:=λz hz e=>by have:=h.1 z hz;omega
   rw[if_pos hx]
   by_cases hl:r.2.2.length<x.2.2.length
   ·rw[if_pos hl,List.mem_cons]
    constructor
    ·rintro(rfl|h1)
     ·right
      refine⟨rfl,λz hz e=>?_⟩
      rcases List.mem_cons.1 hz with g|g
      ·rw[g];exact hl
      ·exact absurd e (ht z g)
     ·exact Or.inl ⟨List.mem_cons_of_mem _ h1,λe=>absurd e (ht y h1)⟩
    ·rintro(⟨h1,h2⟩|⟨h1,_⟩)
     ·rcases List.mem_cons.1 h1 with g|g
      ·rw[g] at h2;exact absurd hl (h2 hx)
      ·exact Or.inr g
     ·exact Or.inl h1
   ·rw[if_neg hl,List.mem_cons]
    constructor
    ·rintro(rfl|h1)
     ·exact Or.inl ⟨Or.inl rfl,λ_=>hl⟩
     ·exact Or.inl ⟨Or.inr h1,λe=>absurd e (ht y h1)⟩
    ·rintro(⟨h1,_⟩|⟨_,h2⟩)
     ·exact h1
     ·exact absurd (h2 x (by simp) hx) hl
  ·rw[if_neg hx]
   by_cases hl:r.1<x.1
   ·have ht:∀z∈x :: t,z.1≠r.1:=λz hz e=>by
     rcases List.mem_cons.1 hz with g|g
     ·rw[g] at e;exact hx e
     ·have:=h.1 z g;omega
    rw[if_pos hl,List.mem_cons]
    constructor
    ·rintro(rfl|h1)
     ·exact Or.inr ⟨rfl,λz hz e=>absurd e (ht z hz)⟩
     ·exact Or.inl ⟨h1,λe=>absurd e (ht y h1)⟩
    ·rintro(⟨h1,_⟩|⟨h1,_⟩)
     ·exact Or.inr h1
     ·exact Or.inl h1
   ·rw[if_neg hl,List.mem_cons,ih]
    constructor
    ·rintro(rfl|⟨h1,h2⟩|⟨h1,h2⟩)
     ·exact Or.inl ⟨by simp,λe=>absurd e hx⟩
     ·exact Or.inl ⟨List.mem_cons_of_mem _ h1,h2⟩
     ·refine Or.inr ⟨h1,λz hz e=>?_⟩
      rcases List.mem_cons.1 hz with g|g
      ·rw[g] at e;exact absurd e hx
      ·exact h2 z g e
    ·rintro(⟨h1,h2⟩|⟨h1,h2⟩)
     ·rcases List.mem_cons.1 h1 with g|g
      ·exact Or.inl g
      ·exact Or.inr (Or.inl ⟨g,h2⟩)
     ·exact Or.inr (Or.inr ⟨h1,λz hz=>h2 z (List.mem_cons_of_mem _ hz)⟩)
theorem Jg (hs:∀c b k,saidP C (f n)≠some ⟨k,0,c,b⟩) (k:Int) (c:Nat):Met C f (n+1) k c↔Met C f n k c:=by
 constructor
 ·rintro⟨i,hi,b,hb⟩
  rcases Nat.lt_or_ge i n with h|h
  ·exact⟨i,h,b,hb⟩
  ·obtain rfl:i=n:=by omega
   exact absurd hb (hs c b k)
 ·rintro⟨i,hi,b,hb⟩;exact⟨i,by omega,b,hb⟩
theorem Vo {p:Prt} (hs:saidP C (f n)=some p) (h0:p.index=0) (k:Int) (c:Nat):Met C f (n+1) k c↔Met C f n k c∨(k=p.k∧c=p.count):=by
 constructor
 ·rintro⟨i,hi,b,hb⟩
  rcases Nat.lt_or_ge i n with h|h
  ·exact Or.inl ⟨i,h,b,hb⟩
  ·obtain rfl:i=n:=by omega
   rw[hs] at hb;have:=Option.some.inj hb
   exact Or.inr ⟨by rw[this],by rw[this]⟩
 ·rintro(⟨i,hi,b,hb⟩|⟨rfl,rfl⟩)
  ·exact⟨i,by omega,b,hb⟩
  ·exact⟨n,by omega,p.b,by rw[hs];cases p;simp_all⟩
theorem zak (f:Nat→List Int) (N:Nat):∀n,zob C f N n (openR C f N n)
 | 0=>⟨by simp[openR],λy=>by simp[openR,Met]⟩
 | n+1=>by
  have ih:=zak f N n;have same:(∀k c,Met C f (n+1) k c→findR C f N k c c≠none→Met C f n k c)→(∀k c,Met C f n k c→Met C f (n+1) k c)→zob C f N (n+1) (openR C f N n):=λh1 h2=>by
   refine⟨ih.srt,λy=>(ih.mem y).trans ⟨?_,?_⟩⟩
   ·rintro⟨c,a1,a2,a3⟩
    refine⟨c,h2 _ _ a1,a2,λc' hc' hm=>?_⟩
    cases e:findR C f N y.1 c' c' with
    | none=>rfl
    | some r=>rw[a3 c' hc' (h1 _ _ hm (by rw[e];simp))] at e;cases e
   ·rintro⟨c,a1,a2,a3⟩
    exact⟨c,h1 _ _ a1 (by rw[a2];simp),a2,λc' hc' hm=>a3 c' hc' (h2 _ _ hm)⟩
  have up:∀k c,Met C f n k c→Met C f (n+1) k c:=λk c ⟨i,hi,b,hb⟩=>⟨i,by omega,b,hb⟩
  unfold openR
  cases hs:saidP C (f n) with
  | none=>exact same (λk c hm _=>(Jg (λc b k e=>by rw[hs] at e;cases e) k c).1 hm) up
  | some p=>
   simp only
   by_cases h0:p.index=0
   ·rw[if_pos h0]
    cases hf:findR C f N p.k p.count p.count with
    | none=>
     exact same (λk c hm hne=>((Vo hs h0 k c).1 hm).resolve_right (λe=>hne (by rw[e.1,e.2,hf]))) up
    | some r=>
     simp only;refine⟨(add_srt ih.srt).1,λy=>?_⟩
     rw[add_mem ih.srt,ih.mem];dsimp only;have hrl:=Zj _ _ hf
     constructor
     ·rintro(⟨⟨c,a1,a2,a3⟩,hk⟩|⟨rfl,hz⟩)
      ·refine⟨c,up _ _ a1,a2,λc' hc' hm=>?_⟩
       rcases(Vo hs h0 _ _).1 hm with g|⟨g1,g2⟩
       ·exact a3 c' hc' g
       ·have:=hk g1
        have hyl:=Zj _ _ a2;omega
      ·refine⟨p.count,(Vo hs h0 _ _).2 (Or.inr ⟨rfl,rfl⟩),hf,λc' hc' hm=>?_⟩
       rcases(Vo hs h0 _ _).1 hm with g|⟨g1,g2⟩
       ·cases e:findR C f N p.k c' c' with
        | none=>rfl
        | some r'=>
         exfalso
         -- the least such count stands in the row
         have:∀m,∀c',c'=m→c'<p.count→Met C f n p.k c'→(findR C f N p.k c' c').isSome=true→False:=by
          intro m
          induction m using Nat.strongRecOn with
          | ind m ihm=>
           intro c1 hc1 hlt hm1 hs1;obtain⟨r1,hr1⟩:=Option.isSome_iff_exists.1 hs1
           by_cases hmin:∀c2,c2<c1→Met C f n p.k c2→findR C f N p.k c2 c2=none
           ·have:=hz (p.k,r1) ((ih.mem _).2 ⟨c1,hm1,hr1,hmin⟩) rfl
            have h3:=Zj _ _ hr1;simp only at this;omega
           ·simp only[Classical.not_forall] at hmin
            obtain⟨c2,b1,b2,b3⟩:=hmin
            exact ihm c2 (by omega) c2 rfl (by omega) b2 (by
             cases e5:findR C f N p.k c2 c2 with
             | none=>exact absurd e5 b3
             | some _=>rfl)
         exact this c' c' rfl hc' g (by rw[e];rfl)
       ·omega
     ·rintro⟨c,a1,a2,a3⟩
      rcases(Vo hs h0 _ _).1 a1 with g|⟨g1,g2⟩
      ·left
       refine⟨⟨c,g,a2,λc' hc' hm=>a3 c' hc' (up _ _ hm)⟩,λhk hl=>?_⟩
       have hyl:=Zj _ _ a2;have:=a3 p.count (by omega) ((Vo hs h0 _ _).2 (Or.inr ⟨hk,rfl⟩))
       rw[hk,hf] at this
       cases this
      ·by_cases hin:∃c0,Met C f n y.1 c0∧findR C f N y.1 c0 c0=some y.2∧∀c',c'<c0→Met C f n y.1 c'→findR C f N y.1 c' c'=none
       ·left
        refine⟨hin,λhk hl=>?_⟩
        obtain⟨c0,d1,d2,d3⟩:=hin;have h5:=Zj _ _ d2;have h6:=Zj _ _ a2;omega
       ·right
        refine⟨?_,λz hz hzk=>?_⟩
        ·obtain⟨y1,y2⟩:=y
         simp only at g1 a2;subst g1 g2;rw[hf] at a2;rw[Option.some.inj a2]
        ·obtain⟨c0,d1,d2,d3⟩:=(ih.mem z).1 hz
         have h5:=Zj _ _ d2;rw[hrl,h5]
         rcases Nat.lt_trichotomy p.count c0 with hl|hl|hl
         ·exact hl
         ·exfalso
          apply hin
          refine⟨c0,by rw[g1,←hzk];exact d1,?_,λc' hc' hm=>a3 c' (by omega) (up _ _ hm)⟩
          rw[←a2,g2,hl]
         ·exfalso
          have:=a3 c0 (by omega) (up _ _ (by rw[g1,←hzk];exact d1))
          rw[g1,←hzk,d2] at this
          cases this
   ·rw[if_neg h0]
    exact same (λk c hm _=>(Jg (λc b k e=>by
     rw[hs] at e
     exact h0 (by rw[Option.some.inj e])) k c).1 hm) up
theorem zm4 (f:Nat→List Int) (N:Nat):zda (Yt (scanN C f N).rows) (openR C f N N):=by
 have h:=zak (C:=C) f N N;refine⟨h.srt,λy=>(h.mem y).trans ⟨?_,?_⟩⟩
 ·rintro⟨c,a1,a2,a3⟩
  have hc:1≤c:=by
   obtain⟨i,hi,b,hb⟩:=a1
   exact(yr hb).1.c1
  refine⟨c,by rw[zaa _ _ hc];exact a2,λc' hc'=>?_⟩
  rcases Nat.eq_zero_or_pos c' with h0|h0
  ·rw[h0];exact zh4 _
  ·rw[zaa _ _ h0]
   by_cases hm:Met C f N y.1 c'
   ·exact a3 c' hc' hm
   ·refine Vx ?_ c' h0
    cases e:firstP C f ⟨y.1,c'⟩ 0 N with
    | none=>rfl
    | some x=>
     obtain⟨i,b⟩:=x;obtain⟨g1,g2⟩:=Zc e
     exact absurd ⟨i,g1,b,g2⟩ hm
 ·rintro⟨c,a1,a2⟩
  have hc:1≤c:=by
   rcases Nat.eq_zero_or_pos c with h0|h0
   ·rw[h0,zh4] at a1;cases a1
   ·exact h0
  rw[zaa _ _ hc] at a1;refine⟨c,?_,a1,λc' hc' hm=>?_⟩
  ·cases e:firstP C f ⟨y.1,c⟩ 0 N with
   | none=>rw[Vx e c hc] at a1;cases a1
   | some x=>
    obtain⟨i,b⟩:=x;obtain⟨g1,g2⟩:=Zc e
    exact⟨i,g1,b,g2⟩
  ·rcases Nat.eq_zero_or_pos c' with h0|h0
   ·exfalso
    obtain⟨i,hi,b,hb⟩:=hm;have:=(yr hb).1.c1;simp only at this;omega
   ·rw[←zaa _ _ h0];exact a2 c' hc'
end
structure zc9 where
 settled:List Int
 late:List (Nat × List Int)
structure RDk where
 blocks:List zc9
 done:Int
 well:Int
 gone:Bool
def ue (i:Nat):Nat→List (Int × List Int)→List (Nat × List Int)
 | _,[]=>[]
 | j,w :: r=>if w.1=(i:Int) then (j,w.2) :: ue i (j+1) r else ue i (j+1) r
theorem Qc (i:Nat):∀(l:List (Int × List Int)) (j:Nat) (w:Int × List Int),ue i j (l ++ [w])=ue i j l++(if w.1=(i:Int) then [(j+l.length,w.2)] else [])
 | [],j,w=>by simp[ue]
 | a :: l,j,w=>by
  simp only[List.cons_append,ue];have ih:=Qc i l (j+1) w;have e:j+1+l.length=j+(a :: l).length:=by simp;omega
  rw[e] at ih
  split <;> rw[ih] <;> simp
def Zr (fates:List Int) (l:List (Nat × List Int)) (x:List Int):List Int:=l.foldl (λx w=>vq (um fates w.1) w.2 x) x
theorem zce (fates:List Int) (i:Nat):∀(j:Nat) (ws m:List (Int × List Int)),bk (qp fates j ws m) i=Zr fates (ue i j ws) (bk m i)
 | j,[],m=>rfl
 | j,w :: r,m=>by
  unfold qp ue;rw[zce fates i (j+1) r]
  by_cases h:w.1=(i:Int)
  ·rw[if_pos h,h,je]
   rfl
  ·rw[if_neg h]
   congr 1
   unfold bk;rw[uj _ _ (λe=>h e.symm)]
def jo (l:List (Nat × List Int)) (x:List Int):List Int:=match l.getLast? with
 | none=>x
 | some w=>w.2
structure xh (d:Dk) (r:RDk):Prop where
 n:r.blocks.length=d.n
 done:r.done=d.steps
 well:r.well=d.well
 gone:r.gone=d.off
 st:∀i x,r.blocks[i]? = some x→x.settled=bk d.st i∧x.late=ue i 0 d.late
 now:∀i,i<d.n→bk d.now i=jo (ue i 0 d.late) (bk d.st i)
 rng:∀w∈d.late,∃i,i<d.n∧w.1=((i:Nat):Int)
theorem zmu (l:List (Nat × List Int)) (w:Nat × List Int) (x:List Int):jo (l ++ [w]) x=w.2:=by simp[jo]
theorem xh.read {r:RDk} (h:xh d r) {x:zc9} (hx:r.blocks[i]? = some x):bk d.now i=jo x.late x.settled:=by
 obtain⟨h1,h2⟩:=h.st i x hx;rw[h1,h2]
 exact h.now i (by rw[←h.n];exact(List.getElem?_eq_some_iff.1 hx).1)
def yf (r:RDk):Nat:=(r.blocks.map λb=>b.late.length).sum
theorem zl8:∀(n i:Nat),i<n→((List.range n).map λj=>if j=i then 1 else 0).sum=1
 | 0,i,h=>by omega
 | n+1,i,h=>by
  rw[List.range_succ,List.map_append,List.sum_append]
  rcases Nat.lt_or_ge i n with g|g
  ·rw[zl8 n i g]
   simp[show n≠i by omega]
  ·obtain rfl:i=n:=by omega
   have:((List.range i).map λj=>if j=i then 1 else 0).sum=0:=by
    rw[List.sum_eq_zero_iff_forall_eq_nat];intro x hx;obtain⟨j,hj,rfl⟩:=List.mem_map.1 hx;rw[if_neg (by have:=List.mem_range.1 hj;omega)]
   rw[this];simp
theorem zl7 (f g:Nat→Nat):∀l:List Nat,(l.map λj=>f j+g j).sum=(l.map f).sum+(l.map g).sum
 | []=>rfl
 | a :: l=>by simp only[List.map_cons,List.sum_cons,zl7 f g l];omega
theorem zjq (n:Nat):∀(l:List (Int × List Int)) (j:Nat),(∀w∈l,∃i,i<n∧w.1=((i:Nat):Int))→((List.range n).map λi=>(ue i j l).length).sum=l.length
 | [],j,_=>by
  show((List.range n).map λi=>(ue i j []).length).sum=0
  rw[List.sum_eq_zero_iff_forall_eq_nat];intro x hx;obtain⟨i,_,rfl⟩:=List.mem_map.1 hx
  rfl
 | w :: l,j,h=>by
  obtain⟨i0,hi0,hw⟩:=h w (by simp)
  have ih:=zjq n l (j+1) (λw' hw'=>h w' (List.mem_cons_of_mem _ hw'))
  have e:∀i,(ue i j (w :: l)).length=(if i=i0 then 1 else 0)+(ue i (j+1) l).length:=λi=>by
   have e0:ue i j (w :: l)=if w.1=(i:Int) then (j,w.2) :: ue i (j+1) l else ue i (j+1) l:=rfl
   rw[e0]
   by_cases hi:i=i0
   ·rw[if_pos (by rw[hw,hi]),if_pos hi,List.length_cons];omega
   ·rw[if_neg (by rw[hw];omega),if_neg hi];omega
  simp only[e];rw[zl7,zl8 n i0 hi0,ih];simp;omega
theorem xh.open {r:RDk} (h:xh d r):yf r=d.late.length:=by
 have e:r.blocks.map (λb=>b.late.length)=(List.range d.n).map λi=>(ue i 0 d.late).length:=by
  apply List.ext_getElem?
  intro i;rw[List.getElem?_map,List.getElem?_map]
  rcases Nat.lt_or_ge i d.n with hi|hi
  ·obtain⟨x,hx⟩:∃x,r.blocks[i]? = some x:=⟨_,List.getElem?_eq_getElem (by rw[h.n];exact hi)⟩
   rw[hx,List.getElem?_range hi];simp[(h.st i x hx).2]
  ·rw[List.getElem?_eq_none (by rw[h.n];exact hi),List.getElem?_eq_none (by simpa using hi)]
   rfl
 unfold yf;rw[e,zjq d.n d.late 0 h.rng]
def RDk.lay (r:RDk) (i:Nat) (x:List Int):RDk:={ r with blocks:=r.blocks.modify i λb=>⟨b.settled,b.late ++ [(yf r,x)]⟩ }
theorem xh.lay {r:RDk} (h:xh d r) (hi:i<d.n) (x:List Int):xh (d.lay i x) (r.lay i x):=by
 refine⟨by simp[RDk.lay,Dk.lay,h.n],h.done,h.well,h.gone,λj y hy=>?_,λj hj=>?_,λw hw=>?_⟩
 ·simp only[RDk.lay,List.getElem?_modify] at hy
  show y.settled=bk d.st j∧y.late=ue j 0 (d.late ++ [((i:Int),x)])
  rw[Qc]
  cases e:r.blocks[j]? with
  | none=>rw[e] at hy;simp at hy
  | some b=>
   rw[e] at hy;obtain⟨h1,h2⟩:=h.st j b e
   by_cases hij:i=j
   ·subst hij
    simp at hy;subst hy;simp only;rw[if_pos trivial,h.open,h2]
    exact⟨h1,by simp⟩
   ·simp[hij] at hy
    subst hy;rw[if_neg (by omega),List.append_nil]
    exact⟨h1,h2⟩
 ·show bk (yo d.now (i:Int) x) j=jo (ue j 0 (d.late ++ [((i:Int),x)])) (bk d.st j)
  rw[Qc]
  by_cases hij:j=i
  ·subst hij
   rw[je,if_pos rfl,zmu]
  ·rw[Zw _ _ hij,if_neg (by simp only;omega),List.append_nil]
   exact h.now j hj
 ·rcases List.mem_append.1 hw with g|g
  ·exact h.rng w g
  ·rw[List.mem_singleton.1 g];exact⟨i,hi,rfl⟩
theorem xh.settle {r:RDk} (h:xh d r):xh { d with st:=d.now,late:=[] } { r with blocks:=r.blocks.map λb=>⟨jo b.late b.settled,[]⟩ }:=by
 refine⟨by simp[h.n],h.done,h.well,h.gone,λj y hy=>?_,λj hj=>rfl,λw hw=>by simp at hw⟩
 simp only[List.getElem?_map] at hy
 cases e:r.blocks[j]? with
 | none=>rw[e] at hy;simp at hy
 | some b=>
  rw[e] at hy;simp at hy;subst hy
  exact⟨(h.read e).symm,rfl⟩
theorem xh.fates {r:RDk} (h:xh d r) (fates:List Int):xh { d with st:=qp fates 0 d.late d.st,now:=qp fates 0 d.late d.st,late:=[],well:=-1,off:=false } { r with blocks:=r.blocks.map λb=>⟨Zr fates b.late b.settled,[]⟩,well:=-1,gone:=false }:=by
 refine⟨by simp[h.n],h.done,rfl,rfl,λj y hy=>?_,λj hj=>rfl,λw hw=>by simp at hw⟩
 simp only[List.getElem?_map] at hy
 cases e:r.blocks[j]? with
 | none=>rw[e] at hy;simp at hy
 | some b=>
  rw[e] at hy;simp at hy;subst hy;obtain⟨h1,h2⟩:=h.st j b e
  exact⟨by show Zr fates b.late b.settled=bk (qp fates 0 d.late d.st) j;rw[zce,h1,h2],rfl⟩
end Go.Proofs.YtbcbhlfjgobejaaGreat
