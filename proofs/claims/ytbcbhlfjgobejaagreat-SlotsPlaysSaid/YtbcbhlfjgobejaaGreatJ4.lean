/- What an opening finds on a disk: rows of parts: plain laws, no program. Conditions: none, or as the theorems say. -/
import Derived.Test.YtbcbhlfjgobejaaGreatJ3
import Derived.Test.YtbcbhlfjgobejaaGreatJ1
import Derived.Deep.MidRow
import Derived.Deep.WholeRow
import Derived.Great.BuildSlice
import Derived.Laws.CopyOwn
import Derived.Laws.Cover3
import Derived.ChangeKeysEq
set_option linter.unusedSimpArgs false
set_option linter.unusedVariables false
namespace Go.Proofs.YtbcbhlfjgobejaaGreat
set_option maxHeartbeats 200000000
open Go.Sf
structure zr where
 k:Int
 count:Nat
deriving DecidableEq
structure xg where
 cells:List (Nat × List Int)
 there:List Bool
def vt (n:Nat):xg:=⟨List.replicate n (0,[]),List.replicate n false⟩
def qs (r:xg) (j:Nat) (x:Nat × List Int):xg:=if r.there.getD j true=true then r else ⟨r.cells.set j x,r.there.set j true⟩
def xg.whole (r:xg):Bool:=!r.there.contains false
structure Scan where
 rows:List (zr × xg)
 next:Int
section
variable (C : List Int → Nat)
noncomputable def scanStep (s:Scan) (i:Nat) (x:List Int):Scan:=match saidP C x with
 | none=>s
 | some p=>⟨yu s.rows ⟨p.k,p.count⟩ (qs ((zx s.rows ⟨p.k,p.count⟩).getD (vt p.count)) p.index (i,p.b)),max s.next (p.k+1)⟩
noncomputable def scanN (f:Nat→List Int):Nat→Scan
 | 0=>⟨[],1⟩
 | n+1=>scanStep C (scanN f n) n (f n)
noncomputable def firstP (f:Nat→List Int) (K:zr) (j:Nat):Nat→Option (Nat × List Int)
 | 0=>none
 | n+1=>match firstP f K j n with
  | some x=>some x
  | none=>match saidP C (f n) with
   | some p=>if p.k=K.k∧p.count=K.count∧p.index=j then some (n,p.b) else none
   | none=>none
variable {C}
theorem Zg {f:Nat→List Int} {K:zr} {j:Nat}:∀{n i:Nat} {b:List Int},firstP C f K j n=some (i,b)→i<n∧saidP C (f i)=some ⟨K.k,j,K.count,b⟩
 | 0,i,b,h=>by simp[firstP] at h
 | n+1,i,b,h=>by
  unfold firstP at h
  cases e:firstP C f K j n with
  | some x=>
   rw[e] at h
   cases h
   obtain⟨h1,h2⟩:=Zg e
   exact⟨by omega,h2⟩
  | none=>
   rw[e] at h;simp only at h
   cases e2:saidP C (f n) with
   | none=>rw[e2] at h;cases h
   | some p=>
    rw[e2] at h;simp only at h
    split at h
    ·rename_i hh
     cases h
     obtain⟨h1,h2,h3⟩:=hh;refine⟨by omega,?_⟩
     rw[e2]
     cases p
     simp_all
    ·cases h
theorem zfk {f:Nat→List Int} {K:zr} {j:Nat}:∀{n:Nat},firstP C f K j n=none→∀i,i<n→∀b,saidP C (f i)≠some ⟨K.k,j,K.count,b⟩
 | 0,h,i,hi,b=>by omega
 | n+1,h,i,hi,b=>by
  unfold firstP at h
  cases e:firstP C f K j n with
  | some x=>rw[e] at h;cases h
  | none=>
   rw[e] at h
   rcases Nat.lt_or_ge i n with hl|hl
   ·exact zfk e i hl b
   ·obtain rfl:i=n:=by omega
    intro e2;simp only[e2] at h;simp at h
structure zc2 (C:List Int→Nat) (f:Nat→List Int) (n:Nat) (K:zr) (r:xg):Prop where
 l1:r.cells.length=K.count
 l2:r.there.length=K.count
 yes:∀j,j<K.count→∀x,firstP C f K j n=some x→r.there[j]? = some true∧r.cells[j]? = some x
 no:∀j,j<K.count→firstP C f K j n=none→r.there[j]? = some false
structure ScanOk (C:List Int→Nat) (f:Nat→List Int) (n:Nat) (s:Scan):Prop where
 nd:(s.rows.map (·.1)).Nodup
 row:∀K r,zx s.rows K=some r→zc2 C f n K r
 out:∀K,zx s.rows K=none→∀j,firstP C f K j n=none
 c:∀K r,zx s.rows K=some r→1≤K.count∧K.count≤570∧1≤K.k
 nx:1≤s.next
 lt:∀i,i<n→∀p,saidP C (f i)=some p→p.k<s.next
theorem zkf (f:Nat→List Int) (n:Nat) (K:zr) (h:∀j,firstP C f K j n=none):zc2 C f n K (vt K.count):=
 ⟨by simp[vt],by simp[vt],fun j _ x hx=>(by rw[h j] at hx;cases hx),fun j hj _=>by simp[vt,hj]⟩
theorem Xn {f:Nat→List Int} {K:zr} {j n:Nat} {p:Prt} (hs:saidP C (f n)=some p) (h:¬(p.k=K.k∧p.count=K.count∧p.index=j)):firstP C f K j (n+1)=firstP C f K j n:=by
 conv=>lhs;unfold firstP
 cases e:firstP C f K j n with
 | some x=>rfl
 | none=>simp only[hs];rw[if_neg h]
theorem Xm {f:Nat→List Int} {K:zr} {j n:Nat} (hs:saidP C (f n)=none):firstP C f K j (n+1)=firstP C f K j n:=by
 conv=>lhs;unfold firstP
 cases e:firstP C f K j n with
 | some x=>rfl
 | none=>simp only[hs]
theorem zhh {f:Nat→List Int} {n:Nat} {p:Prt} (hs:saidP C (f n)=some p):firstP C f ⟨p.k,p.count⟩ p.index (n+1)=some ((firstP C f ⟨p.k,p.count⟩ p.index n).getD (n,p.b)):=by
 conv=>lhs;unfold firstP
 cases e:firstP C f ⟨p.k,p.count⟩ p.index n with
 | some x=>rfl
 | none=>simp only[hs];simp
theorem zkg {f:Nat→List Int} {n:Nat} {p:Prt} {r:xg} (hs:saidP C (f n)=some p) (h:zc2 C f n ⟨p.k,p.count⟩ r):zc2 C f (n+1) ⟨p.k,p.count⟩ (qs r p.index (n,p.b)):=by
 have hi:=(xi hs).1.i1;have hhit:=zhh hs;have hoth:∀j,j≠p.index→firstP C f ⟨p.k,p.count⟩ j (n+1)=firstP C f ⟨p.k,p.count⟩ j n:=fun j hj=>Xn hs (fun e=>hj e.2.2.symm)
 cases e:firstP C f ⟨p.k,p.count⟩ p.index n with
 | some x=>
  obtain⟨h1,h2⟩:=h.yes p.index hi x e;have er:qs r p.index (n,p.b)=r:=by unfold qs;rw[if_pos (by rw[List.getD_eq_getElem?_getD,h1];rfl)]
  rw[er];rw[e] at hhit;refine⟨h.l1,h.l2,fun j hj x' hx'=>?_,fun j hj hn=>?_⟩
  ·by_cases hji:j=p.index
   ·subst hji
    rw[hhit] at hx'
    cases hx'
    exact⟨h1,h2⟩
   ·rw[hoth j hji] at hx'
    exact h.yes j hj x' hx'
  ·by_cases hji:j=p.index
   ·subst hji
    rw[hhit] at hn;cases hn
   ·rw[hoth j hji] at hn
    exact h.no j hj hn
 | none=>
  have h1:=h.no p.index hi e;have er:qs r p.index (n,p.b)=⟨r.cells.set p.index (n,p.b),r.there.set p.index true⟩:=by unfold qs;rw[if_neg (by rw[List.getD_eq_getElem?_getD,h1];simp)]
  rw[er];rw[e] at hhit;simp only[Option.getD_none] at hhit;have hl1:=h.l1;have hl2:=h.l2;simp only at hl1 hl2;refine⟨by simp[hl1],by simp[hl2],fun j hj x' hx'=>?_,fun j hj hn=>?_⟩
  ·by_cases hji:j=p.index
   ·subst hji
    rw[hhit] at hx'
    cases hx'
    exact⟨by simp[List.getElem?_set,hl2,hi],by simp[List.getElem?_set,hl1,hi]⟩
   ·rw[hoth j hji] at hx'
    obtain⟨g1,g2⟩:=h.yes j hj x' hx'
    exact⟨by simp only[List.getElem?_set];rw[if_neg (fun e=>hji e.symm)];exact g1,by simp only[List.getElem?_set];rw[if_neg (fun e=>hji e.symm)];exact g2⟩
  ·by_cases hji:j=p.index
   ·subst hji
    rw[hhit] at hn;cases hn
   ·rw[hoth j hji] at hn
    simp only[List.getElem?_set];rw[if_neg (fun e=>hji e.symm)]
    exact h.no j hj hn
theorem zb5 {K V:Type} [DecidableEq K] {m:List (K × V)} (h:(m.map (·.1)).Nodup) (k:K) (v:V):((yu m k v).map (·.1)).Nodup:=by
 cases e:zx m k with
 | none=>
  have hn:=ja.1 e;rw[Zj hn,List.map_append];refine List.nodup_append.2 ⟨h,by simp,fun a ha b hb e2=>?_⟩
  simp at hb;subst hb e2;obtain⟨q,hq,rfl⟩:=List.mem_map.1 ha
  exact hn q hq rfl
 | some u=>
  have hm:=qq e;obtain⟨j,hj,hjj⟩:=List.getElem_of_mem hm;have:=zeo h (j:=j) (p:=(k,u)) (by rw[List.getElem?_eq_getElem hj,hjj]) v
  simp only at this;rw[this,List.map_set];have e3:(m.map (·.1)).set j k=m.map (·.1):=by
   apply List.ext_getElem?
   intro i;rw[List.getElem?_set]
   split
   ·rename_i hi
    subst hi;simp[hj,hjj]
   ·rfl
  rw[e3]
  exact h
theorem js (f:Nat→List Int):∀n,ScanOk C f n (scanN C f n)
 | 0=>⟨by simp[scanN],fun K r h=>by simp[scanN,zx] at h,fun K _ j=>rfl,fun K r h=>by simp[scanN,zx] at h,Int.le_refl _,fun i hi=>by omega⟩
 | n+1=>by
  have ih:=js f n;unfold scanN scanStep
  cases hs:saidP C (f n) with
  | none=>
   refine⟨ih.nd,fun K r h=>?_,fun K h j=>?_,ih.c,ih.nx,fun i hi p hp=>?_⟩
   ·have h0:=ih.row K r h
    exact⟨h0.l1,h0.l2,fun j hj x hx=>h0.yes j hj x (by rwa [Xm hs] at hx),fun j hj hn=>h0.no j hj (by rwa [Xm hs] at hn)⟩
   ·rw[Xm hs];exact ih.out K h j
   ·rcases Nat.lt_or_ge i n with hl|hl
    ·exact ih.lt i hl p hp
    ·obtain rfl:i=n:=by omega
     rw[hs] at hp;cases hp
  | some p=>
   have hm:=(xi hs).1;simp only;refine⟨zb5 ih.nd _ _,fun K r h=>?_,fun K h j=>?_,fun K r h=>?_,?_,fun i hi q hq=>?_⟩
   ·by_cases hK:K=⟨p.k,p.count⟩
    ·subst hK
     simp only at h;rw[vm] at h
     cases h
     refine zkg hs ?_
     cases e:zx (scanN C f n).rows ⟨p.k,p.count⟩ with
     | none=>exact zkf f n _ (ih.out _ e)
     | some r0=>exact ih.row _ r0 e
    ·simp only at h
     rw[uo _ _ hK] at h;have h0:=ih.row K r h;have hne:∀j,firstP C f K j (n+1)=firstP C f K j n:=fun j=>Xn hs (fun e=>hK (by cases K;simp only at e;rw[zr.mk.injEq];exact⟨e.1.symm,e.2.1.symm⟩))
     exact⟨h0.l1,h0.l2,fun j hj x hx=>h0.yes j hj x (by rwa [hne] at hx),fun j hj hn=>h0.no j hj (by rwa [hne] at hn)⟩
   ·by_cases hK:K=⟨p.k,p.count⟩
    ·subst hK
     simp only at h;rw[vm] at h;cases h
    ·simp only at h
     rw[uo _ _ hK] at h;rw[Xn hs (fun e=>hK (by cases K;simp only at e;rw[zr.mk.injEq];exact⟨e.1.symm,e.2.1.symm⟩))]
     exact ih.out K h j
   ·by_cases hK:K=⟨p.k,p.count⟩
    ·subst hK
     exact⟨hm.c1,hm.c2,hm.k1⟩
    ·simp only at h
     rw[uo _ _ hK] at h
     exact ih.c K r h
   ·exact Int.le_trans ih.nx (Int.le_max_left _ _)
   ·rcases Nat.lt_or_ge i n with hl|hl
    ·have:=ih.lt i hl q hq
     simp only;omega
    ·obtain rfl:i=n:=by omega
     rw[hs] at hq
     cases hq
     simp only;omega
theorem zk4 {f:Nat→List Int} {n:Nat} {K:zr} {r:xg} (h:zc2 C f n K r):r.whole=true↔∀j,j<K.count→(firstP C f K j n).isSome=true:=by
 unfold xg.whole;simp only[Bool.not_eq_true',List.contains_eq_mem,decide_eq_false_iff_not]
 constructor
 ·intro hn j hj
  cases e:firstP C f K j n with
  | some x=>rfl
  | none=>exact absurd (List.mem_of_getElem? (h.no j hj e)) hn
 ·intro hall hm
  obtain⟨j,hj,hjj⟩:=List.getElem_of_mem hm;have hjc:j<K.count:=by rw[←h.l2];exact hj
  obtain⟨x,hx⟩:=Option.isSome_iff_exists.1 (hall j hjc);have:=(h.yes j hjc x hx).1;rw[List.getElem?_eq_getElem hj,hjj] at this
  cases this
end
def uu (b:List Int) (j:Nat):List Int:=(b.drop (j*230)).take 230
theorem Vt (b:List Int) (j:Nat):(uu b j).length=min 230 (b.length-j*230):=by simp[uu]
theorem Xp (n:Nat):1≤zo n:=by unfold zo;omega
theorem zjw {k:Int} (h1:1≤k) (h2:k≤4611686018427387904) {b:List Int} (hb:b.length≤131072) {j:Nat} (hj:j<zo b.length):zea ⟨k,j,zo b.length,uu b j⟩:=by
 have hl:=Vt b j;have hp:zo b.length=max 1 (b.length / 230+min 1 (b.length%230)):=rfl;refine⟨h1,h2,Xp _,by show zo b.length≤570;omega,hj,by show(uu b j).length≤230;omega,fun h=>?_,fun h=>?_⟩
 ·simp only at h ⊢
  omega
 ·simp only at h ⊢
  have e:j*230+(uu b j).length=b.length:=by omega
  rw[e]
  exact⟨hb,h.symm ▸ rfl⟩
section
variable (C : List Int → Nat)
variable {C}
variable {f f' : Nat → List Int} {N : Nat} {all : List (Int × List Int)} {blk : Int → List Nat} {next : Int}
end
def jb (r:xg):List Int:=r.cells.flatMap (·.2)
def uh (r:xg):List Nat:=r.cells.map (·.1)
def Uh (rows:List (zr × xg)):List zr→List (Int × (List Int × List Nat))→List (Int × (List Int × List Nat))
 | [],acc=>acc
 | K :: t,acc=>match zx rows K with
  | none=>Uh rows t acc
  | some r=>if (zx acc K.k).isSome=true∨r.whole=false then Uh rows t acc else Uh rows t (yu acc K.k (jb r,uh r))
def Ye (a b:zr):Prop:=a.k<b.k∨(a.k=b.k∧a.count<b.count)
section
variable {C : List Int → Nat} {f : Nat → List Int} {N : Nat} {all : List (Int × List Int)} {blk : Int → List Nat} {next : Int}
theorem Ug {K V:Type} [DecidableEq K] {m:List (K × V)} {k:K} (h:zx m k=none) (v:V):yu m k v=m ++ [(k,v)]:=Zj (ja.1 h) v
theorem zau {α:Type} (g:α→Int):∀{l1 l2:List α},l1.Pairwise (fun a b=>g a<g b)→l2.Pairwise (fun a b=>g a<g b)→(∀x,x∈l1↔x∈l2)→l1=l2
 | [],l2,_,_,h=>by
  cases l2 with
  | nil=>rfl
  | cons a r=>exact absurd ((h a).2 (by simp)) (by simp)
 | a :: r,l2,h1,h2,h=>by
  cases l2 with
  | nil=>exact absurd ((h a).1 (by simp)) (by simp)
  | cons b t=>
   rw[List.pairwise_cons] at h1 h2;have hab:a=b:=by
    rcases List.mem_cons.1 ((h a).1 (by simp)) with e|e
    ·exact e
    ·rcases List.mem_cons.1 ((h b).2 (by simp)) with e2|e2
     ·exact e2.symm
     ·have:=h1.1 b e2;have:=h2.1 a e;omega
   subst hab
   congr 1
   refine zau g h1.2 h2.2 fun x=>⟨fun hx=>?_,fun hx=>?_⟩
   ·rcases List.mem_cons.1 ((h x).1 (by simp[hx])) with e|e
    ·have:=h1.1 x hx;subst e;omega
    ·exact e
   ·rcases List.mem_cons.1 ((h x).2 (by simp[hx])) with e|e
    ·have:=h2.1 x hx;subst e;omega
    ·exact e
end
structure Dk where
 n:Nat
 st:List (Int × List Int)
 now:List (Int × List Int)
 late:List (Int × List Int)
 steps:Int
 well:Int
 off:Bool
def bk (m:List (Int × List Int)) (i:Nat):List Int:=(zx m (i:Int)).getD zv
def vr (b:List Int):List Int:=b++List.replicate (256-b.length) 0
def Dk.went (d:Dk):Dk:={ d with steps:=d.steps+1,well:=max (-1) (d.well-1) }
def Dk.gone (d:Dk):Dk:={ d with steps:=d.steps+1,well:=-1,off:=true }
def Dk.stepB (d:Dk):Bool:=decide (d.well≠0)
def Dk.lay (d:Dk) (i:Nat) (x:List Int):Dk:={ d with late:=d.late ++ [((i:Int),x)],now:=yu d.now (i:Int) x }
def Dk.write (d:Dk) (i:Nat) (x:List Int):Dk:=if (d.lay i x).stepB=true then (d.lay i x).went else (d.lay i x).gone
def Dk.wrote (d:Dk):Bool:=d.stepB
def Dk.sync (d:Dk):Dk:=if d.stepB=true then { d.went with st:=d.now,late:=[] } else d.gone
def qj (fates:List Int) (j:Nat):Nat:=match fates[j]? with
 | none=>0
 | some x=>if x=255 then 256 else x.toNat
def Xd (fates:List Int):Nat→List (Int × List Int)→List (Int × List Int)→List (Int × List Int)
 | _,[],m=>m
 | j,w :: r,m=>Xd fates (j+1) r (yu m w.1 (qx (qj fates j) w.2 ((zx m w.1).getD zv)))
def Dk.on (d:Dk) (fates:List Int):Dk:=if d.off=true then { d with st:=Xd fates 0 d.late d.st,now:=Xd fates 0 d.late d.st,late:=[],well:=-1,off:=false } else { d with well:=-1 }
theorem Vg (m:List (Int × List Int)) (i:Nat) (x:List Int):bk (yu m (i:Int) x) i=x:=by simp[bk,vm]
theorem Jl (m:List (Int × List Int)) {i j:Nat} (x:List Int) (h:j≠i):bk (yu m (i:Int) x) j=bk m j:=by
 unfold bk;rw[uo _ _ (by omega)]
section
variable {C : List Int → Nat}
open Classical in
noncomputable def scrub (C:List Int→Nat) (x:List Int):List Int:=if (saidP C x).isSome=true then x else zv
theorem zh6:scrub C zv=zv:=by unfold scrub;split <;> rfl
theorem zh5 {x:List Int} {p:Prt} (h:saidP C x=some p):scrub C x=x:=by unfold scrub;rw[h];rfl
theorem zgt {x:List Int} (h:x=zv∨∃p,saidP C x=some p):scrub C x=x:=by
 rcases h with rfl|⟨p,hp⟩
 ·exact zh6
 ·exact zh5 hp
end
open Go.RowKit Go.Sf
theorem zf {w:World} {b:Nat} {c:Array Value} {t:TypeId} {fr:Nat × Nat} (h:w.heap[b]? = some (.cells c t fr)) (i:Nat):w.cell? ⟨b,i,none⟩=c[i]?:=by
 simp[World.cell?,h]
def xw (x:List Int):Value:=.agg (zg x).toArray
def zl (w:Int × List Int):List Value:=.int .i64 w.1 :: zg w.2
def zcx (w:Int × List Int):Value:=.agg (zl w).toArray
theorem xd (l:List Int):∀v∈zg l,v.oneCell'=true:=fun v hv=>by
 obtain⟨b,_,rfl⟩:=List.mem_map.1 hv
 rfl
theorem zt (l:List Int):(zg l).length=l.length:=by simp[zg]
theorem Zc (w:World):(zeroValue 174).run Tryz.prog w = .ok (xw zv) w:=by kernel_rfl
theorem Ji (w:World):(zeroValue 176).run Tryz.prog w = .ok (zcx (0,zv)) w:=by kernel_rfl
theorem Uy:(Tryz.prog.info? 174).map (·.size)=some 256:=by kernel_rfl
theorem Vk:(Tryz.prog.info? 176).map (·.size)=some 257:=by kernel_rfl
theorem zdj:(Tryz.prog.info? 176).map (fun i=>(i.zero,i.size,i.bytes))=some (some (zcx (0,zv)),257,264):=by kernel_rfl
section
variable {P : Program} {ops : Array Oper} {rest : List Oper} {o : Oper} {a : Act} {w : World} {Q : Exit → Act → World → Prop}
theorem uf (hgd:o.guard=none) (T:TypeId) (hop:o.op=Op.alloc T) (z:Value) (hz:∀w,(zeroValue T).run P w = .ok z w) (cs:Array Value) (hc:z.cells=cs)
  (h:wpList P ops Q rest (a.put o.dst (.pointer (some ⟨w.heap.size,0,none⟩))) (w.alloc (.cells cs T))):wpList P ops Q (o :: rest) a w:=by
 subst hc;refine wpList_plain hgd fun K hK=>?_
 unfold Oper.wp;simp[execOp,hop,Instr.alloc,hz,newVar,newRow,newObj,Result.andThen,go_sem]
 exact hK _ _ h
theorem vu (hgd:o.guard=none) (ty:TypeId) (x y:Operand) (ho:o.op = .store ty x y) (c c':Array Value) (t:TypeId) (hx:a.eval x = .pointer (some ⟨w.heap.size,0,none⟩)) (hy:a.eval y = .agg c') (hi:(P.info? ty).map (·.size)=some c'.size) (hold:c.size=c'.size) (h1:c'.all (·.oneCell')=true)
  (h:wpList P ops Q rest (a.put o.dst undef) (w.alloc (.cells c' t))):wpList P ops Q (o :: rest) a (w.alloc (.cells c t)):=by
 refine wpList_store_row hgd ty x y ho w.heap.size c' hx hy t c (heap_alloc_new _ _) hi hold h1 ?_;rw[World.setRow_alloc_new]
 exact h
end
theorem xe:zv.length=256:=List.length_replicate
theorem uz {x:Int × List Int} (h:x.2.length=256):(zl x).length=257:=by simp[zl,zg,h]
theorem zfv (x:Int × List Int):∀v∈zl x,v.oneCell'=true:=fun v hv=>by
 rcases List.mem_cons.1 hv with rfl|hv
 ·rfl
 ·exact xd _ v hv
theorem ziq {x:Int × List Int} (h:x.2.length=256):(Tryz.prog.info? 176).map (·.size)=some (zl x).toArray.size:=by rw[List.size_toArray,uz h];exact Vk
theorem zio {x y:Int × List Int} (h:x.2.length=256) (h2:y.2.length=256):(zl x).toArray.size=(zl y).toArray.size:=by rw[List.size_toArray,List.size_toArray,uz h,uz h2]
theorem zin (x:Int × List Int):(zl x).toArray.all (·.oneCell')=true:=all_oneCell_toArray (zfv x)
theorem blkI {x:List Int} (h:x.length=256):(Tryz.prog.info? 174).map (·.size)=some (zg x).toArray.size:=by rw[List.size_toArray,zt,h];exact Uy
theorem blkE {x y:List Int} (h:x.length=256) (h2:y.length=256):(zg x).toArray.size=(zg y).toArray.size:=by rw[List.size_toArray,List.size_toArray,zt,zt,h,h2]
theorem blkA (x:List Int):(zg x).toArray.all (·.oneCell')=true:=all_oneCell_toArray (xd x)
theorem zdp (xs:Array Value) (i:Nat) (v:Value) (h:xs[i]? = some v) (w:World):(part 5 xs (i*1)).run Tryz.prog w = .ok v w:=by
 have hu:=Tryz.underlying5;have ha:(isAgg 5).run Tryz.prog w = .ok false w:=by unfold isAgg;rw[Sem.run_bind,run_underlying hu];rfl
 unfold part;simp[ha,h,Result.andThen]
theorem Ys (w:World) (d:Nat):∀(xs ys:List Int) (A:List Int),xs.length=ys.length→∀(B:List Int),A.length=B.length→
  (Op.eqItems (d+1) 5 1 (zg (A++xs)).toArray (zg (B++ys)).toArray (List.range' A.length xs.length)).run Tryz.prog w = .ok (decide (xs=ys)) w
 | [],[],A,_,B,_=>by simp[Op.eqItems]
 | [],_ :: _,_,h,_,_=>by simp at h
 | _ :: _,[],_,h,_,_=>by simp at h
 | x :: xs,y :: ys,A,h,B,hAB=>by
  have e1:(zg (A++x :: xs)).toArray[A.length]? = some (.int .u8 x):=by simp[zg]
  have e2:(zg (B++y :: ys)).toArray[A.length]? = some (.int .u8 y):=by rw[hAB];simp[zg]
  have ih:=Ys w d xs ys (A ++ [x]) (by simpa using h) (B ++ [y]) (by simp[hAB])
  simp only[List.append_assoc,List.cons_append,List.nil_append,List.length_append,List.length_cons,List.length_nil,Nat.zero_add] at ih;rw[List.length_cons,List.range'_succ];simp only[Op.eqItems,Sem.run_bind,zdp _ _ _ e1,zdp _ _ _ e2,Result.andThen_ok,run_equalIn_int w d 5 .u8 .u8 x y Tryz.underlying5]
  by_cases hxy:x=y
  ·subst hxy
   simp only[beq_self_eq_true,Bool.not_true,Bool.false_eq_true,if_false,ih];simp
  ·have:(x == y)=false:=by simpa using hxy
   simp[this,hxy]
theorem zln {x y:List Int} (hx:x.length=256) (hy:y.length=256) (w:World):(Op.equalIn 10000 174 (xw x) (xw y)).run Tryz.prog w = .ok (decide (x=y)) w:=by
 obtain⟨i,hi⟩:∃i,Tryz.prog.info? 5=some i:=Option.isSome_iff_exists.1 (by kernel_rfl)
 have h:=run_equalIn_array (P:=Tryz.prog) w 9999 (t:=174) (n:=256) (zg x).toArray (zg y).toArray (by kernel_rfl) hi
 have hc:Tryz.prog.cellsOf 5=1:=by kernel_rfl
 rw[hc] at h;have h2:=Ys w 9998 x y [] (by omega) [] rfl
 simp only[List.nil_append,List.length_nil,hx] at h2;rw[List.range_eq_range'] at h
 exact h.trans h2
theorem zmc:Tryz.prog.eqGuardType Tryz.prog.depth 174=false:=by kernel_rfl
@[go_sem] theorem eqlB {x y:List Int} (hx:x.length=256) (hy:y.length=256) (w:World):(binOp .eql 174 (xw x) (xw y)).run Tryz.prog w = .ok (.bool (decide (x=y))) w:=by
 unfold xw;rw[run_eql_struct];have:=zln hx hy w;unfold xw at this;rw[this]
 rfl
@[go_sem] theorem neqB {x y:List Int} (hx:x.length=256) (hy:y.length=256) (w:World):(binOp .neq 174 (xw x) (xw y)).run Tryz.prog w = .ok (.bool (!decide (x=y))) w:=by
 unfold xw;rw[run_neq_struct];have:=zln hx hy w;unfold xw at this;rw[this]
 rfl
@[go_sem] theorem guardB (op:BinOp) (x y:Operand) (a b:List Int) (w:World):(eqGuard op 174 x y (xw a) (xw b)).run Tryz.prog w = .ok () w:=run_eqGuard_agg (P:=Tryz.prog) w op _ x y _ _ zmc
end Go.Proofs.YtbcbhlfjgobejaaGreat
