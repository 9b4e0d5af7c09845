/- What an opening makes of a good disk: its records: plain laws, no program. Conditions: none, or as the theorems say. -/
import Derived.Test.YtbcbhlfjgobejaaGreatS4
import Derived.Test.YtbcbhlfjgobejaaGreatS3
import Derived.Deep.MidRow
import Derived.Deep.WholeRow
import Derived.Great.BuildSlice
import Derived.Laws.CopyOwn
import Derived.Laws.Cover3
import Derived.ChangeKeysEq
set_option linter.unusedSimpArgs false
set_option linter.unusedVariables false
namespace Go.Proofs.YtbcbhlfjgobejaaGreat
set_option maxHeartbeats 200000000
open Go.Sf
variable {old x y:List Int} {b:Nat}
def vp (r:xr):List Int:=r.cells.flatMap (·.2)
def xo (r:xr):List Nat:=r.cells.map (·.1)
def Xm (rows:List (zt × xr)):List zt→List (Int × (List Int × List Nat))→List (Int × (List Int × List Nat))
 | [],acc=>acc
 | K :: t,acc=>match zw rows K with
  | none=>Xm rows t acc
  | some r=>if (zw acc K.k).isSome=true∨r.whole=false then Xm rows t acc else Xm rows t (yo acc K.k (vp r,xo r))
def Yl (a b:zt):Prop:=a.k<b.k∨(a.k=b.k∧a.count<b.count)
section
variable {C : List Int → Nat} {f : Nat → List Int} {N : Nat} {all : List (Int × List Int)} {blk : Int → List Nat} {next : Int}
theorem zgh (h:uw C f N all blk next) {K:zt} {r:xr} (hr:zw (scanN C f N).rows K=some r) (hw:r.whole=true) :
  ∃q∈all,q.1=K.k∧K.count=zk q.2.length∧vp r=q.2∧xo r=blk q.1:=by
 have hs:=qv (C:=C) f N;have hro:=hs.row K r hr;obtain⟨c1,c2,c3⟩:=hs.c K r hr;have hall:=(zby hro).1 hw;have hpart:∀j,j<K.count→∃i b,firstP C f K j N=some (i,b)∧i<N∧saidP C (f i)=some ⟨K.k,j,K.count,b⟩:=λj hj=>by
  obtain⟨⟨i,b⟩,hx⟩:=Option.isSome_iff_exists.1 (hall j hj);obtain⟨h1,h2⟩:=Zc hx
  exact⟨i,b,hx,h1,h2⟩
 obtain⟨i0,b0,_,hi0,hs0⟩:=hpart 0 (by omega)
 have hex:∃q∈all,q.1=K.k:=by
  apply Classical.byContradiction
  intro hno;obtain⟨j,hj,hj2⟩:=h.part i0 hi0 _ hs0 (λq hq e=>hno ⟨q,hq,e⟩) K.count c1
  obtain⟨i,b,_,hi,hsi⟩:=hpart j hj
  exact hj2 i hi b hsi
 obtain⟨q,hq,hqk⟩:=hex;have hcount:=(h.only i0 hi0 _ hs0 q hq hqk).1;simp only at hcount;have hcell:∀j,j<K.count→∃i,(blk q.1)[j]? = some i∧r.cells[j]? = some (i,xy q.2 j):=λj hj=>by
  obtain⟨i,b,hx,hi,hsi⟩:=hpart j hj;have h1:=(h.only i hi _ hsi q hq hqk).2;simp only at h1;have h2:=h.at_ q hq j i h1;rw[hsi] at h2;have h3:=congrArg Prt.b (Option.some.inj h2);simp only at h3;rw[←h3]
  exact⟨i,h1,(hro.yes j hj _ hx).2⟩
 have hbl:(blk q.1).length=K.count:=by rw[h.bln q hq,hcount]
 have e1:r.cells=(List.range K.count).map λj=>((blk q.1).getD j 0,xy q.2 j):=by
  apply List.ext_getElem?
  intro j
  rcases Nat.lt_or_ge j K.count with hj|hj
  ·obtain⟨i,h1,h2⟩:=hcell j hj
   rw[h2,List.getElem?_map,List.getElem?_range hj];simp[List.getD_eq_getElem?_getD,h1]
  ·rw[List.getElem?_eq_none (by rw[hro.l1];exact hj),List.getElem?_eq_none (by simp;exact hj)]
 refine⟨q,hq,hqk,hcount,?_,?_⟩
 ·unfold vp
  rw[e1,List.flatMap_map];simp only;rw[hcount]
  exact zj3 q.2
 ·unfold xo
  rw[e1,List.map_map]
  apply List.ext_getElem?
  intro j
  rcases Nat.lt_or_ge j K.count with hj|hj
  ·obtain⟨i,h1,h2⟩:=hcell j hj
   rw[List.getElem?_map,List.getElem?_range hj,h1];simp[List.getD_eq_getElem?_getD,h1]
  ·rw[List.getElem?_eq_none (by simp;exact hj),List.getElem?_eq_none (by rw[hbl];exact hj)]
theorem znb (h:uw C f N all blk next) {q:Int × List Int} (hq:q∈all):∃r,zw (scanN C f N).rows ⟨q.1,zk q.2.length⟩=some r∧r.whole=true:=by
 have hs:=qv (C:=C) f N;have hbl:=h.bln q hq;have hsome:∀j,j<zk q.2.length→(firstP C f ⟨q.1,zk q.2.length⟩ j N).isSome=true:=λj hj=>by
  obtain⟨i,hi⟩:∃i,(blk q.1)[j]? = some i:=⟨_,List.getElem?_eq_getElem (by omega)⟩
  cases e:firstP C f ⟨q.1,zk q.2.length⟩ j N with
  | some x=>rfl
  | none=>exact absurd (h.at_ q hq j i hi) (zb8 e i (h.blt q hq i (List.mem_of_getElem? hi)) _)
 cases e:zw (scanN C f N).rows ⟨q.1,zk q.2.length⟩ with
 | none=>
  have:=hsome 0 (by have:=qu q.2.length;omega)
  rw[hs.out _ e 0] at this
  cases this
 | some r=>exact⟨r,rfl,(zby (hs.row _ r e)).2 hsome⟩
def Jz (rows:List (zt × xr)) (K:zt):Option (Int × (List Int × List Nat)):=match zw rows K with
 | none=>none
 | some r=>if r.whole=true then some (K.k,(vp r,xo r)) else none
theorem qz {K V:Type} [DecidableEq K] {m:List (K × V)} {k:K} (h:zw m k=none) (v:V):yo m k v=m ++ [(k,v)]:=Yo (uz.1 h) v
theorem zat (rows:List (zt × xr)):∀(ks:List zt) (acc:List (Int × (List Int × List Nat))),(∀K∈ks,(Jz rows K).isSome=true→zw acc K.k=none)→((ks.filterMap (Jz rows)).map (·.1)).Nodup→Xm rows ks acc=acc++ks.filterMap (Jz rows)
 | [],acc,_,_=>by simp[Xm]
 | K :: t,acc,h1,h2=>by
  unfold Xm
  cases e:zw rows K with
  | none=>
   have eg:Jz rows K=none:=by simp[Jz,e]
   rw[List.filterMap_cons_none eg] at h2 ⊢
   exact zat rows t acc (λK' hK'=>h1 K' (List.mem_cons_of_mem _ hK')) h2
  | some r=>
   cases hw:r.whole with
   | false=>
    have eg:Jz rows K=none:=by simp[Jz,e,hw]
    simp only;rw[if_pos (Or.inr hw)];rw[List.filterMap_cons_none eg] at h2 ⊢
    exact zat rows t acc (λK' hK'=>h1 K' (List.mem_cons_of_mem _ hK')) h2
   | true=>
    have eg:Jz rows K=some (K.k,(vp r,xo r)):=by simp[Jz,e,hw]
    have hn:=h1 K (by simp) (by rw[eg];rfl)
    simp only;rw[if_neg (by rw[hn,hw];simp)]
    rw[List.filterMap_cons_some eg] at h2 ⊢;simp only[List.map_cons,List.nodup_cons] at h2;rw[qz hn,zat rows t _ (λK' hK' hs=>?_) h2.2,List.append_assoc]
    ·rfl
    ·have hk:K'.k≠K.k:=λek=>h2.1 (by
      obtain⟨y,hy⟩:=Option.isSome_iff_exists.1 hs;refine List.mem_map.2 ⟨y,List.mem_filterMap.2 ⟨K',hK',hy⟩,?_⟩;have:y.1=K'.k:=by
       unfold Jz at hy
       split at hy
       ·cases hy
       ·split at hy
        ·cases hy;rfl
        ·cases hy
      rw[this,ek])
     have:=h1 K' (List.mem_cons_of_mem _ hK') hs;rw[←qz hn,uj _ _ hk]
     exact this
theorem Qh {α:Type} (g:α→Int):∀{l1 l2:List α},l1.Pairwise (λa b=>g a<g b)→l2.Pairwise (λa b=>g a<g b)→(∀x,x∈l1↔x∈l2)→l1=l2
 | [],l2,_,_,h=>by
  cases l2 with
  | nil=>rfl
  | cons a r=>exact absurd ((h a).2 (by simp)) (by simp)
 | a :: r,l2,h1,h2,h=>by
  cases l2 with
  | nil=>exact absurd ((h a).1 (by simp)) (by simp)
  | cons b t=>
   rw[List.pairwise_cons] at h1 h2;have hab:a=b:=by
    rcases List.mem_cons.1 ((h a).1 (by simp)) with e|e
    ·exact e
    ·rcases List.mem_cons.1 ((h b).2 (by simp)) with e2|e2
     ·exact e2.symm
     ·have:=h1.1 b e2;have:=h2.1 a e;omega
   subst hab
   congr 1
   refine Qh g h1.2 h2.2 λx=>⟨λhx=>?_,λhx=>?_⟩
   ·rcases List.mem_cons.1 ((h x).1 (by simp[hx])) with e|e
    ·have:=h1.1 x hx;subst e;omega
    ·exact e
   ·rcases List.mem_cons.1 ((h x).2 (by simp[hx])) with e|e
    ·have:=h2.1 x hx;subst e;omega
    ·exact e
theorem zml (h:uw C f N all blk next) {ks:List zt} (hks:∀K,K∈ks↔∃r,zw (scanN C f N).rows K=some r) (hsrt:ks.Pairwise Yl):Xm (scanN C f N).rows ks []=all.map λq=>(q.1,(q.2,blk q.1)):=by
 have hgot:∀K y,Jz (scanN C f N).rows K=some y→∃q∈all,q.1=K.k∧K.count=zk q.2.length∧y=(q.1,(q.2,blk q.1)):=λK y hy=>by
  unfold Jz at hy
  cases e:zw (scanN C f N).rows K with
  | none=>rw[e] at hy;cases hy
  | some r=>
   rw[e] at hy;simp only at hy
   split at hy
   ·rename_i hw
    cases hy
    obtain⟨q,hq,h1,h2,h3,h4⟩:=zgh h e hw
    exact⟨q,hq,h1,h2,by rw[h3,h4,h1]⟩
   ·cases hy
 have hfm:(ks.filterMap (Jz (scanN C f N).rows)).Pairwise (λa b=>a.1<b.1):=by
  rw[List.pairwise_filterMap];refine hsrt.imp_of_mem λ{K K'} hK hK' hlt y hy y' hy'=>?_
  obtain⟨q,hq,h1,h2,rfl⟩:=hgot K y hy;obtain⟨q',hq',h1',h2',rfl⟩:=hgot K' y' hy';simp only
  rcases hlt with hl|⟨hl,hc⟩
  ·omega
  ·have:=h.uniq hq hq' (by omega)
   subst this;omega
 rw[zat _ ks [] (λK _ _=>rfl) (by
  rw[List.nodup_iff_pairwise_ne,List.pairwise_map]
  exact hfm.imp λhlt e=>by omega)]
 rw[List.nil_append];refine Qh (λy=>y.1) hfm ?_ λy=>⟨λhy=>?_,λhy=>?_⟩
 ·rw[List.pairwise_map]
  have:=h.srt;rw[List.pairwise_map] at this
  exact this
 ·obtain⟨K,hK,hy2⟩:=List.mem_filterMap.1 hy
  obtain⟨q,hq,h1,h2,rfl⟩:=hgot K y hy2
  exact List.mem_map.2 ⟨q,hq,rfl⟩
 ·obtain⟨q,hq,rfl⟩:=List.mem_map.1 hy
  obtain⟨r,hr,hw⟩:=znb h hq;obtain⟨q',hq',h1,h2,h3,h4⟩:=zgh h hr hw;have:=h.uniq hq' hq h1;subst this;refine List.mem_filterMap.2 ⟨_,(hks _).2 ⟨r,hr⟩,?_⟩;unfold Jz;rw[hr];simp only;rw[if_pos hw,h3,h4]
end
structure Dk where
 n:Nat
 st:List (Int × List Int)
 now:List (Int × List Int)
 late:List (Int × List Int)
 steps:Int
 well:Int
 off:Bool
def bk (m:List (Int × List Int)) (i:Nat):List Int:=(zw m (i:Int)).getD zr
def vf (b:List Int):List Int:=b++List.replicate (256-b.length) 0
def Dk.went (d:Dk):Dk:={ d with steps:=d.steps+1,well:=max (-1) (d.well-1) }
def Dk.gone (d:Dk):Dk:={ d with steps:=d.steps+1,well:=-1,off:=true }
def Dk.stepB (d:Dk):Bool:=decide (d.well≠0)
def Dk.lay (d:Dk) (i:Nat) (x:List Int):Dk:={ d with late:=d.late ++ [((i:Int),x)],now:=yo d.now (i:Int) x }
def Dk.write (d:Dk) (i:Nat) (x:List Int):Dk:=if (d.lay i x).stepB=true then (d.lay i x).went else (d.lay i x).gone
def Dk.wrote (d:Dk):Bool:=d.stepB
def Dk.sync (d:Dk):Dk:=if d.stepB=true then { d.went with st:=d.now,late:=[] } else d.gone
def um (fates:List Int) (j:Nat):Nat:=match fates[j]? with
 | none=>0
 | some x=>if x=255 then 256 else x.toNat
def qp (fates:List Int):Nat→List (Int × List Int)→List (Int × List Int)→List (Int × List Int)
 | _,[],m=>m
 | j,w :: r,m=>qp fates (j+1) r (yo m w.1 (vq (um fates j) w.2 ((zw m w.1).getD zr)))
def Dk.on (d:Dk) (fates:List Int):Dk:=if d.off=true then { d with st:=qp fates 0 d.late d.st,now:=qp fates 0 d.late d.st,late:=[],well:=-1,off:=false } else { d with well:=-1 }
theorem je (m:List (Int × List Int)) (i:Nat) (x:List Int):bk (yo m (i:Int) x) i=x:=by simp[bk,ub]
theorem Zw (m:List (Int × List Int)) {i j:Nat} (x:List Int) (h:j≠i):bk (yo m (i:Int) x) j=bk m j:=by
 unfold bk;rw[uj _ _ (by omega)]
def Zk (ws:List (Nat × List Int)):List (Int × List Int):=ws.map λw=>((w.1:Int),w.2)
theorem Vp (fates:List Int) (i:Nat):∀(j:Nat) (ws:List (Nat × List Int)) (m:List (Int × List Int)),(∀w∈ws,w.1≠i)→bk (qp fates j (Zk ws) m) i=bk m i
 | j,[],m,_=>rfl
 | j,w :: r,m,h=>by
  show bk (qp fates (j+1) (Zk r) (yo m (w.1:Int) _)) i=_
  rw[Vp fates i (j+1) r _ (λw' hw'=>h w' (List.mem_cons_of_mem _ hw')),Zw _ _ (λe=>h w (by simp) e.symm)]
theorem zdy (fates:List Int):∀(j:Nat) (ws:List (Nat × List Int)) (m:List (Int × List Int)),(ws.map (·.1)).Nodup→∀t w,ws[t]? = some w→bk (qp fates j (Zk ws) m) w.1=vq (um fates (j+t)) w.2 (bk m w.1)
 | j,[],m,_,t,w,h=>by simp at h
 | j,w0 :: r,m,hn,0,w,h=>by
  simp at h;subst h;simp only[List.map_cons,List.nodup_cons] at hn
  show bk (qp fates (j+1) (Zk r) (yo m (w0.1:Int) _)) w0.1=_
  rw[Vp fates w0.1 (j+1) r _ (λw' hw' e=>hn.1 (List.mem_map.2 ⟨w',hw',e⟩)),je]
  rfl
 | j,w0 :: r,m,hn,t+1,w,h=>by
  simp only[List.getElem?_cons_succ] at h;simp only[List.map_cons,List.nodup_cons] at hn
  show bk (qp fates (j+1) (Zk r) (yo m (w0.1:Int) _)) w.1=_
  have hne:w.1≠w0.1:=λe=>hn.1 (List.mem_map.2 ⟨w,List.mem_of_getElem? h,e⟩)
  rw[zdy fates (j+1) r _ hn.2 t w h,Zw _ _ hne,show j+1+t=j+(t+1) by omega]
section
variable {C : List Int → Nat}
open Classical in
noncomputable def scrub (C:List Int→Nat) (x:List Int):List Int:=if (saidP C x).isSome=true then x else zr
theorem zod {n a:Nat} (ha:a<256 ^ n) (hb:b<256 ^ n) (h:be n a=be n b):a=b:=by
 rw[←Qd n a ha,h,Qd n b hb]
theorem zld:∀n,be n 0=List.replicate n 0
 | 0=>rfl
 | n+1=>by
  rw[Jd];simp only[Nat.zero_div,Nat.zero_mod];rw[zld n,List.replicate_succ']
  rfl
theorem k_lt {p:Prt} (h:Up p):p.k.toNat<256 ^ 8:=by have:=h.k2;have:=h.k1;omega
theorem be_k_ne {p q:Prt} (hp:Up p) (hq:Up q) (h:p.k≠q.k):be 8 p.k.toNat≠be 8 q.k.toNat:=λe=>by
 have:=zod (k_lt hp) (k_lt hq) e;have:=hp.k1;have:=hq.k1;omega
theorem zbg {p:Prt} (hp:Up p):be 8 p.k.toNat≠List.replicate 8 0:=λe=>by
 rw[←zld] at e;have:=zod (k_lt hp) (by omega) e
 have:=hp.k1;omega
theorem zk1:scrub C zr=zr:=by unfold scrub;split <;> rfl
theorem Ug {p:Prt} (h:saidP C x=some p):scrub C x=x:=by unfold scrub;rw[h];rfl
theorem Vd (h:x=zr∨∃p,saidP C x=some p):scrub C x=x:=by
 rcases h with rfl|⟨p,hp⟩
 ·exact zk1
 ·exact Ug hp
theorem zgb (ho:old=zr∨∃p,saidP C old=some p) {q:Prt} (hq:Up q) (hk:∀p,saidP C old=some p→p.k≠q.k) (c:Nat) :
  scrub C (vq c (xe C q) old)=old∨scrub C (vq c (xe C q) old)=zr∨scrub C (vq c (xe C q) old)=xe C q:=by
 cases e:saidP C (vq c (xe C q) old) with
 | none=>right;left;unfold scrub;rw[e];rfl
 | some r=>
  rw[Ug e];obtain⟨hr,her⟩:=yr e;have fx:Vf (vq c (xe C q) old) 80 (be 8 r.k.toNat):=her ▸ jz hr.l1
  rcases ho with rfl|⟨p,hp⟩
  ·rcases torn zb9 (jz hq.l1) fx c rfl (Or.inr (λe=>zbg hr e.symm)) (λe=>zbg hq e.symm) with h|h
   ·exact Or.inl h
   ·exact Or.inr (Or.inr h)
  ·obtain⟨hm,hep⟩:=yr hp
   have fy:Vf old 80 (be 8 p.k.toNat):=hep ▸ jz hm.l1
   rcases torn fy (jz hq.l1) fx c rfl (Or.inl rfl) (be_k_ne hm hq (hk p hp)) with h|h
   ·exact Or.inl h
   ·exact Or.inr (Or.inr h)
theorem zk0 (ho:old=zr∨∃p,saidP C old=some p) (c:Nat):scrub C (vq c zr old)=old∨scrub C (vq c zr old)=zr:=by
 cases e:saidP C (vq c zr old) with
 | none=>right;unfold scrub;rw[e];rfl
 | some r=>
  rw[Ug e];obtain⟨hr,her⟩:=yr e;have fx:Vf (vq c zr old) 80 (be 8 r.k.toNat):=her ▸ jz hr.l1
  rcases ho with rfl|⟨p,hp⟩
  ·have:vq c zr zr=zr:=List.take_append_drop c zr
   exact Or.inl this
  ·obtain⟨hm,hep⟩:=yr hp
   have fy:Vf old 80 (be 8 p.k.toNat):=hep ▸ jz hm.l1
   exact torn fy zb9 fx c rfl (Or.inl rfl) (zbg hm)
end
open Go.RowKit Go.Sf
theorem zf {w:World} {c:Array Value} {t:TypeId} {fr:Nat × Nat} (h:w.heap[b]? = some (.cells c t fr)) (i:Nat):w.cell? ⟨b,i,none⟩=c[i]?:=by
 simp[World.cell?,h]
def vm (x:List Int):Value:=.agg (zg x).toArray
def zl (w:Int × List Int):List Value:=.int .i64 w.1 :: zg w.2
def zey (w:Int × List Int):Value:=.agg (zl w).toArray
theorem qt (l:List Int):∀v∈zg l,v.oneCell'=true:=λv hv=>by
 obtain⟨b,_,rfl⟩:=List.mem_map.1 hv
 rfl
theorem zu (l:List Int):(zg l).length=l.length:=by simp[zg]
theorem Yf (w:World):(zeroValue 174).run Tryz.prog w = .ok (vm zr) w:=by kernel_rfl
theorem zbc (w:World):(zeroValue 176).run Tryz.prog w = .ok (zey (0,zr)) w:=by kernel_rfl
theorem zab:(Tryz.prog.info? 174).map (·.size)=some 256:=by kernel_rfl
theorem Qb:(Tryz.prog.info? 176).map (·.size)=some 257:=by kernel_rfl
theorem zfn:(Tryz.prog.info? 176).map (λi=>(i.zero,i.size,i.bytes))=some (some (zey (0,zr)),257,264):=by kernel_rfl
section
variable {P : Program} {ops : Array Oper} {rest : List Oper} {o : Oper} {a : Act} {w : World} {Q : Exit → Act → World → Prop}
theorem un (hgd:o.guard=none) (T:TypeId) (hop:o.op=Op.alloc T) (z:Value) (hz:∀w,(zeroValue T).run P w = .ok z w) (cs:Array Value) (hc:z.cells=cs)
 (h:wpList P ops Q rest (a.put o.dst (.pointer (some ⟨w.heap.size,0,none⟩))) (w.alloc (.cells cs T))):wpList P ops Q (o :: rest) a w:=by
 subst hc;refine wpList_plain hgd λK hK=>?_
 unfold Oper.wp;simp[execOp,hop,Instr.alloc,hz,newVar,newRow,newObj,Result.andThen,go_sem]
 exact hK _ _ h
theorem uf (hgd:o.guard=none) (ty:TypeId) (x y:Operand) (ho:o.op = .store ty x y) (c c':Array Value) (t:TypeId) (hx:a.eval x = .pointer (some ⟨w.heap.size,0,none⟩)) (hy:a.eval y = .agg c') (hi:(P.info? ty).map (·.size)=some c'.size) (hold:c.size=c'.size) (h1:c'.all (·.oneCell')=true)
 (h:wpList P ops Q rest (a.put o.dst undef) (w.alloc (.cells c' t))):wpList P ops Q (o :: rest) a (w.alloc (.cells c t)):=by
 refine wpList_store_row hgd ty x y ho w.heap.size c' hx hy t c (heap_alloc_new _ _) hi hold h1 ?_;rw[World.setRow_alloc_new]
 exact h
end
theorem xt:zr.length=256:=List.length_replicate
theorem qi {x:Int × List Int} (h:x.2.length=256):(zl x).length=257:=by simp[zl,zg,h]
theorem zh9 (x:Int × List Int):∀v∈zl x,v.oneCell'=true:=λv hv=>by
 rcases List.mem_cons.1 hv with rfl|hv
 ·rfl
 ·exact qt _ v hv
theorem zll {x:Int × List Int} (h:x.2.length=256):(Tryz.prog.info? 176).map (·.size)=some (zl x).toArray.size:=by rw[List.size_toArray,qi h];exact Qb
theorem zlk {x y:Int × List Int} (h:x.2.length=256) (h2:y.2.length=256):(zl x).toArray.size=(zl y).toArray.size:=by rw[List.size_toArray,List.size_toArray,qi h,qi h2]
theorem zlj (x:Int × List Int):(zl x).toArray.all (·.oneCell')=true:=all_oneCell_toArray (zh9 x)
theorem blkI (h:x.length=256):(Tryz.prog.info? 174).map (·.size)=some (zg x).toArray.size:=by rw[List.size_toArray,zu,h];exact zab
theorem blkE (h:x.length=256) (h2:y.length=256):(zg x).toArray.size=(zg y).toArray.size:=by rw[List.size_toArray,List.size_toArray,zu,zu,h,h2]
theorem blkA (x:List Int):(zg x).toArray.all (·.oneCell')=true:=all_oneCell_toArray (qt x)
theorem zfu (xs:Array Value) (i:Nat) (v:Value) (h:xs[i]? = some v) (w:World):(part 5 xs (i*1)).run Tryz.prog w = .ok v w:=by
 have hu:=Tryz.underlying5;have ha:(isAgg 5).run Tryz.prog w = .ok false w:=by unfold isAgg;rw[Sem.run_bind,run_underlying hu];rfl
 unfold part;simp[ha,h,Result.andThen]
theorem Vg (w:World) (d:Nat):∀(xs ys:List Int) (A:List Int),xs.length=ys.length→∀(B:List Int),A.length=B.length→
  (Op.eqItems (d+1) 5 1 (zg (A++xs)).toArray (zg (B++ys)).toArray (List.range' A.length xs.length)).run Tryz.prog w = .ok (decide (xs=ys)) w
 | [],[],A,_,B,_=>by simp[Op.eqItems]
 | [],_ :: _,_,h,_,_=>by simp at h
 | _ :: _,[],_,h,_,_=>by simp at h
 | x :: xs,y :: ys,A,h,B,hAB=>by
  have e1:(zg (A++x :: xs)).toArray[A.length]? = some (.int .u8 x):=by simp[zg]
  have e2:(zg (B++y :: ys)).toArray[A.length]? = some (.int .u8 y):=by rw[hAB];simp[zg]
  have ih:=Vg w d xs ys (A ++ [x]) (by simpa using h) (B ++ [y]) (by simp[hAB])
  simp only[List.append_assoc,List.cons_append,List.nil_append,List.length_append,List.length_cons,List.length_nil,Nat.zero_add] at ih;rw[List.length_cons,List.range'_succ];simp only[Op.eqItems,Sem.run_bind,zfu _ _ _ e1,zfu _ _ _ e2,Result.andThen_ok,run_equalIn_int w d 5 .u8 .u8 x y Tryz.underlying5]
  by_cases hxy:x=y
  ·subst hxy
   simp only[beq_self_eq_true,Bool.not_true,Bool.false_eq_true,if_false,ih];simp
  ·have:(x == y)=false:=by simpa using hxy
   simp[this,hxy]
theorem zoq (hx:x.length=256) (hy:y.length=256) (w:World):(Op.equalIn 10000 174 (vm x) (vm y)).run Tryz.prog w = .ok (decide (x=y)) w:=by
 obtain⟨i,hi⟩:∃i,Tryz.prog.info? 5=some i:=Option.isSome_iff_exists.1 (by kernel_rfl)
 have h:=run_equalIn_array (P:=Tryz.prog) w 9999 (t:=174) (n:=256) (zg x).toArray (zg y).toArray (by kernel_rfl) hi
 have hc:Tryz.prog.cellsOf 5=1:=by kernel_rfl
 rw[hc] at h;have h2:=Vg w 9998 x y [] (by omega) [] rfl
 simp only[List.nil_append,List.length_nil,hx] at h2;rw[List.range_eq_range'] at h
 exact h.trans h2
theorem zpi:Tryz.prog.eqGuardType Tryz.prog.depth 174=false:=by kernel_rfl
@[go_sem] theorem eqlB {x y:List Int} (hx:x.length=256) (hy:y.length=256) (w:World):(binOp .eql 174 (vm x) (vm y)).run Tryz.prog w = .ok (.bool (decide (x=y))) w:=by
 unfold vm;rw[run_eql_struct];have:=zoq hx hy w;unfold vm at this;rw[this]
 rfl
@[go_sem] theorem neqB {x y:List Int} (hx:x.length=256) (hy:y.length=256) (w:World):(binOp .neq 174 (vm x) (vm y)).run Tryz.prog w = .ok (.bool (!decide (x=y))) w:=by
 unfold vm;rw[run_neq_struct];have:=zoq hx hy w;unfold vm at this;rw[this]
 rfl
@[go_sem] theorem guardB (op:BinOp) (x y:Operand) (a b:List Int) (w:World):(eqGuard op 174 x y (vm a) (vm b)).run Tryz.prog w = .ok () w:=run_eqGuard_agg (P:=Tryz.prog) w op _ x y _ _ zpi
end Go.Proofs.YtbcbhlfjgobejaaGreat
