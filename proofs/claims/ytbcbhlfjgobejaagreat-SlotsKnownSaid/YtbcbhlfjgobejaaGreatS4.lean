/- A part of a record, and its block: plain laws, no program. Conditions: none, or as the theorems say. -/
import Derived.Test.YtbcbhlfjgobejaaGreatS2
import Derived.Test.YtbcbhlfjgobejaaGreatS1
set_option linter.unusedSimpArgs false
set_option linter.unusedVariables false
namespace Go.Proofs.YtbcbhlfjgobejaaGreat
set_option maxHeartbeats 200000000
variable {k m:Int} {q q':Int × List Int} {b x y z:List Int} {j n:Nat}
structure Prt where
 k:Int
 index:Nat
 count:Nat
 b:List Int
def zk (n:Nat):Nat:=max 1 (n / 230+min 1 (n%230))
structure Up (p:Prt):Prop where
 k1:1≤p.k
 k2:p.k≤4611686018427387904
 c1:1≤p.count
 c2:p.count≤570
 i1:p.index<p.count
 l1:p.b.length≤230
 full:p.index+1≠p.count→p.b.length=230
 last:p.index+1=p.count→p.index*230+p.b.length≤131072∧zk (p.index*230+p.b.length)=p.count
def hdP (p:Prt):List Int:=[80]++be 8 p.k.toNat++be 2 p.index++be 2 p.count++be 1 p.b.length++p.b
def uv (p:Prt):List Int:=hdP p++List.replicate (244-(hdP p).length) 0
section
variable (C : List Int → Nat)
def xe (p:Prt):List Int:=uv p++be 4 (C (uv p))++be 8 p.k.toNat
variable {C : List Int → Nat}
theorem Ua (p:Prt):(hdP p).length=14+p.b.length:=by simp[hdP,vc];omega
theorem zbh {p:Prt} (h:p.b.length≤230):(uv p).length=244:=by simp[uv,Ua];omega
theorem js {p:Prt} (h:p.b.length≤230):(xe C p).length=256:=by simp[xe,zbh h,vc]
theorem Qn {p:Prt} (hb:BL p.b):BL (xe C p):=by
 unfold xe uv hdP;refine BL.app (BL.app (BL.app ?_ ?_) (Ut _ _)) (Ut _ _)
 ·exact BL.app (BL.app (BL.app (BL.app (BL.app (λb h=>by simp at h;omega) (Ut _ _)) (Ut _ _)) (Ut _ _)) (Ut _ _)) hb
 ·intro b h
  obtain⟨_,rfl⟩:=List.mem_replicate.1 h;omega
def yc (x:List Int):Prt:=⟨s64 (num ((x.drop 1).take 8)),num ((x.drop 9).take 2),num ((x.drop 11).take 2),if num ((x.drop 13).take 1)≤242 then (x.drop 14).take (num ((x.drop 13).take 1)) else []⟩
theorem s64_k (h1:0≤k) (h2:k≤4611686018427387904):s64 k.toNat=k:=by
 unfold s64;rw[if_pos (by omega)]
 omega
theorem Xk (p:Prt):xe C p = [80]++(be 8 p.k.toNat++(be 2 p.index++(be 2 p.count++(be 1 p.b.length++(p.b++(List.replicate (244-(hdP p).length) 0++be 4 (C (uv p))++be 8 p.k.toNat)))))):=by
 simp[xe,uv,hdP,List.append_assoc]
theorem zm7 {p:Prt} (h:Up p):yc (xe C p)=p:=by
 have hi:=h.i1;have hc:=h.c2;have hl:=h.l1;have h1:=h.k1;have h2:=h.k2;have e:=Xk (C:=C) p;have d1:(xe C p).drop 1=be 8 p.k.toNat++(be 2 p.index++(be 2 p.count++(be 1 p.b.length++(p.b++(List.replicate (244-(hdP p).length) 0++be 4 (C (uv p))++be 8 p.k.toNat))))):=by rw[e];rfl
 have d9:(xe C p).drop 9=be 2 p.index++(be 2 p.count++(be 1 p.b.length++(p.b++(List.replicate (244-(hdP p).length) 0++be 4 (C (uv p))++be 8 p.k.toNat)))):=by
  have:(xe C p).drop 9=((xe C p).drop 1).drop 8:=by rw[List.drop_drop]
  rw[this,d1,List.drop_left' (vc _ _)]
 have d11:(xe C p).drop 11=be 2 p.count++(be 1 p.b.length++(p.b++(List.replicate (244-(hdP p).length) 0++be 4 (C (uv p))++be 8 p.k.toNat))):=by
  have:(xe C p).drop 11=((xe C p).drop 9).drop 2:=by rw[List.drop_drop]
  rw[this,d9,List.drop_left' (vc _ _)]
 have d13:(xe C p).drop 13=be 1 p.b.length++(p.b++(List.replicate (244-(hdP p).length) 0++be 4 (C (uv p))++be 8 p.k.toNat)):=by
  have:(xe C p).drop 13=((xe C p).drop 11).drop 2:=by rw[List.drop_drop]
  rw[this,d11,List.drop_left' (vc _ _)]
 have d14:(xe C p).drop 14=p.b++(List.replicate (244-(hdP p).length) 0++be 4 (C (uv p))++be 8 p.k.toNat):=by
  have:(xe C p).drop 14=((xe C p).drop 13).drop 1:=by rw[List.drop_drop]
  rw[this,d13,List.drop_left' (vc _ _)]
 have n13:num (((xe C p).drop 13).take 1)=p.b.length:=by rw[d13,List.take_left' (vc _ _),Qd _ _ (by omega)]
 unfold yc;rw[n13,d1,d9,d11,d14,List.take_left' (vc _ _),List.take_left' (vc _ _),List.take_left' (vc _ _),Qd _ _ (by omega),Qd _ _ (by omega),Qd _ _ (by omega),s64_k (by omega) h2,if_pos (by omega),List.take_left' rfl]
variable (C)
open Classical in
noncomputable def saidP (x:List Int):Option Prt:=if Up (yc x)∧xe C (yc x)=x then some (yc x) else none
variable {C}
theorem Xo {p:Prt} (h:Up p):saidP C (xe C p)=some p:=by
 unfold saidP;rw[zm7 h,if_pos ⟨h,rfl⟩]
theorem yr {p:Prt} (h:saidP C x=some p):Up p∧xe C p=x:=by
 unfold saidP at h
 split at h
 ·rename_i h1
  cases h
  exact h1
 ·cases h
theorem qn (h:x.head?≠some 80):saidP C x=none:=by
 cases e:saidP C x with
 | none=>rfl
 | some p=>
  obtain⟨_,h2⟩:=yr e;rw[←h2,Xk] at h
  exact absurd rfl h
structure Vf (y:List Int) (h:Int) (K:List Int):Prop where
 len:y.length=256
 hd:y.take 9=h :: K
 tl:y.drop 248=K
 kl:K.length=8
theorem jz {p:Prt} (h:p.b.length≤230):Vf (xe C p) 80 (be 8 p.k.toNat) where
 len:=js h
 hd:=by
  rw[Xk];simp only[List.cons_append,List.nil_append,List.take_succ_cons];rw[List.take_left' (vc _ _)]
 tl:=by
  unfold xe;rw[List.drop_left' (by simp[zbh h,vc])]
 kl:=vc _ _
def zr:List Int:=List.replicate 256 0
theorem zj8 (n:Nat):∀m,m=n+256→n=0→Vf (List.replicate m (0:Int)) 0 (List.replicate 8 0):=λm hm h0=>by
 subst h0
 exact⟨by rw[List.length_replicate,hm],by rw[List.take_replicate,hm];rfl,by rw[List.drop_replicate,hm],by rw[List.length_replicate]⟩
theorem zb9:Vf zr 0 (List.replicate 8 0):=zj8 0 256 rfl rfl
def vq (c:Nat) (z y:List Int):List Int:=z.take c++y.drop c
theorem zie (z y:List Int):vq 0 z y=y:=by simp[vq]
theorem mix_all (h:z.length=y.length) {c:Nat} (hc:y.length≤c):vq c z y=z:=by
 simp[vq,List.take_of_length_le (show z.length≤c by omega),List.drop_of_length_le hc]
theorem zln (h:z.length=y.length) (c:Nat):(vq c z y).length=y.length:=by
 simp[vq];omega
theorem torn {hy hz:Int} {Ky Kz Kr:List Int} (fy:Vf y hy Ky) (fz:Vf z hz Kz) (fx:Vf x 80 Kr) (c:Nat) (e:x=vq c z y) (hy0:hy=80∨Ky≠Kr) (hne:Ky≠Kz):x=y∨x=z:=by
 rcases Nat.lt_or_ge 248 c with hc|hc
 ·-- the number at the head is the new one's
  right
  have h9:x.take 9=z.take 9:=by
   rw[e,vq,List.take_append_of_le_length (by simp[fz.len];omega),List.take_take,Nat.min_eq_left (by omega)]
  rw[fx.hd,fz.hd] at h9
  injection h9 with h1 h2
  rcases Nat.lt_or_ge 256 c with hc2|hc2
  ·rw[e,mix_all (by rw[fz.len,fy.len]) (by rw[fy.len];omega)]
  ·have ht:x.drop 248=(z.take c).drop 248++y.drop c:=by
    rw[e,vq,List.drop_append_of_le_length (by simp[fz.len];omega)]
   rw[fx.tl,h2,←fz.tl,List.drop_take] at ht;have ht2:(z.drop 248).drop (c-248)=y.drop c:=by
    have:=congrArg (List.drop (c-248)) ht;rw[List.drop_append_of_le_length (by simp[fz.len];omega)] at this
    rw[this,List.drop_of_length_le (by simp[fz.len];omega),List.nil_append]
   rw[List.drop_drop] at ht2;rw[e,vq,←ht2,show 248+(c-248)=c by omega,List.take_append_drop]
 ·left
  -- the number at the end is the old one's
  have ht:x.drop 248=y.drop 248:=by
   rw[e,vq,List.drop_append];simp only[List.length_take,fz.len];rw[List.drop_of_length_le (by simp[fz.len];omega),List.nil_append,List.drop_drop]
   congr 1;omega
  rw[fx.tl,fy.tl] at ht
  rcases Nat.eq_zero_or_pos c with h0|h0
  ·rw[e,h0,zie]
  ·have hy8:hy=80:=hy0.resolve_right (λh=>h ht.symm)
   rcases Nat.lt_or_ge c 9 with h9|h9
   ·have hx9:x.take 9=z.take c++(y.take 9).drop c:=by
     rw[e,vq,List.take_append,List.take_take,Nat.min_eq_right (by omega),List.length_take,fz.len,Nat.min_eq_left (by omega),List.drop_take]
    have hxc:x.take c=y.take c:=by
     have h1:(x.take 9).take c=(y.take 9).take c:=by rw[fx.hd,fy.hd,ht,hy8]
     rwa [List.take_take,List.take_take,Nat.min_eq_left (by omega)] at h1
    have hxz:x.take c=z.take c:=by rw[e,vq,List.take_append_of_le_length (by simp[fz.len];omega),List.take_take,Nat.min_self]
    rw[e,vq,←hxz,hxc,List.take_append_drop]
   ·have h9':x.take 9=z.take 9:=by
     rw[e,vq,List.take_append_of_le_length (by simp[fz.len];omega),List.take_take,Nat.min_eq_left (by omega)]
    rw[fx.hd,fz.hd] at h9'
    injection h9' with h1 h2
    exact absurd (ht.symm.trans h2) hne
end
open Go.Sf
structure zt where
 k:Int
 count:Nat
deriving DecidableEq
structure xr where
 cells:List (Nat × List Int)
 there:List Bool
def uc (n:Nat):xr:=⟨List.replicate n (0,[]),List.replicate n false⟩
def ja (r:xr) (j:Nat) (x:Nat × List Int):xr:=if r.there.getD j true=true then r else ⟨r.cells.set j x,r.there.set j true⟩
def xr.whole (r:xr):Bool:=!r.there.contains false
structure Scan where
 rows:List (zt × xr)
 next:Int
section
variable (C : List Int → Nat)
noncomputable def scanStep (s:Scan) (i:Nat) (x:List Int):Scan:=match saidP C x with
 | none=>s
 | some p=>⟨yo s.rows ⟨p.k,p.count⟩ (ja ((zw s.rows ⟨p.k,p.count⟩).getD (uc p.count)) p.index (i,p.b)),max s.next (p.k+1)⟩
noncomputable def scanN (f:Nat→List Int):Nat→Scan
 | 0=>⟨[],1⟩
 | n+1=>scanStep C (scanN f n) n (f n)
noncomputable def firstP (f:Nat→List Int) (K:zt) (j:Nat):Nat→Option (Nat × List Int)
 | 0=>none
 | n+1=>match firstP f K j n with
  | some x=>some x
  | none=>match saidP C (f n) with
   | some p=>if p.k=K.k∧p.count=K.count∧p.index=j then some (n,p.b) else none
   | none=>none
variable {C}
theorem Zc {f:Nat→List Int} {K:zt}:∀{n i:Nat} {b:List Int},firstP C f K j n=some (i,b)→i<n∧saidP C (f i)=some ⟨K.k,j,K.count,b⟩
 | 0,i,b,h=>by simp[firstP] at h
 | n+1,i,b,h=>by
  unfold firstP at h
  cases e:firstP C f K j n with
  | some x=>
   rw[e] at h
   cases h
   obtain⟨h1,h2⟩:=Zc e
   exact⟨by omega,h2⟩
  | none=>
   rw[e] at h;simp only at h
   cases e2:saidP C (f n) with
   | none=>rw[e2] at h;cases h
   | some p=>
    rw[e2] at h;simp only at h
    split at h
    ·rename_i hh
     cases h
     obtain⟨h1,h2,h3⟩:=hh;refine⟨by omega,?_⟩
     rw[e2]
     cases p
     simp_all
    ·cases h
theorem zb8 {f:Nat→List Int} {K:zt}:∀{n:Nat},firstP C f K j n=none→∀i,i<n→∀b,saidP C (f i)≠some ⟨K.k,j,K.count,b⟩
 | 0,h,i,hi,b=>by omega
 | n+1,h,i,hi,b=>by
  unfold firstP at h
  cases e:firstP C f K j n with
  | some x=>rw[e] at h;cases h
  | none=>
   rw[e] at h
   rcases Nat.lt_or_ge i n with hl|hl
   ·exact zb8 e i hl b
   ·obtain rfl:i=n:=by omega
    intro e2;simp only[e2] at h;simp at h
structure ze3 (C:List Int→Nat) (f:Nat→List Int) (n:Nat) (K:zt) (r:xr):Prop where
 l1:r.cells.length=K.count
 l2:r.there.length=K.count
 yes:∀j,j<K.count→∀x,firstP C f K j n=some x→r.there[j]? = some true∧r.cells[j]? = some x
 no:∀j,j<K.count→firstP C f K j n=none→r.there[j]? = some false
structure ScanOk (C:List Int→Nat) (f:Nat→List Int) (n:Nat) (s:Scan):Prop where
 nd:(s.rows.map (·.1)).Nodup
 row:∀K r,zw s.rows K=some r→ze3 C f n K r
 out:∀K,zw s.rows K=none→∀j,firstP C f K j n=none
 c:∀K r,zw s.rows K=some r→1≤K.count∧K.count≤570∧1≤K.k
 nx:1≤s.next
 lt:∀i,i<n→∀p,saidP C (f i)=some p→p.k<s.next
theorem znh (f:Nat→List Int) (n:Nat) (K:zt) (h:∀j,firstP C f K j n=none):ze3 C f n K (uc K.count):=
 ⟨by simp[uc],by simp[uc],λj _ x hx=>(by rw[h j] at hx;cases hx),λj hj _=>by simp[uc,hj]⟩
theorem Vz {f:Nat→List Int} {K:zt} {p:Prt} (hs:saidP C (f n)=some p) (h:¬(p.k=K.k∧p.count=K.count∧p.index=j)):firstP C f K j (n+1)=firstP C f K j n:=by
 conv=>lhs;unfold firstP
 cases e:firstP C f K j n with
 | some x=>rfl
 | none=>simp only[hs];rw[if_neg h]
theorem Vy {f:Nat→List Int} {K:zt} (hs:saidP C (f n)=none):firstP C f K j (n+1)=firstP C f K j n:=by
 conv=>lhs;unfold firstP
 cases e:firstP C f K j n with
 | some x=>rfl
 | none=>simp only[hs]
theorem zj7 {f:Nat→List Int} {p:Prt} (hs:saidP C (f n)=some p):firstP C f ⟨p.k,p.count⟩ p.index (n+1)=some ((firstP C f ⟨p.k,p.count⟩ p.index n).getD (n,p.b)):=by
 conv=>lhs;unfold firstP
 cases e:firstP C f ⟨p.k,p.count⟩ p.index n with
 | some x=>rfl
 | none=>simp only[hs];simp
theorem zni {f:Nat→List Int} {p:Prt} {r:xr} (hs:saidP C (f n)=some p) (h:ze3 C f n ⟨p.k,p.count⟩ r):ze3 C f (n+1) ⟨p.k,p.count⟩ (ja r p.index (n,p.b)):=by
 have hi:=(yr hs).1.i1;have hhit:=zj7 hs;have hoth:∀j,j≠p.index→firstP C f ⟨p.k,p.count⟩ j (n+1)=firstP C f ⟨p.k,p.count⟩ j n:=λj hj=>Vz hs (λe=>hj e.2.2.symm)
 cases e:firstP C f ⟨p.k,p.count⟩ p.index n with
 | some x=>
  obtain⟨h1,h2⟩:=h.yes p.index hi x e;have er:ja r p.index (n,p.b)=r:=by unfold ja;rw[if_pos (by rw[List.getD_eq_getElem?_getD,h1];rfl)]
  rw[er];rw[e] at hhit;refine⟨h.l1,h.l2,λj hj x' hx'=>?_,λj hj hn=>?_⟩
  ·by_cases hji:j=p.index
   ·subst hji
    rw[hhit] at hx'
    cases hx'
    exact⟨h1,h2⟩
   ·rw[hoth j hji] at hx'
    exact h.yes j hj x' hx'
  ·by_cases hji:j=p.index
   ·subst hji
    rw[hhit] at hn;cases hn
   ·rw[hoth j hji] at hn
    exact h.no j hj hn
 | none=>
  have h1:=h.no p.index hi e;have er:ja r p.index (n,p.b)=⟨r.cells.set p.index (n,p.b),r.there.set p.index true⟩:=by unfold ja;rw[if_neg (by rw[List.getD_eq_getElem?_getD,h1];simp)]
  rw[er];rw[e] at hhit;simp only[Option.getD_none] at hhit;have hl1:=h.l1;have hl2:=h.l2;simp only at hl1 hl2;refine⟨by simp[hl1],by simp[hl2],λj hj x' hx'=>?_,λj hj hn=>?_⟩
  ·by_cases hji:j=p.index
   ·subst hji
    rw[hhit] at hx'
    cases hx'
    exact⟨by simp[List.getElem?_set,hl2,hi],by simp[List.getElem?_set,hl1,hi]⟩
   ·rw[hoth j hji] at hx'
    obtain⟨g1,g2⟩:=h.yes j hj x' hx'
    exact⟨by simp only[List.getElem?_set];rw[if_neg (λe=>hji e.symm)];exact g1,by simp only[List.getElem?_set];rw[if_neg (λe=>hji e.symm)];exact g2⟩
  ·by_cases hji:j=p.index
   ·subst hji
    rw[hhit] at hn;cases hn
   ·rw[hoth j hji] at hn
    simp only[List.getElem?_set];rw[if_neg (λe=>hji e.symm)]
    exact h.no j hj hn
theorem zd3 {K V:Type} [DecidableEq K] {m:List (K × V)} (h:(m.map (·.1)).Nodup) (k:K) (v:V):((yo m k v).map (·.1)).Nodup:=by
 cases e:zw m k with
 | none=>
  have hn:=uz.1 e;rw[Yo hn,List.map_append];refine List.nodup_append.2 ⟨h,by simp,λa ha b hb e2=>?_⟩
  simp at hb;subst hb e2;obtain⟨q,hq,rfl⟩:=List.mem_map.1 ha
  exact hn q hq rfl
 | some u=>
  have hm:=qj e;obtain⟨j,hj,hjj⟩:=List.getElem_of_mem hm;have:=zg3 h (j:=j) (p:=(k,u)) (by rw[List.getElem?_eq_getElem hj,hjj]) v
  simp only at this;rw[this,List.map_set];have e3:(m.map (·.1)).set j k=m.map (·.1):=by
   apply List.ext_getElem?
   intro i;rw[List.getElem?_set]
   split
   ·rename_i hi
    subst hi;simp[hj,hjj]
   ·rfl
  rw[e3]
  exact h
theorem qv (f:Nat→List Int):∀n,ScanOk C f n (scanN C f n)
 | 0=>⟨by simp[scanN],λK r h=>by simp[scanN,zw] at h,λK _ j=>rfl,λK r h=>by simp[scanN,zw] at h,Int.le_refl _,λi hi=>by omega⟩
 | n+1=>by
  have ih:=qv f n;unfold scanN scanStep
  cases hs:saidP C (f n) with
  | none=>
   refine⟨ih.nd,λK r h=>?_,λK h j=>?_,ih.c,ih.nx,λi hi p hp=>?_⟩
   ·have h0:=ih.row K r h
    exact⟨h0.l1,h0.l2,λj hj x hx=>h0.yes j hj x (by rwa [Vy hs] at hx),λj hj hn=>h0.no j hj (by rwa [Vy hs] at hn)⟩
   ·rw[Vy hs];exact ih.out K h j
   ·rcases Nat.lt_or_ge i n with hl|hl
    ·exact ih.lt i hl p hp
    ·obtain rfl:i=n:=by omega
     rw[hs] at hp;cases hp
  | some p=>
   have hm:=(yr hs).1;simp only;refine⟨zd3 ih.nd _ _,λK r h=>?_,λK h j=>?_,λK r h=>?_,?_,λi hi q hq=>?_⟩
   ·by_cases hK:K=⟨p.k,p.count⟩
    ·subst hK
     simp only at h;rw[ub] at h
     cases h
     refine zni hs ?_
     cases e:zw (scanN C f n).rows ⟨p.k,p.count⟩ with
     | none=>exact znh f n _ (ih.out _ e)
     | some r0=>exact ih.row _ r0 e
    ·simp only at h
     rw[uj _ _ hK] at h;have h0:=ih.row K r h;have hne:∀j,firstP C f K j (n+1)=firstP C f K j n:=λj=>Vz hs (λe=>hK (by cases K;simp only at e;rw[zt.mk.injEq];exact⟨e.1.symm,e.2.1.symm⟩))
     exact⟨h0.l1,h0.l2,λj hj x hx=>h0.yes j hj x (by rwa [hne] at hx),λj hj hn=>h0.no j hj (by rwa [hne] at hn)⟩
   ·by_cases hK:K=⟨p.k,p.count⟩
    ·subst hK
     simp only at h;rw[ub] at h;cases h
    ·simp only at h
     rw[uj _ _ hK] at h;rw[Vz hs (λe=>hK (by cases K;simp only at e;rw[zt.mk.injEq];exact⟨e.1.symm,e.2.1.symm⟩))]
     exact ih.out K h j
   ·by_cases hK:K=⟨p.k,p.count⟩
    ·subst hK
     exact⟨hm.c1,hm.c2,hm.k1⟩
    ·simp only at h
     rw[uj _ _ hK] at h
     exact ih.c K r h
   ·exact Int.le_trans ih.nx (Int.le_max_left _ _)
   ·rcases Nat.lt_or_ge i n with hl|hl
    ·have:=ih.lt i hl q hq
     simp only;omega
    ·obtain rfl:i=n:=by omega
     rw[hs] at hq
     cases hq
     simp only;omega
theorem zby {f:Nat→List Int} {K:zt} {r:xr} (h:ze3 C f n K r):r.whole=true↔∀j,j<K.count→(firstP C f K j n).isSome=true:=by
 unfold xr.whole;simp only[Bool.not_eq_true',List.contains_eq_mem,decide_eq_false_iff_not]
 constructor
 ·intro hn j hj
  cases e:firstP C f K j n with
  | some x=>rfl
  | none=>exact absurd (List.mem_of_getElem? (h.no j hj e)) hn
 ·intro hall hm
  obtain⟨j,hj,hjj⟩:=List.getElem_of_mem hm;have hjc:j<K.count:=by rw[←h.l2];exact hj
  obtain⟨x,hx⟩:=Option.isSome_iff_exists.1 (hall j hjc);have:=(h.yes j hjc x hx).1;rw[List.getElem?_eq_getElem hj,hjj] at this
  cases this
end
def xy (b:List Int) (j:Nat):List Int:=(b.drop (j*230)).take 230
theorem Qm (b:List Int) (j:Nat):(xy b j).length=min 230 (b.length-j*230):=by simp[xy]
theorem zb3 (b:List Int):∀n,(List.range n).flatMap (xy b)=b.take (n*230)
 | 0=>by simp
 | n+1=>by
  rw[List.range_succ,List.flatMap_append,zb3 b n];simp only[List.flatMap_cons,List.flatMap_nil,List.append_nil,xy];rw[show(n+1)*230=n*230+230 by omega,List.take_add]
theorem zj3 (b:List Int):(List.range (zk b.length)).flatMap (xy b)=b:=by
 rw[zb3,List.take_of_length_le];unfold zk;omega
theorem qu (n:Nat):1≤zk n:=by unfold zk;omega
theorem Vn (h1:1≤k) (h2:k≤4611686018427387904) (hb:b.length≤131072) (hj:j<zk b.length):Up ⟨k,j,zk b.length,xy b j⟩:=by
 have hl:=Qm b j;have hp:zk b.length=max 1 (b.length / 230+min 1 (b.length%230)):=rfl;refine⟨h1,h2,qu _,by show zk b.length≤570;omega,hj,by show(xy b j).length≤230;omega,λh=>?_,λh=>?_⟩
 ·simp only at h ⊢
  omega
 ·simp only at h ⊢
  have e:j*230+(xy b j).length=b.length:=by omega
  rw[e]
  exact⟨hb,h.symm ▸ rfl⟩
section
variable (C : List Int → Nat)
structure uw (f:Nat→List Int) (N:Nat) (all:List (Int × List Int)) (blk:Int→List Nat) (next:Int):Prop where
 srt:(all.map (·.1)).Pairwise (·< ·)
 len:∀q∈all,q.2.length≤131072
 bln:∀q∈all,(blk q.1).length=zk q.2.length
 blt:∀q∈all,∀i∈blk q.1,i<N
 at_:∀q∈all,∀j i,(blk q.1)[j]? = some i→saidP C (f i)=some ⟨q.1,j,zk q.2.length,xy q.2 j⟩
 only:∀i,i<N→∀p,saidP C (f i)=some p→∀q∈all,q.1=p.k→p.count=zk q.2.length∧(blk q.1)[p.index]? = some i
 part:∀i,i<N→∀p,saidP C (f i)=some p→(∀q∈all,q.1≠p.k)→∀c,1≤c→∃j,j<c∧∀i',i'<N→∀b,saidP C (f i')≠some ⟨p.k,j,c,b⟩
 lt:∀i,i<N→∀p,saidP C (f i)=some p→p.k<next
 pos:1≤next
 clean:∀i,i<N→f i=zr∨∃p,saidP C (f i)=some p
variable {C}
variable {f f' : Nat → List Int} {N : Nat} {all : List (Int × List Int)} {blk : Int → List Nat} {next : Int}
theorem uw.key (h:uw C f N all blk next) (hq:q∈all):1≤q.1∧q.1<next:=by
 have hl:=h.bln q hq;have hp:=qu q.2.length;obtain⟨i,hi⟩:∃i,(blk q.1)[0]? = some i:=⟨_,List.getElem?_eq_getElem (by omega)⟩
 have h1:=h.at_ q hq 0 i hi;have h2:=h.blt q hq i (List.mem_of_getElem? hi)
 exact⟨(yr h1).1.k1,h.lt i h2 _ h1⟩
theorem uw.uniq (h:uw C f N all blk next) (hq:q∈all) (hq':q'∈all) (e:q.1=q'.1):q=q':=by
 obtain⟨i,hi,rfl⟩:=List.getElem_of_mem hq;obtain⟨j,hj,rfl⟩:=List.getElem_of_mem hq';have hs:=h.srt;rw[List.pairwise_iff_getElem] at hs
 rcases Nat.lt_trichotomy i j with hl|hl|hl
 ·have:=hs i j (by simpa using hi) (by simpa using hj) hl
  simp at this;omega
 ·subst hl;rfl
 ·have:=hs j i (by simpa using hj) (by simpa using hi) hl
  simp at this;omega
theorem uw.apart (h:uw C f N all blk next) (hq:q∈all) (hq':q'∈all) {i:Nat} (hi:i∈blk q.1) (hi':i∈blk q'.1):q=q':=by
 obtain⟨a,ha⟩:=List.getElem?_of_mem hi;obtain⟨b,hb⟩:=List.getElem?_of_mem hi';have h1:=h.at_ q hq a i ha;have h2:=h.at_ q' hq' b i hb;rw[h1] at h2;have:=congrArg Prt.k (Option.some.inj h2)
 exact h.uniq hq hq' this
theorem uw.up (h:uw C f N all blk next) (hm:next≤m):uw C f N all blk m:=
 ⟨h.srt,h.len,h.bln,h.blt,h.at_,h.only,h.part,λi hi p hp=>Int.lt_of_lt_of_le (h.lt i hi p hp) hm,Int.le_trans h.pos hm,h.clean⟩
theorem uw.to (h:uw C f N all blk next) (hm:1≤m) (hl:∀i,i<N→∀p,saidP C (f i)=some p→p.k<m):uw C f N all blk m:=
 ⟨h.srt,h.len,h.bln,h.blt,h.at_,h.only,h.part,hl,hm,h.clean⟩
theorem uw.same (h:uw C f N all blk next) (e:∀i,i<N→f' i=f i):uw C f' N all blk next:=
 ⟨h.srt,h.len,h.bln,h.blt,λq hq j i hi=>by rw[e i (h.blt q hq i (List.mem_of_getElem? hi))];exact h.at_ q hq j i hi,
 λi hi p hp=>h.only i hi p (by rwa [e i hi] at hp),λi hi p hp hn c hc=>by
  obtain⟨j,hj,hj2⟩:=h.part i hi p (by rwa [e i hi] at hp) hn c hc
  exact⟨j,hj,λi' hi' b=>by rw[e i' hi'];exact hj2 i' hi' b⟩,
 λi hi p hp=>h.lt i hi p (by rwa [e i hi] at hp),h.pos,λi hi=>by rw[e i hi];exact h.clean i hi⟩
theorem zdm (N:Nat) (hf:∀i,i<N→f i=zr):uw C f N [] (λ_=>[]) 1:=
 have hz:∀i,i<N→saidP C (f i)=none:=λi hi=>by rw[hf i hi];exact qn (by simp[zr])
 ⟨by simp,by simp,by simp,by simp,by simp,by simp,λi hi p hp=>(by rw[hz i hi] at hp;cases hp),λi hi p hp=>(by rw[hz i hi] at hp;cases hp),Int.le_refl _,λi hi=>Or.inl (hf i hi)⟩
theorem uw.put (h:uw C f N all blk next) (hN:next≤4611686018427387904) (hb:b.length≤131072) {fr:List Nat} (hfl:fr.length=zk b.length) (hfn:fr.Nodup) (hfN:∀i∈fr,i<N) (hff:∀q∈all,∀i∈fr,i ∉ blk q.1)
 (hout:∀i,i<N→i ∉ fr→f' i=f i) (hin:∀j i,fr[j]? = some i→f' i=f i∨f' i=zr∨f' i=xe C ⟨next,j,zk b.length,xy b j⟩) :
  uw C f' N all blk (next+1)∨((∀j i,fr[j]? = some i→f' i=xe C ⟨next,j,zk b.length,xy b j⟩)∧uw C f' N (all ++ [(next,b)]) (λk=>if k=next then fr else blk k) (next+1)):=by
 have hz:saidP C zr=none:=qn (by simp[zr])
 have hnw:∀j,j<zk b.length→saidP C (xe C ⟨next,j,zk b.length,xy b j⟩)=some ⟨next,j,zk b.length,xy b j⟩:=λj hj=>Xo (Vn h.pos hN hb hj)
 -- what a block says behind it
 have hsay:∀i,i<N→∀p,saidP C (f' i)=some p→saidP C (f i)=some p∨(∃j,fr[j]? = some i∧p=⟨next,j,zk b.length,xy b j⟩):=λi hi p hp=>by
  by_cases hm:i∈fr
  ·obtain⟨j,hj⟩:=List.getElem?_of_mem hm
   have hjl:j<zk b.length:=by rw[←hfl];exact(List.getElem?_eq_some_iff.1 hj).1
   rcases hin j i hj with e|e|e
   ·left;rwa [e] at hp
   ·rw[e,hz] at hp;cases hp
   ·right
    rw[e,hnw j hjl] at hp
    cases hp
    exact⟨j,hj,rfl⟩
  ·left;rwa [hout i hi hm] at hp
 have hold:∀q∈all,∀i∈blk q.1,f' i=f i:=λq hq i hi=>hout i (h.blt q hq i hi) (λhm=>hff q hq i hm hi)
 have hlt:∀i,i<N→∀p,saidP C (f' i)=some p→p.k<next+1:=λi hi p hp=>by
  rcases hsay i hi p hp with h1|⟨j,_,rfl⟩
  ·have:=h.lt i hi p h1;omega
  ·show next<next+1;omega
 have hcl:∀i,i<N→f' i=zr∨∃p,saidP C (f' i)=some p:=λi hi=>by
  by_cases hm:i∈fr
  ·obtain⟨j,hj⟩:=List.getElem?_of_mem hm
   have hjl:j<zk b.length:=by rw[←hfl];exact(List.getElem?_eq_some_iff.1 hj).1
   rcases hin j i hj with e|e|e
   ·rw[e];exact h.clean i hi
   ·exact Or.inl e
   ·right;rw[e];exact⟨_,hnw j hjl⟩
  ·rw[hout i hi hm];exact h.clean i hi
 have hkn:∀q∈all,q.1≠next:=λq hq e=>by have:=(h.key hq).2;omega
 by_cases hall:∀j i,fr[j]? = some i→f' i=xe C ⟨next,j,zk b.length,xy b j⟩
 ·right
  refine⟨hall,?_⟩;have hbk:∀q∈all,(if q.1=next then fr else blk q.1)=blk q.1:=λq hq=>if_neg (hkn q hq)
  refine⟨?_,λq hq=>?_,λq hq=>?_,λq hq=>?_,λq hq j i hi=>?_,λi hi p hp q hq e=>?_,λi hi p hp hn c hc=>?_,hlt,by have:=h.pos;omega,hcl⟩
  ·rw[List.map_append,List.pairwise_append]
   refine⟨h.srt,by simp,λa ha c hc=>?_⟩
   obtain⟨q,hq,rfl⟩:=List.mem_map.1 ha;simp at hc;subst hc
   exact(h.key hq).2
  ·rcases List.mem_append.1 hq with hq|hq
   ·exact h.len q hq
   ·rw[List.mem_singleton.1 hq];exact hb
  ·rcases List.mem_append.1 hq with hq|hq
   ·simp only[hbk q hq];exact h.bln q hq
   ·rw[List.mem_singleton.1 hq];simp only[if_true];exact hfl
  ·rcases List.mem_append.1 hq with hq|hq
   ·simp only[hbk q hq];exact h.blt q hq
   ·rw[List.mem_singleton.1 hq];simp only[if_true];exact hfN
  ·rcases List.mem_append.1 hq with hq|hq
   ·simp only[hbk q hq] at hi
    rw[hold q hq i (List.mem_of_getElem? hi)]
    exact h.at_ q hq j i hi
   ·rw[List.mem_singleton.1 hq] at hi ⊢
    simp only[if_true] at hi;rw[hall j i hi]
    exact hnw j (by rw[←hfl];exact(List.getElem?_eq_some_iff.1 hi).1)
  ·rcases hsay i hi p hp with h1|⟨j,hj,rfl⟩
   ·rcases List.mem_append.1 hq with hq|hq
    ·simp only[hbk q hq];exact h.only i hi p h1 q hq e
    ·rw[List.mem_singleton.1 hq] at e
     have:=h.lt i hi p h1;simp only at e;omega
   ·rcases List.mem_append.1 hq with hq|hq
    ·exact absurd e (hkn q hq)
    ·rw[List.mem_singleton.1 hq]
     simp only[if_true]
     exact⟨trivial,hj⟩
  ·rcases hsay i hi p hp with h1|⟨j,hj,rfl⟩
   ·obtain⟨j,hj,hj2⟩:=h.part i hi p h1 (λq hq=>hn q (List.mem_append_left _ hq)) c hc
    refine⟨j,hj,λi' hi' b' e=>?_⟩
    rcases hsay i' hi' _ e with h2|⟨j',_,h3⟩
    ·exact hj2 i' hi' b' h2
    ·have:=congrArg Prt.k h3
     simp only at this
     exact hn (next,b) (by simp) this.symm
   ·exact absurd rfl (hn (next,b) (by simp))
 ·left
  -- some part of it did not come
  obtain⟨j0,i0,hj0,hne⟩:∃j i,fr[j]? = some i∧f' i≠xe C ⟨next,j,zk b.length,xy b j⟩:=by
   apply Classical.byContradiction
   intro hno
   exact hall λj i hji=>Classical.byContradiction λhne=>hno ⟨j,i,hji,hne⟩
  have hj0l:j0<zk b.length:=by rw[←hfl];exact(List.getElem?_eq_some_iff.1 hj0).1
  refine⟨h.srt,h.len,h.bln,h.blt,λq hq j i hi=>?_,λi hi p hp q hq e=>?_,λi hi p hp hn c hc=>?_,hlt,by have:=h.pos;omega,hcl⟩
  ·rw[hold q hq i (List.mem_of_getElem? hi)];exact h.at_ q hq j i hi
  ·rcases hsay i hi p hp with h1|⟨j,hj,rfl⟩
   ·exact h.only i hi p h1 q hq e
   ·exact absurd e (hkn q hq)
  ·rcases hsay i hi p hp with h1|⟨j,hj,rfl⟩
   ·obtain⟨j,hj,hj2⟩:=h.part i hi p h1 hn c hc
    refine⟨j,hj,λi' hi' b' e=>?_⟩
    rcases hsay i' hi' _ e with h2|⟨j',_,h3⟩
    ·exact hj2 i' hi' b' h2
    ·have h4:=congrArg Prt.k h3
     simp only at h4;have:=h.lt i hi p h1;omega
   ·by_cases hcc:c=zk b.length
    ·subst hcc
     refine⟨j0,hj0l,λi' hi' b' e=>?_⟩
     rcases hsay i' hi' _ e with h2|⟨j',hj',h3⟩
     ·have:=h.lt i' hi' _ h2
      simp only at this;omega
     ·have h4:=congrArg Prt.index h3
      simp only at h4;subst h4;rw[hj0] at hj'
      cases hj'
      rcases hin j0 i0 hj0 with e2|e2|e2
      ·rw[e2] at e
       have:=h.lt i0 hi' _ e;simp only at this;omega
      ·rw[e2,hz] at e;cases e
      ·exact hne e2
    ·refine⟨0,by omega,λi' hi' b' e=>?_⟩
     rcases hsay i' hi' _ e with h2|⟨j',hj',h3⟩
     ·have:=h.lt i' hi' _ h2
      simp only at this;omega
     ·have h4:=congrArg Prt.count h3
      simp only at h4
      exact hcc h4
theorem uw.rem (h:uw C f N all blk next) {q0:Int × List Int} (hq0:q0∈all) {i0:Nat} (hi0:(blk q0.1)[0]? = some i0) (hz0:f' i0=zr) (hout:∀i,i<N→i≠i0→f' i=f i) :
  uw C f' N (all.filter λq=>decide (q.1≠q0.1)) blk next:=by
 have hz:saidP C zr=none:=qn (by simp[zr])
 have hsay:∀i,i<N→∀p,saidP C (f' i)=some p→i≠i0∧saidP C (f i)=some p:=λi hi p hp=>by
  by_cases hm:i=i0
  ·rw[hm,hz0,hz] at hp;cases hp
  ·exact⟨hm,by rwa [hout i hi hm] at hp⟩
 have hsub:∀q∈all.filter (λq=>decide (q.1≠q0.1)),q∈all∧q.1≠q0.1:=λq hq=>by simpa using hq
 refine⟨?_,λq hq=>h.len q (hsub q hq).1,λq hq=>h.bln q (hsub q hq).1,λq hq=>h.blt q (hsub q hq).1,λq hq j i hi=>?_,λi hi p hp q hq e=>?_,λi hi p hp hn c hc=>?_,λi hi p hp=>h.lt i hi p (hsay i hi p hp).2,h.pos,λi hi=>?_⟩
 ·exact h.srt.sublist (List.Sublist.map _ List.filter_sublist)
 ·have hne:i≠i0:=λe=>(hsub q hq).2 (by rw[h.apart (hsub q hq).1 hq0 (List.mem_of_getElem? hi) (e ▸ List.mem_of_getElem? hi0)])
  rw[hout i (h.blt q (hsub q hq).1 i (List.mem_of_getElem? hi)) hne]
  exact h.at_ q (hsub q hq).1 j i hi
 ·exact h.only i hi p (hsay i hi p hp).2 q (hsub q hq).1 e
 ·obtain⟨hne,h1⟩:=hsay i hi p hp
  by_cases hk:q0.1=p.k
  ·refine⟨0,by omega,λi' hi' b' e=>?_⟩
   obtain⟨hne',h2⟩:=hsay i' hi' _ e;have:=(h.only i' hi' _ h2 q0 hq0 hk).2;simp only at this;rw[hi0] at this
   cases this
   exact hne' rfl
  ·obtain⟨j,hj,hj2⟩:=h.part i hi p h1 (λq hq e=>by
    refine hn q (List.mem_filter.2 ⟨hq,by simp;intro e2;exact hk (by omega)⟩) e) c hc
   exact⟨j,hj,λi' hi' b' e=>hj2 i' hi' b' (hsay i' hi' _ e).2⟩
 ·by_cases hm:i=i0
  ·left;rw[hm];exact hz0
  ·rw[hout i hi hm];exact h.clean i hi
end
end Go.Proofs.YtbcbhlfjgobejaaGreat
