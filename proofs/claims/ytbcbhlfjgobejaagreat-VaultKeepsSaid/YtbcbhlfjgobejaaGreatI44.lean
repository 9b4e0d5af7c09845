/- works() of chapter 21: the walk. Conditions: none, or as the theorems say. -/
import Derived.Test.YtbcbhlfjgobejaaGreatI38
import Derived.Test.YtbcbhlfjgobejaaGreatI43
set_option linter.unusedSimpArgs false
set_option linter.unusedVariables false
namespace Go.Proofs.YtbcbhlfjgobejaaGreat
set_option maxHeartbeats 200000000
open Go.RowKit Go.Sf
attribute [local go_sem] Oper.semAt_some
theorem kj_free {S:Sto} {N:Nat} {all:List (Int × List Int)} (h:KJ S N all):zdc S.taken+(all.map fun q=>zt q.2.length).sum=N:=by
 obtain⟨h1,blk,h2⟩:=h;have hf:=h1.free;have e:lds S=all.flatMap fun q=>blk q.1:=by
  unfold lds;rw[h2.recs,List.flatMap_map]
 have e2:∀l:List (Int × List Int),(∀q∈l,(blk q.1).length=zt q.2.length)→(l.flatMap fun q=>blk q.1).length=(l.map fun q=>zt q.2.length).sum:=fun l=>by
  induction l with
  | nil=>intro _;rfl
  | cons q t ih=>
   intro hl;rw[List.flatMap_cons,List.length_append,ih fun p hp=>hl p (List.mem_cons_of_mem _ hp),hl q (List.mem_cons_self ..)]
   simp
 rw[e,e2 all h2.good.bln] at hf
 exact hf
theorem Xd {all:List Int} {s:Nat × Bool} {k:Nat} (h:(ux all s k).2=false):s.2=false∧k≤all.length-s.1∧(ux all s k).1=s.1+k∧(Vc all s k).length=k:=by
 unfold ux at h ⊢;unfold Vc
 by_cases hk:zfh all s k=true
 ·obtain⟨h1,h2⟩:=(jl _ _ _).1 hk
  rw[if_pos hk,if_pos hk];refine⟨h1,h2,rfl,?_⟩;rw[List.length_take,List.length_drop];omega
 ·rw[if_neg hk] at h
  cases h
theorem okS_len {b:List Int} {s:ShM} (h:okS b s):b.length=18+s.key.length+s.row.length:=by
 obtain⟨h4,g,hg,ho,rfl⟩:=h;unfold okG at ho;simp only[Bool.and_eq_true,Bool.not_eq_true',decide_eq_true_eq] at ho;obtain⟨o1,o2,-⟩:=ho;have hE:(b.take (b.length-4)).length=b.length-4:=by rw[List.length_take];omega
 have e6:=Xd (all:=b.take (b.length-4)) (s:=g.s5) (k:=g.m) (by rw[←hg.s6];exact o1)
 have e5:=Xd (all:=b.take (b.length-4)) (s:=g.s4) (k:=4) (by rw[←hg.s5];exact e6.1)
 have e4:=Xd (all:=b.take (b.length-4)) (s:=g.s3) (k:=1) (by rw[←hg.s4];exact e5.1)
 have e3:=Xd (all:=b.take (b.length-4)) (s:=g.s2) (k:=8) (by rw[←hg.s3];exact e4.1)
 have e2:=Xd (all:=b.take (b.length-4)) (s:=g.s1) (k:=g.n) (by rw[←hg.s2];exact e3.1)
 have e1:=Xd (all:=b.take (b.length-4)) (s:=(0,false)) (k:=1) (by rw[←hg.s1];exact e2.1)
 rw[←hg.s6] at e6;rw[←hg.s5] at e5;rw[←hg.s4] at e4;rw[←hg.s3] at e3;rw[←hg.s2,←hg.key] at e2;rw[←hg.s1] at e1;rw[←hg.row] at e6;obtain⟨-,a1,a2,a3⟩:=e6;obtain⟨-,b1,b2,-⟩:=e5;obtain⟨-,c1,c2,-⟩:=e4;obtain⟨-,d1,d2,-⟩:=e3;obtain⟨-,f1,f2,f3⟩:=e2;obtain⟨-,g1,g2,-⟩:=e1
 show b.length=18+g.key.length+g.row.length
 simp only at g2;omega
theorem zg7 {b:List Int} {s:ShM} (h:vsaid b=some (.inr s)):b.length=19+s.key.length+s.row.length:=by
 cases b with
 | nil=>cases h
 | cons k t=>
  replace h:vsaidK k t=some (.inr s):=h;unfold vsaidK at h
  split at h
  ·split at h
   ·injection h with h;cases h
   ·cases h
  ·split at h
   ·split at h
    ·rename_i he
     injection h with h
     injection h with h
     have:=okS_len he.choose_spec.1;rw[h] at this;simp only[List.length_cons];omega
    ·cases h
   ·cases h
theorem zg5 {b:List Int} {n:Int} (h:vsaid b=some (.inl n)):b.length=9:=by
 cases b with
 | nil=>cases h
 | cons k t=>
  replace h:vsaidK k t=some (.inl n):=h;unfold vsaidK at h
  split at h
  ·split at h
   ·rename_i hc
    simp[hc.1]
   ·cases h
  ·split at h
   ·split at h
    ·injection h with h;cases h
    ·cases h
   ·cases h
structure XL (X:VX) (l:List ShM):Prop where
 nd:(l.map idS).Nodup
 sh:∀i s,X.sh i=some s↔(s∈l∧idS s=i)
theorem znh:XL X0 []:=⟨List.nodup_nil,fun i s=>by simp[X0]⟩
section
variable {X : VX} {l : List ShM} {s : ShM} {n : Int}
theorem XL.born (h:XL X l) (n:Int):XL (X.born n) l:=⟨h.nd,h.sh⟩
theorem Up {x:ShM}:x∈woI l s↔x∈l∧idS x≠idS s:=by unfold woI;simp
theorem znf (h:(l.map idS).Nodup):((woI l s).map idS).Nodup:=h.sublist (List.filter_sublist.map _)
theorem XL.drop (h:XL X l) (s:ShM):XL (X.drop (idS s)) (woI l s):=by
 refine⟨znf h.nd,fun i t=>?_⟩
 show(if idS s=i then none else X.sh i)=some t↔_
 rw[Up]
 by_cases hi:idS s=i
 ·rw[if_pos hi]
  exact⟨fun e=>(by cases e),fun ⟨⟨_,h2⟩,h3⟩=>absurd (h3.trans hi.symm) h2⟩
 ·rw[if_neg hi,h.sh]
  exact⟨fun ⟨a,b⟩=>⟨⟨a,fun e=>hi (e.symm.trans b)⟩,b⟩,fun ⟨⟨a,_⟩,b⟩=>⟨a,b⟩⟩
theorem XL.put (h:XL X l) (s:ShM):XL (X.put s) (woI l s ++ [s]):=by
 refine⟨?_,fun i t=>?_⟩
 ·rw[List.map_append]
  refine List.nodup_append.2 ⟨znf h.nd,by simp,fun a ha b hb e=>?_⟩
  obtain⟨x,hx,rfl⟩:=List.mem_map.1 ha;simp only[List.map_cons,List.map_nil,List.mem_singleton] at hb
  exact(Up.1 hx).2 (e.trans hb)
 ·show(if idS s=i then some s else X.sh i)=some t↔_
  rw[List.mem_append,Up,List.mem_singleton]
  by_cases hi:idS s=i
  ·rw[if_pos hi]
   constructor
   ·intro e
    injection e with e
    exact⟨Or.inr e.symm,e ▸ hi⟩
   ·rintro⟨⟨_,h2⟩|e,h3⟩
    ·exact absurd (h3.trans hi.symm) h2
    ·rw[e]
  ·rw[if_neg hi,h.sh]
   constructor
   ·rintro⟨a,b⟩
    exact⟨Or.inl ⟨a,fun e=>hi (e.symm.trans b)⟩,b⟩
   ·rintro⟨⟨a,_⟩|e,b⟩
    ·exact⟨a,b⟩
    ·exact absurd (e ▸ b) hi
theorem nd_sub {α:Type} [DecidableEq α] {A B:List α} (ha:A.Nodup) (hs:∀x∈A,x∈B) (hb:B.Nodup) (hl:A.length=B.length):∀x∈B,x∈A:=fun x hx=>by
 by_cases h:x∈A
 ·exact h
 ·exfalso
  have h1:(x :: A).Nodup:=List.nodup_cons.2 ⟨h,ha⟩;have h2:=h1.length_le_of_subset (fun y hy=>by
   rcases List.mem_cons.1 hy with e|e
   ·rw[e];exact hx
   ·exact hs y e)
  simp only[List.length_cons] at h2;omega
theorem Yx {V:Type} {m:List (VID × V)} {i:VID}:i∈m.map (·.1)↔∃v,zw m i=some v:=by
 cases h:zw m i with
 | none=>
  simp only[reduceCtorEq,exists_false,iff_false];intro hm;obtain⟨p,hp,e⟩:=List.mem_map.1 hm
  exact qj.1 h p hp e
 | some v=>exact⟨fun _=>⟨v,rfl⟩,fun _=>List.mem_map.2 ⟨_,uo h,rfl⟩⟩
variable {V : Vlt} {al : List (Int × List Int)} {blk : Int → List Nat} {N : Nat}
theorem VI.xsh (h:VI V al blk) (i:VID):(vx al).sh i=(zw V.sh i).map (·.1):=by rw[h.sh];rfl
theorem VI.xlife (h:VI V al blk):(vx al).life=V.life:=h.lfE.symm
theorem VI.same (h:VI V al blk) (hx:XL (vx al) l):Ur V (vx al).life l:=by
 refine⟨h.lfE,?_,fun x hx2=>?_⟩
 ·have h1:(V.sh.map (·.1)).Perm (l.map idS):=(List.perm_ext_iff_of_nodup h.nd hx.nd).2 fun i=>by
   rw[Yx]
   constructor
   ·rintro⟨v,e⟩
    have:=(hx.sh i v.1).1 (by rw[h.xsh,e];rfl)
    exact List.mem_map.2 ⟨v.1,this.1,this.2⟩
   ·intro hm
    obtain⟨s,hs,e⟩:=List.mem_map.1 hm;have:=(hx.sh i s).2 ⟨hs,e⟩;rw[h.xsh] at this
    cases e2:zw V.sh i with
    | none=>rw[e2] at this;cases this
    | some v=>exact⟨v,rfl⟩
  have:=h1.length_eq;simpa using this
 ·have:=(hx.sh (idS x) x).2 ⟨hx2,rfl⟩
  rw[h.xsh] at this
  cases e2:zw V.sh (idS x) with
  | none=>rw[e2] at this;cases this
  | some v=>
   rw[e2] at this
   injection this with this
   exact⟨v.2,by rw[←this]⟩
theorem VI.of_same (h:VI V al blk) (hn:(l.map idS).Nodup) {life:Int} (hs:Ur V life l):(vx al).life=life∧XL (vx al) l:=by
 obtain⟨h1,h2,h3⟩:=hs;refine⟨h.xlife.trans h1,hn,fun i s=>?_⟩
 rw[h.xsh];have hsub:=nd_sub (A:=l.map idS) (B:=V.sh.map (·.1)) hn (fun j hj=>by
  obtain⟨x,hx,rfl⟩:=List.mem_map.1 hj;obtain⟨k,e⟩:=h3 x hx
  exact Yx.2 ⟨_,e⟩) h.nd (by simpa using h2.symm)
 constructor
 ·intro e
  cases e2:zw V.sh i with
  | none=>rw[e2] at e;cases e
  | some v=>
   rw[e2] at e
   injection e with e
   obtain⟨x,hx,hxi⟩:=List.mem_map.1 (hsub i (Yx.2 ⟨v,e2⟩));obtain⟨k,e3⟩:=h3 x hx;rw[hxi,e2] at e3
   injection e3 with e3
   have:s=x:=by rw[←e,e3]
   rw[this]
   exact⟨hx,hxi⟩
 ·rintro⟨hs,rfl⟩
  obtain⟨k,e⟩:=h3 s hs;rw[e];rfl
structure VJ (V:Vlt) (N:Nat) (al:List (Int × List Int)):Prop where
 st:JSt V.S N
 vi:∃blk,VI V al blk
theorem VJ.free (h:VJ V N al):zdc V.S.taken+(al.map fun q=>zt q.2.length).sum=N:=by
 obtain⟨h1,blk,h2⟩:=h
 exact kj_free ⟨h1,blk,h2.inv⟩
theorem zex {X':VX} {r:Vlt × Int} (h:VOut V al X' r) (h0:r.2=0):∃al' blk',VI r.1 al' blk'∧vx al'=X'∧r.1.S.next≤V.S.next+1:=by
 rcases h with ⟨V',al',blk',rfl,h1,h2,h3,_⟩|⟨e,e1,_,rfl⟩|⟨V',rfl,_⟩
 ·exact⟨al',blk',h1,h2,h3⟩
 ·exact absurd h0 e1
 ·exact absurd h0 (show ¬(180:Int)=0 by decide)
theorem zb9 {V:Vlt} {k:Int} {S2:Sto} (e:V.S.rem k=(S2,0)):V.rem k=({ V with S:=S2 },0):=by
 unfold Vlt.rem;rw[e]
 exact Prod.ext (Un _) rfl
theorem zf8 {V:Vlt} {k r:Int} {b:List Int} {S2:Sto} (e:V.S.put (k :: b)=(S2,r,0)):V.put k b = { V with S:=S2 }:=by
 unfold Vlt.put;rw[e]
 exact Un _
theorem VJ.put (h:VJ V N al) (hn:V.S.next≤1000000) (hms:ze3 s) (hbl:BL s.key∧BL s.row) (hl:V.life≠0) (hr:(al.map fun q=>zt q.2.length).sum+zt (19+s.key.length+s.row.length)≤N) :
  (V.putS s).2=0∧∃al',VJ (V.putS s).1 N al'∧vx al'=(vx al).put s∧(V.putS s).1.S.next≤V.S.next+1:=by
 have hf:=h.free;obtain⟨hst,blk,hi⟩:=h;have key:(V.putS s).2=0∧JSt (V.putS s).1.S N:=by
  have hm:=(Yj s hms.v2).2 hms
  by_cases hs:(zw V.sh (idS s)).isSome=true∧(V.look (idS s)).1=s
  ·rw[zer hi.brk hm hl hs]
   exact⟨rfl,hst⟩
  ·have hlen:(83 :: vh s).length=19+s.key.length+s.row.length:=by rw[List.length_cons,Vj];omega
   have hk2:=hms.k2;have hr2:=hms.r;obtain⟨S1,fr,e1,g1,g2,g3,g4⟩:=hst.put (b:=83 :: vh s) (by omega) (by rw[hlen];omega) (by rw[hlen];omega) (uq _)
   have hp:=zf8 e1
   by_cases his:(zw V.sh (idS s)).isSome=true
   ·rw[zh5 hi.brk hm hl hs e1 his,hp]
    obtain⟨p,hpp⟩:=Option.isSome_iff_exists.1 his;have hlk:(V.look (idS s)).2=p.2:=by unfold Vlt.look;rw[hpp];rfl
    rw[hi.sh] at hpp;obtain⟨q,hqm,hqe,hqk⟩:=Zu (k:=p.2) (s:=p.1) hpp;obtain⟨S2,e2,j2,-,-⟩:=g1.remA (k:=q.1) (b:=q.2) (fr:=blk q.1) (by rw[g2];exact List.mem_append_left _ (hi.inv.mem hqm))
    rw[hlk,←hqk,zb9 (V:=Vlt.keep { V with S:=S1 } (idS s) s V.S.next) e2]
    exact⟨rfl,j2⟩
   ·rw[zh6 hi.brk hm hl e1 (by simpa using his),hp]
    exact⟨rfl,g1⟩
 obtain⟨al',blk',v1,v2,v3⟩:=zex (zaw hi (by omega) s hms.v2 hbl) key.1
 exact⟨key.1,al',⟨key.2,blk',v1⟩,v2,v3⟩
theorem VJ.born (h:VJ V N al) (hn:V.S.next≤1000000) {n:Int} (h1:1≤n) (h2:n≤4611686018427387904) (hl:V.life<n) (hr:(al.map fun q=>zt q.2.length).sum+1≤N) :
  (V.born n).2=0∧∃al',VJ (V.born n).1 N al'∧vx al'=(vx al).born n∧(V.born n).1.S.next≤V.S.next+1:=by
 have hf:=h.free;obtain⟨hst,blk,hi⟩:=h;have key:(V.born n).2=0∧JSt (V.born n).1.S N:=by
  have a1:¬(n<1∨4611686018427387904<n):=by omega
  have a2:¬n≤V.life:=by omega
  have hlen:(76 :: be 8 n.toNat).length=9:=by rw[List.length_cons,yo]
  have hp9:zt 9=1:=rfl;obtain⟨S1,fr,e1,g1,g2,g3,g4⟩:=hst.put (b:=76 :: be 8 n.toNat) (by omega) (by rw[hlen];omega) (by rw[hlen,hp9];omega) (uq _)
  have hp:=zf8 e1
  by_cases ha:0<V.at_
  ·rw[zhg hi.brk a1 a2 e1 ha,hp]
   obtain⟨q,hqm,hql,hqk⟩:=Ju (l:=al) (by rw[←hi.atE];omega)
   obtain⟨S2,e2,j2,-,-⟩:=g1.remA (k:=q.1) (b:=q.2) (fr:=blk q.1) (by rw[g2];exact List.mem_append_left _ (hi.inv.mem hqm))
   have hre:=zb9 (V:=Vlt.znn { V with S:=S1 } n V.S.next) e2
   have hqa:q.1=V.at_:=hqk.trans hi.atE.symm;rw[hqa] at hre;rw[hre]
   exact⟨rfl,j2⟩
  ·rw[zhh hi.brk a1 a2 e1 ha,hp]
   exact⟨rfl,g1⟩
 obtain⟨al',blk',v1,v2,v3⟩:=zex (zat hi (by omega) n) key.1
 exact⟨key.1,al',⟨key.2,blk',v1⟩,v2,v3⟩
theorem VJ.drop (h:VJ V N al) {i:VID} (his:(vx al).sh i≠none) :
  (V.drop i).2=0∧∃al',VJ (V.drop i).1 N al'∧vx al'=(vx al).drop i∧(V.drop i).1.S.next≤V.S.next+1:=by
 obtain⟨hst,blk,hi⟩:=h;have key:(V.drop i).2=0∧JSt (V.drop i).1.S N:=by
  rw[hi.xsh] at his;obtain⟨p,hpp⟩:∃p,zw V.sh i=some p:=by
   cases e:zw V.sh i with
   | none=>rw[e] at his;exact absurd rfl his
   | some p=>exact⟨p,rfl⟩
  have hlk:(V.look i).2=p.2:=by unfold Vlt.look;rw[hpp];rfl
  have hpp2:=hpp;rw[hi.sh] at hpp2;obtain⟨q,hqm,hqe,hqk⟩:=Zu (k:=p.2) (s:=p.1) hpp2;obtain⟨S2,e2,j2,-,-⟩:=hst.remA (k:=q.1) (b:=q.2) (fr:=blk q.1) (hi.inv.mem hqm);unfold Vlt.drop;rw[if_neg (by simp[hi.brk]),if_neg (by rw[hpp];simp),hlk,←hqk,zb9 e2,if_neg (by simp)]
  exact⟨rfl,j2⟩
 obtain⟨al',blk',v1,v2,v3⟩:=zex (zau hi i) key.1
 exact⟨key.1,al',⟨key.2,blk',v1⟩,v2,v3⟩
theorem zd0 {α:Type} (f:α→Nat) (p:α→Bool):∀l:List α,(l.map f).sum=((l.filter p).map f).sum+((l.filter fun x=>!p x).map f).sum
 | []=>rfl
 | a :: t=>by
  have ih:=zd0 f p t
  by_cases h:p a=true
  ·rw[List.filter_cons_of_pos h,List.filter_cons_of_neg (by simp[h])]
   simp only[List.map_cons,List.sum_cons];omega
  ·rw[List.filter_cons_of_neg h,List.filter_cons_of_pos (by simpa using h)]
   simp only[List.map_cons,List.sum_cons];omega
theorem zdm {α β:Type} (f:α→β) {l:List α} (h:(l.map f).Nodup):l.Nodup:=List.Pairwise.of_map f (fun a b h e=>h (by rw[e])) h
theorem zka {α β:Type} {f:α→β} {l:List α} (hf:∀a∈l,∀b∈l,f a=f b→a=b) (h:l.Nodup):(l.map f).Nodup:=List.pairwise_map.2 (List.Pairwise.imp_of_mem (fun ha hb h e=>h (hf _ ha _ hb e)) h)
theorem nd_one {α:Type} {l:List α} {a:α} (hn:l.Nodup) (ha:a∈l) (h:∀x∈l,x=a):l = [a]:=by
 match l,hn,ha,h with
 | [x],_,ha,h=>rw[h x (by simp)]
 | x :: y :: t,hn,_,h=>
  exfalso
  have h1:=h x (by simp)
  have h2:=h y (by simp)
  rw[h1,h2] at hn;simp at hn
noncomputable def sayS (q:Int × List Int):ShM:=match vsaid q.2 with
 | some (.inr s)=>s
 | _=>⟨[],0,0,[]⟩
noncomputable def isL (q:Int × List Int):Bool:=match vsaid q.2 with
 | some (.inl _)=>true
 | _=>false
theorem VJ.sum (h:VJ V N al) (hx:XL (vx al) l) (hl:(vx al).life≠0):(al.map fun q=>zt q.2.length).sum=1+(l.map fun x=>zt (19+x.key.length+x.row.length)).sum:=by
 obtain⟨-,blk,hi⟩:=h;have hks:=hi.inv.ks;have hnd:al.Nodup:=by
  have h1:(al.map (·.1)).Nodup:=hks.up.imp fun h e=>by omega
  exact zdm _ h1
 have hlf:∀q∈al,isL q=true→q.1=(lifeOf al).2∧∃n,vsaid q.2=some (.inl n):=fun q hq h1=>by
  unfold isL at h1
  split at h1
  ·rename_i n hn
   refine⟨?_,n,hn⟩
   rcases hi.top q hq with e|⟨i,s,e⟩
   ·exact e.symm
   ·obtain⟨r,hr,e3,e4⟩:=Zu e
    obtain rfl:=hks.uniq hr hq e4;have h5:=(Yz e3).1;rw[hn] at h5
    cases h5
  ·cases h1
 have hsh:∀q∈al,isL q=false→vsaid q.2=some (.inr (sayS q))∧shOf al (idS (sayS q))=some (sayS q,q.1):=fun q hq h1=>by
  unfold isL at h1
  cases e:vsaid q.2 with
  | none=>exact absurd e (hi.says q hq)
  | some r=>
   cases r with
   | inl n=>rw[e] at h1;cases h1
   | inr s=>
    have hs:sayS q=s:=by unfold sayS;rw[e]
    rw[hs];refine⟨rfl,?_⟩
    rcases hi.top q hq with e2|⟨i,s',e2⟩
    ·exfalso
     have h0:=hks.pos q hq;obtain⟨r,hr,e3,e4⟩:=Ju (l:=al) (by omega)
     obtain rfl:=hks.uniq hr hq (by rw[e4,e2])
     have h5:=(Uy e3).1;rw[e] at h5
     cases h5
    ·obtain⟨r,hr,e3,e4⟩:=Zu e2
     obtain rfl:=hks.uniq hr hq e4;obtain⟨h5,h6,h7⟩:=Yz e3;rw[e] at h5
     injection h5 with h5
     injection h5 with h5
     simp only at h5 h7;rw[h5,h7]
     exact e2
 rw[zd0 _ isL al]
 congr 1
 ·obtain⟨q0,hq0,hq1⟩:∃q∈al,lfE q=some (lifeOf al):=by
   rcases Uz al with e|e
   ·exfalso
    apply hl
    show(lifeOf al).1=0
    rw[e]
   ·exact e
  have h1:=Uy hq1;have hL:isL q0=true:=by unfold isL;rw[h1.1]
  rw[nd_one (hnd.sublist List.filter_sublist) (List.mem_filter.2 ⟨hq0,hL⟩) (fun q hq=>by
   obtain⟨hq2,hq3⟩:=List.mem_filter.1 hq
   exact hks.uniq hq2 hq0 (by rw[(hlf q hq2 hq3).1,h1.2]))]
  simp only[List.map_cons,List.map_nil,List.sum_cons,List.sum_nil,zg5 h1.1]
  rfl
 ·have hmap:((al.filter fun x=>!isL x).map fun q=>zt q.2.length)=((al.filter fun x=>!isL x).map sayS).map fun x=>zt (19+x.key.length+x.row.length):=by
   rw[List.map_map];refine List.map_congr_left fun q hq=>?_
   obtain⟨hq1,hq2⟩:=List.mem_filter.1 hq;have:=zg7 (hsh q hq1 (by simpa using hq2)).1
   show zt q.2.length=zt (19+(sayS q).key.length+(sayS q).row.length)
   rw[this]
  rw[hmap];have hp:((al.filter fun x=>!isL x).map sayS).Perm l:=(List.perm_ext_iff_of_nodup ?_ ?_).2 fun s=>?_
  ·exact(hp.map _).sum_nat
  ·refine zka ?_ (hnd.sublist List.filter_sublist)
   intro a ha b hb e;obtain⟨a1,a2⟩:=List.mem_filter.1 ha;obtain⟨b1,b2⟩:=List.mem_filter.1 hb;have h1:=(hsh a a1 (by simpa using a2)).2
   have h2:=(hsh b b1 (by simpa using b2)).2
   rw[e,h2] at h1
   injection h1 with h1
   injection h1 with _ h1
   exact hks.uniq a1 b1 h1.symm
  ·exact zdm _ hx.nd
  ·constructor
   ·intro hs
    obtain⟨q,hq,rfl⟩:=List.mem_map.1 hs;obtain⟨hq1,hq2⟩:=List.mem_filter.1 hq;have h1:=(hsh q hq1 (by simpa using hq2)).2
    exact((hx.sh _ _).1 (by show(shOf al _).map _=_;rw[h1];rfl)).1
   ·intro hs
    have h1:=(hx.sh _ _).2 ⟨hs,rfl⟩;have h1:(shOf al (idS s)).map (·.1)=some s:=h1
    cases e:shOf al (idS s) with
    | none=>rw[e] at h1;cases h1
    | some p=>
     rw[e] at h1
     injection h1 with h1
     obtain⟨q,hq,e2,e3⟩:=Zu (k:=p.2) (s:=p.1) e;have h5:=(Yz e2).1;refine List.mem_map.2 ⟨q,List.mem_filter.2 ⟨hq,?_⟩,?_⟩
     ·unfold isL;rw[h5];rfl
     ·unfold sayS;rw[h5];exact h1
end
open Go.RowKit Go.Sf Go.Shelf
attribute [local go_sem] Oper.semAt_some
def NewSh (W:World) (s:ShM) (e:Ending) (w':World):Prop:=∃pk ck pr cr,e = .returned (shV pk ck pr cr s)∧W.grownBy w' none∧ye (fun k=>W.heap.size≤k∧k<w'.heap.size) w' (.slice pk s.key.length ck) (zi s.key)∧ye (fun k=>W.heap.size≤k∧k<w'.heap.size) w' (.slice pr s.row.length cr) (zi s.row)
set_option maxRecDepth 100000 in
theorem zkn (W:World) {b:List Int} (hb:BL b) (hl:b.length≤100000):Calls Tryz.prog 77 #[.string (ofB b)] W (NewSh W ⟨[97],1,2,b⟩):=by
 have hcv0:=fun (w:World) (C:Array Value) (n c:Nat)=>Lib.run_convert_bytes_const (P:=Tryz.prog) w 32 5 C n c Tryz.underlying32 Tryz.underlying5
 go_enter Tryz.func77,Tryz.ntmps77
 go_upto_region 1 with fail
 have HG1:=zd (zg W (.cells #[.slice none 0 0,.int .i64 0,.int .i64 0,.slice none 0 0] 97) none);have HB1:=zd (heap_alloc_new W (.cells #[.slice none 0 0,.int .i64 0,.int .i64 0,.slice none 0 0] 97));generalize W.alloc (.cells #[.slice none 0 0,.int .i64 0,.int .i64 0,.slice none 0 0] 97)=W1 at *;obtain⟨yv,w3,hcv,hg3,hy⟩:=zjt (W1.alloc (.cells #[.int .u8 97] 5 (1,2))) (ofB b) (by rw[zmp];omega)
 rw[zev hb] at hy;have HY:=zd hy;obtain⟨pr,cr,e,-,-,-⟩:=hy.ex;rw[zr] at e;subst e;have HG3:=zd hg3;clear hy hg3;have hg03:=zo (zg W1 (.cells #[.int .u8 97] 5 (1,2)) none) HG3.out;have hb3:=(hg03.block _ (Array.getElem?_eq_some_iff.1 HB1.out).1 (by simp)).trans HB1.out
 have HB3:=zd hb3;have c0:w3.cell? ⟨W.heap.size,0,none⟩=some (.slice none 0 0):=(zh hb3 0).trans rfl;have c1:w3.cell? ⟨W.heap.size,1,none⟩=some (.int .i64 0):=(zh hb3 1).trans rfl;have c2:w3.cell? ⟨W.heap.size,2,none⟩=some (.int .i64 0):=(zh hb3 2).trans rfl;have c3:w3.cell? ⟨W.heap.size,3,none⟩=some (.slice none 0 0):=(zh hb3 3).trans rfl;have cf:∀i,w3.frozen? ⟨W.heap.size,i,none⟩=false:=fun i=>by simp[World.frozen?,hb3]
 clear hb3;generalize hbl:b.length=bl at *
 go_wp2_with (rw[hcv])
 have hs:w3.grownBy ((((w3.setCell ⟨W.heap.size,0,none⟩ (.slice (some ⟨W1.heap.size,0,none⟩) 1 1)).setCell ⟨W.heap.size,1,none⟩ (.int .i64 1)).setCell ⟨W.heap.size,2,none⟩ (.int .i64 2)).setCell ⟨W.heap.size,3,none⟩ (.slice pr bl cr)) (some W.heap.size):=(((yb _ _ _ _).trans (yb _ _ _ _)).trans (yb _ _ _ _)).trans (yb _ _ _ _);have hz:((((w3.setCell ⟨W.heap.size,0,none⟩ (.slice (some ⟨W1.heap.size,0,none⟩) 1 1)).setCell ⟨W.heap.size,1,none⟩ (.int .i64 1)).setCell ⟨W.heap.size,2,none⟩ (.int .i64 2)).setCell ⟨W.heap.size,3,none⟩ (.slice pr bl cr)).heap.size=w3.heap.size:=by simp[World.setCell]
 have hbx:((((w3.setCell ⟨W.heap.size,0,none⟩ (.slice (some ⟨W1.heap.size,0,none⟩) 1 1)).setCell ⟨W.heap.size,1,none⟩ (.int .i64 1)).setCell ⟨W.heap.size,2,none⟩ (.int .i64 2)).setCell ⟨W.heap.size,3,none⟩ (.slice pr bl cr)).heap[W.heap.size]? = some (.cells #[.slice (some ⟨W1.heap.size,0,none⟩) 1 1,.int .i64 1,.int .i64 2,.slice pr bl cr] 97 (0,0)):=by
  simp only[World.setCell,Array.getElem?_modify,HB3.out,if_true,Option.map_some]
  rfl
 generalize (((w3.setCell ⟨W.heap.size,0,none⟩ (.slice (some ⟨W1.heap.size,0,none⟩) 1 1)).setCell ⟨W.heap.size,1,none⟩ (.int .i64 1)).setCell ⟨W.heap.size,2,none⟩ (.int .i64 2)).setCell ⟨W.heap.size,3,none⟩ (.slice pr bl cr)=wf at *;refine bodyPost_ret (results_cell_row rfl _ _ W.heap.size 97 #[.slice (some ⟨W1.heap.size,0,none⟩) 1 1,.int .i64 1,.int .i64 2,.slice pr bl cr] (0,0) _ rfl hbx Tryz.underlying97 rfl (by kernel_rfl)) rfl ?_
 have hz1:W.heap.size+1≤W1.heap.size:=(Array.getElem?_eq_some_iff.1 HB1.out).1;have hz2:(W1.alloc (.cells #[.int .u8 97] 5 (1,2))).heap.size=W1.heap.size+1:=by simp
 have hz3:=HG3.out.size;have hr1:ye (fun k=>W1.heap.size≤k∧k<(W1.alloc (.cells #[.int .u8 97] 5 (1,2))).heap.size) (W1.alloc (.cells #[.int .u8 97] 5 (1,2))) (.slice (some ⟨W1.heap.size,0,none⟩) 1 1) (zi [97]):=zgf (w:=W1) (b:=[97]) (T:=5) (cap:=1) (1,2) (by decide) (by decide) _ (Nat.le_refl _)
 refine⟨some ⟨W1.heap.size,0,none⟩,1,pr,cr,by rw[←hbl];rfl,xi (zo HG1.out hg03) hs (fun q hq=>by injection hq with hq;omega),?_,?_⟩
 ·refine ye.mono ((hr1.gr HG3.out).turn fun k hk=>hs.block k (by omega) (fun e=>by have e2:k=W.heap.size:=(Option.some.inj e).symm ▸ rfl;omega)) fun k hk=>?_
  omega
 ·have h5:=HY.out
  rw[←hbl] at h5;refine ye.mono (h5.turn fun k hk=>hs.block k (by omega) (fun e=>by have e2:k=W.heap.size:=(Option.some.inj e).symm ▸ rfl;omega)) fun k hk=>?_
  omega
end Go.Proofs.YtbcbhlfjgobejaaGreat
