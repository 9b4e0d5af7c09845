/- VaultKeeps: calls of a vault on a disk that may fail. Conditions: none, or as the theorems say. -/
import Derived.Test.YtbcbhlfjgobejaaGreatI37
import Derived.Test.YtbcbhlfjgobejaaGreatI28
import Derived.Test.YtbcbhlfjgobejaaGreatI36
set_option linter.unusedSimpArgs false
set_option linter.unusedVariables false
namespace Go.Proofs.YtbcbhlfjgobejaaGreat
set_option maxHeartbeats 200000000
open Go.RowKit Go.Sf
theorem JSt.remA {S:Sto} {N:Nat} (h:JSt S N) {k:Int} {b:List Int} {fr:List Nat} (hm:(k,(b,fr))∈S.recs):∃S',S.rem k=(S',0)∧JSt S' N∧S'.recs=qn S.recs k∧S'.next=S.next:=by
 obtain⟨a,c,he⟩:=List.append_of_mem hm;have hup:=h.up;rw[he,List.map_append,List.map_cons,List.pairwise_append,List.pairwise_cons] at hup;obtain⟨u1,⟨u2,u3⟩,u4⟩:=hup;have ha:∀p∈a,p.1≠k:=fun p hp e=>by have:=u4 p.1 (List.mem_map_of_mem hp) k (List.mem_cons_self ..);omega
 have hc:∀p∈c,p.1≠k:=fun p hp e=>by have:=u2 p.1 (List.mem_map_of_mem hp);omega
 have hd:qn S.recs k=a++c:=by
  rw[he];unfold qn;rw[List.filter_append,List.filter_cons_of_neg (by simp),List.filter_eq_self.2 (fun p hp=>by simpa using ha p hp),List.filter_eq_self.2 (fun p hp=>by simpa using hc p hp)]
 have hg:zw S.recs k=some (b,fr):=Yo (h.up.imp fun h e=>by omega) hm
 have hl0:lds S=a.flatMap (·.2.2)++(fr++c.flatMap (·.2.2)):=by unfold lds;rw[he];simp
 have hfr:fr≠[]:=h.ne (k,(b,fr)) hm;have hhd:fr.headD 0<S.d.n:=by
  rw[h.n]
  cases fr with
  | nil=>exact absurd rfl hfr
  | cons x t=>exact h.lt x (by rw[hl0];simp)
 obtain⟨d',s1,s2,s3,s4⟩:=zm2 h.sd h.brk hg hhd;have hnd:=h.nd;rw[hl0] at hnd;obtain⟨n1,n2,n3⟩:=List.nodup_append.1 hnd;obtain⟨n4,n5,n6⟩:=List.nodup_append.1 n2;have hsub:∀r∈a++c,r∈S.recs:=fun r hr=>by
  rw[he]
  rcases List.mem_append.1 hr with e|e
  ·exact List.mem_append_left _ e
  ·exact List.mem_append_right _ (List.mem_cons_of_mem _ e)
 have hl1:(a++c).flatMap (·.2.2)=a.flatMap (·.2.2)++c.flatMap (·.2.2):=by simp
 rw[hd] at s4 ⊢;refine⟨_,s4,⟨s1,by show d'.late.length≤4;rw[s3];exact Nat.zero_le _,s2.trans h.n,h.brk,?_,?_,?_,?_,fun r hr=>h.ne r (hsub r hr),fun r hr=>h.kn r (hsub r hr),?_,h.n1⟩,rfl,rfl⟩
 ·show(qu S.taken fr false).length=N
  rw[qv,h.tl]
 ·intro i hi
  show(qu S.taken fr false)[i]? = some (decide (i∈(a++c).flatMap (·.2.2)))
  rw[hl1]
  by_cases hm:i∈fr
  ·rw[Ja fr S.taken i hm (by rw[h.tl];exact hi)]
   have:i ∉ a.flatMap (·.2.2)++c.flatMap (·.2.2):=fun e=>by
    rcases List.mem_append.1 e with e|e
    ·exact n3 i e i (List.mem_append_left _ hm) rfl
    ·exact n6 i hm i e rfl
   simp only[this,decide_false]
  ·rw[Vt fr S.taken i hm,h.tk i hi,hl0]
   simp only[List.mem_append,hm,false_or]
 ·show((a++c).flatMap (·.2.2)).Nodup
  rw[hl1]
  exact List.nodup_append.2 ⟨n1,n5,fun x hx y hy=>n3 x hx y (List.mem_append_right _ hy)⟩
 ·intro i hi
  have hi:i∈(a++c).flatMap (·.2.2):=hi
  rw[hl1] at hi;refine h.lt i ?_;rw[hl0]
  rcases List.mem_append.1 hi with e|e
  ·exact List.mem_append_left _ e
  ·exact List.mem_append_right _ (List.mem_append_right _ e)
 ·show((a++c).map (·.1)).Pairwise _
  rw[List.map_append]
  exact List.pairwise_append.2 ⟨u1,u3,fun x hx y hy=>u4 x hx y (List.mem_cons_of_mem _ hy)⟩
theorem ql.ks {S:Sto} {al:List (Int × List Int)} {blk:Int→List Nat} (h:ql S al blk):Ks al:=⟨h.good.srt,fun q hq=>(h.good.key hq).1⟩
theorem ql.mem {S:Sto} {al:List (Int × List Int)} {blk:Int→List Nat} (h:ql S al blk) {q:Int × List Int} (hq:q∈al):(q.1,(q.2,blk q.1))∈S.recs:=by
 rw[h.recs]
 exact List.mem_map.2 ⟨q,hq,rfl⟩
theorem ql.steady_rem {S:Sto} {al:List (Int × List Int)} {blk:Int→List Nat} (h:ql S al blk) (hs:yi S.d) {q:Int × List Int} (hq:q∈al):(S.rem q.1).2=0∧yi (S.rem q.1).1.d:=by
 have hl:=h.good.bln q hq;have hp:=uq q.2.length;have hhd:(blk q.1).headD 0<S.d.n:=by
  cases e:blk q.1 with
  | nil=>rw[e] at hl;simp at hl;omega
  | cons i r=>exact h.good.blt q hq i (by rw[e];exact List.mem_cons_self ..)
 obtain⟨d',s1,s2,s3,s4⟩:=zm2 hs h.brk (h.key_get hq) hhd;rw[s4]
 exact⟨rfl,s1⟩
theorem zax {X:VX} {blk:Int→List Nat} (M:Int):∀(o:List Int) (S:Sto) (al:List (Int × List Int)),ql S al blk→Zx X al→o.Nodup→(∀k∈o,(∃q∈al,q.1=k)∧¬Cur al k)→S.next≤M→
  (∃S' al',ja S o=(S',0)∧ql S' al' blk∧Zx X al'∧lifeOf al'=lifeOf al∧(∀i,shOf al' i=shOf al i)∧(∀q,q∈al'↔q∈al∧q.1 ∉ o)∧S'.next=S.next∧S'.d.n=S.d.n∧(yi S.d→yi S'.d)∧(o = []→S'=S∧al'=al)∧∀N,JSt S N→JSt S' N)∨
  (∃S',ja S o=(S',180)∧¬yi S.d∧S'.d.off=true∧DG S'.d S.d.n (Zx X) M)
 | [],S,al,h,hX,_,_,_=>Or.inl ⟨S,al,rfl,h,hX,rfl,fun _=>rfl,fun q=>by simp,rfl,rfl,id,fun _=>⟨rfl,rfl⟩,fun _=>id⟩
 | k :: t,S,al,h,hX,hn,ho,hm=>by
  obtain⟨⟨q,hq,rfl⟩,hc⟩:=ho k (List.mem_cons_self ..);have hks:=h.ks;obtain⟨n1,n2⟩:=List.nodup_cons.1 hn;have hX1:=Vs hX hks hc;have hst:=fun hs=>h.steady_rem hs hq
  rcases h.rem hq with ⟨S1,e1,k1,k2,k3⟩|⟨S1,e1,hb⟩
  ·rw[e1] at hst
   have hr:ja S (q.1 :: t)=ja S1 t:=by
    rw[ja,if_neg (by rw[e1];simp),e1]
   rw[hr];have ht:∀k∈t,(∃r∈al.filter (fun r=>decide (r.1≠q.1)),r.1=k)∧¬Cur (al.filter fun r=>decide (r.1≠q.1)) k:=fun k hk=>by
    obtain⟨⟨r,hr,rfl⟩,h2⟩:=ho k (List.mem_cons_of_mem _ hk);refine⟨⟨r,List.mem_filter.2 ⟨hr,?_⟩,rfl⟩,fun e=>h2 ((zej hks hc _).1 e)⟩
    simp only[decide_eq_true_eq];intro e
    exact n1 (e ▸ hk)
   rcases zax M t S1 _ k1 hX1 n2 ht (by rw[k2];exact hm) with ⟨S2,al2,e2,g1,g2,g3,g4,g5,g6,g7,g8,g9,g10⟩|⟨S2,e2,g1,g2,g3⟩
   ·refine Or.inl ⟨S2,al2,e2,g1,g2,g3.trans (Vq hks hc),fun i=>(g4 i).trans (zb3 hks hc i),fun r=>?_,g6.trans k2,g7.trans k3,fun hs=>g8 (hst hs).2,fun e=>(by cases e),fun N hj=>g10 N ?_⟩
    ·rw[g5,List.mem_filter,List.mem_cons,not_or]
     simp only[decide_eq_true_eq]
     exact⟨fun ⟨⟨a,b⟩,c⟩=>⟨a,b,c⟩,fun ⟨a,b,c⟩=>⟨⟨a,b⟩,c⟩⟩
    ·obtain⟨S3,e3,hj3,_⟩:=hj.remA (h.mem hq)
     obtain rfl:S1=S3:=(congrArg Prod.fst (e1.symm.trans e3) :)
     exact hj3
   ·refine Or.inr ⟨S2,e2,fun hs=>g1 (hst hs).2,g2,?_⟩
    rw[k3] at g3
    exact g3
  ·rw[e1] at hst
   have hr:ja S (q.1 :: t)=(S1,180):=by
    rw[ja,if_pos (by rw[e1];show(180:Int)≠0;decide),e1]
   refine Or.inr ⟨S1,hr,fun hs=>by have:=(hst hs).1;simp at this,hb.off,hb.to.mono (fun a ha=>?_) hm⟩
   rcases ha with rfl|rfl
   ·exact hX
   ·exact hX1
structure VI (V:Vlt) (al:List (Int × List Int)) (blk:Int→List Nat):Prop where
 inv:ql V.S al blk
 says:∀q∈al,vsaid q.2≠none
 brk:V.broken=0
 life:(V.life,V.at_)=lifeOf al
 sh:∀i,zw V.sh i=shOf al i
 nd:(V.sh.map (·.1)).Nodup
 top:∀q∈al,Cur al q.1
section
variable {V : Vlt} {al : List (Int × List Int)} {blk : Int → List Nat} {n : Int} {s : ShM} {k : Int} {b : List Int} {i : VID}
theorem VI.x (h:VI V al blk):Zx (vx al) al:=⟨h.says,rfl⟩
theorem VI.atE (h:VI V al blk):V.at_=(lifeOf al).2:=congrArg Prod.snd h.life
theorem VI.lfE (h:VI V al blk):V.life=(lifeOf al).1:=congrArg Prod.fst h.life
theorem VI.failed (h:VI V al blk) (n:Int):VI { V with S:={ V.S with d:=V.S.d.failed n } } al blk:=⟨h.inv.failed n,h.says,h.brk,h.life,h.sh,h.nd,h.top⟩
theorem Un (V:Vlt):V.met 0=V:=by unfold Vlt.met;rw[if_neg (by decide)]
theorem zir (V:Vlt) (e:Int):(V.met e).S=V.S:=by unfold Vlt.met;split <;> rfl
def VOut (V:Vlt) (al:List (Int × List Int)) (X':VX) (r:Vlt × Int):Prop:=
 (∃V' al' blk',r=(V',0)∧VI V' al' blk'∧vx al'=X'∧V'.S.next≤V.S.next+1∧V'.S.d.n=V.S.d.n)∨
 (∃e,e≠0∧e≠180∧r=(V,e))∨
 (∃V',r=(V',180)∧V'.S.d.off=true∧DG V'.S.d V.S.d.n (fun l=>Zx (vx al) l∨Zx X' l) (V.S.next+1))
theorem zcn (h:VI V al blk) (hn:V.S.next≤4611686018427387904) (k:Int) (hb:b.length≤131071) :
  (V.put k b=V∧V.S.put (k :: b)=(V.S,0,181))∨
  (∃S' blk',V.put k b = { V with S:=S' }∧V.S.put (k :: b)=(S',V.S.next,0)∧ql S' (al ++ [(V.S.next,k :: b)]) blk'∧S'.next=V.S.next+1∧S'.d.n=V.S.d.n)∨
  (∃S',V.S.put (k :: b)=(S',0,180)∧(V.put k b).S=S'∧S'.d.off=true∧DG S'.d V.S.d.n (fun l=>l=al∨l=al ++ [(V.S.next,k :: b)]) (V.S.next+1)):=by
 rcases h.inv.put hn (b:=k :: b) (by simp;omega) with e|⟨S',blk',e,k1,k2,k3⟩|⟨S',e,hb⟩
 ·refine Or.inl ⟨?_,e⟩
  unfold Vlt.put;rw[e]
  show Vlt.met { V with S:=V.S } 181=V
  unfold Vlt.met;rw[if_neg (by decide)]
 ·refine Or.inr (Or.inl ⟨S',blk',?_,e,k1,k2,k3⟩)
  unfold Vlt.put;rw[e]
  exact Un _
 ·refine Or.inr (Or.inr ⟨S',e,?_,hb.off,hb.to⟩)
  unfold Vlt.put;rw[e]
  exact zir _ _
theorem Qd (h:ql V.S al blk) (hbr:V.broken=0) {q:Int × List Int} (hq:q∈al) :
  (∃S',V.rem q.1=({ V with S:=S' },0)∧ql S' (al.filter fun r=>decide (r.1≠q.1)) blk∧S'.next=V.S.next∧S'.d.n=V.S.d.n)∨
  (∃V',V.rem q.1=(V',180)∧V'.S.d.off=true∧DG V'.S.d V.S.d.n (fun l=>l=al∨l=al.filter fun r=>decide (r.1≠q.1)) V.S.next):=by
 rcases h.rem hq with ⟨S1,e1,k1,k2,k3⟩|⟨S1,e1,hb⟩
 ·refine Or.inl ⟨S1,?_,k1,k2,k3⟩
  unfold Vlt.rem;rw[e1]
  show(Vlt.met { V with S:=S1 } 0,(0:Int))=_
  rw[Un]
 ·refine Or.inr ⟨_,by unfold Vlt.rem;rw[e1],?_,?_⟩
  ·rw[zir];exact hb.off
  ·rw[zir];exact hb.to
theorem zit {n:Int} (h1:1≤n) (h2:n≤4611686018427387904):vsaid (76 :: be 8 n.toNat)=some (.inl n):=by
 have hb:num (be 8 n.toNat)=n.toNat:=Yy 8 n.toNat (by omega)
 have hw:wrap64 ((num (be 8 n.toNat):Nat):Int)=n:=by
  rw[hb];unfold wrap64;omega
 rw[zjm ⟨yo _ _,by rw[hw];exact h1,by rw[hw];exact h2⟩,hw]
theorem zat (h:VI V al blk) (hn:V.S.next≤4611686018427387903) (n:Int):VOut V al ((vx al).born n) (V.born n):=by
 by_cases h1:n<1∨4611686018427387904<n
 ·exact Or.inr (Or.inl ⟨2,by decide,by decide,zlk h.brk h1⟩)
 ·by_cases h2:n≤V.life
  ·exact Or.inr (Or.inl ⟨4,by decide,by decide,zhe h.brk h1 h2⟩)
  ·have hsd:vsaid (76 :: be 8 n.toNat)=some (.inl n):=zit (by omega) (by omega)
   have hq:vsaid ((V.S.next,76 :: be 8 n.toNat):Int × List Int).2=some (.inl n):=hsd;have hX:=says_L h.x hq
   rcases zcn h (by omega) 76 (b:=be 8 n.toNat) (by rw[yo];omega) with ⟨e1,e2⟩|⟨S',blk',e1,e2,k1,k2,k3⟩|⟨S',e1,e2,e3,e4⟩
   ·refine Or.inr (Or.inl ⟨181,by decide,by decide,?_⟩)
    rw[zhf h.brk h1 h2 e2 (by decide),e1]
   ·have el:lifeOf (al ++ [(V.S.next,76 :: be 8 n.toNat)])=(n,V.S.next):=by rw[Zf,lfE_L hq]
    have es:∀i,shOf (al ++ [(V.S.next,76 :: be 8 n.toNat)]) i=shOf al i:=fun i=>by rw[Zo,shE_L i hq]
    have hks:=k1.ks
    by_cases ha:0<V.at_
    ·rw[zhg h.brk h1 h2 e2 ha,e1]
     obtain⟨q,hqm,hql,hqk⟩:=Ju (l:=al) (by rw[←h.atE];omega)
     have hqm2:q∈al ++ [(V.S.next,76 :: be 8 n.toNat)]:=List.mem_append_left _ hqm;have hqa:V.at_=q.1:=by rw[hqk];exact h.atE
     have hcu:¬Cur (al ++ [(V.S.next,76 :: be 8 n.toNat)]) q.1:=fun e=>by
      rcases e with e|⟨i,s,e⟩
      ·rw[el] at e
       have:=(h.inv.good.key hqm).2;simp only at e;omega
      ·rw[es] at e
       exact Vp h.inv.ks e hqk.symm
     rw[hqa]
     rcases Qd (V:=Vlt.znn { V with S:=S' } n V.S.next) k1 h.brk hqm2 with ⟨S2,e3,g1,g2,g3⟩|⟨V2,e3,g1,g2⟩
     ·refine Or.inl ⟨_,_,blk',e3,⟨g1,fun r hr=>hX.1 r (List.mem_filter.1 hr).1,h.brk,?_,fun i=>?_,h.nd,fun r hr=>?_⟩,?_,by show S2.next≤_;rw[g2];show S'.next≤_;omega,g3.trans k3⟩
      ·rw[Vq hks hcu,el];rfl
      ·rw[zb3 hks hcu,es];exact h.sh i
      ·obtain⟨hr1,hr2⟩:=List.mem_filter.1 hr
       rw[zej hks hcu];unfold Cur;rw[el]
       rcases List.mem_append.1 hr1 with e|e
       ·rcases h.top r e with e2|⟨i,s,e2⟩
        ·exfalso
         have:r.1≠q.1:=by simpa using hr2
         exact this (by rw[hqk,e2])
        ·exact Or.inr ⟨i,s,by rw[es];exact e2⟩
       ·rw[List.mem_singleton.1 e];exact Or.inl rfl
      ·exact(Vs hX hks hcu).2
     ·refine Or.inr (Or.inr ⟨V2,e3,g1,?_⟩)
      have g2:DG V2.S.d S'.d.n (fun l=>l=al ++ [(V.S.next,76 :: be 8 n.toNat)]∨l=(al ++ [(V.S.next,76 :: be 8 n.toNat)]).filter fun r=>decide (r.1≠q.1)) S'.next:=g2
      rw[k3] at g2;refine g2.mono (fun l hl=>Or.inr ?_) (by omega)
      rcases hl with rfl|rfl
      ·exact hX
      ·exact Vs hX hks hcu
    ·rw[zhh h.brk h1 h2 e2 ha,e1]
     have hat:V.at_=0:=by
      have:=h.atE
      rcases Uz al with e|⟨q,hqm,e⟩
      ·rw[e] at this;exact this
      ·have:=(h.inv.good.key hqm).1
       have:=(Uy e).2;omega
     refine Or.inl ⟨_,_,blk',rfl,⟨k1,hX.1,h.brk,?_,fun i=>?_,h.nd,fun r hr=>?_⟩,hX.2,by show S'.next≤_;omega,k3⟩
     ·rw[el];rfl
     ·rw[es];exact h.sh i
     ·unfold Cur
      rw[el]
      rcases List.mem_append.1 hr with e|e
      ·rcases h.top r e with e2|⟨i,s,e2⟩
       ·exfalso
        have:=(h.inv.good.key e).1;have:=h.atE;omega
       ·exact Or.inr ⟨i,s,by rw[es];exact e2⟩
      ·rw[List.mem_singleton.1 e];exact Or.inl rfl
   ·refine Or.inr (Or.inr ⟨V.put 76 (be 8 n.toNat),zhf h.brk h1 h2 e1 (by decide),by rw[e2];exact e3,?_⟩)
    rw[e2];refine e4.mono (fun l hl=>?_) (Int.le_refl _)
    rcases hl with rfl|rfl
    ·exact Or.inl h.x
    ·exact Or.inr hX
theorem zaw (h:VI V al blk) (hn:V.S.next≤4611686018427387903) (s:ShM) (hv:s.znm≤9223372036854775807) (hbl:BL s.key∧BL s.row):VOut V al ((vx al).put s) (V.putS s):=by
 by_cases hm:Xf s.key.length s.znm s.node s.row.length=true
 ·have hms:=(Yj s hv).1 hm
  by_cases hl:V.life=0
  ·exact Or.inr (Or.inl ⟨4,by decide,by decide,zh3 h.brk hm hl⟩)
  ·by_cases hs:(zw V.sh (idS s)).isSome=true∧(V.look (idS s)).1=s
   ·refine Or.inl ⟨V,al,blk,zer h.brk hm hl hs,h,?_,by omega,rfl⟩
    obtain⟨h1,h2⟩:=hs;unfold Vlt.look at h2;rw[h.sh] at h1 h2;unfold vx VX.put
    congr 1
    funext i
    split
    ·rename_i e
     subst e
     cases e2:shOf al (idS s) with
     | none=>rw[e2] at h1;cases h1
     | some p=>rw[e2] at h2;simp only[Option.getD_some] at h2;simp[h2]
    ·rfl
   ·have hsd:vsaid (83 :: vh s)=some (.inr s):=zjn (okS_enc hms hbl.1 hbl.2) hms.k2
    have hq:vsaid ((V.S.next,83 :: vh s):Int × List Int).2=some (.inr s):=hsd;have hX:=says_S h.x hq;have hlen:(vh s).length≤131071:=by rw[Vj];have:=hms.k2;have:=hms.r;omega
    rcases zcn h (by omega) 83 (b:=vh s) hlen with ⟨e1,e2⟩|⟨S',blk',e1,e2,k1,k2,k3⟩|⟨S',e1,e2,e3,e4⟩
    ·refine Or.inr (Or.inl ⟨181,by decide,by decide,?_⟩)
     rw[zh4 h.brk hm hl hs e2 (by decide),e1]
    ·have el:lifeOf (al ++ [(V.S.next,83 :: vh s)])=lifeOf al:=by rw[Zf,lfE_S hq]
     have es1:shOf (al ++ [(V.S.next,83 :: vh s)]) (idS s)=some (s,V.S.next):=by rw[Zo,shE_S hq]
     have es2:∀i,idS s≠i→shOf (al ++ [(V.S.next,83 :: vh s)]) i=shOf al i:=fun i hi=>by rw[Zo,shE_N hq hi]
     have hks:=k1.ks;have hsh:∀i,zw (yj V.sh (idS s) (s,V.S.next)) i=shOf (al ++ [(V.S.next,83 :: vh s)]) i:=fun i=>by
      by_cases hi:idS s=i
      ·subst hi;rw[xt,es1]
      ·rw[vq _ _ (Ne.symm hi),h.sh,es2 i hi]
     by_cases hi:(zw V.sh (idS s)).isSome=true
     ·rw[zh5 h.brk hm hl hs e2 hi,e1]
      obtain⟨p,hp⟩:=Option.isSome_iff_exists.1 hi;have hlk:(V.look (idS s)).2=p.2:=by unfold Vlt.look;rw[hp];rfl
      rw[h.sh] at hp;obtain⟨q,hqm,hqe,hqk⟩:=Zu (k:=p.2) (s:=p.1) hp;have hqm2:q∈al ++ [(V.S.next,83 :: vh s)]:=List.mem_append_left _ hqm;have hcu:¬Cur (al ++ [(V.S.next,83 :: vh s)]) q.1:=fun e=>by
       rcases e with e|⟨i,s',e⟩
       ·rw[el] at e
        exact Vp h.inv.ks (s:=p.1) (k:=p.2) hp (by rw[e,hqk])
       ·by_cases hii:idS s=i
        ·rw[←hii,es1] at e
         injection e with e
         injection e with _ e
         have:=(h.inv.good.key hqm).2;omega
        ·rw[es2 i hii] at e
         exact hii (zic h.inv.ks (s:=p.1) (k:=p.2) hp (by rw[←hqk];exact e))
      rw[hlk,←hqk]
      rcases Qd (V:=Vlt.keep { V with S:=S' } (idS s) s V.S.next) k1 h.brk hqm2 with ⟨S2,e3,g1,g2,g3⟩|⟨V2,e3,g1,g2⟩
      ·refine Or.inl ⟨_,_,blk',e3,⟨g1,fun r hr=>hX.1 r (List.mem_filter.1 hr).1,h.brk,?_,fun i=>?_,za9 _ _ h.nd,fun r hr=>?_⟩,?_,by show S2.next≤_;rw[g2];show S'.next≤_;omega,g3.trans k3⟩
       ·rw[Vq hks hcu,el];exact h.life
       ·rw[zb3 hks hcu];exact hsh i
       ·obtain⟨hr1,hr2⟩:=List.mem_filter.1 hr
        have hrq:r.1≠q.1:=by simpa using hr2
        rw[zej hks hcu];unfold Cur;rw[el]
        rcases List.mem_append.1 hr1 with e|e
        ·rcases h.top r e with e2|⟨i,s',e2⟩
         ·exact Or.inl e2
         ·refine Or.inr ⟨i,s',?_⟩
          rw[es2]
          ·exact e2
          ·intro e3
           rw[←e3,hp] at e2
           injection e2 with e2
           exact hrq (by rw[hqk,e2])
        ·rw[List.mem_singleton.1 e];exact Or.inr ⟨_,_,es1⟩
       ·exact(Vs hX hks hcu).2
      ·refine Or.inr (Or.inr ⟨V2,e3,g1,?_⟩)
       have g2:DG V2.S.d S'.d.n (fun l=>l=al ++ [(V.S.next,83 :: vh s)]∨l=(al ++ [(V.S.next,83 :: vh s)]).filter fun r=>decide (r.1≠q.1)) S'.next:=g2
       rw[k3] at g2;refine g2.mono (fun l hl=>Or.inr ?_) (by omega)
       rcases hl with rfl|rfl
       ·exact hX
       ·exact Vs hX hks hcu
     ·rw[zh6 h.brk hm hl e2 (by simpa using hi),e1]
      refine Or.inl ⟨_,_,blk',rfl,⟨k1,hX.1,h.brk,?_,hsh,za9 _ _ h.nd,fun r hr=>?_⟩,hX.2,by show S'.next≤_;omega,k3⟩
      ·rw[el];exact h.life
      ·unfold Cur
       rw[el]
       rcases List.mem_append.1 hr with e|e
       ·rcases h.top r e with e2|⟨i,s',e2⟩
        ·exact Or.inl e2
        ·refine Or.inr ⟨i,s',?_⟩
         rw[es2]
         ·exact e2
         ·intro e3
          rw[←e3,←h.sh] at e2
          exact hi (by rw[e2];rfl)
       ·rw[List.mem_singleton.1 e];exact Or.inr ⟨_,_,es1⟩
    ·refine Or.inr (Or.inr ⟨V.put 83 (vh s),zh4 h.brk hm hl hs e1 (by decide),by rw[e2];exact e3,?_⟩)
     rw[e2];refine e4.mono (fun l hl=>?_) (Int.le_refl _)
     rcases hl with rfl|rfl
     ·exact Or.inl h.x
     ·exact Or.inr hX
 ·exact Or.inr (Or.inl ⟨2,by decide,by decide,zmz h.brk (by simpa using hm)⟩)
theorem mdel_nd {K V:Type} [DecidableEq K] {m:List (K × V)} (k:K) (h:(m.map (·.1)).Nodup):((qn m k).map (·.1)).Nodup:=h.sublist (List.filter_sublist.map _)
theorem zdk {K V:Type} [DecidableEq K] {k j:K}:∀m:List (K × V),zw (qn m k) j=if k=j then none else zw m j
 | []=>by simp[qn,zw]
 | p :: r=>by
  have ih:=zdk (k:=k) (j:=j) r;unfold qn at ih ⊢
  by_cases hp:p.1=k
  ·rw[List.filter_cons_of_neg (by simp[hp]),ih]
   split
   ·rfl
   ·rename_i hj
    rw[zw,if_neg (by rw[hp];exact hj)]
  ·rw[List.filter_cons_of_pos (by simpa using hp),zw,ih]
   by_cases hj:p.1=j
   ·rw[if_pos hj,if_neg (by rw[←hj];exact fun e=>hp e.symm),zw,if_pos hj]
   ·rw[if_neg hj,zw,if_neg hj]
theorem zau (h:VI V al blk) (i:VID):VOut V al ((vx al).drop i) (V.drop i):=by
 unfold Vlt.drop;rw[if_neg (by simp[h.brk])]
 by_cases hi:(zw V.sh i).isSome=false
 ·rw[if_pos hi]
  exact Or.inr (Or.inl ⟨5,by decide,by decide,rfl⟩)
 ·rw[if_neg hi]
  obtain⟨p,hp⟩:=Option.isSome_iff_exists.1 (show(zw V.sh i).isSome=true by
   cases h0:(zw V.sh i).isSome with
   | false=>exact absurd h0 hi
   | true=>rfl)
  have hlk:(V.look i).2=p.2:=by unfold Vlt.look;rw[hp];rfl
  rw[h.sh] at hp;obtain⟨q,hqm,hqe,hqk⟩:=Zu (k:=p.2) (s:=p.1) hp;have hp2:shOf al i=some (p.1,q.1):=by rw[hp,hqk]
  have hX:=zku h.x h.inv.ks hp2 h.top;rw[hlk,←hqk]
  rcases Qd h.inv h.brk hqm with ⟨S2,e3,g1,g2,g3⟩|⟨V2,e3,g1,g2⟩
  ·rw[e3,if_neg (by simp)]
   refine Or.inl ⟨_,_,blk,rfl,⟨g1,hX.1,h.brk,?_,fun j=>?_,mdel_nd _ h.nd,zlr h.inv.ks hp2 h.top⟩,hX.2,by show S2.next≤_;rw[g2];omega,g3⟩
   ·rw[Jq h.inv.ks hp2];exact h.life
   ·show zw (qn V.sh i) j=_
    rw[zdk]
    by_cases hj:i=j
    ·subst hj;rw[if_pos rfl,zi3 h.inv.ks hp2 h.top]
    ·rw[if_neg hj,h.sh,zd8 h.inv.ks hp2 hj]
  ·rw[e3,if_pos (show(180:Int)≠0 by decide)]
   refine Or.inr (Or.inr ⟨V2,rfl,g1,g2.mono (fun l hl=>?_) (by omega)⟩)
   rcases hl with rfl|rfl
   ·exact Or.inl h.x
   ·exact Or.inr hX
end
theorem Zp {d:Dk} {al:List (Int × List Int)} {blk:Int→List Nat} {next:Int} {X:VX} (hoff:d.off=false) (hl:d.late = []) (hst:∀i,i<d.n→bk d.st i=bk d.now i) (hn4:d.n≤4096) (hok:d.opened.2=0) (hn:next≤1000) (g:vf ya (fun i=>scrub ya (bk d.now i)) d.n al blk next) (hv:Zx X al) {ks:List zx} (hk:Yg d ks) :
  JGood (openS d ks)∧(∃V o,vfold (openS d ks) (openS d ks).keys (Vlt.new (openS d ks)) []=some (V,o)∧VF (openS d ks) al V o)∧ql (openS d ks) al blk∧(openS d ks).next≤next∧(openS d ks).d=d.opened.1∧d.opened.1.n=d.n:=by
 obtain⟨k1,k2,k3,k4⟩:=kopenF hoff hl hst hok g hk;have hf:=k1.good.few;refine⟨⟨zl6 k1 (by omega),fun r hr=>?_,?_,?_,?_⟩,?_,k1,k2,k3,k4⟩
 ·rw[k1.recs] at hr
  obtain⟨q,hq,rfl⟩:=List.mem_map.1 hr;have:=k1.good.len q hq;simp only;omega
 ·rw[k1.keysE];exact k1.good.srt
 ·rw[k1.recs,List.length_map];omega
 ·rw[k1.late];show 0+1000<1000000;omega
 ·rw[k1.keysE]
  obtain⟨V',o',e,h⟩:=VF.fold al (VF.new (openS d ks)) (by simpa using k1.ks) hv.1 (zj4 k1)
  exact⟨V',o',e,by simpa using h⟩
theorem Qc {S:Sto} {al:List (Int × List Int)} {blk:Int→List Nat} {X:VX} {V:Vlt} {o:List Int} (h:ql S al blk) (hv:Zx X al) (hf:VF S al V o) :
  (∃S' al',ja V.S (srt o)=(S',0)∧VI { V with S:=S' } al' blk∧vx al'=X∧S'.next=S.next∧S'.d.n=S.d.n∧(yi S.d→yi S'.d)∧(∀N,JSt S N→JSt S' N)∧((∀q∈al,Cur al q.1)→S'=S∧al'=al))∨
  (∃S',ja V.S (srt o)=(S',180)∧¬yi S.d∧S'.d.off=true∧DG S'.d S.d.n (Zx X) S.next):=by
 have hp:(srt o).Perm o:=List.mergeSort_perm _ _;have hm:∀k,k∈srt o↔(∃q∈al,q.1=k)∧¬Cur al k:=fun k=>(hp.mem_iff).trans (hf.old k)
 rw[hf.st]
 rcases zax S.next (srt o) S al h hv (hp.nodup_iff.2 hf.ond) (fun k hk=>(hm k).1 hk) (Int.le_refl _) with ⟨S',al',e,g1,g2,g3,g4,g5,g6,g7,g8,g9,g10⟩|hb
 ·refine Or.inl ⟨S',al',e,⟨g1,g2.1,hf.brk,by rw[g3];exact hf.life,fun i=>by rw[g4];exact hf.sh i,hf.nd,fun q hq=>?_⟩,g2.2,g6,g7,g8,g10,fun ht=>g9 ?_⟩
  ·obtain⟨h1,h2⟩:=(g5 q).1 hq
   have h3:Cur al q.1:=Classical.byContradiction fun e=>h2 ((hm q.1).2 ⟨⟨q,h1,rfl⟩,e⟩)
   unfold Cur;rw[g3];simp only[g4]
   exact h3
  ·refine List.eq_nil_iff_forall_not_mem.2 fun k hk=>?_
   obtain⟨⟨q,hq,rfl⟩,h2⟩:=(hm k).1 hk
   exact h2 (ht q hq)
 ·exact Or.inr hb
open Go.RowKit Go.Sf Go.Shelf
structure DR (W:World) (own:Nat→Prop) (db:Nat) (d:Dk) (w:World):Prop where
 rep:vl own w db d
 old:∀k,k<W.heap.size→own k
 gr:W.grownBy w none
section
variable {W w w' : World} {own own' : Nat → Prop} {st db jb : Nat} {S : Sto} {J : Jnl} {d : Dk} {V : JV} {all : List (Int × List Int)} {blk : Int → List Nat} {next : Int}
theorem Zc.dsk (h:Zc own w st db S):vl own w db S.d:=by
 obtain⟨mb,tb,rv,rb,hs⟩:=h
 exact hs.disk.less fun k hk=>Or.inl hk
theorem Zc.failed (h:Zc own w st db S) (n:Int) (hn:n<9223372036854775808):Calls Tryz.prog 28 #[.pointer (some ⟨db,0,none⟩),.int .i64 n] w fun e w'=>e = .returned (.tuple #[])∧Zc own w' st db { S with d:=S.d.failed n }∧zq (fun k=>¬own k) w w':=by
 obtain⟨mb,tb,rv,rb,hs⟩:=h;refine(dfail hs.disk n hn).mono ?_;rintro e w' ⟨rfl,hd,ht⟩
 exact⟨rfl,⟨_,_,_,_,hs.turned hd ht rfl⟩,Ul ht⟩
theorem DR.off (h:DR W own db d w):Calls Tryz.prog 33 #[.pointer (some ⟨db,0,none⟩)] w fun e w'=>e = .returned (.bool d.off)∧w'=w:=doff h.rep
theorem DR.fail (h:DR W own db d w) (n:Int) (hn:n<9223372036854775808):Calls Tryz.prog 28 #[.pointer (some ⟨db,0,none⟩),.int .i64 n] w fun e w'=>e = .returned (.tuple #[])∧DR W own db (d.failed n) w'∧zq (fun k=>¬own k) w w':=by
 refine(dfail h.rep n hn).mono ?_;rintro e w' ⟨rfl,hd,ht⟩
 exact⟨rfl,⟨hd,h.old,xj h.gr h.old ht⟩,ht⟩
theorem DR.crash (h:DR W own db d w):Calls Tryz.prog 41 #[.pointer (some ⟨db,0,none⟩)] w fun e w'=>e = .returned (.tuple #[])∧DR W own db d.crashed w'∧zq (fun k=>¬own k) w w':=by
 refine(zho h.rep).mono ?_;rintro e w' ⟨rfl,hd,ht⟩
 exact⟨rfl,⟨hd,h.old,xj h.gr h.old ht⟩,ht⟩
theorem DR.on (h:DR W own db d w) {fv:Value} {fates:List Int} (hf:yc W fv fates) (hb:BL fates) (hl:fates.length≤1000000):Calls Tryz.prog 34 #[.pointer (some ⟨db,0,none⟩),fv] w fun e w'=>e = .returned (.tuple #[])∧DR W own db (d.on fates) w'∧zq (fun k=>¬own k) w w':=by
 refine(don h.rep (fun w1 ht=>hf.grown (xj h.gr h.old ht) (by simp)) hb hl).mono ?_
 rintro e w' ⟨rfl,hd,ht⟩
 exact⟨rfl,⟨hd,h.old,xj h.gr h.old ht⟩,ht⟩
theorem zcv {d:Dk} (h:yi d):d.opened.2=0:=Classical.byContradiction fun h1=>absurd h.opened h1
theorem zgx {d:Dk} (h:yi d):yi d.opened.1:=by
 obtain⟨h1,h2,h3⟩:=yi.opn h d.n (Nat.le_refl _);unfold Dk.opened;rw[if_neg (by simp[h1])]
 cases hf:(opnD d d.n).2.2
 ·simp only[Bool.false_eq_true,if_false]
  exact h2
 ·simp only[if_true]
  exact h2.sync.2.1
end
theorem zev {l:List Int} (h:BL l):zcg (ofB l)=l:=by
 unfold zcg ofB;simp only[List.map_map];refine(List.map_congr_left fun b hb=>?_).trans (List.map_id l)
 have:=h b hb
 show((UInt8.ofNat b.toNat).toNat:Int)=b
 rw[UInt8.toNat_ofNat_of_lt' (by show b.toNat<256;omega)]
 omega
theorem zje {l m:List Int} (hl:BL l) (hm:BL m) (h:ofB l=ofB m):l=m:=by rw[←zev hl,←zev hm,h]
def strE (b:List Int):List Value:=[.string (ofB b)]
def TRow (w:World) (v:Value) (l:List (List Int)):Prop:=uk w 9 1 strE v l
def hsS (V:JV):List Int:=if V.at_=0 then [] else V.state
def hsB (V:JV):Bool:=decide (V.at_≠0)
structure VOk (V:JV) (k:Nat):Prop where
 few:V.entries.length≤k
 short:∀b∈V.entries,b.length≤600∧BL b
 st:V.state.length≤600∧BL V.state
def zi0 (w:World) (P:Prop) (e:Ending) (w':World):Prop:=∃r,e = .returned (.bool r)∧w.grownBy w' none∧(r=true↔P)
theorem zlm (A B:ByteArray):A.toList=B.toList↔A=B:=by
 rw[ByteArray.toList_eq,ByteArray.toList_eq]
 exact⟨fun h=>ByteArray.ext (Array.ext' h),fun h=>by rw[h]⟩
theorem Qw {w w':World} {P:Prop} (hg:w.grownBy w' none) (h:¬P):zi0 w P (.returned (.bool false)) w':=⟨false,rfl,hg,fun e=>(by cases e),fun e=>absurd e h⟩
theorem zkt {w w':World} {P:Prop} (hg:w.grownBy w' none) (h:P):zi0 w P (.returned (.bool true)) w':=⟨true,rfl,hg,fun _=>h,fun _=>rfl⟩
attribute [local go_sem] Oper.semAt_some
def shC (s:ShM):List Value:=[.string (ofB s.key),.int .i64 s.znm,.int .i64 s.node,.string (ofB s.row)]
def shA (s:ShM):Value:=.agg #[.string (ofB s.key),.int .i64 s.znm,.int .i64 s.node,.string (ofB s.row)]
theorem zbb (s:ShM):(shC s).length=4:=rfl
theorem zeu (s:ShM):∀u∈shC s,u.oneCell'=true:=fun u hu=>by
 simp only[shC,List.mem_cons,List.not_mem_nil,or_false] at hu
 rcases hu with rfl|rfl|rfl|rfl <;> rfl
theorem zi7:∃(i:TypeInfo) (z:Value) (by_:Nat),Tryz.prog.info? 102=some i∧i.zero=some z∧i.size=4∧i.bytes=by_∧z.cells.size=4∧by_≤1000:=by
 have h:((Tryz.prog.info? 102).bind fun i=>i.zero.map fun z=>(i.size,decide (i.bytes≤1000),z.cells.size))=some (4,true,4):=by kernel_rfl
 cases hi:Tryz.prog.info? 102 with
 | none=>rw[hi] at h;cases h
 | some i=>
  rw[hi] at h
  cases hz:i.zero with
  | none=>simp[hz] at h
  | some z=>
   simp only[Option.bind_some,hz,Option.map_some,Option.some.injEq,Prod.mk.injEq,decide_eq_true_eq] at h
   exact⟨i,z,i.bytes,rfl,hz,h.1,rfl,h.2.2,h.2.1⟩
def Qi (w:World) (v:Value) (l:List ShM):Prop:=uk w 102 4 shC v l
theorem zha (w:World):Qi w (.slice none 0 0) []:=⟨rfl,Or.inl ⟨rfl,rfl⟩⟩
def BS (s:ShM):Prop:=BL s.key∧BL s.row
theorem shA_inj {s t:ShM} (hs:BS s) (ht:BS t) (h:shA s=shA t):s=t:=by
 obtain⟨k,v,n,r⟩:=s;obtain⟨k',v',n',r'⟩:=t;simp only[shA,Value.agg.injEq,List.cons.injEq,Array.mk.injEq,Value.string.injEq,Value.int.injEq,and_true,true_and] at h;obtain⟨h1,h2,h3,h4⟩:=h;obtain rfl:=zje hs.1 ht.1 h1;obtain rfl:=zje hs.2 ht.2 h4;subst h2 h3
 rfl
section
variable {w : World}
set_option maxRecDepth 100000 in
theorem zap {s:ShM} {pk pr:Option Addr} {ck cr:Nat} (hk:yc w (.slice pk s.key.length ck) s.key) (hr:yc w (.slice pr s.row.length cr) s.row):Calls Tryz.prog 67 #[shV pk ck pr cr s] w fun e w'=>e = .returned (shA s)∧w.grownBy w' none:=by
 obtain⟨key,znm,node,row⟩:=s;unfold shV shA;simp only at hk hr ⊢;have hc1:∀w',w.grownBy w' none→(convert 32 9 (.slice pk key.length ck)).run Tryz.prog w' = .ok (.string (ofB key)) w':=fun w' hg=>Xa (hk.grown hg (by simp))
 have hc2:∀w',w.grownBy w' none→(convert 32 9 (.slice pr row.length cr)).run Tryz.prog w' = .ok (.string (ofB row)) w':=fun w' hg=>Xa (hr.grown hg (by simp))
 generalize ofB key=sk at *;generalize ofB row=sr at *;generalize key.length=la at *;generalize row.length=ma at *;have h1:=zg w (.cells #[.slice pk la ck,.int .i64 znm,.int .i64 node,.slice pr ma cr] 97) none;have hbx:=heap_alloc_new w (.cells #[.slice pk la ck,.int .i64 znm,.int .i64 node,.slice pr ma cr] 97);clear hk hr
 go_enter Tryz.func67,Tryz.ntmps67
 go_upto_region 1 with fail
 have h2:=zo h1 (zg (w.alloc (.cells #[.slice pk la ck,.int .i64 znm,.int .i64 node,.slice pr ma cr] 97)) (.cells #[.string { data:=#[] },.int .i64 0,.int .i64 0,.string { data:=#[] }] 102) none);have c1:=hc1 _ h2;have c2:=hc2 _ h2;clear h1 h2 hc1 hc2 hbx;go_wp2;refine bodyPost_ret (results_cell_row rfl _ _ (w.heap.size+1) 102 #[.string sk,.int .i64 znm,.int .i64 node,.string sr] (0,0) _ rfl ?_ Tryz.underlying102 rfl (by kernel_rfl)) rfl ?_
 ·exact heap_alloc2_new _ _ _
 exact⟨rfl,zo (zg _ _ none) (zg _ _ none)⟩
end
end Go.Proofs.YtbcbhlfjgobejaaGreat
