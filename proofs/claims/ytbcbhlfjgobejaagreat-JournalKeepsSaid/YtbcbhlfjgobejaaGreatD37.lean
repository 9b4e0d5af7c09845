/- JournalKeeps: what the records say; Append, Checkpoint, openings, on a disk that may fail. Plain. Conditions: as the theorems say. A journal beside protected blocks: its calls, and openings, for loops. Conditions: as the theorems say. -/
import Derived.Test.YtbcbhlfjgobejaaGreatD36
set_option linter.unusedSimpArgs false
set_option linter.unusedVariables false
namespace Go.Proofs.YtbcbhlfjgobejaaGreat
open Go.RowKit Go.Sf
structure JV where
 at_:Int
 state:List Int
 entries:List (List Int)
def V0:JV:=⟨0,[],[]⟩
def JV.j (V:JV) (S:Sto):Jnl:=⟨S,V.at_,V.state,V.entries,0⟩
def jv:List (Int × List Int)→JV→Option JV
 | [],V=>some V
 | q :: t,V=>match jsaid q.2 with
  | none=>none
  | some (true,s)=>jv t ⟨q.1,s,[]⟩
  | some (false,s)=>jv t { V with entries:=V.entries ++ [s] }
theorem jv_cons (q:Int × List Int) (t:List (Int × List Int)) (V:JV):jv (q :: t) V=(match jsaid q.2 with
  | none=>none
  | some (true,s)=>jv t ⟨q.1,s,[]⟩
  | some (false,s)=>jv t { V with entries:=V.entries ++ [s] }):=rfl
theorem jview_jv (S:Sto):∀(l:List (Int × List Int)) (V:JV),jview l (V.j S)=(jv l V).map fun V=>V.j S
 | [],V=>rfl
 | q :: t,V=>by
  rw[jview_cons,jv_cons]
  cases jsaid q.2 with
  | none=>rfl
  | some r=>
   obtain⟨x,s⟩:=r
   cases x with
   | true=>exact jview_jv S t ⟨q.1,s,[]⟩
   | false=>exact jview_jv S t { V with entries:=V.entries ++ [s] }
theorem jv_app:∀(l m:List (Int × List Int)) (V:JV),jv (l++m) V=(jv l V).bind (jv m)
 | [],m,V=>rfl
 | q :: t,m,V=>by
  rw[List.cons_append,jv_cons,jv_cons]
  cases jsaid q.2 with
  | none=>rfl
  | some r=>
   obtain⟨x,s⟩:=r
   cases x with
   | true=>exact jv_app t m _
   | false=>exact jv_app t m _
theorem jv_parts:∀(t:List (Int × List Int)) (V1 V:JV),jv t V1=some V→((∃q∈t,q.1=V.at_)∧∀V2,jv t V2=some V)∨(V.at_=V1.at_∧V.state=V1.state∧∃es,es.length≤t.length∧V.entries=V1.entries++es∧∀V2:JV,jv t V2=some ⟨V2.at_,V2.state,V2.entries++es⟩)
 | [],V1,V,h=>by
  injection h with h
  subst h
  exact Or.inr ⟨rfl,rfl,[],Nat.le_refl _,by simp,fun V2=>by simp[jv]⟩
 | q :: t,V1,V,h=>by
  rw[jv_cons] at h
  cases hs:jsaid q.2 with
  | none=>rw[hs] at h;cases h
  | some r=>
   obtain⟨x,s⟩:=r
   rw[hs] at h
   cases x with
   | true=>
    left
    simp only at h
    refine⟨?_,fun V2=>by rw[jv_cons,hs];exact h⟩
    rcases jv_parts t _ V h with ⟨⟨p,hp,e⟩,_⟩|⟨e,_⟩
    ·exact⟨p,List.mem_cons_of_mem _ hp,e⟩
    ·exact⟨q,List.mem_cons_self ..,e.symm⟩
   | false=>
    simp only at h
    rcases jv_parts t _ V h with ⟨⟨p,hp,e⟩,h2⟩|⟨e,e2,es,hl,e3,h2⟩
    ·exact Or.inl ⟨⟨p,List.mem_cons_of_mem _ hp,e⟩,fun V2=>by rw[jv_cons,hs];exact h2 _⟩
    ·refine Or.inr ⟨e,e2,s :: es,by simp;omega,by rw[e3];simp,fun V2=>?_⟩
     rw[jv_cons,hs]
     simp only
     rw[h2]
     simp
theorem jv_drop {q:Int × List Int} {t:List (Int × List Int)} {V:JV} (h:jv (q :: t) V0=some V) (h1:0≤q.1) (h2:q.1<V.at_):jv t V0=some V:=by
 rw[jv_cons] at h
 cases hs:jsaid q.2 with
 | none=>rw[hs] at h;cases h
 | some r=>
  obtain⟨x,s⟩:=r
  rw[hs] at h
  cases x with
  | true=>
   simp only at h
   rcases jv_parts t _ V h with ⟨_,h3⟩|⟨e,_⟩
   ·exact h3 _
   ·simp only at e;omega
  | false=>
   simp only at h
   rcases jv_parts t _ V h with ⟨_,h3⟩|⟨e,_⟩
   ·exact h3 _
   ·simp only[V0] at e;omega
structure JI (S:Sto) (V:JV) (all:List (Int × List Int)) (blk:Int→List Nat):Prop where
 inv:KInv S all blk
 view:jv all V0=some V
 top:∀q∈all,V.at_≤q.1
theorem rising_len:∀(l:List Int) (a b:Int),l.Pairwise (·< ·)→(∀x∈l,a≤x∧x<b)→(l.length:Int)≤max 0 (b-a)
 | [],a,b,_,_=>by simp;omega
 | x :: t,a,b,h,hm=>by
  rw[List.pairwise_cons] at h
  have hx:=hm x (List.mem_cons_self ..)
  have:=rising_len t (x+1) b h.2 fun y hy=>⟨by have:=h.1 y hy;omega,(hm y (List.mem_cons_of_mem _ hy)).2⟩
  simp only[List.length_cons]
  omega
theorem Good.few {C:List Int→Nat} {f:Nat→List Int} {N:Nat} {all:List (Int × List Int)} {blk:Int→List Nat} {next:Int} (g:Good C f N all blk next):(all.length:Int)<next:=by
 have h:=rising_len (all.map (·.1)) 1 next g.srt fun x hx=>by
  obtain⟨q,hq,rfl⟩:=List.mem_map.1 hx
  exact g.key hq
 have:=g.pos
 rw[List.length_map] at h
 omega
section
variable {S : Sto} {V : JV} {all : List (Int × List Int)} {blk : Int → List Nat} {b : List Int}
theorem KInv.keysE (h:KInv S all blk):S.keys=all.map (·.1):=by
 unfold Sto.keys
 rw[h.recs,List.map_map]
 rfl
theorem kinv_num (h:KInv S all blk) (hn:S.next≤4611686018427387904):∀r∈S.recs,1≤r.1∧r.1≤4611686018427387904:=fun r hr=>by
 rw[h.recs] at hr
 obtain⟨q,hq,rfl⟩:=List.mem_map.1 hr
 have:=h.good.key hq
 simp only
 omega
theorem clr_keeps {post:List (Int × List Int)} (M:Int):∀(pre:List (Int × List Int)) (S:Sto),KInv S (pre++post) blk→(∀q∈pre,q.1<V.at_)→jv (pre++post) V0=some V→S.next≤M→
  (∃S',clrS S (pre.map (·.1))=(S',0)∧KInv S' post blk∧jv post V0=some V∧S'.next=S.next∧S'.d.n=S.d.n∧(Steady S.d→Steady S'.d)∧(pre = []→S'=S)∧∀N,JSt S N→JSt S' N)∨
  (∃S',clrS S (pre.map (·.1))=(S',180)∧¬Steady S.d∧S'.d.off=true∧DG S'.d S.d.n (fun al=>jv al V0=some V) M)
 | [],S,h,_,hv,hm=>Or.inl ⟨S,rfl,h,hv,rfl,rfl,id,fun _=>rfl,fun _=>id⟩
 | q :: t,S,h,ho,hv,hm=>by
  have hq:q∈q :: t++post:=List.mem_cons_self ..
  have hk:=h.good.key hq
  have hv2:jv (t++post) V0=some V:=jv_drop hv (by omega) (ho q (List.mem_cons_self ..))
  have hs:=h.good.srt
  rw[List.cons_append,List.map_cons,List.pairwise_cons] at hs
  have hf:((q :: t++post).filter fun r=>decide (r.1≠q.1))=t++post:=by
   rw[List.cons_append,List.filter_cons_of_neg (by simp)]
   exact List.filter_eq_self.2 fun p hp=>by
    have:=hs.1 p.1 (List.mem_map_of_mem hp)
    simp
    omega
  have hst:Steady S.d→(S.rem q.1).2=0∧Steady (S.rem q.1).1.d:=fun hs0=>by
   have hl:=h.good.bln q hq
   have hp:=partsN_pos q.2.length
   have hhd:(blk q.1).headD 0<S.d.n:=by
    cases e:blk q.1 with
    | nil=>rw[e] at hl;simp at hl;omega
    | cons i r=>exact h.good.blt q hq i (by rw[e];exact List.mem_cons_self ..)
   obtain⟨d',s1,s2,s3,s4⟩:=rem_ok hs0 h.brk (h.key_get hq) hhd
   rw[s4]
   exact⟨rfl,s1⟩
  rcases h.rem hq with ⟨S1,e1,k1,k2,k3⟩|⟨S1,e1,hb⟩
  ·rw[hf] at k1
   rw[e1] at hst
   have hc:clrS S ((q :: t).map (·.1))=clrS S1 (t.map (·.1)):=by
    rw[List.map_cons,clrS_ok (by rw[e1]),e1]
   rw[hc]
   rcases clr_keeps M t S1 k1 (fun p hp=>ho p (List.mem_cons_of_mem _ hp)) hv2 (by rw[k2];exact hm) with ⟨S2,e2,g1,g2,g3,g4,g5,g6,g7⟩|⟨S2,e2,g1,g2,g3⟩
   ·refine Or.inl ⟨S2,e2,g1,g2,g3.trans k2,g4.trans k3,fun hs0=>g5 (hst hs0).2,fun e=>(by cases e),fun N hj=>g7 N ?_⟩
    obtain⟨S3,e3,hj3,_⟩:=kj_rem (q:=q) (t:=t++post) ⟨hj,blk,h⟩ rfl
    obtain rfl:S1=S3:=(congrArg Prod.fst (e1.symm.trans e3) :)
    exact hj3.1
   ·refine Or.inr ⟨S2,e2,fun hs0=>g1 (hst hs0).2,g2,?_⟩
    rw[k3] at g3
    exact g3
  ·rw[hf] at hb
   rw[e1] at hst
   have hc:clrS S ((q :: t).map (·.1))=(S1,180):=by
    rw[List.map_cons,clrS_no (by rw[e1];show(180:Int)≠0;decide),e1]
   refine Or.inr ⟨S1,hc,fun hs0=>by have:=(hst hs0).1;simp at this,hb.off,hb.to.mono (fun al hal=>?_) hm⟩
   rcases hal with rfl|rfl
   ·exact hv
   ·exact hv2
theorem olds_split {a:Int}:∀{l:List (Int × List Int)},(l.map (·.1)).Pairwise (·< ·)→∃pre post,l=pre++post∧olds (l.map (·.1)) a=pre.map (·.1)∧(∀q∈pre,q.1<a)∧∀q∈post,a≤q.1
 | [],_=>⟨[],[],rfl,rfl,by simp,by simp⟩
 | q :: t,h=>by
  rw[List.map_cons,List.pairwise_cons] at h
  by_cases hq:q.1<a
  ·obtain⟨pre,post,e,e2,h1,h2⟩:=olds_split (a:=a) h.2
   refine⟨q :: pre,post,by rw[e];rfl,?_,fun p hp=>?_,h2⟩
   ·unfold olds at e2 ⊢
    rw[List.map_cons,List.takeWhile_cons_of_pos (by simpa using hq),e2]
    rfl
   ·rcases List.mem_cons.1 hp with e|e
    ·rw[e];exact hq
    ·exact h1 p e
  ·refine⟨[],q :: t,rfl,?_,by simp,fun p hp=>?_⟩
   ·unfold olds
    rw[List.map_cons,List.takeWhile_cons_of_neg (by simpa using hq)]
    rfl
   ·rcases List.mem_cons.1 hp with e|e
    ·rw[e];omega
    ·have:=h.1 p.1 (List.mem_map_of_mem e)
     omega
theorem met_bad (J:Jnl):(J.met 180).S=J.S:=by unfold Jnl.met;rw[if_pos rfl]
theorem jclr (h:KInv S all blk) (hv:jv all V0=some V) :
  (∃S' al,(V.j S).clr=(V.j S',0)∧JI S' V al blk∧S'.next=S.next∧S'.d.n=S.d.n∧(Steady S.d→Steady S'.d)∧(∀N,JSt S N→JSt S' N)∧((∀q∈all,V.at_≤q.1)→S'=S∧al=all))∨
  (∃J',(V.j S).clr=(J',180)∧¬Steady S.d∧J'.S.d.off=true∧DG J'.S.d S.d.n (fun al=>jv al V0=some V) S.next):=by
 obtain⟨pre,post,e,e2,h1,h2⟩:=olds_split (a:=V.at_) h.good.srt
 have hks:olds (V.j S).S.keys (V.j S).at_=pre.map (·.1):=by
  show olds S.keys V.at_=_
  rw[h.keysE,e2]
 unfold Jnl.clr
 rw[hks]
 show(∃S' al,(Jnl.met { V.j S with S:=(clrS S (pre.map (·.1))).1 } (clrS S (pre.map (·.1))).2,(clrS S (pre.map (·.1))).2)=_∧_)∨(∃J',(Jnl.met { V.j S with S:=(clrS S (pre.map (·.1))).1 } (clrS S (pre.map (·.1))).2,(clrS S (pre.map (·.1))).2)=_∧_)
 subst e
 rcases clr_keeps S.next pre S h h1 hv (Int.le_refl _) with ⟨S',e3,g1,g2,g3,g4,g5,g6,g7⟩|⟨S',e3,g1,g2,g3⟩
 ·left
  refine⟨S',post,?_,⟨g1,g2,h2⟩,g3,g4,g5,g7,fun hall=>?_⟩
  ·rw[e3]
   show(Jnl.met _ 0,(0:Int))=_
   rw[met_zero]
   rfl
  ·cases pre with
   | nil=>exact⟨g6 rfl,rfl⟩
   | cons p t=>
    have a1:=h1 p (List.mem_cons_self ..)
    have a2:=hall p (List.mem_cons_self ..)
    omega
 ·right
  rw[e3]
  refine⟨_,rfl,g1,?_,?_⟩
  ·show(Jnl.met _ 180).S.d.off=true
   rw[met_bad]
   exact g2
  ·show DG (Jnl.met _ 180).S.d _ _ _
   rw[met_bad]
   exact g3
theorem jput_keeps (h:JI S V all blk) (hn:S.next≤4611686018427387904) (k:Int) (hb:b.length≤131071) :
  (V.j S).put k b=(V.j S,0,181)∨
  (∃S' blk',(V.j S).put k b=(V.j S',S.next,0)∧KInv S' (all ++ [(S.next,k :: b)]) blk'∧S'.next=S.next+1∧S'.d.n=S.d.n)∨
  (∃J',(V.j S).put k b=(J',0,180)∧J'.S.d.off=true∧DG J'.S.d S.d.n (fun al=>al=all∨al=all ++ [(S.next,k :: b)]) (S.next+1)):=by
 rw[put_c (J:=V.j S) rfl k (by omega)]
 show _∨(∃S' blk',(Jnl.met { V.j S with S:=(S.put (k :: b)).1 } (S.put (k :: b)).2.2,(S.put (k :: b)).2.1,(S.put (k :: b)).2.2)=_∧_)∨(∃J',(Jnl.met { V.j S with S:=(S.put (k :: b)).1 } (S.put (k :: b)).2.2,(S.put (k :: b)).2.1,(S.put (k :: b)).2.2)=_∧_)
 rcases h.inv.put hn (b:=k :: b) (by simp;omega) with e|⟨S',blk',e,k1,k2,k3⟩|⟨S',e,hb⟩
 ·left
  show(Jnl.met { V.j S with S:=(S.put (k :: b)).1 } (S.put (k :: b)).2.2,(S.put (k :: b)).2.1,(S.put (k :: b)).2.2)=_
  rw[e]
  show(Jnl.met _ 181,(0:Int),(181:Int))=_
  unfold Jnl.met
  rw[if_neg (by decide)]
  rfl
 ·right;left
  refine⟨S',blk',?_,k1,k2,k3⟩
  rw[e]
  show(Jnl.met _ 0,S.next,(0:Int))=_
  rw[met_zero]
  rfl
 ·right;right
  rw[e]
  refine⟨_,rfl,?_,?_⟩
  ·show(Jnl.met _ 180).S.d.off=true
   rw[met_bad]
   exact hb.off
  ·show DG (Jnl.met _ 180).S.d _ _ _
   rw[met_bad]
   exact hb.to.mono (fun al hal=>hal) (Int.le_refl _)
theorem japp_keeps (h:JI S V all blk) (hn:S.next≤4611686018427387904) (hb:b.length≤131071) :
  (V.j S).app b=(V.j S,181)∨
  (∃S' blk',(V.j S).app b=(({ V with entries:=V.entries ++ [b] }:JV).j S',0)∧JI S' { V with entries:=V.entries ++ [b] } (all ++ [(S.next,69 :: b)]) blk'∧S'.next=S.next+1∧S'.d.n=S.d.n)∨
  (∃J',(V.j S).app b=(J',180)∧J'.S.d.off=true∧DG J'.S.d S.d.n (fun al=>jv al V0=some V∨jv al V0=some { V with entries:=V.entries ++ [b] }) (S.next+1)):=by
 have hvv:jv (all ++ [(S.next,69 :: b)]) V0=some { V with entries:=V.entries ++ [b] }:=by
  rw[jv_app,h.view]
  rfl
 rcases jput_keeps h hn 69 hb with e|⟨S',blk',e,k1,k2,k3⟩|⟨J',e,h1,h2⟩
 ·left
  exact app_no e (by decide)
 ·right;left
  refine⟨S',blk',app_ok e,⟨k1,hvv,fun q hq=>?_⟩,k2,k3⟩
  rcases List.mem_append.1 hq with e|e
  ·exact h.top q e
  ·rw[List.mem_singleton.1 e]
   show V.at_≤S.next
   have hx:=h.inv.good.pos
   rcases jv_parts all V0 V h.view with ⟨⟨p,hp,e⟩,_⟩|⟨e,_⟩
   ·have:=h.inv.good.key hp
    omega
   ·rw[e];show(0:Int)≤_;omega
 ·right;right
  refine⟨J',app_no e (by decide),h1,h2.mono (fun al hal=>?_) (Int.le_refl _)⟩
  rcases hal with rfl|rfl
  ·exact Or.inl h.view
  ·exact Or.inr hvv
theorem jcp_keeps (h:JI S V all blk) (hn:S.next≤4611686018427387904) (hb:b.length≤131071) :
  (V.j S).cp b=(V.j S,181)∨
  (∃S' al blk',(V.j S).cp b=((⟨S.next,b,[]⟩:JV).j S',0)∧JI S' ⟨S.next,b,[]⟩ al blk'∧S'.next=S.next+1∧S'.d.n=S.d.n)∨
  (∃J',(V.j S).cp b=(J',180)∧J'.S.d.off=true∧DG J'.S.d S.d.n (fun al=>jv al V0=some V∨jv al V0=some ⟨S.next,b,[]⟩) (S.next+1)):=by
 have hvv:jv (all ++ [(S.next,67 :: b)]) V0=some ⟨S.next,b,[]⟩:=by
  rw[jv_app,h.view]
  rfl
 rcases jput_keeps h hn 67 hb with e|⟨S',blk',e,k1,k2,k3⟩|⟨J',e,h1,h2⟩
 ·left
  exact cp_no e (by decide)
 ·right
  have e2:(V.j S).cp b=((⟨S.next,b,[]⟩:JV).j S').clr:=cp_ok e
  rcases jclr k1 hvv with ⟨S2,al,e3,g1,g2,g3,-,-,-⟩|⟨J',e3,_,g1,g2⟩
  ·exact Or.inl ⟨S2,al,blk',e2.trans e3,g1,g2.trans k2,g3.trans k3⟩
  ·refine Or.inr ⟨J',e2.trans e3,g1,?_⟩
   rw[k2,k3] at g2
   exact g2.mono (fun al hal=>Or.inr hal) (Int.le_refl _)
 ·right;right
  refine⟨J',cp_no e (by decide),h1,h2.mono (fun al hal=>?_) (Int.le_refl _)⟩
  rcases hal with rfl|rfl
  ·exact Or.inl h.view
  ·exact Or.inr hvv
theorem put_recs (S:Sto) (b:List Int):(S.put b).1.recs=S.recs∨∃fr,(S.put b).1.recs=mput S.recs S.next (b,fr):=by
 unfold Sto.put
 repeat' split
 all_goals first
  | exact Or.inl rfl
  | exact Or.inl (did_recs _ _ _).1
  | exact Or.inr ⟨_,rfl⟩
theorem cp_asks (h:JI S V all blk) (hn:S.next≤1000) (hb:b.length≤131071):(∀r∈((V.j S).put 67 b).1.S.recs,1≤r.1∧r.1≤4611686018427387904)∧((V.j S).put 67 b).1.S.keys.Pairwise (·< ·)∧((V.j S).put 67 b).1.S.recs.length≤1000∧((V.j S).put 67 b).1.S.d.late.length+1000<1000000:=by
 have hr:((V.j S).put 67 b).1.S.recs=S.recs∨∃fr,((V.j S).put 67 b).1.S.recs=mput S.recs S.next (67 :: b,fr):=by
  rw[put_c (J:=V.j S) rfl 67 (by omega)]
  have e:∀(J:Jnl) (x:Int),(J.met x).S=J.S:=fun J x=>by unfold Jnl.met;split <;> rfl
  simp only[e]
  exact put_recs S (67 :: b)
 have hl:((V.j S).put 67 b).1.S.d.late.length≤5000:=by
  rcases jput_keeps h (by omega) 67 hb with e|⟨S',blk',e,k1,k2,k3⟩|⟨J',e,h1,h2⟩
  ·rw[e]
   show S.d.late.length≤_
   rw[h.inv.late]
   exact Nat.zero_le _
  ·rw[e]
   show S'.d.late.length≤_
   rw[k1.late]
   exact Nat.zero_le _
  ·rw[e]
   exact h2.late
 have hk:=kinv_num h.inv (by omega)
 have hrs:S.recs.length=all.length:=by rw[h.inv.recs,List.length_map]
 have hfew:=h.inv.good.few
 have hsrt:(S.recs.map (·.1)).Pairwise (·< ·):=by
  have:=h.inv.keysE
  unfold Sto.keys at this
  rw[this]
  exact h.inv.good.srt
 have hlt:∀r∈S.recs,r.1<S.next:=fun r hr=>by
  rw[h.inv.recs] at hr
  obtain⟨q,hq,rfl⟩:=List.mem_map.1 hr
  exact(h.inv.good.key hq).2
 have hpos:=h.inv.good.pos
 refine⟨?_,?_,?_,by omega⟩
 ·rcases hr with e|⟨fr,e⟩
  ·rw[e];exact hk
  ·rw[e,mput_new (fun r hr e=>by have:=hlt r hr;omega)]
   intro r hr
   rcases List.mem_append.1 hr with e|e
   ·exact hk r e
   ·rw[List.mem_singleton.1 e]
    simp only
    omega
 ·show(((V.j S).put 67 b).1.S.recs.map (·.1)).Pairwise _
  rcases hr with e|⟨fr,e⟩
  ·rw[e];exact hsrt
  ·rw[e,mput_new (fun r hr e=>by have:=hlt r hr;omega),List.map_append]
   refine List.pairwise_append.2 ⟨hsrt,by simp,fun a ha c hc=>?_⟩
   obtain⟨r,hr,rfl⟩:=List.mem_map.1 ha
   simp only[List.map_cons,List.map_nil,List.mem_singleton] at hc
   subst hc
   exact hlt r hr
 ·rcases hr with e|⟨fr,e⟩
  ·rw[e];omega
  ·rw[e,mput_new (fun r hr e=>by have:=hlt r hr;omega),List.length_append,List.length_singleton]
   omega
theorem jopen_reads {d:Dk} (hoff:d.off=false) (hl:d.late = []) (hst:∀i,i<d.n→bk d.st i=bk d.now i) (hn4:d.n≤4096) (hok:d.opened.2=0) {next:Int} (hn:next≤1000) (g:Good crcB (fun i=>scrub crcB (bk d.now i)) d.n all blk next) (hv:jv all V0=some V) {ks:List Key19} (hk:KeysOf d ks) :
  JGood (openS d ks)∧jfold (openS d ks) (openS d ks).keys (Jnl.new (openS d ks))=some (V.j (openS d ks))∧KInv (openS d ks) all blk∧(openS d ks).next≤next∧(openS d ks).d=d.opened.1∧d.opened.1.n=d.n:=by
 obtain⟨k1,k2,k3,k4⟩:=kopenF hoff hl hst hok g hk
 have hf:=k1.good.few
 refine⟨⟨kinv_num k1 (by omega),fun r hr=>?_,?_,?_,?_⟩,?_,k1,k2,k3,k4⟩
 ·rw[k1.recs] at hr
  obtain⟨q,hq,rfl⟩:=List.mem_map.1 hr
  have:=k1.good.len q hq
  simp only
  omega
 ·rw[k1.keysE];exact k1.good.srt
 ·rw[k1.recs,List.length_map];omega
 ·rw[k1.late];show 0+1000<1000000;omega
 ·rw[kinv_fold k1]
  show jview all (V0.j (openS d ks))=_
  rw[jview_jv,hv]
  rfl
end
open Go.RowKit Go.Sf Go.Shelf
structure JR (W:World) (own:Nat→Prop) (jb db:Nat) (J:Jnl) (w:World):Prop where
 rep:JRep own w jb db J
 old:∀k,k<W.heap.size→own k
 gr:W.grownBy w none
structure DR (W:World) (own:Nat→Prop) (db:Nat) (d:Dk) (w:World):Prop where
 rep:DRep own w db d
 old:∀k,k<W.heap.size→own k
 gr:W.grownBy w none
section
variable {W w w' : World} {own own' : Nat → Prop} {st db jb : Nat} {S : Sto} {J : Jnl} {d : Dk} {V : JV} {all : List (Int × List Int)} {blk : Int → List Nat} {next : Int}
theorem SRep.dsk (h:SRep own w st db S):DRep own w db S.d:=by
 obtain⟨mb,tb,rv,rb,hs⟩:=h
 exact hs.disk.less fun k hk=>Or.inl hk
theorem SRep.failed (h:SRep own w st db S) (n:Int) (hn:n<9223372036854775808):Calls Tryz.prog 28 #[.pointer (some ⟨db,0,none⟩),.int .i64 n] w fun e w'=>e = .returned (.tuple #[])∧SRep own w' st db { S with d:=S.d.failed n }∧Turn (fun k=>¬own k) w w':=by
 obtain⟨mb,tb,rv,rb,hs⟩:=h
 refine(dfail hs.disk n hn).mono ?_
 rintro e w' ⟨rfl,hd,ht⟩
 exact⟨rfl,⟨_,_,_,_,hs.turned hd ht rfl⟩,turn_less ht⟩
theorem JR.grown (h:JR W own jb db J w) (hg:w.grownBy w' none):JR W own jb db J w':=⟨h.rep.grown hg,h.old,grown_trans h.gr hg⟩
theorem JR.lt (h:JR W own jb db J w) {k:Nat} (hk:own k):k<w.heap.size:=by
 obtain⟨st,sv,ev,es,jk,h1⟩:=h.rep
 exact h1.olt hk
theorem JR.oth (h:JR W own jb db J w) (ht:Turn own w w') (hg:W.grownBy w' none) (h0:∀k,own k→own' k) (h1:∀k,own' k→own k∨w.heap.size≤k) (h2:∀k,own' k→k<w'.heap.size):JR W own' jb db J w':=by
 obtain⟨st,sv,ev,es,jk,h3⟩:=h.rep
 exact⟨⟨st,sv,ev,es,jk,h3.oth ht h1 h2⟩,fun k hk=>h0 k (h.old k hk),hg⟩
theorem JR.more (h:JR W own jb db J w) (hg:w.grownBy w' none):JR W (fun k=>own k∨(w.heap.size≤k∧k<w'.heap.size)) jb db J w':=
 h.oth (turn_grJ hg) (grown_trans h.gr hg) (fun k hk=>Or.inl hk) (fun k hk=>hk.imp id And.left) (fun k hk=>hk.elim (fun e=>Nat.lt_of_lt_of_le (h.lt e) hg.size) And.right)
theorem JR.poke {r:Option Nat} (h:JR W own jb db J w) (ho:∀g,r=some g→own g∧W.heap.size≤g) (hg:w.grownBy w' r):JR W (fun k=>own k∨(w.heap.size≤k∧k<w'.heap.size)) jb db J w':=by
 refine h.oth ⟨hg.os,hg.tape,hg.output,hg.size,fun k hk hn=>hg.block k hk (fun e=>hn (ho k e.symm).1)⟩ ?_ (fun k hk=>Or.inl hk) (fun k hk=>hk.imp id And.left) (fun k hk=>hk.elim (fun e=>Nat.lt_of_lt_of_le (h.lt e) hg.size) And.right)
 exact⟨hg.os.trans h.gr.os,hg.tape.trans h.gr.tape,hg.output.trans h.gr.output,Nat.le_trans h.gr.size hg.size,fun k hk _=>(hg.block k (Nat.lt_of_lt_of_le hk h.gr.size) (fun e=>by have:=(ho k e.symm).2;omega)).trans (h.gr.block k hk (by simp))⟩
theorem JR.app (h:JR W own jb db J w) {v:Value} {b:List Int} (hv:RowP own w v (bytesV b)) (hbb:BL b) (hl:b.length≤10000000) (hf:J.S.d.late.length+600<1000000) (he:J.entries.length<1000000) :
  Calls Tryz.prog 50 #[.pointer (some ⟨jb,0,none⟩),v] w fun e w'=>e = .returned (.int .i64 (J.app b).2)∧JR W own jb db (J.app b).1 w'∧Turn (fun k=>¬own k) w w':=by
 obtain⟨st,sv,ev,es,jk,h1⟩:=h.rep
 refine(jappend h1 hv hbb hl hf he).mono ?_
 rintro e w' ⟨rfl,⟨ev',es',jk',g1⟩,g2⟩
 exact⟨rfl,⟨⟨st,sv,ev',es',jk',g1⟩,h.old,turn_grown2 h.gr h.old g2⟩,g2⟩
theorem JR.cp (h:JR W own jb db J w) {v:Value} {b:List Int} (hv:RowP own w v (bytesV b)) (hbb:BL b) (hl:b.length≤10000000) (hf:J.S.d.late.length+600<1000000)
  (hk:(∀r∈(J.put 67 b).1.S.recs,1≤r.1∧r.1≤4611686018427387904)∧(J.put 67 b).1.S.keys.Pairwise (·< ·)∧(J.put 67 b).1.S.recs.length≤1000∧(J.put 67 b).1.S.d.late.length+1000<1000000) :
  Calls Tryz.prog 53 #[.pointer (some ⟨jb,0,none⟩),v] w fun e w'=>e = .returned (.int .i64 (J.cp b).2)∧JR W own jb db (J.cp b).1 w'∧Turn (fun k=>¬own k) w w':=by
 obtain⟨st,sv,ev,es,jk,h1⟩:=h.rep
 refine(jcheckpoint h1 hv hbb hl hf hk.1 hk.2.1 hk.2.2.1 hk.2.2.2).mono ?_
 rintro e w' ⟨rfl,⟨sv',ev',es',jk',g1⟩,g2⟩
 exact⟨rfl,⟨⟨st,sv',ev',es',jk',g1⟩,h.old,turn_grown2 h.gr h.old g2⟩,g2⟩
theorem JR.state (h:JR W own jb db J w) (hl:J.state.length≤100000000):Calls Tryz.prog 54 #[.pointer (some ⟨jb,0,none⟩)] w fun e w'=>w.grownBy w' none∧((J.at_=0∧e = .returned (.tuple #[.slice none 0 0,.bool false]))∨(J.at_≠0∧∃v,e = .returned (.tuple #[v,.bool true])∧NewRow w w' v J.state)):=by
 obtain⟨st,sv,ev,es,jk,h1⟩:=h.rep
 exact jstate h1 hl
theorem JR.ents (h:JR W own jb db J w) (hl:∀b∈J.entries,b.length≤10000000) (he:J.entries.length<1000000):Calls Tryz.prog 52 #[.pointer (some ⟨jb,0,none⟩)] w fun e w'=>∃v ms,e = .returned v∧OutE w w' v ms J.entries∧w.grownBy w' none:=by
 obtain⟨st,sv,ev,es,jk,h1⟩:=h.rep
 exact jentries h1 hl he
theorem JR.state1 (h:JR W own jb db (V.j S) w) (h0:V.at_≠0) (hl:V.state.length≤100000000):Calls Tryz.prog 54 #[.pointer (some ⟨jb,0,none⟩)] w fun e w'=>∃p c,e = .returned (.tuple #[.slice p V.state.length c,.bool true])∧w.grownBy w' none∧RawRow w' (.slice p V.state.length c) V.state:=by
 refine(h.state hl).mono ?_
 rintro e w' ⟨hg,⟨h1,-⟩|⟨-,v,rfl,hn⟩⟩
 ·exact absurd h1 h0
 ·have hr:=(NewRow.rowP hn (by show V.state.length≤_;omega)).raw
  obtain⟨p,c,rfl,-⟩:=hr.ex
  exact⟨p,c,rfl,hg,hr⟩
theorem JR.state0 (h:JR W own jb db (V.j S) w) (h0:V.at_=0) (hl:V.state.length≤100000000):Calls Tryz.prog 54 #[.pointer (some ⟨jb,0,none⟩)] w fun e w'=>e = .returned (.tuple #[.slice none 0 0,.bool false])∧w.grownBy w' none:=by
 refine(h.state hl).mono ?_
 rintro e w' ⟨hg,⟨-,rfl⟩|⟨h1,-⟩⟩
 ·exact⟨rfl,hg⟩
 ·exact absurd h0 h1
def EntsAt (w:World) (p:Option Addr) (l:List (List Int)):Prop:=∀i (hi:i<l.length),∃g q c,p=some ⟨g,0,none⟩∧w.cell? ⟨g,i,none⟩=some (.slice q l[i].length c)∧RawRow w (.slice q l[i].length c) l[i]
theorem JR.ents1 (h:JR W own jb db (V.j S) w) (hl:∀b∈V.entries,b.length≤10000000) (he:V.entries.length<1000000):Calls Tryz.prog 52 #[.pointer (some ⟨jb,0,none⟩)] w fun e w'=>∃p c,e = .returned (.slice p V.entries.length c)∧w.grownBy w' none∧EntsAt w' p V.entries:=by
 refine(h.ents hl he).mono ?_
 rintro e w' ⟨v,ms,rfl,⟨h1,-,h3⟩,hg⟩
 have hlen:ms.length=V.entries.length:=h3.len
 obtain⟨p,c,rfl,-,-⟩:=h1.form
 refine⟨p,c,by rw[hlen],hg,fun i hi=>?_⟩
 have him:i<ms.length:=by rw[hlen];exact hi
 have hrow:=h3.get i him hi
 rcases SRow.at slE_len h1 with e|⟨g,cc,e1,e2,-⟩
 ·rw[e] at him;simp at him
 ·injection e1 with e1
  have hc:=e2 i him 0 _ rfl
  rw[Nat.mul_one,Nat.add_zero] at hc
  have hn:=sl_n hrow
  rw[hn] at hc hrow
  exact⟨g,_,_,e1,hc,hrow.raw⟩
theorem JR.free (h:JR W own jb db J w):Calls Tryz.prog 51 #[.pointer (some ⟨jb,0,none⟩)] w fun e w'=>e = .returned (.int .i64 (freeN J.S.taken))∧w'=w:=by
 obtain⟨st,sv,ev,es,jk,h1⟩:=h.rep
 exact jfree h1
theorem JR.dr (h:JR W own jb db J w):DR W own db J.S.d w:=by
 obtain⟨st,sv,ev,es,jk,h1⟩:=h.rep
 exact⟨h1.sr.dsk.less fun k hk=>Or.inl hk,h.old,h.gr⟩
theorem JR.fail (h:JR W own jb db J w) (n:Int) (hn:n<9223372036854775808):Calls Tryz.prog 28 #[.pointer (some ⟨db,0,none⟩),.int .i64 n] w fun e w'=>e = .returned (.tuple #[])∧JR W own jb db { J with S:={ J.S with d:=J.S.d.failed n } } w'∧Turn (fun k=>¬own k) w w':=by
 obtain⟨st,sv,ev,es,jk,h1⟩:=h.rep
 refine(h1.sr.failed n hn).mono ?_
 rintro e w' ⟨rfl,hd,ht⟩
 have ht2:Turn (fun k=>¬own k) w w':=ht.mono fun k hk e=>hk (Or.inl e)
 exact⟨rfl,⟨⟨st,sv,ev,es,jk,h1.store hd ht⟩,h.old,turn_grown2 h.gr h.old ht2⟩,ht2⟩
theorem DR.off (h:DR W own db d w):Calls Tryz.prog 33 #[.pointer (some ⟨db,0,none⟩)] w fun e w'=>e = .returned (.bool d.off)∧w'=w:=doff h.rep
theorem DR.fail (h:DR W own db d w) (n:Int) (hn:n<9223372036854775808):Calls Tryz.prog 28 #[.pointer (some ⟨db,0,none⟩),.int .i64 n] w fun e w'=>e = .returned (.tuple #[])∧DR W own db (d.failed n) w'∧Turn (fun k=>¬own k) w w':=by
 refine(dfail h.rep n hn).mono ?_
 rintro e w' ⟨rfl,hd,ht⟩
 exact⟨rfl,⟨hd,h.old,turn_grown2 h.gr h.old ht⟩,ht⟩
theorem DR.crash (h:DR W own db d w):Calls Tryz.prog 41 #[.pointer (some ⟨db,0,none⟩)] w fun e w'=>e = .returned (.tuple #[])∧DR W own db d.crashed w'∧Turn (fun k=>¬own k) w w':=by
 refine(dcrash h.rep).mono ?_
 rintro e w' ⟨rfl,hd,ht⟩
 exact⟨rfl,⟨hd,h.old,turn_grown2 h.gr h.old ht⟩,ht⟩
theorem DR.on (h:DR W own db d w) {fv:Value} {fates:List Int} (hf:RawRow W fv fates) (hb:BL fates) (hl:fates.length≤1000000):Calls Tryz.prog 34 #[.pointer (some ⟨db,0,none⟩),fv] w fun e w'=>e = .returned (.tuple #[])∧DR W own db (d.on fates) w'∧Turn (fun k=>¬own k) w w':=by
 refine(don h.rep (fun w1 ht=>hf.grown (turn_grown2 h.gr h.old ht) (by simp)) hb hl).mono ?_
 rintro e w' ⟨rfl,hd,ht⟩
 exact⟨rfl,⟨hd,h.old,turn_grown2 h.gr h.old ht⟩,ht⟩
theorem steady_opened {d:Dk} (h:Steady d):d.opened.2=0:=Classical.byContradiction fun h1=>absurd h.opened h1
theorem steady_disk {d:Dk} (h:Steady d):Steady d.opened.1:=by
 obtain⟨h1,h2,h3⟩:=Steady.opn h d.n (Nat.le_refl _)
 unfold Dk.opened
 rw[if_neg (by simp[h1])]
 cases hf:(opnD d d.n).2.2
 ·simp only[Bool.false_eq_true,if_false]
  exact h2
 ·simp only[if_true]
  exact h2.sync.2.1
theorem DR.open_ (h:DR W own db d w) (hs:Steady d) (hl:d.late = []) (hst:∀i,i<d.n→bk d.st i=bk d.now i) (hn4:d.n≤4096) (hn:next≤1000) (g:Good crcB (fun i=>scrub crcB (bk d.now i)) d.n all blk next) (hv:jv all V0=some V) :
  Calls Tryz.prog 49 #[.pointer (some ⟨db,0,none⟩)] w fun e w'=>∃jb S al blk,e = .returned (.tuple #[.pointer (some ⟨jb,0,none⟩),.int .i64 0])∧JR W own jb db (V.j S) w'∧JI S V al blk∧Steady S.d∧S.next≤next∧S.d.n=d.n∧Turn (fun k=>¬own k) w w'∧JSt S d.n∧((∀q∈all,V.at_≤q.1)→al=all):=by
 have ho:=steady_opened hs
 refine(jopen h.rep hs.1 (by rw[hl];show 0+d.n<1000000;omega) (fun _ ks hk=>(jopen_reads hs.1 hl hst hn4 ho hn g hv hk).1)).mono ?_
 rintro e w' ⟨ht,⟨h1,_⟩|⟨_,st,ks,hk,hp⟩⟩
 ·exact absurd ho h1
 ·obtain⟨r1,r2,r3,r4,r5,r6⟩:=jopen_reads hs.1 hl hst hn4 ho hn g hv hk
  have hs2:Steady (openS d ks).d:=by rw[r5];exact steady_disk hs
  rcases hp with ⟨h1,_⟩|⟨J,h1,hp⟩
  ·rw[r2] at h1;cases h1
  ·obtain rfl:V.j (openS d ks)=J:=Option.some.inj (r2.symm.trans h1)
   rcases jclr r3 hv with ⟨S',al,e1,g1,g2,g3,g4,g5,g6⟩|⟨J',e1,g1,_⟩
   ·rw[e1] at hp
    rcases hp with ⟨h2,_⟩|⟨_,jb,sv,ev,es,jk,rfl,h3⟩
    ·exact absurd rfl h2
    ·have hj:=g5 _ (jst_opened r3 hs2)
     rw[r5,r6] at hj
     exact⟨jb,S',al,blk,rfl,⟨⟨st,sv,ev,es,jk,h3⟩,h.old,turn_grown2 h.gr h.old ht⟩,g1,g4 hs2,by omega,by rw[g3,r5,r6],ht,hj,fun e=>(g6 e).2⟩
   ·exact absurd hs2 g1
theorem DR.mid (h:DR W own db d w) (hoff:d.off=false) (hl:d.late = []) (hst:∀i,i<d.n→bk d.st i=bk d.now i) (hn4:d.n≤4096) (hn:next≤1000) (g:Good crcB (fun i=>scrub crcB (bk d.now i)) d.n all blk next) (hv:jv all V0=some V) :
  Calls Tryz.prog 49 #[.pointer (some ⟨db,0,none⟩)] w fun e w'=>∃x y d',e = .returned (.tuple #[x,y])∧DR W own db d' w'∧DG d' d.n (fun al=>jv al V0=some V) next∧Turn (fun k=>¬own k) w w':=by
 refine(jopen h.rep hoff (by rw[hl];show 0+d.n<1000000;omega) (fun ho ks hk=>(jopen_reads hoff hl hst hn4 ho hn g hv hk).1)).mono ?_
 rintro e w' ⟨ht,⟨h1,rfl,h2⟩|⟨ho,st,ks,hk,hp⟩⟩
 ·exact⟨_,_,_,rfl,⟨h2,h.old,turn_grown2 h.gr h.old ht⟩,(opened_dg hoff hl hst hn4 h1 g).mono (fun al e=>by rw[e];exact hv) (Int.le_refl _),ht⟩
 ·obtain⟨r1,r2,r3,r4,r5,r6⟩:=jopen_reads hoff hl hst hn4 ho hn g hv hk
  rcases hp with ⟨h1,_⟩|⟨J,h1,hp⟩
  ·rw[r2] at h1;cases h1
  ·obtain rfl:V.j (openS d ks)=J:=Option.some.inj (r2.symm.trans h1)
   have hnn:(openS d ks).d.n=d.n:=by rw[r5,r6]
   rcases jclr r3 hv with ⟨S',al,e1,g1,g2,g3,g4,g5,g6⟩|⟨J',e1,_,g1,g2⟩
   ·rw[e1] at hp
    rcases hp with ⟨h2,_⟩|⟨_,jb,sv,ev,es,jk,rfl,h3⟩
    ·exact absurd rfl h2
    ·have hd:=g1.inv.to
     rw[g3,hnn] at hd
     exact⟨_,_,S'.d,rfl,⟨h3.sr.dsk.less fun k hk=>Or.inl hk,h.old,turn_grown2 h.gr h.old ht⟩,hd.mono (fun al e=>by rw[e];exact g1.view) (by omega),ht⟩
   ·rw[e1] at hp
    rcases hp with ⟨_,rfl,h3⟩|⟨h2,_⟩
    ·rw[hnn] at g2
     exact⟨_,_,_,rfl,⟨h3.dsk,h.old,turn_grown2 h.gr h.old ht⟩,g2.mono (fun al e=>e) r4,ht⟩
    ·exact absurd h2 (show ¬(180:Int)=0 by decide)
theorem JR.again (h:JR W own jb db (V.j S) w) (hi:JI S V all blk) (hs:Steady S.d) (hn:S.next≤1000) (hn4:S.d.n≤4096) :
  Calls Tryz.prog 49 #[.pointer (some ⟨db,0,none⟩)] w fun e w'=>∃jb2 S2,e = .returned (.tuple #[.pointer (some ⟨jb2,0,none⟩),.int .i64 0])∧JR W own jb db (V.j S) w'∧JR W own jb2 db (V.j S2) w'∧Turn (fun k=>¬own k) w w':=by
 obtain⟨st,sv,ev,es,jk,h1⟩:=h.rep
 obtain⟨mb,tb,rv,rb,hs1⟩:=h1.sr
 have hoc:S.d.opened=(S.d,0):=opened_clean hi.inv.good.clean
 have g:Good crcB (fun i=>scrub crcB (bk S.d.now i)) S.d.n all blk S.next:=hi.inv.good.same fun i hi2=>scrub_clean (hi.inv.good.clean i hi2)
 have hrd:=fun ks hk=>jopen_reads (ks:=ks) hs.1 hi.inv.late hi.inv.st hn4 (by rw[hoc]) hn g hi.view hk
 have hd:DRep (ownS (fun k=>own k∨jk k) st mb tb rb) w db S.d:=hs1.disk
 refine(jopen hd hs.1 (by rw[hi.inv.late];show 0+S.d.n<1000000;omega) (fun _ ks hk=>(hrd ks hk).1)).mono ?_
 rintro e w' ⟨ht,⟨h2,_⟩|⟨_,st2,ks,hk,hp⟩⟩
 ·rw[hoc] at h2;exact absurd rfl h2
 ·obtain⟨r1,r2,r3,r4,r5,r6⟩:=hrd ks hk
  rw[hoc] at r5
  rcases hp with ⟨h2,_⟩|⟨J,h2,hp⟩
  ·rw[r2] at h2;cases h2
  ·obtain rfl:V.j (openS S.d ks)=J:=Option.some.inj (r2.symm.trans h2)
   rcases jclr r3 hi.view with ⟨S',al,e1,g1,g2,g3,g4,g5,g6⟩|⟨J',e1,g1,_⟩
   ·obtain⟨rfl,-⟩:=g6 hi.top
    rw[e1] at hp
    rcases hp with ⟨h3,_⟩|⟨_,jb2,sv2,ev2,es2,jk2,rfl,h3⟩
    ·exact absurd rfl h3
    ·have hd2:DRep (ownS (fun k=>own k∨jk k) st mb tb rb) w' db S.d:=by
      have:=h3.sr.dsk
      rw[show(V.j (openS S.d ks)).S.d=S.d from r5] at this
      exact this.less fun k hk=>Or.inl hk
     have hs2:=hs1.turned hd2 ht rfl
     have ht1:Turn (fun k=>¬(own k∨jk k)) w w':=turn_less ht
     have ht2:Turn (fun k=>¬own k) w w':=ht1.mono fun k hk e=>hk (Or.inl e)
     have hg:=turn_grown2 h.gr h.old ht2
     refine⟨jb2,_,rfl,⟨⟨st,sv,ev,es,jk,?_⟩,h.old,hg⟩,⟨⟨st2,sv2,ev2,es2,jk2,h3.less fun k hk=>Or.inl (Or.inl hk)⟩,h.old,hg⟩,ht2⟩
     exact h1.store ⟨mb,tb,rv,rb,hs2⟩ ht1
   ·refine absurd ?_ g1
    rw[r5]
    exact hs
end
end Go.Proofs.YtbcbhlfjgobejaaGreat
