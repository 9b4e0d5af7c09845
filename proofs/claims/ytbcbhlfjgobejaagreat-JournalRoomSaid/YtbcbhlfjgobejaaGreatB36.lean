/- JournalKeeps: what the records say; Append, Checkpoint, openings, on a disk that may fail. Plain. Conditions: as the theorems say. A journal beside protected blocks: its calls, and openings, for loops. Conditions: as the theorems say. works() of chapter 21: the walk. Conditions: none. A law that leaves all old memory alone: its row's last step. Conditions: none. -/
import Derived.Test.YtbcbhlfjgobejaaGreatB35
import Derived.Test.YtbcbhlfjgobejaaGreatRows
import Derived.WalkKit
import Derived.ProofKit
import Derived.OpenShut
set_option linter.unusedSimpArgs false
set_option linter.unusedVariables false
namespace Go.Proofs.YtbcbhlfjgobejaaGreat
open Go.RowKit Go.Sf
structure JV where
 at_:Int
 state:List Int
 entries:List (List Int)
def V0:JV:=⟨0,[],[]⟩
def JV.j (V:JV) (S:Sto):Jnl:=⟨S,V.at_,V.state,V.entries,0⟩
def jv:List (Int × List Int)→JV→Option JV
 | [],V=>some V
 | q :: t,V=>match jsaid q.2 with
  | none=>none
  | some (true,s)=>jv t ⟨q.1,s,[]⟩
  | some (false,s)=>jv t { V with entries:=V.entries ++ [s] }
theorem jv_cons (q:Int × List Int) (t:List (Int × List Int)) (V:JV):jv (q :: t) V=(match jsaid q.2 with
  | none=>none
  | some (true,s)=>jv t ⟨q.1,s,[]⟩
  | some (false,s)=>jv t { V with entries:=V.entries ++ [s] }):=rfl
theorem jview_jv (S:Sto):∀(l:List (Int × List Int)) (V:JV),jview l (V.j S)=(jv l V).map fun V=>V.j S
 | [],V=>rfl
 | q :: t,V=>by
  rw[jview_cons,jv_cons]
  cases jsaid q.2 with
  | none=>rfl
  | some r=>
   obtain⟨x,s⟩:=r
   cases x with
   | true=>exact jview_jv S t ⟨q.1,s,[]⟩
   | false=>exact jview_jv S t { V with entries:=V.entries ++ [s] }
theorem jv_parts:∀(t:List (Int × List Int)) (V1 V:JV),jv t V1=some V→((∃q∈t,q.1=V.at_)∧∀V2,jv t V2=some V)∨(V.at_=V1.at_∧V.state=V1.state∧∃es,es.length≤t.length∧V.entries=V1.entries++es∧∀V2:JV,jv t V2=some ⟨V2.at_,V2.state,V2.entries++es⟩)
 | [],V1,V,h=>by
  injection h with h
  subst h
  exact Or.inr ⟨rfl,rfl,[],Nat.le_refl _,by simp,fun V2=>by simp[jv]⟩
 | q :: t,V1,V,h=>by
  rw[jv_cons] at h
  cases hs:jsaid q.2 with
  | none=>rw[hs] at h;cases h
  | some r=>
   obtain⟨x,s⟩:=r
   rw[hs] at h
   cases x with
   | true=>
    left
    simp only at h
    refine⟨?_,fun V2=>by rw[jv_cons,hs];exact h⟩
    rcases jv_parts t _ V h with ⟨⟨p,hp,e⟩,_⟩|⟨e,_⟩
    ·exact⟨p,List.mem_cons_of_mem _ hp,e⟩
    ·exact⟨q,List.mem_cons_self ..,e.symm⟩
   | false=>
    simp only at h
    rcases jv_parts t _ V h with ⟨⟨p,hp,e⟩,h2⟩|⟨e,e2,es,hl,e3,h2⟩
    ·exact Or.inl ⟨⟨p,List.mem_cons_of_mem _ hp,e⟩,fun V2=>by rw[jv_cons,hs];exact h2 _⟩
    ·refine Or.inr ⟨e,e2,s :: es,by simp;omega,by rw[e3];simp,fun V2=>?_⟩
     rw[jv_cons,hs]
     simp only
     rw[h2]
     simp
theorem jv_drop {q:Int × List Int} {t:List (Int × List Int)} {V:JV} (h:jv (q :: t) V0=some V) (h1:0≤q.1) (h2:q.1<V.at_):jv t V0=some V:=by
 rw[jv_cons] at h
 cases hs:jsaid q.2 with
 | none=>rw[hs] at h;cases h
 | some r=>
  obtain⟨x,s⟩:=r
  rw[hs] at h
  cases x with
  | true=>
   simp only at h
   rcases jv_parts t _ V h with ⟨_,h3⟩|⟨e,_⟩
   ·exact h3 _
   ·simp only at e;omega
  | false=>
   simp only at h
   rcases jv_parts t _ V h with ⟨_,h3⟩|⟨e,_⟩
   ·exact h3 _
   ·simp only[V0] at e;omega
structure JI (S:Sto) (V:JV) (all:List (Int × List Int)) (blk:Int→List Nat):Prop where
 inv:KInv S all blk
 view:jv all V0=some V
 top:∀q∈all,V.at_≤q.1
theorem rising_len:∀(l:List Int) (a b:Int),l.Pairwise (·< ·)→(∀x∈l,a≤x∧x<b)→(l.length:Int)≤max 0 (b-a)
 | [],a,b,_,_=>by simp;omega
 | x :: t,a,b,h,hm=>by
  rw[List.pairwise_cons] at h
  have hx:=hm x (List.mem_cons_self ..)
  have:=rising_len t (x+1) b h.2 fun y hy=>⟨by have:=h.1 y hy;omega,(hm y (List.mem_cons_of_mem _ hy)).2⟩
  simp only[List.length_cons]
  omega
theorem Good.few {C:List Int→Nat} {f:Nat→List Int} {N:Nat} {all:List (Int × List Int)} {blk:Int→List Nat} {next:Int} (g:Good C f N all blk next):(all.length:Int)<next:=by
 have h:=rising_len (all.map (·.1)) 1 next g.srt fun x hx=>by
  obtain⟨q,hq,rfl⟩:=List.mem_map.1 hx
  exact g.key hq
 have:=g.pos
 rw[List.length_map] at h
 omega
section
variable {S : Sto} {V : JV} {all : List (Int × List Int)} {blk : Int → List Nat} {b : List Int}
theorem KInv.keysE (h:KInv S all blk):S.keys=all.map (·.1):=by
 unfold Sto.keys
 rw[h.recs,List.map_map]
 rfl
theorem kinv_num (h:KInv S all blk) (hn:S.next≤4611686018427387904):∀r∈S.recs,1≤r.1∧r.1≤4611686018427387904:=fun r hr=>by
 rw[h.recs] at hr
 obtain⟨q,hq,rfl⟩:=List.mem_map.1 hr
 have:=h.good.key hq
 simp only
 omega
theorem clr_keeps {post:List (Int × List Int)} (M:Int):∀(pre:List (Int × List Int)) (S:Sto),KInv S (pre++post) blk→(∀q∈pre,q.1<V.at_)→jv (pre++post) V0=some V→S.next≤M→
  (∃S',clrS S (pre.map (·.1))=(S',0)∧KInv S' post blk∧jv post V0=some V∧S'.next=S.next∧S'.d.n=S.d.n∧(Steady S.d→Steady S'.d)∧(pre = []→S'=S)∧∀N,JSt S N→JSt S' N)∨
  (∃S',clrS S (pre.map (·.1))=(S',180)∧¬Steady S.d∧S'.d.off=true∧DG S'.d S.d.n (fun al=>jv al V0=some V) M)
 | [],S,h,_,hv,hm=>Or.inl ⟨S,rfl,h,hv,rfl,rfl,id,fun _=>rfl,fun _=>id⟩
 | q :: t,S,h,ho,hv,hm=>by
  have hq:q∈q :: t++post:=List.mem_cons_self ..
  have hk:=h.good.key hq
  have hv2:jv (t++post) V0=some V:=jv_drop hv (by omega) (ho q (List.mem_cons_self ..))
  have hs:=h.good.srt
  rw[List.cons_append,List.map_cons,List.pairwise_cons] at hs
  have hf:((q :: t++post).filter fun r=>decide (r.1≠q.1))=t++post:=by
   rw[List.cons_append,List.filter_cons_of_neg (by simp)]
   exact List.filter_eq_self.2 fun p hp=>by
    have:=hs.1 p.1 (List.mem_map_of_mem hp)
    simp
    omega
  have hst:Steady S.d→(S.rem q.1).2=0∧Steady (S.rem q.1).1.d:=fun hs0=>by
   have hl:=h.good.bln q hq
   have hp:=partsN_pos q.2.length
   have hhd:(blk q.1).headD 0<S.d.n:=by
    cases e:blk q.1 with
    | nil=>rw[e] at hl;simp at hl;omega
    | cons i r=>exact h.good.blt q hq i (by rw[e];exact List.mem_cons_self ..)
   obtain⟨d',s1,s2,s3,s4⟩:=rem_ok hs0 h.brk (h.key_get hq) hhd
   rw[s4]
   exact⟨rfl,s1⟩
  rcases h.rem hq with ⟨S1,e1,k1,k2,k3⟩|⟨S1,e1,hb⟩
  ·rw[hf] at k1
   rw[e1] at hst
   have hc:clrS S ((q :: t).map (·.1))=clrS S1 (t.map (·.1)):=by
    rw[List.map_cons,clrS_ok (by rw[e1]),e1]
   rw[hc]
   rcases clr_keeps M t S1 k1 (fun p hp=>ho p (List.mem_cons_of_mem _ hp)) hv2 (by rw[k2];exact hm) with ⟨S2,e2,g1,g2,g3,g4,g5,g6,g7⟩|⟨S2,e2,g1,g2,g3⟩
   ·refine Or.inl ⟨S2,e2,g1,g2,g3.trans k2,g4.trans k3,fun hs0=>g5 (hst hs0).2,fun e=>(by cases e),fun N hj=>g7 N ?_⟩
    obtain⟨S3,e3,hj3,_⟩:=kj_rem (q:=q) (t:=t++post) ⟨hj,blk,h⟩ rfl
    obtain rfl:S1=S3:=(congrArg Prod.fst (e1.symm.trans e3) :)
    exact hj3.1
   ·refine Or.inr ⟨S2,e2,fun hs0=>g1 (hst hs0).2,g2,?_⟩
    rw[k3] at g3
    exact g3
  ·rw[hf] at hb
   rw[e1] at hst
   have hc:clrS S ((q :: t).map (·.1))=(S1,180):=by
    rw[List.map_cons,clrS_no (by rw[e1];show(180:Int)≠0;decide),e1]
   refine Or.inr ⟨S1,hc,fun hs0=>by have:=(hst hs0).1;simp at this,hb.off,hb.to.mono (fun al hal=>?_) hm⟩
   rcases hal with rfl|rfl
   ·exact hv
   ·exact hv2
theorem olds_split {a:Int}:∀{l:List (Int × List Int)},(l.map (·.1)).Pairwise (·< ·)→∃pre post,l=pre++post∧olds (l.map (·.1)) a=pre.map (·.1)∧(∀q∈pre,q.1<a)∧∀q∈post,a≤q.1
 | [],_=>⟨[],[],rfl,rfl,by simp,by simp⟩
 | q :: t,h=>by
  rw[List.map_cons,List.pairwise_cons] at h
  by_cases hq:q.1<a
  ·obtain⟨pre,post,e,e2,h1,h2⟩:=olds_split (a:=a) h.2
   refine⟨q :: pre,post,by rw[e];rfl,?_,fun p hp=>?_,h2⟩
   ·unfold olds at e2 ⊢
    rw[List.map_cons,List.takeWhile_cons_of_pos (by simpa using hq),e2]
    rfl
   ·rcases List.mem_cons.1 hp with e|e
    ·rw[e];exact hq
    ·exact h1 p e
  ·refine⟨[],q :: t,rfl,?_,by simp,fun p hp=>?_⟩
   ·unfold olds
    rw[List.map_cons,List.takeWhile_cons_of_neg (by simpa using hq)]
    rfl
   ·rcases List.mem_cons.1 hp with e|e
    ·rw[e];omega
    ·have:=h.1 p.1 (List.mem_map_of_mem e)
     omega
theorem met_bad (J:Jnl):(J.met 180).S=J.S:=by unfold Jnl.met;rw[if_pos rfl]
theorem jclr (h:KInv S all blk) (hv:jv all V0=some V) :
  (∃S' al,(V.j S).clr=(V.j S',0)∧JI S' V al blk∧S'.next=S.next∧S'.d.n=S.d.n∧(Steady S.d→Steady S'.d)∧(∀N,JSt S N→JSt S' N)∧((∀q∈all,V.at_≤q.1)→S'=S∧al=all))∨
  (∃J',(V.j S).clr=(J',180)∧¬Steady S.d∧J'.S.d.off=true∧DG J'.S.d S.d.n (fun al=>jv al V0=some V) S.next):=by
 obtain⟨pre,post,e,e2,h1,h2⟩:=olds_split (a:=V.at_) h.good.srt
 have hks:olds (V.j S).S.keys (V.j S).at_=pre.map (·.1):=by
  show olds S.keys V.at_=_
  rw[h.keysE,e2]
 unfold Jnl.clr
 rw[hks]
 show(∃S' al,(Jnl.met { V.j S with S:=(clrS S (pre.map (·.1))).1 } (clrS S (pre.map (·.1))).2,(clrS S (pre.map (·.1))).2)=_∧_)∨(∃J',(Jnl.met { V.j S with S:=(clrS S (pre.map (·.1))).1 } (clrS S (pre.map (·.1))).2,(clrS S (pre.map (·.1))).2)=_∧_)
 subst e
 rcases clr_keeps S.next pre S h h1 hv (Int.le_refl _) with ⟨S',e3,g1,g2,g3,g4,g5,g6,g7⟩|⟨S',e3,g1,g2,g3⟩
 ·left
  refine⟨S',post,?_,⟨g1,g2,h2⟩,g3,g4,g5,g7,fun hall=>?_⟩
  ·rw[e3]
   show(Jnl.met _ 0,(0:Int))=_
   rw[met_zero]
   rfl
  ·cases pre with
   | nil=>exact⟨g6 rfl,rfl⟩
   | cons p t=>
    have a1:=h1 p (List.mem_cons_self ..)
    have a2:=hall p (List.mem_cons_self ..)
    omega
 ·right
  rw[e3]
  refine⟨_,rfl,g1,?_,?_⟩
  ·show(Jnl.met _ 180).S.d.off=true
   rw[met_bad]
   exact g2
  ·show DG (Jnl.met _ 180).S.d _ _ _
   rw[met_bad]
   exact g3
theorem jput_keeps (h:JI S V all blk) (hn:S.next≤4611686018427387904) (k:Int) (hb:b.length≤131071) :
  (V.j S).put k b=(V.j S,0,181)∨
  (∃S' blk',(V.j S).put k b=(V.j S',S.next,0)∧KInv S' (all ++ [(S.next,k :: b)]) blk'∧S'.next=S.next+1∧S'.d.n=S.d.n)∨
  (∃J',(V.j S).put k b=(J',0,180)∧J'.S.d.off=true∧DG J'.S.d S.d.n (fun al=>al=all∨al=all ++ [(S.next,k :: b)]) (S.next+1)):=by
 rw[put_c (J:=V.j S) rfl k (by omega)]
 show _∨(∃S' blk',(Jnl.met { V.j S with S:=(S.put (k :: b)).1 } (S.put (k :: b)).2.2,(S.put (k :: b)).2.1,(S.put (k :: b)).2.2)=_∧_)∨(∃J',(Jnl.met { V.j S with S:=(S.put (k :: b)).1 } (S.put (k :: b)).2.2,(S.put (k :: b)).2.1,(S.put (k :: b)).2.2)=_∧_)
 rcases h.inv.put hn (b:=k :: b) (by simp;omega) with e|⟨S',blk',e,k1,k2,k3⟩|⟨S',e,hb⟩
 ·left
  show(Jnl.met { V.j S with S:=(S.put (k :: b)).1 } (S.put (k :: b)).2.2,(S.put (k :: b)).2.1,(S.put (k :: b)).2.2)=_
  rw[e]
  show(Jnl.met _ 181,(0:Int),(181:Int))=_
  unfold Jnl.met
  rw[if_neg (by decide)]
  rfl
 ·right;left
  refine⟨S',blk',?_,k1,k2,k3⟩
  rw[e]
  show(Jnl.met _ 0,S.next,(0:Int))=_
  rw[met_zero]
  rfl
 ·right;right
  rw[e]
  refine⟨_,rfl,?_,?_⟩
  ·show(Jnl.met _ 180).S.d.off=true
   rw[met_bad]
   exact hb.off
  ·show DG (Jnl.met _ 180).S.d _ _ _
   rw[met_bad]
   exact hb.to.mono (fun al hal=>hal) (Int.le_refl _)
theorem put_recs (S:Sto) (b:List Int):(S.put b).1.recs=S.recs∨∃fr,(S.put b).1.recs=mput S.recs S.next (b,fr):=by
 unfold Sto.put
 repeat' split
 all_goals first
  | exact Or.inl rfl
  | exact Or.inl (did_recs _ _ _).1
  | exact Or.inr ⟨_,rfl⟩
theorem cp_asks (h:JI S V all blk) (hn:S.next≤1000) (hb:b.length≤131071):(∀r∈((V.j S).put 67 b).1.S.recs,1≤r.1∧r.1≤4611686018427387904)∧((V.j S).put 67 b).1.S.keys.Pairwise (·< ·)∧((V.j S).put 67 b).1.S.recs.length≤1000∧((V.j S).put 67 b).1.S.d.late.length+1000<1000000:=by
 have hr:((V.j S).put 67 b).1.S.recs=S.recs∨∃fr,((V.j S).put 67 b).1.S.recs=mput S.recs S.next (67 :: b,fr):=by
  rw[put_c (J:=V.j S) rfl 67 (by omega)]
  have e:∀(J:Jnl) (x:Int),(J.met x).S=J.S:=fun J x=>by unfold Jnl.met;split <;> rfl
  simp only[e]
  exact put_recs S (67 :: b)
 have hl:((V.j S).put 67 b).1.S.d.late.length≤5000:=by
  rcases jput_keeps h (by omega) 67 hb with e|⟨S',blk',e,k1,k2,k3⟩|⟨J',e,h1,h2⟩
  ·rw[e]
   show S.d.late.length≤_
   rw[h.inv.late]
   exact Nat.zero_le _
  ·rw[e]
   show S'.d.late.length≤_
   rw[k1.late]
   exact Nat.zero_le _
  ·rw[e]
   exact h2.late
 have hk:=kinv_num h.inv (by omega)
 have hrs:S.recs.length=all.length:=by rw[h.inv.recs,List.length_map]
 have hfew:=h.inv.good.few
 have hsrt:(S.recs.map (·.1)).Pairwise (·< ·):=by
  have:=h.inv.keysE
  unfold Sto.keys at this
  rw[this]
  exact h.inv.good.srt
 have hlt:∀r∈S.recs,r.1<S.next:=fun r hr=>by
  rw[h.inv.recs] at hr
  obtain⟨q,hq,rfl⟩:=List.mem_map.1 hr
  exact(h.inv.good.key hq).2
 have hpos:=h.inv.good.pos
 refine⟨?_,?_,?_,by omega⟩
 ·rcases hr with e|⟨fr,e⟩
  ·rw[e];exact hk
  ·rw[e,mput_new (fun r hr e=>by have:=hlt r hr;omega)]
   intro r hr
   rcases List.mem_append.1 hr with e|e
   ·exact hk r e
   ·rw[List.mem_singleton.1 e]
    simp only
    omega
 ·show(((V.j S).put 67 b).1.S.recs.map (·.1)).Pairwise _
  rcases hr with e|⟨fr,e⟩
  ·rw[e];exact hsrt
  ·rw[e,mput_new (fun r hr e=>by have:=hlt r hr;omega),List.map_append]
   refine List.pairwise_append.2 ⟨hsrt,by simp,fun a ha c hc=>?_⟩
   obtain⟨r,hr,rfl⟩:=List.mem_map.1 ha
   simp only[List.map_cons,List.map_nil,List.mem_singleton] at hc
   subst hc
   exact hlt r hr
 ·rcases hr with e|⟨fr,e⟩
  ·rw[e];omega
  ·rw[e,mput_new (fun r hr e=>by have:=hlt r hr;omega),List.length_append,List.length_singleton]
   omega
theorem jopen_reads {d:Dk} (hoff:d.off=false) (hl:d.late = []) (hst:∀i,i<d.n→bk d.st i=bk d.now i) (hn4:d.n≤4096) (hok:d.opened.2=0) {next:Int} (hn:next≤1000) (g:Good crcB (fun i=>scrub crcB (bk d.now i)) d.n all blk next) (hv:jv all V0=some V) {ks:List Key19} (hk:KeysOf d ks) :
  JGood (openS d ks)∧jfold (openS d ks) (openS d ks).keys (Jnl.new (openS d ks))=some (V.j (openS d ks))∧KInv (openS d ks) all blk∧(openS d ks).next≤next∧(openS d ks).d=d.opened.1∧d.opened.1.n=d.n:=by
 obtain⟨k1,k2,k3,k4⟩:=kopenF hoff hl hst hok g hk
 have hf:=k1.good.few
 refine⟨⟨kinv_num k1 (by omega),fun r hr=>?_,?_,?_,?_⟩,?_,k1,k2,k3,k4⟩
 ·rw[k1.recs] at hr
  obtain⟨q,hq,rfl⟩:=List.mem_map.1 hr
  have:=k1.good.len q hq
  simp only
  omega
 ·rw[k1.keysE];exact k1.good.srt
 ·rw[k1.recs,List.length_map];omega
 ·rw[k1.late];show 0+1000<1000000;omega
 ·rw[kinv_fold k1]
  show jview all (V0.j (openS d ks))=_
  rw[jview_jv,hv]
  rfl
end
open Go.RowKit Go.Sf Go.Shelf
structure JR (W:World) (own:Nat→Prop) (jb db:Nat) (J:Jnl) (w:World):Prop where
 rep:JRep own w jb db J
 old:∀k,k<W.heap.size→own k
 gr:W.grownBy w none
structure DR (W:World) (own:Nat→Prop) (db:Nat) (d:Dk) (w:World):Prop where
 rep:DRep own w db d
 old:∀k,k<W.heap.size→own k
 gr:W.grownBy w none
section
variable {W w w' : World} {own own' : Nat → Prop} {st db jb : Nat} {S : Sto} {J : Jnl} {d : Dk} {V : JV} {all : List (Int × List Int)} {blk : Int → List Nat} {next : Int}
theorem SRep.dsk (h:SRep own w st db S):DRep own w db S.d:=by
 obtain⟨mb,tb,rv,rb,hs⟩:=h
 exact hs.disk.less fun k hk=>Or.inl hk
theorem JR.grown (h:JR W own jb db J w) (hg:w.grownBy w' none):JR W own jb db J w':=⟨h.rep.grown hg,h.old,grown_trans h.gr hg⟩
theorem JR.lt (h:JR W own jb db J w) {k:Nat} (hk:own k):k<w.heap.size:=by
 obtain⟨st,sv,ev,es,jk,h1⟩:=h.rep
 exact h1.olt hk
theorem JR.oth (h:JR W own jb db J w) (ht:Turn own w w') (hg:W.grownBy w' none) (h0:∀k,own k→own' k) (h1:∀k,own' k→own k∨w.heap.size≤k) (h2:∀k,own' k→k<w'.heap.size):JR W own' jb db J w':=by
 obtain⟨st,sv,ev,es,jk,h3⟩:=h.rep
 exact⟨⟨st,sv,ev,es,jk,h3.oth ht h1 h2⟩,fun k hk=>h0 k (h.old k hk),hg⟩
theorem JR.more (h:JR W own jb db J w) (hg:w.grownBy w' none):JR W (fun k=>own k∨(w.heap.size≤k∧k<w'.heap.size)) jb db J w':=
 h.oth (turn_grJ hg) (grown_trans h.gr hg) (fun k hk=>Or.inl hk) (fun k hk=>hk.imp id And.left) (fun k hk=>hk.elim (fun e=>Nat.lt_of_lt_of_le (h.lt e) hg.size) And.right)
theorem JR.app (h:JR W own jb db J w) {v:Value} {b:List Int} (hv:RowP own w v (bytesV b)) (hbb:BL b) (hl:b.length≤10000000) (hf:J.S.d.late.length+600<1000000) (he:J.entries.length<1000000) :
  Calls Tryz.prog 50 #[.pointer (some ⟨jb,0,none⟩),v] w fun e w'=>e = .returned (.int .i64 (J.app b).2)∧JR W own jb db (J.app b).1 w'∧Turn (fun k=>¬own k) w w':=by
 obtain⟨st,sv,ev,es,jk,h1⟩:=h.rep
 refine(jappend h1 hv hbb hl hf he).mono ?_
 rintro e w' ⟨rfl,⟨ev',es',jk',g1⟩,g2⟩
 exact⟨rfl,⟨⟨st,sv,ev',es',jk',g1⟩,h.old,turn_grown2 h.gr h.old g2⟩,g2⟩
theorem JR.cp (h:JR W own jb db J w) {v:Value} {b:List Int} (hv:RowP own w v (bytesV b)) (hbb:BL b) (hl:b.length≤10000000) (hf:J.S.d.late.length+600<1000000)
  (hk:(∀r∈(J.put 67 b).1.S.recs,1≤r.1∧r.1≤4611686018427387904)∧(J.put 67 b).1.S.keys.Pairwise (·< ·)∧(J.put 67 b).1.S.recs.length≤1000∧(J.put 67 b).1.S.d.late.length+1000<1000000) :
  Calls Tryz.prog 53 #[.pointer (some ⟨jb,0,none⟩),v] w fun e w'=>e = .returned (.int .i64 (J.cp b).2)∧JR W own jb db (J.cp b).1 w'∧Turn (fun k=>¬own k) w w':=by
 obtain⟨st,sv,ev,es,jk,h1⟩:=h.rep
 refine(jcheckpoint h1 hv hbb hl hf hk.1 hk.2.1 hk.2.2.1 hk.2.2.2).mono ?_
 rintro e w' ⟨rfl,⟨sv',ev',es',jk',g1⟩,g2⟩
 exact⟨rfl,⟨⟨st,sv',ev',es',jk',g1⟩,h.old,turn_grown2 h.gr h.old g2⟩,g2⟩
theorem JR.state (h:JR W own jb db J w) (hl:J.state.length≤100000000):Calls Tryz.prog 54 #[.pointer (some ⟨jb,0,none⟩)] w fun e w'=>w.grownBy w' none∧((J.at_=0∧e = .returned (.tuple #[.slice none 0 0,.bool false]))∨(J.at_≠0∧∃v,e = .returned (.tuple #[v,.bool true])∧NewRow w w' v J.state)):=by
 obtain⟨st,sv,ev,es,jk,h1⟩:=h.rep
 exact jstate h1 hl
theorem JR.ents (h:JR W own jb db J w) (hl:∀b∈J.entries,b.length≤10000000) (he:J.entries.length<1000000):Calls Tryz.prog 52 #[.pointer (some ⟨jb,0,none⟩)] w fun e w'=>∃v ms,e = .returned v∧OutE w w' v ms J.entries∧w.grownBy w' none:=by
 obtain⟨st,sv,ev,es,jk,h1⟩:=h.rep
 exact jentries h1 hl he
theorem JR.state1 (h:JR W own jb db (V.j S) w) (h0:V.at_≠0) (hl:V.state.length≤100000000):Calls Tryz.prog 54 #[.pointer (some ⟨jb,0,none⟩)] w fun e w'=>∃p c,e = .returned (.tuple #[.slice p V.state.length c,.bool true])∧w.grownBy w' none∧RawRow w' (.slice p V.state.length c) V.state:=by
 refine(h.state hl).mono ?_
 rintro e w' ⟨hg,⟨h1,-⟩|⟨-,v,rfl,hn⟩⟩
 ·exact absurd h1 h0
 ·have hr:=(NewRow.rowP hn (by show V.state.length≤_;omega)).raw
  obtain⟨p,c,rfl,-⟩:=hr.ex
  exact⟨p,c,rfl,hg,hr⟩
def EntsAt (w:World) (p:Option Addr) (l:List (List Int)):Prop:=∀i (hi:i<l.length),∃g q c,p=some ⟨g,0,none⟩∧w.cell? ⟨g,i,none⟩=some (.slice q l[i].length c)∧RawRow w (.slice q l[i].length c) l[i]
theorem JR.ents1 (h:JR W own jb db (V.j S) w) (hl:∀b∈V.entries,b.length≤10000000) (he:V.entries.length<1000000):Calls Tryz.prog 52 #[.pointer (some ⟨jb,0,none⟩)] w fun e w'=>∃p c,e = .returned (.slice p V.entries.length c)∧w.grownBy w' none∧EntsAt w' p V.entries:=by
 refine(h.ents hl he).mono ?_
 rintro e w' ⟨v,ms,rfl,⟨h1,-,h3⟩,hg⟩
 have hlen:ms.length=V.entries.length:=h3.len
 obtain⟨p,c,rfl,-,-⟩:=h1.form
 refine⟨p,c,by rw[hlen],hg,fun i hi=>?_⟩
 have him:i<ms.length:=by rw[hlen];exact hi
 have hrow:=h3.get i him hi
 rcases SRow.at slE_len h1 with e|⟨g,cc,e1,e2,-⟩
 ·rw[e] at him;simp at him
 ·injection e1 with e1
  have hc:=e2 i him 0 _ rfl
  rw[Nat.mul_one,Nat.add_zero] at hc
  have hn:=sl_n hrow
  rw[hn] at hc hrow
  exact⟨g,_,_,e1,hc,hrow.raw⟩
theorem JR.free (h:JR W own jb db J w):Calls Tryz.prog 51 #[.pointer (some ⟨jb,0,none⟩)] w fun e w'=>e = .returned (.int .i64 (freeN J.S.taken))∧w'=w:=by
 obtain⟨st,sv,ev,es,jk,h1⟩:=h.rep
 exact jfree h1
theorem JR.dr (h:JR W own jb db J w):DR W own db J.S.d w:=by
 obtain⟨st,sv,ev,es,jk,h1⟩:=h.rep
 exact⟨h1.sr.dsk.less fun k hk=>Or.inl hk,h.old,h.gr⟩
theorem steady_opened {d:Dk} (h:Steady d):d.opened.2=0:=Classical.byContradiction fun h1=>absurd h.opened h1
theorem steady_disk {d:Dk} (h:Steady d):Steady d.opened.1:=by
 obtain⟨h1,h2,h3⟩:=Steady.opn h d.n (Nat.le_refl _)
 unfold Dk.opened
 rw[if_neg (by simp[h1])]
 cases hf:(opnD d d.n).2.2
 ·simp only[Bool.false_eq_true,if_false]
  exact h2
 ·simp only[if_true]
  exact h2.sync.2.1
theorem DR.open_ (h:DR W own db d w) (hs:Steady d) (hl:d.late = []) (hst:∀i,i<d.n→bk d.st i=bk d.now i) (hn4:d.n≤4096) (hn:next≤1000) (g:Good crcB (fun i=>scrub crcB (bk d.now i)) d.n all blk next) (hv:jv all V0=some V) :
  Calls Tryz.prog 49 #[.pointer (some ⟨db,0,none⟩)] w fun e w'=>∃jb S al blk,e = .returned (.tuple #[.pointer (some ⟨jb,0,none⟩),.int .i64 0])∧JR W own jb db (V.j S) w'∧JI S V al blk∧Steady S.d∧S.next≤next∧S.d.n=d.n∧Turn (fun k=>¬own k) w w'∧JSt S d.n∧((∀q∈all,V.at_≤q.1)→al=all):=by
 have ho:=steady_opened hs
 refine(jopen h.rep hs.1 (by rw[hl];show 0+d.n<1000000;omega) (fun _ ks hk=>(jopen_reads hs.1 hl hst hn4 ho hn g hv hk).1)).mono ?_
 rintro e w' ⟨ht,⟨h1,_⟩|⟨_,st,ks,hk,hp⟩⟩
 ·exact absurd ho h1
 ·obtain⟨r1,r2,r3,r4,r5,r6⟩:=jopen_reads hs.1 hl hst hn4 ho hn g hv hk
  have hs2:Steady (openS d ks).d:=by rw[r5];exact steady_disk hs
  rcases hp with ⟨h1,_⟩|⟨J,h1,hp⟩
  ·rw[r2] at h1;cases h1
  ·obtain rfl:V.j (openS d ks)=J:=Option.some.inj (r2.symm.trans h1)
   rcases jclr r3 hv with ⟨S',al,e1,g1,g2,g3,g4,g5,g6⟩|⟨J',e1,g1,_⟩
   ·rw[e1] at hp
    rcases hp with ⟨h2,_⟩|⟨_,jb,sv,ev,es,jk,rfl,h3⟩
    ·exact absurd rfl h2
    ·have hj:=g5 _ (jst_opened r3 hs2)
     rw[r5,r6] at hj
     exact⟨jb,S',al,blk,rfl,⟨⟨st,sv,ev,es,jk,h3⟩,h.old,turn_grown2 h.gr h.old ht⟩,g1,g4 hs2,by omega,by rw[g3,r5,r6],ht,hj,fun e=>(g6 e).2⟩
   ·exact absurd hs2 g1
end
attribute [local go_sem] Oper.semAt_some
theorem kj_free {S:Sto} {N:Nat} {all:List (Int × List Int)} (h:KJ S N all):freeN S.taken+(all.map fun q=>partsN q.2.length).sum=N:=by
 obtain⟨h1,blk,h2⟩:=h
 have hf:=h1.free
 have e:lds S=all.flatMap fun q=>blk q.1:=by
  unfold lds
  rw[h2.recs,List.flatMap_map]
 have e2:∀l:List (Int × List Int),(∀q∈l,(blk q.1).length=partsN q.2.length)→(l.flatMap fun q=>blk q.1).length=(l.map fun q=>partsN q.2.length).sum:=fun l=>by
  induction l with
  | nil=>intro _;rfl
  | cons q t ih=>
   intro hl
   rw[List.flatMap_cons,List.length_append,ih fun p hp=>hl p (List.mem_cons_of_mem _ hp),hl q (List.mem_cons_self ..)]
   simp
 rw[e,e2 all h2.good.bln] at hf
 exact hf
def JQ (W:World) (jb db:Nat) (J:Jnl) (w:World):Prop:=∃own,JR W own jb db J w
section
variable {W w w1 w' : World} {jb db : Nat} {J : Jnl} {S : Sto} {V : JV} {all : List (Int × List Int)} {b : List Int} {N : Nat} {v : Value}
theorem japp_room (h:KJ S N all) (hx:S.next≤1000) (hb:b.length≤131071) (hf:(all.map fun q=>partsN q.2.length).sum+partsN (b.length+1)≤N):∃S',(V.j S).app b=(({ V with entries:=V.entries ++ [b] }:JV).j S',0)∧KJ S' N (all ++ [(S.next,69 :: b)])∧S'.next=S.next+1:=by
 have hk:=kj_free h
 obtain⟨S',fr,e,g1,-,g3,-⟩:=jk_app (J:=V.j S) h rfl (by show S.next≤_;omega) hb (by show _≤freeN S.taken;omega)
 exact⟨S',e,g1,g3⟩
theorem jcp_room (h:KJ S N all) (hx:S.next≤1000) (hb:b.length≤131071) (hf:(all.map fun q=>partsN q.2.length).sum+partsN (b.length+1)≤N):∃S',(V.j S).cp b=((⟨S.next,b,[]⟩:JV).j S',0)∧KJ S' N [(S.next,67 :: b)]∧S'.next=S.next+1:=by
 have hk:=kj_free h
 obtain⟨S',e,g1,g3⟩:=jk_cp (J:=V.j S) h rfl (by show S.next≤_;omega) hb (by show _≤freeN S.taken;omega)
 exact⟨S',e,g1,g3⟩
theorem JQ.app (h:JQ W jb db (V.j S) w) (hk:KJ S N all) (hx:S.next≤1000) (hb:b.length≤131071) (hbb:BL b) (he:V.entries.length<1000) {S':Sto} {V':JV} (hr:(V.j S).app b=(V'.j S',0)) (hg:w.grownBy w1 none) (hv:RowP (fun k=>w.heap.size≤k∧k<w1.heap.size) w1 v (bytesV b)) :
  Calls Tryz.prog 50 #[.pointer (some ⟨jb,0,none⟩),v] w1 fun e w'=>e = .returned (.int .i64 0)∧JQ W jb db (V'.j S') w':=by
 obtain⟨own,h⟩:=h
 obtain⟨blk,hi⟩:=hk.2
 refine((h.more hg).app (hv.mono fun k hk=>Or.inr hk) hbb (by omega) (by show S.d.late.length+600<1000000;rw[hi.late];show 0+600<1000000;omega) (by show V.entries.length<1000000;omega)).mono ?_
 rw[hr]
 rintro e w' ⟨rfl,h1,-⟩
 exact⟨rfl,_,h1⟩
theorem JQ.cp (h:JQ W jb db (V.j S) w) (hk:KJ S N all) (hj:jv all V0=some V) (ht:∀q∈all,V.at_≤q.1) (hx:S.next≤1000) (hb:b.length≤131071) (hbb:BL b) {S':Sto} {V':JV} (hr:(V.j S).cp b=(V'.j S',0)) (hg:w.grownBy w1 none) (hv:RowP (fun k=>w.heap.size≤k∧k<w1.heap.size) w1 v (bytesV b)) :
  Calls Tryz.prog 53 #[.pointer (some ⟨jb,0,none⟩),v] w1 fun e w'=>e = .returned (.int .i64 0)∧JQ W jb db (V'.j S') w':=by
 obtain⟨own,h⟩:=h
 obtain⟨blk,hi⟩:=hk.2
 refine((h.more hg).cp (hv.mono fun k hk=>Or.inr hk) hbb (by omega) (by show S.d.late.length+600<1000000;rw[hi.late];show 0+600<1000000;omega) (cp_asks ⟨hi,hj,ht⟩ hx hb)).mono ?_
 rw[hr]
 rintro e w' ⟨rfl,h1,-⟩
 exact⟨rfl,_,h1⟩
theorem jopen_fresh {n:Int} {W w1:World} {db:Nat} (hn:0≤n∧n≤4096) (hg:W.grownBy w1 none) (hd:∀own:Nat→Prop,(∀k,own k→k<W.heap.size)→DRep own w1 db (Dk.new n)) :
  Calls Tryz.prog 49 #[.pointer (some ⟨db,0,none⟩)] w1 fun e w'=>∃jb S,e = .returned (.tuple #[.pointer (some ⟨jb,0,none⟩),.int .i64 0])∧JR W (fun k=>k<W.heap.size) jb db (V0.j S) w'∧KJ S n.toNat []∧S.next=1∧Steady S.d:=by
 have h:DR W (fun k=>k<W.heap.size) db (Dk.new n) w1:=⟨hd _ fun k hk=>hk,fun k hk=>hk,hg⟩
 have hnn:(Dk.new n).n=n.toNat:=by show(min 4096 (max 0 n)).toNat=_;omega
 have gd:Good crcB (fun i=>scrub crcB (bk (Dk.new n).now i)) (Dk.new n).n [] (fun _=>[]) 1:=good_new _ fun i _=>by show scrub crcB zeroB=_;exact scrub_zero
 refine(h.open_ (V:=V0) (steady_new n) rfl (fun i _=>rfl) (by rw[hnn];omega) (by decide) gd rfl).mono ?_
 rintro e w' ⟨jb,S,al,blk,rfl,h1,h2,h3,h4,h5,-,h6,h7⟩
 obtain rfl:=h7 (by simp)
 rw[hnn] at h6
 exact⟨jb,S,rfl,h1,⟨h6,blk,h2.inv⟩,by have:=h6.n1;omega,h3⟩
theorem JQ.reopen (h:JQ W jb db (V.j S) w) (hk:KJ S N all) (hj:jv all V0=some V) (ht:∀q∈all,V.at_≤q.1) (hx:S.next≤1000) (hN:N≤4096):Calls Tryz.prog 49 #[.pointer (some ⟨db,0,none⟩)] w fun e w'=>∃jb2 own S2,e = .returned (.tuple #[.pointer (some ⟨jb2,0,none⟩),.int .i64 0])∧JR W own jb2 db (V.j S2) w'∧freeN S2.taken=N-(all.map fun q=>partsN q.2.length).sum:=by
 obtain⟨own,h⟩:=h
 obtain⟨blk,hi⟩:=hk.2
 have hn:=hk.1.n
 have g:Good crcB (fun i=>scrub crcB (bk S.d.now i)) S.d.n all blk S.next:=hi.good.same fun i hi2=>scrub_clean (hi.good.clean i hi2)
 refine(h.dr.open_ hk.1.sd hi.late hi.st (by show S.d.n≤_;omega) hx g hj).mono ?_
 rintro e w' ⟨jb2,S2,al,blk2,rfl,h1,h2,-,-,-,-,h6,h7⟩
 obtain rfl:=h7 ht
 have h6:JSt S2 N:=by
  have e:(V.j S).S.d.n=N:=hn
  rw[e] at h6
  exact h6
 have:=kj_free ⟨h6,blk2,h2.inv⟩
 exact⟨jb2,own,S2,rfl,h1,by omega⟩
end
set_option maxRecDepth 100000 in
set_option maxHeartbeats 8000000 in
theorem works21_any (W:World):Calls Tryz.prog 48 #[] W fun e w'=>e = .returned (.bool true)∧W.grownBy w' none:=by
 have HN:=Lib.hid (dnew 9 W)
 have hcv:=fun (w:World) (C:Array Value) (n c:Nat)=>Lib.run_convert_bytes_const (P:=Tryz.prog) w 32 5 C n c Tryz.underlying32 Tryz.underlying5
 go_enter Tryz.func48,Tryz.ntmps48
 go_upto_region 3 with (first
  | (go_at_call 19;refine HN.out.mono ?_;rintro e w1 ⟨db,rfl,hg1,-,hd1⟩;have HOP:=Lib.hid (jopen_fresh (W:=W) (n:=9) (by decide) hg1 hd1);clear hg1 hd1)
  | (go_at_call 49;refine HOP.out.mono ?_;rintro e w2 ⟨jb,S0,rfl,hj,hk,hn,hs⟩;have HJ:=Lib.hid (show JQ W jb db (V0.j S0) w2 from ⟨_,hj⟩);clear hj HOP))
 have p1:partsN 2=1:=rfl
 obtain⟨S1,e1,k1,n1⟩:=japp_room (V:=V0) (b:=[97]) hk (by omega) (by decide) (by decide)
 have n1:S1.next=2:=by omega
 rw[hn] at k1
 obtain⟨S2,e2,k2,n2⟩:=japp_room (V:=⟨0,[],[[97]]⟩) (b:=[98]) k1 (by omega) (by decide) (by decide)
 have n2:S2.next=3:=by omega
 rw[n1] at k2
 obtain⟨S3,e3,k3,n3⟩:=jcp_room (V:=⟨0,[],[[97],[98]]⟩) (b:=[99]) k2 (by omega) (by decide) (by decide)
 have n3:S3.next=4:=by omega
 rw[n2] at k3 e3
 obtain⟨S4,e4,k4,n4⟩:=japp_room (V:=⟨3,[99],[]⟩) (b:=[100]) k3 (by omega) (by decide) (by decide)
 rw[n3] at k4
 have n4:S4.next=5:=by omega
 have hst4:=k4.1.sd
 have HA1:Hid (∀w w1 v,JQ W jb db (V0.j S0) w→w.grownBy w1 none→RowP (fun k=>w.heap.size≤k∧k<w1.heap.size) w1 v (bytesV [97])→Calls Tryz.prog 50 #[.pointer (some ⟨jb,0,none⟩),v] w1 fun e w'=>e = .returned (.int .i64 0)∧JQ W jb db (JV.j ⟨0,[],[[97]]⟩ S1) w'):=Lib.hid fun w w1 v h hg hv=>h.app hk (by omega) (by decide) (by intro b hb;simp at hb;omega) (by decide) e1 hg hv
 have HA2:Hid (∀w w1 v,JQ W jb db (JV.j ⟨0,[],[[97]]⟩ S1) w→w.grownBy w1 none→RowP (fun k=>w.heap.size≤k∧k<w1.heap.size) w1 v (bytesV [98])→Calls Tryz.prog 50 #[.pointer (some ⟨jb,0,none⟩),v] w1 fun e w'=>e = .returned (.int .i64 0)∧JQ W jb db (JV.j ⟨0,[],[[97],[98]]⟩ S2) w'):=Lib.hid fun w w1 v h hg hv=>h.app k1 (by omega) (by decide) (by intro b hb;simp at hb;omega) (by decide) e2 hg hv
 have HA3:Hid (∀w w1 v,JQ W jb db (JV.j ⟨0,[],[[97],[98]]⟩ S2) w→w.grownBy w1 none→RowP (fun k=>w.heap.size≤k∧k<w1.heap.size) w1 v (bytesV [99])→Calls Tryz.prog 53 #[.pointer (some ⟨jb,0,none⟩),v] w1 fun e w'=>e = .returned (.int .i64 0)∧JQ W jb db (JV.j ⟨3,[99],[]⟩ S3) w'):=Lib.hid fun w w1 v h hg hv=>h.cp k2 rfl (by intro q hq;simp at hq;rcases hq with rfl|rfl <;> decide) (by omega) (by decide) (by intro b hb;simp at hb;omega) e3 hg hv
 have HA4:Hid (∀w w1 v,JQ W jb db (JV.j ⟨3,[99],[]⟩ S3) w→w.grownBy w1 none→RowP (fun k=>w.heap.size≤k∧k<w1.heap.size) w1 v (bytesV [100])→Calls Tryz.prog 50 #[.pointer (some ⟨jb,0,none⟩),v] w1 fun e w'=>e = .returned (.int .i64 0)∧JQ W jb db (JV.j ⟨3,[99],[[100]]⟩ S4) w'):=Lib.hid fun w w1 v h hg hv=>h.app k3 (by omega) (by decide) (by intro b hb;simp at hb;omega) (by decide) e4 hg hv
 have HK4:=Lib.hid k4
 clear hk hn hs k1 k2 k3 k4 e1 e2 e3 e4 n1 n2 n3 p1
 go_upto_region 5 with (first
  | (go_at_call 50;refine(HA4.out _ _ _ HJ3.out (World.grownBy_alloc _ _ none) (rowP_alloc2 (b:=[100]) (cap:=1) _ (by decide) (by decide) _ (Nat.le_refl _))).mono ?_;rintro e w6 ⟨rfl,hj⟩;have HJ4:=Lib.hid hj;clear hj)
  | (go_at_call 53;refine(HA3.out _ _ _ HJ2.out (World.grownBy_alloc _ _ none) (rowP_alloc2 (b:=[99]) (cap:=1) _ (by decide) (by decide) _ (Nat.le_refl _))).mono ?_;rintro e w5 ⟨rfl,hj⟩;have HJ3:=Lib.hid hj;clear hj)
  | (go_at_call 50;refine(HA2.out _ _ _ HJ1.out (World.grownBy_alloc _ _ none) (rowP_alloc2 (b:=[98]) (cap:=1) _ (by decide) (by decide) _ (Nat.le_refl _))).mono ?_;rintro e w4 ⟨rfl,hj⟩;have HJ2:=Lib.hid hj;clear hj)
  | (go_at_call 50;refine(HA1.out _ _ _ HJ.out (World.grownBy_alloc _ _ none) (rowP_alloc2 (b:=[97]) (cap:=1) _ (by decide) (by decide) _ (Nat.le_refl _))).mono ?_;rintro e w3 ⟨rfl,hj⟩;have HJ1:=Lib.hid hj;clear hj))
 have HRO:=Lib.hid (HJ4.out.reopen HK4.out rfl (by intro q hq;simp at hq;rcases hq with rfl|rfl <;> decide) (by omega) (by decide))
 have hz1:ofB [99]=⟨#[99]⟩:=rfl
 have hz2:ofB [100]=⟨#[100]⟩:=rfl
 clear HJ1 HJ2 HJ3 HA1 HA2 HA3 HA4 hst4 n4
 go_upto_region 8 with (first
  | (go_at_call 49;refine HRO.out.mono ?_;rintro e w7 ⟨jb2,own,S5,rfl,hj,hf5⟩;have HJ5:=Lib.hid hj;have HF5:=Lib.hid hf5;clear hj hf5)
  | (go_at_call 54;refine(HJ5.out.state1 (by decide) (by decide)).mono ?_;rintro e w8 ⟨ps,cs,rfl,hg8,hr8⟩;have HG8:=Lib.hid hg8;have HR8:=Lib.hid hr8;clear hg8 hr8)
  | (go_at_call 52;refine((HJ5.out.grown HG8.out).ents1 (by intro b hb;simp at hb;subst hb;decide) (by decide)).mono ?_;rintro e w9 ⟨pe,ce,rfl,hg9,he9⟩;have HG9:=Lib.hid hg9;have HE9:=Lib.hid he9;clear hg9 he9))
 have hcs:(convert 32 9 (.slice ps 1 cs)).run Tryz.prog w9 = .ok (.string (ofB [99])) w9:=conv_raw (HR8.out.grown HG9.out (by simp))
 obtain⟨ge,qe,de,rfl,c9,r9⟩:=HE9.out 0 (by decide)
 have hce:(convert 32 9 (.slice qe 1 de)).run Tryz.prog w9 = .ok (.string (ofB [100])) w9:=conv_raw r9
 have c9:w9.cell? ⟨ge,0,none⟩=some (.slice qe 1 de):=c9
 have HFR:=Lib.hid (((HJ5.out.grown HG8.out).grown HG9.out).free)
 have hf7:freeN S5.taken=7:=HF5.out
 have HFR7:Hid (Calls Tryz.prog 51 #[.pointer (some ⟨jb2,0,none⟩)] w9 fun e w'=>e = .returned (.int .i64 7)∧w'=w9):=Lib.hid (HFR.out.mono (by
  rintro e w' ⟨rfl,h⟩
  refine⟨?_,h⟩
  show Ending.returned (.int .i64 (freeN S5.taken:Int))=_
  rw[hf7]
  rfl))
 rw[hz1] at hcs
 rw[hz2] at hce
 have HG:=Lib.hid ((HJ5.out.grown HG8.out).grown HG9.out).gr
 clear HFR HE9 HR8 r9 hf7 hz1 hz2
 go_wp2_with (go_at_call 51;refine HFR7.out.mono ?_;rintro e w10 ⟨rfl,h5⟩;obtain rfl:w9=w10:=h5.symm)
 go_ret
 exact⟨rfl,HG.out⟩
end Go.Proofs.YtbcbhlfjgobejaaGreat
namespace Go.Sf
open Go.ChangeShapes Go.WideShapes Go.ChangeAt Go.RowKit
variable {P : Program} {H : Type} {enc : TypeId × Value → H}
theorem post_of_grown {f:Func} {s:ChangeSpec} {apart fresh handsOn again:Bool} {W W':World} {args:Array Value} {v:Value} {ds gs:List (DataW H)} {before pa pv:List MemPlace}
  (hW:DataW.Whole enc P f.params.toList s.vars apart W args.toList ds gs before)
  (hres:∀(b:Nat) (sp:Nat→Bool) (hd:Bool),DataW.TrodAll enc P W' b sp hd f.resultTypes.toList (v.resultList f.resultTypes.size) (s.fn H (ds++gs)).results [])
  (hargs:∀sp:Nat→Bool,(∀p∈before,sp p.block=true)→DataW.TrodAll enc P W' 0 sp true f.params.toList args.toList (s.fn H (ds++gs)).args pa)
  (hvars:∀sp:Nat→Bool,(∀p∈before,sp p.block=true)→DataW.TrodVars enc P W' sp s.vars (s.fn H (ds++gs)).vars pv)
  (hps:before=pa++pv) (hg:W.grownBy W' none)
  (hok:∀(j:Nat) (t:TypeId) (r:Value),f.resultTypes[j]? = some t→(v.resultList f.resultTypes.size)[j]? = some r→Value.okWide P W' .any 0 t r) :
  s.post enc P f apart fresh handsOn again W args v W':=by
 have hold:∀p∈before,(fun b=>decide (b<W.heap.size)) p.block=true:=fun p hp=>by simpa using hW.lt p hp
 have hlt:∀p∈before,p.block<W.heap.size:=fun p hp=>hW.lt p hp
 refine⟨ds,gs,before,[],pa,pv,hW,hres _ _ _,hargs _ hold,hvars _ hold,⟨hg.os,hg.output,fun i hi=>by rw[hg.block i hi (by simp)];exact(World.keptBut_refl W (fun p=>p∈before∧(p∈[]∨p∈pa∨p∈pv))).2.2 i hi⟩,fun _=>?_⟩
 obtain⟨_,_,_,_,_,hz,hn⟩:=hW
 refine⟨hok,_,_,([]++pa)++pv,⟨[]++pa,pv,trodAll_append (hargs _ (fun _ _=>rfl)) (hres _ _ _),hvars _ (fun _ _=>rfl),rfl,?_,?_⟩,?_⟩
 ·intro b off hp
  have hp':MemPlace.cell b off∈before:=by rw[hps];simpa using hp
  rw[World.frozen?_of_block (a:=⟨b,off,none⟩) (hg.block b (hlt _ hp') (by simp))]
  exact hz b off hp'
 ·intro ha
  have:=hn ha
  rw[hps] at this
  simpa using this
 ·intro p hp _
  rw[hps]
  simpa using hp
end Go.Sf
