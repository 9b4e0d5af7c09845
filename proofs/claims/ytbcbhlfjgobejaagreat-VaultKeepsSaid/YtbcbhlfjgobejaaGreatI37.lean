/- A journal made since a world: its calls. Conditions: none, or as the theorems say. -/
import Derived.Test.YtbcbhlfjgobejaaGreatI36
import Derived.Test.YtbcbhlfjgobejaaGreatI27
set_option linter.unusedSimpArgs false
set_option linter.unusedVariables false
namespace Go.Proofs.YtbcbhlfjgobejaaGreat
set_option maxHeartbeats 200000000
open Go.RowKit Go.Sf
structure DG (d:Dk) (n:Nat) (P:List (Int × List Int)→Prop) (next:Int):Prop where
 nn:d.n=n
 late:d.late.length≤5000
 good:∀fates,∃al blk,P al∧vf ya (fun i=>scrub ya (bk (qo fates 0 d.late d.st) i)) n al blk next
theorem DG.mono {d:Dk} {n:Nat} {P Q:List (Int × List Int)→Prop} {next m:Int} (h:DG d n P next) (hp:∀al,P al→Q al) (hm:next≤m):DG d n Q m:=
 ⟨h.nn,h.late,fun f=>by
  obtain⟨al,blk,h1,h2⟩:=h.good f
  exact⟨al,blk,hp al h1,h2.up hm⟩⟩
theorem KBad.to {d:Dk} {n:Nat} {now all:List (Int × List Int)} {next:Int} (h:KBad d n now all next):DG d n (fun al=>al=all∨al=now) next:=
 ⟨h.nn,by have:=h.late;omega,h.dg⟩
theorem ql.to {S:Sto} {all:List (Int × List Int)} {blk:Int→List Nat} (h:ql S all blk):DG S.d S.d.n (fun al=>al=all) S.next:=
 ⟨rfl,by rw[h.late];exact Nat.zero_le _,fun f=>⟨all,blk,rfl,by
  rw[h.late];refine h.good.same fun i hi=>?_
  show scrub ya (bk S.d.st i)=_
  rw[h.st i hi]
  exact qt (h.good.clean i hi)⟩⟩
theorem DG.crashed {d:Dk} {n:Nat} {P:List (Int × List Int)→Prop} {next:Int} (h:DG d n P next):DG d.crashed n P next:=⟨h.nn,h.late,h.good⟩
theorem DG.on {d:Dk} {n:Nat} {P:List (Int × List Int)→Prop} {next:Int} (h:DG d n P next) (ho:d.off=true) (f:List Int):yi (d.on f)∧(d.on f).late = []∧(d.on f).n=n∧(∀i,bk (d.on f).st i=bk (d.on f).now i)∧∃al blk,P al∧vf ya (fun i=>scrub ya (bk (d.on f).now i)) n al blk next:=by
 obtain⟨a,b,c,e,g⟩:=zek ho f;obtain⟨al,blk,h1,h2⟩:=h.good f
 exact⟨a,b,c.trans h.nn,fun i=>by rw[e,g],al,blk,h1,by rw[e];exact h2⟩
theorem zib {x:List Int} (h:scrub ya x=zz) (c:Nat):scrub ya (uu c zz x)=zz:=by
 cases c with
 | zero=>
  have:uu 0 zz x=x:=by unfold uu;simp
  rw[this,h]
 | succ c=>
  have hz:zz=0 :: List.replicate 255 0:=rfl;have hn:saidP ya (uu (c+1) zz x)=none:=qs (by
   unfold uu;rw[hz,List.take_succ_cons];simp only[List.cons_append,List.head?_cons]
   decide)
  unfold scrub;rw[hn]
  rfl
structure zd5 (d:Dk) (n:Nat) (r:Dk):Prop where
 ex:∃is:List Nat,is.Nodup∧(∀i∈is,i<n∧scrub ya (bk d.now i)=zz)∧r.late=qz (is.map fun i=>(i,zz))
 st:r.st=d.st
 nn:r.n=d.n
theorem zd5.up {d r:Dk} {n:Nat} (h:zd5 d n r):zd5 d (n+1) r:=
 ⟨by
  obtain⟨is,h1,h2,h3⟩:=h.ex
  exact⟨is,h1,fun i hi=>⟨by have:=(h2 i hi).1;omega,(h2 i hi).2⟩,h3⟩,h.st,h.nn⟩
theorem zfz {d:Dk} (hoff:d.off=false) (hl:d.late = []):∀n,n≤d.n→zd5 d n (opnD d n).1
 | 0,_=>⟨⟨[],List.nodup_nil,by simp,hl⟩,rfl,rfl⟩
 | n+1,hn=>by
  have ih:=zfz hoff hl n (by omega)
  by_cases h0:(opnD d n).2.1=0
  ·by_cases hc:(saidP ya (bk d.now n)).isSome=true∨bk d.now n=zz
   ·rw[jm h0 hc]
    exact ih.up
   ·have hc1:(saidP ya (bk d.now n)).isSome=false:=by
     cases e:(saidP ya (bk d.now n)).isSome
     ·rfl
     ·exact absurd (Or.inl e) hc
    have ok:=Vr hoff n (by omega) h0
    rw[Yk h0 hc1 (fun e=>hc (Or.inr e))]
    simp only;have hz:scrub ya (bk d.now n)=zz:=by
     unfold scrub;rw[hc1]
     rfl
    have hw:((opnD d n).1.written n []).late=(opnD d n).1.late ++ [((n:Int),zz)]∧((opnD d n).1.written n []).st=(opnD d n).1.st∧((opnD d n).1.written n []).n=(opnD d n).1.n:=by
     rcases Qe ok.off (i:=n) (by rw[ok.nn];omega) (x:=[]) (by simp) with ⟨_,_,a,_,b,c⟩|⟨_,_,a,b,c⟩
     ·exact⟨a,b,c⟩
     ·exact⟨a,b,c⟩
    obtain⟨w1,w2,w3⟩:=hw;obtain⟨is,h1,h2,h3⟩:=ih.ex;refine⟨⟨is ++ [n],?_,fun i hi=>?_,?_⟩,w2.trans ih.st,w3.trans ih.nn⟩
    ·refine List.nodup_append.2 ⟨h1,by simp,fun a ha b hb e=>?_⟩
     have:=(h2 a ha).1;simp at hb;omega
    ·rcases List.mem_append.1 hi with e|e
     ·exact⟨by have:=(h2 i e).1;omega,(h2 i e).2⟩
     ·rw[List.mem_singleton.1 e]
      exact⟨by omega,hz⟩
    ·rw[w1,h3]
     simp[qz]
  ·rw[Uf h0]
   exact ih.up
theorem zd5.mix {d r:Dk} {n:Nat} (h:zd5 d n r) (hst:∀i,i<d.n→bk d.st i=bk d.now i) (f:List Int) {i:Nat} (hi:i<d.n):scrub ya (bk (qo f 0 r.late r.st) i)=scrub ya (bk d.now i):=by
 obtain⟨is,h1,h2,h3⟩:=h.ex;rw[h3,h.st]
 by_cases hm:i∈is
 ·obtain⟨t,ht⟩:=List.getElem?_of_mem hm
  have hnd:((is.map fun i=>(i,zz)).map (·.1)).Nodup:=by
   rw[List.map_map];have e:((fun x:Nat × List Int=>x.1) ∘ fun i=>(i,zz))=id:=rfl
   rw[e,List.map_id]
   exact h1
  have:=Qp f 0 (is.map fun i=>(i,zz)) d.st hnd t (i,zz) (by rw[List.getElem?_map,ht];rfl)
  simp only at this;rw[this,hst i hi,(h2 i hm).2]
  exact zib (h2 i hm).2 _
 ·rw[Yc f i 0 _ _ (fun w hw e=>by
   obtain⟨j,hj,rfl⟩:=List.mem_map.1 hw
   exact hm (e ▸ hj)),hst i hi]
theorem zd5.few {d r:Dk} {n:Nat} (h:zd5 d n r) (hn:n≤4096):r.late.length≤5000:=by
 obtain⟨is,h1,h2,h3⟩:=h.ex;rw[h3];have hs:=Uw n is h1 fun i hi=>(h2 i hi).1
 simp[qz];omega
theorem zem {d:Dk} (hoff:d.off=false) (hl:d.late = []) (hst:∀i,i<d.n→bk d.st i=bk d.now i) (hok:d.opened.2=0) :
  d.opened.1.off=false∧d.opened.1.n=d.n∧d.opened.1.late = []∧(∀i,i<d.n→bk d.opened.1.st i=bk d.opened.1.now i)∧∀i,i<d.n→bk d.opened.1.now i=scrub ya (bk d.now i):=by
 by_cases h0:(opnD d d.n).2.1=0
 ·have ok:=Vr hoff d.n (Nat.le_refl _) h0
  unfold Dk.opened at hok ⊢;rw[if_neg (by simp[h0])] at hok ⊢
  cases hf:(opnD d d.n).2.2
  ·have e:=zaa d.n h0 hf
   simp only[Bool.false_eq_true,if_false];have hm:=ok.met;rw[e] at hm ⊢
   exact⟨hoff,rfl,hl,hst,hm⟩
  ·rw[hf] at hok
   simp only[if_true] at hok ⊢
   rcases Xj ok.off with ⟨_,s2,s3,s4,s5,s6⟩|⟨a,_⟩
   ·exact⟨s2,s6.trans ok.nn,s3,fun i hi=>by rw[s4,s5],fun i hi=>by rw[s4];exact ok.met i hi⟩
   ·rw[hok] at a;cases a
 ·unfold Dk.opened at hok
  rw[if_pos h0] at hok
  exact absurd hok h0
theorem zh0 {d:Dk} (hoff:d.off=false) (hl:d.late = []) (hst:∀i,i<d.n→bk d.st i=bk d.now i) (hbad:d.opened.2≠0):zd5 d d.n d.opened.1:=by
 have hL:=zfz hoff hl d.n (Nat.le_refl _);unfold Dk.opened at hbad ⊢
 by_cases h0:(opnD d d.n).2.1=0
 ·have ok:=Vr hoff d.n (Nat.le_refl _) h0
  rw[if_neg (by simp[h0])] at hbad ⊢
  cases hf:(opnD d d.n).2.2
  ·rw[hf] at hbad
   simp at hbad
  ·rw[hf] at hbad
   simp only[if_true] at hbad ⊢
   rcases Xj ok.off with ⟨a,_⟩|⟨_,s2,s3,s5,s6⟩
   ·exact absurd a hbad
   ·exact⟨by rw[s3];exact hL.ex,s5.trans hL.st,s6.trans hL.nn⟩
 ·rw[if_pos h0]
  exact hL
theorem kopenF {d:Dk} (hoff:d.off=false) (hl:d.late = []) (hst:∀i,i<d.n→bk d.st i=bk d.now i) (hok:d.opened.2=0) {all:List (Int × List Int)} {blk:Int→List Nat} {next:Int} (g:vf ya (fun i=>scrub ya (bk d.now i)) d.n all blk next) {ks:List zx} (hk:Yg d ks):ql (openS d ks) all blk∧(openS d ks).next≤next∧(openS d ks).d=d.opened.1∧d.opened.1.n=d.n:=by
 obtain⟨o1,o2,o3,o4,o5⟩:=zem hoff hl hst hok;have hs:∀i,i<d.n→saidP ya (bk d.now i)=saidP ya ((fun i=>scrub ya (bk d.now i)) i):=fun i _=>(zcc _).symm
 have hr:=zjg hk g hs;have e:=Uj (C:=ya) (N:=d.n) (f:=fun i=>scrub ya (bk d.now i)) (g:=bk d.now) hs d.n (Nat.le_refl _)
 obtain⟨g1,g2⟩:=g.opened;rw[←e] at g1 g2;obtain⟨p1,p2,p3⟩:=Ug (scanN ya (bk d.now) d.n).rows ks ⟨d.opened.1,[],List.replicate d.n false,(scanN ya (bk d.now) d.n).next,0⟩;obtain⟨t1,t2⟩:=Qa (scanN ya (bk d.now) d.n).rows ks ⟨d.opened.1,[],List.replicate d.n false,(scanN ya (bk d.now) d.n).next,0⟩ (by simp)
 have t2':(openS d ks).taken.length=d.n:=t2.trans List.length_replicate;have p1':(openS d ks).d=d.opened.1:=p1;have p2':(openS d ks).next=(scanN ya (bk d.now) d.n).next:=p2;refine⟨⟨?_,?_,?_,?_,p3,hr,?_,?_⟩,?_,p1',o2⟩
 ·rw[p1',p2',o2]
  exact g1.same fun i hi=>o5 i hi
 ·rw[p1',o2];exact o4
 ·rw[p1'];exact o3
 ·rw[p1'];exact o1
 ·rw[t2',p1',o2]
 ·intro q hq i hi
  have hm:(q.1,(q.2,blk q.1))∈(openS d ks).recs:=by rw[hr];exact List.mem_map.2 ⟨q,hq,rfl⟩
  exact t1 _ hm i hi (by rw[show(vt _ ks _).taken.length=d.n from t2'];exact g.blt q hq i hi)
 ·rw[p2'];exact g2
theorem zkc {d:Dk} (hoff:d.off=false) (hl:d.late = []) (hst:∀i,i<d.n→bk d.st i=bk d.now i) (hn:d.n≤4096) (hbad:d.opened.2≠0) {all:List (Int × List Int)} {blk:Int→List Nat} {next:Int} (g:vf ya (fun i=>scrub ya (bk d.now i)) d.n all blk next):DG d.opened.1 d.n (fun al=>al=all) next:=by
 have h:=zh0 hoff hl hst hbad
 exact⟨h.nn,h.few hn,fun f=>⟨all,blk,rfl,g.same fun i hi=>h.mix hst f hi⟩⟩
theorem zel {d:Dk} (h:∀i,i<d.n→bk d.now i=zz∨∃p,saidP ya (bk d.now i)=some p):d.opened=(d,0):=by
 have hc:∀n,n≤d.n→opnD d n=(d,0,false):=fun n=>by
  induction n with
  | zero=>intro _;rfl
  | succ n ih=>
   intro hn;have e:=ih (by omega)
   have h1:(opnD d n).2.1=0:=by rw[e]
   rw[jm h1 (by
    rcases h n (by omega) with h2|⟨p,h2⟩
    ·exact Or.inr h2
    ·exact Or.inl (by rw[h2];rfl)),e]
 unfold Dk.opened;rw[hc d.n (Nat.le_refl _)];simp
structure JV where
 at_:Int
 state:List Int
 entries:List (List Int)
def V0:JV:=⟨0,[],[]⟩
theorem zca:∀(l:List Int) (a b:Int),l.Pairwise (·< ·)→(∀x∈l,a≤x∧x<b)→(l.length:Int)≤max 0 (b-a)
 | [],a,b,_,_=>by simp;omega
 | x :: t,a,b,h,hm=>by
  rw[List.pairwise_cons] at h;have hx:=hm x (List.mem_cons_self ..);have:=zca t (x+1) b h.2 fun y hy=>⟨by have:=h.1 y hy;omega,(hm y (List.mem_cons_of_mem _ hy)).2⟩
  simp only[List.length_cons];omega
theorem vf.few {C:List Int→Nat} {f:Nat→List Int} {N:Nat} {all:List (Int × List Int)} {blk:Int→List Nat} {next:Int} (g:vf C f N all blk next):(all.length:Int)<next:=by
 have h:=zca (all.map (·.1)) 1 next g.srt fun x hx=>by
  obtain⟨q,hq,rfl⟩:=List.mem_map.1 hx
  exact g.key hq
 have:=g.pos;rw[List.length_map] at h;omega
section
variable {S : Sto} {V : JV} {all : List (Int × List Int)} {blk : Int → List Nat} {b : List Int}
theorem ql.keysE (h:ql S all blk):S.keys=all.map (·.1):=by
 unfold Sto.keys;rw[h.recs,List.map_map]
 rfl
theorem zl6 (h:ql S all blk) (hn:S.next≤4611686018427387904):∀r∈S.recs,1≤r.1∧r.1≤4611686018427387904:=fun r hr=>by
 rw[h.recs] at hr;obtain⟨q,hq,rfl⟩:=List.mem_map.1 hr;have:=h.good.key hq;simp only;omega
end
noncomputable def lfE (q:Int × List Int):Option (Int × Int):=match vsaid q.2 with
 | some (.inl n)=>some (n,q.1)
 | _=>none
noncomputable def shE (i:VID) (q:Int × List Int):Option (ShM × Int):=match vsaid q.2 with
 | some (.inr s)=>if idS s=i then some (s,q.1) else none
 | _=>none
theorem lfE_L {q:Int × List Int} {n:Int} (h:vsaid q.2=some (.inl n)):lfE q=some (n,q.1):=by unfold lfE;rw[h]
theorem lfE_S {q:Int × List Int} {s:ShM} (h:vsaid q.2=some (.inr s)):lfE q=none:=by unfold lfE;rw[h]
theorem shE_L {q:Int × List Int} {n:Int} (i:VID) (h:vsaid q.2=some (.inl n)):shE i q=none:=by unfold shE;rw[h]
theorem shE_S {q:Int × List Int} {s:ShM} (h:vsaid q.2=some (.inr s)):shE (idS s) q=some (s,q.1):=by unfold shE;rw[h];exact if_pos rfl
theorem shE_N {q:Int × List Int} {s:ShM} {i:VID} (h:vsaid q.2=some (.inr s)) (hi:idS s≠i):shE i q=none:=by unfold shE;rw[h];exact if_neg hi
theorem Uy {q p} (h:lfE q=some p):vsaid q.2=some (.inl p.1)∧p.2=q.1:=by
 unfold lfE at h
 split at h
 ·rename_i n hn
  injection h with h
  subst h
  exact⟨hn,rfl⟩
 ·cases h
theorem Yz {i:VID} {q p} (h:shE i q=some p):vsaid q.2=some (.inr p.1)∧p.2=q.1∧idS p.1=i:=by
 unfold shE at h
 split at h
 ·rename_i s hs
  split at h
  ·rename_i e
   injection h with h
   subst h
   exact⟨hs,rfl,e⟩
  ·cases h
 ·cases h
theorem Js {α β:Type} (f:α→Option β) (p:α→Bool):∀l:List α,(∀q∈l,∀b,f q=some b→l.findSome? f=some b→p q=true)→(l.filter p).findSome? f=l.findSome? f
 | [],_=>rfl
 | q :: t,h=>by
  cases hf:f q with
  | none=>
   have ih:=Js f p t fun r hr b hb hs=>h r (List.mem_cons_of_mem _ hr) b hb (by rw[List.findSome?_cons,hf];exact hs)
   rw[List.findSome?_cons,hf]
   by_cases hp:p q=true
   ·rw[List.filter_cons_of_pos hp,List.findSome?_cons,hf];exact ih
   ·rw[List.filter_cons_of_neg hp];exact ih
  | some b=>
   have hp:=h q (List.mem_cons_self ..) b hf (by rw[List.findSome?_cons,hf])
   rw[List.filter_cons_of_pos hp,List.findSome?_cons,List.findSome?_cons,hf]
theorem zhs {α β:Type} {f:α→Option β} {b:β}:∀{l:List α},l.findSome? f=some b→∃q∈l,f q=some b
 | [],h=>by cases h
 | q :: t,h=>by
  rw[List.findSome?_cons] at h
  cases hf:f q with
  | none=>
   rw[hf] at h;obtain⟨r,hr,e⟩:=zhs h
   exact⟨r,List.mem_cons_of_mem _ hr,e⟩
  | some c=>
   rw[hf] at h
   exact⟨q,List.mem_cons_self ..,by rw[hf];exact h⟩
noncomputable def lifeOf (l:List (Int × List Int)):Int × Int:=(l.reverse.findSome? lfE).getD (0,0)
noncomputable def shOf (l:List (Int × List Int)) (i:VID):Option (ShM × Int):=l.reverse.findSome? (shE i)
theorem Zf (l:List (Int × List Int)) (q:Int × List Int):lifeOf (l ++ [q])=(match lfE q with|some p=>p|none=>lifeOf l):=by
 unfold lifeOf;rw[List.reverse_append]
 show(List.findSome? lfE (q :: l.reverse)).getD (0,0)=_
 rw[List.findSome?_cons]
 cases lfE q <;> rfl
theorem Zo (l:List (Int × List Int)) (q:Int × List Int) (i:VID):shOf (l ++ [q]) i=(match shE i q with|some p=>some p|none=>shOf l i):=by
 unfold shOf;rw[List.reverse_append]
 show List.findSome? (shE i) (q :: l.reverse)=_
 rw[List.findSome?_cons]
 cases shE i q <;> rfl
theorem Uz (l:List (Int × List Int)):lifeOf l=(0,0)∨∃q∈l,lfE q=some (lifeOf l):=by
 unfold lifeOf
 cases h:l.reverse.findSome? lfE with
 | none=>exact Or.inl rfl
 | some p=>
  obtain⟨q,hq,e⟩:=zhs h
  exact Or.inr ⟨q,List.mem_reverse.1 hq,e⟩
theorem zgo {l:List (Int × List Int)} {i:VID} {p:ShM × Int} (h:shOf l i=some p):∃q∈l,shE i q=some p:=by
 obtain⟨q,hq,e⟩:=zhs h
 exact⟨q,List.mem_reverse.1 hq,e⟩
theorem Ut {l:List (Int × List Int)} (p:Int × List Int→Bool) (h:∀q∈l,p q=false→q.1≠(lifeOf l).2):lifeOf (l.filter p)=lifeOf l:=by
 unfold lifeOf;rw[←List.filter_reverse,Js lfE p];intro q hq b hb hs
 cases hp:p q
 ·exfalso
  refine h q (List.mem_reverse.1 hq) hp ?_;unfold lifeOf;rw[hs]
  exact(Uy hb).2.symm
 ·rfl
theorem zar {l:List (Int × List Int)} {i:VID} (p:Int × List Int→Bool) (h:∀q∈l,p q=false→∀s,shOf l i≠some (s,q.1)):shOf (l.filter p) i=shOf l i:=by
 unfold shOf;rw[←List.filter_reverse,Js (shE i) p];intro q hq b hb hs
 cases hp:p q
 ·exfalso
  refine h q (List.mem_reverse.1 hq) hp b.1 ?_;unfold shOf;rw[hs,←(Yz hb).2.1]
 ·rfl
def Cur (l:List (Int × List Int)) (k:Int):Prop:=(lifeOf l).2=k∨∃i s,shOf l i=some (s,k)
structure Ks (l:List (Int × List Int)):Prop where
 up:(l.map (·.1)).Pairwise (·< ·)
 pos:∀q∈l,1≤q.1
theorem Ks.uniq {l:List (Int × List Int)} (h:Ks l) {q r:Int × List Int} (hq:q∈l) (hr:r∈l) (e:q.1=r.1):q=r:=by
 have h1:=List.pairwise_map.1 h.up;obtain⟨i,hi,rfl⟩:=List.getElem_of_mem hq;obtain⟨j,hj,rfl⟩:=List.getElem_of_mem hr
 rcases Nat.lt_trichotomy i j with h2|h2|h2
 ·have:=List.pairwise_iff_getElem.1 h1 i j hi hj h2;omega
 ·subst h2;rfl
 ·have:=List.pairwise_iff_getElem.1 h1 j i hj hi h2;omega
theorem Ks.init {l:List (Int × List Int)} {q:Int × List Int} (h:Ks (l ++ [q])):Ks l∧(∀r∈l,r.1<q.1)∧1≤q.1:=by
 have h1:=h.up;rw[List.map_append,List.pairwise_append] at h1
 exact⟨⟨h1.1,fun r hr=>h.pos r (List.mem_append_left _ hr)⟩,fun r hr=>h1.2.2 r.1 (List.mem_map_of_mem hr) q.1 (by simp),h.pos q (by simp)⟩
section
variable {l : List (Int × List Int)} {q : Int × List Int} {k : Int} {i j : VID} {s s' : ShM}
theorem Ju (h:(lifeOf l).2≠0):∃q∈l,lfE q=some (lifeOf l)∧q.1=(lifeOf l).2:=by
 rcases Uz l with e|⟨q,hq,e⟩
 ·rw[e] at h;exact absurd rfl h
 ·exact⟨q,hq,e,(Uy e).2.symm⟩
theorem Zu (h:shOf l i=some (s,k)):∃q∈l,shE i q=some (s,k)∧q.1=k:=by
 obtain⟨q,hq,e⟩:=zgo h
 exact⟨q,hq,e,(Yz e).2.1.symm⟩
theorem Vp (hk:Ks l) (h:shOf l i=some (s,k)):(lifeOf l).2≠k:=fun e=>by
 obtain⟨q,hq,e1,e2⟩:=Zu h;have:=hk.pos q hq;obtain⟨r,hr,e3,e4⟩:=Ju (l:=l) (by omega)
 obtain rfl:=hk.uniq hq hr (by rw[e2,e4,e])
 have h1:=(Uy e3).1;rw[(Yz e1).1] at h1
 cases h1
theorem zic (hk:Ks l) (h:shOf l i=some (s,k)) (h':shOf l j=some (s',k)):i=j:=by
 obtain⟨q,hq,e1,e2⟩:=Zu h;obtain⟨r,hr,e3,e4⟩:=Zu h';obtain rfl:=hk.uniq hq hr (by rw[e2,e4])
 obtain⟨a1,-,a2⟩:=Yz e1;obtain⟨b1,-,b2⟩:=Yz e3;rw[a1] at b1
 injection b1 with b1
 injection b1 with b1
 rw[←a2,←b2,b1]
end
structure VF (S:Sto) (l:List (Int × List Int)) (V:Vlt) (o:List Int):Prop where
 st:V.S=S
 brk:V.broken=0
 life:(V.life,V.at_)=lifeOf l
 sh:∀i,zw V.sh i=shOf l i
 nd:(V.sh.map (·.1)).Nodup
 old:∀k,k∈o↔(∃q∈l,q.1=k)∧¬Cur l k
 ond:o.Nodup
theorem za9 {K V:Type} [DecidableEq K]:∀{m:List (K × V)} (k:K) (v:V),(m.map (·.1)).Nodup→((yj m k v).map (·.1)).Nodup
 | [],k,v,_=>by simp[yj]
 | p :: r,k,v,h=>by
  rw[List.map_cons,List.nodup_cons] at h;unfold yj
  split
  ·rename_i e
   subst e;rw[List.map_cons,List.nodup_cons]
   exact h
  ·rename_i e
   rw[List.map_cons,List.nodup_cons];refine⟨fun hm=>?_,za9 k v h.2⟩
   obtain⟨x,hx,e2⟩:=List.mem_map.1 hm
   rcases Jy hx with h3|h3
   ·exact h.1 (e2 ▸ List.mem_map_of_mem h3)
   ·rw[h3] at e2;exact e e2.symm
section
variable {S : Sto} {l : List (Int × List Int)} {q : Int × List Int} {V : Vlt} {o : List Int} {n : Int} {s : ShM}
theorem VF.znn (h:VF S l V o) (hk:Ks (l ++ [q])) (hs:vsaid q.2=some (.inl n)):VF S (l ++ [q]) (V.znn n q.1) (oldA o V):=by
 obtain⟨k1,k2,k3⟩:=hk.init;have el:lifeOf (l ++ [q])=(n,q.1):=by rw[Zf,lfE_L hs]
 have es:∀i,shOf (l ++ [q]) i=shOf l i:=fun i=>by rw[Zo,shE_L i hs]
 have ea:V.at_=(lifeOf l).2:=congrArg Prod.snd h.life;have hold:∀k,((∃r∈l ++ [q],r.1=k)∧¬Cur (l ++ [q]) k)↔((∃r∈l,r.1=k)∧¬∃i s,shOf l i=some (s,k)):=fun k=>by
  unfold Cur;rw[el];simp only[es]
  constructor
  ·rintro⟨⟨r,hr,rfl⟩,h2⟩
   rcases List.mem_append.1 hr with e|e
   ·exact⟨⟨r,e,rfl⟩,fun e2=>h2 (Or.inr e2)⟩
   ·rw[List.mem_singleton.1 e] at h2;exact absurd (Or.inl rfl) h2
  ·rintro⟨⟨r,hr,rfl⟩,h2⟩
   refine⟨⟨r,List.mem_append_left _ hr,rfl⟩,fun e=>?_⟩
   rcases e with e|e
   ·have:=k2 r hr;omega
   ·exact h2 e
 have hcur:∀k,k∈o↔((∃r∈l,r.1=k)∧¬∃i s,shOf l i=some (s,k))∧(lifeOf l).2≠k:=fun k=>by
  rw[h.old];unfold Cur
  exact⟨fun ⟨a,b⟩=>⟨⟨a,fun e=>b (Or.inr e)⟩,fun e=>b (Or.inl e)⟩,fun ⟨⟨a,b⟩,c⟩=>⟨a,fun e=>e.elim c b⟩⟩
 refine⟨h.st,h.brk,el.symm,fun i=>(h.sh i).trans (es i).symm,h.nd,fun k=>?_,?_⟩
 ·rw[hold]
  unfold oldA
  split
  ·rename_i h0
   rw[List.mem_append,hcur,List.mem_singleton];obtain⟨r,hr,e1,e2⟩:=Ju (l:=l) (by rw[←ea];omega)
   constructor
   ·rintro(⟨a,b⟩|e)
    ·exact a
    ·exact⟨⟨r,hr,by rw[e2,e,ea]⟩,fun ⟨i,s,e3⟩=>Vp k1 e3 (by rw[e,ea])⟩
   ·intro a
    by_cases e:k=V.at_
    ·exact Or.inr e
    ·exact Or.inl ⟨a,fun e2=>e (by rw[ea,e2])⟩
  ·rename_i h0
   rw[hcur];refine⟨fun a=>a.1,fun a=>⟨a,fun e=>?_⟩⟩
   obtain⟨r,hr,rfl⟩:=a.1;have:=k1.pos r hr;omega
 ·unfold oldA
  split
  ·refine List.nodup_append.2 ⟨h.ond,by simp,fun a ha b hb e=>?_⟩
   rw[List.mem_singleton] at hb
   exact((hcur a).1 ha).2 (by rw[e,hb,ea])
  ·exact h.ond
theorem VF.keep (h:VF S l V o) (hk:Ks (l ++ [q])) (hs:vsaid q.2=some (.inr s)):VF S (l ++ [q]) (V.keep (idS s) s q.1) (zei o V (idS s)):=by
 obtain⟨k1,k2,k3⟩:=hk.init;have el:lifeOf (l ++ [q])=lifeOf l:=by rw[Zf,lfE_S hs]
 have es1:shOf (l ++ [q]) (idS s)=some (s,q.1):=by rw[Zo,shE_S hs]
 have es2:∀i,idS s≠i→shOf (l ++ [q]) i=shOf l i:=fun i hi=>by rw[Zo,shE_N hs hi]
 have hcur:∀k,Cur (l ++ [q]) k↔(lifeOf l).2=k∨k=q.1∨∃i s',idS s≠i∧shOf l i=some (s',k):=fun k=>by
  unfold Cur;rw[el]
  constructor
  ·rintro(e|⟨i,s',e⟩)
   ·exact Or.inl e
   ·by_cases hi:idS s=i
    ·rw[←hi,es1] at e
     injection e with e
     injection e with _ e
     exact Or.inr (Or.inl e.symm)
    ·rw[es2 i hi] at e
     exact Or.inr (Or.inr ⟨i,s',hi,e⟩)
  ·rintro(e|e|⟨i,s',hi,e⟩)
   ·exact Or.inl e
   ·exact Or.inr ⟨_,s,by rw[es1,e]⟩
   ·exact Or.inr ⟨i,s',by rw[es2 i hi];exact e⟩
 have hmem:∀k,k∈zei o V (idS s)↔k∈o∨∃s',shOf l (idS s)=some (s',k):=fun k=>by
  unfold zei Vlt.look;rw[h.sh]
  cases e:shOf l (idS s) with
  | none=>simp
  | some p=>
   simp only[Option.isSome_some,if_true,Option.getD_some,List.mem_append,List.mem_singleton,Option.some.injEq]
   exact⟨fun a=>a.imp id fun e=>⟨p.1,by rw[e]⟩,fun a=>a.imp id fun ⟨s',e⟩=>by rw[e]⟩
 refine⟨h.st,h.brk,h.life.trans el.symm,fun i=>?_,za9 _ _ h.nd,fun k=>?_,?_⟩
 ·show zw (yj V.sh (idS s) (s,q.1)) i=_
  by_cases hi:idS s=i
  ·subst hi;rw[xt,es1]
  ·rw[vq _ _ (Ne.symm hi),h.sh,es2 i hi]
 ·rw[hmem,hcur,h.old]
  constructor
  ·rintro(⟨⟨r,hr,rfl⟩,h2⟩|⟨s',e⟩)
   ·refine⟨⟨r,List.mem_append_left _ hr,rfl⟩,fun e=>?_⟩
    rcases e with e|e|⟨i,s',hi,e⟩
    ·exact h2 (Or.inl e)
    ·have:=k2 r hr;omega
    ·exact h2 (Or.inr ⟨i,s',e⟩)
   ·obtain⟨r,hr,e1,rfl⟩:=Zu e
    refine⟨⟨r,List.mem_append_left _ hr,rfl⟩,fun e2=>?_⟩
    rcases e2 with e2|e2|⟨i,s2,hi,e2⟩
    ·exact Vp k1 e e2
    ·have:=k2 r hr;omega
    ·exact hi (zic k1 e e2)
  ·rintro⟨⟨r,hr,rfl⟩,h2⟩
   rcases List.mem_append.1 hr with e|e
   ·by_cases hc:∃s',shOf l (idS s)=some (s',r.1)
    ·exact Or.inr hc
    ·refine Or.inl ⟨⟨r,e,rfl⟩,fun e2=>?_⟩
     rcases e2 with e2|⟨i,s',e2⟩
     ·exact h2 (Or.inl e2)
     ·exact h2 (Or.inr (Or.inr ⟨i,s',fun e3=>hc ⟨s',by rw[e3];exact e2⟩,e2⟩))
   ·exact absurd (Or.inr (Or.inl (by rw[List.mem_singleton.1 e]))) h2
 ·unfold zei Vlt.look
  rw[h.sh]
  cases e:shOf l (idS s) with
  | none=>exact h.ond
  | some p=>
   simp only[Option.isSome_some,if_true,Option.getD_some];refine List.nodup_append.2 ⟨h.ond,by simp,fun a ha b hb e2=>?_⟩
   rw[List.mem_singleton] at hb
   exact((h.old a).1 ha).2 (Or.inr ⟨_,p.1,by rw[e,e2,hb]⟩)
theorem VF.fold:∀(t:List (Int × List Int)) {l:List (Int × List Int)} {V:Vlt} {o:List Int},VF S l V o→Ks (l++t)→(∀q∈t,vsaid q.2≠none)→(∀q∈t,S.getB q.1=q.2)→∃V' o',vfold S (t.map (·.1)) V o=some (V',o')∧VF S (l++t) V' o'
 | [],l,V,o,h,_,_,_=>⟨V,o,rfl,by rw[List.append_nil];exact h⟩
 | q :: t,l,V,o,h,hk,hs,hg=>by
  have e:l++q :: t=(l ++ [q])++t:=by simp
  have hq:=hg q (List.mem_cons_self ..);rw[e] at hk ⊢;have hk1:Ks (l ++ [q]):=⟨by
   have:=hk.up;rw[List.map_append,List.pairwise_append] at this
   exact this.1,fun r hr=>hk.pos r (List.mem_append_left _ hr)⟩
  have ht:=fun r hr=>hs r (List.mem_cons_of_mem _ hr)
  have htg:=fun r hr=>hg r (List.mem_cons_of_mem _ hr)
  rw[List.map_cons]
  cases hv:vsaid q.2 with
  | none=>exact absurd hv (hs q (List.mem_cons_self ..))
  | some r=>
   cases r with
   | inl n=>
    rw[zjk _ _ _ (by rw[hq];exact hv)]
    exact VF.fold t (h.znn hk1 hv) hk ht htg
   | inr s=>
    rw[zjl _ _ _ (by rw[hq];exact hv)]
    exact VF.fold t (h.keep hk1 hv) hk ht htg
theorem VF.new (S:Sto):VF S [] (Vlt.new S) []:=⟨rfl,rfl,rfl,fun i=>rfl,by simp[Vlt.new],fun k=>by simp,List.nodup_nil⟩
end
structure VX where
 life:Int
 sh:VID→Option ShM
noncomputable def vx (l:List (Int × List Int)):VX:=⟨(lifeOf l).1,fun i=>(shOf l i).map (·.1)⟩
def X0:VX:=⟨0,fun _=>none⟩
def VX.put (X:VX) (s:ShM):VX:=⟨X.life,fun i=>if idS s=i then some s else X.sh i⟩
def VX.born (X:VX) (n:Int):VX:=⟨n,X.sh⟩
def VX.drop (X:VX) (i:VID):VX:=⟨X.life,fun j=>if i=j then none else X.sh j⟩
def Zx (X:VX) (l:List (Int × List Int)):Prop:=(∀q∈l,vsaid q.2≠none)∧vx l=X
section
variable {l : List (Int × List Int)} {q : Int × List Int} {k n : Int} {s : ShM} {X : VX}
theorem says_L (h:Zx X l) (hs:vsaid q.2=some (.inl n)):Zx (X.born n) (l ++ [q]):=by
 refine⟨fun r hr=>?_,?_⟩
 ·rcases List.mem_append.1 hr with e|e
  ·exact h.1 r e
  ·rw[List.mem_singleton.1 e,hs];simp
 ·rw[←h.2]
  unfold vx VX.born;rw[Zf,lfE_L hs];simp only[Zo,shE_L _ hs]
theorem says_S (h:Zx X l) (hs:vsaid q.2=some (.inr s)):Zx (X.put s) (l ++ [q]):=by
 refine⟨fun r hr=>?_,?_⟩
 ·rcases List.mem_append.1 hr with e|e
  ·exact h.1 r e
  ·rw[List.mem_singleton.1 e,hs];simp
 ·rw[←h.2]
  unfold vx VX.put;rw[Zf,lfE_S hs]
  congr 1
  funext i
  rw[Zo]
  by_cases hi:idS s=i
  ·subst hi;rw[shE_S hs,if_pos rfl];rfl
  ·rw[shE_N hs hi,if_neg hi]
theorem Vq (hk:Ks l) (hc:¬Cur l k):lifeOf (l.filter fun r=>decide (r.1≠k))=lifeOf l:=
 Ut _ fun q hq hp e=>hc (Or.inl (by simp at hp;rw[←e,hp]))
theorem zb3 (hk:Ks l) (hc:¬Cur l k) (i:VID):shOf (l.filter fun r=>decide (r.1≠k)) i=shOf l i:=
 zar _ fun q hq hp s e=>hc (Or.inr ⟨i,s,by simp at hp;rw[e,hp]⟩)
theorem zej (hk:Ks l) (hc:¬Cur l k) (m:Int):Cur (l.filter fun r=>decide (r.1≠k)) m↔Cur l m:=by
 unfold Cur;rw[Vq hk hc];simp only[zb3 hk hc]
theorem Vs (h:Zx X l) (hk:Ks l) (hc:¬Cur l k):Zx X (l.filter fun r=>decide (r.1≠k)):=by
 refine⟨fun r hr=>h.1 r (List.mem_filter.1 hr).1,?_⟩
 rw[←h.2];unfold vx;rw[Vq hk hc];simp only[zb3 hk hc]
theorem Jq (hk:Ks l) {i:VID} (h:shOf l i=some (s,k)):lifeOf (l.filter fun r=>decide (r.1≠k))=lifeOf l:=
 Ut _ fun q hq hp e=>Vp hk h (by simp at hp;rw[←e,hp])
theorem zd8 (hk:Ks l) {i j:VID} (h:shOf l i=some (s,k)) (hj:i≠j):shOf (l.filter fun r=>decide (r.1≠k)) j=shOf l j:=
 zar _ fun q hq hp s' e=>hj (zic hk h (by simp at hp;rw[e,hp]))
theorem zi3 (hk:Ks l) {i:VID} (h:shOf l i=some (s,k)) (ht:∀q∈l,Cur l q.1):shOf (l.filter fun r=>decide (r.1≠k)) i=none:=by
 cases e:shOf (l.filter fun r=>decide (r.1≠k)) i with
 | none=>rfl
 | some p=>
  exfalso
  obtain⟨q,hq,e1⟩:=zgo e;obtain⟨hq1,hq2⟩:=List.mem_filter.1 hq;obtain⟨a1,a2,a3⟩:=Yz e1;have hne:q.1≠k:=by simpa using hq2
  rcases ht q hq1 with e2|⟨j,s',e2⟩
  ·have h0:=hk.pos q hq1
   obtain⟨r,hr,e3,e4⟩:=Ju (l:=l) (by omega)
   obtain rfl:=hk.uniq hr hq1 (by rw[e4,e2])
   have h1:=(Uy e3).1;rw[a1] at h1
   cases h1
  ·obtain⟨r,hr,e3,e4⟩:=Zu e2
   obtain rfl:=hk.uniq hr hq1 e4;obtain⟨b1,b2,b3⟩:=Yz e3;rw[a1] at b1
   injection b1 with b1
   injection b1 with b1
   have:i=j:=by rw[←a3,←b3,b1]
   rw[←this,h] at e2
   injection e2 with e2
   injection e2 with _ e2
   exact hne e2.symm
theorem zlr (hk:Ks l) {i:VID} (h:shOf l i=some (s,k)) (ht:∀q∈l,Cur l q.1):∀q∈l.filter (fun r=>decide (r.1≠k)),Cur (l.filter fun r=>decide (r.1≠k)) q.1:=fun q hq=>by
 obtain⟨hq1,hq2⟩:=List.mem_filter.1 hq;have hne:q.1≠k:=by simpa using hq2
 unfold Cur;rw[Jq hk h]
 rcases ht q hq1 with e|⟨j,s',e⟩
 ·exact Or.inl e
 ·refine Or.inr ⟨j,s',?_⟩
  rw[zd8 hk h]
  ·exact e
  ·intro e2
   rw[←e2,h] at e
   injection e with e
   injection e with _ e
   exact hne e.symm
theorem zku (h:Zx X l) (hk:Ks l) {i:VID} (hi:shOf l i=some (s,k)) (ht:∀q∈l,Cur l q.1):Zx (X.drop i) (l.filter fun r=>decide (r.1≠k)):=by
 refine⟨fun r hr=>h.1 r (List.mem_filter.1 hr).1,?_⟩
 rw[←h.2];unfold vx VX.drop;rw[Jq hk hi]
 congr 1
 funext j
 by_cases hj:i=j
 ·subst hj;rw[if_pos rfl,zi3 hk hi ht];rfl
 ·rw[if_neg hj,zd8 hk hi hj]
end
open Go.RowKit Go.Sf Go.Shelf Go.Sort
attribute [local go_sem] Oper.semAt_some
def lgE (x:Int):List Value:=[.int .i64 x]
theorem zee (x:Int):(lgE x).length=1:=rfl
theorem zjc (x:Int):∀u∈lgE x,u.oneCell'=true:=fun u hu=>by
 simp only[lgE,List.mem_cons,List.not_mem_nil,or_false] at hu;subst hu;rfl
theorem zfs (l:List Int):l.flatMap lgE=l.map (Value.int .i64):=by
 induction l with
 | nil=>rfl
 | cons x r ih=>rw[List.flatMap_cons,ih];rfl
theorem zl1:∃(i:TypeInfo) (z:Value) (by_:Nat),Tryz.prog.info? 2=some i∧i.zero=some z∧i.size=1∧i.bytes=by_∧z.cells.size=1∧by_≤1000:=by
 have h:((Tryz.prog.info? 2).bind fun i=>i.zero.map fun z=>(i.size,decide (i.bytes≤1000),z.cells.size))=some (1,true,1):=by kernel_rfl
 cases hi:Tryz.prog.info? 2 with
 | none=>rw[hi] at h;cases h
 | some i=>
  rw[hi] at h
  cases hz:i.zero with
  | none=>simp[hz] at h
  | some z=>
   simp only[Option.bind_some,hz,Option.map_some,Option.some.injEq,Prod.mk.injEq,decide_eq_true_eq] at h
   exact⟨i,z,i.bytes,rfl,hz,h.1,rfl,h.2.2,h.2.1⟩
theorem zmt (X:World) (x:Int):ze6 (X.alloc (.cells #[.int .i64 x] 2)) lgE (.slice (some ⟨X.heap.size,0,none⟩) 1 1) [x]:=by
 refine⟨_,1,rfl,Or.inr ⟨_,rfl,fun j u hu=>?_⟩⟩
 rw[Xl]
 exact(zh (heap_alloc_new X _) j).trans (by simpa[lgE] using hu)
def srt (l:List Int):List Int:=l.mergeSort fun x y=>decide (x≤y)
theorem zbc (l:List Int):(srt l).length=l.length:=List.length_mergeSort l
theorem zf6 (enc:Int→Value) (l:List Int) (c:Array Value):putCells enc 0 l.toArray c=putCells id 0 (l.map enc).toArray c:=by
 unfold putCells
 congr 1
 funext k x
 by_cases hk:k<l.length
 ·simp[hk]
 ·simp[hk]
theorem zki (enc:Int→Value) (l:List Int) (w:World) (g:Nat):putRow enc w g 0 l.toArray=putRow id w g 0 (l.map enc).toArray:=by
 unfold putRow
 congr 1
 funext c
 exact zf6 enc l c
theorem sort64 {w:World} {v:Value} {l:List Int} (h:uk w 2 1 lgE v l) (hl:l.length≤1000000):Calls Tryz.prog 131 #[v] w fun e w'=>e = .returned (.tuple #[])∧uk w' 2 1 lgE v (srt l)∧w.grownBy w' v.ownBlock:=by
 obtain⟨h1,h2⟩:=h
 rcases h2 with ⟨rfl,h0⟩|⟨g,cap,cur,rfl,hb,hh,r1,r2,r3,r4⟩
 ·have e0:l = []:=List.eq_nil_of_length_eq_zero h0
  subst e0;refine(AnyM.slices_Sort_int_none Tryz.sortI none 0 w).mono ?_;rintro e w' ⟨rfl,rfl⟩
  exact⟨rfl,⟨by rw[show srt [] = [] from List.mergeSort_nil];rfl,Or.inl ⟨rfl,by rw[zbc];rfl⟩⟩,zm _⟩
 ·rw[zfs] at r4
  have hH:Holds (Value.int .i64) w g 0 l.toArray:=fun j hj=>by
   have hj':j<l.length:=by simpa using hj
   have hv:=zhu (xs:=l.map (Value.int .i64)) hh (by rw[List.length_map];simpa using r4) j (by simpa using hj')
   simpa[hj'] using hv
  refine(AnyM.slices_Sort_int Tryz.sortI g 0 cap l w hH (Array.getElem?_eq_some_iff.1 hh).1 (by omega)).mono ?_
  rintro e w' ⟨rfl,n,os,rfl⟩;rw[zki];refine⟨rfl,?_,Zr _⟩;have h3:=Zt (w:=w) (base:=0) (g:=g) (cap:=cap) (n:=n) (m:=l.length) (os:=os) (xs:=(srt l).map (Value.int .i64)) (size:=1) (by rw[List.length_map,zbc];omega) (Nat.zero_le _) hh r1 r2 r3
  show World.ownsRow _ 0 _ 1 _ (srt l).length ((srt l).flatMap lgE)
  rw[zbc,zfs]
  exact h3
end Go.Proofs.YtbcbhlfjgobejaaGreat
