/- An opened store: just its records' blocks are taken. Plain. Conditions: none. A store on a steady disk whose records are on it: Put and Remove of the first. Plain. Conditions: room. What an opening of a journal reads is a view of the records. Plain. Conditions: the records lie on the disk. A journal made since a world: its calls. Conditions: few records and entries. JournalRoom's rounds. Plain. Conditions: entries of at most 300 bytes, at most 30. JournalKeeps: what is on a disk whose power went, amid openings too. Plain. Conditions: as the theorems say. -/
import Derived.Test.YtbcbhlfjgobejaaGreatD35
import Derived.Test.YtbcbhlfjgobejaaGreatD29
import Derived.Test.YtbcbhlfjgobejaaGreatD28
set_option linter.unusedSimpArgs false
set_option linter.unusedVariables false
namespace Go.Proofs.YtbcbhlfjgobejaaGreat
open Go.RowKit Go.Sf
theorem pick_exact (rows:List (Key19 × RowM)):∀(ks:List Key19) (S:Sto),(∀i,S.taken[i]? = some true→i∈lds S)→∀i,(pickSto rows ks S).taken[i]? = some true→i∈lds (pickSto rows ks S)
 | [],S,h=>h
 | K :: t,S,h=>by
  refine pick_exact rows t (pickOne rows S K) ?_
  unfold pickOne
  cases mget rows K with
  | none=>exact h
  | some r=>
   simp only
   split
   ·exact h
   ·intro i hi
    rename_i hc
    have hno:mget S.recs K.k=none:=by
     cases e:mget S.recs K.k with
     | none=>rfl
     | some z=>exact absurd (Or.inl (by rw[e];rfl)) hc
    have hrec:(S.kept K.k (rowBytes r) (rowBlocks r)).recs=S.recs ++ [(K.k,(rowBytes r,rowBlocks r))]:=mget_app_none hno _
    unfold lds
    rw[hrec,List.flatMap_append]
    refine List.mem_append.2 ?_
    by_cases hm:i∈rowBlocks r
    ·exact Or.inr (by simpa using hm)
    ·refine Or.inl (h i ?_)
     rw[←setT_out (x:=true) (rowBlocks r) S.taken i hm]
     exact hi
theorem jst_open {d:Dk} {ks:List Key19} {all:List (Int × List Int)} {blk:Int→List Nat} (h:KInv (openS d ks) all blk) (hs:Steady (openS d ks).d) (hnd:(all.flatMap fun q=>blk q.1).Nodup) (hne:∀q∈all,blk q.1≠[]) (hkn:∀q∈all,1≤q.1∧q.1<(openS d ks).next) (hup:(all.map (·.1)).Pairwise (·< ·)) (hn1:1≤(openS d ks).next):JSt (openS d ks) (openS d ks).d.n:=by
 have hl:lds (openS d ks)=all.flatMap fun q=>blk q.1:=by
  unfold lds
  rw[h.recs,List.flatMap_map]
 have hlt:∀i∈lds (openS d ks),i<(openS d ks).d.n:=fun i hi=>by
  rw[hl] at hi
  obtain⟨q,hq,hi⟩:=List.mem_flatMap.1 hi
  exact h.good.blt q hq i hi
 refine⟨hs,by rw[h.late];exact Nat.zero_le _,rfl,h.brk,h.tl,fun i hi=>?_,by rw[hl];exact hnd,hlt,fun r hr=>?_,fun r hr=>?_,?_,hn1⟩
 ·have hx:=pick_exact (scanN crcB (bk d.now) d.n).rows ks ⟨d.opened.1,[],List.replicate d.n false,(scanN crcB (bk d.now) d.n).next,0⟩ (fun i hi=>by
   have:=List.getElem?_eq_some_iff.1 hi
   obtain⟨h1,h2⟩:=this
   simp at h2) i
  have hx':(openS d ks).taken[i]? = some true→i∈lds (openS d ks):=hx
  have hi2:i<(openS d ks).taken.length:=by rw[h.tl];exact hi
  by_cases hm:i∈lds (openS d ks)
  ·have hm2:=hm
   rw[hl] at hm2
   obtain⟨q,hq,hm2⟩:=List.mem_flatMap.1 hm2
   rw[h.tak q hq i hm2]
   simp[hm]
  ·rw[List.getElem?_eq_getElem hi2]
   cases e:(openS d ks).taken[i] with
   | true=>exact absurd (hx' (by rw[List.getElem?_eq_getElem hi2,e])) hm
   | false=>simp[hm]
 ·rw[h.recs] at hr
  obtain⟨q,hq,rfl⟩:=List.mem_map.1 hr
  exact hne q hq
 ·rw[h.recs] at hr
  obtain⟨q,hq,rfl⟩:=List.mem_map.1 hr
  exact hkn q hq
 ·rw[h.recs,List.map_map]
  exact hup
theorem Good.nodup {C:List Int→Nat} {f:Nat→List Int} {N:Nat} {all:List (Int × List Int)} {blk:Int→List Nat} {next:Int} (g:Good C f N all blk next):(all.flatMap fun q=>blk q.1).Nodup:=by
 unfold List.Nodup
 rw[List.pairwise_flatMap]
 refine⟨fun q hq=>?_,?_⟩
 ·rw[List.pairwise_iff_getElem]
  intro i j hi hj hij e
  have h1:=g.at_ q hq i _ (List.getElem?_eq_getElem hi)
  have h2:=g.at_ q hq j _ (List.getElem?_eq_getElem hj)
  rw[e] at h1
  have h3:=Option.some.inj (h1.symm.trans h2)
  injection h3 with _ h3
  omega
 ·refine List.Pairwise.imp_of_mem ?_ (List.pairwise_map.1 g.srt)
  intro a b ha hb hab x hx y hy e
  subst e
  obtain⟨j,hj⟩:=List.getElem?_of_mem hx
  obtain⟨j2,hj2⟩:=List.getElem?_of_mem hy
  have h1:=g.at_ a ha j _ hj
  have h2:=g.at_ b hb j2 _ hj2
  have h3:=Option.some.inj (h1.symm.trans h2)
  injection h3 with h3
  omega
theorem jst_opened {d:Dk} {ks:List Key19} {all:List (Int × List Int)} {blk:Int→List Nat} (h:KInv (openS d ks) all blk) (hs:Steady (openS d ks).d):JSt (openS d ks) (openS d ks).d.n:=
 jst_open h hs h.good.nodup (fun q hq e=>by
  have h1:=h.good.bln q hq
  rw[e] at h1
  have:=partsN_pos q.2.length
  simp at h1
  omega) (fun q hq=>h.good.key hq) h.good.srt h.good.pos
def KJ (S:Sto) (N:Nat) (all:List (Int × List Int)):Prop:=JSt S N∧∃blk,KInv S all blk
section
variable {S : Sto} {N : Nat} {all : List (Int × List Int)}
theorem kj_put (h:KJ S N all) (hx:S.next≤4611686018427387904) {b:List Int} (hb:b.length≤131072) (hf:partsN b.length≤freeN S.taken) :
  ∃S' fr,S.put b=(S',S.next,0)∧KJ S' N (all ++ [(S.next,b)])∧S'.recs=S.recs ++ [(S.next,(b,fr))]∧S'.next=S.next+1∧fr.length=partsN b.length:=by
 obtain⟨h1,blk,h2⟩:=h
 obtain⟨S',fr,e1,g1,g2,g3,g4⟩:=h1.put hx hb hf (partsN_pos _)
 have hn1:=h1.n1
 rcases h2.put hx hb with e|⟨S2,blk',e,k1,_,_⟩|⟨S2,e,_⟩
 ·rw[e1] at e
  injection e with _ e
  injection e with e _
  omega
 ·rw[e1] at e
  injection e with e _
  subst e
  exact⟨S',fr,e1,⟨g1,blk',k1⟩,g2,g3,g4⟩
 ·rw[e1] at e
  injection e with _ e
  injection e with e _
  omega
theorem kj_rem (h:KJ S N all) {q:Int × List Int} {t:List (Int × List Int)} (he:all=q :: t):∃S',S.rem q.1=(S',0)∧KJ S' N t∧S'.next=S.next:=by
 obtain⟨h1,blk,h2⟩:=h
 have hr:S.recs=(q.1,(q.2,blk q.1)) :: t.map fun q=>(q.1,(q.2,blk q.1)):=by rw[h2.recs,he];rfl
 obtain⟨S',e1,g1,g2,g3⟩:=h1.rem hr
 have hs:=h2.good.srt
 rw[he,List.map_cons,List.pairwise_cons] at hs
 have hf:(all.filter fun r=>decide (r.1≠q.1))=t:=by
  rw[he,List.filter_cons_of_neg (by simp)]
  exact List.filter_eq_self.2 fun p hp=>by
   have:=hs.1 p.1 (List.mem_map_of_mem hp)
   simp
   omega
 rcases h2.rem (q:=q) (by rw[he];exact List.mem_cons_self ..) with ⟨S2,e,k1,_,_⟩|⟨S2,e,_⟩
 ·rw[e1] at e
  injection e with e _
  subst e
  rw[hf] at k1
  exact⟨S',e1,⟨g1,blk,k1⟩,g3⟩
 ·rw[e1] at e
  injection e with _ e
  omega
theorem kj_clears {post:List (Int × List Int)}:∀(pre:List (Int × List Int)) (S:Sto),KJ S N (pre++post)→∃S',clrS S (pre.map (·.1))=(S',0)∧KJ S' N post∧S'.next=S.next
 | [],S,h=>⟨S,rfl,h,rfl⟩
 | q :: t,S,h=>by
  obtain⟨S1,e1,h1,x1⟩:=kj_rem h (rfl:q :: t++post=q :: (t++post))
  obtain⟨S2,e2,h2,x2⟩:=kj_clears t S1 h1
  refine⟨S2,?_,h2,x2.trans x1⟩
  show clrS S (q.1 :: t.map (·.1))=_
  rw[clrS_ok (by rw[e1]),e1]
  exact e2
variable {J : Jnl} {b : List Int}
theorem jk_put (h:KJ J.S N all) (h0:J.broken=0) (hx:J.S.next≤4611686018427387904) (k:Int) (hb:b.length≤131071) (hf:partsN (b.length+1)≤freeN J.S.taken) :
  ∃S' fr,J.put k b=({ J with S:=S' },J.S.next,0)∧KJ S' N (all ++ [(J.S.next,k :: b)])∧S'.recs=J.S.recs ++ [(J.S.next,(k :: b,fr))]∧S'.next=J.S.next+1∧fr.length=partsN (b.length+1):=by
 obtain⟨S',fr,e1,h1,h2,h3,h4⟩:=kj_put h hx (b:=k :: b) (by simp;omega) hf
 refine⟨S',fr,?_,h1,h2,h3,h4⟩
 rw[put_c h0 k (by omega),e1]
 show(Jnl.met _ 0,J.S.next,(0:Int))=_
 rw[met_zero]
theorem jk_app (h:KJ J.S N all) (h0:J.broken=0) (hx:J.S.next≤4611686018427387904) (hb:b.length≤131071) (hf:partsN (b.length+1)≤freeN J.S.taken) :
  ∃S' fr,J.app b=({ J with S:=S',entries:=J.entries ++ [b] },0)∧KJ S' N (all ++ [(J.S.next,69 :: b)])∧S'.recs=J.S.recs ++ [(J.S.next,(69 :: b,fr))]∧S'.next=J.S.next+1∧fr.length=partsN (b.length+1):=by
 obtain⟨S',fr,e1,h1,h2,h3,h4⟩:=jk_put h h0 hx 69 hb hf
 exact⟨S',fr,app_ok e1,h1,h2,h3,h4⟩
theorem kj_keys (h:KJ S N all):S.keys=all.map (·.1):=by
 obtain⟨_,blk,h2⟩:=h
 unfold Sto.keys
 rw[h2.recs,List.map_map]
 rfl
theorem jk_cp (h:KJ J.S N all) (h0:J.broken=0) (hx:J.S.next≤4611686018427387904) (hb:b.length≤131071) (hf:partsN (b.length+1)≤freeN J.S.taken) :
  ∃S',J.cp b=({ J with S:=S',at_:=J.S.next,state:=b,entries:=[] },0)∧KJ S' N [(J.S.next,67 :: b)]∧S'.next=J.S.next+1:=by
 obtain⟨S1,fr,e1,h1,h2,h3,h4⟩:=jk_put h h0 hx 67 hb hf
 obtain⟨S2,e2,g1,g3⟩:=kj_clears all S1 h1
 refine⟨S2,?_,g1,g3.trans h3⟩
 rw[cp_ok e1]
 have hk0:=kj_keys h
 have ho:olds S1.keys J.S.next=all.map (·.1):=by
  rw[kj_keys h1,List.map_append]
  exact olds_last _ _ fun k hk=>by
   rw[←hk0] at hk
   obtain⟨r,hr,rfl⟩:=List.mem_map.1 hk
   exact(h.1.kn r hr).2
 unfold Jnl.clr
 show(Jnl.met { Jnl.chk { J with S:=S1 } J.S.next b with S:=(clrS S1 (olds S1.keys J.S.next)).1 } (clrS S1 (olds S1.keys J.S.next)).2,(clrS S1 (olds S1.keys J.S.next)).2)=_
 rw[ho,e2]
 show(Jnl.met _ 0,(0:Int))=_
 rw[met_zero]
 rfl
end
def jview:List (Int × List Int)→Jnl→Option Jnl
 | [],J=>some J
 | q :: t,J=>match jsaid q.2 with
  | none=>none
  | some (true,s)=>jview t (J.chk q.1 s)
  | some (false,s)=>jview t { J with entries:=J.entries ++ [s] }
theorem jview_cons (q:Int × List Int) (t:List (Int × List Int)) (J:Jnl):jview (q :: t) J=(match jsaid q.2 with
  | none=>none
  | some (true,s)=>jview t (J.chk q.1 s)
  | some (false,s)=>jview t { J with entries:=J.entries ++ [s] }):=rfl
theorem jfold_view (S:Sto):∀(l:List (Int × List Int)) (J:Jnl),(∀q∈l,S.getB q.1=q.2)→jfold S (l.map (·.1)) J=jview l J
 | [],J,h=>rfl
 | q :: t,J,h=>by
  have h0:=h q (List.mem_cons_self ..)
  have ht:=fun J=>jfold_view S t J fun p hp=>h p (List.mem_cons_of_mem _ hp)
  rw[jview_cons,List.map_cons]
  cases hs:jsaid q.2 with
  | none=>exact jfold_no _ _ (by rw[h0];exact hs)
  | some r=>
   obtain⟨x,s⟩:=r
   cases x with
   | true=>rw[jfold_cp _ _ (by rw[h0];exact hs),ht]
   | false=>rw[jfold_en _ _ (by rw[h0];exact hs),ht]
theorem kinv_getB {S:Sto} {all:List (Int × List Int)} {blk:Int→List Nat} (h:KInv S all blk):∀q∈all,S.getB q.1=q.2:=fun q hq=>by
 unfold Sto.getB
 rw[h.key_get hq]
 rfl
theorem kinv_fold {S:Sto} {all:List (Int × List Int)} {blk:Int→List Nat} (h:KInv S all blk) (J:Jnl):jfold S S.keys J=jview all J:=by
 have e:S.keys=all.map (·.1):=by
  unfold Sto.keys
  rw[h.recs,List.map_map]
  rfl
 rw[e]
 exact jfold_view S all J (kinv_getB h)
section
variable {W w w1 w' : World} {jb : Nat} {J : Jnl} {v : Value} {b : List Int}
end
structure DG (d:Dk) (n:Nat) (P:List (Int × List Int)→Prop) (next:Int):Prop where
 nn:d.n=n
 late:d.late.length≤5000
 good:∀fates,∃al blk,P al∧Good crcB (fun i=>scrub crcB (bk (mixes fates 0 d.late d.st) i)) n al blk next
theorem DG.mono {d:Dk} {n:Nat} {P Q:List (Int × List Int)→Prop} {next m:Int} (h:DG d n P next) (hp:∀al,P al→Q al) (hm:next≤m):DG d n Q m:=
 ⟨h.nn,h.late,fun f=>by
  obtain⟨al,blk,h1,h2⟩:=h.good f
  exact⟨al,blk,hp al h1,h2.up hm⟩⟩
theorem KBad.to {d:Dk} {n:Nat} {now all:List (Int × List Int)} {next:Int} (h:KBad d n now all next):DG d n (fun al=>al=all∨al=now) next:=
 ⟨h.nn,by have:=h.late;omega,h.dg⟩
theorem KInv.to {S:Sto} {all:List (Int × List Int)} {blk:Int→List Nat} (h:KInv S all blk):DG S.d S.d.n (fun al=>al=all) S.next:=
 ⟨rfl,by rw[h.late];exact Nat.zero_le _,fun f=>⟨all,blk,rfl,by
  rw[h.late]
  refine h.good.same fun i hi=>?_
  show scrub crcB (bk S.d.st i)=_
  rw[h.st i hi]
  exact scrub_clean (h.good.clean i hi)⟩⟩
theorem DG.crashed {d:Dk} {n:Nat} {P:List (Int × List Int)→Prop} {next:Int} (h:DG d n P next):DG d.crashed n P next:=⟨h.nn,h.late,h.good⟩
theorem DG.on {d:Dk} {n:Nat} {P:List (Int × List Int)→Prop} {next:Int} (h:DG d n P next) (ho:d.off=true) (f:List Int):Steady (d.on f)∧(d.on f).late = []∧(d.on f).n=n∧(∀i,bk (d.on f).st i=bk (d.on f).now i)∧∃al blk,P al∧Good crcB (fun i=>scrub crcB (bk (d.on f).now i)) n al blk next:=by
 obtain⟨a,b,c,e,g⟩:=on_spec ho f
 obtain⟨al,blk,h1,h2⟩:=h.good f
 exact⟨a,b,c.trans h.nn,fun i=>by rw[e,g],al,blk,h1,by rw[e];exact h2⟩
theorem scrub_over {x:List Int} (h:scrub crcB x=zeroB) (c:Nat):scrub crcB (mixB c zeroB x)=zeroB:=by
 cases c with
 | zero=>
  have:mixB 0 zeroB x=x:=by unfold mixB;simp
  rw[this,h]
 | succ c=>
  have hz:zeroB=0 :: List.replicate 255 0:=rfl
  have hn:saidP crcB (mixB (c+1) zeroB x)=none:=said_none_head (by
   unfold mixB
   rw[hz,List.take_succ_cons]
   simp only[List.cons_append,List.head?_cons]
   decide)
  unfold scrub
  rw[hn]
  rfl
structure OpnL (d:Dk) (n:Nat) (r:Dk):Prop where
 ex:∃is:List Nat,is.Nodup∧(∀i∈is,i<n∧scrub crcB (bk d.now i)=zeroB)∧r.late=lates (is.map fun i=>(i,zeroB))
 st:r.st=d.st
 nn:r.n=d.n
theorem OpnL.up {d r:Dk} {n:Nat} (h:OpnL d n r):OpnL d (n+1) r:=
 ⟨by
  obtain⟨is,h1,h2,h3⟩:=h.ex
  exact⟨is,h1,fun i hi=>⟨by have:=(h2 i hi).1;omega,(h2 i hi).2⟩,h3⟩,h.st,h.nn⟩
theorem opn_late {d:Dk} (hoff:d.off=false) (hl:d.late = []):∀n,n≤d.n→OpnL d n (opnD d n).1
 | 0,_=>⟨⟨[],List.nodup_nil,by simp,hl⟩,rfl,rfl⟩
 | n+1,hn=>by
  have ih:=opn_late hoff hl n (by omega)
  by_cases h0:(opnD d n).2.1=0
  ·by_cases hc:(saidP crcB (bk d.now n)).isSome=true∨bk d.now n=zeroB
   ·rw[opnD_clean h0 hc]
    exact ih.up
   ·have hc1:(saidP crcB (bk d.now n)).isSome=false:=by
     cases e:(saidP crcB (bk d.now n)).isSome
     ·rfl
     ·exact absurd (Or.inl e) hc
    have ok:=opn_ok hoff n (by omega) h0
    rw[opnD_scrub h0 hc1 (fun e=>hc (Or.inr e))]
    simp only
    have hz:scrub crcB (bk d.now n)=zeroB:=by
     unfold scrub
     rw[hc1]
     rfl
    have hw:((opnD d n).1.written n []).late=(opnD d n).1.late ++ [((n:Int),zeroB)]∧((opnD d n).1.written n []).st=(opnD d n).1.st∧((opnD d n).1.written n []).n=(opnD d n).1.n:=by
     rcases write_spec ok.off (i:=n) (by rw[ok.nn];omega) (x:=[]) (by simp) with ⟨_,_,a,_,b,c⟩|⟨_,_,a,b,c⟩
     ·exact⟨a,b,c⟩
     ·exact⟨a,b,c⟩
    obtain⟨w1,w2,w3⟩:=hw
    obtain⟨is,h1,h2,h3⟩:=ih.ex
    refine⟨⟨is ++ [n],?_,fun i hi=>?_,?_⟩,w2.trans ih.st,w3.trans ih.nn⟩
    ·refine List.nodup_append.2 ⟨h1,by simp,fun a ha b hb e=>?_⟩
     have:=(h2 a ha).1
     simp at hb
     omega
    ·rcases List.mem_append.1 hi with e|e
     ·exact⟨by have:=(h2 i e).1;omega,(h2 i e).2⟩
     ·rw[List.mem_singleton.1 e]
      exact⟨by omega,hz⟩
    ·rw[w1,h3]
     simp[lates]
  ·rw[opnD_stop h0]
   exact ih.up
theorem OpnL.mix {d r:Dk} {n:Nat} (h:OpnL d n r) (hst:∀i,i<d.n→bk d.st i=bk d.now i) (f:List Int) {i:Nat} (hi:i<d.n):scrub crcB (bk (mixes f 0 r.late r.st) i)=scrub crcB (bk d.now i):=by
 obtain⟨is,h1,h2,h3⟩:=h.ex
 rw[h3,h.st]
 by_cases hm:i∈is
 ·obtain⟨t,ht⟩:=List.getElem?_of_mem hm
  have hnd:((is.map fun i=>(i,zeroB)).map (·.1)).Nodup:=by
   rw[List.map_map]
   have e:((fun x:Nat × List Int=>x.1) ∘ fun i=>(i,zeroB))=id:=rfl
   rw[e,List.map_id]
   exact h1
  have:=mixes_at f 0 (is.map fun i=>(i,zeroB)) d.st hnd t (i,zeroB) (by rw[List.getElem?_map,ht];rfl)
  simp only at this
  rw[this,hst i hi,(h2 i hm).2]
  exact scrub_over (h2 i hm).2 _
 ·rw[mixes_out f i 0 _ _ (fun w hw e=>by
   obtain⟨j,hj,rfl⟩:=List.mem_map.1 hw
   exact hm (e ▸ hj)),hst i hi]
theorem OpnL.few {d r:Dk} {n:Nat} (h:OpnL d n r) (hn:n≤4096):r.late.length≤5000:=by
 obtain⟨is,h1,h2,h3⟩:=h.ex
 rw[h3]
 have hs:=filter_out n is h1 fun i hi=>(h2 i hi).1
 simp[lates]
 omega
theorem opened_diskF {d:Dk} (hoff:d.off=false) (hl:d.late = []) (hst:∀i,i<d.n→bk d.st i=bk d.now i) (hok:d.opened.2=0) :
  d.opened.1.off=false∧d.opened.1.n=d.n∧d.opened.1.late = []∧(∀i,i<d.n→bk d.opened.1.st i=bk d.opened.1.now i)∧∀i,i<d.n→bk d.opened.1.now i=scrub crcB (bk d.now i):=by
 by_cases h0:(opnD d d.n).2.1=0
 ·have ok:=opn_ok hoff d.n (Nat.le_refl _) h0
  unfold Dk.opened at hok ⊢
  rw[if_neg (by simp[h0])] at hok ⊢
  cases hf:(opnD d d.n).2.2
  ·have e:=opnD_same d.n h0 hf
   simp only[Bool.false_eq_true,if_false]
   have hm:=ok.met
   rw[e] at hm ⊢
   exact⟨hoff,rfl,hl,hst,hm⟩
  ·rw[hf] at hok
   simp only[if_true] at hok ⊢
   rcases sync_spec ok.off with ⟨_,s2,s3,s4,s5,s6⟩|⟨a,_⟩
   ·exact⟨s2,s6.trans ok.nn,s3,fun i hi=>by rw[s4,s5],fun i hi=>by rw[s4];exact ok.met i hi⟩
   ·rw[hok] at a;cases a
 ·unfold Dk.opened at hok
  rw[if_pos h0] at hok
  exact absurd hok h0
theorem opened_bad {d:Dk} (hoff:d.off=false) (hl:d.late = []) (hst:∀i,i<d.n→bk d.st i=bk d.now i) (hbad:d.opened.2≠0):OpnL d d.n d.opened.1:=by
 have hL:=opn_late hoff hl d.n (Nat.le_refl _)
 unfold Dk.opened at hbad ⊢
 by_cases h0:(opnD d d.n).2.1=0
 ·have ok:=opn_ok hoff d.n (Nat.le_refl _) h0
  rw[if_neg (by simp[h0])] at hbad ⊢
  cases hf:(opnD d d.n).2.2
  ·rw[hf] at hbad
   simp at hbad
  ·rw[hf] at hbad
   simp only[if_true] at hbad ⊢
   rcases sync_spec ok.off with ⟨a,_⟩|⟨_,s2,s3,s5,s6⟩
   ·exact absurd a hbad
   ·exact⟨by rw[s3];exact hL.ex,s5.trans hL.st,s6.trans hL.nn⟩
 ·rw[if_pos h0]
  exact hL
theorem kopenF {d:Dk} (hoff:d.off=false) (hl:d.late = []) (hst:∀i,i<d.n→bk d.st i=bk d.now i) (hok:d.opened.2=0) {all:List (Int × List Int)} {blk:Int→List Nat} {next:Int} (g:Good crcB (fun i=>scrub crcB (bk d.now i)) d.n all blk next) {ks:List Key19} (hk:KeysOf d ks):KInv (openS d ks) all blk∧(openS d ks).next≤next∧(openS d ks).d=d.opened.1∧d.opened.1.n=d.n:=by
 obtain⟨o1,o2,o3,o4,o5⟩:=opened_diskF hoff hl hst hok
 have hs:∀i,i<d.n→saidP crcB (bk d.now i)=saidP crcB ((fun i=>scrub crcB (bk d.now i)) i):=fun i _=>(said_scrub _).symm
 have hr:=recs_of hk g hs
 have e:=scan_same (C:=crcB) (N:=d.n) (f:=fun i=>scrub crcB (bk d.now i)) (g:=bk d.now) hs d.n (Nat.le_refl _)
 obtain⟨g1,g2⟩:=g.opened
 rw[←e] at g1 g2
 obtain⟨p1,p2,p3⟩:=pickSto_d (scanN crcB (bk d.now) d.n).rows ks ⟨d.opened.1,[],List.replicate d.n false,(scanN crcB (bk d.now) d.n).next,0⟩
 obtain⟨t1,t2⟩:=pick_taken (scanN crcB (bk d.now) d.n).rows ks ⟨d.opened.1,[],List.replicate d.n false,(scanN crcB (bk d.now) d.n).next,0⟩ (by simp)
 have t2':(openS d ks).taken.length=d.n:=t2.trans List.length_replicate
 have p1':(openS d ks).d=d.opened.1:=p1
 have p2':(openS d ks).next=(scanN crcB (bk d.now) d.n).next:=p2
 refine⟨⟨?_,?_,?_,?_,p3,hr,?_,?_⟩,?_,p1',o2⟩
 ·rw[p1',p2',o2]
  exact g1.same fun i hi=>o5 i hi
 ·rw[p1',o2];exact o4
 ·rw[p1'];exact o3
 ·rw[p1'];exact o1
 ·rw[t2',p1',o2]
 ·intro q hq i hi
  have hm:(q.1,(q.2,blk q.1))∈(openS d ks).recs:=by rw[hr];exact List.mem_map.2 ⟨q,hq,rfl⟩
  exact t1 _ hm i hi (by rw[show(pickSto _ ks _).taken.length=d.n from t2'];exact g.blt q hq i hi)
 ·rw[p2'];exact g2
theorem opened_dg {d:Dk} (hoff:d.off=false) (hl:d.late = []) (hst:∀i,i<d.n→bk d.st i=bk d.now i) (hn:d.n≤4096) (hbad:d.opened.2≠0) {all:List (Int × List Int)} {blk:Int→List Nat} {next:Int} (g:Good crcB (fun i=>scrub crcB (bk d.now i)) d.n all blk next):DG d.opened.1 d.n (fun al=>al=all) next:=by
 have h:=opened_bad hoff hl hst hbad
 exact⟨h.nn,h.few hn,fun f=>⟨all,blk,rfl,g.same fun i hi=>h.mix hst f hi⟩⟩
theorem opened_clean {d:Dk} (h:∀i,i<d.n→bk d.now i=zeroB∨∃p,saidP crcB (bk d.now i)=some p):d.opened=(d,0):=by
 have hc:∀n,n≤d.n→opnD d n=(d,0,false):=fun n=>by
  induction n with
  | zero=>intro _;rfl
  | succ n ih=>
   intro hn
   have e:=ih (by omega)
   have h1:(opnD d n).2.1=0:=by rw[e]
   rw[opnD_clean h1 (by
    rcases h n (by omega) with h2|⟨p,h2⟩
    ·exact Or.inr h2
    ·exact Or.inl (by rw[h2];rfl)),e]
 unfold Dk.opened
 rw[hc d.n (Nat.le_refl _)]
 simp
end Go.Proofs.YtbcbhlfjgobejaaGreat
