/- A journal on a steady disk: Append and Checkpoint, plain. Conditions: room. An opened store: just its records' blocks are taken. Plain. Conditions: none. A store on a steady disk whose records are on it: Put and Remove of the first. Plain. Conditions: room. What an opening of a journal reads is a view of the records. Plain. Conditions: the records lie on the disk. A journal made since a world: its calls. Conditions: few records and entries. JournalRoom's rounds. Plain. Conditions: entries of at most 300 bytes, at most 30. JournalRoom: the walk (under way). Conditions: a row of numbers in memory. JournalKeeps: what is on a disk whose power went, amid openings too. Plain. Conditions: as the theorems say. -/
import Derived.Test.YtbcbhlfjgobejaaGreatB34
import Derived.Test.YtbcbhlfjgobejaaGreatB28
import Derived.Test.YtbcbhlfjgobejaaGreatB27
import Derived.Test.YtbcbhlfjgobejaaGreatB18
set_option linter.unusedSimpArgs false
set_option linter.unusedVariables false
namespace Go.Proofs.YtbcbhlfjgobejaaGreat
open Go.RowKit Go.Sf
section
variable {S : Sto} {N : Nat} {J : Jnl} {b : List Int}
theorem clears {post:List (Int × List Int × List Nat)}:∀(pre:List (Int × List Int × List Nat)) (S:Sto),JSt S N→S.recs=pre++post→∃S',clrS S (pre.map (·.1))=(S',0)∧JSt S' N∧S'.recs=post∧S'.next=S.next
 | [],S,h,he=>⟨S,rfl,h,he,rfl⟩
 | (k,(b,fr)) :: t,S,h,he=>by
  obtain⟨S1,e1,h1,r1,x1⟩:=h.rem (he:S.recs=(k,(b,fr)) :: (t++post))
  obtain⟨S2,e2,h2,r2,x2⟩:=clears t S1 h1 r1
  refine⟨S2,?_,h2,r2,x2.trans x1⟩
  show clrS S (k :: t.map (·.1))=_
  rw[clrS_ok (by rw[e1]),e1]
  exact e2
theorem met_zero (J:Jnl):J.met 0=J:=by unfold Jnl.met;rw[if_neg (by decide)]
theorem jj_put (h:JSt J.S N) (h0:J.broken=0) (hx:J.S.next≤4611686018427387904) (k:Int) (hb:b.length≤131071) (hf:partsN (b.length+1)≤freeN J.S.taken) (hp:0<partsN (b.length+1)) :
  ∃S' fr,J.put k b=({ J with S:=S' },J.S.next,0)∧JSt S' N∧S'.recs=J.S.recs ++ [(J.S.next,(k :: b,fr))]∧S'.next=J.S.next+1∧fr.length=partsN (b.length+1):=by
 obtain⟨S',fr,e1,h1,h2,h3,h4⟩:=h.put hx (b:=k :: b) (by simp;omega) hf hp
 refine⟨S',fr,?_,h1,h2,h3,h4⟩
 rw[put_c h0 k (by omega),e1]
 show(Jnl.met _ 0,J.S.next,(0:Int))=_
 rw[met_zero]
theorem jj_app (h:JSt J.S N) (h0:J.broken=0) (hx:J.S.next≤4611686018427387904) (hb:b.length≤131071) (hf:partsN (b.length+1)≤freeN J.S.taken) (hp:0<partsN (b.length+1)) :
  ∃S' fr,J.app b=({ J with S:=S',entries:=J.entries ++ [b] },0)∧JSt S' N∧S'.recs=J.S.recs ++ [(J.S.next,(69 :: b,fr))]∧S'.next=J.S.next+1∧fr.length=partsN (b.length+1):=by
 obtain⟨S',fr,e1,h1,h2,h3,h4⟩:=jj_put h h0 hx 69 hb hf hp
 exact⟨S',fr,app_ok e1,h1,h2,h3,h4⟩
theorem olds_last (a:Int):∀(l:List Int),(∀k∈l,k<a)→olds (l ++ [a]) a=l
 | [],_=>by simp[olds]
 | k :: t,h=>by
  have h1:=olds_last a t (fun x hx=>h x (List.mem_cons_of_mem _ hx))
  unfold olds at *
  rw[List.cons_append,List.takeWhile_cons_of_pos (by simpa using h k (List.mem_cons_self ..)),h1]
theorem jj_cp (h:JSt J.S N) (h0:J.broken=0) (hx:J.S.next≤4611686018427387904) (hb:b.length≤131071) (hf:partsN (b.length+1)≤freeN J.S.taken) (hp:0<partsN (b.length+1)) :
  ∃S' fr,J.cp b=({ J with S:=S',at_:=J.S.next,state:=b,entries:=[] },0)∧JSt S' N∧S'.recs = [(J.S.next,(67 :: b,fr))]∧S'.next=J.S.next+1∧fr.length=partsN (b.length+1):=by
 obtain⟨S1,fr,e1,h1,h2,h3,h4⟩:=jj_put h h0 hx 67 hb hf hp
 obtain⟨S2,e2,g1,g2,g3⟩:=clears J.S.recs S1 h1 h2
 refine⟨S2,fr,?_,g1,g2,g3.trans h3,h4⟩
 rw[cp_ok e1]
 have ho:olds S1.keys J.S.next=J.S.recs.map (·.1):=by
  unfold Sto.keys
  rw[h2,List.map_append]
  exact olds_last _ _ fun k hk=>by
   obtain⟨r,hr,rfl⟩:=List.mem_map.1 hk
   exact(h.kn r hr).2
 unfold Jnl.clr
 show(Jnl.met { Jnl.chk { J with S:=S1 } J.S.next b with S:=(clrS S1 (olds S1.keys J.S.next)).1 } (clrS S1 (olds S1.keys J.S.next)).2,(clrS S1 (olds S1.keys J.S.next)).2)=_
 rw[ho,e2]
 show(Jnl.met _ 0,(0:Int))=_
 rw[met_zero]
 rfl
end
theorem pick_exact (rows:List (Key19 × RowM)):∀(ks:List Key19) (S:Sto),(∀i,S.taken[i]? = some true→i∈lds S)→∀i,(pickSto rows ks S).taken[i]? = some true→i∈lds (pickSto rows ks S)
 | [],S,h=>h
 | K :: t,S,h=>by
  refine pick_exact rows t (pickOne rows S K) ?_
  unfold pickOne
  cases mget rows K with
  | none=>exact h
  | some r=>
   simp only
   split
   ·exact h
   ·intro i hi
    rename_i hc
    have hno:mget S.recs K.k=none:=by
     cases e:mget S.recs K.k with
     | none=>rfl
     | some z=>exact absurd (Or.inl (by rw[e];rfl)) hc
    have hrec:(S.kept K.k (rowBytes r) (rowBlocks r)).recs=S.recs ++ [(K.k,(rowBytes r,rowBlocks r))]:=mget_app_none hno _
    unfold lds
    rw[hrec,List.flatMap_append]
    refine List.mem_append.2 ?_
    by_cases hm:i∈rowBlocks r
    ·exact Or.inr (by simpa using hm)
    ·refine Or.inl (h i ?_)
     rw[←setT_out (x:=true) (rowBlocks r) S.taken i hm]
     exact hi
theorem jst_open {d:Dk} {ks:List Key19} {all:List (Int × List Int)} {blk:Int→List Nat} (h:KInv (openS d ks) all blk) (hs:Steady (openS d ks).d) (hnd:(all.flatMap fun q=>blk q.1).Nodup) (hne:∀q∈all,blk q.1≠[]) (hkn:∀q∈all,1≤q.1∧q.1<(openS d ks).next) (hup:(all.map (·.1)).Pairwise (·< ·)) (hn1:1≤(openS d ks).next):JSt (openS d ks) (openS d ks).d.n:=by
 have hl:lds (openS d ks)=all.flatMap fun q=>blk q.1:=by
  unfold lds
  rw[h.recs,List.flatMap_map]
 have hlt:∀i∈lds (openS d ks),i<(openS d ks).d.n:=fun i hi=>by
  rw[hl] at hi
  obtain⟨q,hq,hi⟩:=List.mem_flatMap.1 hi
  exact h.good.blt q hq i hi
 refine⟨hs,by rw[h.late];exact Nat.zero_le _,rfl,h.brk,h.tl,fun i hi=>?_,by rw[hl];exact hnd,hlt,fun r hr=>?_,fun r hr=>?_,?_,hn1⟩
 ·have hx:=pick_exact (scanN crcB (bk d.now) d.n).rows ks ⟨d.opened.1,[],List.replicate d.n false,(scanN crcB (bk d.now) d.n).next,0⟩ (fun i hi=>by
   have:=List.getElem?_eq_some_iff.1 hi
   obtain⟨h1,h2⟩:=this
   simp at h2) i
  have hx':(openS d ks).taken[i]? = some true→i∈lds (openS d ks):=hx
  have hi2:i<(openS d ks).taken.length:=by rw[h.tl];exact hi
  by_cases hm:i∈lds (openS d ks)
  ·have hm2:=hm
   rw[hl] at hm2
   obtain⟨q,hq,hm2⟩:=List.mem_flatMap.1 hm2
   rw[h.tak q hq i hm2]
   simp[hm]
  ·rw[List.getElem?_eq_getElem hi2]
   cases e:(openS d ks).taken[i] with
   | true=>exact absurd (hx' (by rw[List.getElem?_eq_getElem hi2,e])) hm
   | false=>simp[hm]
 ·rw[h.recs] at hr
  obtain⟨q,hq,rfl⟩:=List.mem_map.1 hr
  exact hne q hq
 ·rw[h.recs] at hr
  obtain⟨q,hq,rfl⟩:=List.mem_map.1 hr
  exact hkn q hq
 ·rw[h.recs,List.map_map]
  exact hup
theorem Good.nodup {C:List Int→Nat} {f:Nat→List Int} {N:Nat} {all:List (Int × List Int)} {blk:Int→List Nat} {next:Int} (g:Good C f N all blk next):(all.flatMap fun q=>blk q.1).Nodup:=by
 unfold List.Nodup
 rw[List.pairwise_flatMap]
 refine⟨fun q hq=>?_,?_⟩
 ·rw[List.pairwise_iff_getElem]
  intro i j hi hj hij e
  have h1:=g.at_ q hq i _ (List.getElem?_eq_getElem hi)
  have h2:=g.at_ q hq j _ (List.getElem?_eq_getElem hj)
  rw[e] at h1
  have h3:=Option.some.inj (h1.symm.trans h2)
  injection h3 with _ h3
  omega
 ·refine List.Pairwise.imp_of_mem ?_ (List.pairwise_map.1 g.srt)
  intro a b ha hb hab x hx y hy e
  subst e
  obtain⟨j,hj⟩:=List.getElem?_of_mem hx
  obtain⟨j2,hj2⟩:=List.getElem?_of_mem hy
  have h1:=g.at_ a ha j _ hj
  have h2:=g.at_ b hb j2 _ hj2
  have h3:=Option.some.inj (h1.symm.trans h2)
  injection h3 with h3
  omega
theorem jst_opened {d:Dk} {ks:List Key19} {all:List (Int × List Int)} {blk:Int→List Nat} (h:KInv (openS d ks) all blk) (hs:Steady (openS d ks).d):JSt (openS d ks) (openS d ks).d.n:=
 jst_open h hs h.good.nodup (fun q hq e=>by
  have h1:=h.good.bln q hq
  rw[e] at h1
  have:=partsN_pos q.2.length
  simp at h1
  omega) (fun q hq=>h.good.key hq) h.good.srt h.good.pos
def KJ (S:Sto) (N:Nat) (all:List (Int × List Int)):Prop:=JSt S N∧∃blk,KInv S all blk
section
variable {S : Sto} {N : Nat} {all : List (Int × List Int)}
theorem kj_put (h:KJ S N all) (hx:S.next≤4611686018427387904) {b:List Int} (hb:b.length≤131072) (hf:partsN b.length≤freeN S.taken) :
  ∃S' fr,S.put b=(S',S.next,0)∧KJ S' N (all ++ [(S.next,b)])∧S'.recs=S.recs ++ [(S.next,(b,fr))]∧S'.next=S.next+1∧fr.length=partsN b.length:=by
 obtain⟨h1,blk,h2⟩:=h
 obtain⟨S',fr,e1,g1,g2,g3,g4⟩:=h1.put hx hb hf (partsN_pos _)
 have hn1:=h1.n1
 rcases h2.put hx hb with e|⟨S2,blk',e,k1,_,_⟩|⟨S2,e,_⟩
 ·rw[e1] at e
  injection e with _ e
  injection e with e _
  omega
 ·rw[e1] at e
  injection e with e _
  subst e
  exact⟨S',fr,e1,⟨g1,blk',k1⟩,g2,g3,g4⟩
 ·rw[e1] at e
  injection e with _ e
  injection e with e _
  omega
theorem kj_rem (h:KJ S N all) {q:Int × List Int} {t:List (Int × List Int)} (he:all=q :: t):∃S',S.rem q.1=(S',0)∧KJ S' N t∧S'.next=S.next:=by
 obtain⟨h1,blk,h2⟩:=h
 have hr:S.recs=(q.1,(q.2,blk q.1)) :: t.map fun q=>(q.1,(q.2,blk q.1)):=by rw[h2.recs,he];rfl
 obtain⟨S',e1,g1,g2,g3⟩:=h1.rem hr
 have hs:=h2.good.srt
 rw[he,List.map_cons,List.pairwise_cons] at hs
 have hf:(all.filter fun r=>decide (r.1≠q.1))=t:=by
  rw[he,List.filter_cons_of_neg (by simp)]
  exact List.filter_eq_self.2 fun p hp=>by
   have:=hs.1 p.1 (List.mem_map_of_mem hp)
   simp
   omega
 rcases h2.rem (q:=q) (by rw[he];exact List.mem_cons_self ..) with ⟨S2,e,k1,_,_⟩|⟨S2,e,_⟩
 ·rw[e1] at e
  injection e with e _
  subst e
  rw[hf] at k1
  exact⟨S',e1,⟨g1,blk,k1⟩,g3⟩
 ·rw[e1] at e
  injection e with _ e
  omega
theorem kj_clears {post:List (Int × List Int)}:∀(pre:List (Int × List Int)) (S:Sto),KJ S N (pre++post)→∃S',clrS S (pre.map (·.1))=(S',0)∧KJ S' N post∧S'.next=S.next
 | [],S,h=>⟨S,rfl,h,rfl⟩
 | q :: t,S,h=>by
  obtain⟨S1,e1,h1,x1⟩:=kj_rem h (rfl:q :: t++post=q :: (t++post))
  obtain⟨S2,e2,h2,x2⟩:=kj_clears t S1 h1
  refine⟨S2,?_,h2,x2.trans x1⟩
  show clrS S (q.1 :: t.map (·.1))=_
  rw[clrS_ok (by rw[e1]),e1]
  exact e2
variable {J : Jnl} {b : List Int}
theorem jk_put (h:KJ J.S N all) (h0:J.broken=0) (hx:J.S.next≤4611686018427387904) (k:Int) (hb:b.length≤131071) (hf:partsN (b.length+1)≤freeN J.S.taken) :
  ∃S' fr,J.put k b=({ J with S:=S' },J.S.next,0)∧KJ S' N (all ++ [(J.S.next,k :: b)])∧S'.recs=J.S.recs ++ [(J.S.next,(k :: b,fr))]∧S'.next=J.S.next+1∧fr.length=partsN (b.length+1):=by
 obtain⟨S',fr,e1,h1,h2,h3,h4⟩:=kj_put h hx (b:=k :: b) (by simp;omega) hf
 refine⟨S',fr,?_,h1,h2,h3,h4⟩
 rw[put_c h0 k (by omega),e1]
 show(Jnl.met _ 0,J.S.next,(0:Int))=_
 rw[met_zero]
theorem jk_app (h:KJ J.S N all) (h0:J.broken=0) (hx:J.S.next≤4611686018427387904) (hb:b.length≤131071) (hf:partsN (b.length+1)≤freeN J.S.taken) :
  ∃S' fr,J.app b=({ J with S:=S',entries:=J.entries ++ [b] },0)∧KJ S' N (all ++ [(J.S.next,69 :: b)])∧S'.recs=J.S.recs ++ [(J.S.next,(69 :: b,fr))]∧S'.next=J.S.next+1∧fr.length=partsN (b.length+1):=by
 obtain⟨S',fr,e1,h1,h2,h3,h4⟩:=jk_put h h0 hx 69 hb hf
 exact⟨S',fr,app_ok e1,h1,h2,h3,h4⟩
theorem kj_keys (h:KJ S N all):S.keys=all.map (·.1):=by
 obtain⟨_,blk,h2⟩:=h
 unfold Sto.keys
 rw[h2.recs,List.map_map]
 rfl
theorem jk_cp (h:KJ J.S N all) (h0:J.broken=0) (hx:J.S.next≤4611686018427387904) (hb:b.length≤131071) (hf:partsN (b.length+1)≤freeN J.S.taken) :
  ∃S',J.cp b=({ J with S:=S',at_:=J.S.next,state:=b,entries:=[] },0)∧KJ S' N [(J.S.next,67 :: b)]∧S'.next=J.S.next+1:=by
 obtain⟨S1,fr,e1,h1,h2,h3,h4⟩:=jk_put h h0 hx 67 hb hf
 obtain⟨S2,e2,g1,g3⟩:=kj_clears all S1 h1
 refine⟨S2,?_,g1,g3.trans h3⟩
 rw[cp_ok e1]
 have hk0:=kj_keys h
 have ho:olds S1.keys J.S.next=all.map (·.1):=by
  rw[kj_keys h1,List.map_append]
  exact olds_last _ _ fun k hk=>by
   rw[←hk0] at hk
   obtain⟨r,hr,rfl⟩:=List.mem_map.1 hk
   exact(h.1.kn r hr).2
 unfold Jnl.clr
 show(Jnl.met { Jnl.chk { J with S:=S1 } J.S.next b with S:=(clrS S1 (olds S1.keys J.S.next)).1 } (clrS S1 (olds S1.keys J.S.next)).2,(clrS S1 (olds S1.keys J.S.next)).2)=_
 rw[ho,e2]
 show(Jnl.met _ 0,(0:Int))=_
 rw[met_zero]
 rfl
end
def jview:List (Int × List Int)→Jnl→Option Jnl
 | [],J=>some J
 | q :: t,J=>match jsaid q.2 with
  | none=>none
  | some (true,s)=>jview t (J.chk q.1 s)
  | some (false,s)=>jview t { J with entries:=J.entries ++ [s] }
theorem jview_cons (q:Int × List Int) (t:List (Int × List Int)) (J:Jnl):jview (q :: t) J=(match jsaid q.2 with
  | none=>none
  | some (true,s)=>jview t (J.chk q.1 s)
  | some (false,s)=>jview t { J with entries:=J.entries ++ [s] }):=rfl
theorem jfold_view (S:Sto):∀(l:List (Int × List Int)) (J:Jnl),(∀q∈l,S.getB q.1=q.2)→jfold S (l.map (·.1)) J=jview l J
 | [],J,h=>rfl
 | q :: t,J,h=>by
  have h0:=h q (List.mem_cons_self ..)
  have ht:=fun J=>jfold_view S t J fun p hp=>h p (List.mem_cons_of_mem _ hp)
  rw[jview_cons,List.map_cons]
  cases hs:jsaid q.2 with
  | none=>exact jfold_no _ _ (by rw[h0];exact hs)
  | some r=>
   obtain⟨x,s⟩:=r
   cases x with
   | true=>rw[jfold_cp _ _ (by rw[h0];exact hs),ht]
   | false=>rw[jfold_en _ _ (by rw[h0];exact hs),ht]
theorem kinv_getB {S:Sto} {all:List (Int × List Int)} {blk:Int→List Nat} (h:KInv S all blk):∀q∈all,S.getB q.1=q.2:=fun q hq=>by
 unfold Sto.getB
 rw[h.key_get hq]
 rfl
theorem kinv_fold {S:Sto} {all:List (Int × List Int)} {blk:Int→List Nat} (h:KInv S all blk) (J:Jnl):jfold S S.keys J=jview all J:=by
 have e:S.keys=all.map (·.1):=by
  unfold Sto.keys
  rw[h.recs,List.map_map]
  rfl
 rw[e]
 exact jfold_view S all J (kinv_getB h)
def JW (W:World) (jb:Nat) (J:Jnl) (w:World):Prop:=∃own st db sv ev es jk,(∀k,k<W.heap.size→own k)∧JAt own w jb st db sv ev es jk J∧W.grownBy w none
theorem jgood_new (n:Int):JGood (S0 n):=⟨fun r hr=>by simp[S0] at hr,fun r hr=>by simp[S0] at hr,by simp[S0,Sto.keys],by simp[S0],by show 0+1000<1000000;omega⟩
theorem jst_new (n:Int):JSt (S0 n) (Dk.new n).n:=⟨steady_new n,Nat.zero_le _,rfl,rfl,List.length_replicate,fun i hi=>by simp[S0,lds,hi],by simp[S0,lds],fun i hi=>by simp[S0,lds] at hi,fun r hr=>by simp[S0] at hr,fun r hr=>by simp[S0] at hr,by simp[S0],by show(1:Int)≤1;omega⟩
theorem clr_new (S:Sto) (h:S.recs = []):(Jnl.new S).clr=(Jnl.new S,0):=by
 unfold Jnl.clr
 have e:olds (Jnl.new S).S.keys (Jnl.new S).at_ = []:=by
  show olds (S.recs.map (·.1)) 0 = []
  rw[h];rfl
 rw[e]
 show(Jnl.met _ 0,(0:Int))=_
 rw[met_zero]
 rfl
theorem jopen_new {W w1:World} {db:Nat} (n:Int) (hg:W.grownBy w1 none) (hd:∀own:Nat→Prop,(∀k,own k→k<W.heap.size)→DRep own w1 db (Dk.new n)) :
  Calls Tryz.prog 49 #[.pointer (some ⟨db,0,none⟩)] w1 fun e w'=>∃jb,e = .returned (.tuple #[.pointer (some ⟨jb,0,none⟩),.int .i64 0])∧JW W jb (Jnl.new (S0 n)) w':=by
 have h:=hd (fun k=>k<W.heap.size) (fun k hk=>hk)
 have hl:(Dk.new n).late.length+(Dk.new n).n<1000000:=by
  show 0+(min 4096 (max 0 n)).toNat<1000000
  omega
 refine(jopen h rfl hl (fun _ ks hk=>by rw[openS_zero (bk_new n) hk];exact jgood_new n)).mono ?_
 rintro e w' ⟨ht,hp⟩
 have hz:=opened_zero (d:=Dk.new n) (bk_new n)
 rw[hz] at hp
 rcases hp with ⟨h1,_⟩|⟨_,st,ks,hk,hs⟩
 ·exact absurd rfl h1
 ·rw[openS_zero (bk_new n) hk] at hs
  have e0:jfold (S0 n) (S0 n).keys (Jnl.new (S0 n))=some (Jnl.new (S0 n)):=rfl
  rcases hs with ⟨h1,_⟩|⟨J,h1,h2⟩
  ·exact absurd (e0.symm.trans h1) (by simp)
  ·obtain rfl:Jnl.new (S0 n)=J:=Option.some.inj (e0.symm.trans h1)
   rw[clr_new (S0 n) rfl] at h2
   rcases h2 with ⟨h1,_⟩|⟨_,jb,sv,ev,es,jk,rfl,h3⟩
   ·exact absurd rfl h1
   ·exact⟨jb,rfl,_,st,db,sv,ev,es,jk,fun k hk=>hk,h3,turn_grown2 hg (fun k hk=>hk) ht⟩
section
variable {W w w1 w' : World} {jb : Nat} {J : Jnl} {v : Value} {b : List Int}
theorem JW.grown (h:JW W jb J w) (hg:w.grownBy w' none):JW W jb J w':=by
 obtain⟨own,st,db,sv,ev,es,jk,h1,h2,h3⟩:=h
 exact⟨own,st,db,sv,ev,es,jk,h1,h2.grown hg,grown_trans h3 hg⟩
theorem JW.gr (h:JW W jb J w):W.grownBy w none:=by
 obtain⟨own,st,db,sv,ev,es,jk,h1,h2,h3⟩:=h
 exact h3
theorem JW.prot (h:JW W jb J w1) (hg:w1.grownBy w none):∃own st db sv ev es jk,(∀k,k<W.heap.size→own k)∧(∀k,w1.heap.size≤k→k<w.heap.size→own k)∧JAt own w jb st db sv ev es jk J∧W.grownBy w none:=by
 obtain⟨own,st,db,sv,ev,es,jk,h1,h2,h3⟩:=h
 refine⟨fun k=>own k∨(w1.heap.size≤k∧k<w.heap.size),st,db,sv,ev,es,jk,fun k hk=>Or.inl (h1 k hk),fun k a b=>Or.inr ⟨a,b⟩,h2.oth (turn_grJ hg) (fun k hk=>hk.imp id And.left) (fun k hk=>hk.elim (fun e=>Nat.lt_of_lt_of_le (h2.olt e) hg.size) And.right),grown_trans h3 hg⟩
theorem JW.app (h:JW W jb J w1) (hg:w1.grownBy w none) (hv:RowP (fun k=>w1.heap.size≤k∧k<w.heap.size) w v (bytesV b)) (hbb:BL b) (hl:b.length≤10000000) (hf:J.S.d.late.length+600<1000000) (he:J.entries.length<1000000) :
  Calls Tryz.prog 50 #[.pointer (some ⟨jb,0,none⟩),v] w fun e w'=>e = .returned (.int .i64 (J.app b).2)∧JW W jb (J.app b).1 w':=by
 obtain⟨own,st,db,sv,ev,es,jk,h1,h2,h3,h4⟩:=h.prot hg
 refine(jappend h3 (hv.mono fun k hk=>h2 k hk.1 hk.2) hbb hl hf he).mono ?_
 rintro e w' ⟨rfl,⟨ev',es',jk',g1⟩,g2⟩
 exact⟨rfl,own,st,db,sv,ev',es',jk',h1,g1,turn_grown2 h4 h1 g2⟩
theorem JW.cp (h:JW W jb J w1) (hg:w1.grownBy w none) (hv:RowP (fun k=>w1.heap.size≤k∧k<w.heap.size) w v (bytesV b)) (hbb:BL b) (hl:b.length≤10000000) (hf:J.S.d.late.length+600<1000000)
  (hk:∀r∈(J.put 67 b).1.S.recs,1≤r.1∧r.1≤4611686018427387904) (hs:(J.put 67 b).1.S.keys.Pairwise (·< ·)) (hl2:(J.put 67 b).1.S.recs.length≤1000) (hf2:(J.put 67 b).1.S.d.late.length+1000<1000000) :
  Calls Tryz.prog 53 #[.pointer (some ⟨jb,0,none⟩),v] w fun e w'=>e = .returned (.int .i64 (J.cp b).2)∧JW W jb (J.cp b).1 w':=by
 obtain⟨own,st,db,sv,ev,es,jk,h1,h2,h3,h4⟩:=h.prot hg
 refine(jcheckpoint h3 (hv.mono fun k hk=>h2 k hk.1 hk.2) hbb hl hf hk hs hl2 hf2).mono ?_
 rintro e w' ⟨rfl,⟨sv',ev',es',jk',g1⟩,g2⟩
 exact⟨rfl,own,st,db,sv',ev',es',jk',h1,g1,turn_grown2 h4 h1 g2⟩
theorem JW.free (h:JW W jb J w):Calls Tryz.prog 51 #[.pointer (some ⟨jb,0,none⟩)] w fun e w'=>e = .returned (.int .i64 (freeN J.S.taken))∧w'=w:=by
 obtain⟨own,st,db,sv,ev,es,jk,h1,h2,h3⟩:=h
 exact jfree h2
theorem JW.ents (h:JW W jb J w) (hl:∀b∈J.entries,b.length≤10000000) (he:J.entries.length<1000000):Calls Tryz.prog 52 #[.pointer (some ⟨jb,0,none⟩)] w fun e w'=>∃v ms,e = .returned v∧OutE w w' v ms J.entries∧w.grownBy w' none:=by
 obtain⟨own,st,db,sv,ev,es,jk,h1,h2,h3⟩:=h
 exact jentries h2 hl he
theorem JW.state (h:JW W jb J w) (hl:J.state.length≤100000000):Calls Tryz.prog 54 #[.pointer (some ⟨jb,0,none⟩)] w fun e w'=>w.grownBy w' none∧((J.at_=0∧e = .returned (.tuple #[.slice none 0 0,.bool false]))∨(J.at_≠0∧∃v,e = .returned (.tuple #[v,.bool true])∧NewRow w w' v J.state)):=by
 obtain⟨own,st,db,sv,ev,es,jk,h1,h2,h3⟩:=h
 exact jstate h2 hl
end
theorem jst_room {S S':Sto} {N:Nat} {k:Int} {b:List Int} {fr:List Nat} (h:JSt S N) (h':JSt S' N) (hr:S'.recs=S.recs ++ [(k,(b,fr))]):freeN S'.taken+fr.length=freeN S.taken:=by
 have h1:=h.free
 have h2:=h'.free
 have e:lds S'=lds S++fr:=by
  unfold lds
  rw[hr]
  simp
 rw[e,List.length_append] at h2
 omega
structure RoomI (i:Nat) (J:Jnl):Prop where
 st:JSt J.S 70
 brk:J.broken=0
 next:J.S.next=(i:Int)+1
 recs:J.S.recs.length=i
 ents:J.entries.length=i
 short:∀b∈J.entries,b.length≤300
 room:70≤freeN J.S.taken+2*i
theorem RoomI.step {i:Nat} {J:Jnl} (h:RoomI i J) (hi:i<30) {b:List Int} (hb:b.length≤300):(J.app b).2=0∧RoomI (i+1) (J.app b).1∧freeN (J.app b).1.S.taken+partsN (b.length+1)=freeN J.S.taken:=by
 have hp:partsN (b.length+1)≤2:=by unfold partsN;omega
 have hr:=h.room
 obtain⟨S',fr,e,g1,g2,g3,g4⟩:=jj_app h.st h.brk (by rw[h.next];omega) (b:=b) (by omega) (by omega) (partsN_pos _)
 have hf:=jst_room h.st g1 g2
 rw[e]
 refine⟨rfl,⟨g1,h.brk,?_,?_,?_,?_,?_⟩,?_⟩
 ·show S'.next=_
  rw[g3,h.next];omega
 ·show S'.recs.length=_
  rw[g2,List.length_append,h.recs];rfl
 ·show(J.entries ++ [b]).length=_
  rw[List.length_append,h.ents];rfl
 ·intro x hx
  rcases List.mem_append.1 hx with e|e
  ·exact h.short x e
  ·rw[List.mem_singleton.1 e];exact hb
 ·show 70≤freeN S'.taken+2*(i+1)
  omega
 ·show freeN S'.taken+_=_
  omega
theorem RoomI.last {i:Nat} {J:Jnl} (h:RoomI i J) (hi:i≤30) {b:List Int} (hb:b.length≤600):(J.cp b).2=0∧freeN (J.cp b).1.S.taken+partsN (b.length+1)=70∧(J.cp b).1.state=b∧(J.cp b).1.entries = []∧(J.cp b).1.at_≠0:=by
 have hp:partsN (b.length+1)≤3:=by unfold partsN;omega
 have hr:=h.room
 obtain⟨S',fr,e,g1,g2,g3,g4⟩:=jj_cp h.st h.brk (by rw[h.next];omega) (b:=b) (by omega) (by omega) (partsN_pos _)
 have hf:=g1.free
 have e2:lds S'=fr:=by
  unfold lds
  rw[g2]
  simp
 rw[e2] at hf
 rw[e]
 refine⟨rfl,?_,rfl,rfl,?_⟩
 ·show freeN S'.taken+_=70
  omega
 ·show J.S.next≠0
  rw[h.next];omega
theorem RoomI.asks {i:Nat} {J:Jnl} (h:RoomI i J) (hi:i≤30) {b:List Int} (hb:b.length≤600):(∀r∈(J.put 67 b).1.S.recs,1≤r.1∧r.1≤4611686018427387904)∧(J.put 67 b).1.S.keys.Pairwise (·< ·)∧(J.put 67 b).1.S.recs.length≤1000∧(J.put 67 b).1.S.d.late.length+1000<1000000:=by
 have hp:partsN (b.length+1)≤3:=by unfold partsN;omega
 have hr:=h.room
 obtain⟨S',fr,e,g1,g2,g3,g4⟩:=jj_put h.st h.brk (by rw[h.next];omega) 67 (b:=b) (by omega) (by omega) (partsN_pos _)
 rw[e]
 refine⟨fun r hr=>?_,g1.up,?_,?_⟩
 ·have:=g1.kn r hr
  rw[g3,h.next] at this
  omega
 ·show S'.recs.length≤_
  rw[g2,List.length_append,h.recs,List.length_singleton]
  omega
 ·show S'.d.late.length+_<_
  have:=g1.late
  omega
theorem roomI_new:RoomI 0 (Jnl.new (S0 70)):=⟨jst_new 70,rfl,rfl,rfl,rfl,fun b hb=>by simp[Jnl.new] at hb,by show 70≤freeN (List.replicate 70 false)+0;decide⟩
attribute [local go_sem] Oper.semAt_some
section
variable {W : World}
theorem rparts_nat (m:Nat) (hm:m≤1000) (w:World):Calls Tryz.prog 16 #[.int .i64 ((m:Int)+1)] w fun e w'=>e = .returned (.int .i64 (partsN (m+1):Int))∧w'=w:=by
 refine(rparts_all ((m:Int)+1) (by omega) w).mono ?_
 rintro e w' ⟨rfl,h⟩
 refine⟨?_,h⟩
 rw[if_neg (by omega),show((m:Int)+1).toNat=m+1 by omega]
set_option maxHeartbeats 8000000 in
set_option maxRecDepth 100000 in
theorem jroom (p:Option Addr) (n cap:Nat) (xs:List Int) (y:Int) (hn:xs.length=n) (hc:∀j (hj:j<xs.length),∃a,p=some a∧a.block<W.heap.size∧W.cell? (a.add j)=some (.int .u16 xs[j]))
  (hx:∀x∈xs,0≤x∧x≤65535) (hy:0≤y∧y≤65535)
  (hw:∀w,Calls Tryz.prog 48 #[] w fun e w'=>e = .returned (.bool true)∧w.grownBy w' none) :
  Calls Tryz.prog 8 #[.slice p n cap,.int .u16 y] W fun e w'=>e = .returned (.bool true)∧W.grownBy w' none:=by
 have HWK:=Lib.hid hw
 by_cases h30:30<n
 ·have h1:(30:Int)<(n:Int):=by omega
  clear hc hx hw hn
  go_enter Tryz.func8,Tryz.ntmps8
  go_wp2_with (go_at_call 48;refine(HWK.out _).mono ?_;rintro e w1 ⟨rfl,h5⟩;have H5:=Lib.hid h5;clear h5)
  go_ret
  exact⟨rfl,H5.out⟩
 ·have h1:¬(30:Int)<(n:Int):=by omega
  have HN:=Lib.hid (dnew 70 W)
  have HX:=Lib.hid hx
  have HL:=Lib.hid hn
  have HC:=Lib.hid hc
  clear hc hx hw hn
  go_enter Tryz.func8,Tryz.ntmps8
  go_upto_region 9 with (first
   | (go_at_call 19;refine HN.out.mono ?_;rintro e w1 ⟨db,rfl,hg1,-,hd1⟩;have HOP:=Lib.hid (jopen_new (W:=W) 70 hg1 hd1);clear hg1 hd1)
   | (go_at_call 49;refine HOP.out.mono ?_;rintro e w2 ⟨jb,rfl,hj⟩;have HJ0:=Lib.hid hj;clear hj HOP))
  clear HN
  have hn30:n≤30:=by omega
  go_loopw [8,9] (fun f i wr=>∃(j:Nat) (J:Jnl),j≤n∧i = .int .i64 j∧f = .int .i64 (freeN J.S.taken:Int)∧JW W jb J wr∧RoomI j J) (fun _ i _=>n-(intOf i).toNat)
  case atStart=>exact⟨0,_,Nat.zero_le _,rfl,rfl,HJ0.out,roomI_new⟩
  case round=>
   obtain⟨j,J,hj,rfl,rfl,hw,hr⟩:=hrel
   have HW:=Lib.hid hw
   have HR:=Lib.hid hr
   clear hw hr
   by_cases hjn:j<n
   ·have hjx:j<xs.length:=by rw[HL.out];exact hjn
    obtain⟨a,rfl,hal,e0⟩:=HC.out j hjx
    have e1:wr.cell? (a.add j)=some (.int .u16 xs[j]):=(HW.out.gr).cell e0 (by simp)
    have e2:(0:Int)≤(j:Int):=by omega
    have e3:(j:Int)<(n:Int):=by omega
    obtain⟨x1,x2⟩:=HX.out _ (List.getElem_mem hjx)
    generalize xs[j]=x at *
    clear e0
    go_upto_region 12 with fail
    obtain⟨m,hm⟩:∃m:Nat,x%301=(m:Int):=⟨(x%301).toNat,by omega⟩
    have hm3:m≤300:=by omega
    rw[hm]
    clear hm x1 x2 e1
    have hmk:∀w:World,(Instr.makeSlice 32 (.int .i64 (m:Int)) (.int .i64 (m:Int))).run Tryz.prog w=_:=run_mkBytes m (by omega)
    have HS:=Lib.hid (HR.out.step (by omega) (b:=List.replicate m 0) (by rw[List.length_replicate];exact hm3))
    have HAP:Hid (∀w,wr.grownBy w none→∀v,RowP (fun k=>wr.heap.size≤k∧k<w.heap.size) w v (bytesV (List.replicate m 0))→Calls Tryz.prog 50 #[.pointer (some ⟨jb,0,none⟩),v] w fun e w'=>e = .returned (.int .i64 0)∧JW W jb (J.app (List.replicate m 0)).1 w'):=(show ∀_,_→∀_,_→Calls _ _ _ _ _ from fun w hg v hv=>by
     have h1:=HW.out.app hg hv (z_BL m) (by rw[List.length_replicate];omega) (by have:=HR.out.st.late;omega) (by have:=HR.out.ents;omega)
     rw[HS.out.1] at h1
     exact h1)
    have HM:Hid ((List.replicate m (0:Int)).length=m):=Lib.hid List.length_replicate
    have HPT:=Lib.hid (rparts_nat m (by omega))
    go_upto_region 14 with (go_at_call 50;refine(HAP.out _ (World.grownBy_alloc _ _ none) _ (by have h9:=rowP_alloc (w:=wr) (b:=List.replicate m 0) (T:=5) (cap:=m) (by rw[List.length_replicate];exact Nat.le_refl _) (by omega) wr.heap.size (Nat.le_refl _);rw[List.length_replicate] at h9;exact h9)).mono ?_;rintro e w3 ⟨rfl,hj3⟩;have HW3:=Lib.hid hj3;clear hj3)
    have HS2:=Lib.hid HS.out.2
    have hbd:=HS.out.2.2
    have hb70:freeN J.S.taken≤70:=by have:=HR.out.st.free;omega
    have HRF:=Lib.hid HS.out.2.1.st
    clear HS HAP
    generalize (J.app (List.replicate m 0)).1=J2 at *
    rw[List.length_replicate] at hbd
    have HFR:=Lib.hid HW3.out.free
    have HEN:=Lib.hid (HW3.out.ents (fun b hb=>by have:=HS2.out.1.short b hb;omega) (by have:=HS2.out.1.ents;omega))
    generalize freeN J.S.taken=F at *
    generalize hF2:freeN J2.S.taken=F2 at *
    have HF2:=Lib.hid hF2
    clear hF2
    generalize partsN (m+1)=P at *
    have hF:(F:Int)-(P:Int)=(F2:Int):=by omega
    have hF0:(0:Int)≤(F2:Int):=by omega
    have hF1:(F2:Int)≤70:=by omega
    go_upto_region 15 with (go_at_call 16;refine(HPT.out _).mono ?_;rintro e w4 ⟨rfl,h5⟩;obtain rfl:w3=w4:=h5.symm)
    go_wp2_with (first
     | (go_at_call 51;refine HFR.out.mono ?_;rintro e w5 ⟨rfl,h5⟩;obtain rfl:w3=w5:=h5.symm)
     | (go_at_call 52;refine HEN.out.mono ?_;rintro e w6 ⟨v,ms,rfl,ho,hg6⟩;obtain⟨pv,cv,rfl,-,-⟩:=ho.1.form;have hml:ms.length=j+1:=ho.2.2.len.trans HS2.out.1.ents;have hml2:(ms.length:Int)=(j:Int)+1:=(by rw[hml];omega);rw[hml];have HG6:=Lib.hid hg6;clear ho hg6 hml))
    exact⟨⟨j+1,J2,by omega,by simp,by rw[HF2.out],HW3.out.grown HG6.out,HS2.out.1⟩,by simp[intOf];omega⟩
   ·obtain rfl:j=n:=by omega
    clear HX HL HC HJ0
    go_upto_region 18 with fail
    obtain⟨m,hm⟩:∃m:Nat,y%601=(m:Int):=⟨(y%601).toNat,by omega⟩
    have hm6:m≤600:=by omega
    rw[hm]
    clear hm hy
    have hmk:∀w:World,(Instr.makeSlice 32 (.int .i64 (m:Int)) (.int .i64 (m:Int))).run Tryz.prog w=_:=run_mkBytes m (by omega)
    have hlr:(List.replicate m (0:Int)).length=m:=List.length_replicate
    have HL2:=Lib.hid (HR.out.last hn30 (b:=List.replicate m 0) (by rw[hlr];exact hm6))
    have HAK:=Lib.hid (HR.out.asks hn30 (b:=List.replicate m 0) (by rw[hlr];exact hm6))
    have HCP:Hid (∀w,wr.grownBy w none→∀v,RowP (fun k=>wr.heap.size≤k∧k<w.heap.size) w v (bytesV (List.replicate m 0))→Calls Tryz.prog 53 #[.pointer (some ⟨jb,0,none⟩),v] w fun e w'=>e = .returned (.int .i64 0)∧JW W jb (J.cp (List.replicate m 0)).1 w'):=Lib.hid fun w hg v hv=>by
     have h1:=HW.out.cp hg hv (z_BL m) (by rw[hlr];omega) (by have:=HR.out.st.late;omega) HAK.out.1 HAK.out.2.1 HAK.out.2.2.1 HAK.out.2.2.2
     rw[HL2.out.1] at h1
     exact h1
    have HLR:=Lib.hid hlr
    have HPT:=Lib.hid (rparts_nat m (by omega))
    clear hlr
    go_upto_region 20 with (go_at_call 53;refine(HCP.out _ (World.grownBy_alloc _ _ none) _ (by have h9:=rowP_alloc (w:=wr) (b:=List.replicate m 0) (T:=5) (cap:=m) (by rw[List.length_replicate];exact Nat.le_refl _) (by omega) wr.heap.size (Nat.le_refl _);rw[List.length_replicate] at h9;exact h9)).mono ?_;rintro e w3 ⟨rfl,hj3⟩;have HW3:=Lib.hid hj3;clear hj3)
    have HFR:=Lib.hid HW3.out.free
    obtain⟨-,q1,q2,q3,q4⟩:=HL2.out
    have HST:Hid (Calls Tryz.prog 54 #[.pointer (some ⟨jb,0,none⟩)] w3 fun e w'=>∃p c,e = .returned (.tuple #[.slice p m c,.bool true])∧w3.grownBy w' none):=Lib.hid ((HW3.out.state (by rw[q2,HLR.out];omega)).mono (by
     rintro e w' ⟨hg,⟨h1,-⟩|⟨-,v,rfl,hn⟩⟩
     ·exact absurd h1 q4
     ·rw[q2] at hn
      obtain⟨p,c,rfl,-⟩:=(NewRow.rowP hn (by rw[HLR.out];omega)).raw.ex
      exact⟨p,c,by rw[HLR.out],hg⟩))
    have HEN:Hid (∀w4,w3.grownBy w4 none→Calls Tryz.prog 52 #[.pointer (some ⟨jb,0,none⟩)] w4 fun e w'=>∃p c,e = .returned (.slice p 0 c)∧w4.grownBy w' none):=Lib.hid fun w4 hg=>(((HW3.out.grown hg).ents (by rw[q3];simp) (by rw[q3];decide)).mono (by
     rintro e w' ⟨v,ms,rfl,ho,hg⟩
     have hl:=ho.2.2.len
     rw[q3] at hl
     obtain⟨p,c,rfl,-,-⟩:=ho.1.form
     exact⟨p,c,by rw[hl];rfl,hg⟩))
    have HFR2:Hid (∀w4,w3.grownBy w4 none→Calls Tryz.prog 51 #[.pointer (some ⟨jb,0,none⟩)] w4 fun e w'=>e = .returned (.int .i64 (freeN (J.cp (List.replicate m 0)).1.S.taken:Int))∧w'=w4):=Lib.hid fun w4 hg=>(HW3.out.grown hg).free
    rw[HLR.out] at q1
    have HG3:=Lib.hid HW3.out.gr
    clear HFR HCP HAK HL2 HW HR HW3 q2 q3 q4
    generalize freeN (J.cp (List.replicate m 0)).1.S.taken=F at *
    generalize partsN (m+1)=P at *
    have hF:(70:Int)-(P:Int)=(F:Int):=by omega
    have hP:P≤70:=by omega
    go_upto_region 21 with (go_at_call 54;refine HST.out.mono ?_;rintro e w4 ⟨ps,cs,rfl,hg⟩;have HG4:=Lib.hid hg;clear hg)
    go_wp2_with (first
     | (go_at_call 51;refine(HFR2.out _ HG4.out).mono ?_;rintro e w5 ⟨rfl,h5⟩;obtain rfl:w4=w5:=h5.symm)
     | (go_at_call 16;refine(HPT.out _).mono ?_;rintro e w6 ⟨rfl,h5⟩;obtain rfl:w4=w6:=h5.symm)
     | (go_at_call 52;refine(HEN.out _ HG4.out).mono ?_;rintro e w7 ⟨pe,ce,rfl,hg⟩;have HG7:=Lib.hid hg;clear hg)
     | (go_at_call 48;refine(HWK.out _).mono ?_;rintro e w8 ⟨rfl,hg⟩;have HG8:=Lib.hid hg;clear hg))
    go_ret
    exact⟨rfl,HG3.out.trans (HG4.out.trans (HG7.out.trans HG8.out))⟩
end
structure DG (d:Dk) (n:Nat) (P:List (Int × List Int)→Prop) (next:Int):Prop where
 nn:d.n=n
 late:d.late.length≤5000
 good:∀fates,∃al blk,P al∧Good crcB (fun i=>scrub crcB (bk (mixes fates 0 d.late d.st) i)) n al blk next
theorem DG.mono {d:Dk} {n:Nat} {P Q:List (Int × List Int)→Prop} {next m:Int} (h:DG d n P next) (hp:∀al,P al→Q al) (hm:next≤m):DG d n Q m:=
 ⟨h.nn,h.late,fun f=>by
  obtain⟨al,blk,h1,h2⟩:=h.good f
  exact⟨al,blk,hp al h1,h2.up hm⟩⟩
theorem KBad.to {d:Dk} {n:Nat} {now all:List (Int × List Int)} {next:Int} (h:KBad d n now all next):DG d n (fun al=>al=all∨al=now) next:=
 ⟨h.nn,by have:=h.late;omega,h.dg⟩
theorem opened_diskF {d:Dk} (hoff:d.off=false) (hl:d.late = []) (hst:∀i,i<d.n→bk d.st i=bk d.now i) (hok:d.opened.2=0) :
  d.opened.1.off=false∧d.opened.1.n=d.n∧d.opened.1.late = []∧(∀i,i<d.n→bk d.opened.1.st i=bk d.opened.1.now i)∧∀i,i<d.n→bk d.opened.1.now i=scrub crcB (bk d.now i):=by
 by_cases h0:(opnD d d.n).2.1=0
 ·have ok:=opn_ok hoff d.n (Nat.le_refl _) h0
  unfold Dk.opened at hok ⊢
  rw[if_neg (by simp[h0])] at hok ⊢
  cases hf:(opnD d d.n).2.2
  ·have e:=opnD_same d.n h0 hf
   simp only[Bool.false_eq_true,if_false]
   have hm:=ok.met
   rw[e] at hm ⊢
   exact⟨hoff,rfl,hl,hst,hm⟩
  ·rw[hf] at hok
   simp only[if_true] at hok ⊢
   rcases sync_spec ok.off with ⟨_,s2,s3,s4,s5,s6⟩|⟨a,_⟩
   ·exact⟨s2,s6.trans ok.nn,s3,fun i hi=>by rw[s4,s5],fun i hi=>by rw[s4];exact ok.met i hi⟩
   ·rw[hok] at a;cases a
 ·unfold Dk.opened at hok
  rw[if_pos h0] at hok
  exact absurd hok h0
theorem kopenF {d:Dk} (hoff:d.off=false) (hl:d.late = []) (hst:∀i,i<d.n→bk d.st i=bk d.now i) (hok:d.opened.2=0) {all:List (Int × List Int)} {blk:Int→List Nat} {next:Int} (g:Good crcB (fun i=>scrub crcB (bk d.now i)) d.n all blk next) {ks:List Key19} (hk:KeysOf d ks):KInv (openS d ks) all blk∧(openS d ks).next≤next∧(openS d ks).d=d.opened.1∧d.opened.1.n=d.n:=by
 obtain⟨o1,o2,o3,o4,o5⟩:=opened_diskF hoff hl hst hok
 have hs:∀i,i<d.n→saidP crcB (bk d.now i)=saidP crcB ((fun i=>scrub crcB (bk d.now i)) i):=fun i _=>(said_scrub _).symm
 have hr:=recs_of hk g hs
 have e:=scan_same (C:=crcB) (N:=d.n) (f:=fun i=>scrub crcB (bk d.now i)) (g:=bk d.now) hs d.n (Nat.le_refl _)
 obtain⟨g1,g2⟩:=g.opened
 rw[←e] at g1 g2
 obtain⟨p1,p2,p3⟩:=pickSto_d (scanN crcB (bk d.now) d.n).rows ks ⟨d.opened.1,[],List.replicate d.n false,(scanN crcB (bk d.now) d.n).next,0⟩
 obtain⟨t1,t2⟩:=pick_taken (scanN crcB (bk d.now) d.n).rows ks ⟨d.opened.1,[],List.replicate d.n false,(scanN crcB (bk d.now) d.n).next,0⟩ (by simp)
 have t2':(openS d ks).taken.length=d.n:=t2.trans List.length_replicate
 have p1':(openS d ks).d=d.opened.1:=p1
 have p2':(openS d ks).next=(scanN crcB (bk d.now) d.n).next:=p2
 refine⟨⟨?_,?_,?_,?_,p3,hr,?_,?_⟩,?_,p1',o2⟩
 ·rw[p1',p2',o2]
  exact g1.same fun i hi=>o5 i hi
 ·rw[p1',o2];exact o4
 ·rw[p1'];exact o3
 ·rw[p1'];exact o1
 ·rw[t2',p1',o2]
 ·intro q hq i hi
  have hm:(q.1,(q.2,blk q.1))∈(openS d ks).recs:=by rw[hr];exact List.mem_map.2 ⟨q,hq,rfl⟩
  exact t1 _ hm i hi (by rw[show(pickSto _ ks _).taken.length=d.n from t2'];exact g.blt q hq i hi)
 ·rw[p2'];exact g2
end Go.Proofs.YtbcbhlfjgobejaaGreat
