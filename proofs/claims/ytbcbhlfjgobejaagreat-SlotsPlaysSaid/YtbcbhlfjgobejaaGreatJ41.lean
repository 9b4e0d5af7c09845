/- The document's store, plainly: Put, Remove; the program's does the same. Conditions: none, or as the theorems say. -/
import Derived.Test.YtbcbhlfjgobejaaGreatJ40
import Derived.Test.YtbcbhlfjgobejaaGreatJ32
import Derived.Test.YtbcbhlfjgobejaaGreatJ33
import Derived.Test.YtbcbhlfjgobejaaGreatJ19
set_option linter.unusedSimpArgs false
set_option linter.unusedVariables false
namespace Go.Proofs.YtbcbhlfjgobejaaGreat
set_option maxHeartbeats 200000000
open Go.Sf
structure qm (S:Sto) (D:Doc):Prop where
 d:yx S.d D.R
 w : -1≤S.d.well
 L:S.recs=D.L
 next:S.next=D.next
 broken:S.broken=D.broken
 srt:D.L.Pairwise fun a b=>a.1<b.1
 key:∀y∈D.L,1≤y.1∧y.1<D.next
 n0:1≤D.next
 n1:D.next≤4611686018427387905
 tl:S.taken.length=S.d.n
 tk:∀i,i<S.d.n→S.taken[i]? = some (decide (i∈uy D.L))
 blk:∀y∈D.L,y.2.2≠[]∧(∀b∈y.2.2,b<S.d.n)∧y.2.2.length≤100000
 ap:∀y∈D.L,∀z∈D.L,y.1≠z.1→∀b∈y.2.2,b ∉ z.2.2
theorem zdm {L:List (Int × ye)} (h:L.Pairwise fun a b=>a.1<b.1):(L.map (·.1)).Nodup:=by
 rw[List.nodup_iff_pairwise_ne,List.pairwise_map]
 exact h.imp fun h=>by omega
theorem Qu (x:Bool):∀(bl:List Nat) (t:List Bool) (i:Nat),i<t.length→(jt t bl x)[i]? = if i∈bl then some x else t[i]?
 | [],t,i,_=>by simp[jt]
 | b :: bl,t,i,hi=>by
  have ih:=Qu x bl (t.set b x) i (by rw[List.length_set];exact hi)
  show(jt (t.set b x) bl x)[i]? = _
  rw[ih]
  by_cases h1:i∈bl
  ·rw[if_pos h1,if_pos (by simp[h1])]
  ·rw[if_neg h1]
   by_cases h2:i=b
   ·subst h2
    rw[if_pos (by simp),List.getElem?_set_self hi]
   ·rw[if_neg (by simp[h1,h2]),List.getElem?_set_ne (fun e=>h2 e.symm)]
theorem Qa {L:List (Int × ye)} {i:Nat}:i∈uy L↔∃y∈L,i∈y.2.2:=by
 unfold uy;rw[List.mem_flatMap]
theorem ze9 (L M:List (Int × ye)):uy (L++M)=uy L++uy M:=by unfold uy;rw[List.flatMap_append]
theorem zfa (y:Int × ye):uy [y]=y.2.2:=by simp[uy]
theorem zlu {B:List Nat} {n i:Nat}:i∈qp B n↔i<n∧i ∉ B:=by
 unfold qp;rw[List.mem_filter,List.mem_range];simp
section
variable {S : Sto} {D : Doc} {d : Dk} {R : RDk} {b : List Int}
theorem Xv (h : -1≤d.well) (i:Int) (b:List Int) : -1≤(d.written i b).well:=by
 unfold Dk.written
 split
 ·exact h
 ·split
  ·show -1≤max (-1) (d.well-1);omega
  ·show(-1:Int)≤-1;omega
theorem Vq (h : -1≤d.well) : -1≤d.synced.well:=by
 unfold Dk.synced
 split
 ·exact h
 ·split
  ·show -1≤max (-1) (d.well-1);omega
  ·show(-1:Int)≤-1;omega
theorem zax:∀(ws:List (Nat × List Int)) (d:Dk) (w:Nat × List Int),d.writes (ws ++ [w])=if (d.writes ws).2=0 then ((d.writes ws).1.written w.1 w.2,(d.writes ws).1.writeV w.1 w.2) else d.writes ws
 | [],d,w=>by
  show d.writes [w]=if (0:Int)=0 then (d.written w.1 w.2,d.writeV w.1 w.2) else (d,0)
  rw[if_pos rfl];unfold Dk.writes
  split
  ·rename_i h;rw[h];rfl
  ·rfl
 | a :: ws,d,w=>by
  rw[List.cons_append]
  by_cases h:d.writeV a.1 a.2=0
  ·have e1:∀ws,d.writes (a :: ws)=(d.written a.1 a.2).writes ws:=fun ws=>by
    conv=>lhs;unfold Dk.writes
    rw[if_pos h]
   rw[e1,e1,zax ws]
  ·have e1:∀ws,d.writes (a :: ws)=(d.written a.1 a.2,d.writeV a.1 a.2):=fun ws=>by
    conv=>lhs;unfold Dk.writes
    rw[if_neg h]
   rw[e1,e1,if_neg h]
theorem zcu:∀(ws:List (Nat × List Int)) (d:Dk),(d.writes ws).1.n=d.n
 | [],d=>rfl
 | a :: ws,d=>by
  unfold Dk.writes
  split
  ·rw[zcu ws,Za]
  ·exact Za _ _ _
theorem zd1 (h:yx d R) (hw : -1≤d.well) (x:Nat→Nat × List Int):∀n,(putsR R x n).2=(d.writes ((List.range n).map x)).2∧yx (d.writes ((List.range n).map x)).1 (putsR R x n).1∧-1≤(d.writes ((List.range n).map x)).1.well
 | 0=>⟨rfl,h,hw⟩
 | n+1=>by
  obtain⟨i1,i2,i3⟩:=zd1 h hw x n;rw[List.range_succ,List.map_append,List.map_singleton,zax]
  by_cases h0:(d.writes ((List.range n).map x)).2=0
  ·rw[if_pos h0,zce (by rw[i1];exact h0)]
   obtain⟨w1,w2⟩:=Xr i2 i3 ((x n).1:Int) (x n).2
   exact⟨w1,w2,Xv i3 _ _⟩
  ·rw[if_neg h0,Jt (by rw[i1];exact h0)]
   exact⟨i1,i2,i3⟩
theorem qm.free (h:qm S D) (n:Nat):yn S.taken n S.taken.length=D.free.take n:=by
 unfold yn Doc.free qp;rw[h.d.n,h.tl]
 congr 1
 apply List.filter_congr
 intro i hi;rw[h.tk i (List.mem_range.1 hi)]
 by_cases hm:i∈uy D.L <;> simp[hm]
theorem qm.freeN (h:qm S D):freeN S.taken=D.free.length:=by
 have e:S.taken=(List.range S.d.n).map fun i=>decide (i∈uy D.L):=by
  apply List.ext_getElem?
  intro i
  by_cases hi:i<S.d.n
  ·rw[h.tk i hi];simp[hi]
  ·rw[List.getElem?_eq_none (by rw[h.tl];omega),List.getElem?_eq_none (by simp;omega)]
 unfold Doc.free qp;rw[h.d.n,e];unfold Go.Proofs.YtbcbhlfjgobejaaGreat.freeN;rw[List.countP_map,List.countP_eq_length_filter]
 congr 1
 apply List.filter_congr
 intro i _;simp
theorem qm.disk (h:qm S D) {d':Dk} {R':RDk} (hd:yx d' R') (hw : -1≤d'.well) (hn:d'.n=S.d.n) (e:Int) (e':Int) (he:e=e'):qm { S with d:=d',broken:=e } { D with R:=R',broken:=e' }:=
 ⟨hd,hw,h.L,h.next,he,h.srt,h.key,h.n0,h.n1,h.tl.trans hn.symm,fun i hi=>h.tk i (by rw[←hn];exact hi),fun y hy=>⟨(h.blk y hy).1,fun b hb=>by show b<d'.n;rw[hn];exact(h.blk y hy).2.1 b hb,(h.blk y hy).2.2⟩,h.ap⟩
theorem zef (S:Sto) (d:Dk) {e:Int} (he:e≠0):S.did d e = { S with d:=d,broken:=e }:=by
 unfold Sto.did Sto.met;rw[if_neg he]
theorem zm1 (h:qm S D) (b:List Int):(S.put b).2=(D.put b).2∧qm (S.put b).1 (D.put b).1:=by
 have hfr:=h.free (zo b.length);unfold Sto.put Doc.put
 by_cases h1:D.broken≠0
 ·rw[if_pos h1,if_pos (by rw[h.broken];exact h1),h.broken]
  exact⟨rfl,h⟩
 rw[if_neg h1,if_neg (by rw[h.broken];exact h1),h.next]
 by_cases h2:131072<b.length∨4611686018427387904<D.next
 ·rw[if_pos h2,if_pos h2]
  exact⟨rfl,h⟩
 rw[if_neg h2,if_neg h2,hfr];have hpn:zo b.length≤570:=by unfold zo;omega
 by_cases h3:D.free.length<zo b.length
 ·rw[if_pos h3,if_pos (by rw[List.length_take];omega)]
  exact⟨rfl,h⟩
 have hln:(D.free.take (zo b.length)).length=zo b.length:=by rw[List.length_take];omega
 rw[if_neg h3,if_neg (by rw[hln];omega)]
 have hws:vp zu D.next b (D.free.take (zo b.length))=(List.range (zo b.length)).map (D.part b):=by
  unfold vp;rw[hln]
  apply List.map_congr_left
  intro j hj;have hj:=List.mem_range.1 hj;unfold Doc.part;simp only[List.getD_eq_getElem?_getD];rw[List.getElem?_take_of_lt hj]
 rw[hws];obtain⟨p1,p2,p3⟩:=zd1 h.d h.w (D.part b) (zo b.length);have p4:=zcu ((List.range (zo b.length)).map (D.part b)) S.d;have hP:D.puts b=putsR D.R (D.part b) (zo b.length):=rfl;rw[hP];generalize (S.d.writes ((List.range (zo b.length)).map (D.part b)))=dw at *;generalize putsR D.R (D.part b) (zo b.length)=rw_ at *
 by_cases h4:rw_.2≠0
 ·rw[if_pos h4,if_pos (by rw[←p1];exact h4),zef _ _ (by rw[←p1];exact h4)]
  exact⟨by rw[p1],h.disk p2 p3 p4 _ _ p1.symm⟩
 rw[if_neg h4,if_neg (by rw[←p1];exact h4)]
 obtain⟨s1,s2⟩:=Jy p2 p3;have s3:=Vq p3;have s4:dw.1.synced.n=S.d.n:=(Xi _).trans p4
 by_cases h5:rw_.1.syncV≠0
 ·rw[if_pos h5,if_pos (by rw[←s1];exact h5),zef _ _ (by rw[←s1];exact h5)]
  exact⟨by rw[s1],h.disk s2 s3 s4 _ _ s1.symm⟩
 rw[if_neg h5,if_neg (by rw[←s1];exact h5)]
 refine⟨rfl,?_⟩;have hno:∀y∈D.L,y.1≠D.next:=fun y hy=>by have:=h.key y hy;omega
 have hfm:∀i∈D.free.take (zo b.length),i<S.d.n∧i ∉ uy D.L:=fun i hi=>by
  have:=zlu.1 (List.mem_of_mem_take hi);rw[h.d.n] at this
  exact this
 have hap:∀y∈D.L,∀i∈y.2.2,i ∉ D.free.take (zo b.length):=fun y hy i hi hf=>(hfm i hf).2 (Qa.2 ⟨y,hy,hi⟩)
 have h01:=h.n0;refine⟨s2,s3,?_,?_,h.broken,?_,?_,?_,?_,?_,?_,?_,?_⟩
 ·show yu S.recs D.next (b,D.free.take (zo b.length))=_
  rw[h.L,Zj hno]
 ·rfl
 ·rw[List.pairwise_append]
  exact⟨h.srt,by simp,fun y hy z hz=>by rw[List.mem_singleton.1 hz];exact(h.key y hy).2⟩
 ·intro y hy
  show 1≤y.1∧y.1<D.next+1
  rcases List.mem_append.1 hy with g|g
  ·have:=h.key y g;omega
  ·rw[List.mem_singleton.1 g];simp only;omega
 ·show 1≤D.next+1
  omega
 ·show D.next+1≤_
  omega
 ·show(jt S.taken _ true).length=dw.1.synced.n
  rw[Zl,s4,h.tl]
 ·intro i hi
  have hi:i<S.d.n:=by rw[←s4];exact hi
  show(jt S.taken (D.free.take (zo b.length)) true)[i]? = some (decide (i∈uy (D.L ++ [(D.next,(b,D.free.take (zo b.length)))])))
  rw[Qu _ _ _ _ (by rw[h.tl];exact hi),ze9,zfa,h.tk i hi]
  by_cases hm:i∈D.free.take (zo b.length)
  ·rw[if_pos hm];simp[hm]
  ·rw[if_neg hm];simp[hm]
 ·intro y hy
  rcases List.mem_append.1 hy with g|g
  ·obtain⟨a1,a2,a3⟩:=h.blk y g
   exact⟨a1,fun i hi=>by show i<dw.1.synced.n;rw[s4];exact a2 i hi,a3⟩
  ·rw[List.mem_singleton.1 g]
   refine⟨fun e=>?_,fun i hi=>by show i<dw.1.synced.n;rw[s4];exact(hfm i hi).1,by simp only[hln];omega⟩
   have:=Xp b.length;rw[←hln] at this;simp only at e;rw[e] at this;simp at this
 ·intro y hy z hz hne
  rcases List.mem_append.1 hy with g|g <;> rcases List.mem_append.1 hz with k|k
  ·exact h.ap y g z k hne
  ·rw[List.mem_singleton.1 k]
   exact fun i hi=>hap y g i hi
  ·rw[List.mem_singleton.1 g]
   exact fun i hi hz=>hap z k i hz hi
  ·rw[List.mem_singleton.1 g,List.mem_singleton.1 k] at hne
   exact absurd rfl hne
end
theorem zdi (k:Int):∀L:List (Int × ye),zeh L k=(zx L k).map fun r=>(k,r)
 | []=>rfl
 | y :: t=>by
  have ih:=zdi k t;unfold zeh at ih ⊢;rw[List.find?_cons];unfold zx
  by_cases h:y.1=k
  ·obtain⟨y1,y2⟩:=y
   simp only at h;subst h;simp
  ·have hd:decide (y.1=k)=false:=by simpa using h
   rw[hd];simp only[h,if_false]
   exact ih
section
variable {S : Sto} {D : Doc}
theorem zm2 (h:qm S D) (k:Int):(S.rem k).2=(D.rem k).2∧qm (S.rem k).1 (D.rem k).1:=by
 unfold Sto.rem Doc.rem
 by_cases h1:D.broken≠0
 ·rw[if_pos h1,if_pos (by rw[h.broken];exact h1),h.broken]
  exact⟨rfl,h⟩
 rw[if_neg h1,if_neg (by rw[h.broken];exact h1),zdi,h.L]
 cases hg:zx D.L k with
 | none=>exact⟨rfl,h⟩
 | some r=>
  simp only[Option.map_some];have hm:=qq hg;obtain⟨p1,p2⟩:=Xr h.d h.w (r.2.headD 0:Nat) [];have p3:=Xv h.w (r.2.headD 0:Nat) [];have p4:=Za S.d (r.2.headD 0:Nat) [];generalize hdw:S.d.written (r.2.headD 0:Nat) []=dw at *;generalize S.d.writeV (r.2.headD 0:Nat) []=ve at *;generalize hrw:D.R.written (r.2.headD 0:Nat) []=rw_ at *;subst p1
  by_cases h4:D.R.writeV (r.2.headD 0:Nat) []≠0
  ·rw[if_pos h4,if_pos h4,zef _ _ h4]
   exact⟨rfl,h.disk p2 p3 p4 _ _ rfl⟩
  rw[if_neg h4,if_neg h4];obtain⟨s1,s2⟩:=Jy p2 p3;have s3:=Vq p3;have s4:dw.synced.n=S.d.n:=(Xi _).trans p4
  by_cases h5:rw_.syncV≠0
  ·rw[if_pos h5,if_pos (by rw[←s1];exact h5),zef _ _ (by rw[←s1];exact h5)]
   exact⟨by rw[s1],h.disk s2 s3 s4 _ _ s1.symm⟩
  rw[if_neg h5,if_neg (by rw[←s1];exact h5)]
  refine⟨rfl,?_⟩;have hsub:∀y∈jj D.L k,y∈D.L∧y.1≠k:=fun y hy=>by
   unfold jj at hy;have:=List.mem_filter.1 hy
   exact⟨this.1,by simpa using this.2⟩
  have hsub2:∀y∈D.L,y.1≠k→y∈jj D.L k:=fun y hy hne=>by
   unfold jj
   exact List.mem_filter.2 ⟨hy,by simpa using hne⟩
  refine⟨s2,s3,rfl,h.next,h.broken,?_,fun y hy=>h.key y (hsub y hy).1,h.n0,h.n1,?_,?_,?_,fun y hy z hz=>h.ap y (hsub y hy).1 z (hsub z hz).1⟩
  ·exact h.srt.sublist List.filter_sublist
  ·show(jt S.taken _ false).length=dw.synced.n
   rw[Zl,s4,h.tl]
  ·intro i hi
   have hi:i<S.d.n:=by rw[←s4];exact hi
   show(jt S.taken r.2 false)[i]? = some (decide (i∈uy (jj D.L k)))
   rw[Qu _ _ _ _ (by rw[h.tl];exact hi),h.tk i hi]
   by_cases hr:i∈r.2
   ·rw[if_pos hr]
    have:i ∉ uy (jj D.L k):=fun e=>by
     obtain⟨y,hy,hyi⟩:=Qa.1 e;obtain⟨g1,g2⟩:=hsub y hy
     exact h.ap y g1 (k,r) hm g2 i hyi hr
    simp[this]
   ·rw[if_neg hr]
    have:i∈uy D.L↔i∈uy (jj D.L k):=by
     rw[Qa,Qa]
     constructor
     ·rintro⟨y,hy,hyi⟩
      refine⟨y,hsub2 y hy (fun e=>?_),hyi⟩
      have:=Zi (zdm h.srt) (k:=y.1) (v:=y.2) hy;rw[e,hg] at this;rw[←Option.some.inj this] at hyi
      exact hr hyi
     ·rintro⟨y,hy,hyi⟩
      exact⟨y,(hsub y hy).1,hyi⟩
    simp[this]
  ·intro y hy
   obtain⟨a1,a2,a3⟩:=h.blk y (hsub y hy).1
   exact⟨a1,fun i hi=>by show i<dw.synced.n;rw[s4];exact a2 i hi,a3⟩
end
theorem Zb (d:Dk) (i:Int) (x:List Int):(d.written i x).late.length≤d.late.length+1:=Jb d i x
theorem Vp (d:Dk):d.synced.late.length≤d.late.length:=by
 unfold Dk.synced
 split
 ·exact Nat.le_refl _
 ·split
  ·exact Nat.zero_le _
  ·exact Nat.le_refl _
theorem zaw:∀(ws:List (Nat × List Int)) (d:Dk),(d.writes ws).1.late.length≤d.late.length+ws.length
 | [],d=>Nat.le_refl _
 | a :: ws,d=>by
  have h1:=Zb d a.1 a.2;unfold Dk.writes
  split
  ·have:=zaw ws (d.written a.1 a.2)
   simp only[List.length_cons];omega
  ·simp only[List.length_cons];omega
structure zig (S:Sto) (D:Doc) (S':Sto) (D':Doc):Prop where
 late:S'.d.late.length≤S.d.late.length+600
 n:S'.d.n=S.d.n
 len:D'.L.length≤D.L.length+1
section
variable {S : Sto} {D : Doc}
theorem zij (S:Sto) (d:Dk) (e:Int):(S.did d e).d=d:=(zbo S d e).2.2.2.1
theorem zkx (S:Sto) (D:Doc) (b:List Int):zig S D (S.put b).1 (D.put b).1:=by
 have hws:∀fr,fr=yn S.taken (zo b.length) S.taken.length→¬131072<b.length→(vp zu S.next b fr).length≤570:=fun fr h hb=>by
  have:fr.length≤zo b.length:=by rw[h];unfold yn;rw[List.length_take];omega
  unfold vp;rw[List.length_map,List.length_range];unfold zo at this;omega
 have h1:(S.put b).1.d.late.length≤S.d.late.length+600∧(S.put b).1.d.n=S.d.n:=by
  unfold Sto.put
  split
  ·exact⟨Nat.le_add_right _ _,rfl⟩
  ·split
   ·exact⟨Nat.le_add_right _ _,rfl⟩
   ·rename_i h2
    have h3:=hws _ rfl (by omega)
    generalize yn S.taken (zo b.length) S.taken.length=fr at *;have h4:=zaw (vp zu S.next b fr) S.d;have h5:=zcu (vp zu S.next b fr) S.d;generalize S.d.writes (vp zu S.next b fr)=dw at *;have h6:=Vp dw.1;have h7:=Xi dw.1
    split
    ·exact⟨Nat.le_add_right _ _,rfl⟩
    ·split
     ·simp only[zij];exact⟨by omega,h5⟩
     ·split
      ·simp only[zij];exact⟨by omega,h7.trans h5⟩
      ·exact⟨by show dw.1.synced.late.length≤_;omega,h7.trans h5⟩
 refine⟨h1.1,h1.2,?_⟩;unfold Doc.put
 split
 ·simp
 ·split
  ·simp
  ·split
   ·simp
   ·split
    ·simp
    ·split <;> simp
theorem zky (S:Sto) (D:Doc) (k:Int):zig S D (S.rem k).1 (D.rem k).1:=by
 have h1:(S.rem k).1.d.late.length≤S.d.late.length+600∧(S.rem k).1.d.n=S.d.n:=by
  unfold Sto.rem
  split
  ·exact⟨Nat.le_add_right _ _,rfl⟩
  ·cases zx S.recs k with
   | none=>exact⟨by show S.d.late.length≤_;omega,rfl⟩
   | some r=>
    simp only;have h4:=Zb S.d (r.2.headD 0:Nat) [];have h5:=Za S.d (r.2.headD 0:Nat) [];generalize S.d.written (r.2.headD 0:Nat) []=dw at *;have h6:=Vp dw;have h7:=Xi dw
    split
    ·simp only[zij];exact⟨by omega,h5⟩
    ·split
     ·simp only[zij];exact⟨by omega,h7.trans h5⟩
     ·exact⟨by show dw.synced.late.length≤_;omega,h7.trans h5⟩
 refine⟨h1.1,h1.2,?_⟩;unfold Doc.rem
 split
 ·simp
 ·cases zeh D.L k with
  | none=>simp
  | some y=>
   simp only
   split
   ·simp
   ·split
    ·simp
    ·have:(jj D.L k).length≤D.L.length:=List.length_filter_le _ _
     show(jj D.L k).length≤_
     omega
theorem qm.dok (h:qm S D) (hl:D.L.length≤100000):DOk D:=
 ⟨fun y hy b hb=>by rw[h.d.n];exact(h.blk y hy).2.1 b hb,fun y hy=>⟨(h.blk y hy).1,(h.blk y hy).2.2⟩,h.srt,hl,h.n0⟩
end
section
variable {C : List Int → Nat} {f : Nat → List Int} {N : Nat}
theorem zde {k:Int} {c:Nat}:∀j r,findR C f N k c j=some r→∀i∈r.2,i<N∧∃p,saidP C (f i)=some p∧p.k=k
 | 0,r,h=>by
  unfold findR at h
  cases h;simp
 | j+1,r,h=>by
  unfold findR at h
  cases e:findR C f N k c j with
  | none=>rw[e] at h;cases h
  | some r0=>
   rw[e] at h;simp only at h;have ih:=zde j r0 e
   cases e2:firstP C f ⟨k,c⟩ j N with
   | none=>rw[e2] at h;cases h
   | some x=>
    rw[e2] at h
    cases h
    obtain⟨i,bb⟩:=x;obtain⟨g1,g2⟩:=Zg e2;intro i' hi'
    rcases List.mem_append.1 hi' with g|g
    ·exact ih i' g
    ·rw[List.mem_singleton.1 g]
     exact⟨g1,_,g2,rfl⟩
theorem zj3 (n:Nat) (h:n=N):∀y∈openR C f N n,(∀i∈y.2.2,i<N∧∃p,saidP C (f i)=some p∧p.k=y.1)∧y.2.2≠[]∧y.2.2.length≤570∧1≤y.1∧y.1<nextR C f n:=fun y hy=>by
 subst h;obtain⟨c,⟨i,hi,b,hb⟩,h2,h3⟩:=((Qg (C:=C) f n n).mem y).1 hy;have hl:=jo _ _ h2;obtain⟨hM,_⟩:=xi hb;have c1:=hM.c1;have c2:=hM.c2;have k1:=hM.k1;simp only at c1 c2 k1;refine⟨zde _ _ h2,fun e=>by rw[e] at hl;simp at hl;omega,by omega,k1,?_⟩
 rw[Qe]
 exact(js (C:=C) f n).lt i hi _ hb
end
theorem zcc (rows:List (zr × xg)) (n:Nat):∀(ks:List zr) (S:Sto),S.taken.length=n→(∀i,i<n→S.taken[i]? = some (decide (i∈uy S.recs)))→(ub rows ks S).taken.length=n∧∀i,i<n→(ub rows ks S).taken[i]? = some (decide (i∈uy (ub rows ks S).recs))
 | [],S,h1,h2=>⟨h1,h2⟩
 | K :: t,S,h1,h2=>by
  show(ub rows t (xh rows S K)).taken.length=n∧∀i,i<n→(ub rows t (xh rows S K)).taken[i]? = some (decide (i∈uy (ub rows t (xh rows S K)).recs))
  have key:(xh rows S K).taken.length=n∧∀i,i<n→(xh rows S K).taken[i]? = some (decide (i∈uy (xh rows S K).recs)):=by
   cases e:zx rows K with
   | none=>
    have hp:xh rows S K=S:=by unfold xh;rw[e]
    rw[hp]
    exact⟨h1,h2⟩
   | some r=>
    by_cases hc:(zx S.recs K.k).isSome=true∨r.whole=false
    ·have hp:xh rows S K=S:=by unfold xh;rw[e];exact if_pos hc
     rw[hp]
     exact⟨h1,h2⟩
    ·have hp:xh rows S K=S.kept K.k (jb r) (uh r):=by unfold xh;rw[e];exact if_neg hc
     rw[hp];have hno:zx S.recs K.k=none:=by
      cases e2:zx S.recs K.k with
      | none=>rfl
      | some v=>exact absurd (Or.inl (by rw[e2];rfl)) hc
     refine⟨(Zl _ _ _).trans h1,fun i hi=>?_⟩
     show(jt S.taken (uh r) true)[i]? = some (decide (i∈uy (yu S.recs K.k (jb r,uh r))))
     rw[Ug hno,Qu _ _ _ _ (by rw[h1];exact hi),ze9,zfa,h2 i hi]
     by_cases hm:i∈uh r
     ·rw[if_pos hm];simp[hm]
     ·rw[if_neg hm];simp[hm]
  exact zcc rows n t _ key.1 key.2
noncomputable def RDk.docO (R:RDk):Doc:=⟨R.opened.1,openR zu (fX R.all) R.blocks.length R.blocks.length,nextR zu (fX R.all) R.blocks.length,0⟩
theorem zb9 (d:Dk):d.opened.1.n=d.n:=by
 have key:∀k,(opnD d k).1.n=d.n:=by
  intro k
  induction k with
  | zero=>rfl
  | succ k ih=>
   unfold opnD
   split
   ·exact ih
   ·split
    ·exact ih
    ·exact(Za _ _ _).trans ih
 unfold Dk.opened
 split
 ·exact key _
 ·split
  ·exact(Xi _).trans (key _)
  ·exact key _
theorem zf5 {d:Dk} (h : -1≤d.well) : -1≤d.opened.1.well:=by
 have key:∀k,-1≤(opnD d k).1.well:=by
  intro k
  induction k with
  | zero=>exact h
  | succ k ih=>
   unfold opnD
   split
   ·exact ih
   ·split
    ·exact ih
    ·exact Xv ih _ _
 unfold Dk.opened
 split
 ·exact key _
 ·split
  ·exact Vq (key _)
  ·exact key _
theorem zh4 {d:Dk} {R:RDk} (h:yx d R) (hw : -1≤d.well) (ho:d.off=false) {ks:List zr} (hk:zbe d ks):qm (openS d ks) R.docO:=by
 obtain⟨o1,o2⟩:=zas h hw ho;have hf:∀i,i<d.n→fX R.all i=bk d.now i:=fun i hi=>by
  have hl:i<R.all.length:=by rw[za3,h.n];exact hi
  rw[zfj hl,zed,Up h hi]
 have hsc:scanN zu (fX R.all) d.n=scanN zu (bk d.now) d.n:=zd3 (fun i hi=>by rw[hf i hi]) d.n (Nat.le_refl _)
 have hL:(openS d ks).recs=openR zu (fX R.all) d.n d.n:=by
  unfold openS;rw[Qq];refine(zj8 hk.1 hk.2).uniq ?_;rw[←hsc]
  exact zj4 (C:=zu) (fX R.all) d.n
 have hd:(openS d ks).d=d.opened.1:=(Xg _ _ _).1;have hn:(openS d ks).d.n=d.n:=by rw[hd,zb9]
 obtain⟨t1,t2⟩:=zcc (scanN zu (bk d.now) d.n).rows d.n ks ⟨d.opened.1,[],List.replicate d.n false,(scanN zu (bk d.now) d.n).next,0⟩ (by simp) (fun i hi=>by simp[uy,hi])
 obtain⟨_,x1,x2⟩:=Xg (scanN zu (bk d.now) d.n).rows ks ⟨d.opened.1,[],List.replicate d.n false,(scanN zu (bk d.now) d.n).next,0⟩;have hnx:=zb2 (fX R.all) d.n;have hsd:=zj3 (C:=zu) (f:=fX R.all) d.n rfl;unfold RDk.docO;rw[h.n];refine⟨by rw[hd];exact o2,by rw[hd];exact zf5 hw,hL,?_,x2,(Qg (C:=zu) (fX R.all) d.n d.n).srt,fun y hy=>(hsd y hy).2.2.2,hnx.1,hnx.2,by rw[hn];exact t1,fun i hi=>?_,fun y hy=>?_,fun y hy z hz hne b hb hb2=>?_⟩
 ·show(openS d ks).next=nextR zu (fX R.all) d.n
  rw[Qe,hsc]
  exact x1
 ·have:=t2 i (by rw[←hn];exact hi)
  show(openS d ks).taken[i]? = some (decide (i∈uy (openR zu (fX R.all) d.n d.n)))
  rw[←hL]
  exact this
 ·obtain⟨a1,a2,a3,_⟩:=hsd y hy
  exact⟨a2,fun b hb=>by rw[hn];exact(a1 b hb).1,by omega⟩
 ·obtain⟨_,p,e1,e2⟩:=(hsd y hy).1 b hb
  obtain⟨_,q,e3,e4⟩:=(hsd z hz).1 b hb2;rw[e1] at e3
  cases e3
  exact hne (e2.symm.trans e4)
open Go.RowKit Go.Sf
structure qk where
 kind:Int
 B:List Int
 p:Option Addr
 c:Nat
 times:Int
 n:Int
 F:List Int
 fp:Option Addr
 fc:Nat
def zff:qk:=⟨0,[],none,0,0,0,[],none,0⟩
def yr (x:qk):List Value:=[.int .u8 x.kind,.slice x.p x.B.length x.c,.int .u8 x.times,.int .i64 x.n,.slice x.fp x.F.length x.fc]
structure jh (W:World) (x:qk):Prop where
 b:yi W (.slice x.p x.B.length x.c) x.B
 bb:BL x.B
 f:yi W (.slice x.fp x.F.length x.fc) x.F
 fb:BL x.F
 k:0≤x.kind∧x.kind≤255
 t:0≤x.times∧x.times≤255
 n : -9223372036854775808≤x.n∧x.n≤9223372036854775807
 bl:x.B.length≤9223372036854775807
 fl:x.F.length≤9223372036854775807
def zd9 (w:World) (v:Value) (l:List qk):Prop:=
 ∃p cap,v = .slice p l.length cap∧l.length≤9223372036854775807∧(∀x∈l,jh w x)∧(l = []∨∃b off,p=some ⟨b,off,none⟩∧∀i,i<l.length→∀j u,(yr (l.getD i zff))[j]? = some u→w.cell? ⟨b,off+i*5+j,none⟩=some u)
def LargeP (w:World) (l:List qk) (e:Ending) (w':World):Prop:=∃r,e = .returned (.bool r)∧w.grownBy w' none∧(r=false→l.length≤60∧∀x∈l,x.B.length≤6000∧x.F.length≤6000)
set_option maxRecDepth 100000 in
theorem zft (v:Value) (l:List qk) (w:World) (h:zd9 w v l) :
  Calls Tryz.prog 27 #[v] w (LargeP w l):=by
 obtain⟨p,cap,rfl,hlen,hok,hrow⟩:=h
 rcases Nat.lt_or_ge 60 l.length with h60|h60
 ·clear hrow hok
  go_enter Tryz.func27,Tryz.ntmps27
  go_wp2
  go_ret
  exact⟨true,rfl,zj _,by simp⟩
 ·have HK:=zd hok
  have HR:=zd hrow;have HLl:=zd (show l.length≤60 from h60)
  clear hok hrow;have hnn:∃m,m=l.length:=⟨_,rfl⟩;obtain⟨m,hn⟩:=hnn;have HN:=zd hn;rw[←hn] at h60 hlen ⊢;clear hn
  go_enter Tryz.func27,Tryz.ntmps27
  go_wp2
  go_loopw [3,4] (fun s i wr=>w.grownBy wr none∧∃(j:Nat) (x:Int),j≤m∧i = .int .i64 j∧s = .int .i64 x∧0≤x∧x≤12000∧(∀c∈l.take j,c.B.length≤6000∧c.F.length≤6000)) (fun _ i _=>m-(intOf i).toNat)
  case atStart=>exact⟨zj _,0,0,Nat.zero_le _,rfl,rfl,by omega,by omega,by simp⟩
  case round=>
   obtain⟨hg,j,x,hj,rfl,rfl,hx0,hx1,hall⟩:=hrel;have HA:=zd hall;clear hall
   rcases Nat.lt_or_ge j m with hlt|hge
   ·rcases HR.out with h0|⟨b,off,rfl,hc⟩
    ·exfalso;have:=HN.out;rw[h0] at this;simp at this;omega
    ·have hjl:j<l.length:=by rw[←HN.out];exact hlt
     have cB:=hg.cell (hc j hjl 1 _ rfl) (by simp)
     have cF:=hg.cell (hc j hjl 4 _ rfl) (by simp)
     have hbw:b<wr.heap.size:=xo cB;have hget:l.getD j zff=l[j]:=by simp[List.getD_eq_getElem?_getD,List.getElem?_eq_getElem hjl]
     have hkk:=HK.out l[j] (List.getElem_mem _);have htk:l.take (j+1)=l.take j ++ [l[j]]:=List.take_succ_eq_append_getElem hjl;have HT:=zd htk;rw[hget] at cB cF;have hb:=hkk.bl;have hf:=hkk.fl;clear hc htk hkk hget;have HG:=zd hg;clear hg;have HC:Hid (∀y∈l.take (j+1),y∈l.take j∨y=l[j]):=(fun y hy=>by
      rw[HT.out] at hy
      rcases List.mem_append.1 hy with h|h
      ·exact Or.inl h
      ·exact Or.inr (by simpa using h))
     generalize l[j]=c at *;obtain⟨kind,B,bp,bc,times,n,F,fp,fc⟩:=c;simp only at cB cF hb hf;have HBl:=zd (show B.length=B.length from rfl)
     generalize hbn:B.length=bn at *;generalize hfn:F.length=fn at *;have HBN:=zd hbn;have HFN:=zd hfn;clear hbn hfn HBl
     by_cases hgt:6000-x<(bn:Int)
     ·go_wp2
      go_ret
      exact⟨true,rfl,HG.out,by simp⟩
     ·by_cases hgt2:6000-x<(fn:Int)
      ·go_wp2
       go_ret
       exact⟨true,rfl,HG.out,by simp⟩
      ·go_upto_region 9 with fail
       refine yh (by kernel_rfl) (by kernel_rfl) ?_
       repeat (any_goals (first|go_big_quiet_step (fail)|quiet_step (fail)))
       refine wpQuiet_nil ?_;intro _ hw';obtain⟨xx,hw''⟩:=hw';subst hw'';have HG2:=zd (vq HG.out xx);generalize ext wr xx=w9 at *;go_wp2;refine⟨⟨HG2.out,j+1,x+bn+fn,by omega,by simp,by simp,by omega,by omega,fun y hy=>?_⟩,by simp[intOf];omega⟩
       rcases HC.out y hy with h|rfl
       ·exact HA.out y h
       ·exact⟨by show B.length≤6000;rw[HBN.out];omega,by show F.length≤6000;rw[HFN.out];omega⟩
   ·go_wp2
    go_ret
    refine⟨false,rfl,hg,fun _=>⟨HLl.out,?_⟩⟩
    have:=HA.out;rw[List.take_of_length_le (by rw[←HN.out];omega)] at this
    exact this
def zab (n T:Nat):Nat:=min (T+1) (if n=0 then T+1 else 700 / n)
theorem zcq (n T k:Nat):k<zab n T↔k≤T∧k*n+n≤700:=by
 unfold zab
 rcases Nat.eq_zero_or_pos n with rfl|h
 ·simp;omega
 ·rw[if_neg (by omega)]
  have:k<700 / n↔k*n+n≤700:=by
   rw[Nat.lt_iff_add_one_le,Nat.le_div_iff_mul_le h,Nat.add_mul,Nat.one_mul]
  omega
def Jv (B:List Int):Nat→List Int
 | 0=>[]
 | k+1=>Jv B k++B
theorem zch (B:List Int):∀k,(Jv B k).length=k*B.length
 | 0=>by simp[Jv]
 | k+1=>by rw[Jv,List.length_append,zch B k,Nat.add_mul,Nat.one_mul]
theorem zi0 {B:List Int} (h:BL B):∀k,BL (Jv B k)
 | 0=>fun b hb=>by simp[Jv] at hb
 | k+1=>fun b hb=>by
  rcases List.mem_append.1 hb with h1|h1
  ·exact zi0 h k b h1
  ·exact h b h1
def yz (x:qk):List Int:=Jv x.B (zab x.B.length x.times.toNat)
theorem zje {W:World} {x:qk} (h:jh W x):BL (yz x):=zi0 h.bb _
theorem zhe (x:qk):(yz x).length≤700:=by
 unfold yz;rw[zch]
 cases e:zab x.B.length x.times.toNat with
 | zero=>omega
 | succ k=>
  have:=(zcq x.B.length x.times.toNat k).1 (by omega)
  rw[Nat.add_mul,Nat.one_mul]
  exact this.2
set_option maxRecDepth 100000 in
theorem zfe {W:World} {x:qk} (h:jh W x) :
  Calls Tryz.prog 32 #[.agg (yr x).toArray] W fun e w'=>e = .returned (.string (ofB (yz x)))∧W.grownBy w' none:=by
 have HB:=zd h.b;have hk:=h.k;have ht:=h.t;have hl:=h.bl;have HE:Hid (yz x=Jv x.B (zab x.B.length x.times.toNat)):=(show _=_ from rfl)
 rw[HE.out];clear HE h;obtain⟨kind,B,bp,bc,times,n,F,fp,fc⟩:=x;obtain⟨T,rfl⟩:=Int.eq_ofNat_of_zero_le ht.1;simp only[yr] at *;have hi:=zcq B.length T;have HI:=zd hi;have HL:Hid (∀k,(ofB (Jv B k)).size=k*B.length):=(fun k=>by rw[xr,zch])
 simp only[Int.toNat_natCast];clear hi;generalize zab B.length T=M at *;have hw1:=ze W (.cells #[.int .u8 kind,.slice bp B.length bc,.int .u8 (T:Int),.int .i64 n,.slice fp F.length fc] 49) none;have hh1:=heap_alloc_new W (.cells #[.int .u8 kind,.slice bp B.length bc,.int .u8 (T:Int),.int .i64 n,.slice fp F.length fc] 49);have hcv:=Yy (HB.out.grown hw1 (by simp))
 have HW1:=zd hw1;obtain⟨W1,hW1⟩:∃x,x=W.alloc (.cells #[.int .u8 kind,.slice bp B.length bc,.int .u8 (T:Int),.int .i64 n,.slice fp F.length fc] 49):=⟨_,rfl⟩;have HHW:=zd hW1;rw[←hW1] at hh1 hcv HW1;clear hW1;have d1:W1.cell? ⟨W.heap.size,1,none⟩=some (.slice bp B.length bc):=(zf hh1 1).trans rfl;have d2:W1.cell? ⟨W.heap.size,2,none⟩=some (.int .u8 (T:Int)):=(zf hh1 2).trans rfl;have HZ:Hid (∀k,ofB (Jv B k)++ofB B=ofB (Jv B (k+1))):=(fun k=>zeq _ _)
 have hz0:ofB (Jv B 0)=⟨#[]⟩:=rfl;have hbsz:(ofB B).size=B.length:=xr B;have HZ0:=zd hz0;generalize hbs:ofB B=bs at *;clear hw1 hh1 hbs hz0 hk;have hR:∃R:Nat→ByteArray,∀k,R k=ofB (Jv B k):=⟨_,fun _=>rfl⟩
 obtain⟨R,hR⟩:=hR;rw[←hR M];have HR2:Hid (R 0=⟨#[]⟩∧(∀k,(R k).size=k*B.length)∧∀k,R k++bs=R (k+1)):=(show _∧_ from ⟨by rw[hR];exact HZ0.out,fun k=>by rw[hR];exact HL.out k,fun k=>by rw[hR,hR];exact HZ.out k⟩)
 clear HL HZ HZ0 hR;have HBB:=HB.out.ex;generalize hbn:B.length=bn at *;clear HB HBB hbn
 go_enter Tryz.func32,Tryz.ntmps32
 go_wp2;rw[←HHW.out];clear HHW
 go_loopw [3,4] (fun s i wr=>W1=wr∧∃k:Nat,k≤M∧s = .string (R k)∧i = .int .i64 k) (fun _ i _=>M-(intOf i).toNat)
 case atStart=>exact⟨rfl,0,by omega,by rw[HR2.out.1],rfl⟩
 case round=>
  obtain⟨rfl,k,hkM,rfl,rfl⟩:=hrel;have hsz:=HR2.out.2.1 k;have HAP:=zd (HR2.out.2.2 k);have hkn:k*bn≤700:=by
   cases k with
   | zero=>omega
   | succ j=>
    have:=((HI.out j).1 (by omega)).2
    rw[Nat.add_mul,Nat.one_mul]
    exact this
  have hkb:k*bn+bn≤9223372036854775807:=by
   cases k with
   | zero=>omega
   | succ j=>
    have h1:=((HI.out j).1 (by omega)).2
    have h2:bn≤700:=by omega
    omega
  have hik:=HI.out k;generalize k*bn=m at *;obtain⟨z,hz⟩:∃z,z=R k:=⟨_,rfl⟩;rw[←hz] at hsz HAP ⊢;have HZK:=zd hz;clear hz
  by_cases hkM2:k<M
  ·obtain⟨a1,a2⟩:=hik.1 hkM2
   clear hik;go_wp2;rw[HAP.out];refine⟨⟨trivial,k+1,by omega,rfl,by simp⟩,by simp[intOf];omega⟩
  ·obtain rfl:k=M:=by omega
   by_cases hT:k≤T
   ·have h700:700<m+bn:=by
     rcases Nat.lt_or_ge 700 (m+bn) with h|h
     ·exact h
     ·exact absurd (hik.2 ⟨hT,h⟩) (by omega)
    clear hik;go_wp2
    go_ret
    rw[←HZK.out]
    exact⟨rfl,HW1.out⟩
   ·clear hik
    go_wp2
    go_ret
    rw[←HZK.out]
    exact⟨rfl,HW1.out⟩
open Go.RowKit Go.Sf Go.Shelf
end Go.Proofs.YtbcbhlfjgobejaaGreat
