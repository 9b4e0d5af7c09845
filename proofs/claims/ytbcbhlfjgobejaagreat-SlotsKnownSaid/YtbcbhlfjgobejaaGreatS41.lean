/- The document's store, plainly: Put, Remove; the program's does the same. Conditions: none, or as the theorems say. -/
import Derived.Test.YtbcbhlfjgobejaaGreatS40
import Derived.Test.YtbcbhlfjgobejaaGreatS25
import Derived.Test.YtbcbhlfjgobejaaGreatS29
set_option linter.unusedSimpArgs false
set_option linter.unusedVariables false
namespace Go.Proofs.YtbcbhlfjgobejaaGreat
set_option maxHeartbeats 200000000
open Go.Sf
variable {d:Dk} {i:Nat}
structure jd (S:Sto) (D:Doc):Prop where
 d:xh S.d D.R
 w : -1≤S.d.well
 L:S.recs=D.L
 next:S.next=D.next
 broken:S.broken=D.broken
 srt:D.L.Pairwise λa b=>a.1<b.1
 key:∀y∈D.L,1≤y.1∧y.1<D.next
 n0:1≤D.next
 n1:D.next≤4611686018427387905
 tl:S.taken.length=S.d.n
 tk:∀i,i<S.d.n→S.taken[i]? = some (decide (i∈qh D.L))
 blk:∀y∈D.L,y.2.2≠[]∧(∀b∈y.2.2,b<S.d.n)∧y.2.2.length≤100000
 ap:∀y∈D.L,∀z∈D.L,y.1≠z.1→∀b∈y.2.2,b ∉ z.2.2
theorem zfq {L:List (Int × ye)} (h:L.Pairwise λa b=>a.1<b.1):(L.map (·.1)).Nodup:=by
 rw[List.nodup_iff_pairwise_ne,List.pairwise_map]
 exact h.imp λh=>by omega
theorem zay (x:Bool):∀(bl:List Nat) (t:List Bool) (i:Nat),i<t.length→(qa t bl x)[i]? = if i∈bl then some x else t[i]?
 | [],t,i,_=>by simp[qa]
 | b :: bl,t,i,hi=>by
  have ih:=zay x bl (t.set b x) i (by rw[List.length_set];exact hi)
  show(qa (t.set b x) bl x)[i]? = _
  rw[ih]
  by_cases h1:i∈bl
  ·rw[if_pos h1,if_pos (by simp[h1])]
  ·rw[if_neg h1]
   by_cases h2:i=b
   ·subst h2
    rw[if_pos (by simp),List.getElem?_set_self hi]
   ·rw[if_neg (by simp[h1,h2]),List.getElem?_set_ne (λe=>h2 e.symm)]
theorem zad {L:List (Int × ye)}:i∈qh L↔∃y∈L,i∈y.2.2:=by
 unfold qh;rw[List.mem_flatMap]
theorem zhn (L M:List (Int × ye)):qh (L++M)=qh L++qh M:=by unfold qh;rw[List.flatMap_append]
theorem zho (y:Int × ye):qh [y]=y.2.2:=by simp[qh]
theorem zox {B:List Nat} {n:Nat}:i∈jg B n↔i<n∧i ∉ B:=by
 unfold jg;rw[List.mem_filter,List.mem_range];simp
section
variable {S : Sto} {D : Doc} {d : Dk} {R : RDk} {b : List Int}
theorem Uj (h : -1≤d.well) (i:Int) (b:List Int) : -1≤(d.written i b).well:=by
 unfold Dk.written
 split
 ·exact h
 ·split
  ·show -1≤max (-1) (d.well-1);omega
  ·show(-1:Int)≤-1;omega
theorem Qj (h : -1≤d.well) : -1≤d.synced.well:=by
 unfold Dk.synced
 split
 ·exact h
 ·split
  ·show -1≤max (-1) (d.well-1);omega
  ·show(-1:Int)≤-1;omega
theorem zco:∀(ws:List (Nat × List Int)) (d:Dk) (w:Nat × List Int),d.writes (ws ++ [w])=if (d.writes ws).2=0 then ((d.writes ws).1.written w.1 w.2,(d.writes ws).1.writeV w.1 w.2) else d.writes ws
 | [],d,w=>by
  show d.writes [w]=if (0:Int)=0 then (d.written w.1 w.2,d.writeV w.1 w.2) else (d,0)
  rw[if_pos rfl];unfold Dk.writes
  split
  ·rename_i h;rw[h];rfl
  ·rfl
 | a :: ws,d,w=>by
  rw[List.cons_append]
  by_cases h:d.writeV a.1 a.2=0
  ·have e1:∀ws,d.writes (a :: ws)=(d.written a.1 a.2).writes ws:=λws=>by
    conv=>lhs;unfold Dk.writes
    rw[if_pos h]
   rw[e1,e1,zco ws]
  ·have e1:∀ws,d.writes (a :: ws)=(d.written a.1 a.2,d.writeV a.1 a.2):=λws=>by
    conv=>lhs;unfold Dk.writes
    rw[if_neg h]
   rw[e1,e1,if_neg h]
theorem zev:∀(ws:List (Nat × List Int)) (d:Dk),(d.writes ws).1.n=d.n
 | [],d=>rfl
 | a :: ws,d=>by
  unfold Dk.writes
  split
  ·rw[zev ws,Yc]
  ·exact Yc _ _ _
theorem zf9 (h:xh d R) (hw : -1≤d.well) (x:Nat→Nat × List Int):∀n,(putsR R x n).2=(d.writes ((List.range n).map x)).2∧xh (d.writes ((List.range n).map x)).1 (putsR R x n).1∧-1≤(d.writes ((List.range n).map x)).1.well
 | 0=>⟨rfl,h,hw⟩
 | n+1=>by
  obtain⟨i1,i2,i3⟩:=zf9 h hw x n;rw[List.range_succ,List.map_append,List.map_singleton,zco]
  by_cases h0:(d.writes ((List.range n).map x)).2=0
  ·rw[if_pos h0,zee (by rw[i1];exact h0)]
   obtain⟨w1,w2⟩:=Ue i2 i3 ((x n).1:Int) (x n).2
   exact⟨w1,w2,Uj i3 _ _⟩
  ·rw[if_neg h0,zbq (by rw[i1];exact h0)]
   exact⟨i1,i2,i3⟩
theorem jd.free (h:jd S D) (n:Nat):yj S.taken n S.taken.length=D.free.take n:=by
 unfold yj Doc.free jg;rw[h.d.n,h.tl]
 congr 1
 apply List.filter_congr
 intro i hi;rw[h.tk i (List.mem_range.1 hi)]
 by_cases hm:i∈qh D.L <;> simp[hm]
theorem jd.freeN (h:jd S D):freeN S.taken=D.free.length:=by
 have e:S.taken=(List.range S.d.n).map λi=>decide (i∈qh D.L):=by
  apply List.ext_getElem?
  intro i
  by_cases hi:i<S.d.n
  ·rw[h.tk i hi];simp[hi]
  ·rw[List.getElem?_eq_none (by rw[h.tl];omega),List.getElem?_eq_none (by simp;omega)]
 unfold Doc.free jg;rw[h.d.n,e];unfold Go.Proofs.YtbcbhlfjgobejaaGreat.freeN;rw[List.countP_map,List.countP_eq_length_filter]
 congr 1
 apply List.filter_congr
 intro i _;simp
theorem jd.disk (h:jd S D) {d':Dk} {R':RDk} (hd:xh d' R') (hw : -1≤d'.well) (hn:d'.n=S.d.n) (e:Int) (e':Int) (he:e=e'):jd { S with d:=d',broken:=e } { D with R:=R',broken:=e' }:=
 ⟨hd,hw,h.L,h.next,he,h.srt,h.key,h.n0,h.n1,h.tl.trans hn.symm,λi hi=>h.tk i (by rw[←hn];exact hi),λy hy=>⟨(h.blk y hy).1,λb hb=>by show b<d'.n;rw[hn];exact(h.blk y hy).2.1 b hb,(h.blk y hy).2.2⟩,h.ap⟩
theorem zgq (S:Sto) (d:Dk) {e:Int} (he:e≠0):S.did d e = { S with d:=d,broken:=e }:=by
 unfold Sto.did Sto.met;rw[if_neg he]
theorem zp6 (h:jd S D) (b:List Int):(S.put b).2=(D.put b).2∧jd (S.put b).1 (D.put b).1:=by
 have hfr:=h.free (zk b.length);unfold Sto.put Doc.put
 by_cases h1:D.broken≠0
 ·rw[if_pos h1,if_pos (by rw[h.broken];exact h1),h.broken]
  exact⟨rfl,h⟩
 rw[if_neg h1,if_neg (by rw[h.broken];exact h1),h.next]
 by_cases h2:131072<b.length∨4611686018427387904<D.next
 ·rw[if_pos h2,if_pos h2]
  exact⟨rfl,h⟩
 rw[if_neg h2,if_neg h2,hfr];have hpn:zk b.length≤570:=by unfold zk;omega
 by_cases h3:D.free.length<zk b.length
 ·rw[if_pos h3,if_pos (by rw[List.length_take];omega)]
  exact⟨rfl,h⟩
 have hln:(D.free.take (zk b.length)).length=zk b.length:=by rw[List.length_take];omega
 rw[if_neg h3,if_neg (by rw[hln];omega)]
 have hws:vd zo D.next b (D.free.take (zk b.length))=(List.range (zk b.length)).map (D.part b):=by
  unfold vd;rw[hln]
  apply List.map_congr_left
  intro j hj;have hj:=List.mem_range.1 hj;unfold Doc.part;simp only[List.getD_eq_getElem?_getD];rw[List.getElem?_take_of_lt hj]
 rw[hws];obtain⟨p1,p2,p3⟩:=zf9 h.d h.w (D.part b) (zk b.length);have p4:=zev ((List.range (zk b.length)).map (D.part b)) S.d;have hP:D.puts b=putsR D.R (D.part b) (zk b.length):=rfl;rw[hP];generalize (S.d.writes ((List.range (zk b.length)).map (D.part b)))=dw at *;generalize putsR D.R (D.part b) (zk b.length)=rw_ at *
 by_cases h4:rw_.2≠0
 ·rw[if_pos h4,if_pos (by rw[←p1];exact h4),zgq _ _ (by rw[←p1];exact h4)]
  exact⟨by rw[p1],h.disk p2 p3 p4 _ _ p1.symm⟩
 rw[if_neg h4,if_neg (by rw[←p1];exact h4)]
 obtain⟨s1,s2⟩:=zbu p2 p3;have s3:=Qj p3;have s4:dw.1.synced.n=S.d.n:=(Vu _).trans p4
 by_cases h5:rw_.1.syncV≠0
 ·rw[if_pos h5,if_pos (by rw[←s1];exact h5),zgq _ _ (by rw[←s1];exact h5)]
  exact⟨by rw[s1],h.disk s2 s3 s4 _ _ s1.symm⟩
 rw[if_neg h5,if_neg (by rw[←s1];exact h5)]
 refine⟨rfl,?_⟩;have hno:∀y∈D.L,y.1≠D.next:=λy hy=>by have:=h.key y hy;omega
 have hfm:∀i∈D.free.take (zk b.length),i<S.d.n∧i ∉ qh D.L:=λi hi=>by
  have:=zox.1 (List.mem_of_mem_take hi);rw[h.d.n] at this
  exact this
 have hap:∀y∈D.L,∀i∈y.2.2,i ∉ D.free.take (zk b.length):=λy hy i hi hf=>(hfm i hf).2 (zad.2 ⟨y,hy,hi⟩)
 have h01:=h.n0;refine⟨s2,s3,?_,?_,h.broken,?_,?_,?_,?_,?_,?_,?_,?_⟩
 ·show yo S.recs D.next (b,D.free.take (zk b.length))=_
  rw[h.L,Yo hno]
 ·rfl
 ·rw[List.pairwise_append]
  exact⟨h.srt,by simp,λy hy z hz=>by rw[List.mem_singleton.1 hz];exact(h.key y hy).2⟩
 ·intro y hy
  show 1≤y.1∧y.1<D.next+1
  rcases List.mem_append.1 hy with g|g
  ·have:=h.key y g;omega
  ·rw[List.mem_singleton.1 g];simp only;omega
 ·show 1≤D.next+1
  omega
 ·show D.next+1≤_
  omega
 ·show(qa S.taken _ true).length=dw.1.synced.n
  rw[qx,s4,h.tl]
 ·intro i hi
  have hi:i<S.d.n:=by rw[←s4];exact hi
  show(qa S.taken (D.free.take (zk b.length)) true)[i]? = some (decide (i∈qh (D.L ++ [(D.next,(b,D.free.take (zk b.length)))])))
  rw[zay _ _ _ _ (by rw[h.tl];exact hi),zhn,zho,h.tk i hi]
  by_cases hm:i∈D.free.take (zk b.length)
  ·rw[if_pos hm];simp[hm]
  ·rw[if_neg hm];simp[hm]
 ·intro y hy
  rcases List.mem_append.1 hy with g|g
  ·obtain⟨a1,a2,a3⟩:=h.blk y g
   exact⟨a1,λi hi=>by show i<dw.1.synced.n;rw[s4];exact a2 i hi,a3⟩
  ·rw[List.mem_singleton.1 g]
   refine⟨λe=>?_,λi hi=>by show i<dw.1.synced.n;rw[s4];exact(hfm i hi).1,by simp only[hln];omega⟩
   have:=qu b.length;rw[←hln] at this;simp only at e;rw[e] at this;simp at this
 ·intro y hy z hz hne
  rcases List.mem_append.1 hy with g|g <;> rcases List.mem_append.1 hz with k|k
  ·exact h.ap y g z k hne
  ·rw[List.mem_singleton.1 k]
   exact λi hi=>hap y g i hi
  ·rw[List.mem_singleton.1 g]
   exact λi hi hz=>hap z k i hz hi
  ·rw[List.mem_singleton.1 g,List.mem_singleton.1 k] at hne
   exact absurd rfl hne
end
theorem zfm (k:Int):∀L:List (Int × ye),zgt L k=(zw L k).map λr=>(k,r)
 | []=>rfl
 | y :: t=>by
  have ih:=zfm k t;unfold zgt at ih ⊢;rw[List.find?_cons];unfold zw
  by_cases h:y.1=k
  ·obtain⟨y1,y2⟩:=y
   simp only at h;subst h;simp
  ·have hd:decide (y.1=k)=false:=by simpa using h
   rw[hd];simp only[h,if_false]
   exact ih
section
variable {S : Sto} {D : Doc}
theorem zp7 (h:jd S D) (k:Int):(S.rem k).2=(D.rem k).2∧jd (S.rem k).1 (D.rem k).1:=by
 unfold Sto.rem Doc.rem
 by_cases h1:D.broken≠0
 ·rw[if_pos h1,if_pos (by rw[h.broken];exact h1),h.broken]
  exact⟨rfl,h⟩
 rw[if_neg h1,if_neg (by rw[h.broken];exact h1),zfm,h.L]
 cases hg:zw D.L k with
 | none=>exact⟨rfl,h⟩
 | some r=>
  simp only[Option.map_some];have hm:=qj hg;obtain⟨p1,p2⟩:=Ue h.d h.w (r.2.headD 0:Nat) [];have p3:=Uj h.w (r.2.headD 0:Nat) [];have p4:=Yc S.d (r.2.headD 0:Nat) [];generalize hdw:S.d.written (r.2.headD 0:Nat) []=dw at *;generalize S.d.writeV (r.2.headD 0:Nat) []=ve at *;generalize hrw:D.R.written (r.2.headD 0:Nat) []=rw_ at *;subst p1
  by_cases h4:D.R.writeV (r.2.headD 0:Nat) []≠0
  ·rw[if_pos h4,if_pos h4,zgq _ _ h4]
   exact⟨rfl,h.disk p2 p3 p4 _ _ rfl⟩
  rw[if_neg h4,if_neg h4];obtain⟨s1,s2⟩:=zbu p2 p3;have s3:=Qj p3;have s4:dw.synced.n=S.d.n:=(Vu _).trans p4
  by_cases h5:rw_.syncV≠0
  ·rw[if_pos h5,if_pos (by rw[←s1];exact h5),zgq _ _ (by rw[←s1];exact h5)]
   exact⟨by rw[s1],h.disk s2 s3 s4 _ _ s1.symm⟩
  rw[if_neg h5,if_neg (by rw[←s1];exact h5)]
  refine⟨rfl,?_⟩;have hsub:∀y∈jq D.L k,y∈D.L∧y.1≠k:=λy hy=>by
   unfold jq at hy;have:=List.mem_filter.1 hy
   exact⟨this.1,by simpa using this.2⟩
  have hsub2:∀y∈D.L,y.1≠k→y∈jq D.L k:=λy hy hne=>by
   unfold jq
   exact List.mem_filter.2 ⟨hy,by simpa using hne⟩
  refine⟨s2,s3,rfl,h.next,h.broken,?_,λy hy=>h.key y (hsub y hy).1,h.n0,h.n1,?_,?_,?_,λy hy z hz=>h.ap y (hsub y hy).1 z (hsub z hz).1⟩
  ·exact h.srt.sublist List.filter_sublist
  ·show(qa S.taken _ false).length=dw.synced.n
   rw[qx,s4,h.tl]
  ·intro i hi
   have hi:i<S.d.n:=by rw[←s4];exact hi
   show(qa S.taken r.2 false)[i]? = some (decide (i∈qh (jq D.L k)))
   rw[zay _ _ _ _ (by rw[h.tl];exact hi),h.tk i hi]
   by_cases hr:i∈r.2
   ·rw[if_pos hr]
    have:i ∉ qh (jq D.L k):=λe=>by
     obtain⟨y,hy,hyi⟩:=zad.1 e;obtain⟨g1,g2⟩:=hsub y hy
     exact h.ap y g1 (k,r) hm g2 i hyi hr
    simp[this]
   ·rw[if_neg hr]
    have:i∈qh D.L↔i∈qh (jq D.L k):=by
     rw[zad,zad]
     constructor
     ·rintro⟨y,hy,hyi⟩
      refine⟨y,hsub2 y hy (λe=>?_),hyi⟩
      have:=Yn (zfq h.srt) (k:=y.1) (v:=y.2) hy;rw[e,hg] at this;rw[←Option.some.inj this] at hyi
      exact hr hyi
     ·rintro⟨y,hy,hyi⟩
      exact⟨y,(hsub y hy).1,hyi⟩
    simp[this]
  ·intro y hy
   obtain⟨a1,a2,a3⟩:=h.blk y (hsub y hy).1
   exact⟨a1,λi hi=>by show i<dw.synced.n;rw[s4];exact a2 i hi,a3⟩
end
theorem Ye (d:Dk) (i:Int) (x:List Int):(d.written i x).late.length≤d.late.length+1:=za5 d i x
theorem Qi (d:Dk):d.synced.late.length≤d.late.length:=by
 unfold Dk.synced
 split
 ·exact Nat.le_refl _
 ·split
  ·exact Nat.zero_le _
  ·exact Nat.le_refl _
theorem zcn:∀(ws:List (Nat × List Int)) (d:Dk),(d.writes ws).1.late.length≤d.late.length+ws.length
 | [],d=>Nat.le_refl _
 | a :: ws,d=>by
  have h1:=Ye d a.1 a.2;unfold Dk.writes
  split
  ·have:=zcn ws (d.written a.1 a.2)
   simp only[List.length_cons];omega
  ·simp only[List.length_cons];omega
structure ze5 (S:Sto) (D:Doc) (S':Sto) (D':Doc):Prop where
 late:S'.d.late.length≤S.d.late.length+600
 n:S'.d.n=S.d.n
 len:D'.L.length≤D.L.length+1
section
variable {S : Sto} {D : Doc}
theorem zlf (S:Sto) (d:Dk) (e:Int):(S.did d e).d=d:=(Xj S d e).2.2.2.1
theorem znz (S:Sto) (D:Doc) (b:List Int):ze5 S D (S.put b).1 (D.put b).1:=by
 have hws:∀fr,fr=yj S.taken (zk b.length) S.taken.length→¬131072<b.length→(vd zo S.next b fr).length≤570:=λfr h hb=>by
  have:fr.length≤zk b.length:=by rw[h];unfold yj;rw[List.length_take];omega
  unfold vd;rw[List.length_map,List.length_range];unfold zk at this;omega
 have h1:(S.put b).1.d.late.length≤S.d.late.length+600∧(S.put b).1.d.n=S.d.n:=by
  unfold Sto.put
  split
  ·exact⟨Nat.le_add_right _ _,rfl⟩
  ·split
   ·exact⟨Nat.le_add_right _ _,rfl⟩
   ·rename_i h2
    have h3:=hws _ rfl (by omega)
    generalize yj S.taken (zk b.length) S.taken.length=fr at *;have h4:=zcn (vd zo S.next b fr) S.d;have h5:=zev (vd zo S.next b fr) S.d;generalize S.d.writes (vd zo S.next b fr)=dw at *;have h6:=Qi dw.1;have h7:=Vu dw.1
    split
    ·exact⟨Nat.le_add_right _ _,rfl⟩
    ·split
     ·simp only[zlf];exact⟨by omega,h5⟩
     ·split
      ·simp only[zlf];exact⟨by omega,h7.trans h5⟩
      ·exact⟨by show dw.1.synced.late.length≤_;omega,h7.trans h5⟩
 refine⟨h1.1,h1.2,?_⟩;unfold Doc.put
 split
 ·simp
 ·split
  ·simp
  ·split
   ·simp
   ·split
    ·simp
    ·split <;> simp
theorem zn0 (S:Sto) (D:Doc) (k:Int):ze5 S D (S.rem k).1 (D.rem k).1:=by
 have h1:(S.rem k).1.d.late.length≤S.d.late.length+600∧(S.rem k).1.d.n=S.d.n:=by
  unfold Sto.rem
  split
  ·exact⟨Nat.le_add_right _ _,rfl⟩
  ·cases zw S.recs k with
   | none=>exact⟨by show S.d.late.length≤_;omega,rfl⟩
   | some r=>
    simp only;have h4:=Ye S.d (r.2.headD 0:Nat) [];have h5:=Yc S.d (r.2.headD 0:Nat) [];generalize S.d.written (r.2.headD 0:Nat) []=dw at *;have h6:=Qi dw;have h7:=Vu dw
    split
    ·simp only[zlf];exact⟨by omega,h5⟩
    ·split
     ·simp only[zlf];exact⟨by omega,h7.trans h5⟩
     ·exact⟨by show dw.synced.late.length≤_;omega,h7.trans h5⟩
 refine⟨h1.1,h1.2,?_⟩;unfold Doc.rem
 split
 ·simp
 ·cases zgt D.L k with
  | none=>simp
  | some y=>
   simp only
   split
   ·simp
   ·split
    ·simp
    ·have:(jq D.L k).length≤D.L.length:=List.length_filter_le _ _
     show(jq D.L k).length≤_
     omega
theorem jd.dok (h:jd S D) (hl:D.L.length≤100000):DOk D:=
 ⟨λy hy b hb=>by rw[h.d.n];exact(h.blk y hy).2.1 b hb,λy hy=>⟨(h.blk y hy).1,(h.blk y hy).2.2⟩,h.srt,hl,h.n0⟩
end
section
variable {C : List Int → Nat} {f : Nat → List Int} {N : Nat}
theorem zfh {k:Int} {c:Nat}:∀j r,findR C f N k c j=some r→∀i∈r.2,i<N∧∃p,saidP C (f i)=some p∧p.k=k
 | 0,r,h=>by
  unfold findR at h
  cases h;simp
 | j+1,r,h=>by
  unfold findR at h
  cases e:findR C f N k c j with
  | none=>rw[e] at h;cases h
  | some r0=>
   rw[e] at h;simp only at h;have ih:=zfh j r0 e
   cases e2:firstP C f ⟨k,c⟩ j N with
   | none=>rw[e2] at h;cases h
   | some x=>
    rw[e2] at h
    cases h
    obtain⟨i,bb⟩:=x;obtain⟨g1,g2⟩:=Zc e2;intro i' hi'
    rcases List.mem_append.1 hi' with g|g
    ·exact ih i' g
    ·rw[List.mem_singleton.1 g]
     exact⟨g1,_,g2,rfl⟩
theorem zm3 (n:Nat) (h:n=N):∀y∈openR C f N n,(∀i∈y.2.2,i<N∧∃p,saidP C (f i)=some p∧p.k=y.1)∧y.2.2≠[]∧y.2.2.length≤570∧1≤y.1∧y.1<nextR C f n:=λy hy=>by
 subst h;obtain⟨c,⟨i,hi,b,hb⟩,h2,h3⟩:=((zak (C:=C) f n n).mem y).1 hy;have hl:=Zj _ _ h2;obtain⟨hM,_⟩:=yr hb;have c1:=hM.c1;have c2:=hM.c2;have k1:=hM.k1;simp only at c1 c2 k1;refine⟨zfh _ _ h2,λe=>by rw[e] at hl;simp at hl;omega,by omega,k1,?_⟩
 rw[zah]
 exact(qv (C:=C) f n).lt i hi _ hb
end
theorem zea (rows:List (zt × xr)) (n:Nat):∀(ks:List zt) (S:Sto),S.taken.length=n→(∀i,i<n→S.taken[i]? = some (decide (i∈qh S.recs)))→(vj rows ks S).taken.length=n∧∀i,i<n→(vj rows ks S).taken[i]? = some (decide (i∈qh (vj rows ks S).recs))
 | [],S,h1,h2=>⟨h1,h2⟩
 | K :: t,S,h1,h2=>by
  show(vj rows t (xc rows S K)).taken.length=n∧∀i,i<n→(vj rows t (xc rows S K)).taken[i]? = some (decide (i∈qh (vj rows t (xc rows S K)).recs))
  have key:(xc rows S K).taken.length=n∧∀i,i<n→(xc rows S K).taken[i]? = some (decide (i∈qh (xc rows S K).recs)):=by
   cases e:zw rows K with
   | none=>
    have hp:xc rows S K=S:=by unfold xc;rw[e]
    rw[hp]
    exact⟨h1,h2⟩
   | some r=>
    by_cases hc:(zw S.recs K.k).isSome=true∨r.whole=false
    ·have hp:xc rows S K=S:=by unfold xc;rw[e];exact if_pos hc
     rw[hp]
     exact⟨h1,h2⟩
    ·have hp:xc rows S K=S.kept K.k (vp r) (xo r):=by unfold xc;rw[e];exact if_neg hc
     rw[hp];have hno:zw S.recs K.k=none:=by
      cases e2:zw S.recs K.k with
      | none=>rfl
      | some v=>exact absurd (Or.inl (by rw[e2];rfl)) hc
     refine⟨(qx _ _ _).trans h1,λi hi=>?_⟩
     show(qa S.taken (xo r) true)[i]? = some (decide (i∈qh (yo S.recs K.k (vp r,xo r))))
     rw[qz hno,zay _ _ _ _ (by rw[h1];exact hi),zhn,zho,h2 i hi]
     by_cases hm:i∈xo r
     ·rw[if_pos hm];simp[hm]
     ·rw[if_neg hm];simp[hm]
  exact zea rows n t _ key.1 key.2
noncomputable def RDk.docO (R:RDk):Doc:=⟨R.opened.1,openR zo (fX R.all) R.blocks.length R.blocks.length,nextR zo (fX R.all) R.blocks.length,0⟩
theorem zd7 (d:Dk):d.opened.1.n=d.n:=by
 have key:∀k,(opnD d k).1.n=d.n:=by
  intro k
  induction k with
  | zero=>rfl
  | succ k ih=>
   unfold opnD
   split
   ·exact ih
   ·split
    ·exact ih
    ·exact(Yc _ _ _).trans ih
 unfold Dk.opened
 split
 ·exact key _
 ·split
  ·exact(Vu _).trans (key _)
  ·exact key _
theorem zin (h : -1≤d.well) : -1≤d.opened.1.well:=by
 have key:∀k,-1≤(opnD d k).1.well:=by
  intro k
  induction k with
  | zero=>exact h
  | succ k ih=>
   unfold opnD
   split
   ·exact ih
   ·split
    ·exact ih
    ·exact Uj ih _ _
 unfold Dk.opened
 split
 ·exact key _
 ·split
  ·exact Qj (key _)
  ·exact key _
theorem zkz {R:RDk} (h:xh d R) (hw : -1≤d.well) (ho:d.off=false) {ks:List zt} (hk:jc d ks):jd (openS d ks) R.docO:=by
 obtain⟨o1,o2⟩:=zcj h hw ho;have hf:∀i,i<d.n→fX R.all i=bk d.now i:=λi hi=>by
  have hl:i<R.all.length:=by rw[zcw,h.n];exact hi
  rw[zhy hl,zgl,Jq h hi]
 have hsc:scanN zo (fX R.all) d.n=scanN zo (bk d.now) d.n:=Qx (λi hi=>by rw[hf i hi]) d.n (Nat.le_refl _)
 have hL:(openS d ks).recs=openR zo (fX R.all) d.n d.n:=by
  unfold openS;rw[Yy];refine(zna hk.1 hk.2).uniq ?_;rw[←hsc]
  exact zm4 (C:=zo) (fX R.all) d.n
 have hd:(openS d ks).d=d.opened.1:=(Xe _ _ _).1;have hn:(openS d ks).d.n=d.n:=by rw[hd,zd7]
 obtain⟨t1,t2⟩:=zea (scanN zo (bk d.now) d.n).rows d.n ks ⟨d.opened.1,[],List.replicate d.n false,(scanN zo (bk d.now) d.n).next,0⟩ (by simp) (λi hi=>by simp[qh,hi])
 obtain⟨_,x1,x2⟩:=Xe (scanN zo (bk d.now) d.n).rows ks ⟨d.opened.1,[],List.replicate d.n false,(scanN zo (bk d.now) d.n).next,0⟩;have hnx:=zd0 (fX R.all) d.n;have hsd:=zm3 (C:=zo) (f:=fX R.all) d.n rfl;unfold RDk.docO;rw[h.n];refine⟨by rw[hd];exact o2,by rw[hd];exact zin hw,hL,?_,x2,(zak (C:=zo) (fX R.all) d.n d.n).srt,λy hy=>(hsd y hy).2.2.2,hnx.1,hnx.2,by rw[hn];exact t1,λi hi=>?_,λy hy=>?_,λy hy z hz hne b hb hb2=>?_⟩
 ·show(openS d ks).next=nextR zo (fX R.all) d.n
  rw[zah,hsc]
  exact x1
 ·have:=t2 i (by rw[←hn];exact hi)
  show(openS d ks).taken[i]? = some (decide (i∈qh (openR zo (fX R.all) d.n d.n)))
  rw[←hL]
  exact this
 ·obtain⟨a1,a2,a3,_⟩:=hsd y hy
  exact⟨a2,λb hb=>by rw[hn];exact(a1 b hb).1,by omega⟩
 ·obtain⟨_,p,e1,e2⟩:=(hsd y hy).1 b hb
  obtain⟨_,q,e3,e4⟩:=(hsd z hz).1 b hb2;rw[e1] at e3
  cases e3
  exact hne (e2.symm.trans e4)
open Go.RowKit Go.Sf Go.Shelf
section
variable {own own' : Nat → Prop} {W W' : World} {db st mb tb : Nat} {rv : Int → Value × Value} {rb : Nat → Prop} {S : Sto} {d : Dk}
theorem vk.otherM (h:vk own W db d) (ht:zm own W W') (h1:∀k,own' k→own k∨W.heap.size≤k) (h2:∀k,own' k→k<W'.heap.size):vk own' W' db d:=by
 obtain⟨sb,nb,lv,h⟩:=h.ex;have hdb:=h.dlt;have hsb:=h.st.lt;have hnb:=h.now.lt
 exact⟨sb,nb,lv,(ht.block db h.dlt h.odb).trans h.box,h.st.same (ht.block sb h.st.lt h.osb),h.now.same (ht.block nb h.now.lt h.onb),qm h.late (λg hg=>ht.block g (Go.Proofs.YtbcbhlfjgobejaaGreat.own_lt h.late hg) (h.olv g hg)),h.sn,λe=>(h1 _ e).elim h.odb (λe=>by omega),λe=>(h1 _ e).elim h.osb (λe=>by omega),λe=>(h1 _ e).elim h.onb (λe=>by omega),λg hg2 e=>(h1 _ e).elim (h.olv g hg2) (λe=>by have:=Go.Proofs.YtbcbhlfjgobejaaGreat.own_lt h.late hg2;omega),h2,h.n,h.w0,h.w1,h.bst,h.bnow,h.blate,h.few⟩
theorem Jk.otherM (h:Jk own W st db S) (ht:zm own W W') (h1:∀k,own' k→own k∨W.heap.size≤k) (h2:∀k,own' k→k<W'.heap.size):Jk own' W' st db S:=by
 obtain⟨mb,tb,rv,rb,hs⟩:=h;have a1:=hs.st_lt;have a2:=hs.mb_lt;have a3:=hs.tb_lt;have a4:=λk hk=>@SAt.rb_lt _ _ _ _ _ _ _ _ _ hs k hk
 have ho:=hs.others ht;have hz:=ht.size;refine⟨mb,tb,rv,rb,ho.box,ho.recs,ho.rows,ho.tak,hs.disk.otherM (ht.mono λk hk=>Or.inl hk) (λk hk=>?_) (λk hk=>?_),λk hk=>?_,hs.rbs,hs.ok⟩
 ·rcases hk with e|e
  ·exact(h1 k e).imp Or.inl id
  ·exact Or.inl (Or.inr e)
 ·rcases hk with e|e|e|e|e
  ·exact h2 k e
  ·subst e;omega
  ·subst e;omega
  ·subst e;omega
  ·exact Nat.lt_of_lt_of_le (a4 k e) hz
 ·rcases h1 k hk with e|e
  ·exact hs.away k e
  ·exact⟨by omega,by omega,by omega,λe2=>by have:=a4 k e2;omega⟩
end
def zao (own:Nat→Prop) (w w':World) (k:Nat):Prop:=own k∨(w.heap.size≤k∧k<w'.heap.size)
structure JE (W:World) (own rsd:Nat→Prop) (db mb:Nat) (d:Dk) (R:RDk) (w:World):Prop where
 dr:vk own w db d
 rr:R18 rsd w mb R
 old:∀q,q<W.heap.size→own q
 gr:W.grownBy w none
 od:∀q,rsd q→own q∧W.heap.size≤q
structure JX (W:World) (own rsd:Nat→Prop) (st db mb:Nat) (S:Sto) (R:RDk) (w:World):Prop where
 sr:Jk own w st db S
 rr:R18 rsd w mb R
 old:∀q,q<W.heap.size→own q
 gr:W.grownBy w none
 od:∀q,rsd q→own q∧W.heap.size≤q
structure JM (W:World) (own rsd rss:Nat→Prop) (st db sb mb:Nat) (S:Sto) (D:Doc) (w:World):Prop where
 sr:Jk own w st db S
 rp:qg rsd rss w sb mb D.R D.L D.next D.broken
 old:∀q,q<W.heap.size→own q
 gr:W.grownBy w none
 od:∀q,rsd q→own q∧W.heap.size≤q
 os:∀q,rss q→own q∧W.heap.size≤q
theorem za1 {rs:Nat→Prop} {W w w':World} (h:W.grownBy w none) (ho:∀k,rs k→W.heap.size≤k) (ht:zm rs w w'):W.grownBy w' none:=
 ⟨ht.os.trans h.os,ht.tape.trans h.tape,ht.output.trans h.output,Nat.le_trans h.size ht.size,λk hk _=>(ht.block k (Nat.lt_of_lt_of_le hk h.size) (λe=>by have:=ho k e;omega)).trans (h.block k hk (by simp))⟩
section
variable {W w w' : World} {own rsd rss rsd' rss' : Nat → Prop} {st db sb mb : Nat} {d d' : Dk} {R R' : RDk} {S S' : Sto} {D D' : Doc}
theorem zap (h:∀q,own q→q<w.heap.size) (hz:w.heap.size≤w'.heap.size):∀q,zao own w w' q→q<w'.heap.size:=λq hq=>by
 rcases hq with e|e
 ·exact Nat.lt_of_lt_of_le (h q e) hz
 ·exact e.2
theorem zaq:∀q,zao own w w' q→own q∨w.heap.size≤q:=λq hq=>hq.imp id λe=>e.1
theorem zag (hd:∀q,rsd q→own q∧W.heap.size≤q) (hz:W.heap.size≤w.heap.size) (hl:∀q,rsd' q→q<w'.heap.size) (hn:∀q,rsd' q→rsd q∨w.heap.size≤q):∀q,rsd' q→zao own w w' q∧W.heap.size≤q:=λq hq=>by
 rcases hn q hq with e|e
 ·exact⟨Or.inl (hd q e).1,(hd q e).2⟩
 ·exact⟨Or.inr ⟨e,hl q hq⟩,by omega⟩
theorem JE.grown (h:JE W own rsd db mb d R w) (hg:w.grownBy w' none):JE W own rsd db mb d R w':=⟨h.dr.kept hg,h.rr.kept hg,h.old,zh h.gr hg,h.od⟩
theorem JE.prog (h:JE W own rsd db mb d R w) (hd:vk own w' db d') (ht:zm (λq=>¬own q) w w'):JE W own rsd db mb d' R w':=
 ⟨hd,h.rr.turn (ht.mono λq hq e=>hq (h.od q e).1),h.old,xa h.gr h.old ht,h.od⟩
theorem JE.doc (h:JE W own rsd db mb d R w) (hr:R18 rsd' w' mb R') (ht:zm rsd w w') (hn:∀q,rsd' q→rsd q∨w.heap.size≤q):JE W (zao own w w') rsd' db mb d R' w':=
 ⟨h.dr.otherM (ht.mono λq hq=>(h.od q hq).1) zaq (zap (λq hq=>h.dr.own_lt hq) ht.size),hr,λq hq=>Or.inl (h.old q hq),za1 h.gr (λq hq=>(h.od q hq).2) ht,zag h.od h.gr.size (λq hq=>hr.lt hq) hn⟩
theorem JM.kr (h:JM W own rsd rss st db sb mb S D w):KR W own st db S w:=⟨h.sr,h.old,h.gr⟩
theorem S19.lt {L:List (Int × ye)} {next broken:Int} (h:S19 rss w sb db L next broken) {q:Nat} (hq:rss q):q<w.heap.size:=by
 obtain⟨lv,ms,h⟩:=h
 exact h.lt q hq
theorem JM.grown (h:JM W own rsd rss st db sb mb S D w) (hg:w.grownBy w' none):JM W own rsd rss st db sb mb S D w':=⟨h.sr.kept hg,⟨h.rp.d.kept hg,h.rp.s.kept hg,h.rp.ap⟩,h.old,zh h.gr hg,h.od,h.os⟩
theorem JM.more (h:JM W own rsd rss st db sb mb S D w) (hg:w.grownBy w' none):JM W (zao own w w') rsd rss st db sb mb S D w':=
 have k:=h.kr.more hg
 ⟨k.rep,⟨h.rp.d.kept hg,h.rp.s.kept hg,h.rp.ap⟩,k.old,k.gr,λq hq=>⟨Or.inl (h.od q hq).1,(h.od q hq).2⟩,λq hq=>⟨Or.inl (h.os q hq).1,(h.os q hq).2⟩⟩
theorem JM.prog (h:JM W own rsd rss st db sb mb S D w) (hr:Jk own w' st db S') (ht:zm (λq=>¬own q) w w'):JM W own rsd rss st db sb mb S' D w':=
 ⟨hr,⟨h.rp.d.turn (ht.mono λq hq e=>hq (h.od q e).1),h.rp.s.same (λq hq=>ht.block q (h.rp.s.lt hq) (λe=>e (h.os q hq).1)) ht.size,h.rp.ap⟩,h.old,xa h.gr h.old ht,h.od,h.os⟩
theorem JM.doc (h:JM W own rsd rss st db sb mb S D w) (hp:qg rsd' rss' w' sb mb D'.R D'.L D'.next D'.broken) (ht:zm (λq=>rsd q∨rss q) w w') (hn:∀q,rsd' q→rsd q∨w.heap.size≤q) (hn2:∀q,rss' q→rss q∨w.heap.size≤q):JM W (zao own w w') rsd' rss' st db sb mb S D' w':=by
 have ho:∀q,(rsd q∨rss q)→own q:=λq hq=>hq.elim (λe=>(h.od q e).1) (λe=>(h.os q e).1)
 exact⟨h.sr.otherM (ht.mono ho) zaq (zap (λq hq=>h.kr.lt hq) ht.size),hp,λq hq=>Or.inl (h.old q hq),za1 h.gr (λq hq=>hq.elim (λe=>(h.od q e).2) (λe=>(h.os q e).2)) ht,zag h.od h.gr.size (λq hq=>hp.d.lt hq) hn,zag h.os h.gr.size (λq hq=>hp.s.lt hq) hn2⟩
theorem JM.poke (h:JM W own rsd rss st db sb mb S D w) {g:Nat} (h1:own g) (h2:W.heap.size≤g) (h3:¬rsd g) (h4:¬rss g) (hg:w.grownBy w' (some g)):JM W (zao own w w') rsd rss st db sb mb S D w':=by
 have k:=h.kr.pokeM (λb hb=>by injection hb with hb;rw[←hb];exact⟨h1,h2⟩) hg
 exact⟨k.rep,⟨h.rp.d.same (λq hq=>hg.block q (h.rp.d.lt hq) (λe=>by injection e with e;exact h3 (e ▸ hq))) hg.size,h.rp.s.same (λq hq=>hg.block q (h.rp.s.lt hq) (λe=>by injection e with e;exact h4 (e ▸ hq))) hg.size,h.rp.ap⟩,k.old,k.gr,λq hq=>⟨Or.inl (h.od q hq).1,(h.od q hq).2⟩,λq hq=>⟨Or.inl (h.os q hq).1,(h.os q hq).2⟩⟩
theorem JE.opened (h:JE W own rsd db mb d R w) (hs:Jk own w' st db S) (ht:zm (λq=>¬own q) w w'):JX W own rsd st db mb S R w':=
 ⟨hs,h.rr.turn (ht.mono λq hq e=>hq (h.od q e).1),h.old,xa h.gr h.old ht,h.od⟩
theorem JX.opened (h:JX W own rsd st db mb S R w) (hp:qg rsd' rss' w' sb mb D'.R D'.L D'.next D'.broken) (ht:zm rsd w w') (hn:∀q,rsd' q→rsd q∨w.heap.size≤q) (hn2:∀q,rss' q→w.heap.size≤q):JM W (zao own w w') rsd' rss' st db sb mb S D' w':=by
 have hk:KR W own st db S w:=⟨h.sr,h.old,h.gr⟩
 exact⟨h.sr.otherM (ht.mono λq hq=>(h.od q hq).1) zaq (zap (λq hq=>hk.lt hq) ht.size),hp,λq hq=>Or.inl (h.old q hq),za1 h.gr (λq hq=>(h.od q hq).2) ht,zag h.od h.gr.size (λq hq=>hp.d.lt hq) hn,zag (rsd:=λ_=>False) (λq hq=>hq.elim) h.gr.size (λq hq=>hp.s.lt hq) (λq hq=>Or.inr (hn2 q hq))⟩
theorem JM.disks (h:JM W own rsd rss st db sb mb S D w):JE W own rsd db mb S.d D.R w:=by
 obtain⟨mb',tb,rv,rb,hs⟩:=h.sr
 exact⟨hs.disk.less λk hk=>Or.inl hk,h.rp.d,h.old,h.gr,h.od⟩
end
end Go.Proofs.YtbcbhlfjgobejaaGreat
