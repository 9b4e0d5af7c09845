/- SlotsKeeps: a store on a disk that may fail; what calls and openings leave. Conditions: none, or as the theorems say. -/
import Derived.Test.YtbcbhlfjgobejaaGreatS27
import Derived.Test.YtbcbhlfjgobejaaGreatS17
set_option linter.unusedSimpArgs false
set_option linter.unusedVariables false
namespace Go.Proofs.YtbcbhlfjgobejaaGreat
set_option maxHeartbeats 200000000
open Go.Sf
variable {x:Bool} {d:Dk} {k next:Int} {q:Int × List Int} {all:List (Int × List Int)} {b:List Int} {i:Nat} {S:Sto} {W:World}
theorem zeu (ho:d.off=false) (hi:i<d.n) {x:List Int} (hx:x.length≤256) :
  (d.writeV i x=0∧(d.written i x).off=false∧(d.written i x).late=d.late ++ [((i:Int),vf x)]∧(d.written i x).now=yo d.now (i:Int) (vf x)∧(d.written i x).st=d.st∧(d.written i x).n=d.n)∨
  (d.writeV i x=180∧(d.written i x).off=true∧(d.written i x).late=d.late ++ [((i:Int),vf x)]∧(d.written i x).st=d.st∧(d.written i x).n=d.n):=by
 have hm:d.mayE (i:Int) x.length=0:=by
  unfold Dk.mayE;rw[if_neg (by simp[ho]),if_neg (by omega),if_neg (by omega)]
 cases hs:d.stepB
 ·right
  have e1:d.writeV i x=180:=by unfold Dk.writeV;simp[hm,hs]
  have e2:d.written i x=(d.lay i (vf x)).gone:=by unfold Dk.written;simp[hm,hs]
  rw[e1,e2]
  exact⟨rfl,rfl,rfl,rfl,rfl⟩
 ·left
  have e1:d.writeV i x=0:=by unfold Dk.writeV;simp[hm,hs]
  have e2:d.written i x=(d.lay i (vf x)).went:=by unfold Dk.written;simp[hm,hs]
  rw[e1,e2]
  exact⟨rfl,ho,rfl,rfl,rfl,rfl⟩
theorem zbw (ho:d.off=false) :
  (d.syncV=0∧d.synced.off=false∧d.synced.late = []∧d.synced.now=d.now∧d.synced.st=d.now∧d.synced.n=d.n)∨
  (d.syncV=180∧d.synced.off=true∧d.synced.late=d.late∧d.synced.st=d.st∧d.synced.n=d.n):=by
 cases hs:d.stepB
 ·right
  have e1:d.syncV=180:=by unfold Dk.syncV;simp[ho,hs]
  have e2:d.synced=d.gone:=by unfold Dk.synced;simp[ho,hs]
  rw[e1,e2]
  exact⟨rfl,rfl,rfl,rfl,rfl⟩
 ·left
  have e1:d.syncV=0:=by unfold Dk.syncV;simp[ho,hs]
  have e2:d.synced=d.went.settled:=by unfold Dk.synced;simp[ho,hs]
  rw[e1,e2]
  exact⟨rfl,ho,rfl,rfl,rfl,rfl⟩
theorem zm6 {x:List Int} (h:x.length=256):vf x=x:=by unfold vf;rw[h];simp
theorem zcp:∀(ws:List (Nat × List Int)) (d:Dk),d.off=false→(∀w∈ws,w.1<d.n∧w.2.length=256)→
  ((d.writes ws).2=0∧(d.writes ws).1.off=false∧(d.writes ws).1.late=d.late++Zk ws∧(d.writes ws).1.now=ws.foldl (λm w=>yo m (w.1:Int) w.2) d.now∧(d.writes ws).1.st=d.st∧(d.writes ws).1.n=d.n)∨
  ((d.writes ws).2=180∧(d.writes ws).1.off=true∧(∃m,(d.writes ws).1.late=d.late++Zk (ws.take m))∧(d.writes ws).1.st=d.st∧(d.writes ws).1.n=d.n)
 | [],d,ho,_=>Or.inl ⟨rfl,ho,by simp[Dk.writes,Zk],rfl,rfl,rfl⟩
 | w :: r,d,ho,hw=>by
  obtain⟨a1,a2⟩:=hw w (by simp)
  have hp:=zm6 a2;unfold Dk.writes
  rcases zeu ho a1 (x:=w.2) (by omega) with ⟨e1,e2,e3,e4,e5,e6⟩|⟨e1,e2,e3,e5,e6⟩
  ·rw[if_pos e1]
   rw[hp] at e3 e4
   rcases zcp r (d.written w.1 w.2) e2 (λw' hw'=>by rw[e6];exact hw w' (List.mem_cons_of_mem _ hw')) with ⟨i1,i2,i3,i4,i5,i6⟩|⟨i1,i2,⟨m,i3⟩,i5,i6⟩
   ·left
    refine⟨i1,i2,?_,?_,i5.trans e5,i6.trans e6⟩
    ·rw[i3,e3];simp[Zk]
    ·rw[i4,e4];rfl
   ·right
    refine⟨i1,i2,⟨m+1,?_⟩,i5.trans e5,i6.trans e6⟩;rw[i3,e3];simp[Zk]
  ·rw[if_neg (by rw[e1];decide)]
   rw[hp] at e3
   exact Or.inr ⟨e1,e2,⟨1,by rw[e3];simp[Zk]⟩,e5,e6⟩
theorem Uv:∀(ws:List (Nat × List Int)) (m:List (Int × List Int)),(∀w∈ws,w.1≠i)→bk (ws.foldl (λm w=>yo m (w.1:Int) w.2) m) i=bk m i
 | [],m,_=>rfl
 | w :: r,m,h=>by
  show bk (r.foldl _ (yo m (w.1:Int) w.2)) i=_
  rw[Uv r _ (λw' hw'=>h w' (List.mem_cons_of_mem _ hw')),Zw _ _ (λe=>h w (by simp) e.symm)]
theorem zdb:∀(ws:List (Nat × List Int)) (m:List (Int × List Int)),(ws.map (·.1)).Nodup→∀(t:Nat) w,ws[t]? = some w→bk (ws.foldl (λm w=>yo m (w.1:Int) w.2) m) w.1=w.2
 | [],m,_,t,w,h=>by simp at h
 | w0 :: r,m,hn,t,w,h=>by
  rw[List.map_cons,List.nodup_cons] at hn
  show bk (r.foldl _ (yo m (w0.1:Int) w0.2)) w.1=_
  cases t with
  | zero=>
   obtain rfl:w0=w:=by simpa using h
   rw[Uv r _ (λw' hw' e=>hn.1 (List.mem_map.2 ⟨w',hw',e⟩)),je]
  | succ t=>exact zdb r _ hn.2 t w (by simpa using h)
structure Uo (S:Sto) (all:List (Int × List Int)) (blk:Int→List Nat):Prop where
 good:uw zo (bk S.d.now) S.d.n all blk S.next
 st:∀i,i<S.d.n→bk S.d.st i=bk S.d.now i
 late:S.d.late = []
 off:S.d.off=false
 brk:S.broken=0
 recs:S.recs=all.map λq=>(q.1,(q.2,blk q.1))
 tl:S.taken.length=S.d.n
 tak:∀q∈all,∀i∈blk q.1,S.taken[i]? = some true
theorem Qy:∀(bl:List Nat) (t:List Bool) (i:Nat),t[i]? = some x→(qa t bl x)[i]? = some x
 | [],t,i,h=>h
 | j :: r,t,i,h=>by
  show(qa (t.set j x) r x)[i]? = _
  refine Qy r _ i ?_;rw[List.getElem?_set]
  split
  ·rename_i e
   subst e;rw[if_pos (List.getElem?_eq_some_iff.1 h).1]
  ·exact h
theorem zhf:∀(bl:List Nat) (t:List Bool) (i:Nat),i∈bl→i<t.length→(qa t bl x)[i]? = some x
 | [],t,i,h,_=>by simp at h
 | j :: r,t,i,h,hl=>by
  show(qa (t.set j x) r x)[i]? = _
  rcases List.mem_cons.1 h with rfl|h
  ·refine Qy r _ i ?_
   rw[List.getElem?_set,if_pos rfl,if_pos hl]
  ·exact zhf r _ i h (by rw[List.length_set];exact hl)
theorem zjd:∀(bl:List Nat) (t:List Bool) (i:Nat),i ∉ bl→(qa t bl x)[i]? = t[i]?
 | [],t,i,_=>rfl
 | j :: r,t,i,h=>by
  show(qa (t.set j x) r x)[i]? = _
  rw[zjd r _ i (λe=>h (List.mem_cons_of_mem _ e)),List.getElem?_set,if_neg (λe=>h (by simp[e]))]
theorem zdx {V:Type} {m:List (Int × V)} (h:∀p∈m,p.1≠k):zw m k=none:=Qq h
theorem zeb (rows:List (zt × xr)):∀(ks:List zt) (S:Sto),(∀r∈S.recs,∀i∈r.2.2,i<S.taken.length→S.taken[i]? = some true)→(∀r∈(vj rows ks S).recs,∀i∈r.2.2,i<(vj rows ks S).taken.length→(vj rows ks S).taken[i]? = some true)∧(vj rows ks S).taken.length=S.taken.length
 | [],S,h=>⟨h,rfl⟩
 | K :: t,S,h=>by
  have hs:(∀r∈(xc rows S K).recs,∀i∈r.2.2,i<(xc rows S K).taken.length→(xc rows S K).taken[i]? = some true)∧(xc rows S K).taken.length=S.taken.length:=by
   unfold xc
   cases zw rows K with
   | none=>exact⟨h,rfl⟩
   | some r=>
    simp only
    split
    ·exact⟨h,rfl⟩
    ·refine⟨λq hq i hi hl=>?_,qx _ _ _⟩
     have hl':i<S.taken.length:=by rw[show(S.kept K.k (vp r) (xo r)).taken.length=S.taken.length from qx _ _ _] at hl;exact hl
     rename_i hc
     have hno:zw S.recs K.k=none:=by
      cases e:zw S.recs K.k with
      | none=>rfl
      | some z=>exact absurd (Or.inl (by rw[e];rfl)) hc
     have hrec:(S.kept K.k (vp r) (xo r)).recs=S.recs ++ [(K.k,(vp r,xo r))]:=qz hno _;rw[hrec] at hq
     rcases List.mem_append.1 hq with hq|hq
     ·exact Qy _ _ i (h q hq i hi hl')
     ·obtain rfl:q=(K.k,(vp r,xo r)):=by simpa using hq
      exact zhf _ _ i hi hl'
  have ih:=zeb rows t (xc rows S K) hs.1
  exact⟨ih.1,ih.2.trans hs.2⟩
theorem zfs:∀n,(opnD d n).2.1=0→(opnD d n).2.2=false→(opnD d n).1=d
 | 0,_,_=>rfl
 | n+1,h,hf=>by
  by_cases h0:(opnD d n).2.1=0
  ·by_cases hc:(saidP zo (bk d.now n)).isSome=true∨bk d.now n=zr
   ·rw[Za h0 hc] at h hf ⊢
    exact zfs n h hf
   ·have hc1:(saidP zo (bk d.now n)).isSome=false:=by
     cases e:(saidP zo (bk d.now n)).isSome
     ·rfl
     ·exact absurd (Or.inl e) hc
    rw[Ub h0 hc1 (λe=>hc (Or.inr e))] at hf
    cases hf
  ·rw[Qr h0] at h
   exact absurd h h0
theorem zil (h:xd d) (hl:d.late = []) (hst:∀i,i<d.n→bk d.st i=bk d.now i) :
  xd d.opened.1∧d.opened.1.n=d.n∧d.opened.1.late = []∧(∀i,i<d.n→bk d.opened.1.st i=bk d.opened.1.now i)∧∀i,i<d.n→bk d.opened.1.now i=scrub zo (bk d.now i):=by
 obtain⟨h1,h2,h3⟩:=xd.opn h d.n (Nat.le_refl _);have ok:=zd9 h.1 d.n (Nat.le_refl _) h1;unfold Dk.opened;rw[if_neg (by simp[h1])]
 cases hf:(opnD d d.n).2.2
 ·have e:=zfs d.n h1 hf
  simp only[Bool.false_eq_true,if_false];have hm:=ok.met;rw[e] at hm ⊢
  exact⟨h,rfl,hl,hst,hm⟩
 ·simp only[if_true]
  obtain⟨s1,s2,s3,s4⟩:=h2.sync;refine⟨s2,s3.trans h3,s4,λi hi=>?_,λi hi=>?_⟩
  ·rcases zbw h2.1 with ⟨_,_,_,a,b,_⟩|⟨a,_⟩
   ·rw[a,b]
   ·rw[s1] at a;cases a
  ·rw[zel h2]
   exact ok.met i hi
theorem kopen (h:xd d) (hl:d.late = []) (hst:∀i,i<d.n→bk d.st i=bk d.now i) {blk:Int→List Nat} (g:uw zo (λi=>scrub zo (bk d.now i)) d.n all blk next) {ks:List zt} (hk:jc d ks):Uo (openS d ks) all blk∧(openS d ks).next≤next∧(openS d ks).d.n=d.n:=by
 obtain⟨o1,o2,o3,o4,o5⟩:=zil h hl hst;have hs:∀i,i<d.n→saidP zo (bk d.now i)=saidP zo ((λi=>scrub zo (bk d.now i)) i):=λi _=>(Jp _).symm
 have hr:=zc3 hk g hs;have e:=Qx (C:=zo) (N:=d.n) (f:=λi=>scrub zo (bk d.now i)) (g:=bk d.now) hs d.n (Nat.le_refl _)
 obtain⟨g1,g2⟩:=g.opened;rw[←e] at g1 g2;obtain⟨p1,p2,p3⟩:=Xe (scanN zo (bk d.now) d.n).rows ks ⟨d.opened.1,[],List.replicate d.n false,(scanN zo (bk d.now) d.n).next,0⟩;obtain⟨t1,t2⟩:=zeb (scanN zo (bk d.now) d.n).rows ks ⟨d.opened.1,[],List.replicate d.n false,(scanN zo (bk d.now) d.n).next,0⟩ (by simp)
 have t2':(openS d ks).taken.length=d.n:=t2.trans List.length_replicate;have p1':(openS d ks).d=d.opened.1:=p1;have p2':(openS d ks).next=(scanN zo (bk d.now) d.n).next:=p2;refine⟨⟨?_,?_,?_,?_,p3,hr,?_,?_⟩,?_,?_⟩
 ·rw[p1',p2',o2]
  exact g1.same λi hi=>o5 i hi
 ·rw[p1',o2];exact o4
 ·rw[p1'];exact o3
 ·rw[p1'];exact o1.1
 ·rw[t2',p1',o2]
 ·intro q hq i hi
  have hm:(q.1,(q.2,blk q.1))∈(openS d ks).recs:=by rw[hr];exact List.mem_map.2 ⟨q,hq,rfl⟩
  exact t1 _ hm i hi (by rw[show(vj _ ks _).taken.length=d.n from t2'];exact g.blt q hq i hi)
 ·rw[p2'];exact g2
 ·rw[p1'];exact o2
structure KBad (d:Dk) (n:Nat) (now all:List (Int × List Int)) (next:Int):Prop where
 off:d.off=true
 nn:d.n=n
 late:d.late.length≤600
 on:∀fates,xd (d.on fates)∧(d.on fates).late = []∧(d.on fates).n=n
 open_:∀fates ks,jc (d.on fates) ks→∃al blk,(al=all∨al=now)∧Uo (openS (d.on fates) ks) al blk∧(openS (d.on fates) ks).next≤next∧(openS (d.on fates) ks).d.n=n
 dg:∀fates,∃al blk,(al=all∨al=now)∧uw zo (λi=>scrub zo (bk (qp fates 0 d.late d.st) i)) n al blk next
theorem zlu (ho:d.off=true) (fates:List Int):xd (d.on fates)∧(d.on fates).late = []∧(d.on fates).n=d.n∧(d.on fates).now=qp fates 0 d.late d.st∧(d.on fates).st=qp fates 0 d.late d.st:=by
 unfold Dk.on;rw[if_pos ho]
 exact⟨⟨rfl,rfl⟩,rfl,rfl,rfl,rfl⟩
theorem kbad {n:Nat} {now:List (Int × List Int)} (ho:d.off=true) (hn:d.n=n) (hl:d.late.length≤600)
 (h:∀fates,∃al blk,(al=all∨al=now)∧uw zo (λi=>scrub zo (bk (qp fates 0 d.late d.st) i)) n al blk next):KBad d n now all next:=by
 refine⟨ho,hn,hl,λfates=>?_,λfates ks hk=>?_,h⟩
 ·obtain⟨a,b,c,-⟩:=zlu ho fates
  exact⟨a,b,c.trans hn⟩
 ·obtain⟨a,b,c,e,f⟩:=zlu ho fates
  obtain⟨al,blk,h1,g⟩:=h fates;obtain⟨k1,k2,k3⟩:=kopen a b (λi _=>by rw[e,f]) (all:=al) (blk:=blk) (next:=next) (by rw[e,c,hn];exact g) hk
  exact⟨al,blk,h1,k1,k2,k3.trans (c.trans hn)⟩
theorem zfz {fr:List Nat} {w:Nat × List Int} (h:w∈vd zo k b fr):w.1∈fr∧w.2.length=256:=by
 unfold vd at h;obtain⟨j,hj,rfl⟩:=List.mem_map.1 h;have hj:=List.mem_range.1 hj;refine⟨?_,js (by exact zhu b j)⟩
 simp only;rw[List.getD_eq_getElem?_getD,List.getElem?_eq_getElem hj,Option.getD_some]
 exact List.getElem_mem hj
theorem Uo.put {blk:Int→List Nat} (h:Uo S all blk) (hn:S.next≤4611686018427387904) (hb:b.length≤131072) :
  S.put b=(S,0,181)∨
  (∃S' blk',S.put b=(S',S.next,0)∧Uo S' (all ++ [(S.next,b)]) blk'∧S'.next=S.next+1∧S'.d.n=S.d.n)∨
  (∃S',S.put b=(S',0,180)∧KBad S'.d S.d.n (all ++ [(S.next,b)]) all (S.next+1)):=by
 obtain⟨fr,hfr⟩:∃fr,fr=yj S.taken (zk b.length) S.taken.length:=⟨_,rfl⟩;have hlt:∀i∈fr,i<S.d.n∧S.taken[i]? = some false:=λi hi=>by
  rw[hfr] at hi;have:=zdl hi;rw[h.tl] at this
  exact this
 have hnd:fr.Nodup:=by rw[hfr];exact zca _ _ _
 unfold Sto.put;rw[if_neg (by simp[h.brk]),if_neg (by omega),←hfr]
 by_cases hf:fr.length<zk b.length
 ·rw[if_pos hf]
  exact Or.inl rfl
 ·rw[if_neg hf]
  right
  have hfl:fr.length=zk b.length:=by
   have:=(zfk S.taken (zk b.length) S.taken.length).1;rw[←hfr] at this;omega
  have hff:∀q∈all,∀i∈fr,i ∉ blk q.1:=λq hq i hi hm=>by
   have h1:=h.tak q hq i hm;rw[(hlt i hi).2] at h1
   cases h1
  obtain⟨ws,hws⟩:∃ws,ws=vd zo S.next b fr:=⟨_,rfl⟩;have hpl:zk b.length≤570:=by unfold zk;omega
  have hwl:ws.length=fr.length:=by rw[hws];unfold vd;simp
  have hbad:∀d':Dk,d'.off=true→d'.n=S.d.n→(∃m,d'.late=Zk (ws.take m))→d'.st=S.d.st→KBad d' S.d.n (all ++ [(S.next,b)]) all (S.next+1):=λd' a1 a2 ⟨m,a3⟩ a4=>by
   refine kbad a1 a2 ?_ λfates=>?_
   ·rw[a3];simp[Zk];omega
   ·rw[a3,a4,hws]
    rcases zmo h.good hn hb hfl hnd (λi hi=>(hlt i hi).1) hff S.d.st (λi hi=>h.st i hi) fates m (g:=λi=>scrub zo (bk (qp fates 0 (Zk ((vd zo S.next b fr).take m)) S.d.st) i)) (λi _=>rfl) with g|g
    ·exact⟨all,blk,Or.inl rfl,g⟩
    ·exact⟨_,_,Or.inr rfl,g⟩
  rw[←hws]
  rcases zcp ws S.d h.off (λw hw=>by
   rw[hws] at hw;obtain⟨m1,m2⟩:=zfz hw
   exact⟨(hlt _ m1).1,m2⟩) with ⟨w1,w2,w3,w4,w5,w6⟩|⟨w1,w2,⟨m,w3⟩,w5,w6⟩
  ·rw[if_neg (by simp[w1])]
   rw[h.late,List.nil_append] at w3
   rcases zbw w2 with ⟨s1,s2,s3,s4,s5,s6⟩|⟨s1,s2,s3,s5,s6⟩
   ·rw[if_neg (by simp[s1])]
    left
    refine⟨_,λk=>if k=S.next then fr else blk k,rfl,?_,rfl,s6.trans w6⟩
    have hN:((Sto.kept { S with d:=(S.d.writes ws).1.synced } S.next b fr).next1).d.n=S.d.n:=s6.trans w6
    have hnow:((Sto.kept { S with d:=(S.d.writes ws).1.synced } S.next b fr).next1).d.now=ws.foldl (λm w=>yo m (w.1:Int) w.2) S.d.now:=s4.trans w4
    have hstt:((Sto.kept { S with d:=(S.d.writes ws).1.synced } S.next b fr).next1).d.st=ws.foldl (λm w=>yo m (w.1:Int) w.2) S.d.now:=s5.trans w4
    refine⟨?_,λi _=>by rw[hnow,hstt],s3,s2,h.brk,?_,?_,?_⟩
    ·rw[hN,hnow]
     refine zgx h.good hn hb hfl hnd (λi hi=>(hlt i hi).1) hff (λi _ hi=>?_) (λj i hji=>?_)
     ·refine Uv ws _ (λw hw e=>hi ?_)
      rw[hws] at hw;rw[←e]
      exact(zfz hw).1
     ·have hw:ws[j]? = some (i,xe zo ⟨S.next,j,zk b.length,xy b j⟩):=by rw[hws];exact zbp hji
      exact zdb ws _ (by rw[hws,Qt];exact hnd) j _ hw
    ·show yo S.recs S.next (b,fr)=_
     have hno:zw S.recs S.next=none:=zdx (λp hp e=>by
      rw[h.recs] at hp;obtain⟨q,hq,rfl⟩:=List.mem_map.1 hp;have:=(h.good.key hq).2;simp only at e;omega)
     rw[qz hno,h.recs,List.map_append]
     congr 1
     ·refine List.map_congr_left λq hq=>?_
      have:=(h.good.key hq).2;rw[if_neg (by omega)]
     ·simp
    ·show(qa S.taken fr true).length=_
     rw[qx,h.tl,hN]
    ·intro q hq i hi
     show(qa S.taken fr true)[i]? = some true
     rcases List.mem_append.1 hq with hq|hq
     ·have:=(h.good.key hq).2
      rw[if_neg (by omega)] at hi
      exact Qy _ _ i (h.tak q hq i hi)
     ·obtain rfl:q=(S.next,b):=by simpa using hq
      rw[if_pos rfl] at hi
      exact zhf _ _ i hi (by rw[h.tl];exact(hlt i hi).1)
   ·right
    rw[if_pos (by rw[s1];decide)]
    obtain⟨d1,d2,d3,d4,d5⟩:=Xj S (S.d.writes ws).1.synced (S.d.writes ws).1.syncV;refine⟨_,by rw[s1],?_⟩
    rw[←s1,d4]
    exact hbad _ s2 (s6.trans w6) ⟨ws.length,by rw[s3,w3,List.take_length]⟩ (s5.trans w5)
  ·right
   rw[if_pos (by rw[w1];decide)]
   obtain⟨d1,d2,d3,d4,d5⟩:=Xj S (S.d.writes ws).1 (S.d.writes ws).2;refine⟨_,by rw[w1],?_⟩
   rw[←w1,d4]
   exact hbad _ w2 w6 ⟨m,by rw[w3,h.late,List.nil_append]⟩ w5
theorem Uo.key_get {blk:Int→List Nat} (h:Uo S all blk) (hq:q∈all):zw S.recs q.1=some (q.2,blk q.1):=by
 cases e:zw S.recs q.1 with
 | none=>
  exfalso
  refine uz.1 e (q.1,(q.2,blk q.1)) ?_ rfl;rw[h.recs]
  exact List.mem_map.2 ⟨q,hq,rfl⟩
 | some r=>
  have hm:=qj e;rw[h.recs] at hm;obtain⟨q',hq',e'⟩:=List.mem_map.1 hm
  injection e' with e1 e2
  have:=h.good.uniq hq' hq e1;rw[this] at e2;rw[←e2]
theorem Uo.rem {blk:Int→List Nat} (h:Uo S all blk) (hq:q∈all) :
  (∃S',S.rem q.1=(S',0)∧Uo S' (all.filter λr=>decide (r.1≠q.1)) blk∧S'.next=S.next∧S'.d.n=S.d.n)∨
  (∃S',S.rem q.1=(S',180)∧KBad S'.d S.d.n (all.filter λr=>decide (r.1≠q.1)) all S.next):=by
 have hlen:=h.good.bln q hq;have hpos:=qu q.2.length;obtain⟨i0,hi0⟩:∃i,(blk q.1)[0]? = some i:=⟨_,List.getElem?_eq_getElem (by omega)⟩
 have hhd:(blk q.1).headD 0=i0:=by
  cases hb:blk q.1 with
  | nil=>rw[hb] at hi0;simp at hi0
  | cons a t=>rw[hb] at hi0;simpa using hi0
 have hiN:=h.good.blt q hq i0 (List.mem_of_getElem? hi0);have hz:vf []=zr:=zis;have hbad:∀d':Dk,d'.off=true→d'.n=S.d.n→d'.late=Zk [(i0,zr)]→d'.st=S.d.st→KBad d' S.d.n (all.filter λr=>decide (r.1≠q.1)) all S.next:=λd' a1 a2 a3 a4=>by
  refine kbad a1 a2 (by rw[a3];simp[Zk]) λfates=>?_
  rw[a3,a4]
  rcases zmp h.good hq hi0 S.d.st (λi hi=>h.st i hi) fates (g:=λi=>scrub zo (bk (qp fates 0 (Zk [(i0,zr)]) S.d.st) i)) (λi _=>rfl) with g|g
  ·exact⟨all,blk,Or.inl rfl,g⟩
  ·exact⟨_,_,Or.inr rfl,g⟩
 unfold Sto.rem;rw[if_neg (by simp[h.brk]),h.key_get hq]
 simp only;rw[hhd]
 rcases zeu h.off hiN (x:=[]) (by simp) with ⟨w1,w2,w3,w4,w5,w6⟩|⟨w1,w2,w3,w5,w6⟩
 ·rw[if_neg (by simp[w1])]
  rw[h.late,List.nil_append,hz] at w3
  rcases zbw w2 with ⟨s1,s2,s3,s4,s5,s6⟩|⟨s1,s2,s3,s5,s6⟩
  ·rw[if_neg (by simp[s1])]
   left
   refine⟨_,rfl,?_,rfl,s6.trans w6⟩;rw[hz] at w4;refine⟨?_,λi _=>?_,s3,s2,h.brk,?_,?_,?_⟩
   ·show uw zo (bk (S.d.written i0 []).synced.now) (S.d.written i0 []).synced.n _ blk S.next
    rw[s6,w6,s4,w4]
    exact h.good.rem hq hi0 (je _ _ _) (λi _ hne=>Zw _ _ hne)
   ·show bk (S.d.written i0 []).synced.st i=bk (S.d.written i0 []).synced.now i
    rw[s4,s5]
   ·show jq S.recs q.1=_
    rw[h.recs];clear hbad hlen hi0 hhd hiN w1 w2 w3 w4 w5 w6 s1 s2 s3 s4 s5 s6;unfold jq;rw[List.filter_map]
    rfl
   ·show(qa S.taken (blk q.1) false).length=_
    rw[qx,h.tl]
    show S.d.n=(S.d.written i0 []).synced.n
    rw[s6,w6]
   ·intro r hr i hi
    show(qa S.taken (blk q.1) false)[i]? = some true
    obtain⟨hr1,hr2⟩:=List.mem_filter.1 hr;have hne:r.1≠q.1:=by simpa using hr2
    rw[zjd _ _ i (λhm=>hne (by rw[h.good.apart hr1 hq hi hm]))]
    exact h.tak r hr1 i hi
  ·right
   rw[if_pos (by rw[s1];decide)]
   obtain⟨d1,d2,d3,d4,d5⟩:=Xj S (S.d.written i0 []).synced (S.d.written i0 []).syncV;refine⟨_,by rw[s1],?_⟩
   rw[←s1,d4]
   exact hbad _ s2 (s6.trans w6) (by rw[s3,w3];rfl) (s5.trans w5)
 ·right
  rw[if_pos (by rw[w1];decide)]
  obtain⟨d1,d2,d3,d4,d5⟩:=Xj S (S.d.written i0 []) (S.d.writeV i0 []);refine⟨_,by rw[w1],?_⟩
  rw[←w1,d4]
  exact hbad _ w2 w6 (by rw[w3,h.late,hz];rfl) w5
theorem Uo.failed {blk:Int→List Nat} (h:Uo S all blk) (n:Int):Uo { S with d:=S.d.failed n } all blk:=⟨h.good,h.st,h.late,h.off,h.brk,h.recs,h.tl,h.tak⟩
theorem zo5 (n:Int):Uo (S0 n) [] (λ_=>[]):=⟨zdm _ (λi _=>rfl),λi _=>rfl,rfl,rfl,rfl,rfl,List.length_replicate,by simp⟩
open Go.RowKit Go.Sf
structure vn where
 kind:Int
 B:List Int
 p:Option Addr
 c:Nat
 times:Int
 n:Int
 F:List Int
 fp:Option Addr
 fc:Nat
def zht:vn:=⟨0,[],none,0,0,0,[],none,0⟩
def yd (x:vn):List Value:=[.int .u8 x.kind,.slice x.p x.B.length x.c,.int .u8 x.times,.int .i64 x.n,.slice x.fp x.F.length x.fc]
structure qr (W:World) (x:vn):Prop where
 b:zx W (.slice x.p x.B.length x.c) x.B
 bb:BL x.B
 f:zx W (.slice x.fp x.F.length x.fc) x.F
 fb:BL x.F
 k:0≤x.kind∧x.kind≤255
 t:0≤x.times∧x.times≤255
 n : -9223372036854775808≤x.n∧x.n≤9223372036854775807
 bl:x.B.length≤9223372036854775807
 fl:x.F.length≤9223372036854775807
def ur (w:World) (v:Value) (l:List vn):Prop:=
 ∃p cap,v = .slice p l.length cap∧l.length≤9223372036854775807∧(∀x∈l,qr w x)∧(l = []∨∃b off,p=some ⟨b,off,none⟩∧∀i,i<l.length→∀j u,(yd (l.getD i zht))[j]? = some u→w.cell? ⟨b,off+i*5+j,none⟩=some u)
def LargeP (w:World) (l:List vn) (e:Ending) (w':World):Prop:=∃r,e = .returned (.bool r)∧w.grownBy w' none∧(r=false→l.length≤60∧∀x∈l,x.B.length≤6000∧x.F.length≤6000)
set_option maxRecDepth 100000 in
theorem zcd (v:Value) (l:List vn) (w:World) (h:ur w v l) :
  Calls Tryz.prog 27 #[v] w (LargeP w l):=by
 obtain⟨p,cap,rfl,hlen,hok,hrow⟩:=h
 rcases Nat.lt_or_ge 60 l.length with h60|h60
 ·clear hrow hok
  go_enter Tryz.func27,Tryz.ntmps27
  go_wp2
  go_ret
  exact⟨true,rfl,zi _,by simp⟩
 ·have HK:=zd hok
  have HR:=zd hrow;have HLl:=zd (show l.length≤60 from h60)
  clear hok hrow;have hnn:∃m,m=l.length:=⟨_,rfl⟩;obtain⟨m,hn⟩:=hnn;have HN:=zd hn;rw[←hn] at h60 hlen ⊢;clear hn
  go_enter Tryz.func27,Tryz.ntmps27
  go_wp2
  go_loopw [3,4] (λs i wr=>w.grownBy wr none∧∃(j:Nat) (x:Int),j≤m∧i = .int .i64 j∧s = .int .i64 x∧0≤x∧x≤12000∧(∀c∈l.take j,c.B.length≤6000∧c.F.length≤6000)) (λ_ i _=>m-(intOf i).toNat)
  case atStart=>exact⟨zi _,0,0,Nat.zero_le _,rfl,rfl,by omega,by omega,by simp⟩
  case round=>
   obtain⟨hg,j,x,hj,rfl,rfl,hx0,hx1,hall⟩:=hrel;have HA:=zd hall;clear hall
   rcases Nat.lt_or_ge j m with hlt|hge
   ·rcases HR.out with h0|⟨b,off,rfl,hc⟩
    ·exfalso;have:=HN.out;rw[h0] at this;simp at this;omega
    ·have hjl:j<l.length:=by rw[←HN.out];exact hlt
     have cB:=hg.cell (hc j hjl 1 _ rfl) (by simp)
     have cF:=hg.cell (hc j hjl 4 _ rfl) (by simp)
     have hbw:b<wr.heap.size:=xi cB;have hget:l.getD j zht=l[j]:=by simp[List.getD_eq_getElem?_getD,List.getElem?_eq_getElem hjl]
     have hkk:=HK.out l[j] (List.getElem_mem _);have htk:l.take (j+1)=l.take j ++ [l[j]]:=List.take_succ_eq_append_getElem hjl;have HT:=zd htk;rw[hget] at cB cF;have hb:=hkk.bl;have hf:=hkk.fl;clear hc htk hkk hget;have HG:=zd hg;clear hg;have HC:Hid (∀y∈l.take (j+1),y∈l.take j∨y=l[j]):=(λy hy=>by
      rw[HT.out] at hy
      rcases List.mem_append.1 hy with h|h
      ·exact Or.inl h
      ·exact Or.inr (by simpa using h))
     generalize l[j]=c at *;obtain⟨kind,B,bp,bc,times,n,F,fp,fc⟩:=c;simp only at cB cF hb hf;have HBl:=zd (show B.length=B.length from rfl)
     generalize hbn:B.length=bn at *;generalize hfn:F.length=fn at *;have HBN:=zd hbn;have HFN:=zd hfn;clear hbn hfn HBl
     by_cases hgt:6000-x<(bn:Int)
     ·go_wp2
      go_ret
      exact⟨true,rfl,HG.out,by simp⟩
     ·by_cases hgt2:6000-x<(fn:Int)
      ·go_wp2
       go_ret
       exact⟨true,rfl,HG.out,by simp⟩
      ·go_upto_region 9 with fail
       refine ya (by kernel_rfl) (by kernel_rfl) ?_
       repeat (any_goals (first|go_big_quiet_step (fail)|quiet_step (fail)))
       refine wpQuiet_nil ?_;intro _ hw';obtain⟨xx,hw''⟩:=hw';subst hw'';have HG2:=zd (vu HG.out xx);generalize ext wr xx=w9 at *;go_wp2;refine⟨⟨HG2.out,j+1,x+bn+fn,by omega,by simp,by simp,by omega,by omega,λy hy=>?_⟩,by simp[intOf];omega⟩
       rcases HC.out y hy with h|rfl
       ·exact HA.out y h
       ·exact⟨by show B.length≤6000;rw[HBN.out];omega,by show F.length≤6000;rw[HFN.out];omega⟩
   ·go_wp2
    go_ret
    refine⟨false,rfl,hg,λ_=>⟨HLl.out,?_⟩⟩
    have:=HA.out;rw[List.take_of_length_le (by rw[←HN.out];omega)] at this
    exact this
def zbx (n T:Nat):Nat:=min (T+1) (if n=0 then T+1 else 700 / n)
theorem zeq (n T k:Nat):k<zbx n T↔k≤T∧k*n+n≤700:=by
 unfold zbx
 rcases Nat.eq_zero_or_pos n with rfl|h
 ·simp;omega
 ·rw[if_neg (by omega)]
  have:k<700 / n↔k*n+n≤700:=by
   rw[Nat.lt_iff_add_one_le,Nat.le_div_iff_mul_le h,Nat.add_mul,Nat.one_mul]
  omega
def zbs (B:List Int):Nat→List Int
 | 0=>[]
 | k+1=>zbs B k++B
theorem zeg (B:List Int):∀k,(zbs B k).length=k*B.length
 | 0=>by simp[zbs]
 | k+1=>by rw[zbs,List.length_append,zeg B k,Nat.add_mul,Nat.one_mul]
theorem zlz {B:List Int} (h:BL B):∀k,BL (zbs B k)
 | 0=>λb hb=>by simp[zbs] at hb
 | k+1=>λb hb=>by
  rcases List.mem_append.1 hb with h1|h1
  ·exact zlz h k b h1
  ·exact h b h1
def yx (x:vn):List Int:=zbs x.B (zbx x.B.length x.times.toNat)
theorem zfa {x:vn} (h:qr W x):BL (yx x):=zlz h.bb _
theorem zdc (x:vn):(yx x).length≤700:=by
 unfold yx;rw[zeg]
 cases e:zbx x.B.length x.times.toNat with
 | zero=>omega
 | succ k=>
  have:=(zeq x.B.length x.times.toNat k).1 (by omega)
  rw[Nat.add_mul,Nat.one_mul]
  exact this.2
set_option maxRecDepth 100000 in
theorem Ux {x:vn} (h:qr W x) :
  Calls Tryz.prog 32 #[.agg (yd x).toArray] W λe w'=>e = .returned (.string (ofB (yx x)))∧W.grownBy w' none:=by
 have HB:=zd h.b;have hk:=h.k;have ht:=h.t;have hl:=h.bl;have HE:Hid (yx x=zbs x.B (zbx x.B.length x.times.toNat)):=(show _=_ from rfl)
 rw[HE.out];clear HE h;obtain⟨kind,B,bp,bc,times,n,F,fp,fc⟩:=x;obtain⟨T,rfl⟩:=Int.eq_ofNat_of_zero_le ht.1;simp only[yd] at *;have hi:=zeq B.length T;have HI:=zd hi;have HL:Hid (∀k,(ofB (zbs B k)).size=k*B.length):=(λk=>by rw[yu,zeg])
 simp only[Int.toNat_natCast];clear hi;generalize zbx B.length T=M at *;have hw1:=ze W (.cells #[.int .u8 kind,.slice bp B.length bc,.int .u8 (T:Int),.int .i64 n,.slice fp F.length fc] 49) none;have hh1:=heap_alloc_new W (.cells #[.int .u8 kind,.slice bp B.length bc,.int .u8 (T:Int),.int .i64 n,.slice fp F.length fc] 49);have hcv:=uh (HB.out.grown hw1 (by simp))
 have HW1:=zd hw1;obtain⟨W1,hW1⟩:∃x,x=W.alloc (.cells #[.int .u8 kind,.slice bp B.length bc,.int .u8 (T:Int),.int .i64 n,.slice fp F.length fc] 49):=⟨_,rfl⟩;have HHW:=zd hW1;rw[←hW1] at hh1 hcv HW1;clear hW1;have d1:W1.cell? ⟨W.heap.size,1,none⟩=some (.slice bp B.length bc):=(zf hh1 1).trans rfl;have d2:W1.cell? ⟨W.heap.size,2,none⟩=some (.int .u8 (T:Int)):=(zf hh1 2).trans rfl;have HZ:Hid (∀k,ofB (zbs B k)++ofB B=ofB (zbs B (k+1))):=(λk=>zg5 _ _)
 have hz0:ofB (zbs B 0)=⟨#[]⟩:=rfl;have hbsz:(ofB B).size=B.length:=yu B;have HZ0:=zd hz0;generalize hbs:ofB B=bs at *;clear hw1 hh1 hbs hz0 hk;have hR:∃R:Nat→ByteArray,∀k,R k=ofB (zbs B k):=⟨_,λ_=>rfl⟩
 obtain⟨R,hR⟩:=hR;rw[←hR M];have HR2:Hid (R 0=⟨#[]⟩∧(∀k,(R k).size=k*B.length)∧∀k,R k++bs=R (k+1)):=(show _∧_ from ⟨by rw[hR];exact HZ0.out,λk=>by rw[hR];exact HL.out k,λk=>by rw[hR,hR];exact HZ.out k⟩)
 clear HL HZ HZ0 hR;have HBB:=HB.out.ex;generalize hbn:B.length=bn at *;clear HB HBB hbn
 go_enter Tryz.func32,Tryz.ntmps32
 go_wp2;rw[←HHW.out];clear HHW
 go_loopw [3,4] (λs i wr=>W1=wr∧∃k:Nat,k≤M∧s = .string (R k)∧i = .int .i64 k) (λ_ i _=>M-(intOf i).toNat)
 case atStart=>exact⟨rfl,0,by omega,by rw[HR2.out.1],rfl⟩
 case round=>
  obtain⟨rfl,k,hkM,rfl,rfl⟩:=hrel;have hsz:=HR2.out.2.1 k;have HAP:=zd (HR2.out.2.2 k);have hkn:k*bn≤700:=by
   cases k with
   | zero=>omega
   | succ j=>
    have:=((HI.out j).1 (by omega)).2
    rw[Nat.add_mul,Nat.one_mul]
    exact this
  have hkb:k*bn+bn≤9223372036854775807:=by
   cases k with
   | zero=>omega
   | succ j=>
    have h1:=((HI.out j).1 (by omega)).2
    have h2:bn≤700:=by omega
    omega
  have hik:=HI.out k;generalize k*bn=m at *;obtain⟨z,hz⟩:∃z,z=R k:=⟨_,rfl⟩;rw[←hz] at hsz HAP ⊢;have HZK:=zd hz;clear hz
  by_cases hkM2:k<M
  ·obtain⟨a1,a2⟩:=hik.1 hkM2
   clear hik;go_wp2;rw[HAP.out];refine⟨⟨trivial,k+1,by omega,rfl,by simp⟩,by simp[intOf];omega⟩
  ·obtain rfl:k=M:=by omega
   by_cases hT:k≤T
   ·have h700:700<m+bn:=by
     rcases Nat.lt_or_ge 700 (m+bn) with h|h
     ·exact h
     ·exact absurd (hik.2 ⟨hT,h⟩) (by omega)
    clear hik;go_wp2
    go_ret
    rw[←HZK.out]
    exact⟨rfl,HW1.out⟩
   ·clear hik
    go_wp2
    go_ret
    rw[←HZK.out]
    exact⟨rfl,HW1.out⟩
end Go.Proofs.YtbcbhlfjgobejaaGreat
