/- SlotsKeeps: a store on a disk that may fail; what calls and openings leave. Conditions: none, or as the theorems say. -/
import Derived.Test.YtbcbhlfjgobejaaGreatI27
import Derived.Test.YtbcbhlfjgobejaaGreatI19
set_option linter.unusedSimpArgs false
set_option linter.unusedVariables false
namespace Go.Proofs.YtbcbhlfjgobejaaGreat
set_option maxHeartbeats 200000000
open Go.Sf
theorem Qe {d:Dk} (ho:d.off=false) {i:Nat} (hi:i<d.n) {x:List Int} (hx:x.length≤256) :
  (d.writeV i x=0∧(d.written i x).off=false∧(d.written i x).late=d.late ++ [((i:Int),jg x)]∧(d.written i x).now=yj d.now (i:Int) (jg x)∧(d.written i x).st=d.st∧(d.written i x).n=d.n)∨
  (d.writeV i x=180∧(d.written i x).off=true∧(d.written i x).late=d.late ++ [((i:Int),jg x)]∧(d.written i x).st=d.st∧(d.written i x).n=d.n):=by
 have hm:d.mayE (i:Int) x.length=0:=by
  unfold Dk.mayE;rw[if_neg (by simp[ho]),if_neg (by omega),if_neg (by omega)]
 cases hs:d.stepB
 ·right
  have e1:d.writeV i x=180:=by unfold Dk.writeV;simp[hm,hs]
  have e2:d.written i x=(d.lay i (jg x)).gone:=by unfold Dk.written;simp[hm,hs]
  rw[e1,e2]
  exact⟨rfl,rfl,rfl,rfl,rfl⟩
 ·left
  have e1:d.writeV i x=0:=by unfold Dk.writeV;simp[hm,hs]
  have e2:d.written i x=(d.lay i (jg x)).went:=by unfold Dk.written;simp[hm,hs]
  rw[e1,e2]
  exact⟨rfl,ho,rfl,rfl,rfl,rfl⟩
theorem Xj {d:Dk} (ho:d.off=false) :
  (d.syncV=0∧d.synced.off=false∧d.synced.late = []∧d.synced.now=d.now∧d.synced.st=d.now∧d.synced.n=d.n)∨
  (d.syncV=180∧d.synced.off=true∧d.synced.late=d.late∧d.synced.st=d.st∧d.synced.n=d.n):=by
 cases hs:d.stepB
 ·right
  have e1:d.syncV=180:=by unfold Dk.syncV;simp[ho,hs]
  have e2:d.synced=d.gone:=by unfold Dk.synced;simp[ho,hs]
  rw[e1,e2]
  exact⟨rfl,rfl,rfl,rfl,rfl⟩
 ·left
  have e1:d.syncV=0:=by unfold Dk.syncV;simp[ho,hs]
  have e2:d.synced=d.went.settled:=by unfold Dk.synced;simp[ho,hs]
  rw[e1,e2]
  exact⟨rfl,ho,rfl,rfl,rfl,rfl⟩
theorem zkd {x:List Int} (h:x.length=256):jg x=x:=by unfold jg;rw[h];simp
theorem za0:∀(ws:List (Nat × List Int)) (d:Dk),d.off=false→(∀w∈ws,w.1<d.n∧w.2.length=256)→
  ((d.writes ws).2=0∧(d.writes ws).1.off=false∧(d.writes ws).1.late=d.late++qz ws∧(d.writes ws).1.now=ws.foldl (fun m w=>yj m (w.1:Int) w.2) d.now∧(d.writes ws).1.st=d.st∧(d.writes ws).1.n=d.n)∨
  ((d.writes ws).2=180∧(d.writes ws).1.off=true∧(∃m,(d.writes ws).1.late=d.late++qz (ws.take m))∧(d.writes ws).1.st=d.st∧(d.writes ws).1.n=d.n)
 | [],d,ho,_=>Or.inl ⟨rfl,ho,by simp[Dk.writes,qz],rfl,rfl,rfl⟩
 | w :: r,d,ho,hw=>by
  obtain⟨a1,a2⟩:=hw w (by simp)
  have hp:=zkd a2;unfold Dk.writes
  rcases Qe ho a1 (x:=w.2) (by omega) with ⟨e1,e2,e3,e4,e5,e6⟩|⟨e1,e2,e3,e5,e6⟩
  ·rw[if_pos e1]
   rw[hp] at e3 e4
   rcases za0 r (d.written w.1 w.2) e2 (fun w' hw'=>by rw[e6];exact hw w' (List.mem_cons_of_mem _ hw')) with ⟨i1,i2,i3,i4,i5,i6⟩|⟨i1,i2,⟨m,i3⟩,i5,i6⟩
   ·left
    refine⟨i1,i2,?_,?_,i5.trans e5,i6.trans e6⟩
    ·rw[i3,e3];simp[qz]
    ·rw[i4,e4];rfl
   ·right
    refine⟨i1,i2,⟨m+1,?_⟩,i5.trans e5,i6.trans e6⟩;rw[i3,e3];simp[qz]
  ·rw[if_neg (by rw[e1];decide)]
   rw[hp] at e3
   exact Or.inr ⟨e1,e2,⟨1,by rw[e3];simp[qz]⟩,e5,e6⟩
theorem Vg {i:Nat}:∀(ws:List (Nat × List Int)) (m:List (Int × List Int)),(∀w∈ws,w.1≠i)→bk (ws.foldl (fun m w=>yj m (w.1:Int) w.2) m) i=bk m i
 | [],m,_=>rfl
 | w :: r,m,h=>by
  show bk (r.foldl _ (yj m (w.1:Int) w.2)) i=_
  rw[Vg r _ (fun w' hw'=>h w' (List.mem_cons_of_mem _ hw')),Yb _ _ (fun e=>h w (by simp) e.symm)]
theorem zbh:∀(ws:List (Nat × List Int)) (m:List (Int × List Int)),(ws.map (·.1)).Nodup→∀(t:Nat) w,ws[t]? = some w→bk (ws.foldl (fun m w=>yj m (w.1:Int) w.2) m) w.1=w.2
 | [],m,_,t,w,h=>by simp at h
 | w0 :: r,m,hn,t,w,h=>by
  rw[List.map_cons,List.nodup_cons] at hn
  show bk (r.foldl _ (yj m (w0.1:Int) w0.2)) w.1=_
  cases t with
  | zero=>
   obtain rfl:w0=w:=by simpa using h
   rw[Vg r _ (fun w' hw' e=>hn.1 (List.mem_map.2 ⟨w',hw',e⟩)),Yn]
  | succ t=>exact zbh r _ hn.2 t w (by simpa using h)
structure ql (S:Sto) (all:List (Int × List Int)) (blk:Int→List Nat):Prop where
 good:vf ya (bk S.d.now) S.d.n all blk S.next
 st:∀i,i<S.d.n→bk S.d.st i=bk S.d.now i
 late:S.d.late = []
 off:S.d.off=false
 brk:S.broken=0
 recs:S.recs=all.map fun q=>(q.1,(q.2,blk q.1))
 tl:S.taken.length=S.d.n
 tak:∀q∈all,∀i∈blk q.1,S.taken[i]? = some true
theorem Uk {x:Bool}:∀(bl:List Nat) (t:List Bool) (i:Nat),t[i]? = some x→(qu t bl x)[i]? = some x
 | [],t,i,h=>h
 | j :: r,t,i,h=>by
  show(qu (t.set j x) r x)[i]? = _
  refine Uk r _ i ?_;rw[List.getElem?_set]
  split
  ·rename_i e
   subst e;rw[if_pos (List.getElem?_eq_some_iff.1 h).1]
  ·exact h
theorem Ja {x:Bool}:∀(bl:List Nat) (t:List Bool) (i:Nat),i∈bl→i<t.length→(qu t bl x)[i]? = some x
 | [],t,i,h,_=>by simp at h
 | j :: r,t,i,h,hl=>by
  show(qu (t.set j x) r x)[i]? = _
  rcases List.mem_cons.1 h with rfl|h
  ·refine Uk r _ i ?_
   rw[List.getElem?_set,if_pos rfl,if_pos hl]
  ·exact Ja r _ i h (by rw[List.length_set];exact hl)
theorem Vt {x:Bool}:∀(bl:List Nat) (t:List Bool) (i:Nat),i ∉ bl→(qu t bl x)[i]? = t[i]?
 | [],t,i,_=>rfl
 | j :: r,t,i,h=>by
  show(qu (t.set j x) r x)[i]? = _
  rw[Vt r _ i (fun e=>h (List.mem_cons_of_mem _ e)),List.getElem?_set,if_neg (fun e=>h (by simp[e]))]
theorem zbw {V:Type} {m:List (Int × V)} {k:Int} (h:∀p∈m,p.1≠k):zw m k=none:=Jw h
theorem Qa (rows:List (zx × xm)):∀(ks:List zx) (S:Sto),(∀r∈S.recs,∀i∈r.2.2,i<S.taken.length→S.taken[i]? = some true)→(∀r∈(vt rows ks S).recs,∀i∈r.2.2,i<(vt rows ks S).taken.length→(vt rows ks S).taken[i]? = some true)∧(vt rows ks S).taken.length=S.taken.length
 | [],S,h=>⟨h,rfl⟩
 | K :: t,S,h=>by
  have hs:(∀r∈(vd rows S K).recs,∀i∈r.2.2,i<(vd rows S K).taken.length→(vd rows S K).taken[i]? = some true)∧(vd rows S K).taken.length=S.taken.length:=by
   unfold vd
   cases zw rows K with
   | none=>exact⟨h,rfl⟩
   | some r=>
    simp only
    split
    ·exact⟨h,rfl⟩
    ·refine⟨fun q hq i hi hl=>?_,qv _ _ _⟩
     have hl':i<S.taken.length:=by rw[show(S.kept K.k (ud r) (xp r)).taken.length=S.taken.length from qv _ _ _] at hl;exact hl
     rename_i hc
     have hno:zw S.recs K.k=none:=by
      cases e:zw S.recs K.k with
      | none=>rfl
      | some z=>exact absurd (Or.inl (by rw[e];rfl)) hc
     have hrec:(S.kept K.k (ud r) (xp r)).recs=S.recs ++ [(K.k,(ud r,xp r))]:=jf hno _;rw[hrec] at hq
     rcases List.mem_append.1 hq with hq|hq
     ·exact Uk _ _ i (h q hq i hi hl')
     ·obtain rfl:q=(K.k,(ud r,xp r)):=by simpa using hq
      exact Ja _ _ i hi hl'
  have ih:=Qa rows t (vd rows S K) hs.1
  exact⟨ih.1,ih.2.trans hs.2⟩
theorem zaa {d:Dk}:∀n,(opnD d n).2.1=0→(opnD d n).2.2=false→(opnD d n).1=d
 | 0,_,_=>rfl
 | n+1,h,hf=>by
  by_cases h0:(opnD d n).2.1=0
  ·by_cases hc:(saidP ya (bk d.now n)).isSome=true∨bk d.now n=zz
   ·rw[jm h0 hc] at h hf ⊢
    exact zaa n h hf
   ·have hc1:(saidP ya (bk d.now n)).isSome=false:=by
     cases e:(saidP ya (bk d.now n)).isSome
     ·rfl
     ·exact absurd (Or.inl e) hc
    rw[Yk h0 hc1 (fun e=>hc (Or.inr e))] at hf
    cases hf
  ·rw[Uf h0] at h
   exact absurd h h0
theorem zfy {d:Dk} (h:yi d) (hl:d.late = []) (hst:∀i,i<d.n→bk d.st i=bk d.now i) :
  yi d.opened.1∧d.opened.1.n=d.n∧d.opened.1.late = []∧(∀i,i<d.n→bk d.opened.1.st i=bk d.opened.1.now i)∧∀i,i<d.n→bk d.opened.1.now i=scrub ya (bk d.now i):=by
 obtain⟨h1,h2,h3⟩:=yi.opn h d.n (Nat.le_refl _);have ok:=Vr h.1 d.n (Nat.le_refl _) h1;unfold Dk.opened;rw[if_neg (by simp[h1])]
 cases hf:(opnD d d.n).2.2
 ·have e:=zaa d.n h1 hf
  simp only[Bool.false_eq_true,if_false];have hm:=ok.met;rw[e] at hm ⊢
  exact⟨h,rfl,hl,hst,hm⟩
 ·simp only[if_true]
  obtain⟨s1,s2,s3,s4⟩:=h2.sync;refine⟨s2,s3.trans h3,s4,fun i hi=>?_,fun i hi=>?_⟩
  ·rcases Xj h2.1 with ⟨_,_,_,a,b,_⟩|⟨a,_⟩
   ·rw[a,b]
   ·rw[s1] at a;cases a
  ·rw[zio h2]
   exact ok.met i hi
theorem kopen {d:Dk} (h:yi d) (hl:d.late = []) (hst:∀i,i<d.n→bk d.st i=bk d.now i) {all:List (Int × List Int)} {blk:Int→List Nat} {next:Int} (g:vf ya (fun i=>scrub ya (bk d.now i)) d.n all blk next) {ks:List zx} (hk:Yg d ks):ql (openS d ks) all blk∧(openS d ks).next≤next∧(openS d ks).d.n=d.n:=by
 obtain⟨o1,o2,o3,o4,o5⟩:=zfy h hl hst;have hs:∀i,i<d.n→saidP ya (bk d.now i)=saidP ya ((fun i=>scrub ya (bk d.now i)) i):=fun i _=>(zcc _).symm
 have hr:=zjg hk g hs;have e:=Uj (C:=ya) (N:=d.n) (f:=fun i=>scrub ya (bk d.now i)) (g:=bk d.now) hs d.n (Nat.le_refl _)
 obtain⟨g1,g2⟩:=g.opened;rw[←e] at g1 g2;obtain⟨p1,p2,p3⟩:=Ug (scanN ya (bk d.now) d.n).rows ks ⟨d.opened.1,[],List.replicate d.n false,(scanN ya (bk d.now) d.n).next,0⟩;obtain⟨t1,t2⟩:=Qa (scanN ya (bk d.now) d.n).rows ks ⟨d.opened.1,[],List.replicate d.n false,(scanN ya (bk d.now) d.n).next,0⟩ (by simp)
 have t2':(openS d ks).taken.length=d.n:=t2.trans List.length_replicate;have p1':(openS d ks).d=d.opened.1:=p1;have p2':(openS d ks).next=(scanN ya (bk d.now) d.n).next:=p2;refine⟨⟨?_,?_,?_,?_,p3,hr,?_,?_⟩,?_,?_⟩
 ·rw[p1',p2',o2]
  exact g1.same fun i hi=>o5 i hi
 ·rw[p1',o2];exact o4
 ·rw[p1'];exact o3
 ·rw[p1'];exact o1.1
 ·rw[t2',p1',o2]
 ·intro q hq i hi
  have hm:(q.1,(q.2,blk q.1))∈(openS d ks).recs:=by rw[hr];exact List.mem_map.2 ⟨q,hq,rfl⟩
  exact t1 _ hm i hi (by rw[show(vt _ ks _).taken.length=d.n from t2'];exact g.blt q hq i hi)
 ·rw[p2'];exact g2
 ·rw[p1'];exact o2
structure KBad (d:Dk) (n:Nat) (now all:List (Int × List Int)) (next:Int):Prop where
 off:d.off=true
 nn:d.n=n
 late:d.late.length≤600
 on:∀fates,yi (d.on fates)∧(d.on fates).late = []∧(d.on fates).n=n
 open_:∀fates ks,Yg (d.on fates) ks→∃al blk,(al=all∨al=now)∧ql (openS (d.on fates) ks) al blk∧(openS (d.on fates) ks).next≤next∧(openS (d.on fates) ks).d.n=n
 dg:∀fates,∃al blk,(al=all∨al=now)∧vf ya (fun i=>scrub ya (bk (qo fates 0 d.late d.st) i)) n al blk next
theorem zek {d:Dk} (ho:d.off=true) (fates:List Int):yi (d.on fates)∧(d.on fates).late = []∧(d.on fates).n=d.n∧(d.on fates).now=qo fates 0 d.late d.st∧(d.on fates).st=qo fates 0 d.late d.st:=by
 unfold Dk.on;rw[if_pos ho]
 exact⟨⟨rfl,rfl⟩,rfl,rfl,rfl,rfl⟩
theorem kbad {d:Dk} {n:Nat} {now all:List (Int × List Int)} {next:Int} (ho:d.off=true) (hn:d.n=n) (hl:d.late.length≤600)
  (h:∀fates,∃al blk,(al=all∨al=now)∧vf ya (fun i=>scrub ya (bk (qo fates 0 d.late d.st) i)) n al blk next):KBad d n now all next:=by
 refine⟨ho,hn,hl,fun fates=>?_,fun fates ks hk=>?_,h⟩
 ·obtain⟨a,b,c,-⟩:=zek ho fates
  exact⟨a,b,c.trans hn⟩
 ·obtain⟨a,b,c,e,f⟩:=zek ho fates
  obtain⟨al,blk,h1,g⟩:=h fates;obtain⟨k1,k2,k3⟩:=kopen a b (fun i _=>by rw[e,f]) (all:=al) (blk:=blk) (next:=next) (by rw[e,c,hn];exact g) hk
  exact⟨al,blk,h1,k1,k2,k3.trans (c.trans hn)⟩
theorem zdr {k:Int} {b:List Int} {fr:List Nat} {w:Nat × List Int} (h:w∈xu ya k b fr):w.1∈fr∧w.2.length=256:=by
 unfold xu at h;obtain⟨j,hj,rfl⟩:=List.mem_map.1 h;have hj:=List.mem_range.1 hj;refine⟨?_,Xb (by exact zfb b j)⟩
 simp only;rw[List.getD_eq_getElem?_getD,List.getElem?_eq_getElem hj,Option.getD_some]
 exact List.getElem_mem hj
theorem ql.put {S:Sto} {all:List (Int × List Int)} {blk:Int→List Nat} (h:ql S all blk) (hn:S.next≤4611686018427387904) {b:List Int} (hb:b.length≤131072) :
  S.put b=(S,0,181)∨
  (∃S' blk',S.put b=(S',S.next,0)∧ql S' (all ++ [(S.next,b)]) blk'∧S'.next=S.next+1∧S'.d.n=S.d.n)∨
  (∃S',S.put b=(S',0,180)∧KBad S'.d S.d.n (all ++ [(S.next,b)]) all (S.next+1)):=by
 obtain⟨fr,hfr⟩:∃fr,fr=yn S.taken (zt b.length) S.taken.length:=⟨_,rfl⟩;have hlt:∀i∈fr,i<S.d.n∧S.taken[i]? = some false:=fun i hi=>by
  rw[hfr] at hi;have:=zbo hi;rw[h.tl] at this
  exact this
 have hnd:fr.Nodup:=by rw[hfr];exact Vm _ _ _
 unfold Sto.put;rw[if_neg (by simp[h.brk]),if_neg (by omega),←hfr]
 by_cases hf:fr.length<zt b.length
 ·rw[if_pos hf]
  exact Or.inl rfl
 ·rw[if_neg hf]
  right
  have hfl:fr.length=zt b.length:=by
   have:=(zdd S.taken (zt b.length) S.taken.length).1;rw[←hfr] at this;omega
  have hff:∀q∈all,∀i∈fr,i ∉ blk q.1:=fun q hq i hi hm=>by
   have h1:=h.tak q hq i hm;rw[(hlt i hi).2] at h1
   cases h1
  obtain⟨ws,hws⟩:∃ws,ws=xu ya S.next b fr:=⟨_,rfl⟩;have hpl:zt b.length≤570:=by unfold zt;omega
  have hwl:ws.length=fr.length:=by rw[hws];unfold xu;simp
  have hbad:∀d':Dk,d'.off=true→d'.n=S.d.n→(∃m,d'.late=qz (ws.take m))→d'.st=S.d.st→KBad d' S.d.n (all ++ [(S.next,b)]) all (S.next+1):=fun d' a1 a2 ⟨m,a3⟩ a4=>by
   refine kbad a1 a2 ?_ fun fates=>?_
   ·rw[a3];simp[qz];omega
   ·rw[a3,a4,hws]
    rcases zjy h.good hn hb hfl hnd (fun i hi=>(hlt i hi).1) hff S.d.st (fun i hi=>h.st i hi) fates m (g:=fun i=>scrub ya (bk (qo fates 0 (qz ((xu ya S.next b fr).take m)) S.d.st) i)) (fun i _=>rfl) with g|g
    ·exact⟨all,blk,Or.inl rfl,g⟩
    ·exact⟨_,_,Or.inr rfl,g⟩
  rw[←hws]
  rcases za0 ws S.d h.off (fun w hw=>by
   rw[hws] at hw;obtain⟨m1,m2⟩:=zdr hw
   exact⟨(hlt _ m1).1,m2⟩) with ⟨w1,w2,w3,w4,w5,w6⟩|⟨w1,w2,⟨m,w3⟩,w5,w6⟩
  ·rw[if_neg (by simp[w1])]
   rw[h.late,List.nil_append] at w3
   rcases Xj w2 with ⟨s1,s2,s3,s4,s5,s6⟩|⟨s1,s2,s3,s5,s6⟩
   ·rw[if_neg (by simp[s1])]
    left
    refine⟨_,fun k=>if k=S.next then fr else blk k,rfl,?_,rfl,s6.trans w6⟩
    have hN:((Sto.kept { S with d:=(S.d.writes ws).1.synced } S.next b fr).next1).d.n=S.d.n:=s6.trans w6
    have hnow:((Sto.kept { S with d:=(S.d.writes ws).1.synced } S.next b fr).next1).d.now=ws.foldl (fun m w=>yj m (w.1:Int) w.2) S.d.now:=s4.trans w4
    have hstt:((Sto.kept { S with d:=(S.d.writes ws).1.synced } S.next b fr).next1).d.st=ws.foldl (fun m w=>yj m (w.1:Int) w.2) S.d.now:=s5.trans w4
    refine⟨?_,fun i _=>by rw[hnow,hstt],s3,s2,h.brk,?_,?_,?_⟩
    ·rw[hN,hnow]
     refine zec h.good hn hb hfl hnd (fun i hi=>(hlt i hi).1) hff (fun i _ hi=>?_) (fun j i hji=>?_)
     ·refine Vg ws _ (fun w hw e=>hi ?_)
      rw[hws] at hw;rw[←e]
      exact(zdr hw).1
     ·have hw:ws[j]? = some (i,vp ya ⟨S.next,j,zt b.length,uc b j⟩):=by rw[hws];exact zab hji
      exact zbh ws _ (by rw[hws,Uh];exact hnd) j _ hw
    ·show yj S.recs S.next (b,fr)=_
     have hno:zw S.recs S.next=none:=zbw (fun p hp e=>by
      rw[h.recs] at hp;obtain⟨q,hq,rfl⟩:=List.mem_map.1 hp;have:=(h.good.key hq).2;simp only at e;omega)
     rw[jf hno,h.recs,List.map_append]
     congr 1
     ·refine List.map_congr_left fun q hq=>?_
      have:=(h.good.key hq).2;rw[if_neg (by omega)]
     ·simp
    ·show(qu S.taken fr true).length=_
     rw[qv,h.tl,hN]
    ·intro q hq i hi
     show(qu S.taken fr true)[i]? = some true
     rcases List.mem_append.1 hq with hq|hq
     ·have:=(h.good.key hq).2
      rw[if_neg (by omega)] at hi
      exact Uk _ _ i (h.tak q hq i hi)
     ·obtain rfl:q=(S.next,b):=by simpa using hq
      rw[if_pos rfl] at hi
      exact Ja _ _ i hi (by rw[h.tl];exact(hlt i hi).1)
   ·right
    rw[if_pos (by rw[s1];decide)]
    obtain⟨d1,d2,d3,d4,d5⟩:=jd S (S.d.writes ws).1.synced (S.d.writes ws).1.syncV;refine⟨_,by rw[s1],?_⟩
    rw[←s1,d4]
    exact hbad _ s2 (s6.trans w6) ⟨ws.length,by rw[s3,w3,List.take_length]⟩ (s5.trans w5)
  ·right
   rw[if_pos (by rw[w1];decide)]
   obtain⟨d1,d2,d3,d4,d5⟩:=jd S (S.d.writes ws).1 (S.d.writes ws).2;refine⟨_,by rw[w1],?_⟩
   rw[←w1,d4]
   exact hbad _ w2 w6 ⟨m,by rw[w3,h.late,List.nil_append]⟩ w5
theorem ql.key_get {S:Sto} {all:List (Int × List Int)} {blk:Int→List Nat} (h:ql S all blk) {q:Int × List Int} (hq:q∈all):zw S.recs q.1=some (q.2,blk q.1):=by
 cases e:zw S.recs q.1 with
 | none=>
  exfalso
  refine qj.1 e (q.1,(q.2,blk q.1)) ?_ rfl;rw[h.recs]
  exact List.mem_map.2 ⟨q,hq,rfl⟩
 | some r=>
  have hm:=uo e;rw[h.recs] at hm;obtain⟨q',hq',e'⟩:=List.mem_map.1 hm
  injection e' with e1 e2
  have:=h.good.uniq hq' hq e1;rw[this] at e2;rw[←e2]
theorem ql.rem {S:Sto} {all:List (Int × List Int)} {blk:Int→List Nat} (h:ql S all blk) {q:Int × List Int} (hq:q∈all) :
  (∃S',S.rem q.1=(S',0)∧ql S' (all.filter fun r=>decide (r.1≠q.1)) blk∧S'.next=S.next∧S'.d.n=S.d.n)∨
  (∃S',S.rem q.1=(S',180)∧KBad S'.d S.d.n (all.filter fun r=>decide (r.1≠q.1)) all S.next):=by
 have hlen:=h.good.bln q hq;have hpos:=uq q.2.length;obtain⟨i0,hi0⟩:∃i,(blk q.1)[0]? = some i:=⟨_,List.getElem?_eq_getElem (by omega)⟩
 have hhd:(blk q.1).headD 0=i0:=by
  cases hb:blk q.1 with
  | nil=>rw[hb] at hi0;simp at hi0
  | cons a t=>rw[hb] at hi0;simpa using hi0
 have hiN:=h.good.blt q hq i0 (List.mem_of_getElem? hi0);have hz:jg []=zz:=zf2;have hbad:∀d':Dk,d'.off=true→d'.n=S.d.n→d'.late=qz [(i0,zz)]→d'.st=S.d.st→KBad d' S.d.n (all.filter fun r=>decide (r.1≠q.1)) all S.next:=fun d' a1 a2 a3 a4=>by
  refine kbad a1 a2 (by rw[a3];simp[qz]) fun fates=>?_
  rw[a3,a4]
  rcases zjz h.good hq hi0 S.d.st (fun i hi=>h.st i hi) fates (g:=fun i=>scrub ya (bk (qo fates 0 (qz [(i0,zz)]) S.d.st) i)) (fun i _=>rfl) with g|g
  ·exact⟨all,blk,Or.inl rfl,g⟩
  ·exact⟨_,_,Or.inr rfl,g⟩
 unfold Sto.rem;rw[if_neg (by simp[h.brk]),h.key_get hq]
 simp only;rw[hhd]
 rcases Qe h.off hiN (x:=[]) (by simp) with ⟨w1,w2,w3,w4,w5,w6⟩|⟨w1,w2,w3,w5,w6⟩
 ·rw[if_neg (by simp[w1])]
  rw[h.late,List.nil_append,hz] at w3
  rcases Xj w2 with ⟨s1,s2,s3,s4,s5,s6⟩|⟨s1,s2,s3,s5,s6⟩
  ·rw[if_neg (by simp[s1])]
   left
   refine⟨_,rfl,?_,rfl,s6.trans w6⟩;rw[hz] at w4;refine⟨?_,fun i _=>?_,s3,s2,h.brk,?_,?_,?_⟩
   ·show vf ya (bk (S.d.written i0 []).synced.now) (S.d.written i0 []).synced.n _ blk S.next
    rw[s6,w6,s4,w4]
    exact h.good.rem hq hi0 (Yn _ _ _) (fun i _ hne=>Yb _ _ hne)
   ·show bk (S.d.written i0 []).synced.st i=bk (S.d.written i0 []).synced.now i
    rw[s4,s5]
   ·show qn S.recs q.1=_
    rw[h.recs];clear hbad hlen hi0 hhd hiN w1 w2 w3 w4 w5 w6 s1 s2 s3 s4 s5 s6;unfold qn;rw[List.filter_map]
    rfl
   ·show(qu S.taken (blk q.1) false).length=_
    rw[qv,h.tl]
    show S.d.n=(S.d.written i0 []).synced.n
    rw[s6,w6]
   ·intro r hr i hi
    show(qu S.taken (blk q.1) false)[i]? = some true
    obtain⟨hr1,hr2⟩:=List.mem_filter.1 hr;have hne:r.1≠q.1:=by simpa using hr2
    rw[Vt _ _ i (fun hm=>hne (by rw[h.good.apart hr1 hq hi hm]))]
    exact h.tak r hr1 i hi
  ·right
   rw[if_pos (by rw[s1];decide)]
   obtain⟨d1,d2,d3,d4,d5⟩:=jd S (S.d.written i0 []).synced (S.d.written i0 []).syncV;refine⟨_,by rw[s1],?_⟩
   rw[←s1,d4]
   exact hbad _ s2 (s6.trans w6) (by rw[s3,w3];rfl) (s5.trans w5)
 ·right
  rw[if_pos (by rw[w1];decide)]
  obtain⟨d1,d2,d3,d4,d5⟩:=jd S (S.d.written i0 []) (S.d.writeV i0 []);refine⟨_,by rw[w1],?_⟩
  rw[←w1,d4]
  exact hbad _ w2 w6 (by rw[w3,h.late,hz];rfl) w5
theorem ql.failed {S:Sto} {all:List (Int × List Int)} {blk:Int→List Nat} (h:ql S all blk) (n:Int):ql { S with d:=S.d.failed n } all blk:=⟨h.good,h.st,h.late,h.off,h.brk,h.recs,h.tl,h.tak⟩
open Go.RowKit Go.Sf
open Go.RowKit Go.Sf Go.Shelf
theorem zjt (W:World) (s:ByteArray) (hs:s.size≤1000000):∃y W2,(convert 9 32 (.string s)).run Tryz.prog W = .ok y W2∧W.grownBy W2 none∧ye (fun k=>W.heap.size≤k∧k<W2.heap.size) W2 y (zi (zcg s)):=by
 refine⟨_,_,Lib.run_convert_string_bytes (P:=Tryz.prog) W 9 32 5 s (u:=.string) Tryz.underlying9 Tryz.underlying32 Tryz.underlying5,zfi _ _ _,?_⟩;obtain⟨p,cap,e,hc⟩:=(zga W s).ex
 injection e with e1 e2 e3
 have hge:=grownCap_ge W s.size 0 5;have hle:=grownCap_le_maxLen W s.size 0 5 (by unfold maxLen;omega)
 unfold maxLen at hle;have hsz:W.heap.size<(Lib.bytesWorld W 5 s).heap.size:=by
  unfold Lib.bytesWorld World.freeze
  split <;> simp
 refine⟨some ⟨W.heap.size,0,none⟩,grownCap W s.size 0 5,by rw[zr,zgz],by rw[zr,zgz];exact hge,by omega,?_⟩
 rcases hc with h0|⟨a,h1,h2⟩
 ·left;rw[h0];rfl
 ·right
  rw[←e1] at h1
  injection h1 with h1
  subst h1
  exact⟨_,rfl,⟨Nat.le_refl _,hsz⟩,h2⟩
attribute [local go_sem] Oper.semAt_some
def Xf (nk:Nat) (znm node:Int) (nr:Nat):Bool:=decide (1≤nk∧nk≤64∧1≤znm∧0≤node∧node<255∧nr≤65536)
section
variable {w : World} {xb nk ck nr cr : Nat} {pk pr : Option Addr} {znm node : Int}
def ShB (w:World) (xb:Nat) (pk:Option Addr) (nk ck:Nat) (znm node:Int) (pr:Option Addr) (nr cr:Nat):Prop:=w.heap[xb]? = some (.cells #[.slice pk nk ck,.int .i64 znm,.int .i64 node,.slice pr nr cr] 97 (0,0))
theorem ShB.cells (h:ShB w xb pk nk ck znm node pr nr cr):w.cell? ⟨xb,0,none⟩=some (.slice pk nk ck)∧w.cell? ⟨xb,1,none⟩=some (.int .i64 znm)∧w.cell? ⟨xb,2,none⟩=some (.int .i64 node)∧w.cell? ⟨xb,3,none⟩=some (.slice pr nr cr):=
 ⟨(zh h 0).trans rfl,(zh h 1).trans rfl,(zh h 2).trans rfl,(zh h 3).trans rfl⟩
set_option maxRecDepth 100000 in
theorem zma (h:ShB w xb pk nk ck znm node pr nr cr):Calls Tryz.prog 138 #[.pointer (some ⟨xb,0,none⟩)] w fun e w'=>e = .returned (.bool (decide (nk<1∨64<nk)))∧w'=w:=by
 obtain⟨c0,c1,c2,c3⟩:=h.cells;clear h
 by_cases h1:nk<1
 ·have e1:decide (nk<1∨64<nk)=true:=by simp;omega
  rw[e1];have h2:(nk:Int)<1:=by omega
  go_enter Tryz.func138,Tryz.ntmps138
  go_wp2
  go_ret
  exact⟨rfl,rfl⟩
 ·have h2:¬(nk:Int)<1:=by omega
  by_cases h3:64<nk
  ·have e1:decide (nk<1∨64<nk)=true:=by simp;omega
   rw[e1];have h4:(64:Int)<nk:=by omega
   go_enter Tryz.func138,Tryz.ntmps138
   go_wp2
   go_ret
   exact⟨by simp[h4],rfl⟩
  ·have e1:decide (nk<1∨64<nk)=false:=by simp;omega
   rw[e1];have h4:¬(64:Int)<nk:=by omega
   go_enter Tryz.func138,Tryz.ntmps138
   go_wp2
   go_ret
   exact⟨by simp[h4],rfl⟩
set_option maxRecDepth 100000 in
theorem zmb (h:ShB w xb pk nk ck znm node pr nr cr):Calls Tryz.prog 139 #[.pointer (some ⟨xb,0,none⟩)] w fun e w'=>e = .returned (.bool (decide (znm<1)))∧w'=w:=by
 obtain⟨c0,c1,c2,c3⟩:=h.cells;clear h
 go_enter Tryz.func139,Tryz.ntmps139
 go_wp2
 go_ret
 exact⟨rfl,rfl⟩
set_option maxRecDepth 100000 in
theorem zmc (h:ShB w xb pk nk ck znm node pr nr cr):Calls Tryz.prog 140 #[.pointer (some ⟨xb,0,none⟩)] w fun e w'=>e = .returned (.bool (decide (node<0∨255≤node)))∧w'=w:=by
 obtain⟨c0,c1,c2,c3⟩:=h.cells;clear h
 by_cases h1:node<0
 ·have e1:decide (node<0∨255≤node)=true:=by simp;omega
  rw[e1]
  go_enter Tryz.func140,Tryz.ntmps140
  go_wp2
  go_ret
  exact⟨rfl,rfl⟩
 ·by_cases h3:255≤node
  ·have e1:decide (node<0∨255≤node)=true:=by simp;omega
   rw[e1]
   go_enter Tryz.func140,Tryz.ntmps140
   go_wp2
   go_ret
   exact⟨by simp[h3],rfl⟩
  ·have e1:decide (node<0∨255≤node)=false:=by simp;omega
   rw[e1]
   go_enter Tryz.func140,Tryz.ntmps140
   go_wp2
   go_ret
   exact⟨by simp[h3],rfl⟩
set_option maxRecDepth 100000 in
theorem zmd (h:ShB w xb pk nk ck znm node pr nr cr):Calls Tryz.prog 141 #[.pointer (some ⟨xb,0,none⟩)] w fun e w'=>e = .returned (.bool (decide (65536<nr)))∧w'=w:=by
 obtain⟨c0,c1,c2,c3⟩:=h.cells;clear h;have e1:decide (65536<nr)=decide ((65536:Int)<nr):=by
  by_cases h:65536<nr
  ·rw[decide_eq_true h,decide_eq_true (by omega)]
  ·rw[decide_eq_false h,decide_eq_false (by omega)]
 rw[e1]
 go_enter Tryz.func141,Tryz.ntmps141
 go_wp2
 go_ret
 exact⟨rfl,rfl⟩
set_option maxRecDepth 100000 in
theorem zme {g:Nat} {lb:Array Value} {b:Bool} (eg:∀args w,(callFunc g args).run Tryz.prog w = .ok (.enter g args) w) (h:Calls Tryz.prog g lb w fun e w'=>e = .returned (.bool b)∧w'=w):Calls Tryz.prog 143 #[.func (.func g) #[] lb] w fun e w'=>e = .returned (.bool b)∧w'=w:=by
 go_enter Tryz.func143,Tryz.ntmps143
 go_wp2_with (go_at_fn g;refine h.mono ?_;rintro e w1 ⟨rfl,h5⟩;obtain rfl:w=w1:=h5.symm)
 go_ret
 exact⟨rfl,rfl⟩
def IdxP (w:World) (fs:List (Nat × Bool)) (e:Ending) (w':World):Prop:=∃r:Int,e = .returned (.int .i64 r)∧w'=w∧(0≤r↔∃p∈fs,p.2=true)
set_option maxRecDepth 100000 in
theorem zl0 {sb c n:Nat} {lb:Array Value} {fs:List (Nat × Bool)} (eg:∀p∈fs,∀args w,(callFunc p.1 args).run Tryz.prog w = .ok (.enter p.1 args) w) (hn:n=fs.length) (hc:∀j (hj:j<fs.length),w.cell? ⟨sb,j,none⟩=some (.func (.func fs[j].1) #[] lb)) (h:∀p∈fs,Calls Tryz.prog p.1 lb w fun e w'=>e = .returned (.bool p.2)∧w'=w) (hl:n≤100) :
  Calls Tryz.prog 195 #[.slice (some ⟨sb,0,none⟩) n c,.func (.func 143) #[] #[]] w (IdxP w fs):=by
 have HM5:Hid (∀j (hj:j<fs.length),Calls Tryz.prog 143 #[.func (.func fs[j].1) #[] lb] w fun e w'=>e = .returned (.bool fs[j].2)∧w'=w):=zd fun j hj=>zme (eg _ (List.getElem_mem hj)) (h _ (List.getElem_mem hj))
 have HC:=zd hc;have HN:=zd hn;clear eg hc h hn
 go_enter Tryz.func195,Tryz.ntmps195
 go_wp2
 go_loopw [5,8] (fun _ i wr=>w=wr∧∃k:Nat,k≤n∧i = .int .i64 k∧∀j (hj:j<fs.length),j<k→fs[j].2=false) (fun _ i _=>n-(intOf i).toNat)
 case atStart=>exact⟨rfl,0,Nat.zero_le _,rfl,fun j hj h=>by omega⟩
 case round=>
  obtain⟨rfl,k,hk,rfl,hall⟩:=hrel;have HA:=zd hall;clear hall
  by_cases hkn:k<n
  ·have hkl:k<fs.length:=by rw[←HN.out];exact hkn
   have c1:=HC.out k hkl;have h5:=HM5.out k hkl;have HK:=zd (show fs[k]'hkl=fs[k]'hkl from rfl)
   have HF:Hid ((fs[k]'hkl).2=true→∃p∈fs,p.2=true):=zd fun e=>⟨_,List.getElem_mem hkl,e⟩
   have HT:Hid ((fs[k]'hkl).2=false→∀j (hj:j<fs.length),j<k+1→fs[j].2=false):=zd fun e j hj hjk=>by
    by_cases hjj:j<k
    ·exact HA.out j hj hjj
    ·obtain rfl:j=k:=by omega
     exact e
   clear HK;generalize fs[k]=p at *;obtain⟨g,b⟩:=p;simp only at c1 h5 HF HT;have hbl:=xg c1
   cases b with
   | true=>
    go_wp2_with (go_at_call 143;refine h5.mono ?_;rintro e w1 ⟨rfl,h6⟩;obtain rfl:w=w1:=h6.symm)
    go_ret
    exact⟨k,rfl,rfl,fun _=>HF.out trivial,fun _=>by omega⟩
   | false=>
    go_wp2_with (go_at_call 143;refine h5.mono ?_;rintro e w1 ⟨rfl,h6⟩;obtain rfl:w=w1:=h6.symm)
    exact⟨⟨trivial,k+1,by omega,by simp,HT.out trivial⟩,by simp[intOf];omega⟩
  ·go_wp2
   go_ret
   refine⟨-1,rfl,rfl,fun e=>by omega,fun ⟨p,hp,e⟩=>?_⟩
   obtain⟨j,hj,rfl⟩:=List.getElem_of_mem hp;have:=HA.out j hj (by rw[←HN.out] at hj;omega)
   rw[this] at e
   cases e
set_option maxRecDepth 100000 in
theorem zjs {sb c n:Nat} {lb:Array Value} {fs:List (Nat × Bool)} (eg:∀p∈fs,∀args w,(callFunc p.1 args).run Tryz.prog w = .ok (.enter p.1 args) w) (hn:n=fs.length) (hc:∀j (hj:j<fs.length),w.cell? ⟨sb,j,none⟩=some (.func (.func fs[j].1) #[] lb)) (h:∀p∈fs,Calls Tryz.prog p.1 lb w fun e w'=>e = .returned (.bool p.2)∧w'=w) (hl:n≤100) :
  Calls Tryz.prog 142 #[.slice (some ⟨sb,0,none⟩) n c,.func (.func 143) #[] #[]] w fun e w'=>e = .returned (.bool (fs.any (·.2)))∧w'=w:=by
 have HI:=zd (zl0 (c:=c) eg hn hc h hl);clear eg hn hc h
 go_enter Tryz.func142,Tryz.ntmps142
 go_wp2_with (go_at_call 195;refine HI.out.mono ?_;rintro e w1 ⟨r,rfl,h5,hr⟩;obtain rfl:w=w1:=h5.symm;have HR:=zd hr;clear hr)
 go_ret
 refine⟨?_,rfl⟩
 show Ending.returned (Value.bool (decide (0≤r)))=_
 congr 2
 rw[Bool.eq_iff_iff,decide_eq_true_iff,HR.out,List.any_eq_true]
set_option maxRecDepth 100000 in
theorem zcf (w:World) (pk:Option Addr) (nk ck:Nat) (znm node:Int) (pr:Option Addr) (nr cr:Nat):Calls Tryz.prog 65 #[.agg #[.slice pk nk ck,.int .i64 znm,.int .i64 node,.slice pr nr cr]] w fun e w'=>e = .returned (.bool (Xf nk znm node nr))∧w.grownBy w' none:=by
 have hm:(!([(138,decide (nk<1∨64<nk)),(139,decide (znm<1)),(140,decide (node<0∨255≤node)),(141,decide (65536<nr))]:List (Nat × Bool)).any (·.2))=Xf nk znm node nr:=by
  unfold Xf;simp only[List.any_cons,List.any_nil,Bool.or_false];rw[Bool.eq_iff_iff];simp;omega
 have HM:=zd hm;have HC:Hid (∀(w1:World) (sb xb:Nat),ShB w1 xb pk nk ck znm node pr nr cr→w1.heap[sb]? = some (.cells #[.func (.func 138) #[] #[.pointer (some ⟨xb,0,none⟩)],.func (.func 139) #[] #[.pointer (some ⟨xb,0,none⟩)],.func (.func 140) #[] #[.pointer (some ⟨xb,0,none⟩)],.func (.func 141) #[] #[.pointer (some ⟨xb,0,none⟩)]] 23 (0,0))→Calls Tryz.prog 142 #[.slice (some ⟨sb,0,none⟩) 4 4,.func (.func 143) #[] #[]] w1 fun e w'=>e = .returned (.bool (!Xf nk znm node nr))∧w'=w1):=zd fun w1 sb xb hx hs=>by
  have h:=zjs (w:=w1) (sb:=sb) (c:=4) (n:=4) (lb:=#[.pointer (some ⟨xb,0,none⟩)]) (fs:=[(138,decide (nk<1∨64<nk)),(139,decide (znm<1)),(140,decide (node<0∨255≤node)),(141,decide (65536<nr))])
   (fun p hp args w=>by
    simp only[List.mem_cons,List.not_mem_nil,or_false] at hp
    rcases hp with rfl|rfl|rfl|rfl <;> rfl) rfl (fun j hj=>by
    match j,hj with
    | 0,_=>exact(zh hs 0).trans rfl
    | 1,_=>exact(zh hs 1).trans rfl
    | 2,_=>exact(zh hs 2).trans rfl
    | 3,_=>exact(zh hs 3).trans rfl) (fun p hp=>by
    simp only[List.mem_cons,List.not_mem_nil,or_false] at hp
    rcases hp with rfl|rfl|rfl|rfl
    ·exact zma hx
    ·exact zmb hx
    ·exact zmc hx
    ·exact zmd hx) (by decide)
  rw[←HM.out,Bool.not_not]
  exact h
 clear hm HM
 go_enter Tryz.func65,Tryz.ntmps65
 go_upto_region 2 with fail
 obtain⟨W1,hW1⟩:∃W1,W1=w.alloc (.cells #[.slice pk nk ck,.int .i64 znm,.int .i64 node,.slice pr nr cr] 97):=⟨_,rfl⟩;have hz1:W1.heap.size=w.heap.size+1:=by rw[hW1];simp
 have hb1:ShB W1 w.heap.size pk nk ck znm node pr nr cr:=by rw[hW1];exact heap_alloc_new w _
 have hg1:w.grownBy W1 none:=by rw[hW1];exact zg _ _ none
 rw[←hW1];obtain⟨W2,hW2⟩:∃W2,W2=W1.alloc (.cells #[.func (.func 138) #[] #[.pointer (some ⟨w.heap.size,0,none⟩)],.func (.func 139) #[] #[.pointer (some ⟨w.heap.size,0,none⟩)],.func (.func 140) #[] #[.pointer (some ⟨w.heap.size,0,none⟩)],.func (.func 141) #[] #[.pointer (some ⟨w.heap.size,0,none⟩)]] 23):=⟨_,rfl⟩;have hg2:W1.grownBy W2 none:=by rw[hW2];exact zg _ _ none
 have hs2:=heap_alloc_new W1 (.cells #[.func (.func 138) #[] #[.pointer (some ⟨w.heap.size,0,none⟩)],.func (.func 139) #[] #[.pointer (some ⟨w.heap.size,0,none⟩)],.func (.func 140) #[] #[.pointer (some ⟨w.heap.size,0,none⟩)],.func (.func 141) #[] #[.pointer (some ⟨w.heap.size,0,none⟩)]] 23);rw[←hW2,hz1] at hs2;have hb2:ShB W2 w.heap.size pk nk ck znm node pr nr cr:=(hg2.block w.heap.size (by omega) (by simp)).trans hb1
 have HCC:=zd (HC.out W2 _ _ hb2 hs2);have HG:=zd (hg1.trans hg2);rw[←hW2];clear hW1 hW2 hz1 hb1 hg1 hg2 hs2 hb2 HC
 go_wp2_with (go_at_call 142;refine HCC.out.mono ?_;rintro e w5 ⟨rfl,h5⟩;obtain rfl:W2=w5:=h5.symm)
 go_ret
 exact⟨by simp,HG.out⟩
end
end Go.Proofs.YtbcbhlfjgobejaaGreat
