/- SlotsKeeps: a store on a disk that may fail; what calls and openings leave. Plain laws. Conditions: as the theorems say. SlotsKeeps: what Put and Remove leave, on a disk that may fail. Plain laws. Conditions: as the theorems say. Calls that came in; large(): the walk. Conditions: a row of calls in memory. A call's bytes, so many times: the walk. Conditions: a call that may be. Rows of what a store has to have; without(): the walk. Conditions: rows in memory. A store beside protected blocks: what its calls leave; the same, for loops. Conditions: as the theorems say. same(): has a store just these records? the walk. Conditions: a store and a row in memory. A store beside blocks that are written. Conditions: as the theorems say. A journal in memory: how it lies; Broken, Free, met, State: the walks. Conditions: none beyond the journal's being there. -/
import Derived.Test.YtbcbhlfjgobejaaGreatD28
import Derived.Test.YtbcbhlfjgobejaaGreatD19
set_option linter.unusedSimpArgs false
set_option linter.unusedVariables false
namespace Go.Proofs.YtbcbhlfjgobejaaGreat
open Go.Sf
theorem write_spec {d:Dk} (ho:d.off=false) {i:Nat} (hi:i<d.n) {x:List Int} (hx:x.length≤256) :
  (d.writeV i x=0∧(d.written i x).off=false∧(d.written i x).late=d.late ++ [((i:Int),padB x)]∧(d.written i x).now=mput d.now (i:Int) (padB x)∧(d.written i x).st=d.st∧(d.written i x).n=d.n)∨
  (d.writeV i x=180∧(d.written i x).off=true∧(d.written i x).late=d.late ++ [((i:Int),padB x)]∧(d.written i x).st=d.st∧(d.written i x).n=d.n):=by
 have hm:d.mayE (i:Int) x.length=0:=by
  unfold Dk.mayE
  rw[if_neg (by simp[ho]),if_neg (by omega),if_neg (by omega)]
 cases hs:d.stepB
 ·right
  have e1:d.writeV i x=180:=by unfold Dk.writeV;simp[hm,hs]
  have e2:d.written i x=(d.lay i (padB x)).gone:=by unfold Dk.written;simp[hm,hs]
  rw[e1,e2]
  exact⟨rfl,rfl,rfl,rfl,rfl⟩
 ·left
  have e1:d.writeV i x=0:=by unfold Dk.writeV;simp[hm,hs]
  have e2:d.written i x=(d.lay i (padB x)).went:=by unfold Dk.written;simp[hm,hs]
  rw[e1,e2]
  exact⟨rfl,ho,rfl,rfl,rfl,rfl⟩
theorem sync_spec {d:Dk} (ho:d.off=false) :
  (d.syncV=0∧d.synced.off=false∧d.synced.late = []∧d.synced.now=d.now∧d.synced.st=d.now∧d.synced.n=d.n)∨
  (d.syncV=180∧d.synced.off=true∧d.synced.late=d.late∧d.synced.st=d.st∧d.synced.n=d.n):=by
 cases hs:d.stepB
 ·right
  have e1:d.syncV=180:=by unfold Dk.syncV;simp[ho,hs]
  have e2:d.synced=d.gone:=by unfold Dk.synced;simp[ho,hs]
  rw[e1,e2]
  exact⟨rfl,rfl,rfl,rfl,rfl⟩
 ·left
  have e1:d.syncV=0:=by unfold Dk.syncV;simp[ho,hs]
  have e2:d.synced=d.went.settled:=by unfold Dk.synced;simp[ho,hs]
  rw[e1,e2]
  exact⟨rfl,ho,rfl,rfl,rfl,rfl⟩
theorem padB_full {x:List Int} (h:x.length=256):padB x=x:=by unfold padB;rw[h];simp
theorem writes_spec:∀(ws:List (Nat × List Int)) (d:Dk),d.off=false→(∀w∈ws,w.1<d.n∧w.2.length=256)→
  ((d.writes ws).2=0∧(d.writes ws).1.off=false∧(d.writes ws).1.late=d.late++lates ws∧(d.writes ws).1.now=ws.foldl (fun m w=>mput m (w.1:Int) w.2) d.now∧(d.writes ws).1.st=d.st∧(d.writes ws).1.n=d.n)∨
  ((d.writes ws).2=180∧(d.writes ws).1.off=true∧(∃m,(d.writes ws).1.late=d.late++lates (ws.take m))∧(d.writes ws).1.st=d.st∧(d.writes ws).1.n=d.n)
 | [],d,ho,_=>Or.inl ⟨rfl,ho,by simp[Dk.writes,lates],rfl,rfl,rfl⟩
 | w :: r,d,ho,hw=>by
  obtain⟨a1,a2⟩:=hw w (by simp)
  have hp:=padB_full a2
  unfold Dk.writes
  rcases write_spec ho a1 (x:=w.2) (by omega) with ⟨e1,e2,e3,e4,e5,e6⟩|⟨e1,e2,e3,e5,e6⟩
  ·rw[if_pos e1]
   rw[hp] at e3 e4
   rcases writes_spec r (d.written w.1 w.2) e2 (fun w' hw'=>by rw[e6];exact hw w' (List.mem_cons_of_mem _ hw')) with ⟨i1,i2,i3,i4,i5,i6⟩|⟨i1,i2,⟨m,i3⟩,i5,i6⟩
   ·left
    refine⟨i1,i2,?_,?_,i5.trans e5,i6.trans e6⟩
    ·rw[i3,e3];simp[lates]
    ·rw[i4,e4];rfl
   ·right
    refine⟨i1,i2,⟨m+1,?_⟩,i5.trans e5,i6.trans e6⟩
    rw[i3,e3];simp[lates]
  ·rw[if_neg (by rw[e1];decide)]
   rw[hp] at e3
   exact Or.inr ⟨e1,e2,⟨1,by rw[e3];simp[lates]⟩,e5,e6⟩
theorem bk_puts_out {i:Nat}:∀(ws:List (Nat × List Int)) (m:List (Int × List Int)),(∀w∈ws,w.1≠i)→bk (ws.foldl (fun m w=>mput m (w.1:Int) w.2) m) i=bk m i
 | [],m,_=>rfl
 | w :: r,m,h=>by
  show bk (r.foldl _ (mput m (w.1:Int) w.2)) i=_
  rw[bk_puts_out r _ (fun w' hw'=>h w' (List.mem_cons_of_mem _ hw')),bk_put_ne _ _ (fun e=>h w (by simp) e.symm)]
theorem bk_puts_in:∀(ws:List (Nat × List Int)) (m:List (Int × List Int)),(ws.map (·.1)).Nodup→∀(t:Nat) w,ws[t]? = some w→bk (ws.foldl (fun m w=>mput m (w.1:Int) w.2) m) w.1=w.2
 | [],m,_,t,w,h=>by simp at h
 | w0 :: r,m,hn,t,w,h=>by
  rw[List.map_cons,List.nodup_cons] at hn
  show bk (r.foldl _ (mput m (w0.1:Int) w0.2)) w.1=_
  cases t with
  | zero=>
   obtain rfl:w0=w:=by simpa using h
   rw[bk_puts_out r _ (fun w' hw' e=>hn.1 (List.mem_map.2 ⟨w',hw',e⟩)),bk_put_same]
  | succ t=>exact bk_puts_in r _ hn.2 t w (by simpa using h)
structure KInv (S:Sto) (all:List (Int × List Int)) (blk:Int→List Nat):Prop where
 good:Good crcB (bk S.d.now) S.d.n all blk S.next
 st:∀i,i<S.d.n→bk S.d.st i=bk S.d.now i
 late:S.d.late = []
 off:S.d.off=false
 brk:S.broken=0
 recs:S.recs=all.map fun q=>(q.1,(q.2,blk q.1))
 tl:S.taken.length=S.d.n
 tak:∀q∈all,∀i∈blk q.1,S.taken[i]? = some true
theorem setT_same {x:Bool}:∀(bl:List Nat) (t:List Bool) (i:Nat),t[i]? = some x→(setT t bl x)[i]? = some x
 | [],t,i,h=>h
 | j :: r,t,i,h=>by
  show(setT (t.set j x) r x)[i]? = _
  refine setT_same r _ i ?_
  rw[List.getElem?_set]
  split
  ·rename_i e
   subst e
   rw[if_pos (List.getElem?_eq_some_iff.1 h).1]
  ·exact h
theorem setT_in {x:Bool}:∀(bl:List Nat) (t:List Bool) (i:Nat),i∈bl→i<t.length→(setT t bl x)[i]? = some x
 | [],t,i,h,_=>by simp at h
 | j :: r,t,i,h,hl=>by
  show(setT (t.set j x) r x)[i]? = _
  rcases List.mem_cons.1 h with rfl|h
  ·refine setT_same r _ i ?_
   rw[List.getElem?_set,if_pos rfl,if_pos hl]
  ·exact setT_in r _ i h (by rw[List.length_set];exact hl)
theorem setT_out {x:Bool}:∀(bl:List Nat) (t:List Bool) (i:Nat),i ∉ bl→(setT t bl x)[i]? = t[i]?
 | [],t,i,_=>rfl
 | j :: r,t,i,h=>by
  show(setT (t.set j x) r x)[i]? = _
  rw[setT_out r _ i (fun e=>h (List.mem_cons_of_mem _ e)),List.getElem?_set,if_neg (fun e=>h (by simp[e]))]
theorem mget_none_iff2 {V:Type} {m:List (Int × V)} {k:Int} (h:∀p∈m,p.1≠k):mget m k=none:=mget_none h
theorem pick_taken (rows:List (Key19 × RowM)):∀(ks:List Key19) (S:Sto),(∀r∈S.recs,∀i∈r.2.2,i<S.taken.length→S.taken[i]? = some true)→(∀r∈(pickSto rows ks S).recs,∀i∈r.2.2,i<(pickSto rows ks S).taken.length→(pickSto rows ks S).taken[i]? = some true)∧(pickSto rows ks S).taken.length=S.taken.length
 | [],S,h=>⟨h,rfl⟩
 | K :: t,S,h=>by
  have hs:(∀r∈(pickOne rows S K).recs,∀i∈r.2.2,i<(pickOne rows S K).taken.length→(pickOne rows S K).taken[i]? = some true)∧(pickOne rows S K).taken.length=S.taken.length:=by
   unfold pickOne
   cases mget rows K with
   | none=>exact⟨h,rfl⟩
   | some r=>
    simp only
    split
    ·exact⟨h,rfl⟩
    ·refine⟨fun q hq i hi hl=>?_,setT_len _ _ _⟩
     have hl':i<S.taken.length:=by rw[show(S.kept K.k (rowBytes r) (rowBlocks r)).taken.length=S.taken.length from setT_len _ _ _] at hl;exact hl
     rename_i hc
     have hno:mget S.recs K.k=none:=by
      cases e:mget S.recs K.k with
      | none=>rfl
      | some z=>exact absurd (Or.inl (by rw[e];rfl)) hc
     have hrec:(S.kept K.k (rowBytes r) (rowBlocks r)).recs=S.recs ++ [(K.k,(rowBytes r,rowBlocks r))]:=mget_app_none hno _
     rw[hrec] at hq
     rcases List.mem_append.1 hq with hq|hq
     ·exact setT_same _ _ i (h q hq i hi hl')
     ·obtain rfl:q=(K.k,(rowBytes r,rowBlocks r)):=by simpa using hq
      exact setT_in _ _ i hi hl'
  have ih:=pick_taken rows t (pickOne rows S K) hs.1
  exact⟨ih.1,ih.2.trans hs.2⟩
theorem opnD_same {d:Dk}:∀n,(opnD d n).2.1=0→(opnD d n).2.2=false→(opnD d n).1=d
 | 0,_,_=>rfl
 | n+1,h,hf=>by
  by_cases h0:(opnD d n).2.1=0
  ·by_cases hc:(saidP crcB (bk d.now n)).isSome=true∨bk d.now n=zeroB
   ·rw[opnD_clean h0 hc] at h hf ⊢
    exact opnD_same n h hf
   ·have hc1:(saidP crcB (bk d.now n)).isSome=false:=by
     cases e:(saidP crcB (bk d.now n)).isSome
     ·rfl
     ·exact absurd (Or.inl e) hc
    rw[opnD_scrub h0 hc1 (fun e=>hc (Or.inr e))] at hf
    cases hf
  ·rw[opnD_stop h0] at h
   exact absurd h h0
theorem opened_disk {d:Dk} (h:Steady d) (hl:d.late = []) (hst:∀i,i<d.n→bk d.st i=bk d.now i) :
  Steady d.opened.1∧d.opened.1.n=d.n∧d.opened.1.late = []∧(∀i,i<d.n→bk d.opened.1.st i=bk d.opened.1.now i)∧∀i,i<d.n→bk d.opened.1.now i=scrub crcB (bk d.now i):=by
 obtain⟨h1,h2,h3⟩:=Steady.opn h d.n (Nat.le_refl _)
 have ok:=opn_ok h.1 d.n (Nat.le_refl _) h1
 unfold Dk.opened
 rw[if_neg (by simp[h1])]
 cases hf:(opnD d d.n).2.2
 ·have e:=opnD_same d.n h1 hf
  simp only[Bool.false_eq_true,if_false]
  have hm:=ok.met
  rw[e] at hm ⊢
  exact⟨h,rfl,hl,hst,hm⟩
 ·simp only[if_true]
  obtain⟨s1,s2,s3,s4⟩:=h2.sync
  refine⟨s2,s3.trans h3,s4,fun i hi=>?_,fun i hi=>?_⟩
  ·rcases sync_spec h2.1 with ⟨_,_,_,a,b,_⟩|⟨a,_⟩
   ·rw[a,b]
   ·rw[s1] at a;cases a
  ·rw[steady_now h2]
   exact ok.met i hi
theorem kopen {d:Dk} (h:Steady d) (hl:d.late = []) (hst:∀i,i<d.n→bk d.st i=bk d.now i) {all:List (Int × List Int)} {blk:Int→List Nat} {next:Int} (g:Good crcB (fun i=>scrub crcB (bk d.now i)) d.n all blk next) {ks:List Key19} (hk:KeysOf d ks):KInv (openS d ks) all blk∧(openS d ks).next≤next∧(openS d ks).d.n=d.n:=by
 obtain⟨o1,o2,o3,o4,o5⟩:=opened_disk h hl hst
 have hs:∀i,i<d.n→saidP crcB (bk d.now i)=saidP crcB ((fun i=>scrub crcB (bk d.now i)) i):=fun i _=>(said_scrub _).symm
 have hr:=recs_of hk g hs
 have e:=scan_same (C:=crcB) (N:=d.n) (f:=fun i=>scrub crcB (bk d.now i)) (g:=bk d.now) hs d.n (Nat.le_refl _)
 obtain⟨g1,g2⟩:=g.opened
 rw[←e] at g1 g2
 obtain⟨p1,p2,p3⟩:=pickSto_d (scanN crcB (bk d.now) d.n).rows ks ⟨d.opened.1,[],List.replicate d.n false,(scanN crcB (bk d.now) d.n).next,0⟩
 obtain⟨t1,t2⟩:=pick_taken (scanN crcB (bk d.now) d.n).rows ks ⟨d.opened.1,[],List.replicate d.n false,(scanN crcB (bk d.now) d.n).next,0⟩ (by simp)
 have t2':(openS d ks).taken.length=d.n:=t2.trans List.length_replicate
 have p1':(openS d ks).d=d.opened.1:=p1
 have p2':(openS d ks).next=(scanN crcB (bk d.now) d.n).next:=p2
 refine⟨⟨?_,?_,?_,?_,p3,hr,?_,?_⟩,?_,?_⟩
 ·rw[p1',p2',o2]
  exact g1.same fun i hi=>o5 i hi
 ·rw[p1',o2];exact o4
 ·rw[p1'];exact o3
 ·rw[p1'];exact o1.1
 ·rw[t2',p1',o2]
 ·intro q hq i hi
  have hm:(q.1,(q.2,blk q.1))∈(openS d ks).recs:=by rw[hr];exact List.mem_map.2 ⟨q,hq,rfl⟩
  exact t1 _ hm i hi (by rw[show(pickSto _ ks _).taken.length=d.n from t2'];exact g.blt q hq i hi)
 ·rw[p2'];exact g2
 ·rw[p1'];exact o2
structure KBad (d:Dk) (n:Nat) (now all:List (Int × List Int)) (next:Int):Prop where
 off:d.off=true
 nn:d.n=n
 late:d.late.length≤600
 on:∀fates,Steady (d.on fates)∧(d.on fates).late = []∧(d.on fates).n=n
 open_:∀fates ks,KeysOf (d.on fates) ks→∃al blk,(al=all∨al=now)∧KInv (openS (d.on fates) ks) al blk∧(openS (d.on fates) ks).next≤next∧(openS (d.on fates) ks).d.n=n
 dg:∀fates,∃al blk,(al=all∨al=now)∧Good crcB (fun i=>scrub crcB (bk (mixes fates 0 d.late d.st) i)) n al blk next
theorem on_spec {d:Dk} (ho:d.off=true) (fates:List Int):Steady (d.on fates)∧(d.on fates).late = []∧(d.on fates).n=d.n∧(d.on fates).now=mixes fates 0 d.late d.st∧(d.on fates).st=mixes fates 0 d.late d.st:=by
 unfold Dk.on
 rw[if_pos ho]
 exact⟨⟨rfl,rfl⟩,rfl,rfl,rfl,rfl⟩
theorem kbad {d:Dk} {n:Nat} {now all:List (Int × List Int)} {next:Int} (ho:d.off=true) (hn:d.n=n) (hl:d.late.length≤600)
  (h:∀fates,∃al blk,(al=all∨al=now)∧Good crcB (fun i=>scrub crcB (bk (mixes fates 0 d.late d.st) i)) n al blk next):KBad d n now all next:=by
 refine⟨ho,hn,hl,fun fates=>?_,fun fates ks hk=>?_,h⟩
 ·obtain⟨a,b,c,-⟩:=on_spec ho fates
  exact⟨a,b,c.trans hn⟩
 ·obtain⟨a,b,c,e,f⟩:=on_spec ho fates
  obtain⟨al,blk,h1,g⟩:=h fates
  obtain⟨k1,k2,k3⟩:=kopen a b (fun i _=>by rw[e,f]) (all:=al) (blk:=blk) (next:=next) (by rw[e,c,hn];exact g) hk
  exact⟨al,blk,h1,k1,k2,k3.trans (c.trans hn)⟩
theorem putWs_mem {k:Int} {b:List Int} {fr:List Nat} {w:Nat × List Int} (h:w∈putWs crcB k b fr):w.1∈fr∧w.2.length=256:=by
 unfold putWs at h
 obtain⟨j,hj,rfl⟩:=List.mem_map.1 h
 have hj:=List.mem_range.1 hj
 refine⟨?_,encP_len (by exact chunk_le b j)⟩
 simp only
 rw[List.getD_eq_getElem?_getD,List.getElem?_eq_getElem hj,Option.getD_some]
 exact List.getElem_mem hj
theorem KInv.put {S:Sto} {all:List (Int × List Int)} {blk:Int→List Nat} (h:KInv S all blk) (hn:S.next≤4611686018427387904) {b:List Int} (hb:b.length≤131072) :
  S.put b=(S,0,181)∨
  (∃S' blk',S.put b=(S',S.next,0)∧KInv S' (all ++ [(S.next,b)]) blk'∧S'.next=S.next+1∧S'.d.n=S.d.n)∨
  (∃S',S.put b=(S',0,180)∧KBad S'.d S.d.n (all ++ [(S.next,b)]) all (S.next+1)):=by
 obtain⟨fr,hfr⟩:∃fr,fr=freeP S.taken (partsN b.length) S.taken.length:=⟨_,rfl⟩
 have hlt:∀i∈fr,i<S.d.n∧S.taken[i]? = some false:=fun i hi=>by
  rw[hfr] at hi
  have:=freeP_lt hi
  rw[h.tl] at this
  exact this
 have hnd:fr.Nodup:=by rw[hfr];exact freeP_nodup _ _ _
 unfold Sto.put
 rw[if_neg (by simp[h.brk]),if_neg (by omega),←hfr]
 by_cases hf:fr.length<partsN b.length
 ·rw[if_pos hf]
  exact Or.inl rfl
 ·rw[if_neg hf]
  right
  have hfl:fr.length=partsN b.length:=by
   have:=(freeP_len S.taken (partsN b.length) S.taken.length).1
   rw[←hfr] at this
   omega
  have hff:∀q∈all,∀i∈fr,i ∉ blk q.1:=fun q hq i hi hm=>by
   have h1:=h.tak q hq i hm
   rw[(hlt i hi).2] at h1
   cases h1
  obtain⟨ws,hws⟩:∃ws,ws=putWs crcB S.next b fr:=⟨_,rfl⟩
  have hpl:partsN b.length≤570:=by unfold partsN;omega
  have hwl:ws.length=fr.length:=by rw[hws];unfold putWs;simp
  have hbad:∀d':Dk,d'.off=true→d'.n=S.d.n→(∃m,d'.late=lates (ws.take m))→d'.st=S.d.st→KBad d' S.d.n (all ++ [(S.next,b)]) all (S.next+1):=fun d' a1 a2 ⟨m,a3⟩ a4=>by
   refine kbad a1 a2 ?_ fun fates=>?_
   ·rw[a3];simp[lates];omega
   ·rw[a3,a4,hws]
    rcases keeps_put h.good hn hb hfl hnd (fun i hi=>(hlt i hi).1) hff S.d.st (fun i hi=>h.st i hi) fates m (g:=fun i=>scrub crcB (bk (mixes fates 0 (lates ((putWs crcB S.next b fr).take m)) S.d.st) i)) (fun i _=>rfl) with g|g
    ·exact⟨all,blk,Or.inl rfl,g⟩
    ·exact⟨_,_,Or.inr rfl,g⟩
  rw[←hws]
  rcases writes_spec ws S.d h.off (fun w hw=>by
   rw[hws] at hw
   obtain⟨m1,m2⟩:=putWs_mem hw
   exact⟨(hlt _ m1).1,m2⟩) with ⟨w1,w2,w3,w4,w5,w6⟩|⟨w1,w2,⟨m,w3⟩,w5,w6⟩
  ·rw[if_neg (by simp[w1])]
   rw[h.late,List.nil_append] at w3
   rcases sync_spec w2 with ⟨s1,s2,s3,s4,s5,s6⟩|⟨s1,s2,s3,s5,s6⟩
   ·rw[if_neg (by simp[s1])]
    left
    refine⟨_,fun k=>if k=S.next then fr else blk k,rfl,?_,rfl,s6.trans w6⟩
    have hN:((Sto.kept { S with d:=(S.d.writes ws).1.synced } S.next b fr).next1).d.n=S.d.n:=s6.trans w6
    have hnow:((Sto.kept { S with d:=(S.d.writes ws).1.synced } S.next b fr).next1).d.now=ws.foldl (fun m w=>mput m (w.1:Int) w.2) S.d.now:=s4.trans w4
    have hstt:((Sto.kept { S with d:=(S.d.writes ws).1.synced } S.next b fr).next1).d.st=ws.foldl (fun m w=>mput m (w.1:Int) w.2) S.d.now:=s5.trans w4
    refine⟨?_,fun i _=>by rw[hnow,hstt],s3,s2,h.brk,?_,?_,?_⟩
    ·rw[hN,hnow]
     refine keeps_put_ok h.good hn hb hfl hnd (fun i hi=>(hlt i hi).1) hff (fun i _ hi=>?_) (fun j i hji=>?_)
     ·refine bk_puts_out ws _ (fun w hw e=>hi ?_)
      rw[hws] at hw
      rw[←e]
      exact(putWs_mem hw).1
     ·have hw:ws[j]? = some (i,encP crcB ⟨S.next,j,partsN b.length,chunk b j⟩):=by rw[hws];exact putWs_get hji
      exact bk_puts_in ws _ (by rw[hws,putWs_fst];exact hnd) j _ hw
    ·show mput S.recs S.next (b,fr)=_
     have hno:mget S.recs S.next=none:=mget_none_iff2 (fun p hp e=>by
      rw[h.recs] at hp
      obtain⟨q,hq,rfl⟩:=List.mem_map.1 hp
      have:=(h.good.key hq).2
      simp only at e
      omega)
     rw[mget_app_none hno,h.recs,List.map_append]
     congr 1
     ·refine List.map_congr_left fun q hq=>?_
      have:=(h.good.key hq).2
      rw[if_neg (by omega)]
     ·simp
    ·show(setT S.taken fr true).length=_
     rw[setT_len,h.tl,hN]
    ·intro q hq i hi
     show(setT S.taken fr true)[i]? = some true
     rcases List.mem_append.1 hq with hq|hq
     ·have:=(h.good.key hq).2
      rw[if_neg (by omega)] at hi
      exact setT_same _ _ i (h.tak q hq i hi)
     ·obtain rfl:q=(S.next,b):=by simpa using hq
      rw[if_pos rfl] at hi
      exact setT_in _ _ i hi (by rw[h.tl];exact(hlt i hi).1)
   ·right
    rw[if_pos (by rw[s1];decide)]
    obtain⟨d1,d2,d3,d4,d5⟩:=did_recs S (S.d.writes ws).1.synced (S.d.writes ws).1.syncV
    refine⟨_,by rw[s1],?_⟩
    rw[←s1,d4]
    exact hbad _ s2 (s6.trans w6) ⟨ws.length,by rw[s3,w3,List.take_length]⟩ (s5.trans w5)
  ·right
   rw[if_pos (by rw[w1];decide)]
   obtain⟨d1,d2,d3,d4,d5⟩:=did_recs S (S.d.writes ws).1 (S.d.writes ws).2
   refine⟨_,by rw[w1],?_⟩
   rw[←w1,d4]
   exact hbad _ w2 w6 ⟨m,by rw[w3,h.late,List.nil_append]⟩ w5
theorem KInv.key_get {S:Sto} {all:List (Int × List Int)} {blk:Int→List Nat} (h:KInv S all blk) {q:Int × List Int} (hq:q∈all):mget S.recs q.1=some (q.2,blk q.1):=by
 cases e:mget S.recs q.1 with
 | none=>
  exfalso
  refine mget_none_iff.1 e (q.1,(q.2,blk q.1)) ?_ rfl
  rw[h.recs]
  exact List.mem_map.2 ⟨q,hq,rfl⟩
 | some r=>
  have hm:=mget_mem e
  rw[h.recs] at hm
  obtain⟨q',hq',e'⟩:=List.mem_map.1 hm
  injection e' with e1 e2
  have:=h.good.uniq hq' hq e1
  rw[this] at e2
  rw[←e2]
theorem KInv.rem {S:Sto} {all:List (Int × List Int)} {blk:Int→List Nat} (h:KInv S all blk) {q:Int × List Int} (hq:q∈all) :
  (∃S',S.rem q.1=(S',0)∧KInv S' (all.filter fun r=>decide (r.1≠q.1)) blk∧S'.next=S.next∧S'.d.n=S.d.n)∨
  (∃S',S.rem q.1=(S',180)∧KBad S'.d S.d.n (all.filter fun r=>decide (r.1≠q.1)) all S.next):=by
 have hlen:=h.good.bln q hq
 have hpos:=partsN_pos q.2.length
 obtain⟨i0,hi0⟩:∃i,(blk q.1)[0]? = some i:=⟨_,List.getElem?_eq_getElem (by omega)⟩
 have hhd:(blk q.1).headD 0=i0:=by
  cases hb:blk q.1 with
  | nil=>rw[hb] at hi0;simp at hi0
  | cons a t=>rw[hb] at hi0;simpa using hi0
 have hiN:=h.good.blt q hq i0 (List.mem_of_getElem? hi0)
 have hz:padB []=zeroB:=padB_nil
 have hbad:∀d':Dk,d'.off=true→d'.n=S.d.n→d'.late=lates [(i0,zeroB)]→d'.st=S.d.st→KBad d' S.d.n (all.filter fun r=>decide (r.1≠q.1)) all S.next:=fun d' a1 a2 a3 a4=>by
  refine kbad a1 a2 (by rw[a3];simp[lates]) fun fates=>?_
  rw[a3,a4]
  rcases keeps_rem h.good hq hi0 S.d.st (fun i hi=>h.st i hi) fates (g:=fun i=>scrub crcB (bk (mixes fates 0 (lates [(i0,zeroB)]) S.d.st) i)) (fun i _=>rfl) with g|g
  ·exact⟨all,blk,Or.inl rfl,g⟩
  ·exact⟨_,_,Or.inr rfl,g⟩
 unfold Sto.rem
 rw[if_neg (by simp[h.brk]),h.key_get hq]
 simp only
 rw[hhd]
 rcases write_spec h.off hiN (x:=[]) (by simp) with ⟨w1,w2,w3,w4,w5,w6⟩|⟨w1,w2,w3,w5,w6⟩
 ·rw[if_neg (by simp[w1])]
  rw[h.late,List.nil_append,hz] at w3
  rcases sync_spec w2 with ⟨s1,s2,s3,s4,s5,s6⟩|⟨s1,s2,s3,s5,s6⟩
  ·rw[if_neg (by simp[s1])]
   left
   refine⟨_,rfl,?_,rfl,s6.trans w6⟩
   rw[hz] at w4
   refine⟨?_,fun i _=>?_,s3,s2,h.brk,?_,?_,?_⟩
   ·show Good crcB (bk (S.d.written i0 []).synced.now) (S.d.written i0 []).synced.n _ blk S.next
    rw[s6,w6,s4,w4]
    exact h.good.rem hq hi0 (bk_put_same _ _ _) (fun i _ hne=>bk_put_ne _ _ hne)
   ·show bk (S.d.written i0 []).synced.st i=bk (S.d.written i0 []).synced.now i
    rw[s4,s5]
   ·show mdel S.recs q.1=_
    rw[h.recs]
    clear hbad hlen hi0 hhd hiN w1 w2 w3 w4 w5 w6 s1 s2 s3 s4 s5 s6
    unfold mdel
    rw[List.filter_map]
    rfl
   ·show(setT S.taken (blk q.1) false).length=_
    rw[setT_len,h.tl]
    show S.d.n=(S.d.written i0 []).synced.n
    rw[s6,w6]
   ·intro r hr i hi
    show(setT S.taken (blk q.1) false)[i]? = some true
    obtain⟨hr1,hr2⟩:=List.mem_filter.1 hr
    have hne:r.1≠q.1:=by simpa using hr2
    rw[setT_out _ _ i (fun hm=>hne (by rw[h.good.apart hr1 hq hi hm]))]
    exact h.tak r hr1 i hi
  ·right
   rw[if_pos (by rw[s1];decide)]
   obtain⟨d1,d2,d3,d4,d5⟩:=did_recs S (S.d.written i0 []).synced (S.d.written i0 []).syncV
   refine⟨_,by rw[s1],?_⟩
   rw[←s1,d4]
   exact hbad _ s2 (s6.trans w6) (by rw[s3,w3];rfl) (s5.trans w5)
 ·right
  rw[if_pos (by rw[w1];decide)]
  obtain⟨d1,d2,d3,d4,d5⟩:=did_recs S (S.d.written i0 []) (S.d.writeV i0 [])
  refine⟨_,by rw[w1],?_⟩
  rw[←w1,d4]
  exact hbad _ w2 w6 (by rw[w3,h.late,hz];rfl) w5
theorem KInv.failed {S:Sto} {all:List (Int × List Int)} {blk:Int→List Nat} (h:KInv S all blk) (n:Int):KInv { S with d:=S.d.failed n } all blk:=⟨h.good,h.st,h.late,h.off,h.brk,h.recs,h.tl,h.tak⟩
open Go.RowKit Go.Sf
structure CallM where
 kind:Int
 B:List Int
 p:Option Addr
 c:Nat
 times:Int
 n:Int
 F:List Int
 fp:Option Addr
 fc:Nat
def callD:CallM:=⟨0,[],none,0,0,0,[],none,0⟩
def callCells (x:CallM):List Value:=[.int .u8 x.kind,.slice x.p x.B.length x.c,.int .u8 x.times,.int .i64 x.n,.slice x.fp x.F.length x.fc]
structure CallOk (W:World) (x:CallM):Prop where
 b:RawRow W (.slice x.p x.B.length x.c) x.B
 bb:BL x.B
 f:RawRow W (.slice x.fp x.F.length x.fc) x.F
 fb:BL x.F
 k:0≤x.kind∧x.kind≤255
 t:0≤x.times∧x.times≤255
 n : -9223372036854775808≤x.n∧x.n≤9223372036854775807
 bl:x.B.length≤9223372036854775807
 fl:x.F.length≤9223372036854775807
def CallRow (w:World) (v:Value) (l:List CallM):Prop:=
 ∃p cap,v = .slice p l.length cap∧l.length≤9223372036854775807∧(∀x∈l,CallOk w x)∧(l = []∨∃b off,p=some ⟨b,off,none⟩∧∀i,i<l.length→∀j u,(callCells (l.getD i callD))[j]? = some u→w.cell? ⟨b,off+i*5+j,none⟩=some u)
def repB (B:List Int):Nat→List Int
 | 0=>[]
 | k+1=>repB B k++B
theorem repB_len (B:List Int):∀k,(repB B k).length=k*B.length
 | 0=>by simp[repB]
 | k+1=>by rw[repB,List.length_append,repB_len B k,Nat.add_mul,Nat.one_mul]
theorem repB_BL {B:List Int} (h:BL B):∀k,BL (repB B k)
 | 0=>fun b hb=>by simp[repB] at hb
 | k+1=>fun b hb=>by
  rcases List.mem_append.1 hb with h1|h1
  ·exact repB_BL h k b h1
  ·exact h b h1
open Go.RowKit Go.Sf Go.Shelf
section
variable {W w w' : World} {own : Nat → Prop} {st db : Nat} {S : Sto}
end
theorem conv_strP (W:World) (s:ByteArray) (hs:s.size≤1000000):∃y W2,(convert 9 32 (.string s)).run Tryz.prog W = .ok y W2∧W.grownBy W2 none∧RowP (fun k=>W.heap.size≤k∧k<W2.heap.size) W2 y (bytesV (strB s)):=by
 refine⟨_,_,Lib.run_convert_string_bytes (P:=Tryz.prog) W 9 32 5 s (u:=.string) Tryz.underlying9 Tryz.underlying32 Tryz.underlying5,grown_bytes _ _ _,?_⟩
 obtain⟨p,cap,e,hc⟩:=(rawRow_conv W s).ex
 injection e with e1 e2 e3
 have hge:=grownCap_ge W s.size 0 5
 have hle:=grownCap_le_maxLen W s.size 0 5 (by unfold maxLen;omega)
 unfold maxLen at hle
 have hsz:W.heap.size<(Lib.bytesWorld W 5 s).heap.size:=by
  unfold Lib.bytesWorld World.freeze
  split <;> simp
 refine⟨some ⟨W.heap.size,0,none⟩,grownCap W s.size 0 5,by rw[bytesV_len,strB_len],by rw[bytesV_len,strB_len];exact hge,by omega,?_⟩
 rcases hc with h0|⟨a,h1,h2⟩
 ·left;rw[h0];rfl
 ·right
  rw[←e1] at h1
  injection h1 with h1
  subst h1
  exact⟨_,rfl,⟨Nat.le_refl _,hsz⟩,h2⟩
theorem row_slice {w:World} {base n sz:Nat} {e:TypeId} {v:Value} {xs:List Value} (h:w.ownsRow base e sz v n xs):∃p c,v = .slice p n c:=by
 rcases h.2 with ⟨hv,h1⟩|⟨gg,cap,cur,hv,_⟩
 ·exact⟨none,0,by rw[hv,h1]⟩
 ·exact⟨_,cap,hv⟩
section
variable {own : Nat → Prop} {W W' : World} {db sb nb : Nat} {lv : Value} {d : Dk} {r : Option Nat}
end
theorem CallOk.grown {W w:World} {x:CallM} (h:CallOk W x) (hg:W.grownBy w none):CallOk w x:=
 ⟨h.b.grown hg (by simp),h.bb,h.f.grown hg (by simp),h.fb,h.k,h.t,h.n,h.bl,h.fl⟩
structure Jnl where
 S:Sto
 at_:Int
 state:List Int
 entries:List (List Int)
 broken:Int
structure SlM where
 p:Option Addr
 n:Nat
 c:Nat
def slE (x:SlM):List Value:=[.slice x.p x.n x.c]
theorem slE_len (x:SlM):(slE x).length=1:=rfl
theorem slE_one (x:SlM):∀u∈slE x,u.oneCell'=true:=fun u hu=>by
 simp only[slE,List.mem_cons,List.not_mem_nil,or_false] at hu
 subst hu;rfl
inductive EntOk (P:Nat→Prop) (w:World):List SlM→List (List Int)→Prop
 | nil:EntOk P w [] []
 | cons {x b es l}:RowP P w (.slice x.p x.n x.c) (bytesV b)→EntOk P w es l→EntOk P w (x :: es) (b :: l)
section
variable {P P' : Nat → Prop} {w w' : World}
theorem EntOk.turn {es:List SlM} {l:List (List Int)} (h:EntOk P w es l) (hs:∀k,P k→w'.heap[k]? = w.heap[k]?):EntOk P w' es l:=by
 induction h with
 | nil=>exact .nil
 | cons h1 _ ih=>exact .cons (h1.turn hs) ih
theorem EntOk.mono {es:List SlM} {l:List (List Int)} (h:EntOk P w es l) (hs:∀k,P k→P' k):EntOk P' w es l:=by
 induction h with
 | nil=>exact .nil
 | cons h1 _ ih=>exact .cons (h1.mono hs) ih
theorem EntOk.len {es:List SlM} {l:List (List Int)} (h:EntOk P w es l):es.length=l.length:=by
 induction h with
 | nil=>rfl
 | cons _ _ ih=>simp[ih]
theorem EntOk.app {es es2:List SlM} {l l2:List (List Int)} (h:EntOk P w es l) (g:EntOk P w es2 l2):EntOk P w (es++es2) (l++l2):=by
 induction h with
 | nil=>exact g
 | cons h1 _ ih=>exact .cons h1 ih
theorem EntOk.get {es:List SlM} {l:List (List Int)} (h:EntOk P w es l):∀i (hi:i<es.length) (hj:i<l.length),RowP P w (.slice es[i].p es[i].n es[i].c) (bytesV l[i]):=by
 induction h with
 | nil=>intro i hi;simp at hi
 | cons h1 _ ih=>
  intro i hi hj
  cases i with
  | zero=>exact h1
  | succ i=>exact ih i (by simpa using hi) (by simpa using hj)
end
structure JAt (own:Nat→Prop) (W:World) (jb st db:Nat) (sv ev:Value) (es:List SlM) (jk:Nat→Prop) (J:Jnl):Prop where
 box:W.heap[jb]? = some (.cells #[.pointer (some ⟨st,0,none⟩),.int .i64 J.at_,sv,ev,.int .i64 J.broken] 210 (0,0))
 sr:SRep (fun k=>own k∨jk k) W st db J.S
 row:SRow W 32 1 slE ev es
 stt:RowP (fun k=>jk k∧k≠jb∧ev.ownBlock≠some k) W sv (bytesV J.state)
 ent:EntOk (fun k=>jk k∧k≠jb∧ev.ownBlock≠some k) W es J.entries
 jjb:jk jb
 jev:∀g,ev.ownBlock=some g→jk g
 ap:∀k,own k→¬jk k
def JRep (own:Nat→Prop) (W:World) (jb db:Nat) (J:Jnl):Prop:=∃st sv ev es jk,JAt own W jb st db sv ev es jk J
section
variable {own own' : Nat → Prop} {W W' : World} {db st : Nat} {d : Dk} {S S' : Sto}
theorem DRep.othJ (h:DRep own W db d) (ht:Turn own W W') (h1:∀k,own' k→own k∨W.heap.size≤k) (h2:∀k,own' k→k<W'.heap.size):DRep own' W' db d:=by
 obtain⟨sb,nb,lv,h⟩:=h.ex
 have hdb:=h.dlt
 have hsb:=h.st.lt
 have hnb:=h.now.lt
 exact⟨sb,nb,lv,(ht.block db h.dlt h.odb).trans h.box,h.st.same (ht.block sb h.st.lt h.osb),h.now.same (ht.block nb h.now.lt h.onb),row_same h.late (fun g hg=>ht.block g (Go.Proofs.YtbcbhlfjgobejaaGreat.own_lt h.late hg) (h.olv g hg)),h.sn,fun e=>(h1 _ e).elim h.odb (fun e=>by omega),fun e=>(h1 _ e).elim h.osb (fun e=>by omega),fun e=>(h1 _ e).elim h.onb (fun e=>by omega),fun g hg2 e=>(h1 _ e).elim (h.olv g hg2) (fun e=>by have:=Go.Proofs.YtbcbhlfjgobejaaGreat.own_lt h.late hg2;omega),h2,h.n,h.w0,h.w1,h.bst,h.bnow,h.blate,h.few⟩
theorem SRep.othJ (h:SRep own W st db S) (ht:Turn own W W') (h1:∀k,own' k→own k∨W.heap.size≤k) (h2:∀k,own' k→k<W'.heap.size):SRep own' W' st db S:=by
 obtain⟨mb,tb,rv,rb,hs⟩:=h
 have a1:=hs.st_lt
 have a2:=hs.mb_lt
 have a3:=hs.tb_lt
 have a4:=fun k hk=>@SAt.rb_lt _ _ _ _ _ _ _ _ _ hs k hk
 have ho:=hs.others ht
 have hz:=ht.size
 refine⟨mb,tb,rv,rb,ho.box,ho.recs,ho.rows,ho.tak,hs.disk.othJ (ht.mono fun k hk=>Or.inl hk) (fun k hk=>?_) (fun k hk=>?_),fun k hk=>?_,hs.rbs,hs.ok⟩
 ·rcases hk with e|e
  ·exact(h1 k e).imp Or.inl id
  ·exact Or.inl (Or.inr e)
 ·rcases hk with e|e|e|e|e
  ·exact h2 k e
  ·subst e;omega
  ·subst e;omega
  ·subst e;omega
  ·exact Nat.lt_of_lt_of_le (a4 k e) hz
 ·rcases h1 k hk with e|e
  ·exact hs.away k e
  ·exact⟨by omega,by omega,by omega,fun e2=>by have:=a4 k e2;omega⟩
theorem SRep.own_lt (h:SRep own W st db S) {k:Nat} (hk:own k):k<W.heap.size:=by
 obtain⟨mb,tb,rv,rb,hs⟩:=h
 exact hs.own_lt hk
end
section
variable {own : Nat → Prop} {W W' : World} {jb st db : Nat} {sv ev : Value} {es : List SlM} {jk : Nat → Prop} {J : Jnl} {S' : Sto}
theorem JAt.jlt (h:JAt own W jb st db sv ev es jk J) {k:Nat} (hk:jk k):k<W.heap.size:=h.sr.own_lt (Or.inr hk)
theorem JAt.olt (h:JAt own W jb st db sv ev es jk J) {k:Nat} (hk:own k):k<W.heap.size:=h.sr.own_lt (Or.inl hk)
theorem JAt.store (h:JAt own W jb st db sv ev es jk J) (hs:SRep (fun k=>own k∨jk k) W' st db S') (ht:Turn (fun k=>¬(own k∨jk k)) W W'):JAt own W' jb st db sv ev es jk { J with S:=S' }:=
 have hb:∀k,jk k→W'.heap[k]? = W.heap[k]?:=fun k hk=>ht.block k (h.jlt hk) (fun e=>e (Or.inr hk))
 ⟨(hb jb h.jjb).trans h.box,hs,h.row.same fun g hg=>hb g (h.jev g hg),h.stt.turn fun k hk=>hb k hk.1,h.ent.turn fun k hk=>hb k hk.1,h.jjb,h.jev,h.ap⟩
theorem JAt.grown (h:JAt own W jb st db sv ev es jk J) (hg:W.grownBy W' none):JAt own W' jb st db sv ev es jk J:=
 h.store (h.sr.kept hg) ⟨hg.os,hg.tape,hg.output,hg.size,fun k hk _=>hg.block k hk (by simp)⟩
theorem JRep.grown (h:JRep own W jb db J) (hg:W.grownBy W' none):JRep own W' jb db J:=by
 obtain⟨st,sv,ev,es,jk,h⟩:=h
 exact⟨st,sv,ev,es,jk,h.grown hg⟩
theorem JAt.cells (h:JAt own W jb st db sv ev es jk J):W.cell? ⟨jb,0,none⟩=some (.pointer (some ⟨st,0,none⟩))∧W.cell? ⟨jb,1,none⟩=some (.int .i64 J.at_)∧W.cell? ⟨jb,2,none⟩=some sv∧W.cell? ⟨jb,3,none⟩=some ev∧W.cell? ⟨jb,4,none⟩=some (.int .i64 J.broken)∧∀i,W.frozen? ⟨jb,i,none⟩=false:=by
 have hb:=h.box
 refine⟨?_,?_,?_,?_,?_,fun i=>?_⟩ <;> simp[World.cell?,World.frozen?,hb]
theorem JAt.ne (h:JAt own W jb st db sv ev es jk J):ev.ownBlock≠some jb:=own_ne h.row h.box (by decide)
theorem JAt.set (h:JAt own W jb st db sv ev es jk J) (i:Nat) (v:Value) (J':Jnl) (hb:(#[.pointer (some ⟨st,0,none⟩),.int .i64 J.at_,sv,ev,.int .i64 J.broken]:Array Value).setIfInBounds i v = #[.pointer (some ⟨st,0,none⟩),.int .i64 J'.at_,sv,ev,.int .i64 J'.broken])
  (e1:J'.S=J.S) (e2:J'.state=J.state) (e3:J'.entries=J.entries):JAt own (W.setCell ⟨jb,i,none⟩ v) jb st db sv ev es jk J'∧Turn (fun k=>¬own k) W (W.setCell ⟨jb,i,none⟩ v):=by
 have hs:=grown_set W jb i v
 have ht:Turn (fun k=>own k∨jk k) W (W.setCell ⟨jb,i,none⟩ v):=(turn_set W jb i v).mono fun k hk=>by rw[hk];exact Or.inr h.jjb
 refine⟨⟨?_,?_,h.row.grown hs (fun g hg e=>h.ne (by rw[hg];exact e.symm)),?_,?_,h.jjb,h.jev,h.ap⟩,(turn_set W jb i v).mono fun k hk e=>?_⟩
 ·simp only[World.setCell,Array.getElem?_modify,h.box,if_true,Option.map_some]
  rw[hb]
  rfl
 ·rw[e1]
  exact h.sr.othJ ht (fun k hk=>Or.inl hk) (fun k hk=>Nat.lt_of_lt_of_le (h.sr.own_lt hk) hs.size)
 ·rw[e2]
  exact h.stt.turn fun k hk=>hs.block k (h.jlt hk.1) (fun e=>hk.2.1 (by injection e))
 ·rw[e3]
  exact h.ent.turn fun k hk=>hs.block k (h.jlt hk.1) (fun e=>hk.2.1 (by injection e))
 ·rw[hk] at e
  exact h.ap _ e h.jjb
set_option maxRecDepth 100000 in
theorem jbroken (h:JAt own W jb st db sv ev es jk J):Calls Tryz.prog 58 #[.pointer (some ⟨jb,0,none⟩)] W fun e w'=>e = .returned (.int .i64 J.broken)∧w'=W:=by
 obtain⟨c0,c1,c2,c3,c4,y⟩:=h.cells
 clear h
 go_enter Tryz.func58,Tryz.ntmps58
 go_wp2
 go_ret
 exact⟨rfl,rfl⟩
set_option maxRecDepth 100000 in
theorem jfree (h:JAt own W jb st db sv ev es jk J):Calls Tryz.prog 51 #[.pointer (some ⟨jb,0,none⟩)] W fun e w'=>e = .returned (.int .i64 (freeN J.S.taken))∧w'=W:=by
 have HF:Hid (Calls Tryz.prog 22 #[.pointer (some ⟨st,0,none⟩)] W fun e w'=>e = .returned (.int .i64 (freeN J.S.taken))∧w'=W):=(by
  obtain⟨mb,tb,rv,rb,hs⟩:=h.sr
  exact sfree hs)
 obtain⟨c0,c1,c2,c3,c4,y⟩:=h.cells
 clear h
 go_enter Tryz.func51,Tryz.ntmps51
 go_wp2_with (go_at_call 22;refine HF.out.mono ?_;rintro e w1 ⟨rfl,h1⟩;obtain rfl:W=w1:=h1.symm)
 go_ret
 exact⟨rfl,rfl⟩
def Jnl.met (J:Jnl) (e:Int):Jnl:=if e=180 then { J with broken:=180 } else J
set_option maxRecDepth 100000 in
theorem jmet (h:JAt own W jb st db sv ev es jk J) (e:Int):Calls Tryz.prog 182 #[.pointer (some ⟨jb,0,none⟩),.int .i64 e] W fun e' w'=>e' = .returned (.int .i64 e)∧JAt own w' jb st db sv ev es jk (J.met e)∧Turn (fun k=>¬own k) W w':=by
 obtain⟨c0,c1,c2,c3,c4,y⟩:=h.cells
 have HS:=Lib.hid (h.set 4 (.int .i64 180) { J with broken:=180 } rfl rfl rfl rfl)
 have H0:=Lib.hid h
 clear h
 unfold Jnl.met
 by_cases he:e=180
 ·subst he
  go_enter Tryz.func182,Tryz.ntmps182
  go_wp2
  go_ret
  exact⟨rfl,HS.out.1,HS.out.2⟩
 ·rw[if_neg he]
  go_enter Tryz.func182,Tryz.ntmps182
  go_wp2
  go_ret
  exact⟨rfl,H0.out,Turn.refl _ _⟩
set_option maxRecDepth 100000 in
theorem jstate (h:JAt own W jb st db sv ev es jk J) (hl:J.state.length≤100000000):Calls Tryz.prog 54 #[.pointer (some ⟨jb,0,none⟩)] W fun e w'=>W.grownBy w' none∧((J.at_=0∧e = .returned (.tuple #[.slice none 0 0,.bool false]))∨(J.at_≠0∧∃v,e = .returned (.tuple #[v,.bool true])∧NewRow W w' v J.state)):=by
 obtain⟨c0,c1,c2,c3,c4,y⟩:=h.cells
 have HC:=Lib.hid (clone_any (W:=W) h.stt.raw hl (fun e=>by
  obtain⟨p,c,e1,_,_,h2⟩:=h.stt.ex
  rcases h2 with h2|⟨a,h2,_⟩
  ·simpa[bytesV] using h2
  ·rw[e] at e1;injection e1 with e1;rw[h2] at e1;cases e1))
 clear h
 by_cases ha:J.at_=0
 ·rw[ha] at c1
  go_enter Tryz.func54,Tryz.ntmps54
  go_wp2
  go_ret2
  exact⟨grown_refl _,Or.inl ⟨ha,rfl⟩⟩
 ·generalize hat:J.at_=at_ at *
  go_enter Tryz.func54,Tryz.ntmps54
  go_wp2_with (go_at_call 97;refine HC.out.mono ?_;rintro e w1 ⟨v,rfl,h1,h2⟩;have H1:=Lib.hid h1;have H2:=Lib.hid h2;clear h1 h2)
  go_ret2
  exact⟨H2.out,Or.inr ⟨ha,v,rfl,H1.out⟩⟩
end
end Go.Proofs.YtbcbhlfjgobejaaGreat
