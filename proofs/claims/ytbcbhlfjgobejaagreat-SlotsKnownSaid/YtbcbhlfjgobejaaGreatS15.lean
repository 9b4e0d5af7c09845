/- A store in memory: Remove: the walk. Conditions: none, or as the theorems say. -/
import Derived.Test.YtbcbhlfjgobejaaGreatS1
import Derived.Test.YtbcbhlfjgobejaaGreatS14
import Derived.Test.YtbcbhlfjgobejaaGreatS5
set_option linter.unusedSimpArgs false
set_option linter.unusedVariables false
namespace Go.Proofs.YtbcbhlfjgobejaaGreat
set_option maxHeartbeats 200000000
open Go.RowKit Go.Sf
variable {b:List Int} {fr:List Nat} {j:Nat} {own':Nat→Prop}
section
variable {own : Nat → Prop} {W W' : World} {st db mb tb : Nat} {rv : Int → Value × Value} {rb : Nat → Prop} {S : Sto}
theorem zgk (a:Addr):a.add 0=a:=by simp[Addr.add]
theorem zix {l:List Nat} {x:Nat} (h:l[j]? = some x):(jj l)[j]? = some (.int .i64 (x:Nat)):=by simp[jj,h]
theorem SAt.owns (h:SAt own W st db mb tb rv rb S) (hg:W.grownBy W' none) (h1:∀k,own' k→own k∨W.heap.size≤k) (h2:∀k,own' k→k<W'.heap.size):SAt own' W' st db mb tb rv rb S:=by
 have hk:=h.kept hg;have hs:=hg.size;refine⟨hk.box,hk.recs,hk.rows,hk.tak,h.disk.more hg (λk hk=>?_) (λk hk=>?_),λk hk2=>?_,h.rbs,h.ok⟩
 ·rcases hk with e|e
  ·rcases h1 k e with g|g
   ·exact Or.inl (Or.inl g)
   ·exact Or.inr g
  ·exact Or.inl (Or.inr e)
 ·rcases hk with e|e|e|e|e
  ·exact h2 k e
  ·have:=h.st_lt;omega
  ·have:=h.mb_lt;omega
  ·have:=h.tb_lt;omega
  ·have:=h.rb_lt e;omega
 ·rcases h1 k hk2 with g|g
  ·exact h.away k g
  ·have a1:=h.st_lt
   have a2:=h.mb_lt;have a3:=h.tb_lt
   exact⟨by omega,by omega,by omega,λe=>by have:=h.rb_lt e;omega⟩
theorem SAt.less (h:SAt own W st db mb tb rv rb S) (h1:∀k,own' k→own k):SAt own' W st db mb tb rv rb S:=
 h.owns (zi _) (λk hk=>Or.inl (h1 k hk)) (λk hk=>h.own_lt (h1 k hk))
theorem Yc (d:Dk) (i:Int) (b:List Int):(d.written i b).n=d.n:=by
 unfold Dk.written
 split
 ·rfl
 ·split <;> rfl
theorem Vu (d:Dk):d.synced.n=d.n:=by
 unfold Dk.synced
 split
 ·rfl
 ·split <;> rfl
theorem SAt.write (h:SAt own W st db mb tb rv rb S) (i:Int) {v:Value} (hb:zx W v b) (hbl:BL b) (hf:S.d.late.length<1000000) :
  Calls Tryz.prog 24 #[.pointer (some ⟨db,0,none⟩),.int .i64 i,v] W λe w'=>e = .returned (.int .i64 (S.d.writeV i b))∧SAt own w' st db mb tb rv rb { S with d:=S.d.written i b }∧zm (λk=>¬own k) W w'∧zm (λk=>¬ownS own st mb tb rb k) W w':=
 (dwrite h.disk i hb hbl hf).mono λe w' ⟨h1,h2,h3⟩=>⟨h1,h.turned h2 h3 (Yc _ _ _),Qz h3,h3⟩
theorem SAt.sync (h:SAt own W st db mb tb rv rb S) :
  Calls Tryz.prog 25 #[.pointer (some ⟨db,0,none⟩)] W λe w'=>e = .returned (.int .i64 S.d.syncV)∧SAt own w' st db mb tb rv rb { S with d:=S.d.synced }∧zm (λk=>¬own k) W w'∧zm (λk=>¬ownS own st mb tb rb k) W w':=
 (dsync h.disk).mono λe w' ⟨h1,h2,h3⟩=>⟨h1,h.turned h2 h3 (Vu _),Qz h3,h3⟩
def Sto.did (S:Sto) (d:Dk) (e:Int):Sto:={ S with d:=d }.met e
theorem Xj (S:Sto) (d:Dk) (e:Int):(S.did d e).recs=S.recs∧(S.did d e).taken=S.taken∧(S.did d e).next=S.next∧(S.did d e).d=d∧(S.did d e).broken=if e=0 then S.broken else e:=by
 unfold Sto.did Sto.met
 split <;> exact⟨rfl,rfl,rfl,rfl,by simp_all⟩
def Sto.rem (S:Sto) (k:Int):Sto × Int:=
 if S.broken≠0 then (S,S.broken)
 else match zw S.recs k with
  | none=>(S,5)
  | some r=>
   if S.d.writeV (r.2.headD 0:Nat) []≠0 then (S.did (S.d.written (r.2.headD 0:Nat) []) (S.d.writeV (r.2.headD 0:Nat) []),S.d.writeV (r.2.headD 0:Nat) [])
   else if (S.d.written (r.2.headD 0:Nat) []).syncV≠0 then (S.did (S.d.written (r.2.headD 0:Nat) []).synced (S.d.written (r.2.headD 0:Nat) []).syncV,(S.d.written (r.2.headD 0:Nat) []).syncV)
   else ({ S with d:=(S.d.written (r.2.headD 0:Nat) []).synced,recs:=jq S.recs k,taken:=qa S.taken r.2 false },0)
set_option maxRecDepth 100000 in
theorem zl6 (h:SAt own W st db mb tb rv rb S) (k:Int) (hf:S.d.late.length<1000000):Calls Tryz.prog 30 #[.pointer (some ⟨st,0,none⟩),.int .i64 k] W λe w'=>e = .returned (.int .i64 (S.rem k).2)∧SAt own w' st db mb tb rv rb (S.rem k).1∧zm (λk=>¬own k) W w':=by
 have HBR:=zd (Qw h);have HS:=zd h;have HM:=zd h.recs
 by_cases hb:S.broken=0
 ·have eg:=zdw (λj (_:List Int × List Nat)=>rv j) S.recs k
  obtain⟨c0,c1,c2,c3,c4,y⟩:=h.cells;rw[hb] at HBR;have hlt:=h.st_lt
  cases hg:zw S.recs k with
  | none=>
   rw[hg] at eg;have HE:Hid ((((zw (S.recs.map λr=>(r.1,rv r.1)) k).map Vv).getD (Vv (.slice none 0 0,.slice none 0 0))) = .agg #[.slice none 0 0,.slice none 0 0]∧(zw (S.recs.map λr=>(r.1,rv r.1)) k).isSome=false):=(show _∧_ from by rw[eg];exact⟨rfl,rfl⟩)
   have HQ:Hid (∀w',W.grownBy w' none→Ending.returned (.int .i64 5)=Ending.returned (.int .i64 (S.rem k).2)∧SAt own w' st db mb tb rv rb (S.rem k).1∧zm (λk=>¬own k) W w'):=(λw' hgr=>by
    have er:S.rem k=(S,5):=by unfold Sto.rem;rw[if_neg (by simp[hb]),hg]
    rw[er]
    exact⟨rfl,HS.out.kept hgr,hgr.os,hgr.tape,hgr.output,hgr.size,λk hk _=>hgr.block k hk (by simp)⟩)
   clear h eg hg;generalize S.rem k=RES at *
   go_enter Tryz.func30,Tryz.ntmps30
   go_wp2_with (first
    | (go_at_call 46;refine HBR.out.mono ?_;rintro e w1 ⟨rfl,h5⟩;obtain rfl:W=w1:=h5.symm)
    | (refine jm _ rfl _ _ 129 true rfl zdr Tryz.underlying129 (zbd _) mb _ rfl HM.out k rfl ?_;rw[HE.out.1,HE.out.2,if_pos rfl]))
   go_ret
   exact HQ.out _ (ze _ _ _)
  | some r=>
   rw[hg] at eg;obtain⟨r1,r2⟩:=r;have hmem:=qj hg;have hrow:=(h.rows _ hmem).2;have hbk:=h.ok.blks _ hmem;simp only at hrow hbk;obtain⟨i0,t0,rfl⟩:∃i t,r2=i :: t:=by
    cases r2 with
    | nil=>exact absurd rfl hbk.1
    | cons i t=>exact⟨i,t,rfl⟩
   obtain⟨⟨va,vb⟩,hv⟩:∃p,rv k=p:=⟨_,rfl⟩;rw[hv] at hrow eg;simp only at hrow;obtain⟨pa,na,ca,rfl⟩:∃pa na ca,va = .slice pa na ca:=by
    have h2:=(h.rows _ hmem).1;simp only[hv] at h2;obtain⟨_,_,e2,_⟩:=h2.ex
    exact⟨_,_,_,e2⟩
   obtain⟨pb,cb,rfl,g1,g2,hc⟩:=hrow.ex;obtain⟨a,rfl,hra,hca⟩:∃a,pb=some a∧rb a.block∧∀j u,(jj (i0 :: t0))[j]? = some u→W.cell? (a.add j)=some u:=by
    rcases hc with h0|h0
    ·simp[jj] at h0
    ·exact h0
   generalize hnn:(jj (i0 :: t0)).length=nn at *;obtain rfl:nn=(i0 :: t0).length:=by rw[←hnn];simp[jj]
   have HE:Hid ((((zw (S.recs.map λr=>(r.1,rv r.1)) k).map Vv).getD (Vv (.slice none 0 0,.slice none 0 0))) = .agg #[.slice pa na ca,.slice (some a) (i0 :: t0).length cb]∧(zw (S.recs.map λr=>(r.1,rv r.1)) k).isSome=true):=(show _∧_ from by rw[eg];exact⟨rfl,rfl⟩)
   have HROW:Hid (∀(own2:Nat→Prop) (w':World) (S':Sto),SAt own2 w' st db mb tb rv rb S'→S'.recs=S.recs→∀j x,(i0 :: t0)[j]? = some x→w'.cell? (a.add j)=some (.int .i64 (x:Nat))):=(λown2 w' S' h' hr j x hx=>by
    have h2:=(h'.rows (k,r1,i0 :: t0) (by rw[hr];exact hmem)).2
    simp only[hv] at h2;obtain⟨p',cap',e,_,_,hc⟩:=h2.ex
    injection e with q1 _ _
    rcases hc with h0|⟨a',h1,_,h3⟩
    ·simp[jj] at h0
    ·rw[h1] at q1
     cases q1
     exact h3 j _ (zix hx))
   have HREM:Hid (S.rem k=if S.d.writeV (i0:Nat) []≠0 then (S.did (S.d.written (i0:Nat) []) (S.d.writeV (i0:Nat) []),S.d.writeV (i0:Nat) [])
    else if (S.d.written (i0:Nat) []).syncV≠0 then (S.did (S.d.written (i0:Nat) []).synced (S.d.written (i0:Nat) []).syncV,(S.d.written (i0:Nat) []).syncV)
    else ({ S with d:=(S.d.written (i0:Nat) []).synced,recs:=jq S.recs k,taken:=qa S.taken (i0 :: t0) false },0)):=(show _=_ from by unfold Sto.rem;rw[if_neg (by simp[hb]),hg];rfl)
   have HBK:=zd hbk;clear hrow hc hca eg hg h hbk
   go_enter Tryz.func30,Tryz.ntmps30
   go_upto_region 7 with (first
    | (go_at_call 46;refine HBR.out.mono ?_;rintro e w1 ⟨rfl,h5⟩;obtain rfl:W=w1:=h5.symm)
    | (refine jm _ rfl _ _ 129 true rfl zdr Tryz.underlying129 (zbd _) mb _ rfl HM.out k rfl ?_;rw[HE.out.1,HE.out.2,if_pos rfl]))
   have hg1:=ze W (.cells #[.slice pa na ca,.slice (some a) (i0 :: t0).length cb] 158) none;have s1:=hg1.cell c0 (by simp)
   have s2:(W.alloc (.cells #[.slice pa na ca,.slice (some a) (i0 :: t0).length cb] 158)).cell? ⟨W.heap.size,1,none⟩=some (.slice (some a) (i0 :: t0).length cb):=(zf (heap_alloc_new _ _) 1).trans rfl;have HS1:Hid (SAt (λk=>own k∨k=W.heap.size) (W.alloc (.cells #[.slice pa na ca,.slice (some a) (i0 :: t0).length cb] 158)).drew st db mb tb rv rb S):=(HS.out.owns (zj hg1) (λk hk=>hk.imp id (λe=>by omega)) (λk hk=>by
    have:(W.alloc (.cells #[.slice pa na ca,.slice (some a) (i0 :: t0).length cb] 158)).drew.heap.size=W.heap.size+1:=by simp[World.drew]
    rcases hk with e|e
    ·have:=HS.out.own_lt e;omega
    ·omega))
   have hne:st≠W.heap.size∧a.block≠W.heap.size:=⟨by omega,by have:=HS.out.rb_lt hra;omega⟩
   have s3:(W.alloc (.cells #[.slice pa na ca,.slice (some a) (i0 :: t0).length cb] 158)).cell? a=some (.int .i64 i0):=zgk a ▸ HROW.out _ _ _ HS1.out rfl 0 i0 rfl;have HT1:Hid (zm (λk=>¬own k) W (W.alloc (.cells #[.slice pa na ca,.slice (some a) (i0 :: t0).length cb] 158)).drew):=(show zm _ _ _ from ⟨(zj hg1).os,(zj hg1).tape,(zj hg1).output,(zj hg1).size,λk hk _=>(zj hg1).block k hk (by simp)⟩)
   clear hg1 HBR HM HE;generalize W.alloc (.cells #[.slice pa na ca,.slice (some a) (i0 :: t0).length cb] 158)=W1 at *;have HBOX:Hid (∀w',zm (λk=>¬(own k∨k=W.heap.size)) W1.drew w'→w'.cell? ⟨W.heap.size,1,none⟩=some (.slice (some a) (i0 :: t0).length cb)):=(λw' ht=>by
    have hl:W.heap.size<W1.drew.heap.size:=HS1.out.own_lt (Or.inr rfl)
    exact(World.cell?_of_block (ht.block W.heap.size hl (λe=>e (Or.inr rfl)))).trans s2)
   have hraw0:zx W1.drew (.slice none 0 0) []:=⟨none,0,rfl,Or.inl rfl⟩;have HW:=zd (HS1.out.write (i0:Nat) hraw0 (λb hb=>by cases hb) hf)
   generalize S.d.writeV (i0:Nat) []=e1 at *;generalize hd1:S.d.written (i0:Nat) []=d1 at *;have HTO:Hid (∀w',zm (λk=>¬(own k∨k=W.heap.size)) W1.drew w'→zm (λk=>¬own k) W w'):=(λw' ht=>HT1.out.trans (ht.mono λk hk e=>hk (Or.inl e)))
   generalize hrx:W.heap.size=rx at *;have HK:Hid (∀w' S',SAt (λk=>own k∨k=rx) w' st db mb tb rv rb S'→S'.recs=S.recs→zm (λk=>¬(own k∨k=rx)) W1.drew w'→w'.cell? ⟨st,0,none⟩=some (.pointer (some ⟨db,0,none⟩))∧w'.cell? ⟨rx,1,none⟩=some (.slice (some a) (i0 :: t0).length cb)∧w'.cell? a=some (.int .i64 i0)):=(λw' S' h' hr ht=>⟨h'.cells.1,HBOX.out w' ht,zgk a ▸ HROW.out _ _ _ h' hr 0 i0 rfl⟩)
   by_cases he1:e1=0
   ·subst he1
    obtain⟨e2,hE2⟩:∃e2,d1.syncV=e2:=⟨_,rfl⟩;obtain⟨SD,hSD⟩:∃SD:Sto,SD = { S with d:=d1 }:=⟨_,rfl⟩
    obtain⟨SF,hSF⟩:∃SF:Sto,SF = { S with d:=d1.synced }:=⟨_,rfl⟩
    have HBRK:Hid (SD.recs=S.recs∧SF.recs=S.recs):=(show _∧_ from by rw[hSD,hSF];exact⟨rfl,rfl⟩)
    have HSD:Hid (SD.recs=S.recs):=(show _=_ from HBRK.out.1)
    have HMET:Hid (∀w',SAt (λk=>own k∨k=rx) w' st db mb tb rv rb SD→Calls Tryz.prog 96 #[.pointer (some ⟨st,0,none⟩),.int .i64 0] w' λe w2=>e = .returned (.bool true)∧SAt (λk=>own k∨k=rx) w2 st db mb tb rv rb SD∧zm (λk=>¬(own k∨k=rx)) w' w2):=(λw' h'=>by
     have:=zje h' 0
     rwa [decide_eq_true rfl,show SD.met 0=SD from if_pos rfl] at this)
    have HSY:Hid (∀w',SAt (λk=>own k∨k=rx) w' st db mb tb rv rb SD→Calls Tryz.prog 25 #[.pointer (some ⟨db,0,none⟩)] w' λe w2=>e = .returned (.int .i64 e2)∧SAt (λk=>own k∨k=rx) w2 st db mb tb rv rb SF∧zm (λk=>¬(own k∨k=rx)) w' w2):=(λw' h'=>h'.sync.mono λe w2 ⟨a1,a2,a3,_⟩=>by
     subst hSD hSF
     exact⟨by rw[a1];simp only[hE2],a2,a3⟩)
    rw[←hSD] at HW
    by_cases he2:e2=0
    ·subst he2
     have HMET2:Hid (∀w',SAt (λk=>own k∨k=rx) w' st db mb tb rv rb SF→Calls Tryz.prog 96 #[.pointer (some ⟨st,0,none⟩),.int .i64 0] w' λe w2=>e = .returned (.bool true)∧SAt (λk=>own k∨k=rx) w2 st db mb tb rv rb SF∧zm (λk=>¬(own k∨k=rx)) w' w2):=(λw' h'=>by
      have:=zje h' 0
      rwa [decide_eq_true rfl,show SF.met 0=SF from if_pos rfl] at this)
     have HBRK2:Hid (SF.recs=S.recs):=(show _=_ from HBRK.out.2)
     have HQ:Hid (∀(n:Nat) (w':World),n=(i0 :: t0).length→SAt (λk=>own k∨k=rx) w' st db mb tb rv rb { SF with recs:=jq SF.recs k,taken:=qa SF.taken ((i0 :: t0).take n) false }→zm (λk=>¬(own k∨k=rx)) W1.drew w'→Ending.returned (.int .i64 0)=Ending.returned (.int .i64 (S.rem k).2)∧SAt own w' st db mb tb rv rb (S.rem k).1∧zm (λk=>¬own k) W w'):=(λn w' hn h1 h2=>by
      rw[hn,List.take_length] at h1;rw[HREM.out,if_neg (by simp),if_neg (by simp[hE2])]
      subst hSF
      exact⟨rfl,h1.less (λk hk=>Or.inl hk),HTO.out w' h2⟩)
     have HS0:Hid (SF.taken=S.taken):=(show _=_ from by rw[hSF])
     clear HREM hd1 hSD hE2 hSF HS;refine qH (S:=λw':World=>w'.cell? ⟨st,0,none⟩=some (.pointer (some ⟨db,0,none⟩))∧w'.cell? ⟨rx,1,none⟩=some (.slice (some a) (i0 :: t0).length cb)∧w'.cell? a=some (.int .i64 i0)) ⟨s1,s2,s3⟩ (λhHeld=>?_)
     refine qT 0 ?_;refine qT 1 ?_;refine qT 2 ?_;refine qT 3 ?_;refine qT 4 ?_;refine qT 5 ?_;refine qT 6 ?_;refine qT 7 ?_;refine qT 8 ?_;refine qO 9 λK hK=>?_
     go_simp
     go_at_call 24
     refine HW.out.mono ?_;rintro e w2 ⟨rfl,hA,hT,-⟩;have HA:=zd hA;have HT:=zd hT;have hk2:=HK.out _ _ hA HSD.out hT;clear hA hT;refine hK.out _ _ hk2 (λhHeld=>?_)
     clear hK K;refine qO 10 λK hK=>?_
     go_simp
     go_at_call 96
     refine(HMET.out _ HA.out).mono ?_;rintro e w3 ⟨rfl,hB,hT⟩;have HB:=zd hB;have HT3:=zd (HT.out.trans hT);have hk3:=HK.out _ _ hB HBRK.out.1 HT3.out;clear hB hT;refine hK.out _ _ hk3 (λhHeld=>?_)
     clear hK K;refine qT 11 ?_;refine qT 12 ?_;refine qT 13 ?_;refine qT 14 ?_;refine qT 15 ?_;refine qT 16 ?_;refine qT 17 ?_;refine qO 18 λK hK=>?_
     go_simp
     go_at_call 25
     refine(HSY.out _ HB.out).mono ?_;rintro e w4 ⟨rfl,hA,hT⟩;have HA4:=zd hA;have HT4:=zd (HT3.out.trans hT);have hk4:=HK.out _ _ hA HBRK.out.2 HT4.out;clear hA hT;refine hK.out _ _ hk4 (λhHeld=>?_)
     clear hK K;refine qO 19 λK hK=>?_
     go_simp
     go_at_call 96
     refine(HMET2.out _ HA4.out).mono ?_;rintro e w5 ⟨rfl,hB,hT⟩;have HB5:=zd hB;have HT5:=zd (HT4.out.trans hT);have hk5:=HK.out _ _ hB HBRK2.out HT5.out;clear hB hT;refine hK.out _ _ hk5 (λhHeld=>?_)
     clear hK K;refine qT 20 ?_;refine qT 21 ?_;refine qD ?_;obtain⟨z0,z1,z2,z3,z4,zy⟩:=HB5.out.cells;have HROW5:Hid (∀j x,(i0 :: t0)[j]? = some x→w5.cell? (a.add j)=some (.int .i64 (x:Nat))):=(λj x hx=>HROW.out _ _ _ HB5.out HBRK2.out j x hx)
     have HM5:=zd HB5.out.recs;have hne5:=HB5.out.ne;have hrb5:=HB5.out.rbs _ hra;have htl5:SF.taken.length≤4096:=HB5.out.taken_le;have hrb6:(a.add 0).block=a.block:=by rw[zgk]
     obtain⟨SG,hSG⟩:∃SG:Sto,SG = { SF with recs:=jq SF.recs k }:=⟨_,rfl⟩
     have HQ2:Hid (∀(n:Nat) (w':World),n=(i0 :: t0).length→SAt (λk=>own k∨k=rx) w' st db mb tb rv rb { SG with taken:=qa SG.taken ((i0 :: t0).take n) false }→zm (λk=>¬(own k∨k=rx)) W1.drew w'→Ending.returned (.int .i64 0)=Ending.returned (.int .i64 (S.rem k).2)∧SAt own w' st db mb tb rv rb (S.rem k).1∧zm (λk=>¬own k) W w'):=(λn w' hn h1 h2=>HQ.out n w' hn (by rw[hSG] at h1;exact h1) h2)
     have HBL:Hid (∀i∈i0 :: t0,i<SG.taken.length):=(show ∀i∈i0 :: t0,_ from by
      have h1:=HB5.out.ok.tl;have h2:=HS0.out;intro i hi;rw[hSG]
      show i<SF.taken.length
      rw[h2]
      exact HBK.out.2 i hi)
     have hgt:SG.taken.length=SF.taken.length:=by rw[hSG]
     have hstl:st<w5.heap.size∧rx<w5.heap.size:=⟨HB5.out.st_lt,HB5.out.own_lt (Or.inr rfl)⟩;have hrow0:=HROW5.out;clear HQ HROW HK
     go_upto_region 10 with (refine zes _ rfl _ _ 129 2 rfl zdr Tryz.underlying129 mb _ rfl HM5.out k rfl ?_;intro w6 hm6 hg6 hs6)
     obtain⟨hd6,ht6⟩:=HB5.out.del hm6 hg6;rw[←hSG] at hd6;have HROW6:Hid (∀j x,(i0 :: t0)[j]? = some x→w6.cell? (a.add j)=some (.int .i64 (x:Nat))):=(λj x hx=>hg6.cell (HROW5.out j x hx) (by
      have hb:(a.add j).block=a.block:=by unfold Addr.add;split <;> rfl
      rw[hb];intro e
      injection e with e
      exact hrb5.2.1 e))
     have HT6:=zd (HT5.out.trans ht6);have b6:=HBOX.out _ HT6.out;have HD6:=zd hd6;clear hm6 hg6 hs6 hd6 ht6 hrow0 hSG HB5 HM5;have hcb:t0.length+1≤9223372036854775807:=by have h5:=g1;simp only[List.length_cons] at h5;omega
     go_wp2
     go_loopw [60] (λi wr=>∃j:Nat,j≤(i0 :: t0).length∧i = .int .i64 j∧SAt (λk=>own k∨k=rx) wr st db mb tb rv rb { SG with taken:=qa SG.taken ((i0 :: t0).take j) false }∧zm (λk=>¬(own k∨k=rx)) W1.drew wr∧Hid (∀j x,(i0 :: t0)[j]? = some x→wr.cell? (a.add j)=some (.int .i64 (x:Nat)))) (λi _=>(i0 :: t0).length-(intOf i).toNat)
     case atStart=>exact⟨0,Nat.zero_le _,rfl,HD6.out,HT6.out,HROW6⟩
     case round=>
      obtain⟨j,hj,rfl,hD,hT,HR⟩:=hrel;obtain⟨e0,e1,e2,e3,e4,ey⟩:=hD.cells;simp only[qx] at e2
      by_cases hlt:j<(i0 :: t0).length
      ·obtain⟨x,hx⟩:∃x,(i0 :: t0)[j]? = some x:=⟨_,List.getElem?_eq_getElem hlt⟩
       have hxl:=HBL.out x (List.mem_of_getElem? hx);have ha:=HR.out j x hx;have hst:=hD.setTaken x false;have etk:qa SG.taken ((i0 :: t0).take (j+1)) false=(qa SG.taken ((i0 :: t0).take j) false).set x false:=by
        rw[List.take_add_one,hx,Option.toList_some,zgc]
       have HN:Hid (SAt (λk=>own k∨k=rx) (wr.setCell ⟨tb,x,none⟩ (.bool false)) st db mb tb rv rb { SG with taken:=qa SG.taken ((i0 :: t0).take (j+1)) false }∧zm (λk=>¬(own k∨k=rx)) W1.drew (wr.setCell ⟨tb,x,none⟩ (.bool false))∧Hid (∀j y,(i0 :: t0)[j]? = some y→(wr.setCell ⟨tb,x,none⟩ (.bool false)).cell? (a.add j)=some (.int .i64 (y:Nat)))):=(by
        rw[etk];refine⟨hst.1,hT.trans hst.2,λj y hy=>?_⟩
        have hb:(a.add j).block=a.block:=by unfold Addr.add;split <;> rfl
        rw[World.cell?_setCell_far _ _ _ _ (show tb≠(a.add j).block from λe=>hrb5.2.2 (by rw[←hb,←e]))]
        exact HR.out j y hy)
       have hfr:wr.frozen? ⟨tb,x,none⟩=false:=by simp[World.frozen?,hD.tak]
       have hcl:∃u,wr.cell? ⟨tb,x,none⟩=some u:=⟨_,(zf hD.tak x).trans (List.getElem?_toArray.trans (List.getElem?_eq_getElem (by simp[ul,qx];omega)))⟩
       obtain⟨u,hu⟩:=hcl;have hN1:(x:Int)<SG.taken.length:=by omega
       have hlt1:j<t0.length+1:=hlt;clear hD hT hst etk HR HBL hlt hx;generalize SG.taken.length=nt at *;go_wp2
       go_roundw
       case rel=>exact⟨j+1,by simp only[List.length_cons];omega,by go_num,HN.out.1,HN.out.2.1,HN.out.2.2⟩
       case measure=>simp[intOf];omega
      ·have hj2:j=(i0 :: t0).length:=by omega
       have HF:=zd (HQ2.out j wr hj2 hD hT);have hj3:j=t0.length+1:=hj2;clear hD hT HR hj2 hlt;go_wp2
       go_ret
       exact HF.out
    ·have HQ:Hid (∀w',SAt (λk=>own k∨k=rx) w' st db mb tb rv rb (SF.met e2)→zm (λk=>¬(own k∨k=rx)) W1.drew w'→Ending.returned (.int .i64 e2)=Ending.returned (.int .i64 (S.rem k).2)∧SAt own w' st db mb tb rv rb (S.rem k).1∧zm (λk=>¬own k) W w'):=(λw' h1 h2=>by
      rw[HREM.out,if_neg (by simp),if_pos (by rw[hE2];exact he2)]
      subst hSF;refine⟨by rw[hE2],?_,HTO.out w' h2⟩
      have:=h1.less (own':=own) (λk hk=>Or.inl hk)
      rw[←hE2] at this
      exact this)
     have HMET2:Hid (∀w',SAt (λk=>own k∨k=rx) w' st db mb tb rv rb SF→Calls Tryz.prog 96 #[.pointer (some ⟨st,0,none⟩),.int .i64 e2] w' λe w2=>e = .returned (.bool false)∧SAt (λk=>own k∨k=rx) w2 st db mb tb rv rb (SF.met e2)∧zm (λk=>¬(own k∨k=rx)) w' w2):=(λw' h'=>by
      have:=zje h' e2
      rwa [decide_eq_false he2] at this)
     have HBRK2:Hid ((SF.met e2).recs=S.recs∧(SF.met e2).broken=e2):=(show _∧_ from by unfold Sto.met;rw[if_neg he2];exact⟨HBRK.out.2,rfl⟩)
     clear HREM hd1 hSD hE2 hSF HS;generalize SF.met e2=SE at *;refine qH (S:=λw':World=>w'.cell? ⟨st,0,none⟩=some (.pointer (some ⟨db,0,none⟩))∧w'.cell? ⟨rx,1,none⟩=some (.slice (some a) (i0 :: t0).length cb)∧w'.cell? a=some (.int .i64 i0)) ⟨s1,s2,s3⟩ (λhHeld=>?_)
     refine qT 0 ?_;refine qT 1 ?_;refine qT 2 ?_;refine qT 3 ?_;refine qT 4 ?_;refine qT 5 ?_;refine qT 6 ?_;refine qT 7 ?_;refine qT 8 ?_;refine qO 9 λK hK=>?_
     go_simp
     go_at_call 24
     refine HW.out.mono ?_;rintro e w2 ⟨rfl,hA,hT,-⟩;have HA:=zd hA;have HT:=zd hT;have hk2:=HK.out _ _ hA HSD.out hT;clear hA hT;refine hK.out _ _ hk2 (λhHeld=>?_)
     clear hK K;refine qO 10 λK hK=>?_
     go_simp
     go_at_call 96
     refine(HMET.out _ HA.out).mono ?_;rintro e w3 ⟨rfl,hB,hT⟩;have HB:=zd hB;have HT3:=zd (HT.out.trans hT);have hk3:=HK.out _ _ hB HBRK.out.1 HT3.out;clear hB hT;refine hK.out _ _ hk3 (λhHeld=>?_)
     clear hK K;refine qT 11 ?_;refine qT 12 ?_;refine qT 13 ?_;refine qT 14 ?_;refine qT 15 ?_;refine qT 16 ?_;refine qT 17 ?_;refine qO 18 λK hK=>?_
     go_simp
     go_at_call 25
     refine(HSY.out _ HB.out).mono ?_;rintro e w4 ⟨rfl,hA,hT⟩;have HA4:=zd hA;have HT4:=zd (HT3.out.trans hT);have hk4:=HK.out _ _ hA HBRK.out.2 HT4.out;clear hA hT;refine hK.out _ _ hk4 (λhHeld=>?_)
     clear hK K;refine qO 19 λK hK=>?_
     go_simp
     go_at_call 96
     refine(HMET2.out _ HA4.out).mono ?_;rintro e w5 ⟨rfl,hB,hT⟩;have HB5:=zd hB;have HT5:=zd (HT4.out.trans hT);have hk5:=HK.out _ _ hB HBRK2.out.1 HT5.out;clear hB hT;refine hK.out _ _ hk5 (λhHeld=>?_)
     clear hK K;refine qT 20 ?_;refine qT 21 ?_;refine qD ?_;obtain⟨-,-,-,-,z4,-⟩:=HB5.out.cells;rw[HBRK2.out.2] at z4
     go_wp2_with fail
     go_ret
     exact HQ.out _ HB5.out HT5.out
   ·have HQ:Hid (∀w',SAt (λk=>own k∨k=rx) w' st db mb tb rv rb (S.did d1 e1)→zm (λk=>¬(own k∨k=rx)) W1.drew w'→Ending.returned (.int .i64 e1)=Ending.returned (.int .i64 (S.rem k).2)∧SAt own w' st db mb tb rv rb (S.rem k).1∧zm (λk=>¬own k) W w'):=(λw' h1 h2=>by
     rw[HREM.out,if_pos he1]
     exact⟨rfl,h1.less (λk hk=>Or.inl hk),HTO.out w' h2⟩)
    have HMET:Hid (∀w',SAt (λk=>own k∨k=rx) w' st db mb tb rv rb { S with d:=d1 }→Calls Tryz.prog 96 #[.pointer (some ⟨st,0,none⟩),.int .i64 e1] w' λe w2=>e = .returned (.bool false)∧SAt (λk=>own k∨k=rx) w2 st db mb tb rv rb (S.did d1 e1)∧zm (λk=>¬(own k∨k=rx)) w' w2):=(λw' h'=>by
     have:=zje h' e1
     rwa [decide_eq_false he1] at this)
    have HBRK:Hid ((S.did d1 e1).broken=e1∧(S.did d1 e1).recs=S.recs):=(show _∧_ from ⟨by rw[(Xj S d1 e1).2.2.2.2,if_neg he1],(Xj S d1 e1).1⟩)
    obtain⟨SD,hSD⟩:∃SD:Sto,SD = { S with d:=d1 }:=⟨_,rfl⟩
    have HSD:Hid (SD.recs=S.recs):=(show _=_ from by rw[hSD])
    rw[←hSD] at HMET HW;clear HREM hd1 hSD;generalize S.did d1 e1=SE at *;refine qH (S:=λw':World=>w'.cell? ⟨st,0,none⟩=some (.pointer (some ⟨db,0,none⟩))∧w'.cell? ⟨rx,1,none⟩=some (.slice (some a) (i0 :: t0).length cb)∧w'.cell? a=some (.int .i64 i0)) ⟨s1,s2,s3⟩ (λhHeld=>?_)
    refine qT 0 ?_;refine qT 1 ?_;refine qT 2 ?_;refine qT 3 ?_;refine qT 4 ?_;refine qT 5 ?_;refine qT 6 ?_;refine qT 7 ?_;refine qT 8 ?_;refine qO 9 λK hK=>?_
    go_simp
    go_at_call 24
    refine HW.out.mono ?_;rintro e w2 ⟨rfl,hA,hT,-⟩;have HA:=zd hA;have HT:=zd hT;have hk2:=HK.out _ _ hA HSD.out hT;clear hA hT;refine hK.out _ _ hk2 (λhHeld=>?_)
    clear hK K;refine qO 10 λK hK=>?_
    go_simp
    go_at_call 96
    refine(HMET.out _ HA.out).mono ?_;rintro e w3 ⟨rfl,hB,hT⟩;have HB:=zd hB;have HT3:=zd (HT.out.trans hT);have hk3:=HK.out _ _ hB HBRK.out.2 HT3.out;clear hB hT;refine hK.out _ _ hk3 (λhHeld=>?_)
    clear hK K;refine qT 11 ?_;refine qT 12 ?_;refine qU 13 ?_;refine qU 14 ?_;refine qU 15 ?_;refine qU 16 ?_;refine qU 17 ?_;refine qU 18 ?_;refine qU 19 ?_;refine qU 20 ?_;refine qT 21 ?_;refine qD ?_;obtain⟨-,-,-,-,z4,-⟩:=HB.out.cells;rw[HBRK.out.1] at z4
    go_wp2_with fail
    go_ret
    exact HQ.out _ HB.out HT3.out
 ·have HQ:Hid (Ending.returned (.int .i64 S.broken)=Ending.returned (.int .i64 (S.rem k).2)∧SAt own W st db mb tb rv rb (S.rem k).1∧zm (λk=>¬own k) W W):=(show _∧_∧_ from by
   have er:S.rem k=(S,S.broken):=by unfold Sto.rem;rw[if_pos hb]
   rw[er]
   exact⟨rfl,HS.out,zm.refl _ _⟩)
  clear h;generalize S.rem k=RES at *;generalize S.broken=br at *
  go_enter Tryz.func30,Tryz.ntmps30
  go_wp2_with (go_at_call 46;refine HBR.out.mono ?_;rintro e w1 ⟨rfl,h5⟩;obtain rfl:W=w1:=h5.symm)
  first|exact HQ.out|(go_ret;exact HQ.out)
end
open Go.Sf
section
variable {C : List Int → Nat} {f g : Nat → List Int} {N : Nat} {all : List (Int × List Int)} {blk : Int → List Nat} {next : Int}
theorem Jp (x:List Int):saidP C (scrub C x)=saidP C x:=by
 cases e:saidP C x with
 | none=>
  have:scrub C x=zr:=by unfold scrub;rw[e];rfl
  rw[this]
  exact qn (by simp[zr])
 | some p=>rw[Ug e,e]
theorem Qx (h:∀i,i<N→saidP C (g i)=saidP C (f i)):∀n,n≤N→scanN C g n=scanN C f n
 | 0,_=>rfl
 | n+1,hn=>by
  unfold scanN scanStep;rw[Qx h n (by omega),h n (by omega)]
theorem zaw {M:Int} (hM:1≤M) (h:∀i,i<N→∀p,saidP C (f i)=some p→p.k<M):∀n,n≤N→(scanN C f n).next≤M
 | 0,_=>hM
 | n+1,hn=>by
  have ih:=zaw hM h n (by omega)
  unfold scanN scanStep
  cases e:saidP C (f n) with
  | none=>exact ih
  | some p=>
   have:=h n (by omega) p e
   show max _ _≤M
   omega
theorem uw.opened (h:uw C f N all blk next):uw C f N all blk (scanN C f N).next∧(scanN C f N).next≤next:=
 ⟨h.to (qv f N).nx (qv f N).lt,zaw h.pos h.lt N (Nat.le_refl _)⟩
def vd (C:List Int→Nat) (k:Int) (b:List Int) (fr:List Nat):List (Nat × List Int):=(List.range fr.length).map λj=>(fr.getD j 0,xe C ⟨k,j,zk b.length,xy b j⟩)
theorem Qt (k:Int) (b:List Int) (fr:List Nat):(vd C k b fr).map (·.1)=fr:=by
 unfold vd;rw[List.map_map]
 apply List.ext_getElem?
 intro j
 rcases Nat.lt_or_ge j fr.length with h|h
 ·rw[List.getElem?_map,List.getElem?_range h,List.getElem?_eq_getElem h]
  simp[List.getD_eq_getElem?_getD,h]
 ·rw[List.getElem?_eq_none (by simpa using h),List.getElem?_eq_none h]
theorem zbp {k:Int} {i:Nat} (h:fr[j]? = some i):(vd C k b fr)[j]? = some (i,xe C ⟨k,j,zk b.length,xy b j⟩):=by
 unfold vd;have hj:=(List.getElem?_eq_some_iff.1 h).1;rw[List.getElem?_map,List.getElem?_range hj];simp[List.getD_eq_getElem?_getD,h]
theorem zmo (h:uw C f N all blk next) (hN:next≤4611686018427387904) {b:List Int} (hb:b.length≤131072) {fr:List Nat} (hfl:fr.length=zk b.length) (hfn:fr.Nodup) (hfN:∀i∈fr,i<N) (hff:∀q∈all,∀i∈fr,i ∉ blk q.1)
  (st:List (Int × List Int)) (hst:∀i,i<N→bk st i=f i) (fates:List Int) (m:Nat) (hg:∀i,i<N→g i=scrub C (bk (qp fates 0 (Zk ((vd C next b fr).take m)) st) i)) :
  uw C g N all blk (next+1)∨uw C g N (all ++ [(next,b)]) (λk=>if k=next then fr else blk k) (next+1):=by
 have hnd:(((vd C next b fr).take m).map (·.1)).Nodup:=by
  rw[List.map_take,Qt]
  exact List.Nodup.sublist (List.take_sublist _ _) hfn
 have hout:∀i,i<N→i ∉ fr→g i=f i:=λi hi hm=>by
  rw[hg i hi,Vp _ _ _ _ _ (λw hw e=>hm (by
   have:w.1∈(vd C next b fr).map (·.1):=List.mem_map.2 ⟨w,List.mem_of_mem_take hw,rfl⟩
   rw[Qt,e] at this
   exact this)),hst i hi]
  exact Vd (h.clean i hi)
 have hin:∀j i,fr[j]? = some i→g i=f i∨g i=zr∨g i=xe C ⟨next,j,zk b.length,xy b j⟩:=λj i hji=>by
  have hjl:j<zk b.length:=by rw[←hfl];exact(List.getElem?_eq_some_iff.1 hji).1
  have hi:=hfN i (List.mem_of_getElem? hji);rw[hg i hi]
  rcases Nat.lt_or_ge j m with hjm|hjm
  ·have hw:((vd C next b fr).take m)[j]? = some (i,xe C ⟨next,j,zk b.length,xy b j⟩):=by
    rw[List.getElem?_take_of_lt hjm];exact zbp hji
   have:=zdy fates 0 _ st hnd j _ hw;simp only at this;rw[this,hst i hi]
   exact zgb (h.clean i hi) (Vn h.pos hN hb hjl) (λp hp=>by have:=h.lt i hi p hp;show p.k≠next;omega) _
  ·left
   rw[Vp _ _ _ _ _ (λw hw e=>by
    obtain⟨t,ht⟩:=List.getElem?_of_mem hw;have htm:t<m:=by
     rcases Nat.lt_or_ge t m with h1|h1
     ·exact h1
     ·rw[List.getElem?_eq_none (by rw[List.length_take];omega)] at ht;cases ht
    rw[List.getElem?_take_of_lt htm] at ht;have h1:fr[t]? = some i:=by
     have:=congrArg (λl=>l[t]?) (Qt (C:=C) next b fr)
     simp only[List.getElem?_map,ht,Option.map_some] at this;rw[←this,e]
    obtain⟨g1,g2⟩:=List.getElem?_eq_some_iff.1 h1;obtain⟨g3,g4⟩:=List.getElem?_eq_some_iff.1 hji;have h2:=(List.getElem_inj (i:=t) (j:=j) (h₀:=g1) (h₁:=g3) hfn).1 (g2.trans g4.symm);omega),hst i hi]
   exact Vd (h.clean i hi)
 rcases h.put hN hb hfl hfn hfN hff hout hin with h1|⟨_,h1⟩
 ·exact Or.inl h1
 ·exact Or.inr h1
theorem zgx (h:uw C f N all blk next) (hN:next≤4611686018427387904) (hb:b.length≤131072) (hfl:fr.length=zk b.length) (hfn:fr.Nodup) (hfN:∀i∈fr,i<N) (hff:∀q∈all,∀i∈fr,i ∉ blk q.1)
 (hout:∀i,i<N→i ∉ fr→g i=f i) (hin:∀j i,fr[j]? = some i→g i=xe C ⟨next,j,zk b.length,xy b j⟩) :
  uw C g N (all ++ [(next,b)]) (λk=>if k=next then fr else blk k) (next+1):=by
 rcases h.put hN hb hfl hfn hfN hff hout (λj i hji=>Or.inr (Or.inr (hin j i hji))) with h1|⟨_,h1⟩
 ·-- then all its parts are there, and none of its records: it can not be
  exfalso
  obtain⟨i0,hi0⟩:∃i,fr[0]? = some i:=⟨_,List.getElem?_eq_getElem (by have:=qu b.length;omega)⟩
  have hs:∀j i,fr[j]? = some i→saidP C (g i)=some ⟨next,j,zk b.length,xy b j⟩:=λj i hji=>by
   rw[hin j i hji]
   exact Xo (Vn h.pos hN hb (by rw[←hfl];exact(List.getElem?_eq_some_iff.1 hji).1))
  obtain⟨j,hj,hj2⟩:=h1.part i0 (hfN i0 (List.mem_of_getElem? hi0)) _ (hs 0 i0 hi0) (λq hq e=>by have:=(h.key hq).2;simp only at e;omega) (zk b.length) (qu _)
  obtain⟨i,hi⟩:∃i,fr[j]? = some i:=⟨_,List.getElem?_eq_getElem (by omega)⟩
  exact hj2 i (hfN i (List.mem_of_getElem? hi)) _ (hs j i hi)
 ·exact h1
theorem zmp (h:uw C f N all blk next) {q0:Int × List Int} (hq0:q0∈all) {i0:Nat} (hi0:(blk q0.1)[0]? = some i0)
  (st:List (Int × List Int)) (hst:∀i,i<N→bk st i=f i) (fates:List Int) (hg:∀i,i<N→g i=scrub C (bk (qp fates 0 (Zk [(i0,zr)]) st) i)) :
  uw C g N all blk next∨uw C g N (all.filter λq=>decide (q.1≠q0.1)) blk next:=by
 have hi:=h.blt q0 hq0 i0 (List.mem_of_getElem? hi0);have hout:∀i,i<N→i≠i0→g i=f i:=λi hi hm=>by
  rw[hg i hi,Vp _ _ _ _ _ (λw hw e=>by simp at hw;subst hw;exact hm e.symm),hst i hi]
  exact Vd (h.clean i hi)
 have hat:=zdy fates 0 [(i0,zr)] st (by simp) 0 _ rfl
 simp only at hat;have e0:=hg i0 hi;rw[hat,hst i0 hi] at e0
 rcases zk0 (C:=C) (h.clean i0 hi) (um fates (0+0)) with e|e
 ·left
  refine h.same λi hi'=>?_
  by_cases hm:i=i0
  ·rw[hm,e0,e]
  ·exact hout i hi' hm
 ·right
  exact h.rem hq0 hi0 (by rw[e0,e]) hout
end
end Go.Proofs.YtbcbhlfjgobejaaGreat
