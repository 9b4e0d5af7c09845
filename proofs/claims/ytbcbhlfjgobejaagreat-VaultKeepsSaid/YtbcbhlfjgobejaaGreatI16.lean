/- A store in memory: Remove: the walk. Conditions: none, or as the theorems say. -/
import Derived.Test.YtbcbhlfjgobejaaGreatI1
import Derived.Test.YtbcbhlfjgobejaaGreatI15
set_option linter.unusedSimpArgs false
set_option linter.unusedVariables false
namespace Go.Proofs.YtbcbhlfjgobejaaGreat
set_option maxHeartbeats 200000000
open Go.RowKit Go.Sf
section
variable {own : Nat → Prop} {W W' : World} {st db mb tb : Nat} {rv : Int → Value × Value} {rb : Nat → Prop} {S : Sto}
theorem zd6 (a:Addr):a.add 0=a:=by simp[Addr.add]
theorem zf5 {l:List Nat} {j x:Nat} (h:l[j]? = some x):(qp l)[j]? = some (.int .i64 (x:Nat)):=by simp[qp,h]
theorem SAt.owns (h:SAt own W st db mb tb rv rb S) (hg:W.grownBy W' none) {own':Nat→Prop} (h1:∀k,own' k→own k∨W.heap.size≤k) (h2:∀k,own' k→k<W'.heap.size):SAt own' W' st db mb tb rv rb S:=by
 have hk:=h.kept hg;have hs:=hg.size;refine⟨hk.box,hk.recs,hk.rows,hk.tak,h.disk.more hg (fun k hk=>?_) (fun k hk=>?_),fun k hk2=>?_,h.rbs,h.ok⟩
 ·rcases hk with e|e
  ·rcases h1 k e with g|g
   ·exact Or.inl (Or.inl g)
   ·exact Or.inr g
  ·exact Or.inl (Or.inr e)
 ·rcases hk with e|e|e|e|e
  ·exact h2 k e
  ·have:=h.st_lt;omega
  ·have:=h.mb_lt;omega
  ·have:=h.tb_lt;omega
  ·have:=h.rb_lt e;omega
 ·rcases h1 k hk2 with g|g
  ·exact h.away k g
  ·have a1:=h.st_lt
   have a2:=h.mb_lt;have a3:=h.tb_lt
   exact⟨by omega,by omega,by omega,fun e=>by have:=h.rb_lt e;omega⟩
theorem SAt.less (h:SAt own W st db mb tb rv rb S) {own':Nat→Prop} (h1:∀k,own' k→own k):SAt own' W st db mb tb rv rb S:=
 h.owns (zm _) (fun k hk=>Or.inl (h1 k hk)) (fun k hk=>h.own_lt (h1 k hk))
theorem zld (d:Dk) (i:Int) (b:List Int):(d.written i b).n=d.n:=by
 unfold Dk.written
 split
 ·rfl
 ·split <;> rfl
theorem zm9 (d:Dk):d.synced.n=d.n:=by
 unfold Dk.synced
 split
 ·rfl
 ·split <;> rfl
theorem SAt.write (h:SAt own W st db mb tb rv rb S) (i:Int) {v:Value} {b:List Int} (hb:yc W v b) (hbl:BL b) (hf:S.d.late.length<1000000) :
  Calls Tryz.prog 24 #[.pointer (some ⟨db,0,none⟩),.int .i64 i,v] W fun e w'=>e = .returned (.int .i64 (S.d.writeV i b))∧SAt own w' st db mb tb rv rb { S with d:=S.d.written i b }∧zq (fun k=>¬own k) W w'∧zq (fun k=>¬zf1 own st mb tb rb k) W w':=
 (zls h.disk i hb hbl hf).mono fun e w' ⟨h1,h2,h3⟩=>⟨h1,h.turned h2 h3 (zld _ _ _),Ul h3,h3⟩
theorem SAt.sync (h:SAt own W st db mb tb rv rb S) :
  Calls Tryz.prog 25 #[.pointer (some ⟨db,0,none⟩)] W fun e w'=>e = .returned (.int .i64 S.d.syncV)∧SAt own w' st db mb tb rv rb { S with d:=S.d.synced }∧zq (fun k=>¬own k) W w'∧zq (fun k=>¬zf1 own st mb tb rb k) W w':=
 (dsync h.disk).mono fun e w' ⟨h1,h2,h3⟩=>⟨h1,h.turned h2 h3 (zm9 _),Ul h3,h3⟩
def Sto.did (S:Sto) (d:Dk) (e:Int):Sto:={ S with d:=d }.met e
theorem jd (S:Sto) (d:Dk) (e:Int):(S.did d e).recs=S.recs∧(S.did d e).taken=S.taken∧(S.did d e).next=S.next∧(S.did d e).d=d∧(S.did d e).broken=if e=0 then S.broken else e:=by
 unfold Sto.did Sto.met
 split <;> exact⟨rfl,rfl,rfl,rfl,by simp_all⟩
def Sto.rem (S:Sto) (k:Int):Sto × Int:=
 if S.broken≠0 then (S,S.broken)
 else match zw S.recs k with
  | none=>(S,5)
  | some r=>
   if S.d.writeV (r.2.headD 0:Nat) []≠0 then (S.did (S.d.written (r.2.headD 0:Nat) []) (S.d.writeV (r.2.headD 0:Nat) []),S.d.writeV (r.2.headD 0:Nat) [])
   else if (S.d.written (r.2.headD 0:Nat) []).syncV≠0 then (S.did (S.d.written (r.2.headD 0:Nat) []).synced (S.d.written (r.2.headD 0:Nat) []).syncV,(S.d.written (r.2.headD 0:Nat) []).syncV)
   else ({ S with d:=(S.d.written (r.2.headD 0:Nat) []).synced,recs:=qn S.recs k,taken:=qu S.taken r.2 false },0)
set_option maxRecDepth 100000 in
theorem sremove (h:SAt own W st db mb tb rv rb S) (k:Int) (hf:S.d.late.length<1000000):Calls Tryz.prog 30 #[.pointer (some ⟨st,0,none⟩),.int .i64 k] W fun e w'=>e = .returned (.int .i64 (S.rem k).2)∧SAt own w' st db mb tb rv rb (S.rem k).1∧zq (fun k=>¬own k) W w':=by
 have HBR:=zd (Qx h);have HS:=zd h;have HM:=zd h.recs
 by_cases hb:S.broken=0
 ·have eg:=zbv (fun j (_:List Int × List Nat)=>rv j) S.recs k
  obtain⟨c0,c1,c2,c3,c4,y⟩:=h.cells;rw[hb] at HBR;have hlt:=h.st_lt
  cases hg:zw S.recs k with
  | none=>
   rw[hg] at eg;have HE:Hid ((((zw (S.recs.map fun r=>(r.1,rv r.1)) k).map Xn).getD (Xn (.slice none 0 0,.slice none 0 0))) = .agg #[.slice none 0 0,.slice none 0 0]∧(zw (S.recs.map fun r=>(r.1,rv r.1)) k).isSome=false):=(show _∧_ from by rw[eg];exact⟨rfl,rfl⟩)
   have HQ:Hid (∀w',W.grownBy w' none→Ending.returned (.int .i64 5)=Ending.returned (.int .i64 (S.rem k).2)∧SAt own w' st db mb tb rv rb (S.rem k).1∧zq (fun k=>¬own k) W w'):=(fun w' hgr=>by
    have er:S.rem k=(S,5):=by unfold Sto.rem;rw[if_neg (by simp[hb]),hg]
    rw[er]
    exact⟨rfl,HS.out.kept hgr,hgr.os,hgr.tape,hgr.output,hgr.size,fun k hk _=>hgr.block k hk (by simp)⟩)
   clear h eg hg;generalize S.rem k=RES at *
   go_enter Tryz.func30,Tryz.ntmps30
   go_wp2_with (first
    | (go_at_call 46;refine HBR.out.mono ?_;rintro e w1 ⟨rfl,h5⟩;obtain rfl:W=w1:=h5.symm)
    | (refine qx _ rfl _ _ 129 true rfl zbq Tryz.underlying129 (Jk _) mb _ rfl HM.out k rfl ?_;rw[HE.out.1,HE.out.2,if_pos rfl]))
   go_ret
   exact HQ.out _ (zg _ _ _)
  | some r=>
   rw[hg] at eg;obtain⟨r1,r2⟩:=r;have hmem:=uo hg;have hrow:=(h.rows _ hmem).2;have hbk:=h.ok.blks _ hmem;simp only at hrow hbk;obtain⟨i0,t0,rfl⟩:∃i t,r2=i :: t:=by
    cases r2 with
    | nil=>exact absurd rfl hbk.1
    | cons i t=>exact⟨i,t,rfl⟩
   obtain⟨⟨va,vb⟩,hv⟩:∃p,rv k=p:=⟨_,rfl⟩;rw[hv] at hrow eg;simp only at hrow;obtain⟨pa,na,ca,rfl⟩:∃pa na ca,va = .slice pa na ca:=by
    have h2:=(h.rows _ hmem).1;simp only[hv] at h2;obtain⟨_,_,e2,_⟩:=h2.ex
    exact⟨_,_,_,e2⟩
   obtain⟨pb,cb,rfl,g1,g2,hc⟩:=hrow.ex;obtain⟨a,rfl,hra,hca⟩:∃a,pb=some a∧rb a.block∧∀j u,(qp (i0 :: t0))[j]? = some u→W.cell? (a.add j)=some u:=by
    rcases hc with h0|h0
    ·simp[qp] at h0
    ·exact h0
   generalize hnn:(qp (i0 :: t0)).length=nn at *;obtain rfl:nn=(i0 :: t0).length:=by rw[←hnn];simp[qp]
   have HE:Hid ((((zw (S.recs.map fun r=>(r.1,rv r.1)) k).map Xn).getD (Xn (.slice none 0 0,.slice none 0 0))) = .agg #[.slice pa na ca,.slice (some a) (i0 :: t0).length cb]∧(zw (S.recs.map fun r=>(r.1,rv r.1)) k).isSome=true):=(show _∧_ from by rw[eg];exact⟨rfl,rfl⟩)
   have HROW:Hid (∀(own2:Nat→Prop) (w':World) (S':Sto),SAt own2 w' st db mb tb rv rb S'→S'.recs=S.recs→∀j x,(i0 :: t0)[j]? = some x→w'.cell? (a.add j)=some (.int .i64 (x:Nat))):=(fun own2 w' S' h' hr j x hx=>by
    have h2:=(h'.rows (k,r1,i0 :: t0) (by rw[hr];exact hmem)).2
    simp only[hv] at h2;obtain⟨p',cap',e,_,_,hc⟩:=h2.ex
    injection e with q1 _ _
    rcases hc with h0|⟨a',h1,_,h3⟩
    ·simp[qp] at h0
    ·rw[h1] at q1
     cases q1
     exact h3 j _ (zf5 hx))
   have HREM:Hid (S.rem k=if S.d.writeV (i0:Nat) []≠0 then (S.did (S.d.written (i0:Nat) []) (S.d.writeV (i0:Nat) []),S.d.writeV (i0:Nat) [])
    else if (S.d.written (i0:Nat) []).syncV≠0 then (S.did (S.d.written (i0:Nat) []).synced (S.d.written (i0:Nat) []).syncV,(S.d.written (i0:Nat) []).syncV)
    else ({ S with d:=(S.d.written (i0:Nat) []).synced,recs:=qn S.recs k,taken:=qu S.taken (i0 :: t0) false },0)):=(show _=_ from by unfold Sto.rem;rw[if_neg (by simp[hb]),hg];rfl)
   have HBK:=zd hbk;clear hrow hc hca eg hg h hbk
   go_enter Tryz.func30,Tryz.ntmps30
   go_upto_region 7 with (first
    | (go_at_call 46;refine HBR.out.mono ?_;rintro e w1 ⟨rfl,h5⟩;obtain rfl:W=w1:=h5.symm)
    | (refine qx _ rfl _ _ 129 true rfl zbq Tryz.underlying129 (Jk _) mb _ rfl HM.out k rfl ?_;rw[HE.out.1,HE.out.2,if_pos rfl]))
   have hg1:=zg W (.cells #[.slice pa na ca,.slice (some a) (i0 :: t0).length cb] 158) none;have s1:=hg1.cell c0 (by simp)
   have s2:(W.alloc (.cells #[.slice pa na ca,.slice (some a) (i0 :: t0).length cb] 158)).cell? ⟨W.heap.size,1,none⟩=some (.slice (some a) (i0 :: t0).length cb):=(zh (heap_alloc_new _ _) 1).trans rfl;have HS1:Hid (SAt (fun k=>own k∨k=W.heap.size) (W.alloc (.cells #[.slice pa na ca,.slice (some a) (i0 :: t0).length cb] 158)).drew st db mb tb rv rb S):=(HS.out.owns (zl hg1) (fun k hk=>hk.imp id (fun e=>by omega)) (fun k hk=>by
    have:(W.alloc (.cells #[.slice pa na ca,.slice (some a) (i0 :: t0).length cb] 158)).drew.heap.size=W.heap.size+1:=by simp[World.drew]
    rcases hk with e|e
    ·have:=HS.out.own_lt e;omega
    ·omega))
   have hne:st≠W.heap.size∧a.block≠W.heap.size:=⟨by omega,by have:=HS.out.rb_lt hra;omega⟩
   have s3:(W.alloc (.cells #[.slice pa na ca,.slice (some a) (i0 :: t0).length cb] 158)).cell? a=some (.int .i64 i0):=zd6 a ▸ HROW.out _ _ _ HS1.out rfl 0 i0 rfl;have HT1:Hid (zq (fun k=>¬own k) W (W.alloc (.cells #[.slice pa na ca,.slice (some a) (i0 :: t0).length cb] 158)).drew):=(show zq _ _ _ from ⟨(zl hg1).os,(zl hg1).tape,(zl hg1).output,(zl hg1).size,fun k hk _=>(zl hg1).block k hk (by simp)⟩)
   clear hg1 HBR HM HE;generalize W.alloc (.cells #[.slice pa na ca,.slice (some a) (i0 :: t0).length cb] 158)=W1 at *;have HBOX:Hid (∀w',zq (fun k=>¬(own k∨k=W.heap.size)) W1.drew w'→w'.cell? ⟨W.heap.size,1,none⟩=some (.slice (some a) (i0 :: t0).length cb)):=(fun w' ht=>by
    have hl:W.heap.size<W1.drew.heap.size:=HS1.out.own_lt (Or.inr rfl)
    exact(World.cell?_of_block (ht.block W.heap.size hl (fun e=>e (Or.inr rfl)))).trans s2)
   have hraw0:yc W1.drew (.slice none 0 0) []:=⟨none,0,rfl,Or.inl rfl⟩;have HW:=zd (HS1.out.write (i0:Nat) hraw0 (fun b hb=>by cases hb) hf)
   generalize S.d.writeV (i0:Nat) []=e1 at *;generalize hd1:S.d.written (i0:Nat) []=d1 at *;have HTO:Hid (∀w',zq (fun k=>¬(own k∨k=W.heap.size)) W1.drew w'→zq (fun k=>¬own k) W w'):=(fun w' ht=>HT1.out.trans (ht.mono fun k hk e=>hk (Or.inl e)))
   generalize hrx:W.heap.size=rx at *;have HK:Hid (∀w' S',SAt (fun k=>own k∨k=rx) w' st db mb tb rv rb S'→S'.recs=S.recs→zq (fun k=>¬(own k∨k=rx)) W1.drew w'→w'.cell? ⟨st,0,none⟩=some (.pointer (some ⟨db,0,none⟩))∧w'.cell? ⟨rx,1,none⟩=some (.slice (some a) (i0 :: t0).length cb)∧w'.cell? a=some (.int .i64 i0)):=(fun w' S' h' hr ht=>⟨h'.cells.1,HBOX.out w' ht,zd6 a ▸ HROW.out _ _ _ h' hr 0 i0 rfl⟩)
   by_cases he1:e1=0
   ·subst he1
    obtain⟨e2,hE2⟩:∃e2,d1.syncV=e2:=⟨_,rfl⟩;obtain⟨SD,hSD⟩:∃SD:Sto,SD = { S with d:=d1 }:=⟨_,rfl⟩
    obtain⟨SF,hSF⟩:∃SF:Sto,SF = { S with d:=d1.synced }:=⟨_,rfl⟩
    have HBRK:Hid (SD.recs=S.recs∧SF.recs=S.recs):=(show _∧_ from by rw[hSD,hSF];exact⟨rfl,rfl⟩)
    have HSD:Hid (SD.recs=S.recs):=(show _=_ from HBRK.out.1)
    have HMET:Hid (∀w',SAt (fun k=>own k∨k=rx) w' st db mb tb rv rb SD→Calls Tryz.prog 96 #[.pointer (some ⟨st,0,none⟩),.int .i64 0] w' fun e w2=>e = .returned (.bool true)∧SAt (fun k=>own k∨k=rx) w2 st db mb tb rv rb SD∧zq (fun k=>¬(own k∨k=rx)) w' w2):=(fun w' h'=>by
     have:=zgq h' 0
     rwa [decide_eq_true rfl,show SD.met 0=SD from if_pos rfl] at this)
    have HSY:Hid (∀w',SAt (fun k=>own k∨k=rx) w' st db mb tb rv rb SD→Calls Tryz.prog 25 #[.pointer (some ⟨db,0,none⟩)] w' fun e w2=>e = .returned (.int .i64 e2)∧SAt (fun k=>own k∨k=rx) w2 st db mb tb rv rb SF∧zq (fun k=>¬(own k∨k=rx)) w' w2):=(fun w' h'=>h'.sync.mono fun e w2 ⟨a1,a2,a3,_⟩=>by
     subst hSD hSF
     exact⟨by rw[a1];simp only[hE2],a2,a3⟩)
    rw[←hSD] at HW
    by_cases he2:e2=0
    ·subst he2
     have HMET2:Hid (∀w',SAt (fun k=>own k∨k=rx) w' st db mb tb rv rb SF→Calls Tryz.prog 96 #[.pointer (some ⟨st,0,none⟩),.int .i64 0] w' fun e w2=>e = .returned (.bool true)∧SAt (fun k=>own k∨k=rx) w2 st db mb tb rv rb SF∧zq (fun k=>¬(own k∨k=rx)) w' w2):=(fun w' h'=>by
      have:=zgq h' 0
      rwa [decide_eq_true rfl,show SF.met 0=SF from if_pos rfl] at this)
     have HBRK2:Hid (SF.recs=S.recs):=(show _=_ from HBRK.out.2)
     have HQ:Hid (∀(n:Nat) (w':World),n=(i0 :: t0).length→SAt (fun k=>own k∨k=rx) w' st db mb tb rv rb { SF with recs:=qn SF.recs k,taken:=qu SF.taken ((i0 :: t0).take n) false }→zq (fun k=>¬(own k∨k=rx)) W1.drew w'→Ending.returned (.int .i64 0)=Ending.returned (.int .i64 (S.rem k).2)∧SAt own w' st db mb tb rv rb (S.rem k).1∧zq (fun k=>¬own k) W w'):=(fun n w' hn h1 h2=>by
      rw[hn,List.take_length] at h1;rw[HREM.out,if_neg (by simp),if_neg (by simp[hE2])]
      subst hSF
      exact⟨rfl,h1.less (fun k hk=>Or.inl hk),HTO.out w' h2⟩)
     have HS0:Hid (SF.taken=S.taken):=(show _=_ from by rw[hSF])
     clear HREM hd1 hSD hE2 hSF HS;refine wp_region_held_drew (S:=fun w':World=>w'.cell? ⟨st,0,none⟩=some (.pointer (some ⟨db,0,none⟩))∧w'.cell? ⟨rx,1,none⟩=some (.slice (some a) (i0 :: t0).length cb)∧w'.cell? a=some (.int .i64 i0)) (by kernel_rfl) ⟨s1,s2,s3⟩ (fun hHeld=>?_)
     refine tk (i:=0) (oi:=⟨some 26,Op.move (Operand.tmp 0),_,_,_,none⟩) (v:=?_) rfl hHeld ?_ ?_;rotate_left
     ·rintro w ⟨s1,s2,s3⟩;go_simp;try with_reducible rfl
     (try simp only[Act.put,za,zb,zc])
     refine tk (i:=1) (oi:=⟨some 27,Op.move (Operand.tmp 0),_,_,_,none⟩) (v:=?_) rfl hHeld ?_ ?_;rotate_left
     ·rintro w ⟨s1,s2,s3⟩;go_simp;try with_reducible rfl
     (try simp only[Act.put,za,zb,zc])
     refine tk (i:=2) (oi:=⟨some 28,Op.nilCheck (Operand.tmp 27),_,_,_,none⟩) (v:=?_) rfl hHeld ?_ ?_;rotate_left
     ·rintro w ⟨s1,s2,s3⟩;go_simp;try with_reducible rfl
     (try simp only[Act.put,za,zb,zc])
     refine tk (i:=3) (oi:=⟨some 29,Op.fieldAddr 132 (Operand.tmp 28) 0,_,_,_,none⟩) (v:=?_) rfl hHeld ?_ ?_;rotate_left
     ·rintro w ⟨s1,s2,s3⟩;go_simp;try with_reducible rfl
     (try simp only[Act.put,za,zb,zc])
     refine tk (i:=4) (oi:=⟨some 30,Op.load 28 (Operand.tmp 29),_,_,_,none⟩) (v:=?_) rfl hHeld ?_ ?_;rotate_left
     ·rintro w ⟨s1,s2,s3⟩;go_simp;try with_reducible rfl
     (try simp only[Act.put,za,zb,zc])
     refine tk (i:=5) (oi:=⟨some 31,Op.fieldAddr 158 (Operand.tmp 6) 1,_,_,_,none⟩) (v:=?_) rfl hHeld ?_ ?_;rotate_left
     ·rintro w ⟨s1,s2,s3⟩;go_simp;try with_reducible rfl
     (try simp only[Act.put,za,zb,zc])
     refine tk (i:=6) (oi:=⟨some 32,Op.load 44 (Operand.tmp 31),_,_,_,none⟩) (v:=?_) rfl hHeld ?_ ?_;rotate_left
     ·rintro w ⟨s1,s2,s3⟩;go_simp;try with_reducible rfl
     (try simp only[Act.put,za,zb,zc])
     refine tk (i:=7) (oi:=⟨some 33,Op.indexAddr 44 (Operand.tmp 32) (Operand.const (Value.int IntKind.i64 0)),_,_,_,none⟩) (v:=?_) rfl hHeld ?_ ?_;rotate_left
     ·rintro w ⟨s1,s2,s3⟩;go_simp;try with_reducible rfl
     (try simp only[Act.put,za,zb,zc])
     refine tk (i:=8) (oi:=⟨some 34,Op.load 3 (Operand.tmp 33),_,_,_,none⟩) (v:=?_) rfl hHeld ?_ ?_;rotate_left
     ·rintro w ⟨s1,s2,s3⟩;go_simp;try with_reducible rfl
     (try simp only[Act.put,za,zb,zc])
     refine wpAnyH_ready (rs:=[9]) (by kernel_rfl) (by simp) ?_
     refine AllReadyH.cons (o:=⟨some 35,Op.call { callee:=Callee.value (Operand.func 24),args:=#[Operand.tmp 30,Operand.tmp 34,Operand.const (Value.slice none 0 0)],argTypes:=#[28,3,32] },_,_,_,none⟩) rfl (fun K hK=>?_) AllReadyH.nil
     go_simp
     go_at_call 24
     refine HW.out.mono ?_;rintro e w2 ⟨rfl,hA,hT,-⟩;have HA:=zd hA;have HT:=zd hT;have hk2:=HK.out _ _ hA HSD.out hT;clear hA hT;refine hK.out _ _ hk2 (fun hHeld=>?_)
     clear hK K
     (try simp only[Act.put,za,zb,zc])
     refine wpAnyH_ready (rs:=[10]) (by kernel_rfl) (by simp) ?_
     refine AllReadyH.cons (o:=⟨some 36,Op.call { callee:=Callee.value (Operand.func 96),args:=#[Operand.tmp 26,Operand.tmp 35],argTypes:=#[24,25] },_,_,_,none⟩) rfl (fun K hK=>?_) AllReadyH.nil
     go_simp
     go_at_call 96
     refine(HMET.out _ HA.out).mono ?_;rintro e w3 ⟨rfl,hB,hT⟩;have HB:=zd hB;have HT3:=zd (HT.out.trans hT);have hk3:=HK.out _ _ hB HBRK.out.1 HT3.out;clear hB hT;refine hK.out _ _ hk3 (fun hHeld=>?_)
     clear hK K
     (try simp only[Act.put,za,zb,zc])
     refine tk (i:=11) (oi:=⟨some 37,Op.unOp UnOp.not 4 (Operand.tmp 36),_,_,_,none⟩) (v:=?_) rfl hHeld ?_ ?_;rotate_left
     ·rintro w -;go_simp;try with_reducible rfl
     (try simp only[Act.put,za,zb,zc])
     refine tk (i:=12) (oi:=⟨some 38,Op.move (Operand.tmp 37),_,_,_,none⟩) (v:=?_) rfl hHeld ?_ ?_;rotate_left
     ·rintro w -;go_simp;try with_reducible rfl
     (try simp only[Act.put,za,zb,zc])
     refine tk (i:=13) (oi:=⟨some 39,Op.move (Operand.tmp 0),_,_,_,some (12,false)⟩) (v:=?_) rfl hHeld ?_ ?_;rotate_left
     ·rintro w ⟨s1,s2,s3⟩;go_simp;try with_reducible rfl
     (try simp only[Act.put,za,zb,zc])
     refine tk (i:=14) (oi:=⟨some 40,Op.move (Operand.tmp 0),_,_,_,some (12,false)⟩) (v:=?_) rfl hHeld ?_ ?_;rotate_left
     ·rintro w ⟨s1,s2,s3⟩;go_simp;try with_reducible rfl
     (try simp only[Act.put,za,zb,zc])
     refine tk (i:=15) (oi:=⟨some 41,Op.nilCheck (Operand.tmp 40),_,_,_,some (12,false)⟩) (v:=?_) rfl hHeld ?_ ?_;rotate_left
     ·rintro w ⟨s1,s2,s3⟩;go_simp;try with_reducible rfl
     (try simp only[Act.put,za,zb,zc])
     refine tk (i:=16) (oi:=⟨some 42,Op.fieldAddr 132 (Operand.tmp 41) 0,_,_,_,some (12,false)⟩) (v:=?_) rfl hHeld ?_ ?_;rotate_left
     ·rintro w ⟨s1,s2,s3⟩;go_simp;try with_reducible rfl
     (try simp only[Act.put,za,zb,zc])
     refine tk (i:=17) (oi:=⟨some 43,Op.load 28 (Operand.tmp 42),_,_,_,some (12,false)⟩) (v:=?_) rfl hHeld ?_ ?_;rotate_left
     ·rintro w ⟨s1,s2,s3⟩;go_simp;try with_reducible rfl
     (try simp only[Act.put,za,zb,zc])
     refine wpAnyH_ready (rs:=[18]) (by kernel_rfl) (by simp) ?_
     refine AllReadyH.cons (o:=⟨some 44,Op.call { callee:=Callee.value (Operand.func 25),args:=#[Operand.tmp 43],argTypes:=#[28] },_,_,_,some (12,false)⟩) rfl (fun K hK=>?_) AllReadyH.nil
     go_simp
     go_at_call 25
     refine(HSY.out _ HB.out).mono ?_;rintro e w4 ⟨rfl,hA,hT⟩;have HA4:=zd hA;have HT4:=zd (HT3.out.trans hT);have hk4:=HK.out _ _ hA HBRK.out.2 HT4.out;clear hA hT;refine hK.out _ _ hk4 (fun hHeld=>?_)
     clear hK K
     (try simp only[Act.put,za,zb,zc])
     refine wpAnyH_ready (rs:=[19]) (by kernel_rfl) (by simp) ?_
     refine AllReadyH.cons (o:=⟨some 45,Op.call { callee:=Callee.value (Operand.func 96),args:=#[Operand.tmp 39,Operand.tmp 44],argTypes:=#[24,25] },_,_,_,some (12,false)⟩) rfl (fun K hK=>?_) AllReadyH.nil
     go_simp
     go_at_call 96
     refine(HMET2.out _ HA4.out).mono ?_;rintro e w5 ⟨rfl,hB,hT⟩;have HB5:=zd hB;have HT5:=zd (HT4.out.trans hT);have hk5:=HK.out _ _ hB HBRK2.out HT5.out;clear hB hT;refine hK.out _ _ hk5 (fun hHeld=>?_)
     clear hK K
     (try simp only[Act.put,za,zb,zc])
     refine tk (i:=20) (oi:=⟨some 46,Op.unOp UnOp.not 4 (Operand.tmp 45),_,_,_,some (12,false)⟩) (v:=?_) rfl hHeld ?_ ?_;rotate_left
     ·rintro w -;go_simp;try with_reducible rfl
     (try simp only[Act.put,za,zb,zc])
     refine tk (i:=21) (oi:=⟨some 47,Op.pick (Operand.tmp 38) (Operand.const (Value.bool true)) (Operand.tmp 46),_,_,_,none⟩) (v:=?_) rfl hHeld ?_ ?_;rotate_left
     ·rintro w -;go_simp;try with_reducible rfl
     (try simp only[Act.put,za,zb,zc])
     refine wpAnyH_done (by kernel_rfl) ?_ _
     obtain⟨z0,z1,z2,z3,z4,zy⟩:=HB5.out.cells;have HROW5:Hid (∀j x,(i0 :: t0)[j]? = some x→w5.cell? (a.add j)=some (.int .i64 (x:Nat))):=(fun j x hx=>HROW.out _ _ _ HB5.out HBRK2.out j x hx)
     have HM5:=zd HB5.out.recs;have hne5:=HB5.out.ne;have hrb5:=HB5.out.rbs _ hra;have htl5:SF.taken.length≤4096:=HB5.out.taken_le;have hrb6:(a.add 0).block=a.block:=by rw[zd6]
     obtain⟨SG,hSG⟩:∃SG:Sto,SG = { SF with recs:=qn SF.recs k }:=⟨_,rfl⟩
     have HQ2:Hid (∀(n:Nat) (w':World),n=(i0 :: t0).length→SAt (fun k=>own k∨k=rx) w' st db mb tb rv rb { SG with taken:=qu SG.taken ((i0 :: t0).take n) false }→zq (fun k=>¬(own k∨k=rx)) W1.drew w'→Ending.returned (.int .i64 0)=Ending.returned (.int .i64 (S.rem k).2)∧SAt own w' st db mb tb rv rb (S.rem k).1∧zq (fun k=>¬own k) W w'):=(fun n w' hn h1 h2=>HQ.out n w' hn (by rw[hSG] at h1;exact h1) h2)
     have HBL:Hid (∀i∈i0 :: t0,i<SG.taken.length):=(show ∀i∈i0 :: t0,_ from by
      have h1:=HB5.out.ok.tl;have h2:=HS0.out;intro i hi;rw[hSG]
      show i<SF.taken.length
      rw[h2]
      exact HBK.out.2 i hi)
     have hgt:SG.taken.length=SF.taken.length:=by rw[hSG]
     have hstl:st<w5.heap.size∧rx<w5.heap.size:=⟨HB5.out.st_lt,HB5.out.own_lt (Or.inr rfl)⟩;have hrow0:=HROW5.out;clear HQ HROW HK
     go_upto_region 10 with (refine Vw _ rfl _ _ 129 2 rfl zbq Tryz.underlying129 mb _ rfl HM5.out k rfl ?_;intro w6 hm6 hg6 hs6)
     obtain⟨hd6,ht6⟩:=HB5.out.del hm6 hg6;rw[←hSG] at hd6;have HROW6:Hid (∀j x,(i0 :: t0)[j]? = some x→w6.cell? (a.add j)=some (.int .i64 (x:Nat))):=(fun j x hx=>hg6.cell (HROW5.out j x hx) (by
      have hb:(a.add j).block=a.block:=by unfold Addr.add;split <;> rfl
      rw[hb];intro e
      injection e with e
      exact hrb5.2.1 e))
     have HT6:=zd (HT5.out.trans ht6);have b6:=HBOX.out _ HT6.out;have HD6:=zd hd6;clear hm6 hg6 hs6 hd6 ht6 hrow0 hSG HB5 HM5;have hcb:t0.length+1≤9223372036854775807:=by have h5:=g1;simp only[List.length_cons] at h5;omega
     go_wp2
     go_loopw [60] (fun i wr=>∃j:Nat,j≤(i0 :: t0).length∧i = .int .i64 j∧SAt (fun k=>own k∨k=rx) wr st db mb tb rv rb { SG with taken:=qu SG.taken ((i0 :: t0).take j) false }∧zq (fun k=>¬(own k∨k=rx)) W1.drew wr∧Hid (∀j x,(i0 :: t0)[j]? = some x→wr.cell? (a.add j)=some (.int .i64 (x:Nat)))) (fun i _=>(i0 :: t0).length-(intOf i).toNat)
     case atStart=>exact⟨0,Nat.zero_le _,rfl,HD6.out,HT6.out,HROW6⟩
     case round=>
      obtain⟨j,hj,rfl,hD,hT,HR⟩:=hrel;obtain⟨e0,e1,e2,e3,e4,ey⟩:=hD.cells;simp only[qv] at e2
      by_cases hlt:j<(i0 :: t0).length
      ·obtain⟨x,hx⟩:∃x,(i0 :: t0)[j]? = some x:=⟨_,List.getElem?_eq_getElem hlt⟩
       have hxl:=HBL.out x (List.mem_of_getElem? hx);have ha:=HR.out j x hx;have hst:=hD.setTaken x false;have etk:qu SG.taken ((i0 :: t0).take (j+1)) false=(qu SG.taken ((i0 :: t0).take j) false).set x false:=by
        rw[List.take_add_one,hx,Option.toList_some,zdy]
       have HN:Hid (SAt (fun k=>own k∨k=rx) (wr.setCell ⟨tb,x,none⟩ (.bool false)) st db mb tb rv rb { SG with taken:=qu SG.taken ((i0 :: t0).take (j+1)) false }∧zq (fun k=>¬(own k∨k=rx)) W1.drew (wr.setCell ⟨tb,x,none⟩ (.bool false))∧Hid (∀j y,(i0 :: t0)[j]? = some y→(wr.setCell ⟨tb,x,none⟩ (.bool false)).cell? (a.add j)=some (.int .i64 (y:Nat)))):=(by
        rw[etk];refine⟨hst.1,hT.trans hst.2,fun j y hy=>?_⟩
        have hb:(a.add j).block=a.block:=by unfold Addr.add;split <;> rfl
        rw[World.cell?_setCell_far _ _ _ _ (show tb≠(a.add j).block from fun e=>hrb5.2.2 (by rw[←hb,←e]))]
        exact HR.out j y hy)
       have hfr:wr.frozen? ⟨tb,x,none⟩=false:=by simp[World.frozen?,hD.tak]
       have hcl:∃u,wr.cell? ⟨tb,x,none⟩=some u:=⟨_,(zh hD.tak x).trans (List.getElem?_toArray.trans (List.getElem?_eq_getElem (by simp[um,qv];omega)))⟩
       obtain⟨u,hu⟩:=hcl;have hN1:(x:Int)<SG.taken.length:=by omega
       have hlt1:j<t0.length+1:=hlt;clear hD hT hst etk HR HBL hlt hx;generalize SG.taken.length=nt at *;go_wp2
       go_roundw
       case rel=>exact⟨j+1,by simp only[List.length_cons];omega,by go_num,HN.out.1,HN.out.2.1,HN.out.2.2⟩
       case measure=>simp[intOf];omega
      ·have hj2:j=(i0 :: t0).length:=by omega
       have HF:=zd (HQ2.out j wr hj2 hD hT);have hj3:j=t0.length+1:=hj2;clear hD hT HR hj2 hlt;go_wp2
       go_ret
       exact HF.out
    ·have HQ:Hid (∀w',SAt (fun k=>own k∨k=rx) w' st db mb tb rv rb (SF.met e2)→zq (fun k=>¬(own k∨k=rx)) W1.drew w'→Ending.returned (.int .i64 e2)=Ending.returned (.int .i64 (S.rem k).2)∧SAt own w' st db mb tb rv rb (S.rem k).1∧zq (fun k=>¬own k) W w'):=(fun w' h1 h2=>by
      rw[HREM.out,if_neg (by simp),if_pos (by rw[hE2];exact he2)]
      subst hSF;refine⟨by rw[hE2],?_,HTO.out w' h2⟩
      have:=h1.less (own':=own) (fun k hk=>Or.inl hk)
      rw[←hE2] at this
      exact this)
     have HMET2:Hid (∀w',SAt (fun k=>own k∨k=rx) w' st db mb tb rv rb SF→Calls Tryz.prog 96 #[.pointer (some ⟨st,0,none⟩),.int .i64 e2] w' fun e w2=>e = .returned (.bool false)∧SAt (fun k=>own k∨k=rx) w2 st db mb tb rv rb (SF.met e2)∧zq (fun k=>¬(own k∨k=rx)) w' w2):=(fun w' h'=>by
      have:=zgq h' e2
      rwa [decide_eq_false he2] at this)
     have HBRK2:Hid ((SF.met e2).recs=S.recs∧(SF.met e2).broken=e2):=(show _∧_ from by unfold Sto.met;rw[if_neg he2];exact⟨HBRK.out.2,rfl⟩)
     clear HREM hd1 hSD hE2 hSF HS;generalize SF.met e2=SE at *;refine wp_region_held_drew (S:=fun w':World=>w'.cell? ⟨st,0,none⟩=some (.pointer (some ⟨db,0,none⟩))∧w'.cell? ⟨rx,1,none⟩=some (.slice (some a) (i0 :: t0).length cb)∧w'.cell? a=some (.int .i64 i0)) (by kernel_rfl) ⟨s1,s2,s3⟩ (fun hHeld=>?_)
     refine tk (i:=0) (oi:=⟨some 26,Op.move (Operand.tmp 0),_,_,_,none⟩) (v:=?_) rfl hHeld ?_ ?_;rotate_left
     ·rintro w ⟨s1,s2,s3⟩;go_simp;try with_reducible rfl
     (try simp only[Act.put,za,zb,zc])
     refine tk (i:=1) (oi:=⟨some 27,Op.move (Operand.tmp 0),_,_,_,none⟩) (v:=?_) rfl hHeld ?_ ?_;rotate_left
     ·rintro w ⟨s1,s2,s3⟩;go_simp;try with_reducible rfl
     (try simp only[Act.put,za,zb,zc])
     refine tk (i:=2) (oi:=⟨some 28,Op.nilCheck (Operand.tmp 27),_,_,_,none⟩) (v:=?_) rfl hHeld ?_ ?_;rotate_left
     ·rintro w ⟨s1,s2,s3⟩;go_simp;try with_reducible rfl
     (try simp only[Act.put,za,zb,zc])
     refine tk (i:=3) (oi:=⟨some 29,Op.fieldAddr 132 (Operand.tmp 28) 0,_,_,_,none⟩) (v:=?_) rfl hHeld ?_ ?_;rotate_left
     ·rintro w ⟨s1,s2,s3⟩;go_simp;try with_reducible rfl
     (try simp only[Act.put,za,zb,zc])
     refine tk (i:=4) (oi:=⟨some 30,Op.load 28 (Operand.tmp 29),_,_,_,none⟩) (v:=?_) rfl hHeld ?_ ?_;rotate_left
     ·rintro w ⟨s1,s2,s3⟩;go_simp;try with_reducible rfl
     (try simp only[Act.put,za,zb,zc])
     refine tk (i:=5) (oi:=⟨some 31,Op.fieldAddr 158 (Operand.tmp 6) 1,_,_,_,none⟩) (v:=?_) rfl hHeld ?_ ?_;rotate_left
     ·rintro w ⟨s1,s2,s3⟩;go_simp;try with_reducible rfl
     (try simp only[Act.put,za,zb,zc])
     refine tk (i:=6) (oi:=⟨some 32,Op.load 44 (Operand.tmp 31),_,_,_,none⟩) (v:=?_) rfl hHeld ?_ ?_;rotate_left
     ·rintro w ⟨s1,s2,s3⟩;go_simp;try with_reducible rfl
     (try simp only[Act.put,za,zb,zc])
     refine tk (i:=7) (oi:=⟨some 33,Op.indexAddr 44 (Operand.tmp 32) (Operand.const (Value.int IntKind.i64 0)),_,_,_,none⟩) (v:=?_) rfl hHeld ?_ ?_;rotate_left
     ·rintro w ⟨s1,s2,s3⟩;go_simp;try with_reducible rfl
     (try simp only[Act.put,za,zb,zc])
     refine tk (i:=8) (oi:=⟨some 34,Op.load 3 (Operand.tmp 33),_,_,_,none⟩) (v:=?_) rfl hHeld ?_ ?_;rotate_left
     ·rintro w ⟨s1,s2,s3⟩;go_simp;try with_reducible rfl
     (try simp only[Act.put,za,zb,zc])
     refine wpAnyH_ready (rs:=[9]) (by kernel_rfl) (by simp) ?_
     refine AllReadyH.cons (o:=⟨some 35,Op.call { callee:=Callee.value (Operand.func 24),args:=#[Operand.tmp 30,Operand.tmp 34,Operand.const (Value.slice none 0 0)],argTypes:=#[28,3,32] },_,_,_,none⟩) rfl (fun K hK=>?_) AllReadyH.nil
     go_simp
     go_at_call 24
     refine HW.out.mono ?_;rintro e w2 ⟨rfl,hA,hT,-⟩;have HA:=zd hA;have HT:=zd hT;have hk2:=HK.out _ _ hA HSD.out hT;clear hA hT;refine hK.out _ _ hk2 (fun hHeld=>?_)
     clear hK K
     (try simp only[Act.put,za,zb,zc])
     refine wpAnyH_ready (rs:=[10]) (by kernel_rfl) (by simp) ?_
     refine AllReadyH.cons (o:=⟨some 36,Op.call { callee:=Callee.value (Operand.func 96),args:=#[Operand.tmp 26,Operand.tmp 35],argTypes:=#[24,25] },_,_,_,none⟩) rfl (fun K hK=>?_) AllReadyH.nil
     go_simp
     go_at_call 96
     refine(HMET.out _ HA.out).mono ?_;rintro e w3 ⟨rfl,hB,hT⟩;have HB:=zd hB;have HT3:=zd (HT.out.trans hT);have hk3:=HK.out _ _ hB HBRK.out.1 HT3.out;clear hB hT;refine hK.out _ _ hk3 (fun hHeld=>?_)
     clear hK K
     (try simp only[Act.put,za,zb,zc])
     refine tk (i:=11) (oi:=⟨some 37,Op.unOp UnOp.not 4 (Operand.tmp 36),_,_,_,none⟩) (v:=?_) rfl hHeld ?_ ?_;rotate_left
     ·rintro w -;go_simp;try with_reducible rfl
     (try simp only[Act.put,za,zb,zc])
     refine tk (i:=12) (oi:=⟨some 38,Op.move (Operand.tmp 37),_,_,_,none⟩) (v:=?_) rfl hHeld ?_ ?_;rotate_left
     ·rintro w -;go_simp;try with_reducible rfl
     (try simp only[Act.put,za,zb,zc])
     refine tk (i:=13) (oi:=⟨some 39,Op.move (Operand.tmp 0),_,_,_,some (12,false)⟩) (v:=?_) rfl hHeld ?_ ?_;rotate_left
     ·rintro w ⟨s1,s2,s3⟩;go_simp;try with_reducible rfl
     (try simp only[Act.put,za,zb,zc])
     refine tk (i:=14) (oi:=⟨some 40,Op.move (Operand.tmp 0),_,_,_,some (12,false)⟩) (v:=?_) rfl hHeld ?_ ?_;rotate_left
     ·rintro w ⟨s1,s2,s3⟩;go_simp;try with_reducible rfl
     (try simp only[Act.put,za,zb,zc])
     refine tk (i:=15) (oi:=⟨some 41,Op.nilCheck (Operand.tmp 40),_,_,_,some (12,false)⟩) (v:=?_) rfl hHeld ?_ ?_;rotate_left
     ·rintro w ⟨s1,s2,s3⟩;go_simp;try with_reducible rfl
     (try simp only[Act.put,za,zb,zc])
     refine tk (i:=16) (oi:=⟨some 42,Op.fieldAddr 132 (Operand.tmp 41) 0,_,_,_,some (12,false)⟩) (v:=?_) rfl hHeld ?_ ?_;rotate_left
     ·rintro w ⟨s1,s2,s3⟩;go_simp;try with_reducible rfl
     (try simp only[Act.put,za,zb,zc])
     refine tk (i:=17) (oi:=⟨some 43,Op.load 28 (Operand.tmp 42),_,_,_,some (12,false)⟩) (v:=?_) rfl hHeld ?_ ?_;rotate_left
     ·rintro w ⟨s1,s2,s3⟩;go_simp;try with_reducible rfl
     (try simp only[Act.put,za,zb,zc])
     refine wpAnyH_ready (rs:=[18]) (by kernel_rfl) (by simp) ?_
     refine AllReadyH.cons (o:=⟨some 44,Op.call { callee:=Callee.value (Operand.func 25),args:=#[Operand.tmp 43],argTypes:=#[28] },_,_,_,some (12,false)⟩) rfl (fun K hK=>?_) AllReadyH.nil
     go_simp
     go_at_call 25
     refine(HSY.out _ HB.out).mono ?_;rintro e w4 ⟨rfl,hA,hT⟩;have HA4:=zd hA;have HT4:=zd (HT3.out.trans hT);have hk4:=HK.out _ _ hA HBRK.out.2 HT4.out;clear hA hT;refine hK.out _ _ hk4 (fun hHeld=>?_)
     clear hK K
     (try simp only[Act.put,za,zb,zc])
     refine wpAnyH_ready (rs:=[19]) (by kernel_rfl) (by simp) ?_
     refine AllReadyH.cons (o:=⟨some 45,Op.call { callee:=Callee.value (Operand.func 96),args:=#[Operand.tmp 39,Operand.tmp 44],argTypes:=#[24,25] },_,_,_,some (12,false)⟩) rfl (fun K hK=>?_) AllReadyH.nil
     go_simp
     go_at_call 96
     refine(HMET2.out _ HA4.out).mono ?_;rintro e w5 ⟨rfl,hB,hT⟩;have HB5:=zd hB;have HT5:=zd (HT4.out.trans hT);have hk5:=HK.out _ _ hB HBRK2.out.1 HT5.out;clear hB hT;refine hK.out _ _ hk5 (fun hHeld=>?_)
     clear hK K
     (try simp only[Act.put,za,zb,zc])
     refine tk (i:=20) (oi:=⟨some 46,Op.unOp UnOp.not 4 (Operand.tmp 45),_,_,_,some (12,false)⟩) (v:=?_) rfl hHeld ?_ ?_;rotate_left
     ·rintro w -;go_simp;try with_reducible rfl
     (try simp only[Act.put,za,zb,zc])
     refine tk (i:=21) (oi:=⟨some 47,Op.pick (Operand.tmp 38) (Operand.const (Value.bool true)) (Operand.tmp 46),_,_,_,none⟩) (v:=?_) rfl hHeld ?_ ?_;rotate_left
     ·rintro w -;go_simp;try with_reducible rfl
     (try simp only[Act.put,za,zb,zc])
     refine wpAnyH_done (by kernel_rfl) ?_ _
     obtain⟨-,-,-,-,z4,-⟩:=HB5.out.cells;rw[HBRK2.out.2] at z4
     go_wp2_with fail
     go_ret
     exact HQ.out _ HB5.out HT5.out
   ·have HQ:Hid (∀w',SAt (fun k=>own k∨k=rx) w' st db mb tb rv rb (S.did d1 e1)→zq (fun k=>¬(own k∨k=rx)) W1.drew w'→Ending.returned (.int .i64 e1)=Ending.returned (.int .i64 (S.rem k).2)∧SAt own w' st db mb tb rv rb (S.rem k).1∧zq (fun k=>¬own k) W w'):=(fun w' h1 h2=>by
     rw[HREM.out,if_pos he1]
     exact⟨rfl,h1.less (fun k hk=>Or.inl hk),HTO.out w' h2⟩)
    have HMET:Hid (∀w',SAt (fun k=>own k∨k=rx) w' st db mb tb rv rb { S with d:=d1 }→Calls Tryz.prog 96 #[.pointer (some ⟨st,0,none⟩),.int .i64 e1] w' fun e w2=>e = .returned (.bool false)∧SAt (fun k=>own k∨k=rx) w2 st db mb tb rv rb (S.did d1 e1)∧zq (fun k=>¬(own k∨k=rx)) w' w2):=(fun w' h'=>by
     have:=zgq h' e1
     rwa [decide_eq_false he1] at this)
    have HBRK:Hid ((S.did d1 e1).broken=e1∧(S.did d1 e1).recs=S.recs):=(show _∧_ from ⟨by rw[(jd S d1 e1).2.2.2.2,if_neg he1],(jd S d1 e1).1⟩)
    obtain⟨SD,hSD⟩:∃SD:Sto,SD = { S with d:=d1 }:=⟨_,rfl⟩
    have HSD:Hid (SD.recs=S.recs):=(show _=_ from by rw[hSD])
    rw[←hSD] at HMET HW;clear HREM hd1 hSD;generalize S.did d1 e1=SE at *;refine wp_region_held_drew (S:=fun w':World=>w'.cell? ⟨st,0,none⟩=some (.pointer (some ⟨db,0,none⟩))∧w'.cell? ⟨rx,1,none⟩=some (.slice (some a) (i0 :: t0).length cb)∧w'.cell? a=some (.int .i64 i0)) (by kernel_rfl) ⟨s1,s2,s3⟩ (fun hHeld=>?_)
    refine tk (i:=0) (oi:=⟨some 26,Op.move (Operand.tmp 0),_,_,_,none⟩) (v:=?_) rfl hHeld ?_ ?_;rotate_left
    ·rintro w ⟨s1,s2,s3⟩;go_simp;try with_reducible rfl
    (try simp only[Act.put,za,zb,zc])
    refine tk (i:=1) (oi:=⟨some 27,Op.move (Operand.tmp 0),_,_,_,none⟩) (v:=?_) rfl hHeld ?_ ?_;rotate_left
    ·rintro w ⟨s1,s2,s3⟩;go_simp;try with_reducible rfl
    (try simp only[Act.put,za,zb,zc])
    refine tk (i:=2) (oi:=⟨some 28,Op.nilCheck (Operand.tmp 27),_,_,_,none⟩) (v:=?_) rfl hHeld ?_ ?_;rotate_left
    ·rintro w ⟨s1,s2,s3⟩;go_simp;try with_reducible rfl
    (try simp only[Act.put,za,zb,zc])
    refine tk (i:=3) (oi:=⟨some 29,Op.fieldAddr 132 (Operand.tmp 28) 0,_,_,_,none⟩) (v:=?_) rfl hHeld ?_ ?_;rotate_left
    ·rintro w ⟨s1,s2,s3⟩;go_simp;try with_reducible rfl
    (try simp only[Act.put,za,zb,zc])
    refine tk (i:=4) (oi:=⟨some 30,Op.load 28 (Operand.tmp 29),_,_,_,none⟩) (v:=?_) rfl hHeld ?_ ?_;rotate_left
    ·rintro w ⟨s1,s2,s3⟩;go_simp;try with_reducible rfl
    (try simp only[Act.put,za,zb,zc])
    refine tk (i:=5) (oi:=⟨some 31,Op.fieldAddr 158 (Operand.tmp 6) 1,_,_,_,none⟩) (v:=?_) rfl hHeld ?_ ?_;rotate_left
    ·rintro w ⟨s1,s2,s3⟩;go_simp;try with_reducible rfl
    (try simp only[Act.put,za,zb,zc])
    refine tk (i:=6) (oi:=⟨some 32,Op.load 44 (Operand.tmp 31),_,_,_,none⟩) (v:=?_) rfl hHeld ?_ ?_;rotate_left
    ·rintro w ⟨s1,s2,s3⟩;go_simp;try with_reducible rfl
    (try simp only[Act.put,za,zb,zc])
    refine tk (i:=7) (oi:=⟨some 33,Op.indexAddr 44 (Operand.tmp 32) (Operand.const (Value.int IntKind.i64 0)),_,_,_,none⟩) (v:=?_) rfl hHeld ?_ ?_;rotate_left
    ·rintro w ⟨s1,s2,s3⟩;go_simp;try with_reducible rfl
    (try simp only[Act.put,za,zb,zc])
    refine tk (i:=8) (oi:=⟨some 34,Op.load 3 (Operand.tmp 33),_,_,_,none⟩) (v:=?_) rfl hHeld ?_ ?_;rotate_left
    ·rintro w ⟨s1,s2,s3⟩;go_simp;try with_reducible rfl
    (try simp only[Act.put,za,zb,zc])
    refine wpAnyH_ready (rs:=[9]) (by kernel_rfl) (by simp) ?_
    refine AllReadyH.cons (o:=⟨some 35,Op.call { callee:=Callee.value (Operand.func 24),args:=#[Operand.tmp 30,Operand.tmp 34,Operand.const (Value.slice none 0 0)],argTypes:=#[28,3,32] },_,_,_,none⟩) rfl (fun K hK=>?_) AllReadyH.nil
    go_simp
    go_at_call 24
    refine HW.out.mono ?_;rintro e w2 ⟨rfl,hA,hT,-⟩;have HA:=zd hA;have HT:=zd hT;have hk2:=HK.out _ _ hA HSD.out hT;clear hA hT;refine hK.out _ _ hk2 (fun hHeld=>?_)
    clear hK K
    (try simp only[Act.put,za,zb,zc])
    refine wpAnyH_ready (rs:=[10]) (by kernel_rfl) (by simp) ?_
    refine AllReadyH.cons (o:=⟨some 36,Op.call { callee:=Callee.value (Operand.func 96),args:=#[Operand.tmp 26,Operand.tmp 35],argTypes:=#[24,25] },_,_,_,none⟩) rfl (fun K hK=>?_) AllReadyH.nil
    go_simp
    go_at_call 96
    refine(HMET.out _ HA.out).mono ?_;rintro e w3 ⟨rfl,hB,hT⟩;have HB:=zd hB;have HT3:=zd (HT.out.trans hT);have hk3:=HK.out _ _ hB HBRK.out.2 HT3.out;clear hB hT;refine hK.out _ _ hk3 (fun hHeld=>?_)
    clear hK K
    (try simp only[Act.put,za,zb,zc])
    refine tk (i:=11) (oi:=⟨some 37,Op.unOp UnOp.not 4 (Operand.tmp 36),_,_,_,none⟩) (v:=?_) rfl hHeld ?_ ?_;rotate_left
    ·rintro w -;go_simp;try with_reducible rfl
    (try simp only[Act.put,za,zb,zc])
    refine tk (i:=12) (oi:=⟨some 38,Op.move (Operand.tmp 37),_,_,_,none⟩) (v:=?_) rfl hHeld ?_ ?_;rotate_left
    ·rintro w -;go_simp;try with_reducible rfl
    (try simp only[Act.put,za,zb,zc])
    refine wpAnyH_take (i:=13) (oi:=⟨some 39,Op.move (Operand.tmp 0),_,_,_,some (12,false)⟩) (v:=undef) rfl (by kernel_rfl) (by kernel_rfl) (by kernel_rfl) (fun _ _ _ h=>h) (Or.inr ⟨by rfl,rfl⟩) hHeld ?_
    (try simp only[Act.put,za,zb,zc])
    refine wpAnyH_take (i:=14) (oi:=⟨some 40,Op.move (Operand.tmp 0),_,_,_,some (12,false)⟩) (v:=undef) rfl (by kernel_rfl) (by kernel_rfl) (by kernel_rfl) (fun _ _ _ h=>h) (Or.inr ⟨by rfl,rfl⟩) hHeld ?_
    (try simp only[Act.put,za,zb,zc])
    refine wpAnyH_take (i:=15) (oi:=⟨some 41,Op.nilCheck (Operand.tmp 40),_,_,_,some (12,false)⟩) (v:=undef) rfl (by kernel_rfl) (by kernel_rfl) (by kernel_rfl) (fun _ _ _ h=>h) (Or.inr ⟨by rfl,rfl⟩) hHeld ?_
    (try simp only[Act.put,za,zb,zc])
    refine wpAnyH_take (i:=16) (oi:=⟨some 42,Op.fieldAddr 132 (Operand.tmp 41) 0,_,_,_,some (12,false)⟩) (v:=undef) rfl (by kernel_rfl) (by kernel_rfl) (by kernel_rfl) (fun _ _ _ h=>h) (Or.inr ⟨by rfl,rfl⟩) hHeld ?_
    (try simp only[Act.put,za,zb,zc])
    refine wpAnyH_take (i:=17) (oi:=⟨some 43,Op.load 28 (Operand.tmp 42),_,_,_,some (12,false)⟩) (v:=undef) rfl (by kernel_rfl) (by kernel_rfl) (by kernel_rfl) (fun _ _ _ h=>h) (Or.inr ⟨by rfl,rfl⟩) hHeld ?_
    (try simp only[Act.put,za,zb,zc])
    refine wpAnyH_take (i:=18) (oi:=⟨some 44,Op.call { callee:=Callee.value (Operand.func 25),args:=#[Operand.tmp 43],argTypes:=#[28] },_,_,_,some (12,false)⟩) (v:=undef) rfl (by kernel_rfl) (by kernel_rfl) (by kernel_rfl) (fun _ _ _ h=>h) (Or.inr ⟨by rfl,rfl⟩) hHeld ?_
    (try simp only[Act.put,za,zb,zc])
    refine wpAnyH_take (i:=19) (oi:=⟨some 45,Op.call { callee:=Callee.value (Operand.func 96),args:=#[Operand.tmp 39,Operand.tmp 44],argTypes:=#[24,25] },_,_,_,some (12,false)⟩) (v:=undef) rfl (by kernel_rfl) (by kernel_rfl) (by kernel_rfl) (fun _ _ _ h=>h) (Or.inr ⟨by rfl,rfl⟩) hHeld ?_
    (try simp only[Act.put,za,zb,zc])
    refine wpAnyH_take (i:=20) (oi:=⟨some 46,Op.unOp UnOp.not 4 (Operand.tmp 45),_,_,_,some (12,false)⟩) (v:=undef) rfl (by kernel_rfl) (by kernel_rfl) (by kernel_rfl) (fun _ _ _ h=>h) (Or.inr ⟨by rfl,rfl⟩) hHeld ?_
    (try simp only[Act.put,za,zb,zc])
    refine tk (i:=21) (oi:=⟨some 47,Op.pick (Operand.tmp 38) (Operand.const (Value.bool true)) (Operand.tmp 46),_,_,_,none⟩) (v:=?_) rfl hHeld ?_ ?_;rotate_left
    ·rintro w -;go_simp;try with_reducible rfl
    (try simp only[Act.put,za,zb,zc])
    refine wpAnyH_done (by kernel_rfl) ?_ _
    obtain⟨-,-,-,-,z4,-⟩:=HB.out.cells;rw[HBRK.out.1] at z4
    go_wp2_with fail
    go_ret
    exact HQ.out _ HB.out HT3.out
 ·have HQ:Hid (Ending.returned (.int .i64 S.broken)=Ending.returned (.int .i64 (S.rem k).2)∧SAt own W st db mb tb rv rb (S.rem k).1∧zq (fun k=>¬own k) W W):=(show _∧_∧_ from by
   have er:S.rem k=(S,S.broken):=by unfold Sto.rem;rw[if_pos hb]
   rw[er]
   exact⟨rfl,HS.out,zq.refl _ _⟩)
  clear h;generalize S.rem k=RES at *;generalize S.broken=br at *
  go_enter Tryz.func30,Tryz.ntmps30
  go_wp2_with (go_at_call 46;refine HBR.out.mono ?_;rintro e w1 ⟨rfl,h5⟩;obtain rfl:W=w1:=h5.symm)
  first|exact HQ.out|(go_ret;exact HQ.out)
end
end Go.Proofs.YtbcbhlfjgobejaaGreat
