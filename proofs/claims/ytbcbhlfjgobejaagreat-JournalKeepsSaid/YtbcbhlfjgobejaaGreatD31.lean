/- The journal's clear: the walk. Conditions: a journal in memory, its store's numbers rising, few late writes. The journal's records: what one says: the walk. Conditions: a row of bytes in memory. -/
import Derived.Test.YtbcbhlfjgobejaaGreatD30
import Derived.Test.YtbcbhlfjgobejaaGreatD28
set_option linter.unusedSimpArgs false
set_option linter.unusedVariables false
namespace Go.Proofs.YtbcbhlfjgobejaaGreat
open Go.RowKit Go.Sf Go.Shelf
attribute [local go_sem] Oper.semAt_some
def clrS (S:Sto):List Int→Sto × Int
 | []=>(S,0)
 | k :: t=>if (S.rem k).2=0 then clrS (S.rem k).1 t else S.rem k
theorem clrS_ok {S:Sto} {k:Int} (h:(S.rem k).2=0) (t:List Int):clrS S (k :: t)=clrS (S.rem k).1 t:=by
 conv=>lhs;unfold clrS
 rw[if_pos h]
theorem clrS_no {S:Sto} {k:Int} (h:(S.rem k).2≠0) (t:List Int):clrS S (k :: t)=S.rem k:=by
 conv=>lhs;unfold clrS
 rw[if_neg h]
def Sto.keys (S:Sto):List Int:=S.recs.map (·.1)
def Jnl.clr (J:Jnl):Jnl × Int:=((({ J with S:=(clrS J.S (olds J.S.keys J.at_)).1 }:Jnl).met (clrS J.S (olds J.S.keys J.at_)).2),(clrS J.S (olds J.S.keys J.at_)).2)
theorem rem_late (S:Sto) (k:Int):(S.rem k).1.d.late.length≤S.d.late.length+1:=by
 unfold Sto.rem
 split
 ·simp
 ·cases mget S.recs k with
  | none=>simp
  | some r=>
   simp only
   have h4:=written_late S.d (r.2.headD 0:Nat) []
   have h6:∀d:Dk,d.synced.late.length≤d.late.length:=fun d=>by
    unfold Dk.synced
    split
    ·exact Nat.le_refl _
    ·split
     ·exact Nat.zero_le _
     ·exact Nat.le_refl _
   split
   ·rw[(did_recs _ _ _).2.2.2.1];exact h4
   ·split
    ·rw[(did_recs _ _ _).2.2.2.1];exact Nat.le_trans (h6 _) h4
    ·exact Nat.le_trans (h6 _) h4
section
variable {own own' : Nat → Prop} {W W' : World} {jb st db : Nat} {sv ev : Value} {es : List SlM} {jk : Nat → Prop} {J : Jnl}
theorem JAt.oth (h:JAt own W jb st db sv ev es jk J) (ht:Turn own W W') (h1:∀k,own' k→own k∨W.heap.size≤k) (h2:∀k,own' k→k<W'.heap.size):JAt own' W' jb st db sv ev es jk J:=
 have hb:∀k,jk k→W'.heap[k]? = W.heap[k]?:=fun k hk=>ht.block k (h.jlt hk) (fun e=>h.ap k e hk)
 ⟨(hb jb h.jjb).trans h.box,h.sr.othJ (ht.mono fun k hk=>Or.inl hk) (fun k hk=>hk.elim (fun e=>(h1 k e).imp Or.inl id) (fun e=>Or.inl (Or.inr e))) (fun k hk=>hk.elim (h2 k) (fun e=>Nat.lt_of_lt_of_le (h.jlt e) ht.size)),h.row.same fun g hg=>hb g (h.jev g hg),h.stt.turn fun k hk=>hb k hk.1,h.ent.turn fun k hk=>hb k hk.1,h.jjb,h.jev,fun k hk=>(h1 k hk).elim (h.ap k) (fun e hj=>by have:=h.jlt hj;omega)⟩
theorem JAt.less (h:JAt own W jb st db sv ev es jk J) (h1:∀k,own' k→own k):JAt own' W jb st db sv ev es jk J:=
 h.oth (Turn.refl _ _) (fun k hk=>Or.inl (h1 k hk)) (fun k hk=>h.olt (h1 k hk))
end
def oC (own:Nat→Prop) (B:Nat) (pr:Nat→Prop) (k:Nat):Prop:=own k∨(B≤k∧k<B+4)∨pr k
structure CI (own:Nat→Prop) (W0:World) (jb st db:Nat) (sv ev:Value) (es:List SlM) (jk:Nat→Prop) (J:Jnl) (pr:Nat→Prop) (i:Nat) (X:World):Prop where
 at_:∃Si,JAt (oC own W0.heap.size pr) X jb st db sv ev es jk { J with S:=Si }∧clrS J.S (olds J.S.keys J.at_)=clrS Si ((olds J.S.keys J.at_).drop i)∧Si.d.late.length≤J.S.d.late.length+i∧(i=0→Si=J.S)
 tn:Turn (fun k=>¬own k) W0 X
 b1:X.heap[W0.heap.size]? = some (.cells #[.pointer (some ⟨jb,0,none⟩)] 73 (0,0))
 b2:X.heap[W0.heap.size+1]? = some (.cells #[.int .i64 0] 25 (0,0))
 z:W0.heap.size+4≤X.heap.size
def CX (own:Nat→Prop) (W0:World) (jb st db:Nat) (sv ev:Value) (es:List SlM) (jk:Nat→Prop) (J:Jnl) (c:Code) (X:World):Prop:=
 c = .ret∧J.clr.2≠0∧JAt (oC own W0.heap.size fun _=>False) X jb st db sv ev es jk J.clr.1∧Turn (fun k=>¬own k) W0 X∧X.heap[W0.heap.size+1]? = some (.cells #[.int .i64 J.clr.2] 25 (0,0))
section
variable {own : Nat → Prop} {W0 X Y : World} {jb st db : Nat} {sv ev : Value} {es : List SlM} {jk pr : Nat → Prop} {J : Jnl} {i : Nat}
theorem CI.grown (h:CI own W0 jb st db sv ev es jk J pr i X) (hg:X.grownBy Y none):CI own W0 jb st db sv ev es jk J pr i Y:=by
 obtain⟨Si,a1,a2⟩:=h.at_
 exact⟨⟨Si,a1.grown hg,a2⟩,h.tn.trans ⟨hg.os,hg.tape,hg.output,hg.size,fun k hk _=>hg.block k hk (by simp)⟩,(hg.block _ (Array.getElem?_eq_some_iff.1 h.b1).1 (by simp)).trans h.b1,(hg.block _ (Array.getElem?_eq_some_iff.1 h.b2).1 (by simp)).trans h.b2,Nat.le_trans h.z hg.size⟩
theorem CI.more (h:CI own W0 jb st db sv ev es jk J pr i X) (hg:X.grownBy Y none):CI own W0 jb st db sv ev es jk J (fun k=>pr k∨(X.heap.size≤k∧k<Y.heap.size)) i Y:=by
 obtain⟨Si,a1,a2⟩:=h.at_
 have g:=h.grown hg
 exact⟨⟨Si,a1.oth ⟨hg.os,hg.tape,hg.output,hg.size,fun k hk _=>hg.block k hk (by simp)⟩ (fun k hk=>by
  rcases hk with e|e|e|e
  ·exact Or.inl (Or.inl e)
  ·exact Or.inl (Or.inr (Or.inl e))
  ·exact Or.inl (Or.inr (Or.inr e))
  ·exact Or.inr e.1) (fun k hk=>by
  have:=hg.size
  rcases hk with e|e|e|e
  ·exact Nat.lt_of_lt_of_le (a1.olt (Or.inl e)) hg.size
  ·have:=h.z;omega
  ·exact Nat.lt_of_lt_of_le (a1.olt (Or.inr (Or.inr e))) hg.size
  ·exact e.2),a2⟩,g.tn,g.b1,g.b2,g.z⟩
theorem CI.loop (h:CI own W0 jb st db sv ev es jk J pr i X) (ho:∀k,own k→k<W0.heap.size) (o:Obj):CI own W0 jb st db sv ev es jk J pr i (X.putObj (W0.heap.size+3) o):=by
 obtain⟨Si,a1,a2⟩:=h.at_
 have ht:=turn_put X (W0.heap.size+3) o
 refine⟨⟨Si,a1.oth (ht.mono fun k hk=>Or.inr (Or.inl (by omega))) (fun k hk=>Or.inl hk) (fun k hk=>by rw[World.putObj_size];exact a1.olt hk),a2⟩,h.tn.trans (ht.mono fun k hk e=>by have:=ho k e;omega),(World.putObj_heap_other (by omega)).trans h.b1,(World.putObj_heap_other (by omega)).trans h.b2,by rw[World.putObj_size];exact h.z⟩
theorem CX.loop {c:Code} (h:CX own W0 jb st db sv ev es jk J c X) (ho:∀k,own k→k<W0.heap.size) (o:Obj):CX own W0 jb st db sv ev es jk J c (X.putObj (W0.heap.size+3) o):=by
 obtain⟨h1,h2,h3,h4,h5⟩:=h
 have ht:=turn_put X (W0.heap.size+3) o
 exact⟨h1,h2,h3.oth (ht.mono fun k hk=>Or.inr (Or.inl (by omega))) (fun k hk=>Or.inl hk) (fun k hk=>by rw[World.putObj_size];exact h3.olt hk),h4.trans (ht.mono fun k hk e=>by have:=ho k e;omega),(World.putObj_heap_other (by omega)).trans h5⟩
theorem CI.need (h:CI own W0 jb st db sv ev es jk J pr i X) (hk:∀r∈J.S.recs,1≤r.1∧r.1≤4611686018427387904) (hs:J.S.keys.Pairwise (·< ·)) (hl:J.S.recs.length≤1000000):OldNeed jb st J.S.keys J.at_ i X:=by
 obtain⟨Si,a1,a2,a3,a4⟩:=h.at_
 obtain⟨c0,c1,_⟩:=a1.cells
 refine⟨c0,c1,fun e=>?_⟩
 have:=a4 e
 subst this
 obtain⟨mb,tb,rv,rb,hS⟩:=a1.sr
 refine(snumbers hS hk hl).mono ?_
 rintro e w' ⟨hg,v,rfl,hv⟩
 refine⟨hg,v,rfl,?_⟩
 have e1:(J.S.recs.map (·.1)).mergeSort (fun x y=>decide (x≤y))=J.S.keys:=List.mergeSort_of_pairwise (hs.imp fun {a b} h=>by simp;omega)
 have e:J.S.keys.length=J.S.recs.length:=by unfold Sto.keys;rw[List.length_map]
 rw[e]
 have hv2:w'.ownsRow X.heap.size 2 1 v J.S.recs.length (((J.S.recs.map (·.1)).mergeSort fun x y=>decide (x≤y)).map (Value.int .i64)):=hv
 rw[e1] at hv2
 exact hv2
theorem numP_shut (B:Nat) (pr:Nat→Prop) (I:(Nat→Prop)→Nat→World→Prop) (Ix:Code→World→Prop) (i:Nat) (W:World):¬LetsOut (numPostP B pr I Ix i W):=fun ⟨_,_,h⟩=>h
end
def ClrP (own:Nat→Prop) (W:World) (jb st db:Nat) (sv ev:Value) (es:List SlM) (jk:Nat→Prop) (J:Jnl) (e:Ending) (w':World):Prop:=e = .returned (.int .i64 J.clr.2)∧JAt own w' jb st db sv ev es jk J.clr.1∧Turn (fun k=>¬own k) W w'
section
variable {own : Nat → Prop} {W : World} {jb st db : Nat} {sv ev : Value} {es : List SlM} {jk : Nat → Prop} {J : Jnl}
theorem results_err {fn:Func} {p:Tmp} (h:fn.results = #[.cell p 25]) (tmps:Array Value) (w:World) (a:Nat) (v:Int) (hp:tmps.getD p undef = .pointer (some ⟨a,0,none⟩)) (h0:w.heap[a]? = some (.cells #[.int .i64 v] 25 (0,0))):(results fn tmps).run Tryz.prog w = .ok (.int .i64 v) w:=by
 have c0:w.cell? ⟨a,0,none⟩=some (.int .i64 v):=(cell_block h0 0).trans rfl
 have hp':tmps[p]?.getD undef = .pointer (some ⟨a,0,none⟩):=by simpa using hp
 simp[results,h,hp',asAddr,go_sem,c0]
theorem leave_clear {R:Ending→World→Prop} {tmps:Array Value} {X:World} {B a:Nat} {v:Int} (hK:X.heap[B]? = some (.deferred (some []))) (hp:tmps.getD 2 undef = .pointer (some ⟨a,0,none⟩))
  (h0:X.heap[a]? = some (.cells #[.int .i64 v] 25 (0,0))) (hR:∀o,R (.returned (.int .i64 v)) (X.putObj B o)) :
  bodyPostM Fence.wide 5 Tryz.prog Tryz.f123 R .ret { tmps:=tmps,defers:=[{ target:=.collected B,args:=#[] }] } X:=by
 have na:B≠a:=fun e=>by subst e;rw[hK] at h0;cases h0
 refine⟨by simp,.inl ⟨_,_,rfl,run_takeDeferred hK,?_⟩⟩
 exact⟨_,results_err rfl _ _ a v hp ((World.putObj_heap_other (by first|exact na|exact Ne.symm na)).trans h0),hR _⟩
set_option maxRecDepth 100000 in
set_option maxHeartbeats 8000000 in
theorem jclearIn (h:JAt own W jb st db sv ev es jk J) (hk:∀r∈J.S.recs,1≤r.1∧r.1≤4611686018427387904) (hs:J.S.keys.Pairwise (·< ·)) (hl:J.S.recs.length≤1000) (hf:J.S.d.late.length+1000<1000000) :
  CallsIn Fence.wide 5 Tryz.prog 123 #[.pointer (some ⟨jb,0,none⟩)] W (ClrP own W jb st db sv ev es jk J):=by
 have H:=Lib.hid h
 have HKS:=Lib.hid (And.intro hk (And.intro hs (And.intro hl hf)))
 have hkl:J.S.keys.length≤1000000:=by unfold Sto.keys;rw[List.length_map];omega
 have HO:Hid (∀k,own k→k<W.heap.size):=(fun k hk=>h.olt hk)
 clear h hk hs hl hf
 refine callsIn_of_wp_marks Tryz.func123 rfl trivial ?_ rfl
 refine wpIn_wide.2 ?_
 simp only[Tryz.ntmps123,List.size_toArray,List.length_cons,List.length_nil,Nat.reduceAdd,Nat.reduceSub,Array.replicate_succ,Array.replicate_zero,List.push_toArray,List.append_toArray,List.nil_append,List.cons_append]
 go_wp2
 obtain⟨w,hw⟩:∃w:World,w=(W.alloc (.cells #[.pointer (some ⟨jb,0,none⟩)] 73)).alloc (.cells #[.int .i64 0] 25):=⟨_,rfl⟩
 have hgw:W.grownBy w none:=by rw[hw];exact grown_alloc (grown_alloc (grown_refl _) _) _
 have hzw:w.heap.size=W.heap.size+2:=by rw[hw];simp
 have h1w:w.heap[W.heap.size]? = some (.cells #[.pointer (some ⟨jb,0,none⟩)] 73 (0,0)):=by rw[hw];exact(Below.heap_alloc _ _ _ (by simp)).trans (World.alloc_heap_new _ _)
 have h2w:w.heap[W.heap.size+1]? = some (.cells #[.int .i64 0] 25 (0,0)):=by
  rw[hw]
  have:=World.alloc_heap_new (W.alloc (.cells #[.pointer (some ⟨jb,0,none⟩)] 73)) (.cells #[.int .i64 0] 25)
  rwa [World.size_alloc] at this
 rw[←hw]
 have HW:=Lib.hid (And.intro hgw (And.intro hzw (And.intro h1w h2w)))
 clear hgw hzw h1w h2w hw
 have hB:w.heap.size+1=W.heap.size+3:=by have:=HW.out.2.1;omega
 have HBB:=Lib.hid hB
 refine(wpIn_wide (n:=5)).1 (rangeFunc_numP (F:=Fence.wide) (n:=5) rfl (by omega) (gf:=181) (la:=#[.pointer (some ⟨jb,0,none⟩)]) (lb:=#[]) rfl trivial (enters_of Tryz.func181 (by kernel_rfl) rfl) (f:=fun i=>#[.int .i64 (J.S.keys.getD i 0)]) (fun _=>rfl) (N:=(olds J.S.keys J.at_).length) (Need:=OldNeed jb st J.S.keys J.at_) (fun W1 _ _=>old_it jb st J.S.keys J.at_ hkl W1)
  (CI own W jb st db sv ev es jk J) (CX own W jb st db sv ev es jk J) (fun pr i X Y h hg=>h.grown hg) (fun pr i X Y h hg=>h.more hg) (fun pr i X r r' h _=>by rw[HBB.out];exact h.loop HO.out _) (fun c X r r' h _=>by rw[HBB.out];exact h.loop HO.out _) (fun pr i X h=>h.need HKS.out.1 HKS.out.2.1 (by have:=HKS.out.2.2.1;omega))
  (fun W1 hg hz=>?start)
  (fun i a' _=>a' = { tmps:=#[.pointer (some ⟨jb,0,none⟩),.pointer (some ⟨W.heap.size,0,none⟩),.pointer (some ⟨W.heap.size+1,0,none⟩),.int .i64 (J.S.keys.getD i 0),undef,.pointer (some ⟨jb,0,none⟩),.func (.func 181) #[.pointer (some ⟨jb,0,none⟩)] #[],.int .i64 (J.S.keys.getD i 0),undef,undef,undef,undef,undef,undef,undef,undef,undef,undef,undef],defers:=[] })
  (fun i a' X r r' h _=>h)
  ?assign ?body ?done ?stop)
 case start=>
  obtain⟨g1,g2,g3,g4⟩:=HW.out
  have hgg:=grown_trans g1 hg
  have ht:∀A:Nat→Prop,Turn A W W1:=fun A=>⟨hgg.os,hgg.tape,hgg.output,hgg.size,fun k hk _=>hgg.block k hk (by simp)⟩
  refine⟨⟨J.S,H.out.oth (ht own) (fun k hk=>?_) (fun k hk=>?_),by rw[List.drop_zero],by omega,fun _=>rfl⟩,ht _,(hg.block _ (Array.getElem?_eq_some_iff.1 g3).1 (by simp)).trans g3,(hg.block _ (Array.getElem?_eq_some_iff.1 g4).1 (by simp)).trans g4,by omega⟩
  ·rcases hk with e|e|e
   ·exact Or.inl e
   ·exact Or.inr e.1
   ·exact e.elim
  ·rcases hk with e|e|e
   ·have:=HO.out k e;omega
   ·omega
   ·exact e.elim
 case assign=>
  intro pr l i X K hz hI hi hK
  refine wpRound_lit (by kernel_rfl) (fun ⟨_,_,h⟩=>h) ?_
  go_wp2_with fail
  exact hK _ _ ⟨Nat.le_refl _,rfl,rfl⟩ hI rfl (fun _ _=>rfl)
 case body=>
  rintro pr l i a' X hz hI rfl hi
  obtain⟨hik,hka⟩:=olds_lt J.at_ J.S.keys i hi
  have hog:=olds_get J.at_ J.S.keys i hi hik
  have hdr:(olds J.S.keys J.at_).drop i=J.S.keys[i] :: (olds J.S.keys J.at_).drop (i+1):=by rw[List.drop_eq_getElem_cons hi,hog]
  have hgd:J.S.keys.getD i 0=J.S.keys[i]:=by rw[List.getD_eq_getElem?_getD,List.getElem?_eq_getElem hik];rfl
  rw[hgd]
  obtain⟨Si,a0,a2,a3,-⟩:=hI.at_
  rw[hdr] at a2
  have a1:=a0.grown (grown_drew (grown_refl X))
  have HRM:Hid (Calls Tryz.prog 30 #[.pointer (some ⟨st,0,none⟩),.int .i64 J.S.keys[i]] X.drew fun e w'=>e = .returned (.int .i64 (Si.rem J.S.keys[i]).2)∧JAt (oC own W.heap.size pr) w' jb st db sv ev es jk { J with S:=(Si.rem J.S.keys[i]).1 }∧Turn (fun k=>¬oC own W.heap.size pr k) X.drew w'):=(by
   obtain⟨mb,tb,rv,rb,hS⟩:=a1.sr
   refine(sremove hS J.S.keys[i] (by
    have h1:=HKS.out.2.2.2
    have h2:J.S.keys.length=J.S.recs.length:=by unfold Sto.keys;rw[List.length_map]
    have h3:=HKS.out.2.2.1
    show Si.d.late.length<_
    omega)).mono ?_
   rintro e w' ⟨rfl,h1,h2⟩
   exact⟨rfl,a1.store ⟨mb,tb,rv,rb,h1⟩ h2,h2.mono fun k hk e=>hk (Or.inl e)⟩)
  have hrl:=rem_late Si J.S.keys[i]
  have hre:Si.rem J.S.keys[i]=((Si.rem J.S.keys[i]).1,(Si.rem J.S.keys[i]).2):=rfl
  obtain⟨c0,c1,-,-,c4,cf⟩:=a1.cells
  have b1':X.drew.cell? ⟨W.heap.size,0,none⟩=some (.pointer (some ⟨jb,0,none⟩)):=(cell_block (w:=X.drew) hI.b1 0).trans rfl
  have HI:=Lib.hid hI
  have HA2:=Lib.hid a2
  have HA3:=Lib.hid a3
  have HLL:=Lib.hid (numP_shut w.heap.size pr (CI own W jb st db sv ev es jk J) (CX own W jb st db sv ev es jk J) i X)
  clear hgd hdr hog hka hI a0 a1 a2 a3
  generalize hkk:J.S.keys[i]=kk at *
  generalize (Si.rem kk).1=S2 at *
  generalize (Si.rem kk).2=rv at *
  have HRE:=Lib.hid hre
  have HRL:=Lib.hid hrl
  clear hre hrl
  have HFIN:Hid (∀w7 Jx,Turn (fun k=>¬oC own W.heap.size pr k) X.drew w7→JAt (oC own W.heap.size pr) w7 jb st db sv ev es jk Jx→KeepsTwo w.heap.size X w7∧(∀k,pr k→w7.heap[k]? = X.heap[k]?)∧w7.heap[W.heap.size]? = X.heap[W.heap.size]?∧w7.heap[W.heap.size+1]? = X.heap[W.heap.size+1]?):=(fun w7 Jx ht ha=>by
   have hb:∀k,oC own W.heap.size pr k→k<X.heap.size→w7.heap[k]? = X.heap[k]?:=fun k hk hl=>ht.block k hl (fun e=>e hk)
   have hz:=HI.out.z
   have hw:=HW.out.2.1
   obtain⟨Sx,q,-⟩:=HI.out.at_
   exact⟨⟨ht.size,hb _ (Or.inr (Or.inl (by omega))) (by omega),hb _ (Or.inr (Or.inl (by omega))) (by omega)⟩,fun k hk=>hb k (Or.inr (Or.inr hk)) (q.olt (Or.inr (Or.inr hk))),hb _ (Or.inr (Or.inl (by omega))) (by omega),hb _ (Or.inr (Or.inl (by omega))) (by omega)⟩)
  refine wpIn_block (wpIn_seq_k (fun K1 hK1=>?_))
  by_cases hez:rv=0
  ·subst hez
   refine wpRound_held_drew (S:=fun w':World=>w'.cell? ⟨W.heap.size,0,none⟩=some (.pointer (some ⟨jb,0,none⟩))∧w'.cell? ⟨jb,0,none⟩=some (.pointer (some ⟨st,0,none⟩))) (by kernel_rfl) (by kernel_rfl) (fun ⟨a,w,h⟩=>HLL.out ⟨a,w,h⟩) ⟨b1',c0⟩ (fun hHeld=>?_)
   refine wpAnyH_take (i := 0) (oi := { dst := some 8, op := Op.load 73 (Operand.tmp 1), type := 73, pos := "journal.go:81", after := #[], guard := none }) (v := ?_) rfl (by kernel_rfl) (by kernel_rfl) (by kernel_rfl) (fun _ _ _ h => h) (Or.inl ⟨by rfl, ?_⟩) hHeld ?_
   rotate_left
   ·intro w hSw;(try dsimp only at hSw);obtain⟨s1,s2⟩:=hSw;go_simp;try with_reducible rfl
   (try simp only[Act.put,List.setIfInBounds_toArray,List.set_cons_zero,List.set_cons_succ])
   refine wpAnyH_take (i := 1) (oi := { dst := some 9, op := Op.load 73 (Operand.tmp 1), type := 73, pos := "journal.go:81", after := #[], guard := none }) (v := ?_) rfl (by kernel_rfl) (by kernel_rfl) (by kernel_rfl) (fun _ _ _ h => h) (Or.inl ⟨by rfl, ?_⟩) hHeld ?_
   rotate_left
   ·intro w hSw;(try dsimp only at hSw);obtain⟨s1,s2⟩:=hSw;go_simp;try with_reducible rfl
   (try simp only[Act.put,List.setIfInBounds_toArray,List.set_cons_zero,List.set_cons_succ])
   refine wpAnyH_take (i := 2) (oi := { dst := some 10, op := Op.nilCheck (Operand.tmp 9), type := 0, pos := "journal.go:81", after := #[{ on := 1, ground := Ground.data }], guard := none }) (v := ?_) rfl (by kernel_rfl) (by kernel_rfl) (by kernel_rfl) (fun _ _ _ h => h) (Or.inl ⟨by rfl, ?_⟩) hHeld ?_
   rotate_left
   ·intro w hSw;(try dsimp only at hSw);obtain⟨s1,s2⟩:=hSw;go_simp;try with_reducible rfl
   (try simp only[Act.put,List.setIfInBounds_toArray,List.set_cons_zero,List.set_cons_succ])
   refine wpAnyH_take (i := 3) (oi := { dst := some 11, op := Op.fieldAddr 210 (Operand.tmp 10) 0, type := 0, pos := "journal.go:81", after := #[{ on := 2, ground := Ground.data }], guard := none }) (v := ?_) rfl (by kernel_rfl) (by kernel_rfl) (by kernel_rfl) (fun _ _ _ h => h) (Or.inl ⟨by rfl, ?_⟩) hHeld ?_
   rotate_left
   ·intro w hSw;(try dsimp only at hSw);obtain⟨s1,s2⟩:=hSw;go_simp;try with_reducible rfl
   (try simp only[Act.put,List.setIfInBounds_toArray,List.set_cons_zero,List.set_cons_succ])
   refine wpAnyH_take (i := 4) (oi := { dst := some 12, op := Op.load 24 (Operand.tmp 11), type := 24, pos := "journal.go:81", after := #[{ on := 3, ground := Ground.data }], guard := none }) (v := ?_) rfl (by kernel_rfl) (by kernel_rfl) (by kernel_rfl) (fun _ _ _ h => h) (Or.inl ⟨by rfl, ?_⟩) hHeld ?_
   rotate_left
   ·intro w hSw;(try dsimp only at hSw);obtain⟨s1,s2⟩:=hSw;go_simp;try with_reducible rfl
   (try simp only[Act.put,List.setIfInBounds_toArray,List.set_cons_zero,List.set_cons_succ])
   refine wpAnyH_take (i := 5) (oi := { dst := some 13, op := Op.move (Operand.tmp 3), type := 2, pos := "journal.go:81", after := #[], guard := none }) (v := ?_) rfl (by kernel_rfl) (by kernel_rfl) (by kernel_rfl) (fun _ _ _ h => h) (Or.inl ⟨by rfl, ?_⟩) hHeld ?_
   rotate_left
   ·intro w hSw;(try dsimp only at hSw);obtain⟨s1,s2⟩:=hSw;go_simp;try with_reducible rfl
   (try simp only[Act.put,List.setIfInBounds_toArray,List.set_cons_zero,List.set_cons_succ])
   refine wpAnyH_ready (rs:=[6]) (by kernel_rfl) (by simp) ?_
   refine AllReadyH.cons (o := { dst := some 14, op := Op.call { callee := Callee.value (Operand.func 30), args := #[Operand.tmp 12, Operand.tmp 13], argTypes := #[24, 2] }, type := 25, pos := "journal.go:81", after := #[{ on := 4, ground := Ground.data }, { on := 5, ground := Ground.data }], guard := none }) rfl (fun K hK => ?_) AllReadyH.nil
   go_simp
   go_at_call 30
   refine HRM.out.mono ?_
   rintro e w6 ⟨rfl,hj6,ht6⟩
   have HJ6:=Lib.hid hj6
   have HT6:=Lib.hid ht6
   have u0:=hj6.cells.1
   have u1:=(World.cell?_of_block (a:=⟨W.heap.size,0,none⟩) (HFIN.out w6 _ ht6 hj6).2.2.1).trans b1'
   clear hj6 ht6
   refine hK.out _ _ ⟨u1,u0⟩ (fun hHeld=>?_)
   clear hK K
   (try simp only[Act.put,List.setIfInBounds_toArray,List.set_cons_zero,List.set_cons_succ])
   refine wpAnyH_ready (rs:=[7]) (by kernel_rfl) (by simp) ?_
   refine AllReadyH.cons (o := { dst := some 15, op := Op.call { callee := Callee.value (Operand.func 182), args := #[Operand.tmp 8, Operand.tmp 14], argTypes := #[73, 25] }, type := 25, pos := "journal.go:81", after := #[{ on := 0, ground := Ground.data }, { on := 6, ground := Ground.data }, { on := 6, ground := Ground.chain }], guard := none }) rfl (fun K hK => ?_) AllReadyH.nil
   go_simp
   go_at_call 182
   refine(jmet HJ6.out 0).mono ?_
   rintro e w7 ⟨rfl,hj7,ht7⟩
   have HJ7:=Lib.hid hj7
   have HT7:=Lib.hid (HT6.out.trans ht7)
   have v0:=hj7.cells.1
   have v1:=(World.cell?_of_block (a:=⟨W.heap.size,0,none⟩) (HFIN.out w7 _ HT7.out hj7).2.2.1).trans b1'
   clear hj7 ht7
   refine hK.out _ _ ⟨v1,v0⟩ (fun hHeld=>?_)
   clear hK K
   (try simp only[Act.put,List.setIfInBounds_toArray,List.set_cons_zero,List.set_cons_succ])
   refine wpAnyH_take (i := 8) (oi := { dst := some 4, op := Op.assign (Operand.tmp 15), type := 25, pos := "journal.go:81", after := #[{ on := 7, ground := Ground.data }, { on := 7, ground := Ground.chain }, { on := 0, ground := Ground.phase }, { on := 1, ground := Ground.phase }, { on := 2, ground := Ground.phase }, { on := 3, ground := Ground.phase }, { on := 4, ground := Ground.phase }, { on := 5, ground := Ground.phase }, { on := 6, ground := Ground.phase }, { on := 7, ground := Ground.phase }], guard := none }) (v := ?_) rfl (by kernel_rfl) (by kernel_rfl) (by kernel_rfl) (fun _ _ _ h => h) (Or.inl ⟨by rfl, ?_⟩) hHeld ?_
   rotate_left
   ·intro w hSw;(try dsimp only at hSw);obtain -:=hSw;go_simp;try with_reducible rfl
   (try simp only[Act.put,List.setIfInBounds_toArray,List.set_cons_zero,List.set_cons_succ])
   refine wpAnyH_done (by kernel_rfl) ?_ _
   refine hK1 _ _ ?_
   refine wpIn_seq_k (fun K2 hK2=>wpRound_lit (by kernel_rfl) (fun ⟨a,w,h⟩=>HLL.out ⟨a,w,h⟩) ?_)
   go_wp2_with fail
   gi_wp2_with fail
   have hm:({ J with S:=S2 }:Jnl).met 0 = { J with S:=S2 }:=by unfold Jnl.met;rw[if_neg (by decide)]
   have hj:=HJ7.out
   rw[hm] at hj
   obtain⟨f1,f2,f3,f4⟩:=HFIN.out w7 _ HT7.out hj
   refine⟨f1,⟨⟨S2,hj,?_,?_,by omega⟩,HI.out.tn.trans ((Turn.trans (bs:=fun k=>¬oC own W.heap.size pr k) (a:=X) (b:=X.drew) ⟨rfl,rfl,rfl,Nat.le_refl _,fun _ _ _=>rfl⟩ HT7.out).mono fun k hk e=>hk (Or.inl e)),f3.trans HI.out.b1,f4.trans HI.out.b2,Nat.le_trans HI.out.z f1.1⟩,f2⟩
   ·rw[HA2.out,clrS_ok (by rw[HRE.out]),HRE.out]
   ·have:=HRL.out;have:=HA3.out;omega
  ·refine wpRound_held_drew (S:=fun w':World=>w'.cell? ⟨W.heap.size,0,none⟩=some (.pointer (some ⟨jb,0,none⟩))∧w'.cell? ⟨jb,0,none⟩=some (.pointer (some ⟨st,0,none⟩))) (by kernel_rfl) (by kernel_rfl) (fun ⟨a,w,h⟩=>HLL.out ⟨a,w,h⟩) ⟨b1',c0⟩ (fun hHeld=>?_)
   refine wpAnyH_take (i := 0) (oi := { dst := some 8, op := Op.load 73 (Operand.tmp 1), type := 73, pos := "journal.go:81", after := #[], guard := none }) (v := ?_) rfl (by kernel_rfl) (by kernel_rfl) (by kernel_rfl) (fun _ _ _ h => h) (Or.inl ⟨by rfl, ?_⟩) hHeld ?_
   rotate_left
   ·intro w hSw;(try dsimp only at hSw);obtain⟨s1,s2⟩:=hSw;go_simp;try with_reducible rfl
   (try simp only[Act.put,List.setIfInBounds_toArray,List.set_cons_zero,List.set_cons_succ])
   refine wpAnyH_take (i := 1) (oi := { dst := some 9, op := Op.load 73 (Operand.tmp 1), type := 73, pos := "journal.go:81", after := #[], guard := none }) (v := ?_) rfl (by kernel_rfl) (by kernel_rfl) (by kernel_rfl) (fun _ _ _ h => h) (Or.inl ⟨by rfl, ?_⟩) hHeld ?_
   rotate_left
   ·intro w hSw;(try dsimp only at hSw);obtain⟨s1,s2⟩:=hSw;go_simp;try with_reducible rfl
   (try simp only[Act.put,List.setIfInBounds_toArray,List.set_cons_zero,List.set_cons_succ])
   refine wpAnyH_take (i := 2) (oi := { dst := some 10, op := Op.nilCheck (Operand.tmp 9), type := 0, pos := "journal.go:81", after := #[{ on := 1, ground := Ground.data }], guard := none }) (v := ?_) rfl (by kernel_rfl) (by kernel_rfl) (by kernel_rfl) (fun _ _ _ h => h) (Or.inl ⟨by rfl, ?_⟩) hHeld ?_
   rotate_left
   ·intro w hSw;(try dsimp only at hSw);obtain⟨s1,s2⟩:=hSw;go_simp;try with_reducible rfl
   (try simp only[Act.put,List.setIfInBounds_toArray,List.set_cons_zero,List.set_cons_succ])
   refine wpAnyH_take (i := 3) (oi := { dst := some 11, op := Op.fieldAddr 210 (Operand.tmp 10) 0, type := 0, pos := "journal.go:81", after := #[{ on := 2, ground := Ground.data }], guard := none }) (v := ?_) rfl (by kernel_rfl) (by kernel_rfl) (by kernel_rfl) (fun _ _ _ h => h) (Or.inl ⟨by rfl, ?_⟩) hHeld ?_
   rotate_left
   ·intro w hSw;(try dsimp only at hSw);obtain⟨s1,s2⟩:=hSw;go_simp;try with_reducible rfl
   (try simp only[Act.put,List.setIfInBounds_toArray,List.set_cons_zero,List.set_cons_succ])
   refine wpAnyH_take (i := 4) (oi := { dst := some 12, op := Op.load 24 (Operand.tmp 11), type := 24, pos := "journal.go:81", after := #[{ on := 3, ground := Ground.data }], guard := none }) (v := ?_) rfl (by kernel_rfl) (by kernel_rfl) (by kernel_rfl) (fun _ _ _ h => h) (Or.inl ⟨by rfl, ?_⟩) hHeld ?_
   rotate_left
   ·intro w hSw;(try dsimp only at hSw);obtain⟨s1,s2⟩:=hSw;go_simp;try with_reducible rfl
   (try simp only[Act.put,List.setIfInBounds_toArray,List.set_cons_zero,List.set_cons_succ])
   refine wpAnyH_take (i := 5) (oi := { dst := some 13, op := Op.move (Operand.tmp 3), type := 2, pos := "journal.go:81", after := #[], guard := none }) (v := ?_) rfl (by kernel_rfl) (by kernel_rfl) (by kernel_rfl) (fun _ _ _ h => h) (Or.inl ⟨by rfl, ?_⟩) hHeld ?_
   rotate_left
   ·intro w hSw;(try dsimp only at hSw);obtain⟨s1,s2⟩:=hSw;go_simp;try with_reducible rfl
   (try simp only[Act.put,List.setIfInBounds_toArray,List.set_cons_zero,List.set_cons_succ])
   refine wpAnyH_ready (rs:=[6]) (by kernel_rfl) (by simp) ?_
   refine AllReadyH.cons (o := { dst := some 14, op := Op.call { callee := Callee.value (Operand.func 30), args := #[Operand.tmp 12, Operand.tmp 13], argTypes := #[24, 2] }, type := 25, pos := "journal.go:81", after := #[{ on := 4, ground := Ground.data }, { on := 5, ground := Ground.data }], guard := none }) rfl (fun K hK => ?_) AllReadyH.nil
   go_simp
   go_at_call 30
   refine HRM.out.mono ?_
   rintro e w6 ⟨rfl,hj6,ht6⟩
   have HJ6:=Lib.hid hj6
   have HT6:=Lib.hid ht6
   have u0:=hj6.cells.1
   have u1:=(World.cell?_of_block (a:=⟨W.heap.size,0,none⟩) (HFIN.out w6 _ ht6 hj6).2.2.1).trans b1'
   clear hj6 ht6
   refine hK.out _ _ ⟨u1,u0⟩ (fun hHeld=>?_)
   clear hK K
   (try simp only[Act.put,List.setIfInBounds_toArray,List.set_cons_zero,List.set_cons_succ])
   refine wpAnyH_ready (rs:=[7]) (by kernel_rfl) (by simp) ?_
   refine AllReadyH.cons (o := { dst := some 15, op := Op.call { callee := Callee.value (Operand.func 182), args := #[Operand.tmp 8, Operand.tmp 14], argTypes := #[73, 25] }, type := 25, pos := "journal.go:81", after := #[{ on := 0, ground := Ground.data }, { on := 6, ground := Ground.data }, { on := 6, ground := Ground.chain }], guard := none }) rfl (fun K hK => ?_) AllReadyH.nil
   go_simp
   go_at_call 182
   refine(jmet HJ6.out rv).mono ?_
   rintro e w7 ⟨rfl,hj7,ht7⟩
   have HJ7:=Lib.hid hj7
   have HT7:=Lib.hid (HT6.out.trans ht7)
   have v0:=hj7.cells.1
   have v1:=(World.cell?_of_block (a:=⟨W.heap.size,0,none⟩) (HFIN.out w7 _ HT7.out hj7).2.2.1).trans b1'
   clear hj7 ht7
   refine hK.out _ _ ⟨v1,v0⟩ (fun hHeld=>?_)
   clear hK K
   (try simp only[Act.put,List.setIfInBounds_toArray,List.set_cons_zero,List.set_cons_succ])
   refine wpAnyH_take (i := 8) (oi := { dst := some 4, op := Op.assign (Operand.tmp 15), type := 25, pos := "journal.go:81", after := #[{ on := 7, ground := Ground.data }, { on := 7, ground := Ground.chain }, { on := 0, ground := Ground.phase }, { on := 1, ground := Ground.phase }, { on := 2, ground := Ground.phase }, { on := 3, ground := Ground.phase }, { on := 4, ground := Ground.phase }, { on := 5, ground := Ground.phase }, { on := 6, ground := Ground.phase }, { on := 7, ground := Ground.phase }], guard := none }) (v := ?_) rfl (by kernel_rfl) (by kernel_rfl) (by kernel_rfl) (fun _ _ _ h => h) (Or.inl ⟨by rfl, ?_⟩) hHeld ?_
   rotate_left
   ·intro w hSw;(try dsimp only at hSw);obtain -:=hSw;go_simp;try with_reducible rfl
   (try simp only[Act.put,List.setIfInBounds_toArray,List.set_cons_zero,List.set_cons_succ])
   refine wpAnyH_done (by kernel_rfl) ?_ _
   refine hK1 _ _ ?_
   refine wpIn_seq_k (fun K2 hK2=>wpRound_lit (by kernel_rfl) (fun ⟨a,w,h⟩=>HLL.out ⟨a,w,h⟩) ?_)
   obtain⟨f1,f2,f3,f4⟩:=HFIN.out w7 _ HT7.out HJ7.out
   have f5:=f4.trans HI.out.b2
   have g0:w7.cell? ⟨W.heap.size+1,0,none⟩=some (.int .i64 0):=(cell_block f5 0).trans rfl
   have g1:w7.frozen? ⟨W.heap.size+1,0,none⟩=false:=by simp[World.frozen?,f5]
   have F:=Lib.hid (And.intro f1 (And.intro f2 f5))
   clear f1 f2 f3 f4 f5
   go_wp2_with fail
   have hb:(rv != 0)=true:=by simp[hez]
   gi_wp2_with fail
   obtain⟨f1,f2,f5⟩:=F.out
   have hc:J.clr=(({ J with S:=S2 }:Jnl).met rv,rv):=by
    have e1:clrS J.S (olds J.S.keys J.at_)=(S2,rv):=by rw[HA2.out,clrS_no (by rw[HRE.out];exact hez),HRE.out]
    unfold Jnl.clr
    rw[e1]
   have hs:=grown_set w7 (W.heap.size+1) 0 (.int .i64 rv)
   have ht:=turn_set w7 (W.heap.size+1) 0 (.int .i64 rv)
   have hbn:∀k,k<w7.heap.size→k≠W.heap.size+1→(w7.setCell ⟨W.heap.size+1,0,none⟩ (.int .i64 rv)).heap[k]? = w7.heap[k]?:=fun k hk e=>ht.block k hk e
   have hw:=HW.out.2.1
   have hz:=HI.out.z
   refine⟨⟨?_,?_,?_⟩,rfl,by rw[hc];exact hez,?_,?_,?_⟩
   ·exact Nat.le_trans f1.1 ht.size
   ·exact(hbn _ (by have:=f1.1;omega) (by omega)).trans f1.2.1
   ·exact(hbn _ (by have:=f1.1;omega) (by omega)).trans f1.2.2
   ·rw[hc]
    refine HJ7.out.oth (ht.mono fun k hk=>Or.inr (Or.inl (by omega))) (fun k hk=>?_) (fun k hk=>?_)
    ·rcases hk with e|e|e
     ·exact Or.inl (Or.inl e)
     ·exact Or.inl (Or.inr (Or.inl e))
     ·exact e.elim
    ·refine Nat.lt_of_lt_of_le ?_ ht.size
     rcases hk with e|e|e
     ·exact HJ7.out.olt (Or.inl e)
     ·have:=f1.1;omega
     ·exact e.elim
   ·exact(HI.out.tn.trans ((Turn.trans (bs:=fun k=>¬oC own W.heap.size pr k) (a:=X) (b:=X.drew) ⟨rfl,rfl,rfl,Nat.le_refl _,fun _ _ _=>rfl⟩ HT7.out).mono fun k hk e=>hk (Or.inl e))).trans (ht.mono fun k hk e=>by have:=HO.out k e;omega)
   ·rw[hc]
    simp only[World.setCell,Array.getElem?_modify,f5,if_true,Option.map_some]
    rfl
 case done=>
  intro pr X hI hK
  rename_i K1 hK1
  simp only[Exit.inBlock,Exit.then]
  refine hK1 _ _ ?_
  have q0:X.cell? ⟨W.heap.size+1,0,none⟩=some (.int .i64 0):=(cell_block hI.b2 0).trans rfl
  have q1:X.frozen? ⟨W.heap.size+1,0,none⟩=false:=by simp[World.frozen?,hI.b2]
  have q2:=cell_lt q0
  have HI:=Lib.hid hI
  have HKD:=Lib.hid hK
  clear hI hK
  go_wp2
  have hs:=grown_set X (W.heap.size+1) 0 (.int .i64 0)
  have hne:W.heap.size+1≠w.heap.size:=by have:=HW.out.2.1;omega
  refine leave_clear (B:=w.heap.size) (a:=W.heap.size+1) (v:=0) ((hs.block _ (Array.getElem?_eq_some_iff.1 HKD.out).1 (fun e=>hne (by injection e with e;exact e.symm))).trans HKD.out) rfl ?_ fun o=>?_
  ·simp only[World.setCell,Array.getElem?_modify,HI.out.b2,if_true,Option.map_some]
   rfl
  ·obtain⟨Si,a1,a2,a3,-⟩:=HI.out.at_
   rw[List.drop_of_length_le (Nat.le_refl _)] at a2
   have hc:J.clr=({ J with S:=Si },0):=by
    unfold Jnl.clr
    rw[a2]
    show(({ J with S:=Si }:Jnl).met 0,(0:Int))=_
    unfold Jnl.met
    rw[if_neg (by decide)]
   have ht:Turn (fun k=>k=W.heap.size+1∨k=w.heap.size) X ((X.setCell ⟨W.heap.size+1,0,none⟩ (.int .i64 0)).putObj w.heap.size o):=((turn_set X (W.heap.size+1) 0 _).mono fun k hk=>Or.inl hk).trans ((turn_put _ _ o).mono fun k hk=>Or.inr hk)
   refine⟨by rw[hc],?_,?_⟩
   ·rw[hc]
    refine a1.oth (ht.mono fun k hk=>Or.inr (Or.inl (by have:=HW.out.2.1;omega))) (fun k hk=>Or.inl (Or.inl hk)) (fun k hk=>?_)
    exact Nat.lt_of_lt_of_le (a1.olt (Or.inl hk)) ht.size
   ·exact HI.out.tn.trans (ht.mono fun k hk e=>by have:=HO.out k e;have:=HW.out.2.1;omega)
 case stop=>
  intro c X hX hK
  obtain⟨rfl,x1,x2,x3,x4⟩:=hX
  refine wpIn_ret ?_
  simp only[Exit.inBlock,Exit.then]
  refine leave_clear hK rfl x4 fun o=>⟨rfl,?_,?_⟩
  ·refine x2.oth ((turn_put X _ o).mono fun k hk=>Or.inr (Or.inl (by have:=HW.out.2.1;omega))) (fun k hk=>Or.inl (Or.inl hk)) (fun k hk=>?_)
   rw[World.putObj_size]
   exact x2.olt (Or.inl hk)
  ·exact x3.trans ((turn_put X _ o).mono fun k hk e=>by have:=HO.out k e;have:=HW.out.2.1;omega)
theorem jclear (h:JAt own W jb st db sv ev es jk J) (hk:∀r∈J.S.recs,1≤r.1∧r.1≤4611686018427387904) (hs:J.S.keys.Pairwise (·< ·)) (hl:J.S.recs.length≤1000) (hf:J.S.d.late.length+1000<1000000) :
  Calls Tryz.prog 123 #[.pointer (some ⟨jb,0,none⟩)] W (ClrP own W jb st db sv ev es jk J):=
 callsIn_wide.1 (jclearIn h hk hs hl hf)
end
attribute [local go_sem] Oper.semAt_some
def jsaid:List Int→Option (Bool × List Int)
 | []=>none
 | k :: t=>if k=67 then some (true,t) else if k=69 then some (false,t) else none
def SaidP (P:Nat→Prop) (W:World) (b:List Int) (v:Value):Prop:=match jsaid b with
 | none=>v = .nilIface
 | some (true,t)=>∃s,v = .iface 212 s∧RowP P W s (bytesV t)
 | some (false,t)=>∃s,v = .iface 214 s∧RowP P W s (bytesV t)
section
variable {P : Nat → Prop} {W : World}
theorem row_tailA {a:Addr} {n cap:Nat} {t:List Int} (hb:P a.block) (h1:n≤cap) (h2:cap≤9223372036854775807) (hn:t.length+1=n) (h5:∀j u,(bytesV t)[j]? = some u→W.cell? (a.add (j+1))=some u):RowP P W (.slice (some ⟨a.block,a.off+1,none⟩) (n-1) (cap-1)) (bytesV t):=by
 refine⟨some ⟨a.block,a.off+1,none⟩,cap-1,by rw[bytesV_len,←hn];rfl,by rw[bytesV_len];omega,by omega,Or.inr ⟨_,rfl,hb,fun j u hj=>?_⟩⟩
 have:=h5 j u hj
 have e:a.add (j+1)=(⟨a.block,a.off+1,none⟩:Addr).add j:=by
  unfold Addr.add
  rw[if_neg (by omega)]
  split
  ·subst_vars;rfl
  ·simp only[Addr.mk.injEq,true_and,and_true];omega
 rw[←e]
 exact this
theorem row_tailB {a:Addr} {n:Nat} {t:List Int} (h1:n≤1) (hn:t.length+1=n):RowP P W (.slice (some a) (n-1) 0) (bytesV t):=by
 have e:t = []:=List.length_eq_zero_iff.1 (by omega)
 subst e
 subst hn
 exact⟨some a,0,rfl,Nat.le_refl _,by omega,Or.inl rfl⟩
theorem said_cp {t:List Int} {s:Value} (h:RowP P W s (bytesV t)):SaidP P W (67 :: t) (.iface 212 s):=⟨s,rfl,h⟩
theorem said_en {t:List Int} {s:Value} (h:RowP P W s (bytesV t)):SaidP P W (69 :: t) (.iface 214 s):=⟨s,rfl,h⟩
theorem said_no {k:Int} {t:List Int} (h1:k≠67) (h2:k≠69):SaidP P W (k :: t) .nilIface:=by
 have e:jsaid (k :: t)=none:=by
  show(if k=67 then some (true,t) else if k=69 then some (false,t) else none)=none
  rw[if_neg h1,if_neg h2]
 unfold SaidP
 rw[e]
set_option maxRecDepth 100000 in
theorem jsays {v:Value} {b:List Int} (h:RowP P W v (bytesV b)):Calls Tryz.prog 122 #[v] W fun e w'=>w'=W∧∃x,e = .returned x∧SaidP P W b x:=by
 obtain⟨p,cap,rfl,h1,h2,h3⟩:=h.ex
 cases b with
 | nil=>
  have e0:(bytesV []).length=0:=rfl
  rw[e0] at *
  clear h h3
  go_enter Tryz.func122,Tryz.ntmps122
  go_wp2
  go_ret
  exact⟨rfl,_,rfl,rfl⟩
 | cons k t=>
  obtain⟨a,rfl,hb,h4⟩:∃a,p=some a∧P a.block∧∀j u,(bytesV (k :: t))[j]? = some u→W.cell? (a.add j)=some u:=by
   rcases h3 with h3|h3
   ·exact absurd h3 (by simp[bytesV])
   ·exact h3
  have e0:(bytesV (k :: t)).length=t.length+1:=by rw[bytesV_len];rfl
  rw[e0] at h1 h
  have c0:W.cell? a=some (.int .u8 k):=by
   have e:a.add 0=a:=by unfold Addr.add;split <;> simp_all
   have:=h4 0 _ rfl
   rwa [e] at this
  have h5:∀j u,(bytesV t)[j]? = some u→W.cell? (a.add (j+1))=some u:=fun j u hj=>h4 (j+1) u hj
  rw[e0]
  have hn:(0:Int)<((t.length+1:Nat):Int):=by omega
  have H5:=Lib.hid h5
  clear h4 h5 e0
  have H1:=Lib.hid h1
  have H2:=Lib.hid h2
  clear h h3
  generalize hN:t.length+1=n at *
  have HN:=Lib.hid hN
  clear hN
  by_cases hk:k=67
  ·subst hk
   go_enter Tryz.func122,Tryz.ntmps122
   go_wp2
   all_goals go_ret
   all_goals refine⟨rfl,_,rfl,said_cp ?_⟩
   all_goals first|exact row_tailA hb H1.out H2.out HN.out H5.out|exact row_tailB (by have:=H1.out;omega) HN.out
  ·by_cases hk2:k=69
   ·subst hk2
    go_enter Tryz.func122,Tryz.ntmps122
    go_wp2
    all_goals go_ret
    all_goals refine⟨rfl,_,rfl,said_en ?_⟩
    all_goals first|exact row_tailA hb H1.out H2.out HN.out H5.out|exact row_tailB (by have:=H1.out;omega) HN.out
   ·have b1:(k == 67)=false:=by simp[hk]
    have b2:(k == 69)=false:=by simp[hk2]
    have HSN:=Lib.hid (said_no (P:=P) (W:=W) (t:=t) hk hk2)
    clear hk hk2
    go_enter Tryz.func122,Tryz.ntmps122
    go_wp2
    go_ret
    exact⟨rfl,_,rfl,HSN.out⟩
end
end Go.Proofs.YtbcbhlfjgobejaaGreat
