/- The journal's Open: the walk. Conditions: a disk that is on, its store's records few and short. A store on a steady disk: its room; Put and Remove keep it. Plain. Conditions: none. A journal on a steady disk: Append and Checkpoint, plain. Conditions: room. -/
import Derived.Test.YtbcbhlfjgobejaaGreatD34
import Derived.Test.YtbcbhlfjgobejaaGreatD28
import Derived.Test.YtbcbhlfjgobejaaGreatD29
set_option linter.unusedSimpArgs false
set_option linter.unusedVariables false
namespace Go.Proofs.YtbcbhlfjgobejaaGreat
open Go.RowKit Go.Sf Go.Shelf
attribute [local go_sem] Oper.semAt_some
structure JGood (S:Sto):Prop where
 num:∀r∈S.recs,1≤r.1∧r.1≤4611686018427387904
 short:∀r∈S.recs,r.2.1.length≤200000
 rise:S.keys.Pairwise (·< ·)
 few:S.recs.length≤1000
 late:S.d.late.length+1000<1000000
def JOpenP (own:Nat→Prop) (W:World) (db:Nat) (d:Dk) (e:Ending) (w':World):Prop:=
 Turn (fun k=>¬own k) W w'∧((d.opened.2≠0∧e = .returned (.tuple #[.pointer none,.int .i64 d.opened.2])∧DRep own w' db d.opened.1)∨
  (d.opened.2=0∧∃st ks,KeysOf d ks∧
   ((jfold (openS d ks) (openS d ks).keys (Jnl.new (openS d ks))=none∧e = .returned (.tuple #[.pointer none,.int .i64 190])∧SRep own w' st db (openS d ks))∨
   ∃J,jfold (openS d ks) (openS d ks).keys (Jnl.new (openS d ks))=some J∧
    ((J.clr.2≠0∧e = .returned (.tuple #[.pointer none,.int .i64 J.clr.2])∧SRep own w' st db J.clr.1.S)∨
    (J.clr.2=0∧∃jb sv ev es jk,e = .returned (.tuple #[.pointer (some ⟨jb,0,none⟩),.int .i64 0])∧JAt own w' jb st db sv ev es jk J.clr.1)))))
theorem key_row {w:World} {B n:Nat} {v:Value} {ks:List Int} (hn:ks.length=n) (h:w.ownsRow B 2 1 v n (ks.map (Value.int .i64))):∃p cap,v = .slice p n cap∧∀j (hj:j<ks.length),∃g,p=some ⟨g,0,none⟩∧B≤g∧g<w.heap.size∧w.cell? ⟨g,j,none⟩=some (.int .i64 ks[j]):=by
 subst hn
 rcases h.2 with ⟨e1,h0⟩|⟨g,c,cur,e1,hb,hh,r1,r2,r3,r4⟩
 ·exact⟨none,0,by rw[e1,h0],fun j hj=>by omega⟩
 ·refine⟨_,_,e1,fun j hj=>⟨g,rfl,hb,(Array.getElem?_eq_some_iff.1 hh).1,?_⟩⟩
  subst e1
  rw[h.cellAt j (by omega),List.getElem?_map,List.getElem?_eq_getElem hj]
  rfl
section
variable {own own2 : Nat → Prop} {W X : World} {jb st db : Nat} {S : Sto} {n : Nat}
theorem turn_grJ {A:Nat→Prop} {X Y:World} (hg:X.grownBy Y none):Turn A X Y:=⟨hg.os,hg.tape,hg.output,hg.size,fun k hk _=>hg.block k hk (by simp)⟩
theorem SRep.lessJ (h:SRep own2 W st db S) (h1:∀k,own k→own2 k):SRep own W st db S:=h.othJ (Turn.refl _ _) (fun k hk=>Or.inl (h1 k hk)) (fun k hk=>h.own_lt (h1 k hk))
def OpI (own2:Nat→Prop) (X:World) (jb st db:Nat) (S:Sto) (j:Nat) (w:World):Prop:=
 ∃p1 n1 c1 p2 n2 c2 es jk J,JAt own2 w jb st db (.slice p1 n1 c1) (.slice p2 n2 c2) es jk J∧J.S=S∧J.entries.length≤j∧jfold S (S.keys.drop j) J=jfold S S.keys (Jnl.new S)∧Turn (fun k=>¬own2 k) X w
set_option maxHeartbeats 8000000 in
set_option maxRecDepth 100000 in
theorem jopen {d:Dk} (hd:DRep own W db d) (hoff:d.off=false) (hlate:d.late.length+d.n<1000000) (hgood:d.opened.2=0→∀ks,KeysOf d ks→JGood (openS d ks)):Calls Tryz.prog 49 #[.pointer (some ⟨db,0,none⟩)] W (JOpenP own W db d):=by
 have hop:=sopen hd hoff hlate
 by_cases ho:d.opened.2=0
 ·have HOP:Hid (Calls Tryz.prog 18 #[.pointer (some ⟨db,0,none⟩)] W fun e w'=>∃st ks,e = .returned (.tuple #[.pointer (some ⟨st,0,none⟩),.int .i64 0])∧KeysOf d ks∧SRep own w' st db (openS d ks)∧Turn (fun k=>¬own k) W w'):=Lib.hid (hop.mono (by
   rintro e w' ⟨ht,(⟨h1,_⟩|⟨_,st,ks,rfl,h2,h3⟩)⟩
   ·exact absurd ho h1
   ·exact⟨st,ks,rfl,h2,h3,ht⟩))
  have HG:=Lib.hid (hgood ho)
  have HO:=Lib.hid ho
  clear hop hd hoff hlate hgood ho
  go_enter Tryz.func49,Tryz.ntmps49
  go_upto_region 5 with (go_at_call 18;refine HOP.out.mono ?_;rintro e w0 ⟨st,ks,rfl,hks,hs0,ht0⟩;have HKS:=Lib.hid hks;have HS0:=Lib.hid hs0;have HT0:=Lib.hid ht0;clear hks hs0 ht0)
  have HGD:=Lib.hid (HG.out ks HKS.out)
  have ha1:=JAt.new HS0.out
  have hgw:=World.grownBy_alloc w0 (.cells #[.pointer (some ⟨st,0,none⟩),.int .i64 0,.slice none 0 0,.slice none 0 0,.int .i64 0] 210) none
  have HT1:Hid (Turn (fun k=>¬own k) W (w0.alloc (.cells #[.pointer (some ⟨st,0,none⟩),.int .i64 0,.slice none 0 0,.slice none 0 0,.int .i64 0] 210))):=Lib.hid (HT0.out.trans (turn_grJ hgw))
  clear hgw
  generalize hSS:openS d ks=S at HS0 HGD ha1
  have HSS:=Lib.hid hSS
  clear hSS HG HS0 HOP
  generalize w0.alloc (.cells #[.pointer (some ⟨st,0,none⟩),.int .i64 0,.slice none 0 0,.slice none 0 0,.int .i64 0] 210)=X1 at *
  generalize w0.heap.size=jb at *
  have HA1:=Lib.hid ha1
  obtain⟨n,hn⟩:∃n,n=S.keys.length:=⟨_,rfl⟩
  have HN:=Lib.hid hn
  have hnl:S.keys.length=S.recs.length:=by unfold Sto.keys;rw[List.length_map]
  have hn1:n≤1000:=by have:=HGD.out.few;omega
  have HNUM:Hid (Calls Tryz.prog 26 #[.pointer (some ⟨st,0,none⟩)] X1 fun e w2=>X1.grownBy w2 none∧∃p cap,e = .returned (.slice p n cap)∧∀j (hj:j<S.keys.length),∃g,p=some ⟨g,0,none⟩∧X1.heap.size≤g∧g<w2.heap.size∧w2.cell? ⟨g,j,none⟩=some (.int .i64 S.keys[j])):=Lib.hid (by
   obtain⟨mb,tb,rv,rb,hS⟩:=ha1.sr
   refine(snumbers hS HGD.out.num (by have:=HGD.out.few;show S.recs.length≤_;omega)).mono ?_
   rintro e w2 ⟨hg,v,rfl,hv⟩
   have e1:(S.recs.map (·.1)).mergeSort (fun x y=>decide (x≤y))=S.keys:=List.mergeSort_of_pairwise (HGD.out.rise.imp fun {a b} h=>by simp;omega)
   have hv2:w2.ownsRow X1.heap.size 2 1 v S.recs.length (((S.recs.map (·.1)).mergeSort fun x y=>decide (x≤y)).map (Value.int .i64)):=hv
   rw[e1,←hnl,←hn] at hv2
   obtain⟨p,cap,rfl,h1⟩:=key_row hn.symm hv2
   exact⟨hg,p,cap,rfl,h1⟩)
  clear ha1 hn hnl
  go_upto_region 6 with (go_at_call 26;refine HNUM.out.mono ?_;rintro e w2 ⟨hg2,p,cap,rfl,hk⟩;have HK:=Lib.hid hk;have HG2:=Lib.hid hg2;clear hk hg2)
  obtain⟨own2,ho2⟩:∃o:Nat→Prop,o=fun k=>own k∨(X1.heap.size≤k∧k<w2.heap.size):=⟨_,rfl⟩
  have HO2:Hid ((∀k,own k→own2 k)∧(∀k,X1.heap.size≤k→k<w2.heap.size→own2 k)∧(∀k,own2 k→own k∨X1.heap.size≤k)∧(∀k,own2 k→k<w2.heap.size)):=Lib.hid (by
   have h1:=HG2.out.size
   have h2:=fun k=>@JAt.olt _ _ _ _ _ _ _ _ _ _ HA1.out k
   subst ho2
   exact⟨fun k hk=>Or.inl hk,fun k a b=>Or.inr ⟨a,b⟩,fun k hk=>hk.imp id And.left,fun k hk=>hk.elim (fun e=>Nat.lt_of_lt_of_le (h2 k e) h1) And.right⟩)
  clear ho2
  have HA2:Hid (JAt own2 w2 jb st db (.slice none 0 0) (.slice none 0 0) [] (fun k=>k=jb) (Jnl.new S)):=Lib.hid (HA1.out.oth (turn_grJ HG2.out) HO2.out.2.2.1 HO2.out.2.2.2)
  have HTW:Hid (Turn (fun k=>¬own k) W w2):=Lib.hid (HT1.out.trans (turn_grJ HG2.out))
  clear HNUM HT0 HT1 HA1 HG2
  go_loopw [29] (fun i wr=>∃j:Nat,j≤n∧i = .int .i64 j∧OpI own2 w2 jb st db S j wr) (fun i _=>n-(intOf i).toNat)
  case atStart=>exact⟨0,Nat.zero_le _,rfl,_,_,_,_,_,_,_,_,_,HA2.out,rfl,Nat.le_refl _,rfl,Turn.refl _ _⟩
  case round=>
   obtain⟨j,hj,rfl,p1,n1,c1,p2,n2,c2,es,jk,J,ha,hS,hel,hf,ht⟩:=hrel
   by_cases hjn:j<n
   ·have hjk:j<S.keys.length:=by rw[←HN.out];exact hjn
    obtain⟨g,rfl,hg1,hg2,e0⟩:=HK.out j hjk
    have e1:wr.cell? ⟨g,j,none⟩=some (.int .i64 S.keys[j]):=(World.cell?_of_block (a:=⟨g,j,none⟩) (ht.block g hg2 (fun e=>e (HO2.out.2.1 g hg1 hg2)))).trans e0
    have hgl:=cell_lt e1
    have e2:(0:Int)≤(j:Int):=by omega
    have e3:(j:Int)<(n:Int):=by omega
    have hdr:S.keys.drop j=S.keys[j] :: S.keys.drop (j+1):=List.drop_eq_getElem_cons hjk
    rw[hdr] at hf
    have HF:=Lib.hid hf
    have HA:=Lib.hid ha
    have HT:=Lib.hid ht
    have HS:=Lib.hid hS
    have HEL:=Lib.hid hel
    have HGET:Hid (Calls Tryz.prog 21 #[.pointer (some ⟨st,0,none⟩),.int .i64 S.keys[j]] wr fun e w'=>wr.grownBy w' none∧∃p n c ok,e = .returned (.tuple #[.slice p n c,.bool ok])∧RowP (fun i=>wr.heap.size≤i∧i<w'.heap.size) w' (.slice p n c) (bytesV (S.getB S.keys[j]))):=Lib.hid (by
     have h1:=ha.sr
     rw[hS] at h1
     exact sgetB h1 _ HGD.out.short)
    clear e0 hdr ha hS hel hf ht
    generalize S.keys[j]=kk at *
    cases hs:jsaid (S.getB kk) with
    | none=>
     have HF2:=Lib.hid ((HF.out.symm.trans (jfold_no _ _ hs)))
     go_wp2_with (first
      | (go_at_call 21;refine HGET.out.mono ?_;rintro e w3 ⟨hg3,pb,nb,cb,ok,rfl,hrow⟩;have HROW:=Lib.hid hrow;have HG3:=Lib.hid hg3;clear hrow hg3)
      | (go_at_call 122;refine(jsays HROW.out).mono ?_;rintro e w4 ⟨h5,x,rfl,hx⟩;obtain rfl:w3=w4:=h5.symm;unfold SaidP at hx;rw[hs] at hx;obtain rfl:=hx))
     go_ret2
     refine⟨HTW.out.trans ((HT.out.mono fun k hk e=>hk (HO2.out.1 k e)).trans (turn_grJ HG3.out)),Or.inr ⟨HO.out,st,ks,HKS.out,Or.inl ⟨?_,rfl,?_⟩⟩⟩
     ·rw[HSS.out];exact HF2.out
     ·rw[HSS.out]
      have h1:=(HA.out.grown HG3.out).sr
      rw[HS.out] at h1
      exact h1.lessJ fun k hk=>Or.inl (HO2.out.1 k hk)
    | some r=>
     obtain⟨q,sb⟩:=r
     cases q with
     | true=>
      have HF2:=Lib.hid ((jfold_cp _ _ hs).symm.trans HF.out)
      go_wp2_with (first
       | (go_at_call 21;refine HGET.out.mono ?_;rintro e w3 ⟨hg3,pb,nb,cb,ok,rfl,hrow⟩;have HROW:=Lib.hid hrow;have HG3:=Lib.hid hg3;clear hrow hg3)
       | (go_at_call 122;refine(jsays HROW.out).mono ?_;rintro e w4 ⟨h5,x,rfl,hx⟩;obtain rfl:w3=w4:=h5.symm;unfold SaidP at hx;rw[hs] at hx;obtain⟨sx,rfl,hsr⟩:=hx;obtain⟨ps,cs,rfl,-,-,-⟩:=hsr.ex;rw[bytesV_len] at hsr ⊢;have HSR:=Lib.hid hsr;obtain⟨c0,c1,c2,c3,c4,cf⟩:=(HA.out.grown HG3.out).cells;clear hsr))
      have HE:=Lib.hid (JAt.check (k:=kk) HA.out HG3.out HSR.out)
      exact⟨⟨j+1,by omega,by simp,ps,_,cs,none,0,0,[],_,J.chk kk sb,HE.out.1,HS.out,Nat.zero_le _,HF2.out,HT.out.trans HE.out.2⟩,by simp[intOf];omega⟩
     | false=>
      have HF2:=Lib.hid ((jfold_en _ _ hs).symm.trans HF.out)
      obtain⟨i0,z0,by0,hi,hz0,hz1,hz2,hz3,hz4⟩:=infoSl
      go_upto_region 15 with (first
       | (go_at_call 21;refine HGET.out.mono ?_;rintro e w3 ⟨hg3,pb,nb,cb,ok,rfl,hrow⟩;have HROW:=Lib.hid hrow;have HG3:=Lib.hid hg3;clear hrow hg3)
       | (go_at_call 122;refine(jsays HROW.out).mono ?_;rintro e w4 ⟨h5,x,rfl,hx⟩;obtain rfl:w3=w4:=h5.symm;unfold SaidP at hx;rw[hs] at hx;obtain⟨sx,rfl,hsr⟩:=hx;obtain⟨ps,cs,rfl,-,-,-⟩:=hsr.ex;rw[bytesV_len] at hsr ⊢;have HSR:=Lib.hid hsr;obtain⟨c0,c1,c2,c3,c4,cf⟩:=(HA.out.grown HG3.out).cells;clear hsr))
      clear c0 c1 c2 c3 c4 cf
      have hj0:=HA.out.grown (HG3.out.trans (grown_drew (grown_refl w3)))
      have HG1:Hid (wr.grownBy w3.drew none):=Lib.hid (grown_drew HG3.out)
      have HXR:Hid (RowP (fun i=>wr.heap.size≤i∧i<w3.drew.heap.size) w3.drew (.slice ps sb.length cs) (bytesV sb)):=Lib.hid (HSR.out.turn (W':=w3.drew) fun _ _=>rfl)
      have c3:=hj0.cells.2.2.2.1
      clear hj0
      refine wp_region_held_drew (S:=fun _=>True) (by kernel_rfl) trivial (fun hHeld=>?_)
      generalize w3.drew=X0 at *
      refine wpAnyH_take (i := 0) (oi := { dst := some 60, op := Op.move (Operand.tmp 6), type := 73, pos := "journal.go:61", after := #[], guard := none }) (v := ?_) rfl (by kernel_rfl) (by kernel_rfl) (by kernel_rfl) (fun _ _ _ h => h) (Or.inl ⟨by rfl, ?_⟩) hHeld ?_
      rotate_left
      ·intro w hSw;(try dsimp only at hSw);obtain -:=hSw;go_simp;try with_reducible rfl
      (try simp only[Act.put,List.setIfInBounds_toArray,List.set_cons_zero,List.set_cons_succ])
      refine wpAnyH_take (i := 1) (oi := { dst := some 61, op := Op.move (Operand.tmp 6), type := 73, pos := "journal.go:61", after := #[], guard := none }) (v := ?_) rfl (by kernel_rfl) (by kernel_rfl) (by kernel_rfl) (fun _ _ _ h => h) (Or.inl ⟨by rfl, ?_⟩) hHeld ?_
      rotate_left
      ·intro w hSw;(try dsimp only at hSw);obtain -:=hSw;go_simp;try with_reducible rfl
      (try simp only[Act.put,List.setIfInBounds_toArray,List.set_cons_zero,List.set_cons_succ])
      refine wpAnyH_take (i := 5) (oi := { dst := some 65, op := Op.move (Operand.tmp 11), type := 20, pos := "journal.go:61", after := #[], guard := none }) (v := ?_) rfl (by kernel_rfl) (by kernel_rfl) (by kernel_rfl) (fun _ _ _ h => h) (Or.inl ⟨by rfl, ?_⟩) hHeld ?_
      rotate_left
      ·intro w hSw;(try dsimp only at hSw);obtain -:=hSw;go_simp;try with_reducible rfl
      (try simp only[Act.put,List.setIfInBounds_toArray,List.set_cons_zero,List.set_cons_succ])
      refine wpAnyH_take (i := 2) (oi := { dst := some 62, op := Op.nilCheck (Operand.tmp 61), type := 0, pos := "journal.go:61", after := #[{ on := 1, ground := Ground.data }], guard := none }) (v := ?_) rfl (by kernel_rfl) (by kernel_rfl) (by kernel_rfl) (fun _ _ _ h => h) (Or.inl ⟨by rfl, ?_⟩) hHeld ?_
      rotate_left
      ·intro w hSw;(try dsimp only at hSw);obtain -:=hSw;go_simp;try with_reducible rfl
      (try simp only[Act.put,List.setIfInBounds_toArray,List.set_cons_zero,List.set_cons_succ])
      refine wpAnyH_take (i := 6) (oi := { dst := some 66, op := Op.typeAssert (Operand.tmp 65) 20 214 false, type := 214, pos := "journal.go:61", after := #[{ on := 5, ground := Ground.data }], guard := none }) (v := ?_) rfl (by kernel_rfl) (by kernel_rfl) (by kernel_rfl) (fun _ _ _ h => h) (Or.inl ⟨by rfl, ?_⟩) hHeld ?_
      rotate_left
      ·intro w hSw;(try dsimp only at hSw);obtain -:=hSw;go_simp;try with_reducible rfl
      (try simp only[Act.put,List.setIfInBounds_toArray,List.set_cons_zero,List.set_cons_succ])
      refine wpAnyH_take (i := 3) (oi := { dst := some 63, op := Op.fieldAddr 210 (Operand.tmp 62) 3, type := 0, pos := "journal.go:61", after := #[{ on := 2, ground := Ground.data }], guard := none }) (v := ?_) rfl (by kernel_rfl) (by kernel_rfl) (by kernel_rfl) (fun _ _ _ h => h) (Or.inl ⟨by rfl, ?_⟩) hHeld ?_
      rotate_left
      ·intro w hSw;(try dsimp only at hSw);obtain -:=hSw;go_simp;try with_reducible rfl
      (try simp only[Act.put,List.setIfInBounds_toArray,List.set_cons_zero,List.set_cons_succ])
      refine wpAnyH_ready (rs:=[4,7]) (by kernel_rfl) (by simp) ?_
      refine (AllReadyH.cons (o := { dst := some 64, op := Op.load 77 (Operand.tmp 63), type := 77, pos := "journal.go:61", after := #[{ on := 3, ground := Ground.data }], guard := none }) rfl (fun K hK => ?_) (AllReadyH.cons (o := { dst := some 67, op := Op.buildSlice 77 1 #[(0, Operand.tmp 66)], type := 77, pos := "journal.go:61", after := #[{ on := 6, ground := Ground.data }], guard := none }) rfl (fun K hK => ?_) AllReadyH.nil))
      ·go_simp
       refine hK.out _ _ trivial (fun hHeld=>?_)
       clear hK K
       (try simp only[Act.put,List.setIfInBounds_toArray,List.set_cons_zero,List.set_cons_succ])
       refine wpAnyH_ready (rs:=[7]) (by kernel_rfl) (by simp) ?_
       refine (AllReadyH.cons (o := { dst := some 67, op := Op.buildSlice 77 1 #[(0, Operand.tmp 66)], type := 77, pos := "journal.go:61", after := #[{ on := 6, ground := Ground.data }], guard := none }) rfl (fun K hK => ?_) AllReadyH.nil)
       go_simp
       have hg2:X0.grownBy (X0.alloc (.cells #[.slice ps sb.length cs] 32)) none:=World.grownBy_alloc _ _ none
       have HY:=Lib.hid (one_sl X0 ⟨ps,sb.length,cs⟩)
       have c3b:=hg2.cell c3 (by simp)
       have HG2:=Lib.hid hg2
       clear hg2
       refine hK.out _ _ trivial (fun hHeld=>?_)
       clear hK K
       (try simp only[Act.put,List.setIfInBounds_toArray,List.set_cons_zero,List.set_cons_succ])
       generalize X0.alloc (.cells #[.slice ps sb.length cs] 32)=w6 at *
       refine wpAnyH_ready (rs:=[8]) (by kernel_rfl) (by simp) ?_
       refine (AllReadyH.cons (o := { dst := some 68, op := Op.call { callee := Callee.builtin Builtin.append, args := #[Operand.tmp 64, Operand.tmp 67], argTypes := #[77, 77] }, type := 77, pos := "journal.go:61", after := #[{ on := 4, ground := Ground.data }, { on := 7, ground := Ground.data }], guard := none }) rfl (fun K hK => ?_) AllReadyH.nil)
       refine step_sapp (E:=32) (sz:=1) (enc:=slE) (v:=.slice p2 n2 c2) (l:=es) (m:=[⟨ps,sb.length,cs⟩]) rfl _ _ 77 rfl slE_len slE_one i0 z0 by0 Tryz.underlying77 hi hz0 hz1 hz2 hz3 (by decide) hz4 rfl (HA.out.row.grown (HG1.out.trans HG2.out) (by simp)) rfl HY.out (by have:=HEL.out;have:=HA.out.ent.len;simp only[List.length_cons,List.length_nil];omega) (es.length+1) (by simp only[List.length_cons,List.length_nil]) ?_
       intro p' cap' w8 hap
       have HE:=Lib.hid (JAt.entry (x:=⟨ps,sb.length,cs⟩) HA.out HG1.out HXR.out HG2.out hap)
       obtain⟨d0,d1⟩:=JAt.entry_cell HA.out (HG1.out.trans HG2.out) hap
       clear hap
       refine hK.out _ _ trivial (fun hHeld=>?_)
       clear hK K
       (try simp only[Act.put,List.setIfInBounds_toArray,List.set_cons_zero,List.set_cons_succ])
       refine wpAnyH_take (i := 9) (oi := { dst := some 69, op := Op.nilCheck (Operand.tmp 60), type := 0, pos := "journal.go:61", after := #[{ on := 0, ground := Ground.data }, { on := 0, ground := Ground.phase }, { on := 1, ground := Ground.phase }, { on := 2, ground := Ground.phase }, { on := 3, ground := Ground.phase }, { on := 4, ground := Ground.phase }, { on := 5, ground := Ground.phase }, { on := 6, ground := Ground.phase }, { on := 7, ground := Ground.phase }, { on := 8, ground := Ground.phase }], guard := none }) (v := ?_) rfl (by kernel_rfl) (by kernel_rfl) (by kernel_rfl) (fun _ _ _ h => h) (Or.inl ⟨by rfl, ?_⟩) hHeld ?_
       rotate_left
       ·intro w hSw;(try dsimp only at hSw);obtain -:=hSw;go_simp;try with_reducible rfl
       (try simp only[Act.put,List.setIfInBounds_toArray,List.set_cons_zero,List.set_cons_succ])
       refine wpAnyH_take (i := 10) (oi := { dst := some 70, op := Op.fieldAddr 210 (Operand.tmp 69) 3, type := 0, pos := "journal.go:61", after := #[{ on := 9, ground := Ground.data }, { on := 0, ground := Ground.phase }, { on := 1, ground := Ground.phase }, { on := 2, ground := Ground.phase }, { on := 3, ground := Ground.phase }, { on := 4, ground := Ground.phase }, { on := 5, ground := Ground.phase }, { on := 6, ground := Ground.phase }, { on := 7, ground := Ground.phase }, { on := 8, ground := Ground.phase }], guard := none }) (v := ?_) rfl (by kernel_rfl) (by kernel_rfl) (by kernel_rfl) (fun _ _ _ h => h) (Or.inl ⟨by rfl, ?_⟩) hHeld ?_
       rotate_left
       ·intro w hSw;(try dsimp only at hSw);obtain -:=hSw;go_simp;try with_reducible rfl
       (try simp only[Act.put,List.setIfInBounds_toArray,List.set_cons_zero,List.set_cons_succ])
       refine wpAnyH_ready (rs:=[11]) (by kernel_rfl) (by simp) ?_
       refine (AllReadyH.cons (o := { dst := none, op := Op.store 77 (Operand.tmp 70) (Operand.tmp 68), type := 0, pos := "journal.go:61", after := #[{ on := 10, ground := Ground.data }, { on := 8, ground := Ground.data }, { on := 8, ground := Ground.chain }, { on := 0, ground := Ground.phase }, { on := 1, ground := Ground.phase }, { on := 2, ground := Ground.phase }, { on := 3, ground := Ground.phase }, { on := 4, ground := Ground.phase }, { on := 5, ground := Ground.phase }, { on := 6, ground := Ground.phase }, { on := 7, ground := Ground.phase }, { on := 8, ground := Ground.phase }], guard := none }) rfl (fun K hK => ?_) AllReadyH.nil)
       go_simp
       refine hK.out _ _ trivial (fun hHeld=>?_)
       clear hK K
       (try simp only[Act.put,List.setIfInBounds_toArray,List.set_cons_zero,List.set_cons_succ])
       refine wpAnyH_done (by kernel_rfl) ?_ _
       go_wp2
       exact⟨⟨j+1,by omega,by simp,p1,n1,c1,p',_,cap',_,_,_,HE.out.1,HS.out,by have:=HEL.out;show(J.entries ++ [sb]).length≤_;simp only[List.length_append,List.length_cons,List.length_nil];omega,HF2.out,HT.out.trans HE.out.2⟩,by simp[intOf];omega⟩
      ·go_simp
       have hg2:X0.grownBy (X0.alloc (.cells #[.slice ps sb.length cs] 32)) none:=World.grownBy_alloc _ _ none
       have HY:=Lib.hid (one_sl X0 ⟨ps,sb.length,cs⟩)
       have c3b:=hg2.cell c3 (by simp)
       have HG2:=Lib.hid hg2
       clear hg2
       refine hK.out _ _ trivial (fun hHeld=>?_)
       clear hK K
       (try simp only[Act.put,List.setIfInBounds_toArray,List.set_cons_zero,List.set_cons_succ])
       generalize X0.alloc (.cells #[.slice ps sb.length cs] 32)=w6 at *
       refine wpAnyH_ready (rs:=[4]) (by kernel_rfl) (by simp) ?_
       refine (AllReadyH.cons (o := { dst := some 64, op := Op.load 77 (Operand.tmp 63), type := 77, pos := "journal.go:61", after := #[{ on := 3, ground := Ground.data }], guard := none }) rfl (fun K hK => ?_) AllReadyH.nil)
       go_simp
       refine hK.out _ _ trivial (fun hHeld=>?_)
       clear hK K
       (try simp only[Act.put,List.setIfInBounds_toArray,List.set_cons_zero,List.set_cons_succ])
       refine wpAnyH_ready (rs:=[8]) (by kernel_rfl) (by simp) ?_
       refine (AllReadyH.cons (o := { dst := some 68, op := Op.call { callee := Callee.builtin Builtin.append, args := #[Operand.tmp 64, Operand.tmp 67], argTypes := #[77, 77] }, type := 77, pos := "journal.go:61", after := #[{ on := 4, ground := Ground.data }, { on := 7, ground := Ground.data }], guard := none }) rfl (fun K hK => ?_) AllReadyH.nil)
       refine step_sapp (E:=32) (sz:=1) (enc:=slE) (v:=.slice p2 n2 c2) (l:=es) (m:=[⟨ps,sb.length,cs⟩]) rfl _ _ 77 rfl slE_len slE_one i0 z0 by0 Tryz.underlying77 hi hz0 hz1 hz2 hz3 (by decide) hz4 rfl (HA.out.row.grown (HG1.out.trans HG2.out) (by simp)) rfl HY.out (by have:=HEL.out;have:=HA.out.ent.len;simp only[List.length_cons,List.length_nil];omega) (es.length+1) (by simp only[List.length_cons,List.length_nil]) ?_
       intro p' cap' w8 hap
       have HE:=Lib.hid (JAt.entry (x:=⟨ps,sb.length,cs⟩) HA.out HG1.out HXR.out HG2.out hap)
       obtain⟨d0,d1⟩:=JAt.entry_cell HA.out (HG1.out.trans HG2.out) hap
       clear hap
       refine hK.out _ _ trivial (fun hHeld=>?_)
       clear hK K
       (try simp only[Act.put,List.setIfInBounds_toArray,List.set_cons_zero,List.set_cons_succ])
       refine wpAnyH_take (i := 9) (oi := { dst := some 69, op := Op.nilCheck (Operand.tmp 60), type := 0, pos := "journal.go:61", after := #[{ on := 0, ground := Ground.data }, { on := 0, ground := Ground.phase }, { on := 1, ground := Ground.phase }, { on := 2, ground := Ground.phase }, { on := 3, ground := Ground.phase }, { on := 4, ground := Ground.phase }, { on := 5, ground := Ground.phase }, { on := 6, ground := Ground.phase }, { on := 7, ground := Ground.phase }, { on := 8, ground := Ground.phase }], guard := none }) (v := ?_) rfl (by kernel_rfl) (by kernel_rfl) (by kernel_rfl) (fun _ _ _ h => h) (Or.inl ⟨by rfl, ?_⟩) hHeld ?_
       rotate_left
       ·intro w hSw;(try dsimp only at hSw);obtain -:=hSw;go_simp;try with_reducible rfl
       (try simp only[Act.put,List.setIfInBounds_toArray,List.set_cons_zero,List.set_cons_succ])
       refine wpAnyH_take (i := 10) (oi := { dst := some 70, op := Op.fieldAddr 210 (Operand.tmp 69) 3, type := 0, pos := "journal.go:61", after := #[{ on := 9, ground := Ground.data }, { on := 0, ground := Ground.phase }, { on := 1, ground := Ground.phase }, { on := 2, ground := Ground.phase }, { on := 3, ground := Ground.phase }, { on := 4, ground := Ground.phase }, { on := 5, ground := Ground.phase }, { on := 6, ground := Ground.phase }, { on := 7, ground := Ground.phase }, { on := 8, ground := Ground.phase }], guard := none }) (v := ?_) rfl (by kernel_rfl) (by kernel_rfl) (by kernel_rfl) (fun _ _ _ h => h) (Or.inl ⟨by rfl, ?_⟩) hHeld ?_
       rotate_left
       ·intro w hSw;(try dsimp only at hSw);obtain -:=hSw;go_simp;try with_reducible rfl
       (try simp only[Act.put,List.setIfInBounds_toArray,List.set_cons_zero,List.set_cons_succ])
       refine wpAnyH_ready (rs:=[11]) (by kernel_rfl) (by simp) ?_
       refine (AllReadyH.cons (o := { dst := none, op := Op.store 77 (Operand.tmp 70) (Operand.tmp 68), type := 0, pos := "journal.go:61", after := #[{ on := 10, ground := Ground.data }, { on := 8, ground := Ground.data }, { on := 8, ground := Ground.chain }, { on := 0, ground := Ground.phase }, { on := 1, ground := Ground.phase }, { on := 2, ground := Ground.phase }, { on := 3, ground := Ground.phase }, { on := 4, ground := Ground.phase }, { on := 5, ground := Ground.phase }, { on := 6, ground := Ground.phase }, { on := 7, ground := Ground.phase }, { on := 8, ground := Ground.phase }], guard := none }) rfl (fun K hK => ?_) AllReadyH.nil)
       go_simp
       refine hK.out _ _ trivial (fun hHeld=>?_)
       clear hK K
       (try simp only[Act.put,List.setIfInBounds_toArray,List.set_cons_zero,List.set_cons_succ])
       refine wpAnyH_done (by kernel_rfl) ?_ _
       go_wp2
       exact⟨⟨j+1,by omega,by simp,p1,n1,c1,p',_,cap',_,_,_,HE.out.1,HS.out,by have:=HEL.out;show(J.entries ++ [sb]).length≤_;simp only[List.length_append,List.length_cons,List.length_nil];omega,HF2.out,HT.out.trans HE.out.2⟩,by simp[intOf];omega⟩
   ·obtain rfl:j=n:=by omega
    have hfe:jfold S S.keys (Jnl.new S)=some J:=by
     rw[←hf,List.drop_of_length_le (by rw[←HN.out];exact Nat.le_refl _)]
     rfl
    have hcc:=jclear ha (by rw[hS];exact HGD.out.num) (by rw[hS];exact HGD.out.rise) (by rw[hS];exact HGD.out.few) (by rw[hS];exact HGD.out.late)
    have HCC:=Lib.hid hcc
    have HFE:=Lib.hid hfe
    have HT:=Lib.hid ht
    clear hcc hfe ha hS hel hf ht
    by_cases hz:J.clr.2=0
    ·have HZ:=Lib.hid hz
     go_wp2_with (go_at_call 123;refine HCC.out.mono ?_;rintro e w5 ⟨rfl,h6,h7⟩;rw[hz];have H6:=Lib.hid h6;have H7:=Lib.hid h7;clear h6 h7)
     go_ret2
     refine⟨HTW.out.trans ((HT.out.trans H7.out).mono fun k hk e=>hk (HO2.out.1 k e)),Or.inr ⟨HO.out,st,ks,HKS.out,Or.inr ⟨J,?_,Or.inr ⟨HZ.out,jb,_,_,_,_,rfl,H6.out.less HO2.out.1⟩⟩⟩⟩
     rw[HSS.out];exact HFE.out
    ·have HZ:=Lib.hid hz
     have hb:(J.clr.2 != 0)=true:=by simp[hz]
     go_wp2_with (go_at_call 123;refine HCC.out.mono ?_;rintro e w5 ⟨rfl,h6,h7⟩;have H6:=Lib.hid h6;have H7:=Lib.hid h7;clear h6 h7)
     go_ret2
     refine⟨HTW.out.trans ((HT.out.trans H7.out).mono fun k hk e=>hk (HO2.out.1 k e)),Or.inr ⟨HO.out,st,ks,HKS.out,Or.inr ⟨J,?_,Or.inl ⟨HZ.out,rfl,?_⟩⟩⟩⟩
     ·rw[HSS.out];exact HFE.out
     ·exact H6.out.sr.lessJ fun k hk=>Or.inl (HO2.out.1 k hk)
 ·have HOP:Hid (Calls Tryz.prog 18 #[.pointer (some ⟨db,0,none⟩)] W fun e w'=>e = .returned (.tuple #[.pointer none,.int .i64 d.opened.2])∧DRep own w' db d.opened.1∧Turn (fun k=>¬own k) W w'):=Lib.hid (hop.mono (by
   rintro e w' ⟨ht,(⟨_,h1,h2⟩|⟨h1,_⟩)⟩
   ·exact⟨h1,h2,ht⟩
   ·exact absurd h1 ho))
  have HO:=Lib.hid ho
  have hb:(d.opened.2 != 0)=true:=by simp[ho]
  clear hop hd hoff hlate hgood
  generalize hoo:d.opened.2=oo at *
  have HOO:=Lib.hid hoo
  clear hoo
  go_enter Tryz.func49,Tryz.ntmps49
  go_wp2_with (go_at_call 18;refine HOP.out.mono ?_;rintro e w0 ⟨rfl,h1,h2⟩;have H1:=Lib.hid h1;have H2:=Lib.hid h2;clear h1 h2)
  go_ret2
  refine⟨H2.out,Or.inl ⟨?_,?_,H1.out⟩⟩
  ·rw[HOO.out];exact HO.out
  ·rw[HOO.out];rfl
end
open Go.RowKit Go.Sf
def lds (S:Sto):List Nat:=S.recs.flatMap (·.2.2)
structure JSt (S:Sto) (N:Nat):Prop where
 sd:Steady S.d
 late:S.d.late.length≤4
 n:S.d.n=N
 brk:S.broken=0
 tl:S.taken.length=N
 tk:∀i,i<N→S.taken[i]? = some (decide (i∈lds S))
 nd:(lds S).Nodup
 lt:∀i∈lds S,i<N
 ne:∀r∈S.recs,r.2.2≠[]
 kn:∀r∈S.recs,1≤r.1∧r.1<S.next
 up:(S.recs.map (·.1)).Pairwise (·< ·)
 n1:1≤S.next
theorem split_len (p:Nat→Bool):∀l:List Nat,l.length=(l.filter p).length+(l.filter fun i=>!p i).length
 | []=>rfl
 | a :: t=>by
  have:=split_len p t
  by_cases h:p a=true <;> simp[h] <;> omega
theorem filter_out (N:Nat) (L:List Nat) (hn:L.Nodup) (hl:∀i∈L,i<N):((List.range N).filter fun i=>!decide (i∈L)).length+L.length=N:=by
 have h1:((List.range N).filter fun i=>decide (i∈L)).Perm L:=(List.perm_ext_iff_of_nodup (List.Nodup.sublist List.filter_sublist List.nodup_range) hn).2 fun a=>by
  simp only[List.mem_filter,List.mem_range,decide_eq_true_eq]
  exact⟨And.right,fun h=>⟨hl a h,h⟩⟩
 have h2:=h1.length_eq
 have h3:=split_len (fun i=>decide (i∈L)) (List.range N)
 rw[List.length_range,h2] at h3
 omega
section
variable {S : Sto} {N : Nat}
theorem JSt.fr (h:JSt S N) (n:Nat):freeP S.taken n S.taken.length=((List.range N).filter fun i=>!decide (i∈lds S)).take n:=by
 unfold freeP
 rw[h.tl]
 congr 1
 apply List.filter_congr
 intro i hi
 rw[h.tk i (List.mem_range.1 hi)]
 by_cases hm:i∈lds S <;> simp[hm]
theorem JSt.free (h:JSt S N):freeN S.taken+(lds S).length=N:=by
 have e:S.taken=(List.range N).map fun i=>decide (i∈lds S):=by
  apply List.ext_getElem?
  intro i
  by_cases hi:i<N
  ·rw[h.tk i hi];simp[hi]
  ·rw[List.getElem?_eq_none (by rw[h.tl];omega),List.getElem?_eq_none (by simp;omega)]
 have h1:=filter_out N (lds S) h.nd h.lt
 have h2:freeN S.taken=((List.range N).filter fun i=>!decide (i∈lds S)).length:=by
  rw[e]
  unfold freeN
  rw[List.countP_map,List.countP_eq_length_filter]
  congr 1
 omega
theorem JSt.put (h:JSt S N) (hx:S.next≤4611686018427387904) {b:List Int} (hb:b.length≤131072) (hf:partsN b.length≤freeN S.taken) (hp:0<partsN b.length) :
  ∃S' fr,S.put b=(S',S.next,0)∧JSt S' N∧S'.recs=S.recs ++ [(S.next,(b,fr))]∧S'.next=S.next+1∧fr.length=partsN b.length:=by
 have hfr:=h.fr (partsN b.length)
 have h2:=h.free
 have h1:=filter_out N (lds S) h.nd h.lt
 have hlen:(freeP S.taken (partsN b.length) S.taken.length).length=partsN b.length:=by
  rw[hfr,List.length_take]
  omega
 obtain⟨d',s1,s2,s3,s4⟩:=put_ok h.sd h.brk hx (h.tl.trans h.n.symm) hb hlen
 have hin:∀i∈freeP S.taken (partsN b.length) S.taken.length,i<N∧i ∉ lds S:=fun i hi=>by
  rw[hfr] at hi
  have:=List.mem_of_mem_take hi
  simp only[List.mem_filter,List.mem_range,Bool.not_eq_true',decide_eq_false_iff_not] at this
  exact this
 have hnd:=freeP_nodup S.taken (partsN b.length) S.taken.length
 generalize freeP S.taken (partsN b.length) S.taken.length=fr at *
 have hnk:∀r∈S.recs,r.1≠S.next:=fun r hr e=>by have:=(h.kn r hr).2;omega
 have hre:mput S.recs S.next (b,fr)=S.recs ++ [(S.next,(b,fr))]:=mput_new hnk _
 have hlds:lds ((Sto.kept { S with d:=d' } S.next b fr).next1)=lds S++fr:=by
  show(mput S.recs S.next (b,fr)).flatMap (·.2.2)=_
  rw[hre]
  unfold lds
  simp
 refine⟨_,fr,s4,⟨s1,by show d'.late.length≤4;rw[s3];exact Nat.zero_le _,s2.trans h.n,h.brk,?_,?_,?_,?_,?_,?_,?_,?_⟩,hre,rfl,hlen⟩
 ·show(setT S.taken fr true).length=N
  rw[setT_len,h.tl]
 ·intro i hi
  rw[hlds]
  show(setT S.taken fr true)[i]? = _
  by_cases hm:i∈fr
  ·rw[setT_in fr S.taken i hm (by rw[h.tl];exact hi)]
   simp[hm]
  ·rw[setT_out fr S.taken i hm,h.tk i hi]
   simp[hm]
 ·rw[hlds]
  refine List.nodup_append.2 ⟨h.nd,hnd,fun a ha c hc e=>?_⟩
  subst e
  exact(hin a hc).2 ha
 ·rw[hlds]
  intro i hi
  rcases List.mem_append.1 hi with e|e
  ·exact h.lt i e
  ·exact(hin i e).1
 ·intro r hr
  have hr2:r∈S.recs ++ [(S.next,(b,fr))]:=by rw[←hre];exact hr
  rcases List.mem_append.1 hr2 with e|e
  ·exact h.ne r e
  ·rw[List.mem_singleton.1 e]
   intro e2
   simp only at e2
   rw[e2] at hlen
   simp at hlen
   omega
 ·intro r hr
  have hr2:r∈S.recs ++ [(S.next,(b,fr))]:=by rw[←hre];exact hr
  show 1≤r.1∧r.1<S.next+1
  rcases List.mem_append.1 hr2 with e|e
  ·have:=h.kn r e;omega
  ·rw[List.mem_singleton.1 e]
   have:=h.n1
   simp only
   omega
 ·show((mput S.recs S.next (b,fr)).map (·.1)).Pairwise _
  rw[hre,List.map_append]
  refine List.pairwise_append.2 ⟨h.up,by simp,fun a ha c hc=>?_⟩
  obtain⟨r,hr,rfl⟩:=List.mem_map.1 ha
  simp only[List.map_cons,List.map_nil,List.mem_singleton] at hc
  subst hc
  exact(h.kn r hr).2
 ·show 1≤S.next+1
  have:=h.n1
  omega
theorem mdel_head {V:Type} {k:Int} {v:V} {l:List (Int × V)} (h:∀p∈l,p.1≠k):mdel ((k,v) :: l) k=l:=by
 unfold mdel
 rw[List.filter_cons_of_neg (by simp)]
 exact List.filter_eq_self.2 fun p hp=>by simpa using h p hp
theorem JSt.rem (h:JSt S N) {k:Int} {b:List Int} {fr:List Nat} {l:List (Int × List Int × List Nat)} (he:S.recs=(k,(b,fr)) :: l) :
  ∃S',S.rem k=(S',0)∧JSt S' N∧S'.recs=l∧S'.next=S.next:=by
 have hup:=h.up
 rw[he,List.map_cons,List.pairwise_cons] at hup
 have hne:∀p∈l,p.1≠k:=fun p hp e=>by
  have:=hup.1 p.1 (List.mem_map_of_mem hp)
  omega
 have hg:mget S.recs k=some (b,fr):=by rw[he];simp[mget]
 have hl0:lds S=fr++l.flatMap (·.2.2):=by unfold lds;rw[he];rfl
 have hfr:fr≠[]:=h.ne (k,(b,fr)) (by rw[he];exact List.mem_cons_self ..)
 have hhd:fr.headD 0<S.d.n:=by
  rw[h.n]
  cases fr with
  | nil=>exact absurd rfl hfr
  | cons x t=>exact h.lt x (by rw[hl0];simp)
 obtain⟨d',s1,s2,s3,s4⟩:=rem_ok h.sd h.brk hg hhd
 have hd:mdel S.recs k=l:=by rw[he];exact mdel_head hne
 have hnd:=h.nd
 rw[hl0] at hnd
 obtain⟨n1,n2,n3⟩:=List.nodup_append.1 hnd
 rw[hd] at s4
 refine⟨_,s4,⟨s1,by show d'.late.length≤4;rw[s3];exact Nat.zero_le _,s2.trans h.n,h.brk,?_,?_,n2,fun i hi=>h.lt i (by rw[hl0];exact List.mem_append.2 (Or.inr hi)),fun r hr=>h.ne r (by rw[he];exact List.mem_cons_of_mem _ hr),fun r hr=>h.kn r (by rw[he];exact List.mem_cons_of_mem _ hr),hup.2,h.n1⟩,rfl,rfl⟩
 ·show(setT S.taken fr false).length=N
  rw[setT_len,h.tl]
 ·intro i hi
  show(setT S.taken fr false)[i]? = some (decide (i∈l.flatMap (·.2.2)))
  by_cases hm:i∈fr
  ·rw[setT_in fr S.taken i hm (by rw[h.tl];exact hi)]
   have:i ∉ l.flatMap (·.2.2):=fun e=>n3 i hm i e rfl
   simp only[this,decide_false]
  ·rw[setT_out fr S.taken i hm,h.tk i hi,hl0]
   simp[hm]
end
section
variable {S : Sto} {N : Nat} {J : Jnl} {b : List Int}
theorem met_zero (J:Jnl):J.met 0=J:=by unfold Jnl.met;rw[if_neg (by decide)]
theorem olds_last (a:Int):∀(l:List Int),(∀k∈l,k<a)→olds (l ++ [a]) a=l
 | [],_=>by simp[olds]
 | k :: t,h=>by
  have h1:=olds_last a t (fun x hx=>h x (List.mem_cons_of_mem _ hx))
  unfold olds at *
  rw[List.cons_append,List.takeWhile_cons_of_pos (by simpa using h k (List.mem_cons_self ..)),h1]
end
end Go.Proofs.YtbcbhlfjgobejaaGreat
