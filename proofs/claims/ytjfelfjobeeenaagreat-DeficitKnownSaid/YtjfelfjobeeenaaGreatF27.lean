/- deficit.next's iterator, some tasks under way: walked. Conditions: needs and tasks that lie in memory. deficit.Next, some tasks under way: walked. Conditions: needs and tasks that lie in memory. -/
import Derived.Test.YtjfelfjobeeenaaGreatF22
import Derived.Test.YtjfelfjobeeenaaGreatF26
set_option linter.unusedSimpArgs false
set_option linter.unusedVariables false
namespace Go.Proofs.YtjfelfjobeeenaaGreat
open Go.RowKit Go.Sf Go.Shelf
attribute [local go_sem] Oper.semAt_some
theorem row_lowerN {W:World} {base base' n:Nat} {e:TypeId} {size:Nat} {v:Value} {xs:List Value} (h:W.ownsRow base e size v n xs) (hb:base'≤base):W.ownsRow base' e size v n xs:=
 ⟨h.1,h.2.imp id fun ⟨g,cap,cur,hv,hb2,rest⟩=>⟨g,cap,cur,hv,Nat.le_trans hb hb2,rest⟩⟩
structure NxJ (bn:List Int) (B b:Nat) (ts pre:List Tsk) (v tv:Value) (W:World):Prop where
 tk:W.ownsRow B 3 1 tv (bn++pre.map (·.nd)).length ((bn++pre.map (·.nd)).map (Value.int .i64))
 row:W.ownsRow B 56 4 v ts.length (ts.flatMap tskCells)
 lt:∀g,v.ownBlock=some g→g<b
theorem NxJ.grown {bn:List Int} {B b:Nat} {ts pre:List Tsk} {v tv:Value} {W W':World} (h:NxJ bn B b ts pre v tv W) (hg:W.grownBy W' none):NxJ bn B b ts pre v tv W':=
 ⟨h.tk.kept hg (by cases hv:tv.ownBlock <;> simp),h.row.kept hg (by cases hv:v.ownBlock <;> simp),h.lt⟩
theorem NxJ.body {bn:List Int} {B b:Nat} {ts pre:List Tsk} {v tv:Value} {W W':World} (h:NxJ bn B b ts pre v tv W) (hk:KpN b W W'):NxJ bn B b ts pre v tv W':=
 ⟨own_sm h.tk (fun g hg=>by
  obtain⟨c,hc⟩:=own_ty h.tk hg
  exact hk.same g c _ _ hc (Or.inl rfl)),own_sm h.row (fun g hg=>by
  obtain⟨c,hc⟩:=own_ty h.row hg
  exact hk.same g c _ _ hc (Or.inr ⟨h.lt g hg,by decide⟩)),h.lt⟩
theorem NxJ.add {bn:List Int} {B b:Nat} {ts pre:List Tsk} {v tv tv':Value} {W W':World} (h:NxJ bn B b ts pre v tv W) (hg:W.grownBy W' tv.ownBlock) (t:Tsk) (ho:W'.ownsRow B 3 1 tv' ((bn++pre.map (·.nd)).length+1) ((bn++pre.map (·.nd)).map (Value.int .i64) ++ [.int .i64 t.nd])):NxJ bn B b ts (pre ++ [t]) v tv' W':=
 ⟨by simpa[Nat.add_assoc] using ho,own_sm h.row (fun g hg2=>by
  obtain⟨c,hc⟩:=own_ty h.row hg2
  refine hg.block g (Array.getElem?_eq_some_iff.1 hc).1 (fun e=>?_)
  obtain⟨c2,hc2⟩:=own_ty h.tk e.symm
  rw[hc] at hc2
  injection hc2 with e1
  injection e1 with e2 e3
  exact absurd e3 (by decide)),h.lt⟩
theorem NxJ.cells {bn:List Int} {B b:Nat} {ts pre:List Tsk} {v tv:Value} {W:World} (h:NxJ bn B b ts pre v tv W) {k:Nat} {t:Tsk} (hk:ts[k]? = some t):∃g cap,v = .slice (some ⟨g,0,none⟩) ts.length cap∧∀j u,(tskCells t)[j]? = some u→W.cell? ⟨g,k*4+j,none⟩=some u:=by
 obtain⟨h1,rfl⟩:=List.getElem?_eq_some_iff.1 hk
 have hS:SRow W 56 4 tskCells v ts:=⟨h.row.1,h.row.2.imp id fun ⟨b,cap,cur,e,_,rest⟩=>⟨b,cap,cur,e,Nat.zero_le _,rest⟩⟩
 rcases hS.at tsk_len with h0|⟨g,cap,e,hc,_⟩
 ·subst h0;simp at h1
 ·exact⟨g,cap,e,fun j u hu=>hc k h1 j u hu⟩
set_option maxRecDepth 100000 in
set_option maxHeartbeats 8000000 in
theorem next1B_fam {w:World} {Bb Bn:Nat} {v:Value} {l:List Nd} {bv:Value} {bs:List Tsk} (hb:w.cell? ⟨Bb,0,none⟩=some bv) (hbr:LRead w 4 tskCells bv bs) (hbl2:bs.length≤400000) (hbl:Bb<w.heap.size) (hn:w.cell? ⟨Bn,0,none⟩=some v) (hnl:Bn<w.heap.size) (h:NRow w v l) (hl:(rawT l).length≤400000) (hl2:l.length≤1000000) :
  FamCall Fence.wide 4 Tryz.prog 128 #[.pointer (some ⟨Bb,0,none⟩),.pointer (some ⟨Bn,0,none⟩)] (fun t:Tsk=>#[encTsk t]) 3 1000000 KpN (fun xs=>xs=pkB (bs.map (·.nd)) (sortT (rawT l))) (fun pre=>pre <+: pkB (bs.map (·.nd)) (sortT (rawT l))) w:=by
 intro lp J Jx W hW hJ hY h0
 obtain⟨i0,hi,hz0,hz1,hz2⟩:=info_parts infoZ
 have fT:Fence.wide.fn 18:=trivial
 have fC:Fence.wide.fn 64:=trivial
 have HTS:=fun W' (hg:w.grownBy W' none)=>tasks_any (w:=W') (h.grown hg) (by omega) hl2
 have hgW:w.grownBy W none:=below_grown hW
 have HBR:=Lib.hid (hbr.grown hgW)
 obtain⟨pb,cpb,rfl,-⟩:=hbr
 have cb:W.cell? ⟨Bb,0,none⟩=some (.slice pb bs.length cpb):=hgW.cell hb (by simp)
 have cn:W.cell? ⟨Bn,0,none⟩=some v:=hgW.cell hn (by simp)
 have HT:=Lib.hid (fun W' (hg:W.grownBy W' none)=>HTS W' (grown_trans hgW hg))
 have hsl:(sortT (rawT l)).length≤400000:=by rw[(sortT_perm _).length_eq];exact hl
 generalize sortT (rawT l)=ts at *
 have HSL:=Lib.hid hsl
 obtain⟨bn,hbn⟩:∃bn,bn=bs.map (·.nd):=⟨_,rfl⟩
 rw[←hbn]
 have HBN:=Lib.hid hbn
 have HBL:Hid (bn.length≤400000):=(show _≤_ from by rw[hbn,List.length_map];exact hbl2)
 obtain⟨nb,hnb⟩:∃nb,nb=bs.length:=⟨_,rfl⟩
 rw[←hnb] at cb HBR
 have HNB:=Lib.hid hnb
 have hnb1:nb≤400000:=by rw[hnb];exact hbl2
 have HCN:=Lib.hid cn
 have HJ0:Hid (∀b,J b [] W):=(show ∀b,J b [] W from h0)
 have HJ:Hid (∀b,RowTurns W.heap.size 3 (J b)):=(show ∀b,RowTurns _ _ _ from hJ)
 have HY:Hid (∀b pre x W1,b≤W1.heap.size→J b pre W1→pre.length<1000000→YieldAt Fence.wide (4-1) Tryz.prog lp #[encTsk x] W1 fun e W'=>(e = .returned (.bool true)∧J b (pre ++ [x]) W'∧KpN b W1 W')∨(e = .returned (.bool false)∧Jx (pre ++ [x]) W')):=(show ∀b pre x W1,_→_→_→YieldAt _ _ _ _ _ _ _ from hY)
 clear HTS hgW hb hn hsl hbn hnb hbl2 hJ hY h0 hW
 refine callsIn_of_wp Tryz.func128 rfl trivial ?_ rfl
 simp only[Tryz.ntmps128,List.size_toArray,List.length_cons,List.length_nil,Nat.reduceAdd,Nat.reduceSub,Array.replicate_succ,Array.replicate_zero,List.push_toArray,List.append_toArray,List.nil_append,List.cons_append]
 gi_wp2
 clear cb cn
 gi_loopw [4,11] (fun x i wr=>∃k:Nat,k≤nb∧i = .int .i64 k∧Hid (∀b,J b [] wr)∧Hid (W.grownBy wr none)∧Hid (wr.ownsRow W.heap.size 3 1 x k ((bn.take k).map (Value.int .i64)))) (fun _ i _=>nb-(intOf i).toNat)
 case atStart=>exact⟨0,Nat.zero_le _,rfl,HJ0,(show W.grownBy W none from grown_refl _),(show W.ownsRow _ _ _ _ _ _ from World.ownsRow_nil _ _ _ _)⟩
 case round=>
 clear HJ0
 obtain⟨k,hk,rfl,hJ2,hG2,hO2⟩:=hrel
 rcases Nat.lt_or_ge k nb with hlt|hge
 ·obtain⟨s,hs⟩:∃s,bs[k]? = some s:=⟨_,List.getElem?_eq_getElem (by rw[←HNB.out];exact hlt)⟩
  obtain⟨g,hgp,c0,c1,c2,c3⟩:=(HBR.out.grown hG2.out).tsk hs
  have HTK:Hid ((bn.take (k+1)).map (Value.int .i64)=(bn.take k).map (Value.int .i64) ++ [.int .i64 s.nd]):=(show _=_ from by
   rw[HBN.out,←List.map_take,List.take_succ_eq_append_getElem (List.getElem?_eq_some_iff.1 hs).1,(List.getElem?_eq_some_iff.1 hs).2];simp)
  subst hgp
  clear hs
  generalize s.id.key=key at *
  generalize s.id.ver=ver at *
  generalize s.nd=nd at *
  generalize s.held=held at *
  have HGX:=Lib.hid (World.grownBy_alloc wr (.cells #[.string key,.int .i64 ver,.int .i64 nd,.int .i64 held] 56) none)
  gi_wp2_with (gi_at_builtin;refine wpListIn_append_own _ rfl _ _ 69 rfl W.heap.size 3 i0 (.int .i64 0) 1 8 Tryz.underlying69 hi hz0 hz1 hz2 rfl (by decide) _ _ _ rfl ((hO2.out.alloc _).alloc _) ⟨wr.heap.size+1,0,none⟩ 1 1 [.int .i64 nd] rfl rfl ?c1 ?c2 ?c3 ?c4 ?c5 ?_)
  case c1=>
   intro j u hj
   match j,hj with
   | 0,hj=>simp at hj;subst hj;simp[Addr.add,go_sem]
   | j+1,hj=>simp at hj
  case c2=>intro u hu;simp at hu;subst hu;rfl
  case c3=>unfold maxLen;omega
  case c4=>omega
  case c5=>have:=hG2.out.size;simp;omega
  intro tv' w9 ho hg9 _
  have HGI:=Lib.hid (World.grownBy_alloc (wr.alloc (.cells #[.string key,.int .i64 ver,.int .i64 nd,.int .i64 held] 56)) (.cells #[.int .i64 nd] 3) none)
  have HJ9:Hid (∀b,J b [] w9):=(show ∀b,J b [] w9 from fun b=>HJ.out b _ _ _ _ (HJ.out b _ _ _ none (HJ.out b _ _ _ none (hJ2.out b) HGX.out (fun r e=>by cases e)) HGI.out (fun r e=>by cases e)) hg9 (fun r e=>⟨row_base hO2.out r e,own_ty ((hO2.out.alloc _).alloc _) e⟩))
  have HG9:Hid (W.grownBy w9 none):=(show _ from grown_own (grown_trans (grown_trans hG2.out HGX.out) HGI.out) hg9 (row_base hO2.out))
  have HO9:Hid (w9.ownsRow W.heap.size 3 1 tv' (k+1) ((bn.take (k+1)).map (Value.int .i64))):=(show w9.ownsRow _ _ _ _ _ _ from by rw[HTK.out];simpa using ho)
  clear ho hg9 c0 c1 c2 c3 hJ2 hG2 hO2
  gi_wp2
  go_roundw
  case rel=>exact⟨k+1,by omega,by go_num,HJ9,HG9,HO9⟩
  case measure=>simp[intOf];omega
 ·obtain rfl:nb=k:=by omega
  have cn:wr.cell? ⟨Bn,0,none⟩=some v:=hG2.out.cell HCN.out (by simp)
  have HT2:=Lib.hid (HT.out wr hG2.out)
  gi_wp2_with (gi_at_call 18;refine(callsIn_wide.2 HT2.out).mono ?_;rintro e W1 ⟨v',rfl,hta⟩;obtain⟨p,cap,rfl⟩:=hta.len;have HTA:=Lib.hid hta;clear hta)
  have HTB:Hid (W1.ownsRow W.heap.size 3 1 u4 bn.length (bn.map (Value.int .i64))):=(show W1.ownsRow _ _ _ _ _ _ from by
   have e1:bn.length=nb:=by rw[HBN.out,List.length_map,HNB.out]
   have h:=hO2.out.kept HTA.out.2 (by cases hv:u4.ownBlock <;> simp)
   rw[List.take_of_length_le (by rw[e1];exact Nat.le_refl _)] at h
   rw[e1];exact h)
  have hB0:Hid (∀b,J b [] W1):=(show ∀b,J b [] W1 from fun b=>HJ.out b [] _ W1 none (hJ2.out b) HTA.out.2 (fun r e=>by cases e))
  have hN0:Hid (NxJ bn W.heap.size W1.heap.size ts [] (.slice p ts.length cap) u4 W1):=(show NxJ _ _ _ _ _ _ _ _ from ⟨by have:=HTB.out;simpa using this,row_lowerN HTA.out.1 hG2.out.size,fun g hg=>by
   obtain⟨c,hc⟩:=own_ty HTA.out.1 hg
   exact(Array.getElem?_eq_some_iff.1 hc).1⟩)
  have HBB:Hid (W.heap.size≤W1.heap.size):=(show _≤_ from Nat.le_trans hG2.out.size HTA.out.2.size)
  clear cn HT HT2 HTA HTB hJ2 hG2 hO2
  generalize W.heap.size=B at *
  generalize hwb:W1.heap.size=b at *
  have HWB:=Lib.hid hwb
  clear hwb
  generalize hq:ts.length=q at *
  have HQ:=Lib.hid hq
  clear hq
  have hq1:q≤400000:=by have:=HSL.out;have:=HQ.out;omega
  gi_wp2
  gi_loopw [4,24] (fun x i wr=>∃k:Nat,k≤q∧i = .int .i64 k∧Hid (J b (pkB bn (ts.take k)) wr)∧Hid (NxJ bn B b ts (pkB bn (ts.take k)) (.slice p q cap) x wr)∧Hid (B≤wr.heap.size∧b≤wr.heap.size)) (fun _ i _=>q-(intOf i).toNat)
  case atStart=>exact⟨0,Nat.zero_le _,rfl,hB0.out b,hN0,(show _∧_ from by rw[HWB.out];exact⟨HBB.out,Nat.le_refl _⟩)⟩
  case round=>
   clear hB0 hN0 HBB
   obtain⟨k,hk,rfl,hj,hn,hbw⟩:=hrel
   rcases Nat.lt_or_ge k q with hlt|hge
   ·obtain⟨t,ht⟩:∃t,ts[k]? = some t:=⟨_,List.getElem?_eq_getElem (by rw[HQ.out];exact hlt)⟩
    have HPT:=Lib.hid (pkB_take (bs:=bn) ht)
    obtain⟨g,cap2,e,hc⟩:=hn.out.cells ht
    injection e with e1 e2 e3
    subst e1
    clear e2 e3 ht cap2
    have c0:=hc 0 _ rfl
    have c1:=hc 1 _ rfl
    have c2:=hc 2 _ rfl
    have c3:=hc 3 _ rfl
    simp only[Nat.add_zero] at c0 c1 c2 c3
    clear hc
    have HPL:Hid ((pkB bn (ts.take k)).length≤k):=(show _≤_ from Nat.le_trans (pkB_len _ _) (List.length_take_le _ _))
    have HPP:=Lib.hid (pkB_pre bn ts (k+1))
    generalize pkB bn (ts.take k)=pre at *
    have HCN:=fun W' (hg:wr.grownBy W' none)=>contains_any (ird_of_own (hn.out.grown hg).tk) t.nd (by have:=HPL.out;have:=HBL.out;simp;omega)
    generalize hbq:decide (t.nd∈bn++pre.map (·.nd))=bq at *
    have HCN2:=Lib.hid HCN
    have HBQ:=Lib.hid hbq
    clear HCN hbq
    obtain⟨⟨key,ver⟩,nd,held⟩:=t
    simp only at c0 c1 c2 c3
    have HBX:=Lib.hid (World.alloc_heap_new wr (.cells #[.string key,.int .i64 ver,.int .i64 nd,.int .i64 held] 56))
    have HGX:=Lib.hid (World.grownBy_alloc wr (.cells #[.string key,.int .i64 ver,.int .i64 nd,.int .i64 held] 56) none)
    cases bq with
    | true=>
     have HP2:Hid (pkB bn (ts.take (k+1))=pre):=(show _=_ from by rw[HPT.out];unfold pkBStep;rw[if_pos (of_decide_eq_true HBQ.out)])
     have hq:=HCN2.out _ HGX.out
     gi_wp2_with (gi_at_call 64;refine(callsIn_wide.2 hq).mono ?_;rintro e w' ⟨rfl,rfl⟩)
     go_roundw
     case rel=>exact⟨k+1,by omega,by go_num,(by rw[HP2.out];exact HJ.out b _ _ _ none hj.out HGX.out (fun r e=>by cases e)),(by rw[HP2.out];exact hn.out.grown HGX.out),(show _∧_ from ⟨Nat.le_trans hbw.out.1 HGX.out.size,Nat.le_trans hbw.out.2 HGX.out.size⟩)⟩
     case measure=>simp[intOf];omega
    | false=>
     have HP2:Hid (pkB bn (ts.take (k+1))=pre ++ [⟨⟨key,ver⟩,nd,held⟩]):=(show _=_ from by rw[HPT.out];unfold pkBStep;rw[if_neg (of_decide_eq_false HBQ.out)])
     have hq:=HCN2.out _ HGX.out
     have hbx:wr.heap.size<(wr.alloc (.cells #[.string key,.int .i64 ver,.int .i64 nd,.int .i64 held] 56)).heap.size:=by simp
     gi_wp2_with (first
      | (gi_at_call 64;refine(callsIn_wide.2 hq).mono ?_;rintro e w' ⟨rfl,rfl⟩)
      | (gi_at_builtin;refine wpListIn_append_own _ rfl _ _ 69 rfl B 3 i0 (.int .i64 0) 1 8 Tryz.underlying69 hi hz0 hz1 hz2 rfl (by decide) _ _ _ rfl ((hn.out.grown HGX.out).tk.alloc _) ⟨wr.heap.size+1,0,none⟩ 1 1 [.int .i64 nd] rfl rfl ?c1 ?c2 ?c3 ?c4 ?c5 ?_))
     case c1=>
      intro j u hj
      match j,hj with
      | 0,hj=>simp at hj;subst hj;simp[Addr.add,go_sem]
      | j+1,hj=>simp at hj
     case c2=>intro u hu;simp at hu;subst hu;rfl
     case c3=>unfold maxLen;have:=HPL.out;have:=HBL.out;simp;omega
     case c4=>have:=HPL.out;have:=HBL.out;simp;omega
     case c5=>have:=hbw.out.1;simp;omega
     intro tv' w9 ho hg9 _
     have HGI:=Lib.hid (World.grownBy_alloc (wr.alloc (.cells #[.string key,.int .i64 ver,.int .i64 nd,.int .i64 held] 56)) (.cells #[.int .i64 nd] 3) none)
     have hn2:=(hn.out.grown HGX.out).grown HGI.out
     have HN9:=Lib.hid (hn2.add hg9 ⟨⟨key,ver⟩,nd,held⟩ (by simpa using ho))
     have hj9:J b pre w9:=HJ.out b _ _ _ _ (HJ.out b _ _ _ none (HJ.out b _ _ _ none hj.out HGX.out (fun r e=>by cases e)) HGI.out (fun r e=>by cases e)) hg9 (fun r e=>⟨row_base hn2.tk r e,own_ty hn2.tk e⟩)
     have hb9:w9.heap[wr.heap.size]? = some (.cells #[.string key,.int .i64 ver,.int .i64 nd,.int .i64 held] 56 (0,0)):=by
      have hb2:=(HGI.out.block wr.heap.size hbx (by simp)).trans HBX.out
      refine(hg9.block wr.heap.size (Array.getElem?_eq_some_iff.1 hb2).1 (fun e=>?_)).trans hb2
      obtain⟨c2,hc2⟩:=own_ty hn2.tk e.symm
      rw[hb2] at hc2
      injection hc2 with e1
      injection e1 with e2 e3
      exact absurd e3 (by decide)
     have hs9:B≤w9.heap.size∧b≤w9.heap.size:=by have q1:=hg9.size;have q2:=hbw.out;have q3:=HGI.out.size;have q4:=HGX.out.size;omega
     have HS9:=Lib.hid hs9
     have d0:w9.cell? ⟨wr.heap.size,0,none⟩=some (.string key):=(cell_block hb9 0).trans rfl
     have d1:w9.cell? ⟨wr.heap.size,1,none⟩=some (.int .i64 ver):=(cell_block hb9 1).trans rfl
     have d2:w9.cell? ⟨wr.heap.size,2,none⟩=some (.int .i64 nd):=(cell_block hb9 2).trans rfl
     have d3:w9.cell? ⟨wr.heap.size,3,none⟩=some (.int .i64 held):=(cell_block hb9 3).trans rfl
     obtain⟨fn,tmps,assign,body,hy,hR⟩:=HY.out b pre ⟨⟨key,ver⟩,nd,held⟩ w9 hs9.2 hj9 (by have:=HPL.out;omega)
     simp only[encTsk] at hy
     clear ho hg9 hn2 hj9 hb9 hs9 c0 c1 c2 c3 hq hn hj
     gi_wp2
     refine hR.mono ?_
     rintro e W4 (⟨rfl,hJ4,hk4⟩|⟨rfl,hJx4⟩)
     ·have HJ4:Hid (J b (pkB bn (ts.take (k+1))) W4):=(show J b _ W4 from by rw[HP2.out];exact hJ4)
      have HN4:Hid (NxJ bn B b ts (pkB bn (ts.take (k+1))) (.slice (some ⟨g,0,none⟩) q cap) tv' W4):=(show NxJ _ _ _ _ _ _ _ _ from by rw[HP2.out];exact HN9.out.body hk4)
      have HS4:Hid (B≤W4.heap.size∧b≤W4.heap.size):=(show _∧_ from ⟨Nat.le_trans HS9.out.1 hk4.size,Nat.le_trans HS9.out.2 hk4.size⟩)
      clear hJ4 hk4
      gi_wp2
      go_roundw
      case rel=>exact⟨k+1,by omega,by go_num,HJ4,HN4,HS4⟩
      case measure=>simp[intOf];omega
     ·have HX4:Hid (pre ++ [⟨⟨key,ver⟩,nd,held⟩] <+: pkB bn ts):=(show _ <+: _ from by rw[←HP2.out];exact HPP.out)
      gi_wp2
      refine bodyPost_ret (results_none rfl _ _ _) rfl ?_
      exact⟨⟨_,rfl⟩,.inr ⟨_,HX4.out,hJx4⟩⟩
   ·obtain rfl:k=q:=by omega
    gi_wp2
    go_end0
    refine⟨⟨_,rfl⟩,.inl ⟨b,_,rfl,?_⟩⟩
    have:=hj.out
    rwa [List.take_of_length_le (by rw[HQ.out];exact Nat.le_refl _)] at this
attribute [local go_sem] Oper.semAt_some
theorem dnextB_any (p q:Option Addr) (n c m d:Nat) (W:World):Calls Tryz.prog 65 #[.slice p n c,.slice q m d] W fun e w'=>
  e = .returned (.func (.func 128) #[] #[.pointer (some ⟨W.heap.size+1,0,none⟩),.pointer (some ⟨W.heap.size,0,none⟩)])∧w'=(W.alloc (.cells #[.slice p n c] 44)).alloc (.cells #[.slice q m d] 42):=by
 have hmf:∀(fn:Fn) (first cap:Array Value) (w:World),(Instr.makeFunc fn first cap).run Tryz.prog w = .ok (.func fn first cap) w:=fun _ _ _ _=>rfl
 go_enter Tryz.func65,Tryz.ntmps65
 go_wp2
 go_ret
 exact⟨rfl,rfl⟩
structure NJ (w0:World) (bv:Value) (mt:Int) (Bo Bm Bq:Nat) (most:Nat) (b:Nat) (pre:List Tsk) (W:World):Prop where
 ex:∃v,W.heap[Bo]? = some (.cells #[v] 42 (0,0))∧W.ownsRow (max b w0.heap.size) 56 4 v pre.length (pre.flatMap tskCells)
 bm:W.heap[Bm]? = some (.cells #[.int .i64 mt] 3 (0,0))
 bq:W.heap[Bq]? = some (.cells #[bv] 42 (0,0))
 gr:w0.grownBy W none
 le:pre.length≤most
theorem NJ.turn {w0 W W':World} {bv:Value} {mt:Int} {Bo Bm Bq most b:Nat} {pre:List Tsk} (h:NJ w0 bv mt Bo Bm Bq most b pre W) {row:Option Nat} (hg:W.grownBy W' row) (hr:∀r,row=some r→w0.heap.size≤r∧r≠Bm∧∀c t,W.heap[r]? = some (.cells c t (0,0))→t=3):NJ w0 bv mt Bo Bm Bq most b pre W':=by
 obtain⟨⟨v,h1,h2⟩,h3,h4,h5,h6⟩:=h
 have keep:∀(k:Nat) (c:Array Value) (t:TypeId),W.heap[k]? = some (.cells c t (0,0))→(t=3→k=Bm)→W'.heap[k]? = W.heap[k]?:=fun k c t hk ht=>hg.block k (Array.getElem?_eq_some_iff.1 hk).1 (fun e=>by
  obtain⟨_,r2,r3⟩:=hr k e.symm
  exact r2 (ht (r3 c t hk)))
 refine⟨⟨v,(keep _ _ _ h1 (fun e=>absurd e (by decide))).trans h1,own_sm h2 (fun g hg2=>?_)⟩,(keep _ _ _ h3 (fun _=>rfl)).trans h3,(keep _ _ _ h4 (fun e=>absurd e (by decide))).trans h4,grown_own h5 hg (fun k e=>(hr k e).1),h6⟩
 obtain⟨c,hc⟩:=own_ty h2 hg2
 exact keep g c _ hc (fun e=>absurd e (by decide))
set_option maxRecDepth 100000 in
set_option maxHeartbeats 8000000 in
theorem nextB_any {w:World} {v bv:Value} {l:List Nd} {bs:List Tsk} (mt:Int) (h:NRow w v l) (hbr:LRead w 4 tskCells bv bs) (hbl:bs.length≤400000) (hl:(rawT l).length≤400000) (hl2:l.length≤1000000) :
  CallsIn Fence.wide 5 Tryz.prog 20 #[v,bv,.int .i64 mt] w fun e w'=>∃v',e = .returned v'∧TA w w' v' (nxB (bs.map (·.nd)) (sortT (rawT l)) mt):=by
 obtain⟨p,cap,rfl,hrow⟩:=h
 have h:NRow w (.slice p l.length cap) l:=⟨p,cap,rfl,hrow⟩
 have HROW:=Lib.hid h
 clear h hrow
 have HBR:=Lib.hid hbr
 obtain⟨pb,cpb,rfl,-⟩:=hbr
 obtain⟨nb,hnb⟩:∃nb,nb=bs.length:=⟨_,rfl⟩
 have hnb1:nb≤400000:=by rw[hnb];exact hbl
 obtain⟨bn,hbn⟩:∃bn,bn=bs.map (·.nd):=⟨_,rfl⟩
 obtain⟨most,hmost⟩:∃m:Nat,m=(mt-nb).toNat:=⟨_,rfl⟩
 have HNX:Hid (nxB bn (sortT (rawT l)) mt=(pkB bn (sortT (rawT l))).take most):=(show _=_ from by unfold nxB;rw[hmost,hnb,hbn,List.length_map])
 rw[←hbn,HNX.out]
 rw[←hnb] at HBR ⊢
 have HBN:=Lib.hid hbn
 have hmA:mt-nb≤most:=by omega
 have hmB:(most:Int)≤mt-nb∨most≤0:=by omega
 clear hnb hbn HNX hmost
 obtain⟨i0,hi,hz0,hz1,hz2⟩:=info_parts infoTsk
 have fT:Fence.wide.fn 65:=trivial
 refine callsIn_of_wp_marks Tryz.func20 rfl trivial ?_ rfl
 simp only[Tryz.ntmps20,List.size_toArray,List.length_cons,List.length_nil,Nat.reduceAdd,Nat.reduceSub,Array.replicate_succ,Array.replicate_zero,List.push_toArray,List.append_toArray,List.nil_append,List.cons_append]
 gi_wp2_with (gi_at_call 65;refine(callsIn_wide.2 (dnextB_any _ _ _ _ _ _ _)).mono ?_;rintro e W1 ⟨rfl,rfl⟩)
 obtain⟨W5,hW5⟩:∃x:World,x=((((w.alloc (.cells #[.slice pb nb cpb] 42)).alloc (.cells #[.int .i64 mt] 3)).alloc (.cells #[.slice none 0 0] 42)).alloc (.cells #[.slice p l.length cap] 44)).alloc (.cells #[.slice pb nb cpb] 42):=⟨_,rfl⟩
 have hg5:w.grownBy W5 none:=by rw[hW5];repeat (first|exact grown_refl _|exact World.grownBy_alloc _ _ _|refine grown_alloc ?_ _)
 have hz5:W5.heap.size=w.heap.size+5:=by rw[hW5];simp
 obtain⟨k0,k1,k2,k3,k4⟩:=five w (.cells #[.slice pb nb cpb] 42) (.cells #[.int .i64 mt] 3) (.cells #[.slice none 0 0] 42) (.cells #[.slice p l.length cap] 44) (.cells #[.slice pb nb cpb] 42)
 rw[←hW5] at k0 k1 k2 k3 k4
 rw[←hW5]
 clear hW5
 have HK2:=Lib.hid k2
 have hz6:w.heap.size+1+1=w.heap.size+2:=rfl
 have hf:=next1B_fam (w:=W5) (Bb:=w.heap.size+1+1+1+1) (Bn:=w.heap.size+1+1+1) ((cell_block k4 0).trans rfl) (HBR.out.grown hg5) hbl (by omega) ((cell_block k3 0).trans rfl) (by omega) (HROW.out.grown hg5) hl hl2
 obtain⟨ts,hts⟩:∃ts,ts=sortT (rawT l):=⟨_,rfl⟩
 rw[←hts,←HBN.out] at hf
 have HTS:=Lib.hid hts
 clear hts
 refine rangeFunc_fam (F:=Fence.wide) (n:=5) rfl (by omega) (gf:=128) (lb:=#[.pointer (some ⟨w.heap.size+1+1+1+1,0,none⟩),.pointer (some ⟨w.heap.size+1+1+1,0,none⟩)]) rfl trivial (enters_of Tryz.func128 (by kernel_rfl) rfl) (fun _=>rfl) hf
  (NJ w (.slice pb nb cpb) mt (w.heap.size+2) (w.heap.size+1) w.heap.size most)
  (fun c pre W=>c = .exit 0∧most<pre.length∧∃b,NJ w (.slice pb nb cpb) mt (w.heap.size+2) (w.heap.size+1) w.heap.size most b (pre.take most) W)
  (fun b s A B row hs hg hr=>hs.turn hg (fun r e=>by
   obtain⟨h1,o,h2,h3⟩:=hr r e
   refine⟨by omega,by omega,fun c t hc=>?_⟩
   rw[h2] at hc;cases hc;cases h3))
  (fun c s A B row hs hg hr=>⟨hs.1,hs.2.1,by
   obtain⟨b,hb⟩:=hs.2.2
   exact⟨b,hb.turn hg (fun r e=>by
    obtain⟨h1,o,h2,h3⟩:=hr r e
    refine⟨by omega,by omega,fun c t hc=>?_⟩
    rw[h2] at hc;cases hc;cases h3)⟩⟩)
  (fun b s A B row hs hg hr=>hs.turn hg (fun r e=>by
   obtain⟨h1,c,h2⟩:=hr r e
   refine⟨by omega,by omega,fun c2 t hc=>?_⟩
   rw[h2] at hc;cases hc;rfl))
  (fun b {A B C} h g=>h.trans g) kpn_put
  (fun b=>⟨⟨_,k2,World.ownsRow_nil _ _ _ _⟩,k1,k0,hg5,Nat.zero_le _⟩)
  (fun x a' W=>∃Bx,W.heap[Bx]? = some (.cells #[.string x.id.key,.int .i64 x.id.ver,.int .i64 x.nd,.int .i64 x.held] 56 (0,0))∧a' = { tmps:=#[.slice p l.length cap,.slice pb nb cpb,.int .i64 mt,undef,.pointer (some ⟨w.heap.size,0,none⟩),.pointer (some ⟨w.heap.size+1,0,none⟩),.slice none 0 0,.pointer (some ⟨w.heap.size+1+1,0,none⟩),.pointer (some ⟨Bx,0,none⟩),.slice p l.length cap,.slice pb nb cpb,.func (.func 128) #[] #[.pointer (some ⟨w.heap.size+1+1+1+1,0,none⟩),.pointer (some ⟨w.heap.size+1+1+1,0,none⟩)],encTsk x,undef,undef,undef,undef,undef,undef,undef,undef,undef,undef,undef,undef],defers:=[] })
  (fun x a' _ X Y row hs hg hr=>by
   obtain⟨Bx,h1,h2⟩:=hs
   refine⟨Bx,(hg.block Bx (Array.getElem?_eq_some_iff.1 h1).1 (fun e=>?_)).trans h1,h2⟩
   obtain⟨_,o,ho,hc⟩:=hr Bx e.symm
   rw[h1] at ho;cases ho;cases hc)
  ?assign ?body ?done ?stop
 case assign=>
  rintro lp b pre ⟨⟨key,ver⟩,nd,held⟩ W K hN hK
  simp only[encTsk]
  gi_wp2
  exact hK _ _ ((KeepsOthers.alloc _ _).from _) ⟨by simp,fun k c t fr hk _=>Below.heap_alloc _ _ _ (Array.getElem?_eq_some_iff.1 hk).1⟩ (hN.turn (World.grownBy_alloc _ _ none) (fun r e=>by cases e)) ⟨W.heap.size,World.alloc_heap_new W _,rfl⟩
 case body=>
  rintro lp b pre ⟨⟨key,ver⟩,nd,held⟩ a' W hlp hbs hN ⟨Bx,hBx,rfl⟩ hlt
  have HN:=Lib.hid hN
  obtain⟨⟨v,hv,hrow⟩,hbm,hbq,hgr,hle⟩:=hN
  obtain⟨p',cap',rfl⟩:∃p' cap',v = .slice p' pre.length cap':=by
   rcases hrow.2 with ⟨e,h0⟩|⟨g,c,cur,e,_⟩
   ·exact⟨none,0,by rw[e,h0]⟩
   ·exact⟨_,_,e⟩
  have d0:W.cell? ⟨Bx,0,none⟩=some (.string key):=(cell_block hBx 0).trans rfl
  have d1:W.cell? ⟨Bx,1,none⟩=some (.int .i64 ver):=(cell_block hBx 1).trans rfl
  have d2:W.cell? ⟨Bx,2,none⟩=some (.int .i64 nd):=(cell_block hBx 2).trans rfl
  have d3:W.cell? ⟨Bx,3,none⟩=some (.int .i64 held):=(cell_block hBx 3).trans rfl
  have e4:W.cell? ⟨w.heap.size,0,none⟩=some (.slice pb nb cpb):=(cell_block hbq 0).trans rfl
  have e5:W.cell? ⟨w.heap.size+1,0,none⟩=some (.int .i64 mt):=(cell_block hbm 0).trans rfl
  have e7:W.cell? ⟨w.heap.size+1+1,0,none⟩=some (.slice p' pre.length cap'):=(cell_block hv 0).trans rfl
  have HV:=Lib.hid hv
  have HGS:=hgr.size
  have HROW2:=Lib.hid hrow
  have HBX:=Lib.hid hBx
  clear hv hBx hbm hbq
  simp only[encTsk]
  by_cases c:(nb:Int)+(pre.length:Int)<mt
  ·have hw:IntKind.i64.wrap ((nb:Int)+(pre.length:Int))=(nb:Int)+(pre.length:Int):=by rw[IntKind.wrap_i64];omega
   have cd:decide (mt≤(nb:Int)+(pre.length:Int))=false:=by simpa using c
   have hpm:pre.length<most:=by omega
   have hbx:Bx<W.heap.size:=(Array.getElem?_eq_some_iff.1 HBX.out).1
   gi_wp2_with (gi_at_builtin;refine wpListIn_append_own _ rfl _ _ 42 rfl (max b w.heap.size) 56 i0 (.agg #[.string { data:=#[] },.int .i64 0,.int .i64 0,.int .i64 0]) 4 40 Tryz.underlying42 hi hz0 hz1 hz2 rfl (by decide) _ _ _ rfl (HROW2.out.alloc _) ⟨W.heap.size,0,none⟩ 1 1 [.string key,.int .i64 ver,.int .i64 nd,.int .i64 held] rfl rfl ?c1 ?c2 ?c3 ?c4 ?c5 ?_)
   case c2=>exact⟨rfl,rfl,rfl,rfl⟩
   case c3=>unfold maxLen;omega
   case c4=>omega
   case c5=>omega
   intro v' w9 ho hg9 _
   obtain⟨g',cap9,rfl⟩:=ownsRow_succ ho
   have hbo:w9.heap[w.heap.size+1+1]? = some (.cells #[.slice p' pre.length cap'] 42 (0,0)):=by
    have h2:=(Below.heap_alloc W (.cells #[.string key,.int .i64 ver,.int .i64 nd,.int .i64 held] 56) _ (Array.getElem?_eq_some_iff.1 HV.out).1).trans HV.out
    refine(hg9.block _ (Array.getElem?_eq_some_iff.1 h2).1 (fun e=>?_)).trans h2
    obtain⟨c2,hc2⟩:=own_ty (HROW2.out.alloc _) e.symm
    rw[h2] at hc2
    injection hc2 with e1
    injection e1 with e2 e3
    exact absurd e3 (by decide)
   have k7:w9.cell? ⟨w.heap.size+1+1,0,none⟩=some (.slice p' pre.length cap'):=(cell_block hbo 0).trans rfl
   have f7:w9.frozen? ⟨w.heap.size+1+1,0,none⟩=false:=free_block hbo 0
   have HQ:Hid (KeepsFrom W5.heap.size W (w9.setCell ⟨w.heap.size+1+1,0,none⟩ (.slice (some ⟨g',0,none⟩) (pre.length+1) cap9))∧KpN b W (w9.setCell ⟨w.heap.size+1+1,0,none⟩ (.slice (some ⟨g',0,none⟩) (pre.length+1) cap9))∧NJ w (.slice pb nb cpb) mt (w.heap.size+2) (w.heap.size+1) w.heap.size most b (pre ++ [⟨⟨key,ver⟩,nd,held⟩]) (w9.setCell ⟨w.heap.size+1+1,0,none⟩ (.slice (some ⟨g',0,none⟩) (pre.length+1) cap9))):=(show _∧_∧NJ _ _ _ _ _ _ _ _ _ _ from by
    have hst:=grownBy_setCell' w9 (w.heap.size+1+1) (.slice (some ⟨g',0,none⟩) (pre.length+1) cap9)
    have old:∀k o,W.heap[k]? = some o→k≠w.heap.size+1+1→(Value.slice p' pre.length cap').ownBlock≠some k→(w9.setCell ⟨w.heap.size+1+1,0,none⟩ (.slice (some ⟨g',0,none⟩) (pre.length+1) cap9)).heap[k]? = some o:=fun k o hk h1 h2=>by
     have hlt:=(Array.getElem?_eq_some_iff.1 hk).1
     have q1:=Below.heap_alloc W (.cells #[.string key,.int .i64 ver,.int .i64 nd,.int .i64 held] 56) k hlt
     have q2:=hg9.block k (by simp;omega) (fun e=>h2 e.symm)
     have q3:=hst.block k (by have:=hg9.size;simp at this;omega) (fun e=>h1 (by cases e;rfl))
     rw[q3,q2,q1,hk]
    have sz:W.heap.size≤(w9.setCell ⟨w.heap.size+1+1,0,none⟩ (.slice (some ⟨g',0,none⟩) (pre.length+1) cap9)).heap.size:=by
     have h1:=hg9.size
     have h2:=hst.size
     simp at h1
     omega
    refine⟨⟨sz,fun k o _ hk ho2=>old k o hk (fun e=>?_) (fun e=>?_)⟩,⟨sz,fun k c t fr hk ht=>(old k _ hk (fun e=>?_) (fun e=>?_)).trans hk.symm⟩,⟨.slice (some ⟨g',0,none⟩) (pre.length+1) cap9,?_,?_⟩,?_,?_,?_,?_⟩
    ·rw[e,HV.out] at hk;cases hk;cases ho2
    ·obtain⟨c2,hc2⟩:=own_ty HROW2.out e
     rw[hc2] at hk;cases hk;cases ho2
    ·rw[e,HV.out] at hk
     injection hk with e1
     injection e1 with e2 e3
     rcases ht with ht|⟨_,ht⟩
     ·rw[←e3] at ht;exact absurd ht (by decide)
     ·exact ht e3.symm
    ·obtain⟨c2,hc2⟩:=own_ty HROW2.out e
     have hb2:=row_base HROW2.out k e
     rw[hc2] at hk
     injection hk with e1
     injection e1 with e2 e3
     rcases ht with ht|⟨ht,_⟩
     ·rw[←e3] at ht;exact absurd ht (by decide)
     ·have:=Nat.le_max_left b w.heap.size;omega
    ·exact Boxed.set (v:=.slice p' pre.length cap') _ hbo
    ·have:=ho.kept hst (.inr (fun e=>by
      obtain⟨c2,hc2⟩:=own_ty ho e
      rw[hbo] at hc2
      injection hc2 with e1
      injection e1 with e2 e3
      exact absurd e3 (by decide)))
     simpa[List.flatMap_append,tskCells] using this
    ·exact old _ _ HN.out.bm (by omega) (fun e=>by
      obtain⟨c2,hc2⟩:=own_ty HROW2.out e
      rw[HN.out.bm] at hc2
      injection hc2 with e1
      injection e1 with e2 e3
      exact absurd e3 (by decide))
    ·exact old _ _ HN.out.bq (by omega) (fun e=>by
      obtain⟨c2,hc2⟩:=own_ty HROW2.out e
      rw[HN.out.bq] at hc2
      injection hc2 with e1
      injection e1 with e2 e3
      exact absurd e3 (by decide))
    ·refine grown_own (grown_own (grown_trans HN.out.gr (World.grownBy_alloc _ _ none)) hg9 (fun k e=>Nat.le_trans (Nat.le_max_right b _) (row_base HROW2.out k e))) hst (fun k e=>by cases e;omega)
    ·simp;omega)
   clear ho hg9 hbo
   gi_wp2
   exact HQ.out
  ·have hle2:pre.length=most:=by omega
   have hq:KeepsFrom W5.heap.size W W∧Code.exit 0=Code.exit 0∧most<(pre ++ [(⟨⟨key,ver⟩,nd,held⟩:Tsk)]).length∧∃b,NJ w (.slice pb nb cpb) mt (w.heap.size+2) (w.heap.size+1) w.heap.size most b ((pre ++ [(⟨⟨key,ver⟩,nd,held⟩:Tsk)]).take most) W:=⟨KeepsFrom.refl _ _,rfl,by simp;omega,b,by rw[List.take_append_of_le_length (by omega),List.take_of_length_le (by omega)];exact HN.out⟩
   have HQ:=Lib.hid hq
   clear hq
   have hw:IntKind.i64.wrap ((nb:Int)+(pre.length:Int))=(nb:Int)+(pre.length:Int):=by rw[IntKind.wrap_i64];omega
   have cd:decide (mt≤(nb:Int)+(pre.length:Int))=true:=by simpa using c
   clear hle2
   gi_wp2
   exact⟨KeepsFrom.refl _ _,rfl,HQ.out.2.2⟩
 case done=>
  rintro D b xs W hD rfl hN hK
  obtain⟨⟨v,hv,hrow⟩,hbm,hbq,hgr,hle⟩:=hN
  have e7:W.cell? ⟨w.heap.size+1+1,0,none⟩=some v:=(cell_block hv 0).trans rfl
  gi_wp2
  refine⟨by simp,.inl ⟨_,_,rfl,run_takeDeferred hK,?_⟩⟩
  refine⟨_,results_tmp rfl _ _ _,v,rfl,?_,?_⟩
  ·rw[←HTS.out,List.take_of_length_le hle]
   exact ownsRow_putObj (row_le hrow (Nat.le_max_right _ _)) _ hK rfl
  ·exact grown_own hgr (grownBy_putObj' W D _) (fun k e=>by cases e;omega)
 case stop=>
  rintro D c pre W hD hpre ⟨rfl,hlen,b,hN⟩ hK
  obtain⟨⟨v,hv,hrow⟩,hbm,hbq,hgr,hle⟩:=hN
  have e7:W.cell? ⟨w.heap.size+1+1,0,none⟩=some v:=(cell_block hv 0).trans rfl
  gi_wp2
  refine⟨by simp,.inl ⟨_,_,rfl,run_takeDeferred hK,?_⟩⟩
  refine⟨_,results_tmp rfl _ _ _,v,rfl,?_,?_⟩
  ·obtain⟨r,hr⟩:=hpre
   rw[←HTS.out,←hr,List.take_append_of_le_length (by omega)]
   exact ownsRow_putObj (row_le hrow (Nat.le_max_right _ _)) _ hK rfl
  ·exact grown_own hgr (grownBy_putObj' W D _) (fun k e=>by cases e;omega)
theorem nextE_any {w:World} {v bv:Value} {l:List Nd} {bs:List Tsk} (mt:Int) (h:NRow w v l) (hbr:LRead w 4 tskCells bv bs) (hbl:bs.length≤400000) (hl:(rawT l).length≤400000) (hl2:l.length≤1000000) :
  Calls Tryz.prog 20 #[v,bv,.int .i64 mt] w fun e w'=>∃v',e = .returned v'∧TA w w' v' (nxB (bs.map (·.nd)) (sortT (rawT l)) mt):=callsIn_wide.1 (nextB_any mt h hbr hbl hl hl2)
end Go.Proofs.YtjfelfjobeeenaaGreat
