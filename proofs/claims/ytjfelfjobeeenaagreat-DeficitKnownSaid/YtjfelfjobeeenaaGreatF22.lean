/- deficit.next's iterator, busy none: walked. Conditions: needs that lie in memory. deficit.Next, busy none: walked. Conditions: needs that lie in memory. The example that the laws fall back on: works() answers true. The running state of a law over a table, with blocks of its own; a table's calls at it. Conditions: a table that commands have made. The example that the laws fall back on: works() answers true: the walk. Rows of commands that came in; large(): the walk. Conditions: a row of commands in memory. -/
import Derived.Test.YtjfelfjobeeenaaGreatF21
import Derived.Test.YtjfelfjobeeenaaGreatF10
import Derived.Test.YtjfelfjobeeenaaGreatF14
set_option linter.unusedSimpArgs false
set_option linter.unusedVariables false
namespace Go.Proofs.YtjfelfjobeeenaaGreat
open Go.RowKit Go.Sf Go.Shelf
attribute [local go_sem] Oper.semAt_some
theorem infoZ:(Tryz.prog.info? 3).map (fun i=>(i.zero,i.size,i.bytes))=some (some (.int .i64 0),1,8):=by kernel_rfl
structure KpN (b:Nat) (W W':World):Prop where
 size:W.heap.size≤W'.heap.size
 same:∀k c t fr,W.heap[k]? = some (.cells c t fr)→(t=3∨(k<b∧t≠42))→W'.heap[k]? = W.heap[k]?
theorem KpN.trans {b:Nat} {X Y Z:World} (h:KpN b X Y) (g:KpN b Y Z):KpN b X Z:=
 ⟨Nat.le_trans h.size g.size,fun k c t fr hk ht=>by
  have h1:=h.same k c t fr hk ht
  exact(g.same k c t fr (h1.trans hk) ht).trans h1⟩
theorem own_sm {W W':World} {base n:Nat} {e:TypeId} {size:Nat} {v:Value} {xs:List Value} (h:W.ownsRow base e size v n xs) (hs:∀g,v.ownBlock=some g→W'.heap[g]? = W.heap[g]?):W'.ownsRow base e size v n xs:=by
 refine⟨h.1,?_⟩
 rcases h.2 with hn|⟨b,cap,cur,rfl,h1,hb,h3⟩
 ·exact .inl hn
 ·exact .inr ⟨b,cap,cur,rfl,h1,(hs b (by simp[Value.ownBlock])).trans hb,h3⟩
structure NxI (B b:Nat) (ts pre:List Tsk) (v tv:Value) (W:World):Prop where
 tk:W.ownsRow B 3 1 tv (pre.map (·.nd)).length ((pre.map (·.nd)).map (Value.int .i64))
 row:W.ownsRow B 56 4 v ts.length (ts.flatMap tskCells)
 lt:∀g,v.ownBlock=some g→g<b
theorem NxI.grown {B b:Nat} {ts pre:List Tsk} {v tv:Value} {W W':World} (h:NxI B b ts pre v tv W) (hg:W.grownBy W' none):NxI B b ts pre v tv W':=
 ⟨h.tk.kept hg (by cases hv:tv.ownBlock <;> simp),h.row.kept hg (by cases hv:v.ownBlock <;> simp),h.lt⟩
theorem NxI.body {B b:Nat} {ts pre:List Tsk} {v tv:Value} {W W':World} (h:NxI B b ts pre v tv W) (hk:KpN b W W'):NxI B b ts pre v tv W':=
 ⟨own_sm h.tk (fun g hg=>by
  obtain⟨c,hc⟩:=own_ty h.tk hg
  exact hk.same g c _ _ hc (Or.inl rfl)),own_sm h.row (fun g hg=>by
  obtain⟨c,hc⟩:=own_ty h.row hg
  exact hk.same g c _ _ hc (Or.inr ⟨h.lt g hg,by decide⟩)),h.lt⟩
theorem NxI.add {B b:Nat} {ts pre:List Tsk} {v tv tv':Value} {W W':World} (h:NxI B b ts pre v tv W) (hg:W.grownBy W' tv.ownBlock) (t:Tsk) (ho:W'.ownsRow B 3 1 tv' ((pre.map (·.nd)).length+1) ((pre.map (·.nd)).map (Value.int .i64) ++ [.int .i64 t.nd])):NxI B b ts (pre ++ [t]) v tv' W':=
 ⟨by simpa using ho,own_sm h.row (fun g hg2=>by
  obtain⟨c,hc⟩:=own_ty h.row hg2
  refine hg.block g (Array.getElem?_eq_some_iff.1 hc).1 (fun e=>?_)
  obtain⟨c2,hc2⟩:=own_ty h.tk e.symm
  rw[hc] at hc2
  injection hc2 with e1
  injection e1 with e2 e3
  exact absurd e3 (by decide)),h.lt⟩
theorem NxI.cells {B b:Nat} {ts pre:List Tsk} {v tv:Value} {W:World} (h:NxI B b ts pre v tv W) {k:Nat} {t:Tsk} (hk:ts[k]? = some t):∃g cap,v = .slice (some ⟨g,0,none⟩) ts.length cap∧∀j u,(tskCells t)[j]? = some u→W.cell? ⟨g,k*4+j,none⟩=some u:=by
 obtain⟨h1,rfl⟩:=List.getElem?_eq_some_iff.1 hk
 have hS:SRow W 56 4 tskCells v ts:=⟨h.row.1,h.row.2.imp id fun ⟨b,cap,cur,e,_,rest⟩=>⟨b,cap,cur,e,Nat.zero_le _,rest⟩⟩
 rcases hS.at tsk_len with h0|⟨g,cap,e,hc,_⟩
 ·subst h0;simp at h1
 ·exact⟨g,cap,e,fun j u hu=>hc k h1 j u hu⟩
set_option maxRecDepth 100000 in
set_option maxHeartbeats 8000000 in
theorem next1_fam {w:World} {Bb Bn:Nat} {v:Value} {l:List Nd} (hb:w.cell? ⟨Bb,0,none⟩=some (.slice none 0 0)) (hbl:Bb<w.heap.size) (hn:w.cell? ⟨Bn,0,none⟩=some v) (hnl:Bn<w.heap.size) (h:NRow w v l) (hl:(rawT l).length≤1000000) (hl2:l.length≤1000000) :
  FamCall Fence.wide 4 Tryz.prog 128 #[.pointer (some ⟨Bb,0,none⟩),.pointer (some ⟨Bn,0,none⟩)] (fun t:Tsk=>#[encTsk t]) 3 1000000 KpN (fun xs=>xs=pk (sortT (rawT l))) (fun pre=>pre <+: pk (sortT (rawT l))) w:=by
 intro lp J Jx W hW hJ hY h0
 obtain⟨i0,hi,hz0,hz1,hz2⟩:=info_parts infoZ
 have fT:Fence.wide.fn 18:=trivial
 have fC:Fence.wide.fn 64:=trivial
 have HTS:=fun W' (hg:w.grownBy W' none)=>tasks_any (w:=W') (h.grown hg) hl hl2
 have hgW:w.grownBy W none:=below_grown hW
 have cb:W.cell? ⟨Bb,0,none⟩=some (.slice none 0 0):=hgW.cell hb (by simp)
 have cn:W.cell? ⟨Bn,0,none⟩=some v:=hgW.cell hn (by simp)
 have HT:=Lib.hid (HTS W hgW)
 have hsl:(sortT (rawT l)).length≤1000000:=by rw[(sortT_perm _).length_eq];exact hl
 generalize sortT (rawT l)=ts at *
 have HSL:=Lib.hid hsl
 clear HTS hgW hb hn hsl
 refine callsIn_of_wp Tryz.func128 rfl trivial ?_ rfl
 simp only[Tryz.ntmps128,List.size_toArray,List.length_cons,List.length_nil,Nat.reduceAdd,Nat.reduceSub,Array.replicate_succ,Array.replicate_zero,List.push_toArray,List.append_toArray,List.nil_append,List.cons_append]
 gi_wp2
 gi_loopw [4,11] (fun x i wr=>x = .slice none 0 0∧i = .int .i64 0∧wr=W) (fun _ _ _=>0)
 case atStart=>exact⟨rfl,rfl,rfl⟩
 case round=>
  obtain⟨rfl,rfl,rfl⟩:=hrel
  gi_wp2_with (gi_at_call 18;refine(callsIn_wide.2 HT.out).mono ?_;rintro e W1 ⟨v',rfl,hta⟩;obtain⟨p,cap,rfl⟩:=hta.len;have HTA:=Lib.hid hta;clear hta)
  have hB0:Hid (∀b,J b [] W1):=(show ∀b,J b [] W1 from fun b=>hJ b [] _ W1 none (h0 b) HTA.out.2 (fun r e=>by cases e))
  have hN0:Hid (NxI wr.heap.size W1.heap.size ts [] (.slice p ts.length cap) (.slice none 0 0) W1):=(show NxI _ _ _ _ _ _ _ from ⟨World.ownsRow_nil _ _ _ _,HTA.out.1,fun g hg=>by
   obtain⟨c,hc⟩:=own_ty HTA.out.1 hg
   exact(Array.getElem?_eq_some_iff.1 hc).1⟩)
  have HBB:Hid (wr.heap.size≤W1.heap.size):=(show _≤_ from HTA.out.2.size)
  have HJ:Hid (∀b,RowTurns wr.heap.size 3 (J b)):=(show ∀b,RowTurns _ _ _ from hJ)
  have HY:Hid (∀b pre x W1,b≤W1.heap.size→J b pre W1→pre.length<1000000→YieldAt Fence.wide (4-1) Tryz.prog lp #[encTsk x] W1 fun e W'=>(e = .returned (.bool true)∧J b (pre ++ [x]) W'∧KpN b W1 W')∨(e = .returned (.bool false)∧Jx (pre ++ [x]) W')):=(show ∀b pre x W1,_→_→_→YieldAt _ _ _ _ _ _ _ from hY)
  clear cb cn HT HTA hJ hY h0 hW
  generalize wr.heap.size=B at *
  generalize hwb:W1.heap.size=b at *
  have HWB:=Lib.hid hwb
  clear hwb
  generalize hq:ts.length=q at *
  have HQ:=Lib.hid hq
  clear hq
  have hq1:q≤1000000:=by have:=HSL.out;have:=HQ.out;omega
  gi_wp2
  gi_loopw [4,24] (fun x i wr=>∃k:Nat,k≤q∧i = .int .i64 k∧Hid (J b (pk (ts.take k)) wr)∧Hid (NxI B b ts (pk (ts.take k)) (.slice p q cap) x wr)∧Hid (B≤wr.heap.size∧b≤wr.heap.size)) (fun _ i _=>q-(intOf i).toNat)
  case atStart=>exact⟨0,Nat.zero_le _,rfl,hB0.out b,hN0,(show _∧_ from by rw[HWB.out];exact⟨HBB.out,Nat.le_refl _⟩)⟩
  case round=>
   clear hB0 hN0 HBB
   obtain⟨k,hk,rfl,hj,hn,hbw⟩:=hrel
   rcases Nat.lt_or_ge k q with hlt|hge
   ·obtain⟨t,ht⟩:∃t,ts[k]? = some t:=⟨_,List.getElem?_eq_getElem (by rw[HQ.out];exact hlt)⟩
    have HPT:=Lib.hid (pk_take ht)
    obtain⟨g,cap2,e,hc⟩:=hn.out.cells ht
    injection e with e1 e2 e3
    subst e1
    clear e2 e3 ht cap2
    have c0:=hc 0 _ rfl
    have c1:=hc 1 _ rfl
    have c2:=hc 2 _ rfl
    have c3:=hc 3 _ rfl
    simp only[Nat.add_zero] at c0 c1 c2 c3
    clear hc
    have HPL:Hid ((pk (ts.take k)).length≤k):=(show _≤_ from Nat.le_trans (pk_len _) (List.length_take_le _ _))
    have HPP:=Lib.hid (pk_pre ts (k+1))
    generalize pk (ts.take k)=pre at *
    have HCN:=fun W' (hg:wr.grownBy W' none)=>contains_any (ird_of_own (hn.out.grown hg).tk) t.nd (by have:=HPL.out;simp;omega)
    generalize hbq:decide (t.nd∈pre.map (·.nd))=bq at *
    have HCN2:=Lib.hid HCN
    have HBQ:=Lib.hid hbq
    clear HCN hbq
    obtain⟨⟨key,ver⟩,nd,held⟩:=t
    simp only at c0 c1 c2 c3
    have HBX:=Lib.hid (World.alloc_heap_new wr (.cells #[.string key,.int .i64 ver,.int .i64 nd,.int .i64 held] 56))
    have HGX:=Lib.hid (World.grownBy_alloc wr (.cells #[.string key,.int .i64 ver,.int .i64 nd,.int .i64 held] 56) none)
    cases bq with
    | true=>
     have HP2:Hid (pk (ts.take (k+1))=pre):=(show _=_ from by rw[HPT.out];unfold pkStep;rw[if_pos (of_decide_eq_true HBQ.out)])
     have hq:=HCN2.out _ HGX.out
     gi_wp2_with (gi_at_call 64;refine(callsIn_wide.2 hq).mono ?_;rintro e w' ⟨rfl,rfl⟩)
     go_roundw
     case rel=>exact⟨k+1,by omega,by go_num,(by rw[HP2.out];exact HJ.out b _ _ _ none hj.out HGX.out (fun r e=>by cases e)),(by rw[HP2.out];exact hn.out.grown HGX.out),(show _∧_ from ⟨Nat.le_trans hbw.out.1 HGX.out.size,Nat.le_trans hbw.out.2 HGX.out.size⟩)⟩
     case measure=>simp[intOf];omega
    | false=>
     have HP2:Hid (pk (ts.take (k+1))=pre ++ [⟨⟨key,ver⟩,nd,held⟩]):=(show _=_ from by rw[HPT.out];unfold pkStep;rw[if_neg (of_decide_eq_false HBQ.out)])
     have hq:=HCN2.out _ HGX.out
     have hbx:wr.heap.size<(wr.alloc (.cells #[.string key,.int .i64 ver,.int .i64 nd,.int .i64 held] 56)).heap.size:=by simp
     gi_wp2_with (first
      | (gi_at_call 64;refine(callsIn_wide.2 hq).mono ?_;rintro e w' ⟨rfl,rfl⟩)
      | (gi_at_builtin;refine wpListIn_append_own _ rfl _ _ 69 rfl B 3 i0 (.int .i64 0) 1 8 Tryz.underlying69 hi hz0 hz1 hz2 rfl (by decide) _ _ _ rfl ((hn.out.grown HGX.out).tk.alloc _) ⟨wr.heap.size+1,0,none⟩ 1 1 [.int .i64 nd] rfl rfl ?c1 ?c2 ?c3 ?c4 ?c5 ?_))
     case c1=>
      intro j u hj
      match j,hj with
      | 0,hj=>simp at hj;subst hj;simp[Addr.add,go_sem]
      | j+1,hj=>simp at hj
     case c2=>intro u hu;simp at hu;subst hu;rfl
     case c3=>unfold maxLen;have:=HPL.out;simp;omega
     case c4=>have:=HPL.out;simp;omega
     case c5=>have:=hbw.out.1;simp;omega
     intro tv' w9 ho hg9 _
     have HGI:=Lib.hid (World.grownBy_alloc (wr.alloc (.cells #[.string key,.int .i64 ver,.int .i64 nd,.int .i64 held] 56)) (.cells #[.int .i64 nd] 3) none)
     have hn2:=(hn.out.grown HGX.out).grown HGI.out
     have HN9:=Lib.hid (hn2.add hg9 ⟨⟨key,ver⟩,nd,held⟩ (by rw[List.length_map,List.map_map];exact ho))
     have hj9:J b pre w9:=HJ.out b _ _ _ _ (HJ.out b _ _ _ none (HJ.out b _ _ _ none hj.out HGX.out (fun r e=>by cases e)) HGI.out (fun r e=>by cases e)) hg9 (fun r e=>⟨row_base hn2.tk r e,own_ty hn2.tk e⟩)
     have hb9:w9.heap[wr.heap.size]? = some (.cells #[.string key,.int .i64 ver,.int .i64 nd,.int .i64 held] 56 (0,0)):=by
      have hb2:=(HGI.out.block wr.heap.size hbx (by simp)).trans HBX.out
      refine(hg9.block wr.heap.size (Array.getElem?_eq_some_iff.1 hb2).1 (fun e=>?_)).trans hb2
      obtain⟨c2,hc2⟩:=own_ty hn2.tk e.symm
      rw[hb2] at hc2
      injection hc2 with e1
      injection e1 with e2 e3
      exact absurd e3 (by decide)
     have hs9:B≤w9.heap.size∧b≤w9.heap.size:=by have q1:=hg9.size;have q2:=hbw.out;have q3:=HGI.out.size;have q4:=HGX.out.size;omega
     have HS9:=Lib.hid hs9
     have d0:w9.cell? ⟨wr.heap.size,0,none⟩=some (.string key):=(cell_block hb9 0).trans rfl
     have d1:w9.cell? ⟨wr.heap.size,1,none⟩=some (.int .i64 ver):=(cell_block hb9 1).trans rfl
     have d2:w9.cell? ⟨wr.heap.size,2,none⟩=some (.int .i64 nd):=(cell_block hb9 2).trans rfl
     have d3:w9.cell? ⟨wr.heap.size,3,none⟩=some (.int .i64 held):=(cell_block hb9 3).trans rfl
     obtain⟨fn,tmps,assign,body,hy,hR⟩:=HY.out b pre ⟨⟨key,ver⟩,nd,held⟩ w9 hs9.2 hj9 (by have:=HPL.out;omega)
     simp only[encTsk] at hy
     clear ho hg9 hn2 hj9 hb9 hs9 c0 c1 c2 c3 hq hn hj
     gi_wp2
     refine hR.mono ?_
     rintro e W4 (⟨rfl,hJ4,hk4⟩|⟨rfl,hJx4⟩)
     ·have HJ4:Hid (J b (pk (ts.take (k+1))) W4):=(show J b _ W4 from by rw[HP2.out];exact hJ4)
      have HN4:Hid (NxI B b ts (pk (ts.take (k+1))) (.slice (some ⟨g,0,none⟩) q cap) tv' W4):=(show NxI _ _ _ _ _ _ _ from by rw[HP2.out];exact HN9.out.body hk4)
      have HS4:Hid (B≤W4.heap.size∧b≤W4.heap.size):=(show _∧_ from ⟨Nat.le_trans HS9.out.1 hk4.size,Nat.le_trans HS9.out.2 hk4.size⟩)
      clear hJ4 hk4
      gi_wp2
      go_roundw
      case rel=>exact⟨k+1,by omega,by go_num,HJ4,HN4,HS4⟩
      case measure=>simp[intOf];omega
     ·have HX4:Hid (pre ++ [⟨⟨key,ver⟩,nd,held⟩] <+: pk ts):=(show _ <+: _ from by rw[←HP2.out];exact HPP.out)
      gi_wp2
      refine bodyPost_ret (results_none rfl _ _ _) rfl ?_
      exact⟨⟨_,rfl⟩,.inr ⟨_,HX4.out,hJx4⟩⟩
   ·obtain rfl:k=q:=by omega
    gi_wp2
    go_end0
    refine⟨⟨_,rfl⟩,.inl ⟨b,_,rfl,?_⟩⟩
    have:=hj.out
    rwa [List.take_of_length_le (by rw[HQ.out];exact Nat.le_refl _)] at this
attribute [local go_sem] Oper.semAt_some
theorem dnext_any (p:Option Addr) (n c:Nat) (W:World):Calls Tryz.prog 65 #[.slice p n c,.slice none 0 0] W fun e w'=>
  e = .returned (.func (.func 128) #[] #[.pointer (some ⟨W.heap.size+1,0,none⟩),.pointer (some ⟨W.heap.size,0,none⟩)])∧w'=(W.alloc (.cells #[.slice p n c] 44)).alloc (.cells #[.slice none 0 0] 42):=by
 have hmf:∀(fn:Fn) (first cap:Array Value) (w:World),(Instr.makeFunc fn first cap).run Tryz.prog w = .ok (.func fn first cap) w:=fun _ _ _ _=>rfl
 go_enter Tryz.func65,Tryz.ntmps65
 go_wp2
 go_ret
 exact⟨rfl,rfl⟩
theorem five (w:World) (o0 o1 o2 o3 o4:Obj):(((((w.alloc o0).alloc o1).alloc o2).alloc o3).alloc o4).heap[w.heap.size]? = some o0∧(((((w.alloc o0).alloc o1).alloc o2).alloc o3).alloc o4).heap[w.heap.size+1]? = some o1∧(((((w.alloc o0).alloc o1).alloc o2).alloc o3).alloc o4).heap[w.heap.size+2]? = some o2∧(((((w.alloc o0).alloc o1).alloc o2).alloc o3).alloc o4).heap[w.heap.size+3]? = some o3∧(((((w.alloc o0).alloc o1).alloc o2).alloc o3).alloc o4).heap[w.heap.size+4]? = some o4:=by
 have h1:=World.alloc_heap_new (w.alloc o0) o1
 have h2:=World.alloc_heap_new ((w.alloc o0).alloc o1) o2
 have h3:=World.alloc_heap_new (((w.alloc o0).alloc o1).alloc o2) o3
 have h4:=World.alloc_heap_new ((((w.alloc o0).alloc o1).alloc o2).alloc o3) o4
 simp only[World.size_alloc] at h1 h2 h3 h4
 refine⟨?_,?_,?_,?_,h4⟩
 ·rw[Below.heap_alloc _ _ _ (by simp only[World.size_alloc];omega),Below.heap_alloc _ _ _ (by simp only[World.size_alloc];omega),Below.heap_alloc _ _ _ (by simp only[World.size_alloc];omega),Below.heap_alloc _ _ _ (by simp only[World.size_alloc];omega)]
  exact World.alloc_heap_new w o0
 ·rw[Below.heap_alloc _ _ _ (by simp only[World.size_alloc];omega),Below.heap_alloc _ _ _ (by simp only[World.size_alloc];omega),Below.heap_alloc _ _ _ (by simp only[World.size_alloc];omega)]
  exact h1
 ·rw[Below.heap_alloc _ _ _ (by simp only[World.size_alloc];omega),Below.heap_alloc _ _ _ (by simp only[World.size_alloc];omega)]
  exact h2
 ·rw[Below.heap_alloc _ _ _ (by simp only[World.size_alloc];omega)]
  exact h3
structure NI (w0:World) (Bo Bm Bq:Nat) (most:Nat) (b:Nat) (pre:List Tsk) (W:World):Prop where
 ex:∃v,W.heap[Bo]? = some (.cells #[v] 42 (0,0))∧W.ownsRow (max b w0.heap.size) 56 4 v pre.length (pre.flatMap tskCells)
 bm:W.heap[Bm]? = some (.cells #[.int .i64 most] 3 (0,0))
 bq:W.heap[Bq]? = some (.cells #[.slice none 0 0] 42 (0,0))
 gr:w0.grownBy W none
 le:pre.length≤most
theorem NI.turn {w0 W W':World} {Bo Bm Bq most b:Nat} {pre:List Tsk} (h:NI w0 Bo Bm Bq most b pre W) {row:Option Nat} (hg:W.grownBy W' row) (hr:∀r,row=some r→w0.heap.size≤r∧r≠Bm∧∀c t,W.heap[r]? = some (.cells c t (0,0))→t=3):NI w0 Bo Bm Bq most b pre W':=by
 obtain⟨⟨v,h1,h2⟩,h3,h4,h5,h6⟩:=h
 have keep:∀(k:Nat) (c:Array Value) (t:TypeId),W.heap[k]? = some (.cells c t (0,0))→(t=3→k=Bm)→W'.heap[k]? = W.heap[k]?:=fun k c t hk ht=>hg.block k (Array.getElem?_eq_some_iff.1 hk).1 (fun e=>by
  obtain⟨_,r2,r3⟩:=hr k e.symm
  exact r2 (ht (r3 c t hk)))
 refine⟨⟨v,(keep _ _ _ h1 (fun e=>absurd e (by decide))).trans h1,own_sm h2 (fun g hg2=>?_)⟩,(keep _ _ _ h3 (fun _=>rfl)).trans h3,(keep _ _ _ h4 (fun e=>absurd e (by decide))).trans h4,grown_own h5 hg (fun k e=>(hr k e).1),h6⟩
 obtain⟨c,hc⟩:=own_ty h2 hg2
 exact keep g c _ hc (fun e=>absurd e (by decide))
theorem row_le {W:World} {base base' n:Nat} {e:TypeId} {size:Nat} {v:Value} {xs:List Value} (h:W.ownsRow base e size v n xs) (hb:base'≤base):W.ownsRow base' e size v n xs:=
 ⟨h.1,h.2.imp id fun ⟨g,cap,cur,hv,hb2,rest⟩=>⟨g,cap,cur,hv,Nat.le_trans hb hb2,rest⟩⟩
theorem kpn_put (b:Nat) (W:World) (l:Nat) (o o':Obj) (hl:W.heap[l]? = some o) (ho:o.isCells=false):KpN b W (W.putObj l o'):=
 ⟨by rw[World.putObj_size];exact Nat.le_refl _,fun k c t fr hk _=>World.putObj_heap_other (fun e=>by subst e;rw[hl] at hk;cases hk;cases ho)⟩
set_option maxRecDepth 100000 in
set_option maxHeartbeats 8000000 in
theorem nextN_any {w:World} {v:Value} {l:List Nd} (most:Nat) (hm:1≤most) (hm2:most≤1000000) (h:NRow w v l) (hl:(rawT l).length≤1000000) (hl2:l.length≤1000000) :
  CallsIn Fence.wide 5 Tryz.prog 20 #[v,.slice none 0 0,.int .i64 most] w fun e w'=>∃v',e = .returned v'∧TA w w' v' ((pk (sortT (rawT l))).take most):=by
 obtain⟨p,cap,rfl,hrow⟩:=h
 have h:NRow w (.slice p l.length cap) l:=⟨p,cap,rfl,hrow⟩
 have HROW:=Lib.hid h
 clear h hrow
 obtain⟨i0,hi,hz0,hz1,hz2⟩:=info_parts infoTsk
 have fT:Fence.wide.fn 65:=trivial
 refine callsIn_of_wp_marks Tryz.func20 rfl trivial ?_ rfl
 simp only[Tryz.ntmps20,List.size_toArray,List.length_cons,List.length_nil,Nat.reduceAdd,Nat.reduceSub,Array.replicate_succ,Array.replicate_zero,List.push_toArray,List.append_toArray,List.nil_append,List.cons_append]
 gi_wp2_with (gi_at_call 65;refine(callsIn_wide.2 (dnext_any _ _ _ _)).mono ?_;rintro e W1 ⟨rfl,rfl⟩)
 obtain⟨W5,hW5⟩:∃x:World,x=((((w.alloc (.cells #[.slice none 0 0] 42)).alloc (.cells #[.int .i64 most] 3)).alloc (.cells #[.slice none 0 0] 42)).alloc (.cells #[.slice p l.length cap] 44)).alloc (.cells #[.slice none 0 0] 42):=⟨_,rfl⟩
 have hg5:w.grownBy W5 none:=by rw[hW5];repeat (first|exact grown_refl _|exact World.grownBy_alloc _ _ _|refine grown_alloc ?_ _)
 have hz5:W5.heap.size=w.heap.size+5:=by rw[hW5];simp
 obtain⟨k0,k1,k2,k3,k4⟩:=five w (.cells #[.slice none 0 0] 42) (.cells #[.int .i64 most] 3) (.cells #[.slice none 0 0] 42) (.cells #[.slice p l.length cap] 44) (.cells #[.slice none 0 0] 42)
 rw[←hW5] at k0 k1 k2 k3 k4
 rw[←hW5]
 clear hW5
 have HK2:=Lib.hid k2
 have hz6:w.heap.size+1+1=w.heap.size+2:=rfl
 have hf:=next1_fam (w:=W5) (Bb:=w.heap.size+1+1+1+1) (Bn:=w.heap.size+1+1+1) ((cell_block k4 0).trans rfl) (by omega) ((cell_block k3 0).trans rfl) (by omega) (HROW.out.grown hg5) hl hl2
 obtain⟨ts,hts⟩:∃ts,ts=sortT (rawT l):=⟨_,rfl⟩
 rw[←hts] at hf
 have HTS:=Lib.hid hts
 clear hts
 refine rangeFunc_fam (F:=Fence.wide) (n:=5) rfl (by omega) (gf:=128) (lb:=#[.pointer (some ⟨w.heap.size+1+1+1+1,0,none⟩),.pointer (some ⟨w.heap.size+1+1+1,0,none⟩)]) rfl trivial (enters_of Tryz.func128 (by kernel_rfl) rfl) (fun _=>rfl) hf
  (NI w (w.heap.size+2) (w.heap.size+1) w.heap.size most)
  (fun c pre W=>c = .exit 0∧most<pre.length∧∃b,NI w (w.heap.size+2) (w.heap.size+1) w.heap.size most b (pre.take most) W)
  (fun b s A B row hs hg hr=>hs.turn hg (fun r e=>by
   obtain⟨h1,o,h2,h3⟩:=hr r e
   refine⟨by omega,by omega,fun c t hc=>?_⟩
   rw[h2] at hc;cases hc;cases h3))
  (fun c s A B row hs hg hr=>⟨hs.1,hs.2.1,by
   obtain⟨b,hb⟩:=hs.2.2
   exact⟨b,hb.turn hg (fun r e=>by
    obtain⟨h1,o,h2,h3⟩:=hr r e
    refine⟨by omega,by omega,fun c t hc=>?_⟩
    rw[h2] at hc;cases hc;cases h3)⟩⟩)
  (fun b s A B row hs hg hr=>hs.turn hg (fun r e=>by
   obtain⟨h1,c,h2⟩:=hr r e
   refine⟨by omega,by omega,fun c2 t hc=>?_⟩
   rw[h2] at hc;cases hc;rfl))
  (fun b {A B C} h g=>h.trans g) kpn_put
  (fun b=>⟨⟨_,k2,World.ownsRow_nil _ _ _ _⟩,k1,k0,hg5,Nat.zero_le _⟩)
  (fun x a' W=>∃Bx,W.heap[Bx]? = some (.cells #[.string x.id.key,.int .i64 x.id.ver,.int .i64 x.nd,.int .i64 x.held] 56 (0,0))∧a' = { tmps:=#[.slice p l.length cap,.slice none 0 0,.int .i64 most,undef,.pointer (some ⟨w.heap.size,0,none⟩),.pointer (some ⟨w.heap.size+1,0,none⟩),.slice none 0 0,.pointer (some ⟨w.heap.size+1+1,0,none⟩),.pointer (some ⟨Bx,0,none⟩),.slice p l.length cap,.slice none 0 0,.func (.func 128) #[] #[.pointer (some ⟨w.heap.size+1+1+1+1,0,none⟩),.pointer (some ⟨w.heap.size+1+1+1,0,none⟩)],encTsk x,undef,undef,undef,undef,undef,undef,undef,undef,undef,undef,undef,undef],defers:=[] })
  (fun x a' _ X Y row hs hg hr=>by
   obtain⟨Bx,h1,h2⟩:=hs
   refine⟨Bx,(hg.block Bx (Array.getElem?_eq_some_iff.1 h1).1 (fun e=>?_)).trans h1,h2⟩
   obtain⟨_,o,ho,hc⟩:=hr Bx e.symm
   rw[h1] at ho;cases ho;cases hc)
  ?assign ?body ?done ?stop
 case assign=>
  rintro lp b pre ⟨⟨key,ver⟩,nd,held⟩ W K hN hK
  simp only[encTsk]
  gi_wp2
  exact hK _ _ ((KeepsOthers.alloc _ _).from _) ⟨by simp,fun k c t fr hk _=>Below.heap_alloc _ _ _ (Array.getElem?_eq_some_iff.1 hk).1⟩ (hN.turn (World.grownBy_alloc _ _ none) (fun r e=>by cases e)) ⟨W.heap.size,World.alloc_heap_new W _,rfl⟩
 case body=>
  rintro lp b pre ⟨⟨key,ver⟩,nd,held⟩ a' W hlp hbs hN ⟨Bx,hBx,rfl⟩ hlt
  have HN:=Lib.hid hN
  obtain⟨⟨v,hv,hrow⟩,hbm,hbq,hgr,hle⟩:=hN
  obtain⟨p',cap',rfl⟩:∃p' cap',v = .slice p' pre.length cap':=by
   rcases hrow.2 with ⟨e,h0⟩|⟨g,c,cur,e,_⟩
   ·exact⟨none,0,by rw[e,h0]⟩
   ·exact⟨_,_,e⟩
  have d0:W.cell? ⟨Bx,0,none⟩=some (.string key):=(cell_block hBx 0).trans rfl
  have d1:W.cell? ⟨Bx,1,none⟩=some (.int .i64 ver):=(cell_block hBx 1).trans rfl
  have d2:W.cell? ⟨Bx,2,none⟩=some (.int .i64 nd):=(cell_block hBx 2).trans rfl
  have d3:W.cell? ⟨Bx,3,none⟩=some (.int .i64 held):=(cell_block hBx 3).trans rfl
  have e4:W.cell? ⟨w.heap.size,0,none⟩=some (.slice none 0 0):=(cell_block hbq 0).trans rfl
  have e5:W.cell? ⟨w.heap.size+1,0,none⟩=some (.int .i64 most):=(cell_block hbm 0).trans rfl
  have e7:W.cell? ⟨w.heap.size+1+1,0,none⟩=some (.slice p' pre.length cap'):=(cell_block hv 0).trans rfl
  have HV:=Lib.hid hv
  have HGS:=hgr.size
  have HROW2:=Lib.hid hrow
  have HBX:=Lib.hid hBx
  clear hv hBx hbm hbq
  simp only[encTsk]
  by_cases c:pre.length<most
  ·have hw:IntKind.i64.wrap ((0:Int)+(pre.length:Int))=(pre.length:Int):=by rw[IntKind.wrap_i64];omega
   have hbx:Bx<W.heap.size:=(Array.getElem?_eq_some_iff.1 HBX.out).1
   gi_wp2_with (gi_at_builtin;refine wpListIn_append_own _ rfl _ _ 42 rfl (max b w.heap.size) 56 i0 (.agg #[.string { data:=#[] },.int .i64 0,.int .i64 0,.int .i64 0]) 4 40 Tryz.underlying42 hi hz0 hz1 hz2 rfl (by decide) _ _ _ rfl (HROW2.out.alloc _) ⟨W.heap.size,0,none⟩ 1 1 [.string key,.int .i64 ver,.int .i64 nd,.int .i64 held] rfl rfl ?c1 ?c2 ?c3 ?c4 ?c5 ?_)
   case c2=>exact⟨rfl,rfl,rfl,rfl⟩
   case c3=>unfold maxLen;omega
   case c4=>omega
   case c5=>omega
   intro v' w9 ho hg9 _
   obtain⟨g',cap9,rfl⟩:=ownsRow_succ ho
   have hbo:w9.heap[w.heap.size+1+1]? = some (.cells #[.slice p' pre.length cap'] 42 (0,0)):=by
    have h2:=(Below.heap_alloc W (.cells #[.string key,.int .i64 ver,.int .i64 nd,.int .i64 held] 56) _ (Array.getElem?_eq_some_iff.1 HV.out).1).trans HV.out
    refine(hg9.block _ (Array.getElem?_eq_some_iff.1 h2).1 (fun e=>?_)).trans h2
    obtain⟨c2,hc2⟩:=own_ty (HROW2.out.alloc _) e.symm
    rw[h2] at hc2
    injection hc2 with e1
    injection e1 with e2 e3
    exact absurd e3 (by decide)
   have k7:w9.cell? ⟨w.heap.size+1+1,0,none⟩=some (.slice p' pre.length cap'):=(cell_block hbo 0).trans rfl
   have f7:w9.frozen? ⟨w.heap.size+1+1,0,none⟩=false:=free_block hbo 0
   have HQ:Hid (KeepsFrom W5.heap.size W (w9.setCell ⟨w.heap.size+1+1,0,none⟩ (.slice (some ⟨g',0,none⟩) (pre.length+1) cap9))∧KpN b W (w9.setCell ⟨w.heap.size+1+1,0,none⟩ (.slice (some ⟨g',0,none⟩) (pre.length+1) cap9))∧NI w (w.heap.size+2) (w.heap.size+1) w.heap.size most b (pre ++ [⟨⟨key,ver⟩,nd,held⟩]) (w9.setCell ⟨w.heap.size+1+1,0,none⟩ (.slice (some ⟨g',0,none⟩) (pre.length+1) cap9))):=(show _∧_∧NI _ _ _ _ _ _ _ _ from by
    have hst:=grownBy_setCell' w9 (w.heap.size+1+1) (.slice (some ⟨g',0,none⟩) (pre.length+1) cap9)
    have old:∀k o,W.heap[k]? = some o→k≠w.heap.size+1+1→(Value.slice p' pre.length cap').ownBlock≠some k→(w9.setCell ⟨w.heap.size+1+1,0,none⟩ (.slice (some ⟨g',0,none⟩) (pre.length+1) cap9)).heap[k]? = some o:=fun k o hk h1 h2=>by
     have hlt:=(Array.getElem?_eq_some_iff.1 hk).1
     have q1:=Below.heap_alloc W (.cells #[.string key,.int .i64 ver,.int .i64 nd,.int .i64 held] 56) k hlt
     have q2:=hg9.block k (by simp;omega) (fun e=>h2 e.symm)
     have q3:=hst.block k (by have:=hg9.size;simp at this;omega) (fun e=>h1 (by cases e;rfl))
     rw[q3,q2,q1,hk]
    have sz:W.heap.size≤(w9.setCell ⟨w.heap.size+1+1,0,none⟩ (.slice (some ⟨g',0,none⟩) (pre.length+1) cap9)).heap.size:=by
     have h1:=hg9.size
     have h2:=hst.size
     simp at h1
     omega
    refine⟨⟨sz,fun k o _ hk ho2=>old k o hk (fun e=>?_) (fun e=>?_)⟩,⟨sz,fun k c t fr hk ht=>(old k _ hk (fun e=>?_) (fun e=>?_)).trans hk.symm⟩,⟨.slice (some ⟨g',0,none⟩) (pre.length+1) cap9,?_,?_⟩,?_,?_,?_,?_⟩
    ·rw[e,HV.out] at hk;cases hk;cases ho2
    ·obtain⟨c2,hc2⟩:=own_ty HROW2.out e
     rw[hc2] at hk;cases hk;cases ho2
    ·rw[e,HV.out] at hk
     injection hk with e1
     injection e1 with e2 e3
     rcases ht with ht|⟨_,ht⟩
     ·rw[←e3] at ht;exact absurd ht (by decide)
     ·exact ht e3.symm
    ·obtain⟨c2,hc2⟩:=own_ty HROW2.out e
     have hb2:=row_base HROW2.out k e
     rw[hc2] at hk
     injection hk with e1
     injection e1 with e2 e3
     rcases ht with ht|⟨ht,_⟩
     ·rw[←e3] at ht;exact absurd ht (by decide)
     ·have:=Nat.le_max_left b w.heap.size;omega
    ·exact Boxed.set (v:=.slice p' pre.length cap') _ hbo
    ·have:=ho.kept hst (.inr (fun e=>by
      obtain⟨c2,hc2⟩:=own_ty ho e
      rw[hbo] at hc2
      injection hc2 with e1
      injection e1 with e2 e3
      exact absurd e3 (by decide)))
     simpa[List.flatMap_append,tskCells] using this
    ·exact old _ _ HN.out.bm (by omega) (fun e=>by
      obtain⟨c2,hc2⟩:=own_ty HROW2.out e
      rw[HN.out.bm] at hc2
      injection hc2 with e1
      injection e1 with e2 e3
      exact absurd e3 (by decide))
    ·exact old _ _ HN.out.bq (by omega) (fun e=>by
      obtain⟨c2,hc2⟩:=own_ty HROW2.out e
      rw[HN.out.bq] at hc2
      injection hc2 with e1
      injection e1 with e2 e3
      exact absurd e3 (by decide))
    ·refine grown_own (grown_own (grown_trans HN.out.gr (World.grownBy_alloc _ _ none)) hg9 (fun k e=>Nat.le_trans (Nat.le_max_right b _) (row_base HROW2.out k e))) hst (fun k e=>by cases e;omega)
    ·simp;omega)
   clear ho hg9 hbo
   gi_wp2
   exact HQ.out
  ·have hle2:pre.length=most:=by omega
   have hq:KeepsFrom W5.heap.size W W∧Code.exit 0=Code.exit 0∧most<(pre ++ [(⟨⟨key,ver⟩,nd,held⟩:Tsk)]).length∧∃b,NI w (w.heap.size+2) (w.heap.size+1) w.heap.size most b ((pre ++ [(⟨⟨key,ver⟩,nd,held⟩:Tsk)]).take most) W:=⟨KeepsFrom.refl _ _,rfl,by simp;omega,b,by rw[List.take_append_of_le_length (by omega),List.take_of_length_le (by omega)];exact HN.out⟩
   have HQ:=Lib.hid hq
   clear hq
   have hnl:¬(pre.length:Int)<(most:Int):=by omega
   clear hle2
   gi_wp2
   exact⟨KeepsFrom.refl _ _,rfl,HQ.out.2.2⟩
 case done=>
  rintro D b xs W hD rfl hN hK
  obtain⟨⟨v,hv,hrow⟩,hbm,hbq,hgr,hle⟩:=hN
  have e7:W.cell? ⟨w.heap.size+1+1,0,none⟩=some v:=(cell_block hv 0).trans rfl
  gi_wp2
  refine⟨by simp,.inl ⟨_,_,rfl,run_takeDeferred hK,?_⟩⟩
  refine⟨_,results_tmp rfl _ _ _,v,rfl,?_,?_⟩
  ·rw[←HTS.out,List.take_of_length_le hle]
   exact ownsRow_putObj (row_le hrow (Nat.le_max_right _ _)) _ hK rfl
  ·exact grown_own hgr (grownBy_putObj' W D _) (fun k e=>by cases e;omega)
 case stop=>
  rintro D c pre W hD hpre ⟨rfl,hlen,b,hN⟩ hK
  obtain⟨⟨v,hv,hrow⟩,hbm,hbq,hgr,hle⟩:=hN
  have e7:W.cell? ⟨w.heap.size+1+1,0,none⟩=some v:=(cell_block hv 0).trans rfl
  gi_wp2
  refine⟨by simp,.inl ⟨_,_,rfl,run_takeDeferred hK,?_⟩⟩
  refine⟨_,results_tmp rfl _ _ _,v,rfl,?_,?_⟩
  ·obtain⟨r,hr⟩:=hpre
   rw[←HTS.out,←hr,List.take_append_of_le_length (by omega)]
   exact ownsRow_putObj (row_le hrow (Nat.le_max_right _ _)) _ hK rfl
  ·exact grown_own hgr (grownBy_putObj' W D _) (fun k e=>by cases e;omega)
theorem nextD_any {w:World} {v:Value} {l:List Nd} (most:Nat) (hm:1≤most) (hm2:most≤1000000) (h:NRow w v l) (hl:(rawT l).length≤1000000) (hl2:l.length≤1000000) :
  Calls Tryz.prog 20 #[v,.slice none 0 0,.int .i64 most] w fun e w'=>∃v',e = .returned v'∧TA w w' v' ((pk (sortT (rawT l))).take most):=callsIn_wide.1 (nextN_any most hm hm2 h hl hl2)
@[go_sem] theorem fieldCall2 (r1 r2 r4:Int) (r3:Bool) (w:World):(Instr.field 77 (.agg #[.int .i64 r1,.int .i64 r2,.bool r3,.int .i64 r4]) 2).run Tryz.prog w = .ok (.bool r3) w:=by kernel_rfl
@[go_sem] theorem fieldCall3 (r1 r2 r4:Int) (r3:Bool) (w:World):(Instr.field 77 (.agg #[.int .i64 r1,.int .i64 r2,.bool r3,.int .i64 r4]) 3).run Tryz.prog w = .ok (.int .i64 r4) w:=by kernel_rfl
def wkD:Cmd:=⟨1,0,0,0,0,0,⟨#[]⟩,0⟩
theorem ints_form {w w':World} {v:Value} {l:List Int} (h:Ints w w' v l):∃p cap,v = .slice p l.length cap:=by
 rcases h.1.2 with ⟨hv,h0⟩|⟨g,cap,cur,hv,_⟩
 ·exact⟨none,0,by rw[hv,h0]⟩
 ·exact⟨_,cap,hv⟩
theorem holdL_length (T:Tab) (i:ID):(holdL T i).length=(memH T.holds i).length:=by simp[holdL]
theorem fits_small {l:List Int} (h:(∀n∈l,0≤n∧n<1000000)∧l.length≤1000000):Fits l:=
 ⟨fun n hn=>by
  have:=h.1 n hn
  have e1:IntKind.min .i64 = -9223372036854775808:=by decide +kernel
  have e2:IntKind.max .i64=9223372036854775807:=by decide +kernel
  simp only[Lit.wf,e1,e2,Bool.and_eq_true,decide_eq_true_eq];omega,h.2⟩
theorem At.mono {bs cs:Nat→Prop} {w:World} {tb:Nat} {L:Tab} (h:At bs w tb L) (hs:∀k,k<w.heap.size→bs k→cs k):At cs w tb L:=by
 obtain⟨T,h1,h2,h3⟩:=h.ex
 exact⟨T,h1,h2,fun b hb=>hs b (h1.lt b hb) (h3 b hb)⟩
section
variable {w W W' : World} {g tb : Nat} {L : Tab}
end
theorem mapT_at {K V:Type} {ek:K→Value} {ev:V→Value} {w w':World} {b:Nat} {m:List (K × V)} (h:MapT w b ek ev m) (e:w'.heap[b]? = w.heap[b]?):MapT w' b ek ev m:=by
 obtain⟨es,clock,hb,hs,he⟩:=h
 exact⟨es,clock,e.trans hb,hs,he⟩
theorem TRep.same {w W:World} {tb:Nat} {T:Tab} (h:TRep w tb T) (hs:∀b∈T.blocks tb,W.heap[b]? = w.heap[b]?):TRep W tb T where
 cells:=(hs _ (by simp[Tab.blocks])).trans h.cells
 lives:=(hs _ (by simp[Tab.blocks])).trans h.lives
 calls:=mapT_at h.calls (hs _ (by simp[Tab.blocks]))
 values:=mapT_at h.values (hs _ (by simp[Tab.blocks]))
 pending:=mapT_at h.pending (hs _ (by simp[Tab.blocks]))
 holds:=mapT_at h.holds (hs _ (by simp[Tab.blocks]))
 refuses:=mapT_at h.refuses (hs _ (by simp[Tab.blocks]))
 hsets:=fun x hx=>mapT_at (h.hsets x hx) (hs _ (by simp only[Tab.blocks,List.mem_cons,List.mem_append,List.mem_map];exact Or.inr (Or.inr (Or.inr (Or.inr (Or.inr (Or.inr (Or.inr (Or.inl ⟨x,hx,rfl⟩)))))))))
 rsets:=fun x hx=>mapT_at (h.rsets x hx) (hs _ (by simp only[Tab.blocks,List.mem_cons,List.mem_append,List.mem_map];exact Or.inr (Or.inr (Or.inr (Or.inr (Or.inr (Or.inr (Or.inr (Or.inr ⟨x,hx,rfl⟩)))))))))
 nodup:=h.nodup
theorem At.same {bs:Nat→Prop} {w W:World} {tb:Nat} {L:Tab} (h:At bs w tb L) (hs:∀k,k<w.heap.size→bs k→W.heap[k]? = w.heap[k]?):At bs W tb L:=by
 obtain⟨T,h1,h2,h3⟩:=h.ex
 exact⟨T,h1.same fun b hb=>hs b (h1.lt b hb) (h3 b hb),h2,h3⟩
def Same (own:Nat→Prop) (W W':World):Prop:=∀k,own k→W'.heap[k]? = W.heap[k]?
def actT (L:Tab) (c:Cmd):Tab:=if mayB c=true∧c.node<(L.lives.length:Int) then stepT L c else L
theorem may_kind {c:Cmd} (h:mayB c=true):1≤c.kind∧c.kind≤7∧0≤c.node:=by
 unfold mayB smallB at h
 simp only[Bool.and_eq_true,decide_eq_true_eq] at h
 omega
section
variable {n k : Nat} {L : Tab}
theorem act_inv (h:Inv n k L) (c:Cmd):Inv n k (actT L c):=by
 unfold actT
 split
 ·rename_i hm
  have:=may_kind hm.1
  exact inv_step h c ⟨this.2.2,by have:=h.ln;omega⟩
 ·exact h
theorem act_clean (h:Inv n k L) (hc:Clean L) (c:Cmd):Clean (actT L c):=by
 unfold actT
 split
 ·rename_i hm
  have:=may_kind hm.1
  exact clean_step h c ⟨this.2.2,by have:=h.ln;omega⟩
 ·exact hc
theorem Inv.fits (h:Inv n k L) (hn:n≤1000000) (i:ID):Fits (memH L.holds i):=
 fits_small ⟨fun x hx=>by have:=(h.hm.len i).2 x hx;omega,by have:=(h.hm.len i).1;omega⟩
theorem Inv.ok (h:Inv n k L) (hn:n≤1000000) (ho:L.offers<1000000) (hx:L.next<1000000):L.Ok:=
 ⟨h.o0,by omega,by have:=h.nx;omega,by omega,by rw[h.ln];omega,fun i=>by have:=(h.rm.len i).1;omega⟩
end
section
variable {w W W' : World} {own : Nat → Prop} {tb : Nat} {L : Tab}
theorem do_act {bs:Nat→Prop} {n k:Nat} (h:At bs W tb L) (hI:Inv n k L) (hn:n≤1000000) (ho:L.offers<1000000) (hx:L.next<1000000) (c:Cmd) (hkey:(c.key.size:Int)≤9223372036854775807) (hbs:∀k,W.heap.size≤k→bs k) :
  Calls Tryz.prog 22 #[.pointer (some ⟨tb,0,none⟩),encCmd c] W fun e w'=>e = .returned (.int .i64 (if mayB c=true∧c.node<(L.lives.length:Int) then 0 else 2))∧At bs w' tb (actT L c)∧Out bs W w':=by
 unfold actT
 by_cases hm:mayB c=true
 ·by_cases hc:c.node<(L.lives.length:Int)
  ·rw[if_pos ⟨hm,hc⟩,if_pos ⟨hm,hc⟩]
   have:=may_kind hm
   exact do_at h c hkey (hI.ok hn ho hx) hm hc this.1 this.2.1 this.2.2 hbs
  ·rw[if_neg (fun e=>hc e.2),if_neg (fun e=>hc e.2)]
   obtain⟨T,h1,h2,h3⟩:=h.ex
   have e:T.lives.length=L.lives.length:=by rw[←h2];rfl
   have hl:=hI.ln
   refine(do_bad2 h1 c hkey (by omega) hm (by omega)).mono ?_
   rintro e w' ⟨a,b⟩
   exact⟨a,h.grown b,Out.of_grown b _⟩
 ·rw[if_neg (fun e=>hm e.1),if_neg (fun e=>hm e.1)]
  obtain⟨T,h1,h2,h3⟩:=h.ex
  have e:T.lives.length=L.lives.length:=by rw[←h2];rfl
  have hl:=hI.ln
  refine(do_bad1 h1 c hkey (by omega) (by simpa using hm)).mono ?_
  rintro e w' ⟨a,b⟩
  exact⟨a,h.grown b,Out.of_grown b _⟩
end
def cmdCells (c:Cmd):List Value:=[.int .u8 c.kind,.int .i64 c.node,.int .i64 c.client,.int .i64 c.inc,.int .i64 c.req,.int .i64 c.ver,.string c.key,.int .i64 c.code]
attribute [local irreducible] stepT memH look wantedB callV in
def CmdRow (w:World) (base:Nat) (v:Value) (l:List Cmd):Prop:=
 ∃p cap,v = .slice p l.length cap∧l.length≤9223372036854775807∧(∀c∈l,(c.key.size:Int)≤9223372036854775807)∧(l = []∨∃b off,p=some ⟨b,off,none⟩∧b<base∧∀i,i<l.length→∀j u,(cmdCells (l.getD i wkD))[j]? = some u→w.cell? ⟨b,off+i*8+j,none⟩=some u)
end Go.Proofs.YtjfelfjobeeenaaGreat
