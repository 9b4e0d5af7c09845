/- Bytes' rows, at its four types: the walks. Conditions: a writer and a map in memory, not too many bytes. -/
import Derived.Test.YtjfelfjobeeenaaGreatP33
import Derived.Test.YtjfelfjobeeenaaGreatP34
import Derived.Test.YtjfelfjobeeenaaGreatP19
namespace Go.Proofs.YtjfelfjobeeenaaGreat
set_option linter.unusedVariables false
set_option linter.unusedSimpArgs false
open Go.RowKit Go.Sf Go.Shelf Go.Maps
theorem flat_take_le {α:Type} (f:α→List Int) (l:List α) (k:Nat) (hk:k<l.length):((l.take k).flatMap f).length+(f l[k]).length≤(l.flatMap f).length:=by
 have h1:=congrArg List.length (flat_take_succ f l k hk)
 have h2:((l.take (k+1)).flatMap f).length≤(l.flatMap f).length:=by
  conv=>rhs;rw[←List.take_append_drop (k+1) l]
  rw[List.flatMap_append,List.length_append];omega
 rw[List.length_append] at h1
 omega
theorem row_slice {w:World} {base n sz:Nat} {e:TypeId} {v:Value} {xs:List Value} (h:w.ownsRow base e sz v n xs):∃p c,v = .slice p n c:=by
 rcases h.2 with ⟨hv,h1⟩|⟨gg,cap,cur,hv,_⟩
 ·exact⟨none,0,by rw[hv,h1]⟩
 ·exact⟨_,cap,hv⟩
def cAt (m:List (Int × CallT)) (n:Int):CallT:=(mget m n).getD ⟨0,0,false,0⟩
def vAt (m:List (ByteArray × Val)) (s:List UInt8):Val:=(mget m ⟨s.toArray⟩).getD ⟨0,false⟩
def pAt (m:List (ID × Pend)) (i:ID):Pend:=(mget m i).getD ⟨0,0⟩
def cOne (m:List (Int × CallT)) (n:Int):List Int:=callB (n,cAt m n)
def vOne (m:List (ByteArray × Val)) (s:List UInt8):List Int:=valB (⟨s.toArray⟩,vAt m s)
def pOne (m:List (ID × Pend)) (i:ID):List Int:=pendB (i,pAt m i)
def hOne (m:List (ID × NSet)) (i:ID):List Int:=setB (i,(mget m i).getD ⟨0,[]⟩)
def idkeys {V:Type} (m:List (ID × V)):List ID:=sortL (m.map (·.1))
def rowsC (m:List (Int × CallT)):List Int:=e4 m.length++(ikeys m).flatMap (cOne m)
def rowsV (m:List (ByteArray × Val)):List Int:=e4 m.length++(bkeys m).flatMap (vOne m)
def rowsP (m:List (ID × Pend)):List Int:=e4 m.length++(idkeys m).flatMap (pOne m)
def rowsH (m:List (ID × NSet)):List Int:=e4 m.length++(idkeys m).flatMap (hOne m)
theorem idkeys_of {V:Type} {m:List (ID × V)} (hn:(m.map (·.1)).Nodup) {l:List ID} (hp:l.Perm (m.map (·.1))) (ho:InOrder l):l=idkeys m:=
 sorted_ext (sorted_of ho (hp.nodup_iff.2 hn)) (sortL_sorted hn) fun x=>by unfold idkeys;rw[mem_sortL hn,hp.mem_iff]
theorem run_callsM {b:Nat} {m:List (Int × CallT)} (n:Int):∀W,MapT W b (Value.int .i64) encCall m→(Instr.lookup 117 (.map (some b)) (.int .i64 n) false).run Tryz.prog W = .ok (.agg #[.int .i64 (cAt m n).req,.int .i64 (cAt m n).ver,.bool (cAt m n).done,.int .i64 (cAt m n).code]) W:=fun W h=>by
 rw[h.lookup keInt Tryz.underlying117 (zeroCall W) n false]
 unfold cAt
 cases mget m n <;> rfl
theorem run_valsM {b:Nat} {m:List (ByteArray × Val)} (s:List UInt8):∀W,MapT W b Value.string encVal m→(Instr.lookup 118 (.map (some b)) (.string ⟨s.toArray⟩) false).run Tryz.prog W = .ok (.agg #[.int .i64 (vAt m s).ver,.bool (vAt m s).dead]) W:=fun W h=>by
 rw[h.lookup keStr Tryz.underlying118 (zeroVal W) ⟨s.toArray⟩ false]
 unfold vAt
 cases mget m ⟨s.toArray⟩ <;> rfl
theorem run_pendsM {b:Nat} {m:List (ID × Pend)} (i:ID):∀W,MapT W b encID encPend m→(Instr.lookup 119 (.map (some b)) (.agg #[.string i.key,.int .i64 i.ver]) false).run Tryz.prog W = .ok (.agg #[.int .i64 (pAt m i).client,.int .i64 (pAt m i).req]) W:=fun W h=>by
 have h1:=h.lookup keID Tryz.underlying119 (zeroPend W) i false
 refine h1.trans ?_
 unfold pAt
 cases mget m i <;> rfl
theorem run_lenM {P:Program} {K V:Type} {ek:K→Value} {ev:V→Value} {t kt et:TypeId} (ht:P.underlying t=some (.map kt et)) {b:Nat} {m:List (K × V)}:∀ty W,MapT W b ek ev m→(Builtin.len_ #[t] ty #[.map (some b)]).run P W = .ok (.int .i64 m.length) W:=fun ty W h=>h.len ht ty
section
variable {own : Nat → Prop} {w : World} {wb : Nat} {l : List Int}
set_option maxHeartbeats 8000000 in
set_option maxRecDepth 100000 in
theorem rowsC_any (h:WS own wb l w) (b:Nat) (m:List (Int × CallT)) (hm:MapT w b (Value.int .i64) encCall m) (ho:own b) (hr:∀p∈m,(Lit.int .i64 p.1).wf=true) (hl:m.length≤1000000) (hlen:(l++rowsC m).length≤70000) :
  Calls Tryz.prog 84 #[.pointer (some ⟨wb,0,none⟩),.map (some b),.func (.func 85) #[] #[],(.func (.func 86) #[] #[.pointer (some ⟨wb,0,none⟩)])] w (WPost own wb (l++rowsC m) w):=by
 have HE:Hid (l++e4 m.length++(ikeys m).flatMap (cOne m)=l++rowsC m):=(show _=_ from by unfold rowsC;rw[List.append_assoc])
 have HLT:Hid (l.length+4+((ikeys m).flatMap (cOne m)).length≤70000):=(show _≤_ from by unfold rowsC at hlen;simp only[List.length_append,e4_len] at hlen;omega)
 have HM:=Lib.hid hm
 have HO:=Lib.hid ho
 have HL:=Lib.hid hl
 have HR:=Lib.hid hr
 have HW0:=Lib.hid h
 have hmm:=hm
 have hlenm:=run_lenM (P:=Tryz.prog) (t:=117) (b:=b) (m:=m) (ek:=(Value.int .i64)) (ev:=encCall) Tryz.underlying117
 have hwl:=h.wlt
 have hbl:=hm.lt
 have HWD:Hid (∀w',w.grownBy w' none→Calls Tryz.prog 152 #[.pointer (some ⟨wb,0,none⟩),.int .u32 ((m.length:Int)%4294967296)] w' (WPost own wb (l++e4 m.length) w')):=(show ∀_,_→Calls _ _ _ _ _ from fun w' hg=>(HW0.out.keep hg).wordZ (by have:=HLT.out;omega) m.length)
 clear h hm ho hl hlen hr
 go_enter Tryz.func84,Tryz.ntmps84
 go_upto_region 0 with fail
 go_still_tail 6,(by kernel_rfl)
 go_upto_region 1 with (go_at_call 152;refine(HWD.out _ (grown_drew (grown_refl _))).mono ?_;rintro e w2 ⟨rfl,hq,ht⟩;have HQ2:=Lib.hid hq;have HT2:=Lib.hid (grown_turn (grown_drew (grown_refl _)) ht);clear hq ht)
 clear HWD hmm hlenm
 have HM2:Hid (MapT w2 b (Value.int .i64) encCall m):=(show MapT _ _ _ _ _ from HM.out.same (ws_old HT2.out hbl HO.out))
 have HG3:=Lib.hid (World.grownBy_alloc w2 (.cells #[.map (some b)] 117) none)
 have hs3:(w2.alloc (.cells #[.map (some b)] 117)).heap.size=w2.heap.size.succ:=by simp
 have HSO:Hid (Calls Tryz.prog 153 #[.func (.func 184) #[] #[.pointer (some ⟨w2.heap.size,0,none⟩)],.func (.func 85) #[] #[]] (w2.alloc (.cells #[.map (some b)] 117)) fun e w'=>∃v,e = .returned v∧w'.ownsRow w2.heap.size.succ 3 1 v (ikeys m).length ((ikeys m).map (Value.int .i64))∧(w2.alloc (.cells #[.map (some b)] 117)).grownBy w' none):=(show Calls _ _ _ _ _ from by
  have:=sortedN_any (w:=w2.alloc (.cells #[.map (some b)] 117)) w2.heap.size b m (by simp) (by simp[go_sem]) (HM2.out.kept HG3.out (by simp)) HR.out HL.out
  rw[hs3] at this
  exact this)
 have hkl:(ikeys m).length≤1000000:=by
  have h1:=HL.out
  unfold ikeys;rw[List.length_mergeSort,List.length_map];exact h1
 generalize ikeys m=ks at *
 go_upto_block 0 with (first
  | (go_at_call 154;refine(keysC_any (some b) _).mono ?_;rintro e w3 ⟨rfl,rfl⟩)
  | (go_at_call 153;refine HSO.out.mono ?_;rintro e w4 ⟨v,rfl,hv,hg⟩;obtain⟨p4,c4,rfl⟩:=row_slice hv;have HV:=Lib.hid hv;have HG5:=Lib.hid hg;clear hv hg))
 have HG4:=Lib.hid (grown_trans HG3.out HG5.out)
 have HQ4:=Lib.hid (HQ2.out.keep HG4.out)
 have HT4:=Lib.hid (HT2.out.trans (grown_turn HG4.out (Turn.refl _ w4)))
 clear HSO
 rcases Nat.eq_zero_or_pos ks.length with h0|h0
 ·have HKN:Hid (ks = []):=(show _=_ from List.eq_nil_of_length_eq_zero h0)
  clear HV
  go_wp2
  go_loopw [22] (fun x wr=>x = .int .i64 0∧wr=w4) (fun _ _=>0)
  case atStart=>exact⟨rfl,rfl⟩
  case round=>
   obtain⟨rfl,rfl⟩:=hrel
   go_wp2
   first|go_end0|refine bodyPost_ret (results_none rfl _ _ _) rfl ?_
   rw[←HE.out,HKN.out,List.flatMap_nil,List.append_nil]
   exact⟨rfl,HQ4.out,HT4.out⟩
 ·obtain⟨g,cap,hvf⟩:=row_form HV.out h0
  injection hvf with hv1 hv2 hv3
  subst hv1 hv3
  have hr4:=HV.out
  have hgl:=hr4.lt g rfl
  have HQ5:Hid (WS (fun k=>own k∨k=g) wb (l++e4 m.length) w4):=(show WS _ _ _ _ from (HQ2.out.keep HG3.out).fresh HG5.out g (by rw[hs3];exact hgl.1) hgl.2)
  have hce:∀k,(hk:k<ks.length)→w4.cell? ⟨g,k,none⟩=some (.int .i64 ks[k]):=fun k hk=>by
   rw[World.ownsRow.cellAt hr4 k (by omega),List.getElem?_map,List.getElem?_eq_getElem hk];rfl
  have HCE:=Lib.hid hce
  have HGL:Hid (g<w4.heap.size):=(show _<_ from hgl.2)
  have HBL4:Hid (b<w4.heap.size):=(show _<_ from Nat.lt_of_lt_of_le HM2.out.lt HG4.out.size)
  have HM4:Hid (MapT w4 b (Value.int .i64) encCall m):=(show MapT _ _ _ _ _ from HM2.out.kept HG4.out (by simp))
  clear hr4 hgl hce
  go_wp2
  go_loopw [22] (fun x wr=>∃k:Nat,k≤ks.length∧x = .int .i64 k∧WS (fun k=>own k∨k=g) wb (l++e4 m.length++(ks.take k).flatMap (cOne m)) wr∧Turn (fun k_1=>¬(own k_1∨k_1=g)) w4 wr) (fun x _=>ks.length-(intOf x).toNat)
  case atStart=>exact⟨0,Nat.zero_le _,rfl,by simpa using HQ5.out,Turn.refl _ _⟩
  case round=>
   obtain⟨k,hk,rfl,hws,htu⟩:=hrel
   have HW:=Lib.hid hws
   have HTU:=Lib.hid htu
   by_cases hlt:k<ks.length
   ·have HN:=Lib.hid (flat_take_succ (cOne m) ks k hlt)
    have HLK:Hid ((l++e4 m.length++(ks.take k).flatMap (cOne m)).length+(cOne m ks[k]).length≤70000):=(show _≤_ from by
     have h1:=HLT.out
     have h2:=flat_take_le (cOne m) ks k hlt
     rw[List.length_append,List.length_append,e4_len]
     omega)
    have hmr:MapT wr b (Value.int .i64) encCall m:=HM4.out.same (ws_old htu HBL4.out (Or.inl HO.out))
    have hgw:g<wr.heap.size:=Nat.lt_of_lt_of_le HGL.out htu.size
    have ck:wr.cell? ⟨g,k,none⟩=some (.int .i64 ks[k]):=(World.cell?_of_block (a:=⟨g,k,none⟩) (ws_old htu HGL.out (Or.inr rfl))).trans (HCE.out k hlt)
    have hrun:=run_callsM (b:=b) (m:=m) ks[k]
    have hwl:=hws.wlt
    have HCB:Hid (Calls Tryz.prog 86 #[.int .i64 ks[k],.agg #[.int .i64 (cAt m ks[k]).req,.int .i64 (cAt m ks[k]).ver,.bool (cAt m ks[k]).done,.int .i64 (cAt m ks[k]).code],.pointer (some ⟨wb,0,none⟩)] wr (WPost (fun k=>own k∨k=g) wb (l++e4 m.length++(ks.take k).flatMap (cOne m)++cOne m ks[k]) wr)):=(show Calls _ _ _ _ _ from by1_any HW.out ks[k] (cAt m ks[k]) (by have:=HLK.out;omega))
    clear hws htu
    generalize (cAt m ks[k]).req=q1 at *
    generalize (cAt m ks[k]).ver=q2 at *
    generalize (cAt m ks[k]).done=q3 at *
    generalize (cAt m ks[k]).code=q4 at *
    generalize cOne m ks[k]=q5 at *
    generalize ks[k]=z at *
    go_wp2_with (go_at_call 86;refine HCB.out.mono ?_;rintro e w5 ⟨rfl,hq,ht⟩;have HQ6:=Lib.hid hq;have HT6:=Lib.hid (HTU.out.trans ht);clear hq ht)
    go_roundw
    case rel=>exact⟨k+1,by omega,by go_num,by rw[HN.out,←List.append_assoc];exact HQ6.out,HT6.out⟩
    case measure=>simp[intOf];omega
   ·obtain rfl:k=ks.length:=by omega
    clear hws htu
    go_wp2
    first|go_end0|refine bodyPost_ret (results_none rfl _ _ _) rfl ?_
    rw[←HE.out]
    rw[List.take_length] at HW
    have h1:=ws_end (grown_refl w4) HW.out HTU.out
    exact⟨rfl,h1.2.1,HT4.out.trans h1.2.2⟩
set_option maxHeartbeats 8000000 in
set_option maxRecDepth 100000 in
theorem rowsV_any (h:WS own wb l w) (b:Nat) (m:List (ByteArray × Val)) (hm:MapT w b Value.string encVal m) (ho:own b) (hr:∀p∈m,p.1.size≤maxLen) (hl:m.length≤1000000) (hlen:(l++rowsV m).length≤70000) :
  Calls Tryz.prog 88 #[.pointer (some ⟨wb,0,none⟩),.map (some b),.func (.func 89) #[] #[],(.func (.func 90) #[] #[.pointer (some ⟨wb,0,none⟩)])] w (WPost own wb (l++rowsV m) w):=by
 have HE:Hid (l++e4 m.length++(bkeys m).flatMap (vOne m)=l++rowsV m):=(show _=_ from by unfold rowsV;rw[List.append_assoc])
 have HLT:Hid (l.length+4+((bkeys m).flatMap (vOne m)).length≤70000):=(show _≤_ from by unfold rowsV at hlen;simp only[List.length_append,e4_len] at hlen;omega)
 have HM:=Lib.hid hm
 have HO:=Lib.hid ho
 have HL:=Lib.hid hl
 have HR:=Lib.hid hr
 have HW0:=Lib.hid h
 have hmm:=hm
 have hlenm:=run_lenM (P:=Tryz.prog) (t:=118) (b:=b) (m:=m) (ek:=Value.string) (ev:=encVal) Tryz.underlying118
 have hwl:=h.wlt
 have hbl:=hm.lt
 have HWD:Hid (∀w',w.grownBy w' none→Calls Tryz.prog 152 #[.pointer (some ⟨wb,0,none⟩),.int .u32 ((m.length:Int)%4294967296)] w' (WPost own wb (l++e4 m.length) w')):=(show ∀_,_→Calls _ _ _ _ _ from fun w' hg=>(HW0.out.keep hg).wordZ (by have:=HLT.out;omega) m.length)
 clear h hm ho hl hlen hr
 go_enter Tryz.func88,Tryz.ntmps88
 go_upto_region 0 with fail
 go_still_tail 6,(by kernel_rfl)
 go_upto_region 1 with (go_at_call 152;refine(HWD.out _ (grown_drew (grown_refl _))).mono ?_;rintro e w2 ⟨rfl,hq,ht⟩;have HQ2:=Lib.hid hq;have HT2:=Lib.hid (grown_turn (grown_drew (grown_refl _)) ht);clear hq ht)
 clear HWD hmm hlenm
 have HM2:Hid (MapT w2 b Value.string encVal m):=(show MapT _ _ _ _ _ from HM.out.same (ws_old HT2.out hbl HO.out))
 have HG3:=Lib.hid (World.grownBy_alloc w2 (.cells #[.map (some b)] 118) none)
 have hs3:(w2.alloc (.cells #[.map (some b)] 118)).heap.size=w2.heap.size.succ:=by simp
 have HSO:Hid (Calls Tryz.prog 156 #[.func (.func 162) #[] #[.pointer (some ⟨w2.heap.size,0,none⟩)],.func (.func 89) #[] #[]] (w2.alloc (.cells #[.map (some b)] 118)) fun e w'=>∃v,e = .returned v∧w'.ownsRow w2.heap.size.succ 9 1 v (bkeys m).length ((bkeys m).map encStr)∧(w2.alloc (.cells #[.map (some b)] 118)).grownBy w' none):=(show Calls _ _ _ _ _ from by
  have:=sortedB_any (w:=w2.alloc (.cells #[.map (some b)] 118)) w2.heap.size b m (by simp) (by simp[go_sem]) (HM2.out.kept HG3.out (by simp)) HR.out HL.out
  rw[hs3] at this
  exact this)
 have hkl:(bkeys m).length≤1000000:=by
  have h1:=HL.out
  unfold bkeys;rw[List.length_mergeSort,List.length_map];exact h1
 generalize bkeys m=ks at *
 go_upto_block 0 with (first
  | (go_at_call 102;refine(keysS_any (some b) _).mono ?_;rintro e w3 ⟨rfl,rfl⟩)
  | (go_at_call 156;refine HSO.out.mono ?_;rintro e w4 ⟨v,rfl,hv,hg⟩;obtain⟨p4,c4,rfl⟩:=row_slice hv;have HV:=Lib.hid hv;have HG5:=Lib.hid hg;clear hv hg))
 have HG4:=Lib.hid (grown_trans HG3.out HG5.out)
 have HQ4:=Lib.hid (HQ2.out.keep HG4.out)
 have HT4:=Lib.hid (HT2.out.trans (grown_turn HG4.out (Turn.refl _ w4)))
 clear HSO
 rcases Nat.eq_zero_or_pos ks.length with h0|h0
 ·have HKN:Hid (ks = []):=(show _=_ from List.eq_nil_of_length_eq_zero h0)
  clear HV
  go_wp2
  go_loopw [22] (fun x wr=>x = .int .i64 0∧wr=w4) (fun _ _=>0)
  case atStart=>exact⟨rfl,rfl⟩
  case round=>
   obtain⟨rfl,rfl⟩:=hrel
   go_wp2
   first|go_end0|refine bodyPost_ret (results_none rfl _ _ _) rfl ?_
   rw[←HE.out,HKN.out,List.flatMap_nil,List.append_nil]
   exact⟨rfl,HQ4.out,HT4.out⟩
 ·obtain⟨g,cap,hvf⟩:=row_form HV.out h0
  injection hvf with hv1 hv2 hv3
  subst hv1 hv3
  have hr4:=HV.out
  have hgl:=hr4.lt g rfl
  have HQ5:Hid (WS (fun k=>own k∨k=g) wb (l++e4 m.length) w4):=(show WS _ _ _ _ from (HQ2.out.keep HG3.out).fresh HG5.out g (by rw[hs3];exact hgl.1) hgl.2)
  have hce:∀k,(hk:k<ks.length)→w4.cell? ⟨g,k,none⟩=some (.string ⟨ks[k].toArray⟩):=fun k hk=>by
   rw[World.ownsRow.cellAt hr4 k (by omega),List.getElem?_map,List.getElem?_eq_getElem hk];rfl
  have HCE:=Lib.hid hce
  have HGL:Hid (g<w4.heap.size):=(show _<_ from hgl.2)
  have HBL4:Hid (b<w4.heap.size):=(show _<_ from Nat.lt_of_lt_of_le HM2.out.lt HG4.out.size)
  have HM4:Hid (MapT w4 b Value.string encVal m):=(show MapT _ _ _ _ _ from HM2.out.kept HG4.out (by simp))
  clear hr4 hgl hce
  go_wp2
  go_loopw [22] (fun x wr=>∃k:Nat,k≤ks.length∧x = .int .i64 k∧WS (fun k=>own k∨k=g) wb (l++e4 m.length++(ks.take k).flatMap (vOne m)) wr∧Turn (fun k_1=>¬(own k_1∨k_1=g)) w4 wr) (fun x _=>ks.length-(intOf x).toNat)
  case atStart=>exact⟨0,Nat.zero_le _,rfl,by simpa using HQ5.out,Turn.refl _ _⟩
  case round=>
   obtain⟨k,hk,rfl,hws,htu⟩:=hrel
   have HW:=Lib.hid hws
   have HTU:=Lib.hid htu
   by_cases hlt:k<ks.length
   ·have HN:=Lib.hid (flat_take_succ (vOne m) ks k hlt)
    have HLK:Hid ((l++e4 m.length++(ks.take k).flatMap (vOne m)).length+(vOne m ks[k]).length≤70000):=(show _≤_ from by
     have h1:=HLT.out
     have h2:=flat_take_le (vOne m) ks k hlt
     rw[List.length_append,List.length_append,e4_len]
     omega)
    have hmr:MapT wr b Value.string encVal m:=HM4.out.same (ws_old htu HBL4.out (Or.inl HO.out))
    have hgw:g<wr.heap.size:=Nat.lt_of_lt_of_le HGL.out htu.size
    have ck:wr.cell? ⟨g,k,none⟩=some (.string ⟨ks[k].toArray⟩):=(World.cell?_of_block (a:=⟨g,k,none⟩) (ws_old htu HGL.out (Or.inr rfl))).trans (HCE.out k hlt)
    have hrun:=run_valsM (b:=b) (m:=m) ks[k]
    have hwl:=hws.wlt
    have HCB:Hid (Calls Tryz.prog 90 #[.string ⟨ks[k].toArray⟩,.agg #[.int .i64 (vAt m ks[k]).ver,.bool (vAt m ks[k]).dead],.pointer (some ⟨wb,0,none⟩)] wr (WPost (fun k=>own k∨k=g) wb (l++e4 m.length++(ks.take k).flatMap (vOne m)++vOne m ks[k]) wr)):=(show Calls _ _ _ _ _ from by2_any HW.out ⟨ks[k].toArray⟩ (vAt m ks[k]) (by have:=HLK.out;have h2:(vOne m ks[k]).length=(⟨ks[k].toArray⟩:ByteArray).size+10:=valB_len _;omega))
    clear hws htu
    generalize (vAt m ks[k]).ver=q1 at *
    generalize (vAt m ks[k]).dead=q2 at *
    generalize vOne m ks[k]=q5 at *
    generalize ks[k]=z at *
    go_wp2_with (go_at_call 90;refine HCB.out.mono ?_;rintro e w5 ⟨rfl,hq,ht⟩;have HQ6:=Lib.hid hq;have HT6:=Lib.hid (HTU.out.trans ht);clear hq ht)
    go_roundw
    case rel=>exact⟨k+1,by omega,by go_num,by rw[HN.out,←List.append_assoc];exact HQ6.out,HT6.out⟩
    case measure=>simp[intOf];omega
   ·obtain rfl:k=ks.length:=by omega
    clear hws htu
    go_wp2
    first|go_end0|refine bodyPost_ret (results_none rfl _ _ _) rfl ?_
    rw[←HE.out]
    rw[List.take_length] at HW
    have h1:=ws_end (grown_refl w4) HW.out HTU.out
    exact⟨rfl,h1.2.1,HT4.out.trans h1.2.2⟩
set_option maxHeartbeats 8000000 in
set_option maxRecDepth 100000 in
theorem rowsP_any (h:WS own wb l w) (b:Nat) (m:List (ID × Pend)) (hm:MapT w b encID encPend m) (ho:own b) (hl:m.length≤1000000) (hlen:(l++rowsP m).length≤70000) :
  Calls Tryz.prog 92 #[.pointer (some ⟨wb,0,none⟩),.map (some b),.func (.func 80) #[] #[],(.func (.func 93) #[] #[.pointer (some ⟨wb,0,none⟩)])] w (WPost own wb (l++rowsP m) w):=by
 have HE:Hid (l++e4 m.length++(idkeys m).flatMap (pOne m)=l++rowsP m):=(show _=_ from by unfold rowsP;rw[List.append_assoc])
 have HLT:Hid (l.length+4+((idkeys m).flatMap (pOne m)).length≤70000):=(show _≤_ from by unfold rowsP at hlen;simp only[List.length_append,e4_len] at hlen;omega)
 have HM:=Lib.hid hm
 have HO:=Lib.hid ho
 have HL:=Lib.hid hl
 have HW0:=Lib.hid h
 have hmm:=hm
 have hlenm:=run_lenM (P:=Tryz.prog) (t:=119) (b:=b) (m:=m) (ek:=encID) (ev:=encPend) Tryz.underlying119
 have hwl:=h.wlt
 have hbl:=hm.lt
 have HWD:Hid (∀w',w.grownBy w' none→Calls Tryz.prog 152 #[.pointer (some ⟨wb,0,none⟩),.int .u32 ((m.length:Int)%4294967296)] w' (WPost own wb (l++e4 m.length) w')):=(show ∀_,_→Calls _ _ _ _ _ from fun w' hg=>(HW0.out.keep hg).wordZ (by have:=HLT.out;omega) m.length)
 clear h hm ho hl hlen
 go_enter Tryz.func92,Tryz.ntmps92
 go_upto_region 0 with fail
 go_still_tail 6,(by kernel_rfl)
 go_upto_region 1 with (go_at_call 152;refine(HWD.out _ (grown_drew (grown_refl _))).mono ?_;rintro e w2 ⟨rfl,hq,ht⟩;have HQ2:=Lib.hid hq;have HT2:=Lib.hid (grown_turn (grown_drew (grown_refl _)) ht);clear hq ht)
 clear HWD hmm hlenm
 have HM2:Hid (MapT w2 b encID encPend m):=(show MapT _ _ _ _ _ from HM.out.same (ws_old HT2.out hbl HO.out))
 have HG3:=Lib.hid (World.grownBy_alloc w2 (.cells #[.map (some b)] 119) none)
 have hs3:(w2.alloc (.cells #[.map (some b)] 119)).heap.size=w2.heap.size.succ:=by simp
 have HSO:Hid (Calls Tryz.prog 78 #[.func (.func 142) #[] #[.pointer (some ⟨w2.heap.size,0,none⟩)],.func (.func 80) #[] #[]] (w2.alloc (.cells #[.map (some b)] 119)) fun e w'=>∃v,e = .returned v∧IdRow w2.heap.size.succ w' v (idkeys m)∧(w2.alloc (.cells #[.map (some b)] 119)).grownBy w' none):=(show Calls _ _ _ _ _ from by
  have:=sortedF_any w2.heap.size b m (w2.alloc (.cells #[.map (some b)] 119)) (by simp) (by simp[go_sem]) (HM2.out.kept HG3.out (by simp)) HL.out
  rw[hs3] at this
  refine this.mono ?_
  rintro e w' ⟨v,ks,h1,⟨h2,h3,h4,_⟩,h5⟩
  have h6:=idkeys_of HM2.out.nodup h3 h4
  subst h6
  exact⟨v,h1,h2,h5⟩)
 have hkl:(idkeys m).length≤1000000:=by
  have h1:=HL.out
  unfold idkeys;rw[len_sortL,List.length_map];exact h1
 generalize idkeys m=ks at *
 go_upto_block 0 with (first
  | (go_at_call 79;refine(keysP_any (some b) _).mono ?_;rintro e w3 ⟨rfl,rfl⟩)
  | (go_at_call 78;refine HSO.out.mono ?_;rintro e w4 ⟨v,rfl,hv,hg⟩;obtain⟨p4,c4,rfl⟩:=row_slice hv;have HV:=Lib.hid hv;have HG5:=Lib.hid hg;clear hv hg))
 have HG4:=Lib.hid (grown_trans HG3.out HG5.out)
 have HQ4:=Lib.hid (HQ2.out.keep HG4.out)
 have HT4:=Lib.hid (HT2.out.trans (grown_turn HG4.out (Turn.refl _ w4)))
 clear HSO
 rcases Nat.eq_zero_or_pos ks.length with h0|h0
 ·have HKN:Hid (ks = []):=(show _=_ from List.eq_nil_of_length_eq_zero h0)
  clear HV
  go_wp2
  go_loopw [22] (fun x wr=>x = .int .i64 0∧wr=w4) (fun _ _=>0)
  case atStart=>exact⟨rfl,rfl⟩
  case round=>
   obtain⟨rfl,rfl⟩:=hrel
   go_wp2
   first|go_end0|refine bodyPost_ret (results_none rfl _ _ _) rfl ?_
   rw[←HE.out,HKN.out,List.flatMap_nil,List.append_nil]
   exact⟨rfl,HQ4.out,HT4.out⟩
 ·obtain⟨g,cap,hvf⟩:=row_form HV.out h0
  injection hvf with hv1 hv2 hv3
  subst hv1 hv3
  have hr4:=HV.out
  have hgl:=hr4.lt g rfl
  have HQ5:Hid (WS (fun k=>own k∨k=g) wb (l++e4 m.length) w4):=(show WS _ _ _ _ from (HQ2.out.keep HG3.out).fresh HG5.out g (by rw[hs3];exact hgl.1) hgl.2)
  have hsr:SRow w4 54 2 idCells (.slice (some ⟨g,0,none⟩) ks.length c4) ks:=idRow_le hr4 (Nat.zero_le _)
  have hce:∀k,(hk:k<ks.length)→w4.cell? ⟨g,k*2,none⟩=some (.string ks[k].key)∧w4.cell? ⟨g,k*2+1,none⟩=some (.int .i64 ks[k].ver):=fun k hk=>by
   rcases hsr.at lenID with e0|⟨g2,c2,e,hc,-⟩
   ·rw[e0] at hk;simp at hk
   ·injection e with e1 _ _
    cases e1
    exact⟨hc k hk 0 _ rfl,hc k hk 1 _ rfl⟩
  clear hsr
  have HCE:=Lib.hid hce
  have HGL:Hid (g<w4.heap.size):=(show _<_ from hgl.2)
  have HBL4:Hid (b<w4.heap.size):=(show _<_ from Nat.lt_of_lt_of_le HM2.out.lt HG4.out.size)
  have HM4:Hid (MapT w4 b encID encPend m):=(show MapT _ _ _ _ _ from HM2.out.kept HG4.out (by simp))
  clear hr4 hgl hce
  go_wp2
  go_loopw [22] (fun x wr=>∃k:Nat,k≤ks.length∧x = .int .i64 k∧WS (fun k=>own k∨k=g) wb (l++e4 m.length++(ks.take k).flatMap (pOne m)) wr∧Turn (fun k_1=>¬(own k_1∨k_1=g)) w4 wr) (fun x _=>ks.length-(intOf x).toNat)
  case atStart=>exact⟨0,Nat.zero_le _,rfl,by simpa using HQ5.out,Turn.refl _ _⟩
  case round=>
   obtain⟨k,hk,rfl,hws,htu⟩:=hrel
   have HW:=Lib.hid hws
   have HTU:=Lib.hid htu
   by_cases hlt:k<ks.length
   ·have HN:=Lib.hid (flat_take_succ (pOne m) ks k hlt)
    have HLK:Hid ((l++e4 m.length++(ks.take k).flatMap (pOne m)).length+(pOne m ks[k]).length≤70000):=(show _≤_ from by
     have h1:=HLT.out
     have h2:=flat_take_le (pOne m) ks k hlt
     rw[List.length_append,List.length_append,e4_len]
     omega)
    have hmr:MapT wr b encID encPend m:=HM4.out.same (ws_old htu HBL4.out (Or.inl HO.out))
    have hgw:g<wr.heap.size:=Nat.lt_of_lt_of_le HGL.out htu.size
    have ck:=(World.cell?_of_block (a:=⟨g,k*2,none⟩) (ws_old htu HGL.out (Or.inr rfl))).trans (HCE.out k hlt).1
    have ck1:=(World.cell?_of_block (a:=⟨g,k*2+1,none⟩) (ws_old htu HGL.out (Or.inr rfl))).trans (HCE.out k hlt).2
    have hwl:=hws.wlt
    have hrun:=run_pendsM (b:=b) (m:=m) ks[k]
    have hl1:(l++e4 m.length++(ks.take k).flatMap (pOne m)).length+ks[k].key.size≤80000:=by have:=HLK.out;have h2:(pOne m ks[k]).length=ks[k].key.size+19:=pendB_len _;omega
    have HCB:Hid (∀w',wr.grownBy w' none→Calls Tryz.prog 93 #[.agg #[.string ks[k].key,.int .i64 ks[k].ver],.agg #[.int .i64 (pAt m ks[k]).client,.int .i64 (pAt m ks[k]).req],.pointer (some ⟨wb,0,none⟩)] w' (WPost (fun k=>own k∨k=g) wb (l++e4 m.length++(ks.take k).flatMap (pOne m)++pOne m ks[k]) w')):=(show ∀_,_→Calls _ _ _ _ _ from fun w' hg=>by3_any (HW.out.keep hg) ks[k] (pAt m ks[k]) hl1)
    clear hws htu hl1
    generalize (pAt m ks[k]).client=q1 at *
    generalize (pAt m ks[k]).req=q2 at *
    generalize pOne m ks[k]=q5 at *
    generalize ks[k]=z at *
    go_upto_region 4 with fail
    have hga:=World.grownBy_alloc wr (.cells #[.string z.key,.int .i64 z.ver] 54) none
    have hba:=heap_alloc_new wr (.cells #[.string z.key,.int .i64 z.ver] 54)
    have hma:=hmr.kept hga (by simp)
    have HGA:=Lib.hid hga
    generalize wr.alloc (.cells #[.string z.key,.int .i64 z.ver] 54)=wa at *
    have k0:wa.cell? ⟨wr.heap.size,0,none⟩=some (.string z.key):=(cell_block hba 0).trans rfl
    have k1:wa.cell? ⟨wr.heap.size,1,none⟩=some (.int .i64 z.ver):=(cell_block hba 1).trans rfl
    have hka:=cell_lt k0
    have hbl5:=hma.lt
    clear hga hba ck ck1 hmr
    go_still_tail 5,(by kernel_rfl)
    go_wp2_with (go_at_call 93;refine(HCB.out _ (grown_drew HGA.out)).mono ?_;rintro e w5 ⟨rfl,hq,ht⟩;have HQ6:=Lib.hid hq;have HT6:=Lib.hid (HTU.out.trans (grown_turn (grown_drew HGA.out) ht));clear hq ht)
    go_roundw
    case rel=>exact⟨k+1,by omega,by go_num,by rw[HN.out,←List.append_assoc];exact HQ6.out,HT6.out⟩
    case measure=>simp[intOf];omega
   ·obtain rfl:k=ks.length:=by omega
    clear hws htu
    go_wp2
    first|go_end0|refine bodyPost_ret (results_none rfl _ _ _) rfl ?_
    rw[←HE.out]
    rw[List.take_length] at HW
    have h1:=ws_end (grown_refl w4) HW.out HTU.out
    exact⟨rfl,h1.2.1,HT4.out.trans h1.2.2⟩
set_option maxHeartbeats 8000000 in
set_option maxRecDepth 100000 in
theorem rowsH_any (h:WS own wb l w) (b:Nat) (m:List (ID × NSet)) (hm:MapT w b encID encSet m) (ho:own b) (hset:∀p∈m,SetT w p.2∧own p.2.blk∧Fits p.2.mem) (hl:m.length≤1000000) (hlen:(l++rowsH m).length≤70000) :
  Calls Tryz.prog 94 #[.pointer (some ⟨wb,0,none⟩),.map (some b),.func (.func 80) #[] #[],(.func (.func 95) #[.pointer (some ⟨wb,0,none⟩)] #[])] w (WPost own wb (l++rowsH m) w):=by
 have HE:Hid (l++e4 m.length++(idkeys m).flatMap (hOne m)=l++rowsH m):=(show _=_ from by unfold rowsH;rw[List.append_assoc])
 have HLT:Hid (l.length+4+((idkeys m).flatMap (hOne m)).length≤70000):=(show _≤_ from by unfold rowsH at hlen;simp only[List.length_append,e4_len] at hlen;omega)
 have HM:=Lib.hid hm
 have HO:=Lib.hid ho
 have HL:=Lib.hid hl
 have HSE:=Lib.hid hset
 have HW0:=Lib.hid h
 have hmm:=hm
 have hlenm:=run_lenM (P:=Tryz.prog) (t:=120) (b:=b) (m:=m) (ek:=encID) (ev:=encSet) Tryz.underlying120
 have hwl:=h.wlt
 have hbl:=hm.lt
 have HWD:Hid (∀w',w.grownBy w' none→Calls Tryz.prog 152 #[.pointer (some ⟨wb,0,none⟩),.int .u32 ((m.length:Int)%4294967296)] w' (WPost own wb (l++e4 m.length) w')):=(show ∀_,_→Calls _ _ _ _ _ from fun w' hg=>(HW0.out.keep hg).wordZ (by have:=HLT.out;omega) m.length)
 clear h hm ho hl hlen hset
 go_enter Tryz.func94,Tryz.ntmps94
 go_upto_region 0 with fail
 go_still_tail 6,(by kernel_rfl)
 go_upto_region 1 with (go_at_call 152;refine(HWD.out _ (grown_drew (grown_refl _))).mono ?_;rintro e w2 ⟨rfl,hq,ht⟩;have HQ2:=Lib.hid hq;have HT2:=Lib.hid (grown_turn (grown_drew (grown_refl _)) ht);clear hq ht)
 clear HWD hmm hlenm
 have HM2:Hid (MapT w2 b encID encSet m):=(show MapT _ _ _ _ _ from HM.out.same (ws_old HT2.out hbl HO.out))
 have HG3:=Lib.hid (World.grownBy_alloc w2 (.cells #[.map (some b)] 120) none)
 have hs3:(w2.alloc (.cells #[.map (some b)] 120)).heap.size=w2.heap.size.succ:=by simp
 have HSO:Hid (Calls Tryz.prog 78 #[.func (.func 186) #[] #[.pointer (some ⟨w2.heap.size,0,none⟩)],.func (.func 80) #[] #[]] (w2.alloc (.cells #[.map (some b)] 120)) fun e w'=>∃v,e = .returned v∧IdRow w2.heap.size.succ w' v (idkeys m)∧(w2.alloc (.cells #[.map (some b)] 120)).grownBy w' none):=(show Calls _ _ _ _ _ from by
  have:=sortedFH_any w2.heap.size b m (w2.alloc (.cells #[.map (some b)] 120)) (by simp) (by simp[go_sem]) (HM2.out.kept HG3.out (by simp)) HL.out
  rw[hs3] at this
  refine this.mono ?_
  rintro e w' ⟨v,ks,h1,⟨h2,h3,h4,_⟩,h5⟩
  have h6:=idkeys_of HM2.out.nodup h3 h4
  subst h6
  exact⟨v,h1,h2,h5⟩)
 have hkl:(idkeys m).length≤1000000:=by
  have h1:=HL.out
  unfold idkeys;rw[len_sortL,List.length_map];exact h1
 have hkm:∀x∈idkeys m,∃s,mget m x=some s:=fun x hx=>by
  unfold idkeys at hx
  rw[mem_sortL HM2.out.nodup] at hx
  obtain⟨p,hp,rfl⟩:=List.mem_map.1 hx
  exact⟨p.2,mget_of_mem HM2.out.nodup hp⟩
 have HKM:=Lib.hid hkm
 clear hkm
 generalize idkeys m=ks at *
 go_upto_block 0 with (first
  | (go_at_call 158;refine(keysPH_any (some b) _).mono ?_;rintro e w3 ⟨rfl,rfl⟩)
  | (go_at_call 78;refine HSO.out.mono ?_;rintro e w4 ⟨v,rfl,hv,hg⟩;obtain⟨p4,c4,rfl⟩:=row_slice hv;have HV:=Lib.hid hv;have HG5:=Lib.hid hg;clear hv hg))
 have HG4:=Lib.hid (grown_trans HG3.out HG5.out)
 have HQ4:=Lib.hid (HQ2.out.keep HG4.out)
 have HT4:=Lib.hid (HT2.out.trans (grown_turn HG4.out (Turn.refl _ w4)))
 clear HSO
 rcases Nat.eq_zero_or_pos ks.length with h0|h0
 ·have HKN:Hid (ks = []):=(show _=_ from List.eq_nil_of_length_eq_zero h0)
  clear HV
  go_wp2
  go_loopw [22] (fun x wr=>x = .int .i64 0∧wr=w4) (fun _ _=>0)
  case atStart=>exact⟨rfl,rfl⟩
  case round=>
   obtain⟨rfl,rfl⟩:=hrel
   go_wp2
   first|go_end0|refine bodyPost_ret (results_none rfl _ _ _) rfl ?_
   rw[←HE.out,HKN.out,List.flatMap_nil,List.append_nil]
   exact⟨rfl,HQ4.out,HT4.out⟩
 ·obtain⟨g,cap,hvf⟩:=row_form HV.out h0
  injection hvf with hv1 hv2 hv3
  subst hv1 hv3
  have hr4:=HV.out
  have hgl:=hr4.lt g rfl
  have HQ5:Hid (WS (fun k=>own k∨k=g) wb (l++e4 m.length) w4):=(show WS _ _ _ _ from (HQ2.out.keep HG3.out).fresh HG5.out g (by rw[hs3];exact hgl.1) hgl.2)
  have hsr:SRow w4 54 2 idCells (.slice (some ⟨g,0,none⟩) ks.length c4) ks:=idRow_le hr4 (Nat.zero_le _)
  have hce:∀k,(hk:k<ks.length)→w4.cell? ⟨g,k*2,none⟩=some (.string ks[k].key)∧w4.cell? ⟨g,k*2+1,none⟩=some (.int .i64 ks[k].ver):=fun k hk=>by
   rcases hsr.at lenID with e0|⟨g2,c2,e,hc,-⟩
   ·rw[e0] at hk;simp at hk
   ·injection e with e1 _ _
    cases e1
    exact⟨hc k hk 0 _ rfl,hc k hk 1 _ rfl⟩
  clear hsr
  have HCE:=Lib.hid hce
  have HGL:Hid (g<w4.heap.size):=(show _<_ from hgl.2)
  have HBL4:Hid (b<w4.heap.size):=(show _<_ from Nat.lt_of_lt_of_le HM2.out.lt HG4.out.size)
  have HM4:Hid (MapT w4 b encID encSet m):=(show MapT _ _ _ _ _ from HM2.out.kept HG4.out (by simp))
  have hse4:∀p∈m,SetT w4 p.2∧own p.2.blk∧Fits p.2.mem:=fun p hp=>by
   obtain⟨h1,h2,h3⟩:=HSE.out p hp
   exact⟨MapT.kept (MapT.same h1 (ws_old HT2.out (MapT.lt h1) h2)) HG4.out (by simp),h2,h3⟩
  have HSE4:=Lib.hid hse4
  clear hse4
  clear hr4 hgl hce
  go_wp2
  go_loopw [22] (fun x wr=>∃k:Nat,k≤ks.length∧x = .int .i64 k∧WS (fun k=>own k∨k=g) wb (l++e4 m.length++(ks.take k).flatMap (hOne m)) wr∧Turn (fun k_1=>¬(own k_1∨k_1=g)) w4 wr) (fun x _=>ks.length-(intOf x).toNat)
  case atStart=>exact⟨0,Nat.zero_le _,rfl,by simpa using HQ5.out,Turn.refl _ _⟩
  case round=>
   obtain⟨k,hk,rfl,hws,htu⟩:=hrel
   have HW:=Lib.hid hws
   have HTU:=Lib.hid htu
   by_cases hlt:k<ks.length
   ·have HN:=Lib.hid (flat_take_succ (hOne m) ks k hlt)
    have HLK:Hid ((l++e4 m.length++(ks.take k).flatMap (hOne m)).length+(hOne m ks[k]).length≤70000):=(show _≤_ from by
     have h1:=HLT.out
     have h2:=flat_take_le (hOne m) ks k hlt
     rw[List.length_append,List.length_append,e4_len]
     omega)
    have hmr:MapT wr b encID encSet m:=HM4.out.same (ws_old htu HBL4.out (Or.inl HO.out))
    have hgw:g<wr.heap.size:=Nat.lt_of_lt_of_le HGL.out htu.size
    have ck:=(World.cell?_of_block (a:=⟨g,k*2,none⟩) (ws_old htu HGL.out (Or.inr rfl))).trans (HCE.out k hlt).1
    have ck1:=(World.cell?_of_block (a:=⟨g,k*2+1,none⟩) (ws_old htu HGL.out (Or.inr rfl))).trans (HCE.out k hlt).2
    have hwl:=hws.wlt
    obtain⟨s,hsg⟩:∃s,mget m ks[k]=some s:=HKM.out ks[k] (List.getElem_mem hlt)
    obtain⟨hs1,hs2,hs3⟩:=HSE4.out _ (mget_mem hsg)
    have hrun:=run_setsT b m ks[k].key ks[k].ver (some s) hsg
    simp only[Option.map_some] at hrun
    have ho1:hOne m ks[k]=setB (ks[k],s):=by unfold hOne;rw[hsg];rfl
    have hl1:(l++e4 m.length++(ks.take k).flatMap (hOne m)).length+ks[k].key.size+2*s.mem.length≤80000:=by have:=HLK.out;rw[ho1,setB_len] at this;simp only at this;omega
    have hsw:SetT wr s:=MapT.same hs1 (ws_old htu (MapT.lt hs1) (Or.inl hs2))
    have HCB:Hid (∀w',wr.grownBy w' none→Calls Tryz.prog 95 #[.pointer (some ⟨wb,0,none⟩),.agg #[.string ks[k].key,.int .i64 ks[k].ver],.map (some s.blk)] w' (WPost (fun k=>own k∨k=g) wb (l++e4 m.length++(ks.take k).flatMap (hOne m)++hOne m ks[k]) w')):=(show ∀_,_→Calls _ _ _ _ _ from fun w' hg=>by
     rw[ho1]
     exact nodes_any (HW.out.keep hg) ks[k] s (MapT.kept hsw hg (by simp)) (Or.inl hs2) hs3 hl1)
    clear hws htu hl1 hs1 hs2 hs3 hsw ho1 hsg
    generalize hOne m ks[k]=q5 at *
    generalize ks[k]=z at *
    go_upto_region 4 with fail
    have hga:=World.grownBy_alloc wr (.cells #[.string z.key,.int .i64 z.ver] 54) none
    have hba:=heap_alloc_new wr (.cells #[.string z.key,.int .i64 z.ver] 54)
    have hma:=hmr.kept hga (by simp)
    have HGA:=Lib.hid hga
    generalize wr.alloc (.cells #[.string z.key,.int .i64 z.ver] 54)=wa at *
    have k0:wa.cell? ⟨wr.heap.size,0,none⟩=some (.string z.key):=(cell_block hba 0).trans rfl
    have k1:wa.cell? ⟨wr.heap.size,1,none⟩=some (.int .i64 z.ver):=(cell_block hba 1).trans rfl
    have hka:=cell_lt k0
    have hbl5:=hma.lt
    clear hga hba ck ck1 hmr
    go_still_tail 5,(by kernel_rfl)
    go_wp2_with (go_at_call 95;refine(HCB.out _ (grown_drew HGA.out)).mono ?_;rintro e w5 ⟨rfl,hq,ht⟩;have HQ6:=Lib.hid hq;have HT6:=Lib.hid (HTU.out.trans (grown_turn (grown_drew HGA.out) ht));clear hq ht)
    go_roundw
    case rel=>exact⟨k+1,by omega,by go_num,by rw[HN.out,←List.append_assoc];exact HQ6.out,HT6.out⟩
    case measure=>simp[intOf];omega
   ·obtain rfl:k=ks.length:=by omega
    clear hws htu
    go_wp2
    first|go_end0|refine bodyPost_ret (results_none rfl _ _ _) rfl ?_
    rw[←HE.out]
    rw[List.take_length] at HW
    have h1:=ws_end (grown_refl w4) HW.out HTU.out
    exact⟨rfl,h1.2.1,HT4.out.trans h1.2.2⟩
end
end Go.Proofs.YtjfelfjobeeenaaGreat
