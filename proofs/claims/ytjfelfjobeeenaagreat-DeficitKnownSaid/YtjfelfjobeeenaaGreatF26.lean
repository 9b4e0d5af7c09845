/- What Missing answers: the walk. Conditions: a table that lies in memory, its keys strings of the machine. deficit.Healthy, Urgent, Lost; the law's task, id: walked. Conditions: as the theorems say. The document's Lost: walked. Conditions: needs that lie in memory. The document's Next: which tasks come next beside those under way, in plain Lean; walked. Conditions: needs and tasks that lie in memory. The document's Next: walked. Conditions: needs and tasks that lie in memory. -/
import Derived.Test.YtjfelfjobeeenaaGreatF24
import Derived.Test.YtjfelfjobeeenaaGreatF22
import Derived.Test.YtjfelfjobeeenaaGreatF25
import Derived.Test.YtjfelfjobeeenaaGreatF23
import Derived.Test.YtjfelfjobeeenaaGreatF21
set_option linter.unusedSimpArgs false
set_option linter.unusedVariables false
namespace Go.Proofs.YtjfelfjobeeenaaGreat
open Go.RowKit Go.Sf Go.Shelf
theorem lread_nil {w:World}:LRead w 2 idCells (.slice none 0 0) ([]:List ID):=⟨none,0,rfl,Or.inl rfl⟩
theorem pred_mis {W:World} {tb:Nat} {T:Tab} (h:TRep W tb T) (n:Int) (b1 b2:Nat) (h1:W.cell? ⟨b1,0,none⟩=some (.pointer (some ⟨tb,0,none⟩))) (h2:W.cell? ⟨b2,0,none⟩=some (.int .i64 n)) :
  PredI W (.func (.func 103) #[] #[.pointer (some ⟨b1,0,none⟩),.pointer (some ⟨b2,0,none⟩)]) (hasB T n) (fun k=>k∈T.blocks tb∨k=b1∨k=b2):=by
 refine⟨_,_,rfl,enters_of Tryz.func103 (by kernel_rfl) rfl,fun i w hb _=>?_⟩
 have ht:TRep w tb T:=h.same fun b hbm=>hb b (Or.inl hbm)
 have k1:w.cell? ⟨b1,0,none⟩=some (.pointer (some ⟨tb,0,none⟩)):=(World.cell?_of_block (a:=⟨b1,0,none⟩) (hb b1 (Or.inr (Or.inl rfl)))).trans h1
 have k2:w.cell? ⟨b2,0,none⟩=some (.int .i64 n):=(World.cell?_of_block (a:=⟨b2,0,none⟩) (hb b2 (Or.inr (Or.inr rfl)))).trans h2
 exact mis1_any ht i n b1 b2 k1 k2
section
variable {w : World} {tb : Nat} {T : Tab}
set_option maxHeartbeats 4000000 in
set_option maxRecDepth 100000 in
theorem missing_any (h:TRep w tb T) (n:Int) (hll:T.lives.length≤9223372036854775807) (hr:∀p∈T.values,p.1.size≤maxLen) (hl:T.values.length≤1000000) :
  Calls Tryz.prog 43 #[.pointer (some ⟨tb,0,none⟩),.int .i64 n] w fun e w'=>∃v,e = .returned v∧LRead w' 2 idCells v (missL T n)∧w.grownBy w' none:=by
 have HLF:Hid (∀W,w.grownBy W none→Calls Tryz.prog 23 #[.pointer (some ⟨tb,0,none⟩),.int .i64 n] W fun e w'=>e = .returned (.int .i64 (lifeV T n))∧W.grownBy w' none):=(show ∀_,_→Calls _ _ _ _ _ from fun W hg=>life_any (h.grown hg) n hll)
 have HCU:Hid (∀W,w.grownBy W none→Calls Tryz.prog 42 #[.pointer (some ⟨tb,0,none⟩)] W fun e w'=>∃v,e = .returned v∧IdRow W.heap.size w' v (curL T)∧W.grownBy w' none):=(show ∀_,_→Calls _ _ _ _ _ from fun W hg=>current_any (h.grown hg) hr hl)
 have HT:=Lib.hid h
 have htb:=h.tlt
 have HCL:Hid ((curL T).length≤1000000):=(show _≤_ from Nat.le_trans (List.length_filterMap_le _ _) (by rw[skeys_length];exact hl))
 clear h hr hl
 by_cases hz:lifeV T n=0
 ·have HM:Hid (missL T n = []):=(show _=_ from by unfold missL;rw[if_pos hz])
  rw[hz] at HLF
  clear hz HCU
  go_enter Tryz.func43,Tryz.ntmps43
  go_upto_region 1 with fail
  have HG:Hid (w.grownBy ((w.alloc (.cells #[.pointer (some ⟨tb,0,none⟩)] 38)).alloc (.cells #[.int .i64 n] 3)) none):=(show w.grownBy _ none from grown_alloc (grown_alloc (grown_refl _) _) _)
  have hq:=HLF.out _ HG.out
  go_wp2_with (go_at_call 23;refine hq.mono ?_;rintro e w1 ⟨rfl,hg⟩;have HG1:=Lib.hid hg;clear hg)
  go_ret
  exact⟨_,rfl,by rw[HM.out];exact lread_nil,grown_trans HG.out HG1.out⟩
 ·have HM:Hid (missL T n=(curL T).filter fun i=>!hasB T n i):=(show _=_ from by unfold missL;rw[if_neg hz];rfl)
  have hzb:(lifeV T n == 0)=false:=by simpa using hz
  generalize lifeV T n=lv at *
  clear hz
  go_enter Tryz.func43,Tryz.ntmps43
  go_upto_region 1 with fail
  have HG:Hid (w.grownBy ((w.alloc (.cells #[.pointer (some ⟨tb,0,none⟩)] 38)).alloc (.cells #[.int .i64 n] 3)) none):=(show w.grownBy _ none from grown_alloc (grown_alloc (grown_refl _) _) _)
  have HB1:Hid (((w.alloc (.cells #[.pointer (some ⟨tb,0,none⟩)] 38)).alloc (.cells #[.int .i64 n] 3)).cell? ⟨w.heap.size,0,none⟩=some (.pointer (some ⟨tb,0,none⟩))):=(show _=_ from by simp[go_sem])
  have HB2:Hid (((w.alloc (.cells #[.pointer (some ⟨tb,0,none⟩)] 38)).alloc (.cells #[.int .i64 n] 3)).cell? ⟨w.heap.size+1,0,none⟩=some (.int .i64 n)):=(show _=_ from by have:=heap_alloc_new (w.alloc (.cells #[.pointer (some ⟨tb,0,none⟩)] 38)) (.cells #[.int .i64 n] 3);simp only[World.size_alloc] at this;exact(cell_block this 0).trans rfl)
  have hq:=HLF.out _ HG.out
  go_upto_region 3 with (go_at_call 23;refine hq.mono ?_;rintro e w1 ⟨rfl,hg⟩;have HG1:=Lib.hid hg;clear hg)
  generalize (w.alloc (.cells #[.pointer (some ⟨tb,0,none⟩)] 38)).alloc (.cells #[.int .i64 n] 3)=wa at *
  have HC1:Hid (w1.cell? ⟨w.heap.size,0,none⟩=some (.pointer (some ⟨tb,0,none⟩))):=(show _=_ from HG1.out.cell HB1.out (by simp))
  have HC2:Hid (w1.cell? ⟨w.heap.size+1,0,none⟩=some (.int .i64 n)):=(show _=_ from HG1.out.cell HB2.out (by simp))
  have HW1:=Lib.hid (grown_trans HG.out HG1.out)
  have c1:=HC1.out
  clear hq
  have HDF:Hid (∀(w2:World) (v:Value),w1.grownBy w2 none→IdRow w1.heap.size w2 v (curL T)→Calls Tryz.prog 105 #[v,.func (.func 103) #[] #[.pointer (some ⟨w.heap.size,0,none⟩),.pointer (some ⟨w.heap.size+1,0,none⟩)]] w2 fun e w'=>∃v',e = .returned v'∧LRead w' 2 idCells v' ((curL T).filter fun i=>!hasB T n i)∧w.grownBy w' none):=(show ∀(_:World) (_:Value),_→_→_ from by
   intro w2 v hg2 hv
   have hlt:∀k,(k∈T.blocks tb∨k=w.heap.size∨k=w.heap.size+1)→k<w1.heap.size:=by
    rintro k (hk|rfl|rfl)
    ·exact Nat.lt_of_lt_of_le (HT.out.lt k hk) HW1.out.size
    ·exact cell_lt HC1.out
    ·exact cell_lt HC2.out
   refine(delF_any (l:=curL T) (pred_mis (HT.out.grown (grown_trans HW1.out hg2)) n w.heap.size (w.heap.size+1) (hg2.cell HC1.out (by simp)) (hg2.cell HC2.out (by simp))) (idRow_le hv (Nat.zero_le _)) HCL.out (fun k hk=>Nat.lt_of_lt_of_le (hlt k hk) hg2.size) (fun g hg hk=>?_)).mono ?_
   ·have h1:=row_base hv g hg
    have h2:=hlt g hk
    omega
   ·rintro e w' ⟨v',h1,h2,h3⟩
    exact⟨v',h1,h2,grown_own (grown_trans HW1.out hg2) h3 (fun k hk=>Nat.le_trans HW1.out.size (row_base hv k hk))⟩)
  go_wp2_with (first
   | (go_at_call 42;refine(HCU.out _ HW1.out).mono ?_;rintro e w2 ⟨v,rfl,hv,hg⟩;have HQ:=Lib.hid (HDF.out w2 v hg hv);clear hv hg)
   | (go_at_call 105;refine HQ.out.mono ?_;rintro e w3 ⟨v',rfl,hr,hg⟩;have HR:=Lib.hid hr;have HG3:=Lib.hid hg;clear hr hg))
  go_ret
  exact⟨_,rfl,by rw[HM.out];exact HR.out,HG3.out⟩
end
theorem missing_at {bs:Nat→Prop} {w:World} {tb:Nat} {L:Tab} (h:At bs w tb L) (n:Int) (hll:L.lives.length≤9223372036854775807) (hr:∀p∈L.values,p.1.size≤maxLen) (hl:L.values.length≤1000000) :
  Calls Tryz.prog 43 #[.pointer (some ⟨tb,0,none⟩),.int .i64 n] w fun e w'=>∃v,e = .returned v∧LRead w' 2 idCells v (missL L n)∧w.grownBy w' none:=by
 obtain⟨T,h1,rfl,h3⟩:=h.ex
 have h2:=missing_any h1 n hll hr hl
 have e:missL T.norm n=missL T n:=by
  unfold missL
  have e1:lifeV T.norm n=lifeV T n:=rfl
  have e2:curL T.norm=curL T:=rfl
  rw[e1,e2]
  split
  ·rfl
  ·refine List.filter_congr fun x _=>?_
   unfold notHas hasB
   show(!decide (n∈memH (nsets T.holds) x))=_
   rw[memH_nsets]
 rw[e]
 exact h2
set_option maxHeartbeats 4000000 in
theorem healthy_at {bs:Nat→Prop} {w:World} {tb:Nat} {L:Tab} (h:At bs w tb L) (n:Int) (hll:L.lives.length≤1000000) (hr:∀p∈L.values,p.1.size≤maxLen) (hl:L.values.length≤1000000) (hv:0<lifeV L n) (hm:missL L n = []) :
  Calls Tryz.prog 24 #[.pointer (some ⟨tb,0,none⟩),.int .i64 n] w fun e w'=>e = .returned (.bool true)∧w.grownBy w' none:=by
 have HL:=Lib.hid (life_at h n (by omega))
 have HM:=Lib.hid (fun W (hg:w.grownBy W none)=>missing_at (h.grown hg) n (by omega) hr hl)
 rw[hm] at HM
 clear h hm hr hl
 generalize lifeV L n=lv at *
 go_enter Tryz.func24,Tryz.ntmps24
 go_wp2_with (first
  | (go_at_call 23;refine HL.out.mono ?_;rintro e w1 ⟨rfl,hg⟩;have HG:=Lib.hid hg;clear hg)
  | (go_at_call 43;refine(HM.out _ HG.out).mono ?_;rintro e w2 ⟨v,rfl,⟨p,cap,rfl,_⟩,hg⟩;have HG2:=Lib.hid hg;clear hg))
 go_ret
 exact⟨rfl,grown_trans HG.out HG2.out⟩
theorem urgent_any (key:ByteArray) (ver:Int) (ph pm:Option Addr) (n ch m cm:Nat) (t:Int) (W:World) (hn:n≤1000000) (ht : -1000000≤t∧t≤1000000) :
  Calls Tryz.prog 61 #[.agg #[.string key,.int .i64 ver,.slice ph n ch,.slice pm m cm],.int .i64 t] W fun e w'=>e = .returned (.int .i64 ((n:Int)-t))∧W.grownBy w' none:=by
 obtain⟨t1,t2⟩:=ht
 go_enter Tryz.func61,Tryz.ntmps61
 go_wp2
 go_ret
 exact⟨rfl,by repeat (first|exact grown_refl _|exact World.grownBy_alloc _ _ _|refine grown_alloc ?_ _|refine grown_drew ?_)⟩
theorem lawid_any (key:ByteArray) (ver:Int) (W:World):Calls Tryz.prog 26 #[.string key,.int .i64 ver] W fun e w'=>e = .returned (.agg #[.string key,.int .i64 ver])∧W.grownBy w' none:=by
 go_enter Tryz.func26,Tryz.ntmps26
 go_wp2
 refine bodyPost_ret (v:=.agg #[.string key,.int .i64 ver]) (by simp[results,Tryz.results26,go_sem]) rfl ⟨rfl,World.grownBy_alloc _ _ none⟩
set_option maxHeartbeats 4000000 in
theorem lawtask_any (key:ByteArray) (ver nd held:Int) (W:World):Calls Tryz.prog 21 #[.agg #[.string key,.int .i64 ver,.int .i64 nd,.int .i64 held],.agg #[.string key,.int .i64 ver,.int .i64 nd,.int .i64 held]] W fun e w'=>e = .returned (.bool true)∧W.grownBy w' none:=by
 go_enter Tryz.func21,Tryz.ntmps21
 go_wp2
 go_ret
 exact⟨rfl,by repeat (first|exact grown_refl _|exact World.grownBy_alloc _ _ _|refine grown_alloc ?_ _|refine grown_drew ?_)⟩
def lostL (l:List Nd) (t:Int):List ID:=(l.filter fun nd=>decide ((nd.held:Int)<t)).map (·.id)
theorem lostL_take {l:List Nd} {k:Nat} {nd:Nd} (h:l[k]? = some nd) (t:Int):lostL (l.take (k+1)) t=lostL (l.take k) t++(if (nd.held:Int)<t then [nd.id] else []):=by
 obtain⟨h1,rfl⟩:=List.getElem?_eq_some_iff.1 h
 unfold lostL
 rw[List.take_succ_eq_append_getElem h1,List.filter_append,List.map_append]
 by_cases c:((l[k]).held:Int)<t <;> simp[c]
theorem lostL_len (l:List Nd) (t:Int):(lostL l t).length≤l.length:=by
 unfold lostL;rw[List.length_map];exact List.length_filter_le _ _
def IdA (w0 w:World) (v:Value) (l:List ID):Prop:=IdRow w0.heap.size w v l∧w0.grownBy w none
set_option maxHeartbeats 4000000 in
set_option maxRecDepth 100000 in
theorem lost_any {w:World} {v:Value} {l:List Nd} (h:NRow w v l) (t:Int) (hn:l.length≤1000000) (ht : -1000000≤t∧t≤1000000) :
  Calls Tryz.prog 25 #[v,.int .i64 t] w fun e w'=>∃v',e = .returned v'∧IdA w w' v' (lostL l t):=by
 obtain⟨p,cap,rfl,hrow⟩:=h
 obtain⟨i0,hi,hz0,hz1,hz2⟩:=info_parts infoID
 have HROW:=Lib.hid hrow
 have H0:Hid (IdA w w (.slice none 0 0) []):=(show _∧_ from ⟨World.ownsRow_nil _ _ _ _,grown_refl _⟩)
 have HLL:=fun k=>Lib.hid (Nat.le_trans (lostL_len (l.take k) t) (List.length_take_le k l))
 clear hrow
 generalize hm:l.length=n at *
 have HM:=Lib.hid hm
 clear hm
 go_enter Tryz.func25,Tryz.ntmps25
 go_wp2
 go_loopw [5,10] (fun x i wr=>∃k:Nat,k≤n∧i = .int .i64 k∧Hid (IdA w wr x (lostL (l.take k) t))) (fun _ i _=>n-(intOf i).toNat)
 case atStart=>exact⟨0,Nat.zero_le _,rfl,H0⟩
 case round=>
  clear H0
  obtain⟨k,hk,rfl,hT⟩:=hrel
  rcases Nat.lt_or_ge k n with hlt|hge
  ·obtain⟨nd,hnd⟩:∃nd,l[k]? = some nd:=⟨_,List.getElem?_eq_getElem (by rw[HM.out];exact hlt)⟩
   have HX:=Lib.hid (lostL_take hnd t)
   rcases HROW.out with h0|⟨g,rfl,hc⟩
   ·subst h0;simp at hnd
   ·obtain⟨ph,pm,ch,cm,hn2⟩:=hc k nd hnd
    obtain⟨c0,c1,c2,c3,-⟩:=hn2.grown hT.out.2
    have HT:=Lib.hid hT.out
    have hll:=(HLL k).out
    clear hc hnd hn2 hT
    generalize lostL (l.take k) t=ls at *
    by_cases c:(nd.held:Int)<t
    ·have HX2:Hid (lostL (l.take (k+1)) t=ls ++ [nd.id]):=(show _=_ from by rw[HX.out,if_pos c])
     clear HX
     obtain⟨⟨key,ver⟩,held,mis⟩:=nd
     simp only at c0 c1 c2 c3 c
     generalize mis.length=q at *
     go_wp2_with (at_builtin;refine wpList_append_own _ rfl _ _ 66 rfl w.heap.size 54 i0 (.agg #[.string { data:=#[] },.int .i64 0]) 2 24 Tryz.underlying66 hi hz0 hz1 hz2 rfl (by decide) _ _ _ rfl ((HT.out.1.alloc _).alloc _) ⟨wr.heap.size+1,0,none⟩ 1 1 [.string key,.int .i64 ver] rfl rfl ?c1 ?c2 ?c3 ?c4 ?c5 ?_)
     case c2=>exact⟨rfl,rfl⟩
     case c3=>unfold maxLen;omega
     case c4=>omega
     case c5=>have:=HT.out.2.size;omega
     intro v' w9 ho hg9 _
     have HN:Hid (IdA w w9 v' (ls ++ [⟨key,ver⟩])):=(show _∧_ from ⟨by
      unfold IdRow
      simp only[List.length_append,List.length_cons,List.length_nil,List.flatMap_append,List.flatMap_cons,List.flatMap_nil,List.append_nil,idCells,Nat.zero_add]
      exact ho,grown_own (grown_trans HT.out.2 (grown_alloc (World.grownBy_alloc _ _ none) _)) hg9 (row_base HT.out.1)⟩)
     clear ho hg9
     go_wp2
     go_roundw
     case rel=>exact⟨k+1,by omega,by go_num,by rw[HX2.out];exact HN⟩
     case measure=>simp[intOf];omega
    ·have HX2:Hid (lostL (l.take (k+1)) t=ls):=(show _=_ from by rw[HX.out,if_neg c,List.append_nil])
     clear HX
     obtain⟨⟨key,ver⟩,held,mis⟩:=nd
     simp only at c0 c1 c2 c3 c
     generalize mis.length=q at *
     go_wp2
     go_roundw
     case rel=>exact⟨k+1,by omega,by go_num,by rw[HX2.out];exact(show _∧_ from ⟨HT.out.1.alloc _,grown_trans HT.out.2 (World.grownBy_alloc _ _ none)⟩)⟩
     case measure=>simp[intOf];omega
  ·obtain rfl:k=n:=by omega
   have hT2:=hT.out
   rw[List.take_of_length_le (by rw[HM.out];exact Nat.le_refl _)] at hT2
   have HT:=Lib.hid hT2
   clear hT hT2
   go_wp2
   go_ret
   exact⟨_,rfl,HT.out⟩
set_option maxHeartbeats 4000000 in
set_option maxRecDepth 100000 in
theorem rlost_any {W:World} {v:Value} {l:List Nd} (h:NRow W v l) (t:Int) (hn:l.length≤1000000):Calls Tryz.prog 75 #[v,.int .i64 t] W fun e w'=>∃v',e = .returned v'∧Grows W 59 2 idCells v' (lostL l t) w':=by
 obtain⟨i0,hi,hz0,hz1,hz2⟩:=info_parts infoRID
 obtain⟨p,cap,rfl,hrow⟩:=h
 have HROW:=Lib.hid hrow
 have H0:Hid (Grows W 59 2 idCells (.slice none 0 0) (lostL (l.take 0) t) W):=(show Grows _ _ _ _ _ _ _ from Grows.start _ _ _ _)
 have HLL:=fun k=>Lib.hid (Nat.le_trans (lostL_len (l.take k) t) (List.length_take_le k l))
 clear hrow
 generalize hm:l.length=n at *
 have HM:=Lib.hid hm
 clear hm
 go_enter Tryz.func75,Tryz.ntmps75
 go_wp2
 go_loopw [5,6] (fun x i wr=>∃k:Nat,k≤n∧i = .int .i64 k∧Hid (Grows W 59 2 idCells x (lostL (l.take k) t) wr)) (fun _ i _=>n-(intOf i).toNat)
 case atStart=>exact⟨0,Nat.zero_le _,rfl,H0⟩
 case round=>
  clear H0
  obtain⟨k,hk,rfl,hT⟩:=hrel
  rcases Nat.lt_or_ge k n with hlt|hge
  ·obtain⟨nd,hnd⟩:∃nd,l[k]? = some nd:=⟨_,List.getElem?_eq_getElem (by rw[HM.out];exact hlt)⟩
   have HX:=Lib.hid (lostL_take hnd t)
   rcases HROW.out with h0|⟨g,rfl,hc⟩
   ·subst h0;simp at hnd
   ·obtain⟨ph,pm,ch,cm,hn2⟩:=hc k nd hnd
    obtain⟨c0,c1,c2,c3,-⟩:=hn2.grown hT.out.grown
    have HT:=Lib.hid hT.out
    have HLK:=Lib.hid (HLL k).out
    clear hc hnd hn2 hT
    generalize lostL (l.take k) t=ls at *
    obtain⟨po,co,rfl,hco,hlo⟩:=HT.out.row.form
    by_cases c:(nd.held:Int)<t
    ·have HX2:Hid (lostL (l.take (k+1)) t=ls ++ [nd.id]):=(show _=_ from by rw[HX.out,if_pos c])
     clear HX
     obtain⟨⟨key,ver⟩,held,mis⟩:=nd
     simp only at c0 c1 c2 c3 c
     generalize mis.length=q at *
     go_wp2_with (at_builtin;refine wpList_sapp (l:=ls) (m:=[⟨key,ver⟩]) _ rfl (.tmp 21) (.tmp 27) 139 rfl lenID oneID i0 _ 24 Tryz.underlying139 hi hz0 hz1 hz2 rfl (by decide) (by decide) rfl ?a1 rfl ?a2 ?a3 (ls.length+1) (by simp) ?_)
     case a1=>exact(HT.out.more (grown_alloc (grown_refl _) _)).row
     case a2=>exact yrow_at (⟨key,ver⟩:ID) (heap_alloc_new _ _)
     case a3=>have:=HLK.out;simp;omega
     intro p1 cap1 w1 ha1
     have HG1:Hid (Grows W 59 2 idCells (.slice p1 (ls.length+1) cap1) (lostL (l.take (k+1)) t) w1):=(show Grows _ _ _ _ _ _ _ from by rw[HX2.out];exact Grows.app (HT.out.more (grown_alloc (grown_refl _) _)) ha1)
     clear ha1
     go_wp2
     go_roundw
     case rel=>exact⟨k+1,by omega,by go_num,HG1⟩
     case measure=>simp[intOf];omega
    ·have HX2:Hid (lostL (l.take (k+1)) t=ls):=(show _=_ from by rw[HX.out,if_neg c,List.append_nil])
     clear HX
     obtain⟨⟨key,ver⟩,held,mis⟩:=nd
     simp only at c0 c1 c2 c3 c
     generalize mis.length=q at *
     go_wp2
     go_roundw
     case rel=>exact⟨k+1,by omega,by go_num,by rw[HX2.out];exact HT⟩
     case measure=>simp[intOf];omega
  ·obtain rfl:k=n:=by omega
   have HE:Hid (Grows W 59 2 idCells u5 (lostL l t) wr):=(show Grows _ _ _ _ _ _ _ from by
    have:=hT.out
    rwa [List.take_of_length_le (by rw[HM.out];exact Nat.le_refl _)] at this)
   clear hT
   go_wp2
   go_ret
   exact⟨_,rfl,HE.out⟩
def pkBStep (bs:List Int) (pre:List Tsk) (t:Tsk):List Tsk:=if t.nd∈bs++pre.map (·.nd) then pre else pre ++ [t]
def pkB (bs:List Int) (ts:List Tsk):List Tsk:=ts.foldl (pkBStep bs) []
theorem pkB_take {bs:List Int} {ts:List Tsk} {k:Nat} {t:Tsk} (h:ts[k]? = some t):pkB bs (ts.take (k+1))=pkBStep bs (pkB bs (ts.take k)) t:=by
 obtain⟨h1,rfl⟩:=List.getElem?_eq_some_iff.1 h
 unfold pkB
 rw[List.take_succ_eq_append_getElem h1,List.foldl_append];rfl
theorem pkBStep_pre (bs:List Int) (pre:List Tsk) (t:Tsk):pre <+: pkBStep bs pre t:=by
 unfold pkBStep
 split
 ·exact List.prefix_refl _
 ·exact List.prefix_append _ _
theorem pkB_fold (bs:List Int):∀(r pre:List Tsk),pre <+: r.foldl (pkBStep bs) pre
 | [],pre=>List.prefix_refl _
 | t :: r,pre=>(pkBStep_pre bs pre t).trans (pkB_fold bs r _)
theorem pkB_pre (bs:List Int) (ts:List Tsk) (k:Nat):pkB bs (ts.take k) <+: pkB bs ts:=by
 have h:=pkB_fold bs (ts.drop k) (pkB bs (ts.take k))
 unfold pkB at h ⊢
 rwa [←List.foldl_append,List.take_append_drop] at h
theorem pkB_len (bs:List Int) (ts:List Tsk):(pkB bs ts).length≤ts.length:=by
 have:∀(r pre:List Tsk),(r.foldl (pkBStep bs) pre).length≤pre.length+r.length:=by
  intro r
  induction r with
  | nil=>intro pre;simp
  | cons t r ih=>
   intro pre
   have h1:=ih (pkBStep bs pre t)
   have h2:(pkBStep bs pre t).length≤pre.length+1:=by unfold pkBStep;split <;> simp
   simp only[List.foldl_cons,List.length_cons]
   omega
 simpa[pkB] using this ts []
def nxB (bs:List Int) (ts:List Tsk) (most:Int):List Tsk:=(pkB bs ts).take (most-bs.length).toNat
theorem nxB_all {bs:List Int} {ts:List Tsk} {most:Int} (h:(pkB bs ts).length≤(most-bs.length).toNat):pkB bs ts=nxB bs ts most:=by
 unfold nxB;rw[List.take_of_length_le h]
theorem nxB_cut {bs:List Int} {ts:List Tsk} {most:Int} {k:Nat} (h:(pkB bs (ts.take k)).length≤(most-bs.length).toNat) (h2:¬((bs.length:Int)+(pkB bs (ts.take k)).length<most)):pkB bs (ts.take k)=nxB bs ts most:=by
 have hp:=pkB_pre bs ts k
 unfold nxB
 have:(pkB bs (ts.take k)).length=(most-bs.length).toNat:=by omega
 rw[←this]
 exact(List.prefix_iff_eq_take.1 hp)
def anyT (l:List Tsk) (x:Int) (k:Nat):Bool:=(l.take k).any fun t=>t.nd == x
theorem anyT_zero (l:List Tsk) (x:Int):anyT l x 0=false:=by simp[anyT]
theorem anyT_succ {l:List Tsk} {x:Int} {k:Nat} {t:Tsk} (h:l[k]? = some t):anyT l x (k+1)=(anyT l x k || (t.nd == x)):=by
 obtain⟨h1,rfl⟩:=List.getElem?_eq_some_iff.1 h
 unfold anyT
 rw[List.take_succ_eq_append_getElem h1,List.any_append];simp
theorem anyT_all (l:List Tsk) (x:Int) {k:Nat} (h:l.length≤k):anyT l x k=decide (x∈l.map (·.nd)):=by
 unfold anyT
 rw[List.take_of_length_le h,Bool.eq_iff_iff]
 simp
theorem LRead.grown {α:Type} {W W':World} {sz:Nat} {enc:α→List Value} {v:Value} {l:List α} (h:LRead W sz enc v l) (hg:W.grownBy W' none):LRead W' sz enc v l:=by
 obtain⟨p,cap,e,h2⟩:=h
 exact⟨p,cap,e,h2.imp id fun ⟨g,e1,hc⟩=>⟨g,e1,fun i hi j u hu=>hg.cell (hc i hi j u hu) (by simp)⟩⟩
theorem LRead.nd {W:World} {p:Option Addr} {n c k:Nat} {l:List Tsk} {t:Tsk} (h:LRead W 4 tskCells (.slice p n c) l) (hk:l[k]? = some t):∃g,p=some ⟨g,0,none⟩∧W.cell? ⟨g,k*4+2,none⟩=some (.int .i64 t.nd):=by
 obtain⟨hl,rfl⟩:=List.getElem?_eq_some_iff.1 hk
 obtain⟨p',cap,e,h2⟩:=h
 injection e with e1 e2 e3
 rcases h2 with h0|⟨g,e4,hc⟩
 ·subst h0;simp at hl
 ·exact⟨g,e1.trans e4,hc k hl 2 _ rfl⟩
theorem LRead.tsk {W:World} {p:Option Addr} {n c k:Nat} {l:List Tsk} {t:Tsk} (h:LRead W 4 tskCells (.slice p n c) l) (hk:l[k]? = some t):∃g,p=some ⟨g,0,none⟩∧W.cell? ⟨g,k*4,none⟩=some (.string t.id.key)∧W.cell? ⟨g,k*4+1,none⟩=some (.int .i64 t.id.ver)∧W.cell? ⟨g,k*4+2,none⟩=some (.int .i64 t.nd)∧W.cell? ⟨g,k*4+3,none⟩=some (.int .i64 t.held):=by
 obtain⟨hl,rfl⟩:=List.getElem?_eq_some_iff.1 hk
 obtain⟨p',cap,e,h2⟩:=h
 injection e with e1 e2 e3
 rcases h2 with h0|⟨g,e4,hc⟩
 ·subst h0;simp at hl
 ·exact⟨g,e1.trans e4,hc k hl 0 _ rfl,hc k hl 1 _ rfl,hc k hl 2 _ rfl,hc k hl 3 _ rfl⟩
theorem pkBStep_bool (bs:List Int) (pre:List Tsk) (t:Tsk):pkBStep bs pre t=if (!decide (t.nd∈bs) && !decide (t.nd∈pre.map (·.nd)))=true then pre ++ [t] else pre:=by
 unfold pkBStep
 by_cases h1:t.nd∈bs <;> by_cases h2:t.nd∈pre.map (·.nd) <;> simp_all
theorem bool_step2 (b a:Bool) (x y:Int):(b && !(a || (x == y)))=((b && !a) && !(x == y)):=by cases a <;> cases b <;> simp
theorem bool_step (a:Bool) (x y:Int):(!(a || (x == y)))=(!a && !(x == y)):=by cases a <;> simp
set_option maxHeartbeats 8000000 in
set_option maxRecDepth 100000 in
theorem rnext_any {W:World} {v bv:Value} {l:List Nd} {bs:List Tsk} (h:NRow W v l) (hb:LRead W 4 tskCells bv bs) (most:Int) (hl:(rawT l).length≤1000000) (hn:l.length≤1000000) (hbl:bs.length≤1000000) :
  Calls Tryz.prog 74 #[v,bv,.int .i64 most] W fun e w'=>∃v',e = .returned v'∧Grows W 61 4 tskCells v' (nxB (bs.map (·.nd)) (sortT (rawT l)) most) w':=by
 obtain⟨i0,hi,hz0,hz1,hz2⟩:=info_parts infoRT
 have HT:=Lib.hid (rtasks_any h hl hn)
 obtain⟨pb,cb,rfl,hb2⟩:=hb
 have HB:Hid (LRead W 4 tskCells (.slice pb bs.length cb) bs):=(show LRead _ _ _ _ _ from ⟨pb,cb,rfl,hb2⟩)
 obtain⟨p,cap,rfl,-⟩:=h
 have hsl:(sortT (rawT l)).length≤1000000:=by rw[(sortT_perm _).length_eq];exact hl
 generalize sortT (rawT l)=ts at *
 clear hl hb2
 obtain⟨bn,hbn⟩:∃bn,bn=bs.map (·.nd):=⟨_,rfl⟩
 have hbnl:bn.length=bs.length:=by rw[hbn,List.length_map]
 have HBN:=Lib.hid hbn
 have HALL:=Lib.hid (fun k (h:(pkB bn (ts.take k)).length≤(most-bn.length).toNat) (h2:¬((bn.length:Int)+(pkB bn (ts.take k)).length<most))=>nxB_cut h h2)
 have HEND:=Lib.hid (fun (h:(pkB bn ts).length≤(most-bn.length).toNat)=>nxB_all h)
 rw[←hbn]
 rw[hbnl] at HALL HEND
 generalize hbq:bs.length=bq at *
 generalize hnq:l.length=ln at *
 have HBQ:=Lib.hid hbq
 have HNL:=Lib.hid hnq
 have HSL:=Lib.hid hsl
 clear hbn hbnl hbq hnq hsl hn
 go_enter Tryz.func74,Tryz.ntmps74
 go_wp2_with (go_at_call 73;refine HT.out.mono ?_;rintro e w2 ⟨v2,rfl,hg2⟩;have HG2:=Lib.hid hg2;clear hg2)
 obtain⟨pt,ct,rfl,hct,hlt⟩:=HG2.out.row.form
 have HR2:=Lib.hid (HG2.out.row.lread tsk_len)
 have HEN2:Hid (pkB bn ts=pkB bn (ts.take ts.length)):=(show _=_ from by rw[List.take_length])
 generalize htq:ts.length=tn at *
 have HTN:=Lib.hid htq
 have htn:tn≤1000000:=HSL.out
 have H0:Hid (Grows w2 61 4 tskCells (.slice none 0 0) (pkB bn (ts.take 0)) w2∧(pkB bn (ts.take 0)).length≤(most-bq).toNat):=(show _∧_ from ⟨Grows.start _ _ _ _,Nat.zero_le _⟩)
 have HPL:Hid (∀k,(pkB bn (ts.take k)).length≤tn):=(show ∀_,_≤_ from fun k=>Nat.le_trans (pkB_len _ _) (by rw[List.length_take];omega))
 clear htq hct hlt
 go_wp2
 go_loopw [7,9] (fun x i wr=>∃k:Nat,k≤tn∧i = .int .i64 k∧Hid (Grows w2 61 4 tskCells x (pkB bn (ts.take k)) wr∧(pkB bn (ts.take k)).length≤(most-bq).toNat)) (fun _ i _=>tn-(intOf i).toNat)
 case atStart=>exact⟨0,Nat.zero_le _,rfl,H0⟩
 case round=>
  clear H0
  obtain⟨k,hk,rfl,hT⟩:=hrel
  have HK2:=Lib.hid hT.out.2
  have HGR:=Lib.hid hT.out.1
  have HCUT:=Lib.hid (HALL.out k)
  have hpl:=HPL.out k
  clear hT
  rcases Nat.lt_or_ge k tn with hlt|hge
  ·obtain⟨t,ht⟩:∃t,ts[k]? = some t:=⟨_,List.getElem?_eq_getElem (by rw[HTN.out];exact hlt)⟩
   have HPT:=Lib.hid (pkB_take (bs:=bn) ht)
   have HTT:=Lib.hid ht
   clear ht
   generalize pkB bn (ts.take k)=out at *
   obtain⟨po,co,rfl,hco,hlo⟩:=HGR.out.row.form
   have hio:(bq:Int)+(out.length:Int)≤4000000:=by omega
   by_cases c:(bq:Int)+(out.length:Int)<most
   ·have cd:decide ((bq:Int)+(out.length:Int)<most)=true:=by simpa using c
    have HC:=Lib.hid c
    clear c
    obtain⟨w5,hw5⟩:∃x:World,x=wr:=⟨_,rfl⟩
    rw[←hw5] at HGR ⊢
    clear hw5
    have HA0:=Lib.hid (anyT_zero bs t.nd)
    go_wp2
    go_loopw [10,11] (fun x i wl=>∃j:Nat,j≤bq∧i = .int .i64 j∧x = .bool (!anyT bs t.nd j)∧Hid (w5.grownBy wl none)) (fun _ i _=>bq-(intOf i).toNat)
    case atStart=>exact⟨0,Nat.zero_le _,rfl,by rw[HA0.out];rfl,(show w5.grownBy w5 none from grown_refl _)⟩
    case round=>
     obtain⟨j,hj,rfl,rfl,hgl⟩:=hrel
     have HGL:=Lib.hid hgl.out
     clear hgl
     rcases Nat.lt_or_ge j bq with hlj|hgj
     ·obtain⟨s,hs⟩:∃s,bs[j]? = some s:=⟨_,List.getElem?_eq_getElem (by rw[HBQ.out];exact hlj)⟩
      have HAS:=Lib.hid (anyT_succ (x:=t.nd) hs)
      obtain⟨gb,hgb,c1⟩:=(HB.out.grown (grown_trans (grown_trans HG2.out.grown HGR.out.grown) HGL.out)).nd hs
      obtain⟨gt,hgt,c2⟩:=(HR2.out.grown (grown_trans HGR.out.grown HGL.out)).nd HTT.out
      obtain⟨b,hb⟩:∃b,b = !anyT bs t.nd j:=⟨_,rfl⟩
      rw[←hb]
      have HBB:Hid ((!anyT bs t.nd (j+1))=(b && !(s.nd == t.nd))):=(show _=_ from by rw[HAS.out,hb];exact bool_step _ _ _)
      subst hgb hgt
      clear hb hs HAS
      have l1:=cell_lt c1
      have l2:=cell_lt c2
      simp only at l1 l2
      generalize s.nd=n1 at *
      generalize hn2:t.nd=n2 at *
      clear hn2
      cases b with
      | false=>
       clear c1 c2 l1 l2
       go_wp2
       go_quiet (fail)
       go_wp2
       go_roundw
       case rel=>exact⟨j+1,by omega,by go_num,by rw[HBB.out];rfl,(show _ from grown_trans HGL.out (grown_drewN _ _))⟩
       case measure=>simp[intOf];omega
      | true=>
       by_cases e:n1=n2
       ·have e1:(n1 == n2)=true:=by simpa using e
        have e2:decide (n1=n2)=true:=by simpa using e
        have HB3:Hid ((!anyT bs n2 (j+1))=false):=(show _=_ from by rw[HBB.out,e1];rfl)
        clear e
        go_wp2
        go_quiet (fail)
        go_wp2
        go_roundw
        case rel=>exact⟨j+1,by omega,by go_num,by rw[HB3.out];first|done|simp[bne,e1],(show _ from grown_trans HGL.out (grown_drewN _ _))⟩
        case measure=>simp[intOf];omega
       ·have e1:(n1 == n2)=false:=by simpa using e
        have e2:decide (n1=n2)=false:=by simpa using e
        have HB3:Hid ((!anyT bs n2 (j+1))=true):=(show _=_ from by rw[HBB.out,e1];rfl)
        clear e
        go_wp2
        go_quiet (fail)
        go_wp2
        go_roundw
        case rel=>exact⟨j+1,by omega,by go_num,by rw[HB3.out];first|done|simp[bne,e1],(show _ from grown_trans HGL.out (grown_drewN _ _))⟩
        case measure=>simp[intOf];omega
     ·obtain rfl:bq=j:=by omega
      obtain⟨b0,hb0⟩:∃b,b = !anyT bs t.nd bq:=⟨_,rfl⟩
      rw[←hb0]
      rw[anyT_all bs t.nd (by rw[HBQ.out];exact Nat.le_refl _),←HBN.out] at hb0
      have HST:=Lib.hid (pkBStep_bool bn out t)
      rw[←hb0] at HST
      have HO0:Hid ((b0 && !anyT out t.nd 0)=b0):=(show _=_ from by rw[anyT_zero];simp)
      have HA9:Hid (∀k,out.length≤k→anyT out t.nd k=decide (t.nd∈out.map (·.nd))):=(show ∀_,_→_ from fun k h=>anyT_all out t.nd h)
      have hot:out.length≤tn:=hpl
      clear hb0 hgj HA0
      go_wp2
      go_loopw [10,12] (fun x i wl=>∃j:Nat,j≤out.length∧i = .int .i64 j∧x = .bool (b0 && !anyT out t.nd j)∧Hid (w5.grownBy wl none)) (fun _ i _=>out.length-(intOf i).toNat)
      case atStart=>exact⟨0,Nat.zero_le _,rfl,by rw[HO0.out],HGL⟩
      case round=>
       clear HGL HO0
       obtain⟨j,hj,rfl,rfl,hgl⟩:=hrel
       have HGL:=Lib.hid hgl.out
       clear hgl
       rcases Nat.lt_or_ge j out.length with hlj|hgj
       ·obtain⟨s,hs⟩:∃s,out[j]? = some s:=⟨_,List.getElem?_eq_getElem hlj⟩
        have HAS:=Lib.hid (anyT_succ (x:=t.nd) hs)
        obtain⟨gb,hgb,c1⟩:=((HGR.out.row.lread tsk_len).grown HGL.out).nd hs
        obtain⟨gt,hgt,c2⟩:=(HR2.out.grown (grown_trans HGR.out.grown HGL.out)).nd HTT.out
        obtain⟨b,hb⟩:∃b,b=(b0 && !anyT out t.nd j):=⟨_,rfl⟩
        rw[←hb]
        have HBB:Hid ((b0 && !anyT out t.nd (j+1))=(b && !(s.nd == t.nd))):=(show _=_ from by rw[HAS.out,hb];exact bool_step2 _ _ _ _)
        subst hgb hgt
        clear hb hs HAS
        have l1:=cell_lt c1
        have l2:=cell_lt c2
        simp only at l1 l2
        generalize s.nd=n1 at *
        generalize hn2:t.nd=n2 at *
        clear hn2
        cases b with
        | false=>
         clear c1 c2 l1 l2
         go_wp2
         go_quiet (fail)
         go_wp2
         go_roundw
         case rel=>exact⟨j+1,by omega,by go_num,by rw[HBB.out];rfl,(show _ from grown_trans HGL.out (grown_drewN _ _))⟩
         case measure=>simp[intOf];omega
        | true=>
         by_cases e:n1=n2
         ·have e1:(n1 == n2)=true:=by simpa using e
          have e2:decide (n1=n2)=true:=by simpa using e
          have HB3:Hid ((b0 && !anyT out n2 (j+1))=false):=(show _=_ from by rw[HBB.out,e1];rfl)
          clear e
          go_wp2
          go_quiet (fail)
          go_wp2
          go_roundw
          case rel=>exact⟨j+1,by omega,by go_num,by rw[HB3.out];first|done|simp[bne,e1],(show _ from grown_trans HGL.out (grown_drewN _ _))⟩
          case measure=>simp[intOf];omega
         ·have e1:(n1 == n2)=false:=by simpa using e
          have e2:decide (n1=n2)=false:=by simpa using e
          have HB3:Hid ((b0 && !anyT out n2 (j+1))=true):=(show _=_ from by rw[HBB.out,e1];rfl)
          clear e
          go_wp2
          go_quiet (fail)
          go_wp2
          go_roundw
          case rel=>exact⟨j+1,by omega,by go_num,by rw[HB3.out];first|done|simp[bne,e1],(show _ from grown_trans HGL.out (grown_drewN _ _))⟩
          case measure=>simp[intOf];omega
       ·have hje:j=out.length:=by omega
        obtain⟨b,hb⟩:∃b,b=(b0 && !anyT out t.nd j):=⟨_,rfl⟩
        rw[←hb]
        rw[HA9.out j hgj] at hb
        rw[←hb] at HST
        have HX:Hid (pkB bn (ts.take (k+1))=if b=true then out ++ [t] else out):=(show _=_ from HPT.out.trans HST.out)
        have HG9:=Lib.hid (HGR.out.more HGL.out)
        subst hje
        clear hb hgj HPT HST HA9
        cases b with
        | false=>
         have HX2:Hid (Grows w2 61 4 tskCells (.slice po out.length co) (pkB bn (ts.take (k+1))) wr∧(pkB bn (ts.take (k+1))).length≤(most-bq).toNat):=(show _∧_ from by
          have e:=HX.out
          rw[if_neg (by simp)] at e
          rw[e];exact⟨HG9.out,HK2.out⟩)
         go_wp2
         go_roundw
         case rel=>exact⟨k+1,by omega,by go_num,HX2⟩
         case measure=>simp[intOf];omega
        | true=>
         obtain⟨gt,hgt,d0,d1,d2,d3⟩:=(HR2.out.grown HG9.out.grown).tsk HTT.out
         have HE:Hid ((pkB bn (ts.take (k+1)))=out ++ [t]):=(show _=_ from by
          have e:=HX.out
          rw[if_pos rfl] at e
          exact e)
         have HLM:Hid ((out ++ [t]).length≤(most-bq).toNat):=(show _≤_ from by have:=HC.out;have:=HK2.out;simp;omega)
         have HZC:Hid (tskCells t = [.string t.id.key,.int .i64 t.id.ver,.int .i64 t.nd,.int .i64 t.held]):=(show _=_ from rfl)
         subst hgt
         clear HX
         generalize t.id.key=key at *
         generalize t.id.ver=ver at *
         generalize t.nd=nd at *
         generalize t.held=held at *
         go_wp2_with (at_builtin;refine wpList_sapp (l:=out) (m:=[t]) _ rfl (.tmp 71) (.tmp 76) 135 rfl tsk_len oneT i0 _ 40 Tryz.underlying135 hi hz0 hz1 hz2 rfl (by decide) (by decide) rfl ?a1 rfl ?a2 ?a3 (out.length+1) (by simp) ?_)
         case a1=>exact(HG9.out.more (grown_alloc (grown_refl _) _)).row
         case a2=>exact yrow_at t (by rw[HZC.out];exact heap_alloc_new _ _)
         case a3=>simp;omega
         intro p1 cap1 w1 ha1
         have HX2:Hid (Grows w2 61 4 tskCells (.slice p1 (out.length+1) cap1) (pkB bn (ts.take (k+1))) w1∧(pkB bn (ts.take (k+1))).length≤(most-bq).toNat):=(show _∧_ from by
          rw[HE.out]
          exact⟨Grows.app (HG9.out.more (grown_alloc (grown_refl _) _)) ha1,HLM.out⟩)
         clear ha1 d0 d1 d2 d3
         go_wp2
         go_roundw
         case rel=>exact⟨k+1,by omega,by go_num,HX2⟩
         case measure=>simp[intOf];omega
   ·have HFIN:Hid (Grows W 61 4 tskCells (.slice po out.length co) (nxB bn ts most) wr):=(show Grows _ _ _ _ _ _ _ from by rw[←HCUT.out HK2.out (by omega)];exact HGR.out.up HG2.out.grown)
    have cd:decide ((bq:Int)+(out.length:Int)<most)=false:=by simpa using c
    clear c
    go_wp2
    go_ret
    exact⟨_,rfl,HFIN.out⟩
  ·obtain rfl:k=tn:=by omega
   have HFIN:Hid (Grows W 61 4 tskCells u7 (nxB bn ts most) wr):=(show Grows _ _ _ _ _ _ _ from by
    have h2:=HK2.out
    have h1:=HGR.out.up HG2.out.grown
    rw[←HEN2.out] at h1 h2
    rw[←HEND.out h2]
    exact h1)
   go_wp2
   go_ret
   exact⟨_,rfl,HFIN.out⟩
end Go.Proofs.YtjfelfjobeeenaaGreat
