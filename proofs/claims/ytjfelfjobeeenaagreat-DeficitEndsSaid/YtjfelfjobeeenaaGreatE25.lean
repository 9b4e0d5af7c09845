/- What Missing answers: the walk. Conditions: a table that lies in memory, its keys strings of the machine. deficit.Healthy, Urgent, Lost; the law's task, id: walked. Conditions: as the theorems say. works of the law on what lacks: walked. Conditions: none. The document's sorted: walked. Conditions: a row of ids in memory. The document's table: Pending, Current: walked. Conditions: a table that lies in memory. The document's table: Missing: walked. Conditions: a table that lies in memory. How long the document's rows are behind so many commands: the plain law. Conditions: none. sameIDs at rows that are the same: walked. Conditions: both rows read as the same list. The document's New: walked. Conditions: none. tells: what both tables answer, as the walk asks for it. Conditions: both tables lie in memory and go together. tells: the walk: both tables tell the same. Conditions: both tables lie in memory and go together. -/
import Derived.Test.YtjfelfjobeeenaaGreatE23
import Derived.Test.YtjfelfjobeeenaaGreatE21
import Derived.Test.YtjfelfjobeeenaaGreatE24
import Derived.Test.YtjfelfjobeeenaaGreatE22
import Derived.Outline
import Derived.Test.YtjfelfjobeeenaaGreatE19
import Derived.Deep.CutBlock
import Derived.Deep.RegionLaw
import Derived.Test.YtjfelfjobeeenaaGreatE8
import Derived.Test.YtjfelfjobeeenaaGreatE20
import Derived.Deep.RegionHeld3
import Derived.Deep.DeepCutAuto
set_option linter.unusedSimpArgs false
set_option linter.unusedVariables false
namespace Go.Proofs.YtjfelfjobeeenaaGreat
open Go.RowKit Go.Sf Go.Shelf
theorem lread_nil {w:World}:LRead w 2 idCells (.slice none 0 0) ([]:List ID):=⟨none,0,rfl,Or.inl rfl⟩
theorem pred_mis {W:World} {tb:Nat} {T:Tab} (h:TRep W tb T) (n:Int) (b1 b2:Nat) (h1:W.cell? ⟨b1,0,none⟩=some (.pointer (some ⟨tb,0,none⟩))) (h2:W.cell? ⟨b2,0,none⟩=some (.int .i64 n)) :
  PredI W (.func (.func 103) #[] #[.pointer (some ⟨b1,0,none⟩),.pointer (some ⟨b2,0,none⟩)]) (hasB T n) (fun k=>k∈T.blocks tb∨k=b1∨k=b2):=by
 refine⟨_,_,rfl,enters_of Tryz.func103 (by kernel_rfl) rfl,fun i w hb _=>?_⟩
 have ht:TRep w tb T:=h.same fun b hbm=>hb b (Or.inl hbm)
 have k1:w.cell? ⟨b1,0,none⟩=some (.pointer (some ⟨tb,0,none⟩)):=(World.cell?_of_block (a:=⟨b1,0,none⟩) (hb b1 (Or.inr (Or.inl rfl)))).trans h1
 have k2:w.cell? ⟨b2,0,none⟩=some (.int .i64 n):=(World.cell?_of_block (a:=⟨b2,0,none⟩) (hb b2 (Or.inr (Or.inr rfl)))).trans h2
 exact mis1_any ht i n b1 b2 k1 k2
section
variable {w : World} {tb : Nat} {T : Tab}
set_option maxHeartbeats 4000000 in
set_option maxRecDepth 100000 in
theorem missing_any (h:TRep w tb T) (n:Int) (hll:T.lives.length≤9223372036854775807) (hr:∀p∈T.values,p.1.size≤maxLen) (hl:T.values.length≤1000000) :
  Calls Tryz.prog 43 #[.pointer (some ⟨tb,0,none⟩),.int .i64 n] w fun e w'=>∃v,e = .returned v∧LRead w' 2 idCells v (missL T n)∧w.grownBy w' none:=by
 have HLF:Hid (∀W,w.grownBy W none→Calls Tryz.prog 23 #[.pointer (some ⟨tb,0,none⟩),.int .i64 n] W fun e w'=>e = .returned (.int .i64 (lifeV T n))∧W.grownBy w' none):=(show ∀_,_→Calls _ _ _ _ _ from fun W hg=>life_any (h.grown hg) n hll)
 have HCU:Hid (∀W,w.grownBy W none→Calls Tryz.prog 42 #[.pointer (some ⟨tb,0,none⟩)] W fun e w'=>∃v,e = .returned v∧IdRow W.heap.size w' v (curL T)∧W.grownBy w' none):=(show ∀_,_→Calls _ _ _ _ _ from fun W hg=>current_any (h.grown hg) hr hl)
 have HT:=Lib.hid h
 have htb:=h.tlt
 have HCL:Hid ((curL T).length≤1000000):=(show _≤_ from Nat.le_trans (List.length_filterMap_le _ _) (by rw[skeys_length];exact hl))
 clear h hr hl
 by_cases hz:lifeV T n=0
 ·have HM:Hid (missL T n = []):=(show _=_ from by unfold missL;rw[if_pos hz])
  rw[hz] at HLF
  clear hz HCU
  go_enter Tryz.func43,Tryz.ntmps43
  go_upto_region 1 with fail
  have HG:Hid (w.grownBy ((w.alloc (.cells #[.pointer (some ⟨tb,0,none⟩)] 38)).alloc (.cells #[.int .i64 n] 3)) none):=(show w.grownBy _ none from grown_alloc (grown_alloc (grown_refl _) _) _)
  have hq:=HLF.out _ HG.out
  go_wp2_with (go_at_call 23;refine hq.mono ?_;rintro e w1 ⟨rfl,hg⟩;have HG1:=Lib.hid hg;clear hg)
  go_ret
  exact⟨_,rfl,by rw[HM.out];exact lread_nil,grown_trans HG.out HG1.out⟩
 ·have HM:Hid (missL T n=(curL T).filter fun i=>!hasB T n i):=(show _=_ from by unfold missL;rw[if_neg hz];rfl)
  have hzb:(lifeV T n == 0)=false:=by simpa using hz
  generalize lifeV T n=lv at *
  clear hz
  go_enter Tryz.func43,Tryz.ntmps43
  go_upto_region 1 with fail
  have HG:Hid (w.grownBy ((w.alloc (.cells #[.pointer (some ⟨tb,0,none⟩)] 38)).alloc (.cells #[.int .i64 n] 3)) none):=(show w.grownBy _ none from grown_alloc (grown_alloc (grown_refl _) _) _)
  have HB1:Hid (((w.alloc (.cells #[.pointer (some ⟨tb,0,none⟩)] 38)).alloc (.cells #[.int .i64 n] 3)).cell? ⟨w.heap.size,0,none⟩=some (.pointer (some ⟨tb,0,none⟩))):=(show _=_ from by simp[go_sem])
  have HB2:Hid (((w.alloc (.cells #[.pointer (some ⟨tb,0,none⟩)] 38)).alloc (.cells #[.int .i64 n] 3)).cell? ⟨w.heap.size+1,0,none⟩=some (.int .i64 n)):=(show _=_ from by have:=heap_alloc_new (w.alloc (.cells #[.pointer (some ⟨tb,0,none⟩)] 38)) (.cells #[.int .i64 n] 3);simp only[World.size_alloc] at this;exact(cell_block this 0).trans rfl)
  have hq:=HLF.out _ HG.out
  go_upto_region 3 with (go_at_call 23;refine hq.mono ?_;rintro e w1 ⟨rfl,hg⟩;have HG1:=Lib.hid hg;clear hg)
  generalize (w.alloc (.cells #[.pointer (some ⟨tb,0,none⟩)] 38)).alloc (.cells #[.int .i64 n] 3)=wa at *
  have HC1:Hid (w1.cell? ⟨w.heap.size,0,none⟩=some (.pointer (some ⟨tb,0,none⟩))):=(show _=_ from HG1.out.cell HB1.out (by simp))
  have HC2:Hid (w1.cell? ⟨w.heap.size+1,0,none⟩=some (.int .i64 n)):=(show _=_ from HG1.out.cell HB2.out (by simp))
  have HW1:=Lib.hid (grown_trans HG.out HG1.out)
  have c1:=HC1.out
  clear hq
  have HDF:Hid (∀(w2:World) (v:Value),w1.grownBy w2 none→IdRow w1.heap.size w2 v (curL T)→Calls Tryz.prog 105 #[v,.func (.func 103) #[] #[.pointer (some ⟨w.heap.size,0,none⟩),.pointer (some ⟨w.heap.size+1,0,none⟩)]] w2 fun e w'=>∃v',e = .returned v'∧LRead w' 2 idCells v' ((curL T).filter fun i=>!hasB T n i)∧w.grownBy w' none):=(show ∀(_:World) (_:Value),_→_→_ from by
   intro w2 v hg2 hv
   have hlt:∀k,(k∈T.blocks tb∨k=w.heap.size∨k=w.heap.size+1)→k<w1.heap.size:=by
    rintro k (hk|rfl|rfl)
    ·exact Nat.lt_of_lt_of_le (HT.out.lt k hk) HW1.out.size
    ·exact cell_lt HC1.out
    ·exact cell_lt HC2.out
   refine(delF_any (l:=curL T) (pred_mis (HT.out.grown (grown_trans HW1.out hg2)) n w.heap.size (w.heap.size+1) (hg2.cell HC1.out (by simp)) (hg2.cell HC2.out (by simp))) (idRow_le hv (Nat.zero_le _)) HCL.out (fun k hk=>Nat.lt_of_lt_of_le (hlt k hk) hg2.size) (fun g hg hk=>?_)).mono ?_
   ·have h1:=row_base hv g hg
    have h2:=hlt g hk
    omega
   ·rintro e w' ⟨v',h1,h2,h3⟩
    exact⟨v',h1,h2,grown_own (grown_trans HW1.out hg2) h3 (fun k hk=>Nat.le_trans HW1.out.size (row_base hv k hk))⟩)
  go_wp2_with (first
   | (go_at_call 42;refine(HCU.out _ HW1.out).mono ?_;rintro e w2 ⟨v,rfl,hv,hg⟩;have HQ:=Lib.hid (HDF.out w2 v hg hv);clear hv hg)
   | (go_at_call 105;refine HQ.out.mono ?_;rintro e w3 ⟨v',rfl,hr,hg⟩;have HR:=Lib.hid hr;have HG3:=Lib.hid hg;clear hr hg))
  go_ret
  exact⟨_,rfl,by rw[HM.out];exact HR.out,HG3.out⟩
end
theorem missing_at {bs:Nat→Prop} {w:World} {tb:Nat} {L:Tab} (h:At bs w tb L) (n:Int) (hll:L.lives.length≤9223372036854775807) (hr:∀p∈L.values,p.1.size≤maxLen) (hl:L.values.length≤1000000) :
  Calls Tryz.prog 43 #[.pointer (some ⟨tb,0,none⟩),.int .i64 n] w fun e w'=>∃v,e = .returned v∧LRead w' 2 idCells v (missL L n)∧w.grownBy w' none:=by
 obtain⟨T,h1,rfl,h3⟩:=h.ex
 have h2:=missing_any h1 n hll hr hl
 have e:missL T.norm n=missL T n:=by
  unfold missL
  have e1:lifeV T.norm n=lifeV T n:=rfl
  have e2:curL T.norm=curL T:=rfl
  rw[e1,e2]
  split
  ·rfl
  ·refine List.filter_congr fun x _=>?_
   unfold notHas hasB
   show(!decide (n∈memH (nsets T.holds) x))=_
   rw[memH_nsets]
 rw[e]
 exact h2
set_option maxHeartbeats 4000000 in
theorem healthy_at {bs:Nat→Prop} {w:World} {tb:Nat} {L:Tab} (h:At bs w tb L) (n:Int) (hll:L.lives.length≤1000000) (hr:∀p∈L.values,p.1.size≤maxLen) (hl:L.values.length≤1000000) (hv:0<lifeV L n) (hm:missL L n = []) :
  Calls Tryz.prog 24 #[.pointer (some ⟨tb,0,none⟩),.int .i64 n] w fun e w'=>e = .returned (.bool true)∧w.grownBy w' none:=by
 have HL:=Lib.hid (life_at h n (by omega))
 have HM:=Lib.hid (fun W (hg:w.grownBy W none)=>missing_at (h.grown hg) n (by omega) hr hl)
 rw[hm] at HM
 clear h hm hr hl
 generalize lifeV L n=lv at *
 go_enter Tryz.func24,Tryz.ntmps24
 go_wp2_with (first
  | (go_at_call 23;refine HL.out.mono ?_;rintro e w1 ⟨rfl,hg⟩;have HG:=Lib.hid hg;clear hg)
  | (go_at_call 43;refine(HM.out _ HG.out).mono ?_;rintro e w2 ⟨v,rfl,⟨p,cap,rfl,_⟩,hg⟩;have HG2:=Lib.hid hg;clear hg))
 go_ret
 exact⟨rfl,grown_trans HG.out HG2.out⟩
theorem urgent_any (key:ByteArray) (ver:Int) (ph pm:Option Addr) (n ch m cm:Nat) (t:Int) (W:World) (hn:n≤1000000) (ht:0≤t∧t≤1000000) :
  Calls Tryz.prog 61 #[.agg #[.string key,.int .i64 ver,.slice ph n ch,.slice pm m cm],.int .i64 t] W fun e w'=>e = .returned (.int .i64 ((n:Int)-t))∧W.grownBy w' none:=by
 obtain⟨t1,t2⟩:=ht
 go_enter Tryz.func61,Tryz.ntmps61
 go_wp2
 go_ret
 exact⟨rfl,by repeat (first|exact grown_refl _|exact World.grownBy_alloc _ _ _|refine grown_alloc ?_ _|refine grown_drew ?_)⟩
theorem lawid_any (key:ByteArray) (ver:Int) (W:World):Calls Tryz.prog 26 #[.string key,.int .i64 ver] W fun e w'=>e = .returned (.agg #[.string key,.int .i64 ver])∧W.grownBy w' none:=by
 go_enter Tryz.func26,Tryz.ntmps26
 go_wp2
 refine bodyPost_ret (v:=.agg #[.string key,.int .i64 ver]) (by simp[results,Tryz.results26,go_sem]) rfl ⟨rfl,World.grownBy_alloc _ _ none⟩
set_option maxHeartbeats 4000000 in
theorem lawtask_any (key:ByteArray) (ver nd held:Int) (W:World):Calls Tryz.prog 21 #[.agg #[.string key,.int .i64 ver,.int .i64 nd,.int .i64 held],.agg #[.string key,.int .i64 ver,.int .i64 nd,.int .i64 held]] W fun e w'=>e = .returned (.bool true)∧W.grownBy w' none:=by
 go_enter Tryz.func21,Tryz.ntmps21
 go_wp2
 go_ret
 exact⟨rfl,by repeat (first|exact grown_refl _|exact World.grownBy_alloc _ _ _|refine grown_alloc ?_ _|refine grown_drew ?_)⟩
def lostL (l:List Nd) (t:Int):List ID:=(l.filter fun nd=>decide ((nd.held:Int)<t)).map (·.id)
theorem lostL_take {l:List Nd} {k:Nat} {nd:Nd} (h:l[k]? = some nd) (t:Int):lostL (l.take (k+1)) t=lostL (l.take k) t++(if (nd.held:Int)<t then [nd.id] else []):=by
 obtain⟨h1,rfl⟩:=List.getElem?_eq_some_iff.1 h
 unfold lostL
 rw[List.take_succ_eq_append_getElem h1,List.filter_append,List.map_append]
 by_cases c:((l[k]).held:Int)<t <;> simp[c]
theorem lostL_len (l:List Nd) (t:Int):(lostL l t).length≤l.length:=by
 unfold lostL;rw[List.length_map];exact List.length_filter_le _ _
def IdA (w0 w:World) (v:Value) (l:List ID):Prop:=IdRow w0.heap.size w v l∧w0.grownBy w none
set_option maxHeartbeats 4000000 in
set_option maxRecDepth 100000 in
theorem lost_any {w:World} {v:Value} {l:List Nd} (h:NRow w v l) (t:Int) (hn:l.length≤1000000) (ht:0≤t∧t≤1000000) :
  Calls Tryz.prog 25 #[v,.int .i64 t] w fun e w'=>∃v',e = .returned v'∧IdA w w' v' (lostL l t):=by
 obtain⟨p,cap,rfl,hrow⟩:=h
 obtain⟨i0,hi,hz0,hz1,hz2⟩:=info_parts infoID
 have HROW:=Lib.hid hrow
 have H0:Hid (IdA w w (.slice none 0 0) []):=(show _∧_ from ⟨World.ownsRow_nil _ _ _ _,grown_refl _⟩)
 have HLL:=fun k=>Lib.hid (Nat.le_trans (lostL_len (l.take k) t) (List.length_take_le k l))
 clear hrow
 generalize hm:l.length=n at *
 have HM:=Lib.hid hm
 clear hm
 go_enter Tryz.func25,Tryz.ntmps25
 go_wp2
 go_loopw [5,10] (fun x i wr=>∃k:Nat,k≤n∧i = .int .i64 k∧Hid (IdA w wr x (lostL (l.take k) t))) (fun _ i _=>n-(intOf i).toNat)
 case atStart=>exact⟨0,Nat.zero_le _,rfl,H0⟩
 case round=>
  clear H0
  obtain⟨k,hk,rfl,hT⟩:=hrel
  rcases Nat.lt_or_ge k n with hlt|hge
  ·obtain⟨nd,hnd⟩:∃nd,l[k]? = some nd:=⟨_,List.getElem?_eq_getElem (by rw[HM.out];exact hlt)⟩
   have HX:=Lib.hid (lostL_take hnd t)
   rcases HROW.out with h0|⟨g,rfl,hc⟩
   ·subst h0;simp at hnd
   ·obtain⟨ph,pm,ch,cm,hn2⟩:=hc k nd hnd
    obtain⟨c0,c1,c2,c3,-⟩:=hn2.grown hT.out.2
    have HT:=Lib.hid hT.out
    have hll:=(HLL k).out
    clear hc hnd hn2 hT
    generalize lostL (l.take k) t=ls at *
    by_cases c:(nd.held:Int)<t
    ·have HX2:Hid (lostL (l.take (k+1)) t=ls ++ [nd.id]):=(show _=_ from by rw[HX.out,if_pos c])
     clear HX
     obtain⟨⟨key,ver⟩,held,mis⟩:=nd
     simp only at c0 c1 c2 c3 c
     generalize mis.length=q at *
     go_wp2_with (at_builtin;refine wpList_append_own _ rfl _ _ 66 rfl w.heap.size 54 i0 (.agg #[.string { data:=#[] },.int .i64 0]) 2 24 Tryz.underlying66 hi hz0 hz1 hz2 rfl (by decide) _ _ _ rfl ((HT.out.1.alloc _).alloc _) ⟨wr.heap.size+1,0,none⟩ 1 1 [.string key,.int .i64 ver] rfl rfl ?c1 ?c2 ?c3 ?c4 ?c5 ?_)
     case c2=>exact⟨rfl,rfl⟩
     case c3=>unfold maxLen;omega
     case c4=>omega
     case c5=>have:=HT.out.2.size;omega
     intro v' w9 ho hg9 _
     have HN:Hid (IdA w w9 v' (ls ++ [⟨key,ver⟩])):=(show _∧_ from ⟨by
      unfold IdRow
      simp only[List.length_append,List.length_cons,List.length_nil,List.flatMap_append,List.flatMap_cons,List.flatMap_nil,List.append_nil,idCells,Nat.zero_add]
      exact ho,grown_own (grown_trans HT.out.2 (grown_alloc (World.grownBy_alloc _ _ none) _)) hg9 (row_base HT.out.1)⟩)
     clear ho hg9
     go_wp2
     go_roundw
     case rel=>exact⟨k+1,by omega,by go_num,by rw[HX2.out];exact HN⟩
     case measure=>simp[intOf];omega
    ·have HX2:Hid (lostL (l.take (k+1)) t=ls):=(show _=_ from by rw[HX.out,if_neg c,List.append_nil])
     clear HX
     obtain⟨⟨key,ver⟩,held,mis⟩:=nd
     simp only at c0 c1 c2 c3 c
     generalize mis.length=q at *
     go_wp2
     go_roundw
     case rel=>exact⟨k+1,by omega,by go_num,by rw[HX2.out];exact(show _∧_ from ⟨HT.out.1.alloc _,grown_trans HT.out.2 (World.grownBy_alloc _ _ none)⟩)⟩
     case measure=>simp[intOf];omega
  ·obtain rfl:k=n:=by omega
   have hT2:=hT.out
   rw[List.take_of_length_le (by rw[HM.out];exact Nat.le_refl _)] at hT2
   have HT:=Lib.hid hT2
   clear hT hT2
   go_wp2
   go_ret
   exact⟨_,rfl,HT.out⟩
def kA:ID:=⟨⟨#[97]⟩,1⟩
def kB:ID:=⟨⟨#[98]⟩,2⟩
def wkN:List Nd:=[⟨kA,3,[3]⟩,⟨kB,1,[1,2,3]⟩]
theorem wk_raw:rawT wkN = [⟨kA,3,3⟩,⟨kB,1,1⟩,⟨kB,2,1⟩,⟨kB,3,1⟩]:=rfl
theorem wk_sort:sortT (rawT wkN) = [⟨kB,1,1⟩,⟨kB,2,1⟩,⟨kB,3,1⟩,⟨kA,3,3⟩]:=by
 refine(sortT_eq ?_ ?_).symm
 ·rw[wk_raw]
  exact(List.perm_append_comm (l₁:=[(⟨kB,1,1⟩:Tsk),⟨kB,2,1⟩,⟨kB,3,1⟩]) (l₂:=[(⟨kA,3,3⟩:Tsk)]))
 ·unfold Srt
  decide +kernel
theorem wk_pk:(pk (sortT (rawT wkN))).take 3 = [⟨kB,1,1⟩,⟨kB,2,1⟩,⟨kB,3,1⟩]:=by
 rw[wk_sort];decide +kernel
theorem wk_lost:lostL wkN 2 = [kB]:=by decide +kernel
theorem tsk_at {w0 W:World} {v:Value} {ts:List Tsk} (h:TA w0 W v ts) {k:Nat} {t:Tsk} (hk:ts[k]? = some t):∃g cap,v = .slice (some ⟨g,0,none⟩) ts.length cap∧∀j u,(tskCells t)[j]? = some u→W.cell? ⟨g,k*4+j,none⟩=some u:=by
 obtain⟨h1,rfl⟩:=List.getElem?_eq_some_iff.1 hk
 have hS:SRow W 56 4 tskCells v ts:=⟨h.1.1,h.1.2.imp id fun ⟨b,cap,cur,e,_,rest⟩=>⟨b,cap,cur,e,Nat.zero_le _,rest⟩⟩
 rcases hS.at tsk_len with h0|⟨g,cap,e,hc,_⟩
 ·subst h0;simp at h1
 ·exact⟨g,cap,e,fun j u hu=>hc k h1 j u hu⟩
set_option maxHeartbeats 8000000 in
set_option maxRecDepth 100000 in
theorem works27_any (w:World):Calls Tryz.prog 17 #[] w fun e w'=>e = .returned (.bool true)∧w.grownBy w' none:=by
 go_enter Tryz.func17,Tryz.ntmps17
 go_wp2_with fail
 refine(lawid_any _ _ _).mono ?_
 rintro e w1 ⟨rfl,hg1⟩
 have HG1:=Lib.hid hg1
 clear hg1
 go_wp2_with fail
 refine(lawid_any _ _ _).mono ?_
 rintro e w2 ⟨rfl,hg2⟩
 have HG2:=Lib.hid hg2
 clear hg2
 go_wp2_with fail
 obtain⟨W3,hW3⟩:∃x:World,x=((w2.alloc (.cells #[.int .i64 0] 3)).alloc (.cells #[.int .i64 1,.int .i64 2,.int .i64 3] 3)).alloc (.cells #[.string ⟨#[97]⟩,.int .i64 1,.slice (some ⟨w1.heap.size,0,none⟩) 3 3,.slice (some ⟨w1.heap.size+1,0,none⟩) 1 1,.string ⟨#[98]⟩,.int .i64 2,.slice (some ⟨w2.heap.size,0,none⟩) 1 1,.slice (some ⟨w2.heap.size+1,0,none⟩) 3 3] 71):=⟨_,rfl⟩
 have hg3:w2.grownBy W3 none:=by rw[hW3];exact grown_alloc (grown_alloc (World.grownBy_alloc _ _ _) _) _
 have f1:W3.heap[w2.heap.size+1+1]? = some (.cells #[.string ⟨#[97]⟩,.int .i64 1,.slice (some ⟨w1.heap.size,0,none⟩) 3 3,.slice (some ⟨w1.heap.size+1,0,none⟩) 1 1,.string ⟨#[98]⟩,.int .i64 2,.slice (some ⟨w2.heap.size,0,none⟩) 1 1,.slice (some ⟨w2.heap.size+1,0,none⟩) 3 3] 71 (0,0)):=by
  rw[hW3]
  have:=World.alloc_heap_new ((w2.alloc (.cells #[.int .i64 0] 3)).alloc (.cells #[.int .i64 1,.int .i64 2,.int .i64 3] 3)) (.cells #[.string ⟨#[97]⟩,.int .i64 1,.slice (some ⟨w1.heap.size,0,none⟩) 3 3,.slice (some ⟨w1.heap.size+1,0,none⟩) 1 1,.string ⟨#[98]⟩,.int .i64 2,.slice (some ⟨w2.heap.size,0,none⟩) 1 1,.slice (some ⟨w2.heap.size+1,0,none⟩) 3 3] 71)
  rwa [World.size_alloc,World.size_alloc] at this
 have f2:W3.heap[w2.heap.size+1]? = some (.cells #[.int .i64 1,.int .i64 2,.int .i64 3] 3 (0,0)):=by
  rw[hW3,Below.heap_alloc _ _ _ (by simp only[World.size_alloc];omega)]
  have:=World.alloc_heap_new (w2.alloc (.cells #[.int .i64 0] 3)) (.cells #[.int .i64 1,.int .i64 2,.int .i64 3] 3)
  rwa [World.size_alloc] at this
 have f3:W3.heap[w1.heap.size+1]? = some (.cells #[.int .i64 3] 3 (0,0)):=by
  have:=World.alloc_heap_new (w1.alloc (.cells #[.int .i64 0,.int .i64 1,.int .i64 2] 3)) (.cells #[.int .i64 3] 3)
  rw[World.size_alloc] at this
  exact kept_block (kept_block this HG2.out) hg3
 have hNR:NRow W3 (.slice (some ⟨w2.heap.size+1+1,0,none⟩) 2 2) wkN:=⟨_,2,rfl,Or.inr ⟨_,rfl,fun i nd hi=>by
  match i,hi with
  | 0,hi=>
   obtain rfl:(⟨kA,3,[3]⟩:Nd)=nd:=Option.some.inj hi
   exact⟨_,_,_,_,⟨(cell_block f1 0).trans rfl,(cell_block f1 1).trans rfl,(cell_block f1 2).trans rfl,(cell_block f1 3).trans rfl,Or.inr ⟨_,rfl,fun j x hx=>by
    match j,hx with
    | 0,hx=>obtain rfl:(3:Int)=x:=Option.some.inj hx;exact(cell_block f3 0).trans rfl⟩⟩⟩
  | 1,hi=>
   obtain rfl:(⟨kB,1,[1,2,3]⟩:Nd)=nd:=Option.some.inj hi
   exact⟨_,_,_,_,⟨(cell_block f1 4).trans rfl,(cell_block f1 5).trans rfl,(cell_block f1 6).trans rfl,(cell_block f1 7).trans rfl,Or.inr ⟨_,rfl,fun j x hx=>by
    match j,hx with
    | 0,hx=>obtain rfl:(1:Int)=x:=Option.some.inj hx;exact(cell_block f2 0).trans rfl
    | 1,hx=>obtain rfl:(2:Int)=x:=Option.some.inj hx;exact(cell_block f2 1).trans rfl
    | 2,hx=>obtain rfl:(3:Int)=x:=Option.some.inj hx;exact(cell_block f2 2).trans rfl⟩⟩⟩⟩⟩
 have HNR:=Lib.hid hNR
 have HF1:=Lib.hid f1
 have HG3:Hid (w.grownBy W3 none):=(show w.grownBy _ none from grown_trans (grown_trans HG1.out (grown_alloc (World.grownBy_alloc _ _ _) _)) (grown_trans HG2.out hg3))
 rw[←hW3]
 clear hNR f1 f2 f3 hg3 hW3 HG1 HG2
 generalize w2.heap.size=b2 at *
 generalize w1.heap.size=b1 at *
 refine(tasks_any HNR.out (by decide) (by decide)).mono ?_
 rintro e w4 ⟨tv,rfl,hta⟩
 rw[wk_sort] at hta
 obtain⟨g,cap,rfl,ht0⟩:=tsk_at hta (k:=0) rfl
 have HTA:=Lib.hid hta
 have HT0:=Lib.hid ht0
 clear hta ht0
 go_wp2_with fail
 refine(nextD_any 3 (by decide) (by decide) (HNR.out.grown HTA.out.2) (by decide) (by decide)).mono ?_
 rintro e w5 ⟨nv,rfl,hna⟩
 rw[wk_pk] at hna
 obtain⟨g5,cap5,rfl,hn2⟩:=tsk_at hna (k:=2) rfl
 have hT0:=fun j u hj=>hna.2.cell (HT0.out j u hj) (by simp)
 obtain⟨g',cap',e',ht3⟩:=tsk_at HTA.out (k:=3) rfl
 injection e' with e1 _ _
 injection e1 with e1
 injection e1 with e1
 subst e1
 have hT3:=fun j u hj=>hna.2.cell (ht3 j u hj) (by simp)
 have a0:=hT0 0 _ rfl
 have a2:=hT0 2 _ rfl
 have a3:=hT3 0 _ rfl
 have a4:=hT3 2 _ rfl
 have n0:=hn2 0 _ rfl
 have n2:=hn2 2 _ rfl
 have hk:=kept_block HF1.out (grown_trans HTA.out.2 hna.2)
 have b4:w5.cell? ⟨b2+1+1,4,none⟩=some (.string ⟨#[98]⟩):=(cell_block hk 4).trans rfl
 have b5:w5.cell? ⟨b2+1+1,5,none⟩=some (.int .i64 2):=(cell_block hk 5).trans rfl
 have b6:w5.cell? ⟨b2+1+1,6,none⟩=some (.slice (some ⟨b2,0,none⟩) 1 1):=(cell_block hk 6).trans rfl
 have b7:w5.cell? ⟨b2+1+1,7,none⟩=some (.slice (some ⟨b2+1,0,none⟩) 3 3):=(cell_block hk 7).trans rfl
 have HLO:=Lib.hid (fun W (hg:w5.grownBy W none)=>lost_any ((HNR.out.grown HTA.out.2).grown (grown_trans hna.2 hg)) 2 (by decide) (by decide))
 rw[wk_lost] at HLO
 have HG5:Hid (w.grownBy w5 none):=(show w.grownBy _ none from grown_trans HG3.out (grown_trans HTA.out.2 hna.2))
 simp only[kA,kB] at a0 a2 a3 a4 n0 n2
 simp only[Nat.zero_mul,Nat.zero_add,Nat.add_zero,Nat.reduceMul,Nat.reduceAdd] at a0 a2 a3 a4 n0 n2
 clear hT0 hT3 ht3 hn2 hk hna
 simp only[List.length_cons,List.length_nil,Nat.reduceAdd]
 go_wp2_with (first
  | (go_at_call 61;refine(urgent_any _ _ _ _ _ _ _ _ _ _ (by decide) (by decide)).mono ?_;rintro e w6 ⟨rfl,hg⟩;have HG6:=Lib.hid hg;clear hg)
  | (go_at_call 25;refine(HLO.out _ HG6.out).mono ?_;rintro e w7 ⟨lv,rfl,hid⟩;obtain⟨pl,cl,rfl⟩:=idRow_form hid.1;have HG7:=Lib.hid hid.2;clear hid))
 go_ret
 exact⟨rfl,grown_trans HG5.out (grown_trans HG6.out HG7.out)⟩
section
variable {W : World}
end
section
variable {bs : Nat → Prop} {W : World} {rb : Nat} {R : RTab}
end
section
variable {bs : Nat → Prop} {W : World} {rb : Nat} {R : RTab}
end
structure RB (j:Nat) (R:RTab):Prop where
 lc:R.calls.length≤j
 lv:R.vals.length≤j
 lp:R.pends.length≤j
 lh:R.holds.length≤j
 o0:0≤R.offers
 o1:R.offers≤j
 x0:1≤R.next
 x1:R.next≤j+1
 ks:∀v∈R.vals,v.1.size≤64
theorem mput_len {K V:Type} [DecidableEq K] (m:List (K × V)) (k:K) (v:V):(mput m k v).length≤m.length+1:=by
 induction m with
 | nil=>simp[mput]
 | cons p r ih=>
  unfold mput
  split
  ·simp
  ·simp only[List.length_cons];omega
section
variable {j : Nat} {R : RTab}
theorem RB.le (h:RB j R) {i:Nat} (hi:j≤i):RB i R:=⟨by have:=h.lc;omega,by have:=h.lv;omega,by have:=h.lp;omega,by have:=h.lh;omega,h.o0,by have:=h.o1;omega,h.x0,by have:=h.x1;omega,h.ks⟩
theorem rclean_b (h:RB j R):RB j (rclean R):=⟨h.lc,h.lv,h.lp,Nat.le_trans (List.length_filter_le _ _) h.lh,h.o0,h.o1,h.x0,h.x1,h.ks⟩
theorem rsays_b (h:RB j R) (x:RHold):RB (j+1) (rsays R x):=by
 refine⟨Nat.le_succ_of_le h.lc,Nat.le_succ_of_le h.lv,Nat.le_succ_of_le h.lp,?_,h.o0,by have:=h.o1;show R.offers≤_;omega,h.x0,by have:=h.x1;show R.next≤_;omega,h.ks⟩
 have:=List.length_filter_le (fun x_1:RHold=>decide (x_1.id≠x.id) || decide (x_1.node≠x.node)) R.holds
 have h1:=h.lh
 unfold rsays
 simp only[List.length_append,List.length_cons,List.length_nil]
 omega
theorem eraseP_len {α:Type} (f:α→Bool) (l:List α):(l.eraseP f).length≤l.length:=List.Sublist.length_le List.eraseP_sublist
theorem rends_b (h:RB j R) (i:ID):RB j (rends R i):=⟨h.lc,h.lv,Nat.le_trans (eraseP_len _ _) h.lp,h.lh,h.o0,h.o1,h.x0,h.x1,h.ks⟩
theorem mput_keys {m:List (ByteArray × Val)} (h:∀v∈m,v.1.size≤64) {s:ByteArray} (hs:s.size≤64) (v:Val):∀x∈mput m s v,x.1.size≤64:=by
 intro x hx
 rcases mput_sub m s v x.1 (List.mem_map.2 ⟨x,hx,rfl⟩) with e|e
 ·rw[e];exact hs
 ·obtain⟨y,hy,e⟩:=List.mem_map.1 e
  rw[←e];exact h y hy
theorem rdo_b (h:RB j R) (c:Cmd) (hk:c.key.size≤64):RB (j+1) (rdo R c):=by
 have h1:=h.lc
 have h2:=h.lv
 have h3:=h.lp
 have h4:=h.lh
 have h5:=h.o0
 have h6:=h.o1
 have h7:=h.x0
 have h8:=h.x1
 have h9:=h.ks
 have e1:=fun (n:Int) (v:CallT)=>mput_len R.calls n v
 have e2:=fun (s:ByteArray) (v:Val)=>mput_len R.vals s v
 have e3:=fun (f:ID × Pend→Bool)=>eraseP_len f R.pends
 have e4:=fun (f:RHold→Bool)=>List.length_filter_le f R.holds
 unfold rdo
 split
 ·exact rclean_b ⟨by show R.calls.length≤_;omega,by show R.vals.length≤_;omega,by show R.pends.length≤_;omega,by show R.holds.length≤_;omega,by show 0≤R.offers+1;omega,by show R.offers+1≤_;omega,h7,by show R.next≤_;omega,h9⟩
 ·split
  ·refine rclean_b ?_
   split
   ·exact⟨by show R.calls.length≤_;omega,by show R.vals.length≤_;omega,by show R.pends.length≤_;omega,by show R.holds.length≤_;omega,h5,by show R.offers≤_;omega,h7,by show R.next≤_;omega,h9⟩
   ·exact h.le (Nat.le_succ j)
  ·split
   ·refine rclean_b ?_
    split
    ·refine⟨?_,by show R.vals.length≤_;omega,?_,by show R.holds.length≤_;omega,h5,by show R.offers≤_;omega,by show 1≤R.next+1;omega,by show R.next+1≤_;omega,h9⟩
     ·have:=e1 c.client ⟨c.req,R.next,false,0⟩
      show(mput R.calls c.client ⟨c.req,R.next,false,0⟩).length≤_
      omega
     ·have:=e3 fun p:ID × Pend=>decide (p.2.client=c.client)
      show((R.pends.eraseP fun p:ID × Pend=>decide (p.2.client=c.client)) ++ [_]).length≤_
      rw[List.length_append,List.length_singleton]
      omega
    ·exact h.le (Nat.le_succ j)
   ·split
    ·unfold rack
     split
     ·have hs:=rsays_b h ⟨⟨c.key,c.ver⟩,c.node,c.inc,false⟩
      split
      ·exact hs
      ·split
       ·exact hs
       ·refine rclean_b ?_
        have hr:=rends_b hs ⟨c.key,c.ver⟩
        have hv:RB (j+1) (rvalued (rends (rsays R ⟨⟨c.key,c.ver⟩,c.node,c.inc,false⟩) ⟨c.key,c.ver⟩) c):=by
         unfold rvalued
         split
         ·refine⟨hr.lc,?_,hr.lp,hr.lh,hr.o0,hr.o1,hr.x0,hr.x1,?_⟩
          ·have:=e2 c.key ⟨c.ver,false⟩
           show(mput R.vals c.key ⟨c.ver,false⟩).length≤_
           omega
          ·exact mput_keys h9 hk _
         ·exact hr
        have hcalls:(rvalued (rends (rsays R ⟨⟨c.key,c.ver⟩,c.node,c.inc,false⟩) ⟨c.key,c.ver⟩) c).calls=R.calls:=by
         unfold rvalued;split <;> rfl
        unfold rdone
        split
        ·refine⟨?_,hv.lv,hv.lp,hv.lh,hv.o0,hv.o1,hv.x0,hv.x1,hv.ks⟩
         show(mput _ _ _).length≤_
         rw[hcalls]
         exact Nat.le_trans (e1 _ _) (by omega)
        ·exact hv
     ·exact h.le (Nat.le_succ j)
    ·split
     ·unfold rrefuse
      split
      ·exact h.le (Nat.le_succ j)
      ·split
       ·refine rclean_b ?_
        have hs:=rsays_b h ⟨⟨c.key,c.ver⟩,c.node,c.inc,true⟩
        split
        ·have hr:=rends_b hs ⟨c.key,c.ver⟩
         unfold rdone
         split
         ·refine⟨?_,hr.lv,hr.lp,hr.lh,hr.o0,hr.o1,hr.x0,hr.x1,hr.ks⟩
          show(mput R.calls _ _).length≤_
          exact Nat.le_trans (e1 _ _) (by omega)
         ·exact hr
        ·exact hs
       ·exact h.le (Nat.le_succ j)
     ·split
      ·refine rclean_b ?_
       split
       ·refine⟨?_,?_,?_,by show R.holds.length≤_;omega,h5,by show R.offers≤_;omega,by show 1≤R.next+1;omega,by show R.next+1≤_;omega,?_⟩
        ·show(mput R.calls _ _).length≤_
         exact Nat.le_trans (e1 _ _) (by omega)
        ·show(mput R.vals _ _).length≤_
         exact Nat.le_trans (e2 _ _) (by omega)
        ·show(R.pends.eraseP _).length≤_
         exact Nat.le_trans (e3 _) (by omega)
        ·exact mput_keys h9 hk _
       ·exact h.le (Nat.le_succ j)
      ·refine rclean_b ?_
       split
       ·refine⟨?_,by show R.vals.length≤_;omega,?_,by show R.holds.length≤_;omega,h5,by show R.offers≤_;omega,h7,by show R.next≤_;omega,h9⟩
        ·show(mput R.calls _ _).length≤_
         exact Nat.le_trans (e1 _ _) (by omega)
        ·show(R.pends.eraseP _).length≤_
         exact Nat.le_trans (e3 _) (by omega)
       ·exact h.le (Nat.le_succ j)
theorem rnew_b (N:Nat) (w:Int):RB 0 (rnew N w):=⟨Nat.le_refl _,Nat.le_refl _,Nat.le_refl _,Nat.le_refl _,Int.le_refl _,Int.le_refl _,Int.le_refl _,Int.le_refl _,fun v hv=>by simp[rnew] at hv⟩
theorem RB.rok (h:RB j R) (hj:j≤1000) {T:Tab} {n k:Nat} (hI:Inv n k T) (hs:Sim T R) (hn:n≤1000) (hk:k≤1000):ROk R:=by
 have hN:=hs.s0.N
 have hl:=hs.s0.lives
 have hln:=hI.ln
 have hw:=hs.s0.W
 have hkw:=hI.w
 refine⟨by have:=h.lc;omega,by have:=h.lv;omega,by have:=h.lp;omega,by have:=h.lh;omega,by rw[hl];omega,fun x hx=>?_,by rw[hl];exact hN,h.o0,by have:=h.o1;omega,by have:=h.x0;omega,by have:=h.x1;omega,by omega,by omega⟩
 have:=hs.s0.hb x hx
 rw[hl]
 omega
end
section
variable {W : World}
end
theorem flatI:∀l:List Int,l.flatMap cellsI=l.map (Value.int .i64)
 | []=>rfl
 | x :: r=>by simp only[List.flatMap_cons,List.map_cons,flatI r];rfl
theorem rnew_row (w:World) (N:Nat) (hN:N≤255):SRow (w.alloc (.cells (madeCells #[.int .i64 0] N) 2)) 2 1 cellsI (.slice (some ⟨w.heap.size,0,none⟩) N N) (List.replicate N (0:Int)):=by
 unfold SRow
 rw[List.length_replicate,flatI]
 refine⟨by simp,.inr ⟨w.heap.size,N,madeCells #[.int .i64 0] N,rfl,Nat.zero_le _,heap_alloc_new w _,Nat.le_refl _,by unfold maxLen;omega,by simp[madeCells],?_⟩⟩
 rw[made_cells]
 simp
theorem rnew_rep (w:World) (N:Nat) (wi:Int) (hN:N≤255) (bs:Nat→Prop) (hbs:∀k,w.heap.size≤k→bs k) :
  RAt bs ((w.alloc (.cells (madeCells #[.int .i64 0] N) 2)).alloc (.cells #[.int .i64 (N:Int),.int .i64 wi,.int .i64 0,.int .i64 1,.slice (some ⟨w.heap.size,0,none⟩) N N,.slice none 0 0,.slice none 0 0,.slice none 0 0,.slice none 0 0] 52)) (w.heap.size+1) (rnew N wi):=by
 have hr:=rnew_row w N hN
 have hl:(rnew N wi).lives=List.replicate N (0:Int):=rfl
 refine⟨.slice (some ⟨w.heap.size,0,none⟩) N N,.slice none 0 0,.slice none 0 0,.slice none 0 0,.slice none 0 0,⟨?_,?_,World.ownsRow_nil _ _ _ _,World.ownsRow_nil _ _ _ _,World.ownsRow_nil _ _ _ _,World.ownsRow_nil _ _ _ _⟩,hbs _ (by omega),fun g hg=>?_,fun g hg=>by simp[Value.ownBlock] at hg,fun g hg=>by simp[Value.ownBlock] at hg,fun g hg=>by simp[Value.ownBlock] at hg,fun g hg=>by simp[Value.ownBlock] at hg⟩
 ·have:=heap_alloc_new (w.alloc (.cells (madeCells #[.int .i64 0] N) 2)) (.cells #[.int .i64 (N:Int),.int .i64 wi,.int .i64 0,.int .i64 1,.slice (some ⟨w.heap.size,0,none⟩) N N,.slice none 0 0,.slice none 0 0,.slice none 0 0,.slice none 0 0] 52)
  simp only[World.size_alloc] at this
  exact this
 ·rw[hl]
  exact hr.grown (grown_alloc (grown_refl _) _) (by simp)
 ·simp only[Value.ownBlock,Option.some.injEq] at hg
  subst hg
  exact hbs _ (Nat.le_refl _)
theorem clampW_max (N:Nat) (w:Int) (h:1≤N):clampW N w=max 1 (min (N:Int) w):=by
 unfold clampW
 split
 ·omega
 ·split <;> omega
set_option maxHeartbeats 4000000 in
set_option maxRecDepth 100000 in
theorem rnew_any (nodes wi:Int) (N:Nat) (hN:(N:Int)=clampN nodes) (w:World) (bs:Nat→Prop) (hbs:∀k,w.heap.size≤k→bs k) :
  Calls Tryz.prog 38 #[.int .i64 nodes,.int .i64 wi] w fun e w'=>∃rb,e = .returned (.pointer (some ⟨rb,0,none⟩))∧RAt bs w' rb (rnew N (clampW N wi))∧w.grownBy w' none:=by
 have hN1:1≤N:=by unfold clampN at hN;split at hN <;> (try split at hN) <;> omega
 have hN2:N≤255:=by unfold clampN at hN;split at hN <;> (try split at hN) <;> omega
 have hmk:=run_make_row' (P:=Tryz.prog) 46 2 (.int .i64 0) 8 Tryz.underlying46 info_i64 rfl .i64 .i64 N (by omega) (by omega)
 have HN:=Lib.hid hN
 have HBS:=Lib.hid hbs
 clear hN hbs
 go_enter Tryz.func38,Tryz.ntmps38
 go_upto_region 1 with fail
 go_cut [5] (fun s wx=>s = .int .i64 N∧wx=w)
 case first=>
  clear hmk
  go_wp2
  all_goals (go_meet;refine⟨?_,rfl⟩;have:=HN.out;unfold clampN at this;congr 1;(repeat (split at this)) <;> omega)
 case rest=>
  obtain⟨rfl,rfl⟩:=hcut
  go_wp2
  all_goals
   go_ret
   refine⟨wc.heap.size+1,rfl,?_,by repeat (first|exact grown_refl _|exact World.grownBy_alloc _ _ _|refine grown_alloc ?_ _)⟩
   have h:=rnew_rep wc N (clampW N wi) hN2 bs HBS.out
   rw[clampW_max N wi hN1] at h ⊢
   exact h
open Go.RowKit Go.Sf Go.Shelf Go.Maps
structure Both (n k j:Nat) (L:Tab) (R:RTab):Prop where
 inv:Inv n k L
 sim:Sim L R
 rb:RB j R
theorem nodup_len {α:Type} [DecidableEq α]:∀(l1 l2:List α),l1.Nodup→(∀x∈l1,x∈l2)→l1.length≤l2.length
 | [],_,_,_=>Nat.zero_le _
 | a :: r,l2,hn,h=>by
  obtain⟨h1,h2⟩:=List.nodup_cons.1 hn
  have ha:=h a (by simp)
  have:=nodup_len r (l2.erase a) h2 (fun x hx=>(List.mem_erase_of_ne (by rintro rfl;exact h1 hx)).2 (h x (List.mem_cons_of_mem _ hx)))
  rw[List.length_erase_of_mem ha] at this
  have:=List.length_pos_of_mem ha
  simp only[List.length_cons]
  omega
section
variable {n k j : Nat} {L : Tab} {R : RTab}
end
section
variable {W : World} {tb rb : Nat} {L : Tab} {R : RTab}
end
end Go.Proofs.YtjfelfjobeeenaaGreat
