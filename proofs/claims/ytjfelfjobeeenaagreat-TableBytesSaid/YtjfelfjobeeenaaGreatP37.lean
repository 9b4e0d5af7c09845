/- The example that the laws fall back on: works() answers true: the walk. TablePuts: rows of bytes that a call makes. Conditions: none. slices.Equal at bytes: the walk. Conditions: bytes that lie in memory. The reader's nodes: plain, and its maps in memory. Conditions: none. -/
import Derived.Test.YtjfelfjobeeenaaGreatP20
import Derived.Test.YtjfelfjobeeenaaGreatP36
import Derived.ArgAppend
namespace Go.Proofs.YtjfelfjobeeenaaGreat
set_option linter.unusedVariables false
set_option linter.unusedSimpArgs false
open Go.RowKit Go.Sf Go.Shelf
def cmdCells (c:Cmd):List Value:=[.int .u8 c.kind,.int .i64 c.node,.int .i64 c.client,.int .i64 c.inc,.int .i64 c.req,.int .i64 c.ver,.string c.key,.int .i64 c.code]
theorem wk_cells (k:Nat) (hk:k<7) (j:Nat) (hj:j<8):((wkC.flatMap cmdCells).toArray)[k*8+j]? = (cmdCells (wkC.getD k wkD))[j]?:=by
 obtain rfl|rfl|rfl|rfl|rfl|rfl|rfl:k=0∨k=1∨k=2∨k=3∨k=4∨k=5∨k=6:=by omega
 all_goals
  obtain rfl|rfl|rfl|rfl|rfl|rfl|rfl|rfl:j=0∨j=1∨j=2∨j=3∨j=4∨j=5∨j=6∨j=7:=by omega
  all_goals rfl
structure WkRow (w:World) (g:Nat):Prop where
 row:w.heap[g]? = some (.cells (wkC.flatMap cmdCells).toArray 24 (0,0))
theorem WkRow.cell {w:World} {g:Nat} (h:WkRow w g) (k:Nat) (hk:k<7) (j:Nat) (hj:j<8) (o:Nat) (ho:o=k*8+j) (v:Value) (hv:(cmdCells (wkC.getD k wkD))[j]? = some v):w.cell? ⟨g,o,none⟩=some v:=by
 subst ho
 rw[cell_block h.row,wk_cells k hk j hj,hv]
theorem WkRow.out {bs:Nat→Prop} {w w':World} {g:Nat} (h:WkRow w g) (ho:Out bs w w') (hn:¬bs g):WkRow w' g:=
 ⟨(ho.block g (Array.getElem?_eq_some_iff.1 h.row).1 hn).trans h.row⟩
attribute [local irreducible] stepT memH look wantedB callV in
set_option maxHeartbeats 2000000 in
set_option maxRecDepth 100000 in
theorem works_any (w:World):Calls Tryz.prog 10 #[] w fun e w'=>e = .returned (.bool true)∧w.grownBy w' none:=by
 go_enter Tryz.func10,Tryz.ntmps10
 go_wp2_with (go_at_call 30;refine(new_at (bs:=fun k=>w.heap.size≤k) 3 2 3 rfl w (fun _ h=>h)).mono ?_;rintro e w1 ⟨tb,rfl,hle,hA,hg⟩;have HA:=Lib.hid hA;have HG:=Lib.hid hg;clear hA hg)
 have hrow:WkRow (w1.alloc (.cells #[.int .u8 1,.int .i64 0,.int .i64 0,.int .i64 0,.int .i64 0,.int .i64 0,.string { data:=#[] },.int .i64 0,.int .u8 1,.int .i64 0,.int .i64 0,.int .i64 0,.int .i64 0,.int .i64 0,.string { data:=#[] },.int .i64 0,.int .u8 2,.int .i64 0,.int .i64 0,.int .i64 1,.int .i64 0,.int .i64 0,.string { data:=#[] },.int .i64 0,.int .u8 2,.int .i64 1,.int .i64 0,.int .i64 2,.int .i64 0,.int .i64 0,.string { data:=#[] },.int .i64 0,.int .u8 3,.int .i64 0,.int .i64 9,.int .i64 0,.int .i64 1,.int .i64 0,.string { data:=#[97] },.int .i64 0,.int .u8 4,.int .i64 0,.int .i64 0,.int .i64 1,.int .i64 0,.int .i64 1,.string { data:=#[97] },.int .i64 0,.int .u8 4,.int .i64 1,.int .i64 0,.int .i64 1,.int .i64 0,.int .i64 1,.string { data:=#[97] },.int .i64 0] 24)) w1.heap.size:=⟨heap_alloc_new _ _⟩
 have hg2:w1.grownBy (w1.alloc (.cells #[.int .u8 1,.int .i64 0,.int .i64 0,.int .i64 0,.int .i64 0,.int .i64 0,.string { data:=#[] },.int .i64 0,.int .u8 1,.int .i64 0,.int .i64 0,.int .i64 0,.int .i64 0,.int .i64 0,.string { data:=#[] },.int .i64 0,.int .u8 2,.int .i64 0,.int .i64 0,.int .i64 1,.int .i64 0,.int .i64 0,.string { data:=#[] },.int .i64 0,.int .u8 2,.int .i64 1,.int .i64 0,.int .i64 2,.int .i64 0,.int .i64 0,.string { data:=#[] },.int .i64 0,.int .u8 3,.int .i64 0,.int .i64 9,.int .i64 0,.int .i64 1,.int .i64 0,.string { data:=#[97] },.int .i64 0,.int .u8 4,.int .i64 0,.int .i64 0,.int .i64 1,.int .i64 0,.int .i64 1,.string { data:=#[97] },.int .i64 0,.int .u8 4,.int .i64 1,.int .i64 0,.int .i64 1,.int .i64 0,.int .i64 1,.string { data:=#[97] },.int .i64 0] 24)) none:=World.grownBy_alloc _ _ _
 have hs2:w1.heap.size<(w1.alloc (.cells #[.int .u8 1,.int .i64 0,.int .i64 0,.int .i64 0,.int .i64 0,.int .i64 0,.string { data:=#[] },.int .i64 0,.int .u8 1,.int .i64 0,.int .i64 0,.int .i64 0,.int .i64 0,.int .i64 0,.string { data:=#[] },.int .i64 0,.int .u8 2,.int .i64 0,.int .i64 0,.int .i64 1,.int .i64 0,.int .i64 0,.string { data:=#[] },.int .i64 0,.int .u8 2,.int .i64 1,.int .i64 0,.int .i64 2,.int .i64 0,.int .i64 0,.string { data:=#[] },.int .i64 0,.int .u8 3,.int .i64 0,.int .i64 9,.int .i64 0,.int .i64 1,.int .i64 0,.string { data:=#[97] },.int .i64 0,.int .u8 4,.int .i64 0,.int .i64 0,.int .i64 1,.int .i64 0,.int .i64 1,.string { data:=#[97] },.int .i64 0,.int .u8 4,.int .i64 1,.int .i64 0,.int .i64 1,.int .i64 0,.int .i64 1,.string { data:=#[97] },.int .i64 0] 24)).heap.size:=by simp
 generalize w1.alloc (.cells #[.int .u8 1,.int .i64 0,.int .i64 0,.int .i64 0,.int .i64 0,.int .i64 0,.string { data:=#[] },.int .i64 0,.int .u8 1,.int .i64 0,.int .i64 0,.int .i64 0,.int .i64 0,.int .i64 0,.string { data:=#[] },.int .i64 0,.int .u8 2,.int .i64 0,.int .i64 0,.int .i64 1,.int .i64 0,.int .i64 0,.string { data:=#[] },.int .i64 0,.int .u8 2,.int .i64 1,.int .i64 0,.int .i64 2,.int .i64 0,.int .i64 0,.string { data:=#[] },.int .i64 0,.int .u8 3,.int .i64 0,.int .i64 9,.int .i64 0,.int .i64 1,.int .i64 0,.string { data:=#[97] },.int .i64 0,.int .u8 4,.int .i64 0,.int .i64 0,.int .i64 1,.int .i64 0,.int .i64 1,.string { data:=#[97] },.int .i64 0,.int .u8 4,.int .i64 1,.int .i64 0,.int .i64 1,.int .i64 0,.int .i64 1,.string { data:=#[97] },.int .i64 0] 24)=w2 at *
 have HB:Hid (∀k,w2.heap.size≤k→(w.heap.size≤k∧k≠w1.heap.size)):=(fun k hk=>⟨by have:=HG.out.size;omega,by omega⟩)
 have HA2:Hid (At (fun k=>w.heap.size≤k∧k≠w1.heap.size) w2 tb (wkL 0)):=(show At _ _ _ _ from wkL_zero ▸ (HA.out.mono (fun k h1 h2=>⟨h2,by omega⟩)).grown hg2)
 have HG2:=Lib.hid (grown_trans HG.out hg2)
 have HGL:Hid (w.heap.size≤w1.heap.size):=HG.out.size
 have HR:=Lib.hid hrow
 clear HA HG hg2 hrow
 generalize hgb:w1.heap.size=g at *
 go_loopw [3] (fun i wr=>∃k:Nat,k≤7∧i = .int .i64 k∧At (fun k=>w.heap.size≤k∧k≠g) wr tb (wkL k)∧Out (fun k=>w.heap.size≤k∧k≠g) w2 wr) (fun i _=>7-(intOf i).toNat)
 case atStart=>exact⟨0,by omega,rfl,HA2.out,Out.refl _ _⟩
 case round=>
  obtain⟨k,hk,rfl,hat,hout⟩:=hrel
  have HAT:=Lib.hid hat
  have HOUT:=Lib.hid hout
  have HRW:=Lib.hid (HR.out.out hout (fun h=>h.2 rfl))
  have HBS:Hid (∀k,wr.heap.size≤k→(w.heap.size≤k∧k≠g)):=(fun k hk=>HB.out k (Nat.le_trans hout.size hk))
  clear hat hout
  rcases Nat.lt_or_ge k 7 with hlt|hge
  ·have HGOOD:=Lib.hid (wk_good k hlt)
   have HS:=Lib.hid (wkL_succ k hlt)
   have c0:=HRW.out.cell k hlt 0 (by omega) (k*8) (by omega) _ rfl
   have c1:=HRW.out.cell k hlt 1 (by omega) (k*8+1) (by omega) _ rfl
   have c2:=HRW.out.cell k hlt 2 (by omega) (k*8+2) (by omega) _ rfl
   have c3:=HRW.out.cell k hlt 3 (by omega) (k*8+3) (by omega) _ rfl
   have c4:=HRW.out.cell k hlt 4 (by omega) (k*8+4) (by omega) _ rfl
   have c5:=HRW.out.cell k hlt 5 (by omega) (k*8+5) (by omega) _ rfl
   have c6:=HRW.out.cell k hlt 6 (by omega) (k*8+6) (by omega) _ rfl
   have c7:=HRW.out.cell k hlt 7 (by omega) (k*8+7) (by omega) _ rfl
   generalize wkC.getD k wkD=c at *
   obtain⟨kind,node,client,inc,req,ver,key,code⟩:=c
   simp only at c0 c1 c2 c3 c4 c5 c6 c7
   go_wp2_with (go_at_call 22;go_loud (refine(do_good HAT.out ⟨kind,node,client,inc,req,ver,key,code⟩ HGOOD.out HBS.out).mono ?_;rintro e w3 ⟨rfl,hA3,hO3⟩;have HA3:=Lib.hid hA3;have HO3:=Lib.hid hO3;clear hA3 hO3))
   go_roundw
   case rel=>exact⟨k+1,by omega,rfl,by rw[HS.out];exact HA3.out,HOUT.out.trans HO3.out⟩
   case measure=>simp[intOf];omega
  ·obtain rfl:k=7:=by omega
   have HQ:Hid (St w g tb (wkL 7) wr):=(show St _ _ _ _ _ from ⟨HAT.out,(Out.of_grown HG2.out _).trans HOUT.out,Nat.lt_of_lt_of_le hs2 HOUT.out.size⟩)
   have hwg:w.heap.size≤g:=HGL.out
   have F7:=Lib.hid wk_f7
   have F8:=Lib.hid wk_f8
   have F9:=Lib.hid wk_f9
   clear HAT HOUT HRW HBS HR HG2 HA2 HB
   generalize wkL 7=L7 at *
   generalize wk8=L8 at *
   generalize wk9=L9 at *
   generalize (Value.agg #[.int .u8 1,.int .i64 0,.int .i64 0,.int .i64 0,.int .i64 0,.int .i64 0,.string { data:=#[] },.int .i64 0])=ag1
   generalize (Value.agg #[.int .u8 2,.int .i64 0,.int .i64 0,.int .i64 1,.int .i64 0,.int .i64 0,.string { data:=#[] },.int .i64 0])=ag3
   generalize (Value.agg #[.int .u8 2,.int .i64 1,.int .i64 0,.int .i64 2,.int .i64 0,.int .i64 0,.string { data:=#[] },.int .i64 0])=ag4
   generalize (Value.agg #[.int .u8 3,.int .i64 0,.int .i64 9,.int .i64 0,.int .i64 1,.int .i64 0,.string { data:=#[97] },.int .i64 0])=ag5
   generalize (Value.agg #[.int .u8 4,.int .i64 0,.int .i64 0,.int .i64 1,.int .i64 0,.int .i64 1,.string { data:=#[97] },.int .i64 0])=ag6
   generalize (Value.agg #[.int .u8 4,.int .i64 1,.int .i64 0,.int .i64 1,.int .i64 0,.int .i64 1,.string { data:=#[97] },.int .i64 0])=ag7
   go_wp2_with (first
    | (go_at_call 34;refine(HQ.out.look ⟨#[97]⟩ 0 F7.out.1).mono ?_;rintro e w3 ⟨rfl,hq,-⟩;replace HQ:=Lib.hid hq;clear hq)
    | (go_at_call 45;refine(id_any ⟨#[97]⟩ 1 _).mono ?_;rintro e w3 ⟨rfl,hg⟩;replace HQ:=Lib.hid (HQ.out.grown hg);clear hg)
    | (go_at_call 36;refine(HQ.out.wanted ⟨#[97]⟩ 1 true F7.out.2.1).mono ?_;rintro e w3 ⟨rfl,hq,-⟩;replace HQ:=Lib.hid hq;clear hq)
    | (go_at_call 32;refine(HQ.out.call 9 1 1 false 0 F7.out.2.2.1).mono ?_;rintro e w3 ⟨rfl,hq,-⟩;replace HQ:=Lib.hid hq;clear hq)
    | (go_at_call 37;refine(HQ.out.holders ⟨#[97]⟩ 1 1 F7.out.2.2.2.1 F7.out.2.2.2.2.1).mono ?_;rintro e w3 ⟨p,c,rfl,hq,-⟩;replace HQ:=Lib.hid hq;clear hq))
   go_wp2_with (first
    | (go_at_call 22;refine(HQ.out.step hwg 4 1 0 2 0 1 ⟨#[97]⟩ 0 L8 F7.out.2.2.2.2.2.1 F7.out.2.2.2.2.2.2).mono ?_;rintro e w3 ⟨rfl,hq,-⟩;replace HQ:=Lib.hid hq;clear hq)
    | (go_at_call 34;refine(HQ.out.look ⟨#[97]⟩ 1 F8.out.1).mono ?_;rintro e w3 ⟨rfl,hq,-⟩;replace HQ:=Lib.hid hq;clear hq)
    | (go_at_call 45;refine(id_any ⟨#[97]⟩ 1 _).mono ?_;rintro e w3 ⟨rfl,hg⟩;replace HQ:=Lib.hid (HQ.out.grown hg);clear hg)
    | (go_at_call 32;refine(HQ.out.call 9 1 1 true 0 F8.out.2.1).mono ?_;rintro e w3 ⟨rfl,hq,-⟩;replace HQ:=Lib.hid hq;clear hq)
    | (go_at_call 37;refine(HQ.out.holders ⟨#[97]⟩ 1 2 F8.out.2.2.1 F8.out.2.2.2.1).mono ?_;rintro e w3 ⟨p,c,rfl,hq,-⟩;replace HQ:=Lib.hid hq;clear hq)
    | (go_at_call 42;refine(HQ.out.current 1 F8.out.2.2.2.2.1 F8.out.2.2.2.2.2.1).mono ?_;rintro e w3 ⟨p,c,rfl,hq,-⟩;replace HQ:=Lib.hid hq;clear hq))
   go_wp2_with (first
    | (go_at_call 22;refine(HQ.out.step hwg 6 0 9 0 2 0 ⟨#[97]⟩ 0 L9 F8.out.2.2.2.2.2.2.1 F8.out.2.2.2.2.2.2.2).mono ?_;rintro e w3 ⟨rfl,hq,-⟩;replace HQ:=Lib.hid hq;clear hq)
    | (go_at_call 34;refine(HQ.out.look ⟨#[97]⟩ 0 F9.out.1).mono ?_;rintro e w3 ⟨rfl,hq,-⟩;replace HQ:=Lib.hid hq;clear hq)
    | (go_at_call 42;refine(HQ.out.current 0 F9.out.2.1 F9.out.2.2.1).mono ?_;rintro e w3 ⟨p,c,rfl,hq,-⟩;replace HQ:=Lib.hid hq;clear hq)
    | (go_at_call 31;refine(HQ.out.next 3 F9.out.2.2.2).mono ?_;rintro e w3 ⟨rfl,hq,-⟩;replace HQ:=Lib.hid hq;clear hq))
   go_ret
   exact⟨rfl,HQ.out.base⟩
open Go.RowKit Go.Sf
theorem BRow.later {B:Nat} {W w:World} {v:Value} {l:List Int} (h:BRow B W v l) (hB:B≤W.heap.size) (hg:W.grownBy w none):BRow w.heap.size w v l:=by
 obtain⟨p,cap,rfl,h1,h2,h3⟩:=(h.turn fun k hk=>hg.block k (Nat.lt_of_lt_of_le hk hB) (by simp)).ex
 refine⟨p,cap,rfl,h1,h2,?_⟩
 rcases h3 with h3|⟨a,rfl,hb,h4⟩
 ·exact Or.inl h3
 ·exact Or.inr ⟨a,rfl,Nat.lt_of_lt_of_le hb (Nat.le_trans hB hg.size),h4⟩
theorem brow_of_row {w:World} {base:Nat} {v:Value} {l:List Int} (h:w.ownsRow base 5 1 v l.length (bytesV l)):BRow w.heap.size w v l:=by
 rcases h.2 with ⟨e1,h0⟩|⟨b,c,cur,e1,_,hb,r1,r2,_⟩
 ·have:l = []:=List.eq_nil_of_length_eq_zero h0
  subst this
  exact⟨none,0,by rw[e1];rfl,by simp,by omega,Or.inl rfl⟩
 ·exact⟨_,_,e1,r1,by unfold maxLen at r2;omega,Or.inr ⟨_,rfl,(Array.getElem?_eq_some_iff.1 hb).1,h.cells (g:=b) (by rw[e1];rfl)⟩⟩
section
variable {W : World}
theorem BRow.cells {B:Nat} {v:Value} {l:List Int} (h:BRow B W v l):∃p cap,v = .slice p l.length cap∧l.length≤cap∧cap≤9223372036854775807∧∀(k:Nat) (hk:k<l.length),∃a,p=some a∧W.cell? (a.add k)=some (.int .u8 l[k]):=by
 obtain⟨p,cap,rfl,h1,h2,h3⟩:=h.ex
 refine⟨p,cap,rfl,h1,h2,fun k hk=>?_⟩
 rcases h3 with rfl|⟨a,rfl,_,h4⟩
 ·simp at hk
 ·exact⟨a,rfl,h4 k _ (by rw[bytesV,List.getElem?_map,List.getElem?_eq_getElem hk];rfl)⟩
set_option maxHeartbeats 2000000 in
set_option maxRecDepth 100000 in
theorem equal_same {va vb:Value} {la lb:List Int} {B B':Nat} (ha:BRow B W va la) (hb:BRow B' W vb lb) (hl:la.length=lb.length):Calls Tryz.prog 100 #[va,vb] W fun e w'=>e = .returned (.bool (decide (la=lb)))∧W.grownBy w' none:=by
 obtain⟨pa,ca,rfl,hac,ham,ha⟩:=ha.cells
 obtain⟨pb,cb,rfl,hbc,hbm,hb⟩:=hb.cells
 have HA:=Lib.hid ha
 have HB:=Lib.hid hb
 have HL:=Lib.hid hl
 have hca:(la.length:Int)≤9223372036854775807:=by omega
 have hbl:(lb.length:Int)=la.length:=by omega
 rw[←hl]
 clear ha hb hbl hl
 go_enter Tryz.func100,Tryz.ntmps100
 go_wp2
 go_loopw [13] (fun x wr=>∃k:Nat,k≤la.length∧x = .int .i64 k∧la.take k=lb.take k∧W.grownBy wr none) (fun x _=>la.length-(intOf x).toNat)
 case atStart=>exact⟨0,Nat.zero_le _,rfl,by simp,grown_refl _⟩
 case round=>
  obtain⟨k,hk,rfl,heq,hg⟩:=hrel
  have HG:=Lib.hid hg
  have HE:=Lib.hid heq
  by_cases hlt:k<la.length
  ·have hlt2:k<lb.length:=by have:=HL.out;omega
   obtain⟨ga,rfl,ea⟩:=HA.out k hlt
   obtain⟨gb,rfl,eb⟩:=HB.out k hlt2
   have fa:wr.cell? (ga.add k)=some (.int .u8 la[k]):=hg.cell ea (by simp)
   have fb:wr.cell? (gb.add k)=some (.int .u8 lb[k]):=hg.cell eb (by simp)
   have HX:Hid (la[k]=lb[k]→la.take (k+1)=lb.take (k+1)):=(show _→_ from fun e=>by rw[List.take_succ_eq_append_getElem hlt,List.take_succ_eq_append_getElem hlt2,heq,e])
   have HY:Hid (la[k]≠lb[k]→decide (la=lb)=false):=(show _→_ from fun e=>by
    apply decide_eq_false
    intro e2
    subst e2
    exact e rfl)
   clear ea eb hg heq
   generalize la[k]=x at *
   generalize lb[k]=y at *
   by_cases hxy:x=y
   ·subst hxy
    go_wp2
    go_quiet (fail)
    go_wp2
    go_roundw
    case rel=>exact⟨k+1,by omega,by go_num,HX.out (by first|rfl|trivial),grown_trans HG.out (grown_drewN _ _)⟩
    case measure=>simp[intOf];omega
   ·go_wp2
    go_quiet (fail)
    go_wp2
    go_ret
    exact⟨by rw[HY.out hxy];rfl,grown_trans HG.out (grown_drewN _ _)⟩
  ·obtain rfl:k=la.length:=by omega
   clear hg heq
   go_wp2
   go_ret
   refine⟨?_,HG.out⟩
   have h1:=HE.out
   rw[List.take_length] at h1
   rw[show la=lb from h1.trans (List.take_of_length_le (by have:=HL.out;omega))]
   simp
set_option maxHeartbeats 2000000 in
set_option maxRecDepth 100000 in
theorem equal_any {va vb:Value} {la lb:List Int} {B B':Nat} (ha:BRow B W va la) (hb:BRow B' W vb lb):Calls Tryz.prog 100 #[va,vb] W fun e w'=>e = .returned (.bool (decide (la=lb)))∧W.grownBy w' none:=by
 by_cases hl:la.length=lb.length
 ·exact equal_same ha hb hl
 ·obtain⟨pa,ca,rfl,hac,ham,-⟩:=ha.cells
  obtain⟨pb,cb,rfl,hbc,hbm,-⟩:=hb.cells
  have HE:Hid (decide (la=lb)=false):=(show _=_ from decide_eq_false (fun e=>hl (by rw[e])))
  have hne:¬((la.length:Int)=(lb.length:Int)):=by omega
  clear ha hb
  go_enter Tryz.func100,Tryz.ntmps100
  go_wp2
  go_ret
  exact⟨by rw[HE.out];rfl,grown_refl _⟩
end
def rdMem (n:Int) (i:ID) (m:List (ID × NSet)) (l:List Int):Option (List (ID × NSet) × List Int):=(rd 2 l).bind fun p=>if (p.1:Int)<n then some (smod m i (fun x=>sput x p.1),p.2) else none
def rdMems (n:Int) (i:ID):Nat→List (ID × NSet)→List Int→Option (List (ID × NSet) × List Int)
 | 0,m,l=>some (m,l)
 | k+1,m,l=>(rdMem n i m l).bind fun p=>rdMems n i k p.1 p.2
def rdSet (n:Int) (m:List (ID × NSet)) (l:List Int):Option (List (ID × NSet) × List Int):=(rdID l).bind fun i=>(rd 2 i.2).bind fun c=>rdMems n i.1 c.1 (mput m i.1 ⟨0,[]⟩) c.2
def rdSets (n:Int):Nat→List (ID × NSet)→List Int→Option (List (ID × NSet) × List Int)
 | 0,m,l=>some (m,l)
 | k+1,m,l=>(rdSet n m l).bind fun p=>rdSets n k p.1 p.2
def rdNodes (n:Int) (l:List Int):Option (List (ID × NSet) × List Int):=(rd 4 l).bind fun c=>rdSets n c.1 [] c.2
theorem mput_nsets (M:List (ID × NSet)) (i:ID) (s:NSet):nsets (mput M i s)=mput (nsets M) i ⟨0,s.mem⟩:=by
 unfold nsets
 induction M with
 | nil=>rfl
 | cons p r ih=>
  simp only[List.map_cons,mput]
  by_cases e:p.1=i
  ·rw[if_pos e,if_pos e];rfl
  ·rw[if_neg e,if_neg e,List.map_cons,ih]
theorem mem_mput {K V:Type} [DecidableEq K] {M:List (K × V)} {i:K} {s:V}:∀{x:K × V},x∈mput M i s→x∈M∨x=(i,s):=by
 induction M with
 | nil=>intro x hx;simp[mput] at hx;exact Or.inr hx
 | cons p r ih=>
  intro x hx
  rw[mput] at hx
  by_cases e:p.1=i
  ·rw[if_pos e] at hx
   rcases List.mem_cons.1 hx with hx|hx
   ·exact Or.inr hx
   ·exact Or.inl (List.mem_cons_of_mem _ hx)
  ·rw[if_neg e] at hx
   rcases List.mem_cons.1 hx with hx|hx
   ·exact Or.inl (hx ▸ List.mem_cons_self)
   ·rcases ih hx with h|h
    ·exact Or.inl (List.mem_cons_of_mem _ h)
    ·exact Or.inr h
theorem nodup_mput {M:List (ID × NSet)} {i:ID} {nb:Nat} {l:List Int}:(M.map (·.2.blk)).Nodup→nb ∉ M.map (·.2.blk)→((mput M i ⟨nb,l⟩).map (·.2.blk)).Nodup:=by
 induction M with
 | nil=>intro _ _;simp[mput]
 | cons p r ih=>
  intro h1 h2
  rw[mput]
  simp only[List.map_cons,List.nodup_cons,List.mem_cons,not_or] at h1 h2
  by_cases e:p.1=i
  ·rw[if_pos e,List.map_cons,List.nodup_cons]
   exact⟨h2.2,h1.2⟩
  ·rw[if_neg e,List.map_cons,List.nodup_cons]
   refine⟨fun hm=>?_,ih h1.2 h2.2⟩
   obtain⟨x,hx,hxe⟩:=List.mem_map.1 hm
   rcases mem_mput hx with h|rfl
   ·exact h1.1 (List.mem_map.2 ⟨x,h,hxe⟩)
   ·exact h2.1 hxe
structure NM (bs:Nat→Prop) (b:Nat) (w:World) (M:List (ID × NSet)):Prop where
 map:MapT w b encID encSet M
 sets:∀x∈M,SetT w x.2
 nd:(b :: M.map (·.2.blk)).Nodup
 bl:∀x∈M,bs x.2.blk
def NS (bs:Nat→Prop) (b:Nat) (w:World) (m:List (ID × NSet)):Prop:=∃M,nsets M=m∧NM bs b w M
section
variable {bs : Nat → Prop} {b : Nat} {w w' : World} {M m : List (ID × NSet)}
theorem NS.start (h:MapT w b encID encSet []):NS bs b w []:=⟨[],rfl,⟨h,(fun x hx=>by cases hx),(by simp),(fun x hx=>by cases hx)⟩⟩
theorem NM.same (h:NM bs b w M) (hs:∀k,k=b∨bs k→k<w.heap.size→w'.heap[k]? = w.heap[k]?):NM bs b w' M:=
 ⟨h.map.same (hs b (Or.inl rfl) h.map.lt),fun x hx=>MapT.same (h.sets x hx) (hs _ (Or.inr (h.bl x hx)) (MapT.lt (h.sets x hx))),h.nd,h.bl⟩
theorem NS.same (h:NS bs b w m) (hs:∀k,k=b∨bs k→k<w.heap.size→w'.heap[k]? = w.heap[k]?):NS bs b w' m:=by
 obtain⟨M,e,hM⟩:=h
 exact⟨M,e,hM.same hs⟩
theorem NS.more {cs:Nat→Prop} (h:NS bs b w m) (hs:∀k,k<w.heap.size→bs k→cs k):NS cs b w m:=by
 obtain⟨M,e,hM⟩:=h
 exact⟨M,e,hM.map,hM.sets,hM.nd,fun x hx=>hs _ (MapT.lt (hM.sets x hx)) (hM.bl x hx)⟩
theorem NM.made (h:NM bs b w M) {i:ID} {nb:Nat} (hb:bs nb) (hn:w.heap.size≤nb) (hm:MapT w' b encID encSet (mput M i ⟨nb,[]⟩)) (hs:SetT w' ⟨nb,[]⟩) (hg:w.grownBy w' (some b)):NM bs b w' (mput M i ⟨nb,[]⟩):=by
 have nd:=h.nd
 rw[List.nodup_cons] at nd
 have hbl:=h.map.lt
 refine⟨hm,fun x hx=>?_,?_,fun x hx=>?_⟩
 ·rcases mem_mput hx with hx|rfl
  ·exact MapT.kept (h.sets x hx) hg (fun e=>nd.1 (by cases e;exact List.mem_map.2 ⟨x,hx,rfl⟩))
  ·exact hs
 ·rw[List.nodup_cons]
  refine⟨fun hm=>?_,nodup_mput nd.2 fun hm=>?_⟩
  ·obtain⟨x,hx,e⟩:=List.mem_map.1 hm
   rcases mem_mput hx with hx|rfl
   ·exact nd.1 (List.mem_map.2 ⟨x,hx,e⟩)
   ·have:nb=b:=e
    omega
  ·obtain⟨x,hx,e⟩:=List.mem_map.1 hm
   have h1:=MapT.lt (h.sets x hx)
   have:x.2.blk=nb:=e
   omega
 ·rcases mem_mput hx with hx|rfl
  ·exact h.bl x hx
  ·exact hb
theorem NM.put (h:NM bs b w M) {i:ID} {s:NSet} (hs:mget M i=some s) (f:List Int→List Int) (hm:SetT w' ⟨s.blk,f s.mem⟩) (hg:w.grownBy w' (some s.blk)):NM bs b w' (smod M i f):=by
 have nd:=h.nd
 rw[List.nodup_cons] at nd
 have hmem:=mget_mem hs
 refine⟨mapT_smod (h.map.kept hg (fun e=>nd.1 (by cases e;exact List.mem_map.2 ⟨_,hmem,rfl⟩))) i f,fun x hx=>?_,?_,fun x hx=>?_⟩
 ·obtain⟨y,hy,rfl⟩:=List.mem_map.1 hx
  by_cases e:y.1=i
  ·simp only[e,if_true]
   have h1:=mget_of_mem h.map.nodup (k:=i) (v:=y.2) (by rw[←e];exact hy)
   rw[hs] at h1
   cases h1
   exact hm
  ·simp only[e,if_false]
   refine MapT.kept (h.sets y hy) hg fun e2=>e ?_
   have h2:=blk_inj nd.2 hy hmem (by simpa using e2)
   rw[h2]
 ·rw[smod_blks];exact h.nd
 ·obtain⟨y,hy,rfl⟩:=List.mem_map.1 hx
  have h1:=h.bl y hy
  by_cases e:y.1=i
  ·simp only[e,if_true];exact h1
  ·simp only[e,if_false];exact h1
theorem some_smod {m:List (ID × NSet)} {i:ID} (f:List Int→List Int) (h:(mget m i).isSome=true):(mget (smod m i f) i).isSome=true:=by
 cases hq:mget (smod m i f) i with
 | some _=>rfl
 | none=>
  exfalso
  have h1:=mget_none_iff.1 hq
  cases h2:mget m i with
  | none=>rw[h2] at h;cases h
  | some s=>
   have h3:=mget_mem h2
   have h4:i∈(smod m i f).map (·.1):=by rw[smod_keys];exact List.mem_map.2 ⟨_,h3,rfl⟩
   obtain⟨x,hx,e⟩:=List.mem_map.1 h4
   exact h1 x hx e
theorem some_mput {m:List (ID × NSet)} {i:ID} {s:NSet}:(mget (mput m i s) i).isSome=true:=by rw[mget_mput_same];rfl
end
end Go.Proofs.YtjfelfjobeeenaaGreat
