/- The document's Tasks: walked. Conditions: needs that lie in memory. A range over a function whose iterator writes rows of its own between the rounds: the caller's invariant is a family, of which the iterator picks one. Conditions: as the theorem says. slices.Contains at numbers: walked. Which tasks come next, in plain Lean. Conditions: the row lies in memory. -/
import Derived.Test.YtjfelfjobeeenaaGreatF20
import Derived.RangeFuncNested
import Derived.RangeFuncLeaves
set_option linter.unusedSimpArgs false
set_option linter.unusedVariables false
namespace Go.Proofs.YtjfelfjobeeenaaGreat
open Go.RowKit Go.Sf Go.Shelf
structure PartsT (W:World) (v:Value) (out:List Tsk) (k c:Nat):Prop where
 low:∀s,s≤k→∀W',W.grownBy W' none→∀p,v = .slice p k c→YRow W' tskCells (.slice p s c) (out.take s)
theorem partsT_of {W:World} {v:Value} {out:List Tsk} {k c:Nat} {E:TypeId} (h:SRow W E 4 tskCells v out) (hk:out.length=k):PartsT W v out k c:=by
 subst hk
 refine⟨fun s hs W' hg p hv=>?_⟩
 have h':=h.grown hg (by simp)
 rcases h.2 with ⟨e,h0⟩|⟨g,c2,cur,e,_⟩
 ·rw[hv] at e
  injection e with e1 e2 e3
  subst e1
  have:out = []:=List.eq_nil_of_length_eq_zero h0
  subst this
  have:s=0:=by simpa using hs
  subst this
  exact⟨none,c,rfl,Or.inl rfl⟩
 ·rw[e] at h' hv
  injection hv with e1 e2 e3
  subst e1 e3
  exact yrow_take tsk_len h' s hs _
theorem raw_len {l:List Nd} {k j:Nat} {nd:Nd} (h:l[k]? = some nd) (hj:j≤nd.mis.length):(rawT (l.take k)++(ndT nd).take j).length≤(rawT l).length:=by
 have e1:(rawT l).length=(rawT (l.take (k+1))).length+(rawT (l.drop (k+1))).length:=by
  rw[←List.length_append];unfold rawT;rw[←List.flatMap_append,List.take_append_drop]
 rw[rawT_take h,List.length_append] at e1
 rw[List.length_append,List.length_take]
 omega
set_option maxHeartbeats 8000000 in
set_option maxRecDepth 100000 in
theorem rtasks_any {W:World} {v:Value} {l:List Nd} (h:NRow W v l) (hl:(rawT l).length≤1000000) (hn:l.length≤1000000):Calls Tryz.prog 73 #[v] W fun e w'=>∃v',e = .returned v'∧Grows W 61 4 tskCells v' (sortT (rawT l)) w':=by
 obtain⟨i0,hi,hz0,hz1,hz2⟩:=info_parts infoRT
 obtain⟨p,cap,rfl,hrow⟩:=h
 have HROW:=Lib.hid hrow
 have HLE:Hid (∀k nd j,l[k]? = some nd→j≤nd.mis.length→(rawT (l.take k)++(ndT nd).take j).length≤1000000):=(show ∀k nd j,_→_→_≤_ from fun k nd j h1 h2=>Nat.le_trans (raw_len h1 h2) hl)
 have HSE:Hid (outT (rawT l)=sortT (rawT l)):=(show _=_ from outT_eq _)
 have H0:Hid (Grows W 61 4 tskCells (.slice none 0 0) (outT (rawT (l.take 0))) W):=(show Grows _ _ _ _ _ _ _ from Grows.start _ _ _ _)
 clear hrow hl
 generalize hm:l.length=n at *
 have HM:=Lib.hid hm
 clear hm
 go_enter Tryz.func73,Tryz.ntmps73
 go_wp2
 go_loopw [3,4] (fun x i wr=>∃k:Nat,k≤n∧i = .int .i64 k∧Hid (Grows W 61 4 tskCells x (outT (rawT (l.take k))) wr)) (fun _ i _=>n-(intOf i).toNat)
 case atStart=>exact⟨0,Nat.zero_le _,rfl,H0⟩
 case round=>
  clear H0
  obtain⟨k,hk,rfl,hT⟩:=hrel
  rcases Nat.lt_or_ge k n with hlt|hge
  ·obtain⟨nd,hnd⟩:∃nd,l[k]? = some nd:=⟨_,List.getElem?_eq_getElem (by rw[HM.out];exact hlt)⟩
   rcases HROW.out with h0|⟨g,rfl,hc⟩
   ·subst h0;simp at hnd
   ·obtain⟨ph,pm,ch,cm,hna⟩:=hc k nd hnd
    have HNA:=Lib.hid hna
    have HX:Hid (rawT (l.take (k+1))=rawT (l.take k)++ndT nd):=(show _=_ from rawT_take hnd)
    have HLN:Hid (∀j,j≤nd.mis.length→(rawT (l.take k)++(ndT nd).take j).length≤1000000):=(show ∀_,_→_≤_ from fun j hj=>HLE.out k nd j hnd hj)
    have HML:Hid (nd.mis.length≤1000000):=(show _≤_ from by
     have:=HLE.out k nd nd.mis.length hnd (Nat.le_refl _)
     rw[List.length_append,List.length_take] at this
     simp[ndT] at this
     omega)
    have H1:Hid (Grows W 61 4 tskCells u3 (outT (rawT (l.take k)++(ndT nd).take 0)) wr):=(show Grows _ _ _ _ _ _ _ from by simpa using hT.out)
    clear hc hnd hna hT
    generalize rawT (l.take k)=pre at *
    obtain⟨⟨key,ver⟩,held,mis⟩:=nd
    obtain⟨q,hq⟩:∃q,q=mis.length:=⟨_,rfl⟩
    have hq1:q≤1000000:=by have:=HML.out;simp only at this;omega
    have HQ:=Lib.hid hq
    clear hq
    go_wp2
    go_loopw [3,5] (fun x i wr=>∃j:Nat,j≤q∧i = .int .i64 j∧Hid (Grows W 61 4 tskCells x (outT (pre++(ndT ⟨⟨key,ver⟩,held,mis⟩).take j)) wr)) (fun _ i _=>q-(intOf i).toNat)
    case atStart=>exact⟨0,Nat.zero_le _,rfl,H1⟩
    case round=>
     clear H1
     obtain⟨j,hj,rfl,hT⟩:=hrel
     obtain⟨c0,c1,c2,c3,-⟩:=HNA.out.grown hT.out.grown
     simp only at c0 c1 c2 c3
     rw[←HQ.out] at c3
     rcases Nat.lt_or_ge j q with hlj|hgj
     ·obtain⟨x,hx⟩:∃x,mis[j]? = some x:=⟨_,List.getElem?_eq_getElem (by rw[←HQ.out];exact hlj)⟩
      have HO2:Hid (outT (pre++(ndT ⟨⟨key,ver⟩,held,mis⟩).take (j+1))=insT (outT (pre++(ndT ⟨⟨key,ver⟩,held,mis⟩).take j)) ⟨⟨key,ver⟩,x,held⟩):=(show _=_ from by rw[ndT_take (nd:=⟨⟨key,ver⟩,held,mis⟩) hx,←List.append_assoc,outT_snoc])
      have HLX:=Lib.hid (HLN.out j (by show j≤mis.length;have:=HQ.out;omega))
      rcases HNA.out.m with h0|⟨gm,rfl,hm⟩
      ·simp only at h0;subst h0;simp at hx
      ·have cx:=hT.out.grown.cell (hm j x hx) (by simp)
       have HHE:Hid ((held:Int)≤0∨0≤(held:Int)):=(show _∨_ from by omega)
       clear hx hm
       have hgw:=cell_lt c0
       have hgm:=cell_lt cx
       simp only at hgw hgm
       go_upto_region 8 with fail
       go_region_held3 (fun w'=>w'.cell? ⟨g,k*4,none⟩=some (.string key)∧w'.cell? ⟨g,k*4+1,none⟩=some (.int .i64 ver)∧w'.cell? ⟨g,k*4+2,none⟩=some (.slice ph held ch)∧w'.cell? ⟨g,k*4+3,none⟩=some (.slice (some ⟨gm,0,none⟩) q cm)∧w'.cell? ⟨gm,j,none⟩=some (.int .i64 x)) (first|with_reducible exact⟨c0,c1,c2,c3,cx⟩|go_keep) (fail)
       have hba:=World.alloc_heap_new wr (.cells #[.string key,.int .i64 ver,.int .i64 x,.int .i64 held] 61)
       have hga:wr.grownBy (wr.alloc (.cells #[.string key,.int .i64 ver,.int .i64 x,.int .i64 held] 61)).drew none:=grown_trans (World.grownBy_alloc wr _ none) (grown_drewN _ 1)
       have hb3:(wr.alloc (.cells #[.string key,.int .i64 ver,.int .i64 x,.int .i64 held] 61)).drew.heap[wr.heap.size]? = some (.cells #[.string key,.int .i64 ver,.int .i64 x,.int .i64 held] 61 (0,0)):=hba
       have HGR:=Lib.hid (hT.out.more hga)
       have HB3:=Lib.hid hb3
       clear hba hga hb3 hT c0 c1 c2 c3 cx hgw hgm
       generalize (wr.alloc (.cells #[.string key,.int .i64 ver,.int .i64 x,.int .i64 held] 61)).drew=W3 at *
       generalize wr.heap.size=bt at *
       have hol:(outT (pre++(ndT ⟨⟨key,ver⟩,held,mis⟩).take j)).length≤1000000:=by rw[outT_len];exact HLX.out
       generalize outT (pre++(ndT ⟨⟨key,ver⟩,held,mis⟩).take j)=out at *
       obtain⟨po,co,rfl,hco,hlo⟩:=HGR.out.row.form
       have HPT:=Lib.hid (partsT_of (k:=out.length) (c:=co) HGR.out.row rfl)
       go_upto_block 4 with fail
       obtain⟨z,hz⟩:∃z:Tsk,z=⟨⟨key,ver⟩,x,held⟩:=⟨_,rfl⟩
       have HO3:Hid (outT (pre++(ndT ⟨⟨key,ver⟩,held,mis⟩).take (j+1))=insT out z):=(show _=_ from by rw[hz];exact HO2.out)
       have HZC:Hid (tskCells z = [.string key,.int .i64 ver,.int .i64 x,.int .i64 held]):=(show _=_ from by rw[hz];rfl)
       have HAH:Hid (∀(y:Tsk) (W':World),Calls Tryz.prog 136 #[.agg #[.string key,.int .i64 ver,.int .i64 x,.int .i64 held],.agg #[.string y.id.key,.int .i64 y.id.ver,.int .i64 y.nd,.int .i64 y.held]] W' fun e w'=>e = .returned (.bool (ltT z y))∧W'.grownBy w' none):=(show ∀_ _,_ from fun y W'=>by rw[hz];exact ahead_any ⟨⟨key,ver⟩,x,held⟩ y W')
       have HPL:=Lib.hid (show k<n∧j<q from ⟨hlt,hlj⟩)
       clear hz HO2 HHE
       generalize (held:Int)=hl2 at *
       go_cut [7] (fun s wx=>∃i:Nat,i≤out.length∧s = .int .i64 i∧slotT z out out.length=i∧W3.grownBy wx none)
       case first=>
        clear hlo hco
        go_wp2_with fail
        go_loopw [7] (fun s wx=>∃i:Nat,i≤out.length∧s = .int .i64 i∧slotT z out out.length=slotT z out i∧W3.grownBy wx none) (fun s _=>(intOf s).toNat)
        case atStart=>exact⟨out.length,Nat.le_refl _,rfl,rfl,grown_refl _⟩
        case round=>
         obtain⟨i,hi2,rfl,hs,hgx⟩:=hrel
         have HSL:=Lib.hid hs
         have HGX:=Lib.hid hgx
         clear hs
         cases i with
         | zero=>
          clear hgx
          go_wp2
          go_quiet (fail)
          go_wp2
          go_meet
          exact⟨0,Nat.zero_le _,rfl,by rw[HSL.out];rfl,grown_trans HGX.out (grown_drewN _ _)⟩
         | succ i=>
          have hjl:i<out.length:=by omega
          obtain⟨gb,cb,e,hc,-⟩:=(HGR.out.row.at tsk_len).resolve_left (fun e=>by rw[e] at hjl;simp at hjl)
          injection e with e1 e2 e3
          subst e1
          have b0:wr.cell? ⟨gb,i*4,none⟩=some (.string out[i].id.key):=hgx.cell (hc i hjl 0 _ rfl) (by simp)
          have b1:wr.cell? ⟨gb,i*4+1,none⟩=some (.int .i64 out[i].id.ver):=hgx.cell (hc i hjl 1 _ rfl) (by simp)
          have b2:wr.cell? ⟨gb,i*4+2,none⟩=some (.int .i64 out[i].nd):=hgx.cell (hc i hjl 2 _ rfl) (by simp)
          have b3:wr.cell? ⟨gb,i*4+3,none⟩=some (.int .i64 out[i].held):=hgx.cell (hc i hjl 3 _ rfl) (by simp)
          have hb:=(hgx.block bt (Array.getElem?_eq_some_iff.1 HB3.out).1 (by simp)).trans HB3.out
          have c0:wr.cell? ⟨bt,0,none⟩=some (.string key):=(cell_block hb 0).trans rfl
          have c1:wr.cell? ⟨bt,1,none⟩=some (.int .i64 ver):=(cell_block hb 1).trans rfl
          have c2:wr.cell? ⟨bt,2,none⟩=some (.int .i64 x):=(cell_block hb 2).trans rfl
          have c3:wr.cell? ⟨bt,3,none⟩=some (.int .i64 hl2):=(cell_block hb 3).trans rfl
          have l0:=cell_lt b0
          have l1:=cell_lt c0
          simp only at l0 l1
          have HLS:=Lib.hid (HAH.out out[i])
          have HJ:=Lib.hid (And.intro (slotT_step z out i hjl) (slotT_stop z out i hjl))
          clear hc e2 e3 hgx hb
          generalize hlz:ltT z out[i]=b at *
          clear hlz
          generalize out[i].id.key=yk at *
          generalize out[i].id.ver=yv at *
          generalize out[i].nd=yn at *
          generalize out[i].held=yh at *
          have hij:((i+1:Nat):Int)-1=i:=by omega
          go_wp2
          refine wp_region_quiet_ext (by kernel_rfl) (by kernel_rfl) ?_
          repeat (any_goals (first|go_big_quiet_step ((go_at_call 136;exact calls_ext (HLS.out _)))|quiet_step ((go_at_call 136;exact calls_ext (HLS.out _)))))
          refine wpQuiet_nil ?_
          intro _ hw'
          obtain⟨xx,hw''⟩:=hw'
          subst hw''
          cases b
          ·go_wp2
           go_meet
           exact⟨i+1,by omega,rfl,by rw[HSL.out];exact HJ.out.2 trivial,grown_ext' HGX.out _⟩
          ·go_wp2
           go_roundw
           case rel=>exact⟨i,by omega,by go_num,by rw[HSL.out];exact HJ.out.1 rfl,grown_ext' HGX.out _⟩
           case measure=>simp[intOf]
       case rest=>
        obtain⟨s,hs,rfl,hsl,hgx⟩:=hcut
        have HIN:Hid (insT out z=out.take s ++ [z]++out.drop s):=(show _=_ from insT_at hsl)
        have HT:Hid (YRow wc tskCells (.slice po s co) (out.take s)):=(show YRow _ _ _ _ from HPT.out.low s hs wc hgx po rfl)
        have HO:=Lib.hid (HGR.out.row.grown hgx (by simp))
        have HGC:=Lib.hid (grown_trans HGR.out.grown hgx)
        have HLB:Hid (out.length≤1000000):=(show _≤_ from hol)
        have HHS:Hid (s≤out.length):=(show _≤_ from hs)
        have HOC:Hid (out.length≤co):=(show _≤_ from hlo)
        have HBC:Hid (wc.heap[bt]? = some (.cells #[.string key,.int .i64 ver,.int .i64 x,.int .i64 hl2] 61 (0,0))):=(show _=_ from (hgx.block bt (Array.getElem?_eq_some_iff.1 HB3.out).1 (by simp)).trans HB3.out)
        have HD:Hid (po=none∧out = []∧co=0∨(∃gb,po=some ⟨gb,0,none⟩)∧co=s∨(∃gb,po=some ⟨gb,0,none⟩)∧s<co):=(show _∨_∨_ from by
         rcases HGR.out.row.2 with ⟨e,h0⟩|⟨gb,cb,cur,e,_,_,r1,_,_⟩
         ·injection e with e1 e2 e3
          exact Or.inl ⟨e1,List.eq_nil_of_length_eq_zero h0,e3⟩
         ·injection e with e1 e2 e3
          rcases Nat.lt_or_ge s co with h|h
          ·exact Or.inr (Or.inr ⟨⟨gb,e1⟩,h⟩)
          ·exact Or.inr (Or.inl ⟨⟨gb,e1⟩,by omega⟩))
        clear HPT hgx HGR HAH
        go_upto_region 14 with (at_builtin;refine wpList_sapp (l:=[]) (m:=out.take s) _ rfl (.tmp 60) (.tmp 63) 135 rfl tsk_len oneT i0 _ 40 Tryz.underlying135 hi hz0 hz1 hz2 rfl (by decide) (by decide) rfl ?a1 rfl ?a2 ?a3 s ?a4 ?_)
        case a1=>exact World.ownsRow_nil _ _ _ _
        case a2=>exact HT.out
        case a3=>have:=HHS.out;have:=HLB.out;simp;omega
        case a4=>have:=HHS.out;simp;omega
        intro p1 cap1 w1 ha1
        have HG1:=Lib.hid (Grows.app (Grows.start wc 61 4 tskCells) ha1)
        have HB1:Hid (w1.heap[bt]? = some (.cells #[.string key,.int .i64 ver,.int .i64 x,.int .i64 hl2] 61 (0,0))):=(show _=_ from (HG1.out.grown.block bt (Array.getElem?_eq_some_iff.1 HBC.out).1 (by simp)).trans HBC.out)
        have c0:w1.cell? ⟨bt,0,none⟩=some (.string key):=(cell_block HB1.out 0).trans rfl
        have c1:w1.cell? ⟨bt,1,none⟩=some (.int .i64 ver):=(cell_block HB1.out 1).trans rfl
        have c2:w1.cell? ⟨bt,2,none⟩=some (.int .i64 x):=(cell_block HB1.out 2).trans rfl
        have c3:w1.cell? ⟨bt,3,none⟩=some (.int .i64 hl2):=(cell_block HB1.out 3).trans rfl
        clear ha1
        go_upto_region 15 with (at_builtin;refine wpList_sapp (l:=out.take s) (m:=[z]) _ rfl (.tmp 65) (.tmp 67) 135 rfl tsk_len oneT i0 _ 40 Tryz.underlying135 hi hz0 hz1 hz2 rfl (by decide) (by decide) rfl ?b1 rfl ?b2 ?b3 (s+1) ?b4 ?_)
        case b1=>exact(HG1.out.more (grown_alloc (grown_refl _) _)).row
        case b2=>exact yrow_at z (by rw[HZC.out];exact heap_alloc_new _ _)
        case b3=>have:=HHS.out;have:=HLB.out;simp;omega
        case b4=>have:=HHS.out;simp;omega
        intro p2 cap2 w2 ha2
        have HG2:=Lib.hid (Grows.app (HG1.out.more (grown_alloc (grown_refl _) _)) ha2)
        have HO2:=Lib.hid (HO.out.grown HG2.out.grown (by simp))
        clear ha2 c0 c1 c2 c3
        rcases HD.out with ⟨rfl,hout,rfl⟩|⟨⟨gb,rfl⟩,rfl⟩|⟨⟨gb,rfl⟩,hsc⟩
        ·have hzl:out.length=0:=by rw[hout];rfl
         obtain rfl:s=0:=by omega
         have HOU:=Lib.hid hout
         clear hout hlo hco
         simp only[hzl] at *
         go_wp2_with (at_builtin;refine wpList_sapp (l:=out.take 0 ++ [z]) (m:=out.drop 0) _ rfl (.tmp 69) (.tmp 72) 135 rfl tsk_len oneT i0 _ 40 Tryz.underlying135 hi hz0 hz1 hz2 rfl (by decide) (by decide) rfl ?e1 rfl ?e2 ?e3 1 ?e4 ?_)
         case e1=>exact HG2.out.row
         case e2=>exact yrow_none _ 0 (by rw[HOU.out];rfl) _ rfl _ _
         case e3=>simp only[HOU.out];simp
         case e4=>simp only[HOU.out];simp
         intro p3 cap3 w3 ha3
         have HG3:=Lib.hid (Grows.app HG2.out ha3)
         have H9:Hid (Grows W 61 4 tskCells (.slice p3 1 cap3) (outT (pre++(ndT ⟨⟨key,ver⟩,held,mis⟩).take (j+1))) w3):=(show Grows _ _ _ _ _ _ _ from by rw[HO3.out,HIN.out];simpa using HG3.out.up HGC.out)
         clear ha3
         have hjq:=HPL.out.2
         go_wp2
         go_roundw
         case rel=>exact⟨j+1,by omega,by go_num,H9⟩
         case measure=>simp[intOf];omega
        ·skip
         go_wp2_with (at_builtin;refine wpList_sapp (l:=out.take co ++ [z]) (m:=out.drop co) _ rfl (.tmp 69) (.tmp 72) 135 rfl tsk_len oneT i0 _ 40 Tryz.underlying135 hi hz0 hz1 hz2 rfl (by decide) (by decide) rfl ?f1 rfl ?f2 ?f3 (out.length+1) ?f4 ?_)
         case f1=>exact HG2.out.row
         case f2=>exact yrow_none out _ (List.drop_eq_nil_of_le (by omega)) _ (by omega) _ _
         case f3=>have:=HHS.out;have:=HLB.out;first|omega|(simp;omega)
         case f4=>have:=HHS.out;first|omega|(simp;omega)
         intro p3 cap3 w3 ha3
         have HG3:=Lib.hid (Grows.app HG2.out ha3)
         have H9:Hid (Grows W 61 4 tskCells (.slice p3 (out.length+1) cap3) (outT (pre++(ndT ⟨⟨key,ver⟩,held,mis⟩).take (j+1))) w3):=(show Grows _ _ _ _ _ _ _ from by rw[HO3.out,HIN.out];simpa using HG3.out.up HGC.out)
         clear ha3
         have hjq:=HPL.out.2
         go_wp2
         go_roundw
         case rel=>exact⟨j+1,by omega,by go_num,H9⟩
         case measure=>simp[intOf];omega
        ·skip
         go_wp2_with (at_builtin;refine wpList_sapp (l:=out.take s ++ [z]) (m:=out.drop s) _ rfl (.tmp 69) (.tmp 72) 135 rfl tsk_len oneT i0 _ 40 Tryz.underlying135 hi hz0 hz1 hz2 rfl (by decide) (by decide) rfl ?g1 rfl ?g2 ?g3 (out.length+1) ?g4 ?_)
         case g1=>exact HG2.out.row
         case g2=>exact yrow_drop tsk_len HO2.out s hs _ (by omega) _ (by omega) _
         case g3=>have:=HHS.out;have:=HLB.out;first|omega|(simp;omega)
         case g4=>have:=HHS.out;first|omega|(simp;omega)
         intro p3 cap3 w3 ha3
         have HG3:=Lib.hid (Grows.app HG2.out ha3)
         have H9:Hid (Grows W 61 4 tskCells (.slice p3 (out.length+1) cap3) (outT (pre++(ndT ⟨⟨key,ver⟩,held,mis⟩).take (j+1))) w3):=(show Grows _ _ _ _ _ _ _ from by rw[HO3.out,HIN.out];simpa using HG3.out.up HGC.out)
         clear ha3
         have hjq:=HPL.out.2
         go_wp2
         go_roundw
         case rel=>exact⟨j+1,by omega,by go_num,H9⟩
         case measure=>simp[intOf];omega
     ·obtain rfl:j=q:=by omega
      have HE:Hid (Grows W 61 4 tskCells u3 (outT (rawT (l.take (k+1)))) wr):=(show Grows _ _ _ _ _ _ _ from by
       have:=hT.out
       rw[List.take_of_length_le (l:=ndT ⟨⟨key,ver⟩,held,mis⟩) (by rw[HQ.out];simp[ndT])] at this
       rw[HX.out];exact this)
      clear hT
      go_wp2
      go_roundw
      case rel=>exact⟨k+1,by omega,by go_num,HE⟩
      case measure=>simp[intOf];omega
  ·obtain rfl:k=n:=by omega
   have HE:Hid (Grows W 61 4 tskCells u3 (sortT (rawT l)) wr):=(show Grows _ _ _ _ _ _ _ from by
    have:=hT.out
    rw[List.take_of_length_le (by rw[HM.out];exact Nat.le_refl _)] at this
    rw[←HSE.out];exact this)
   clear hT
   go_wp2
   go_ret
   exact⟨_,rfl,HE.out⟩
end Go.Proofs.YtjfelfjobeeenaaGreat
namespace Go.Sf
open Go.RowKit Go
variable {F : Fence} {n : Nat} {P : Program}
def RowTurns {β:Type} (B:Nat) (T:TypeId) (J:β→World→Prop):Prop:=∀s X Y row,J s X→X.grownBy Y row→(∀r,row=some r→B≤r∧∃c,X.heap[r]? = some (.cells c T (0,0)))→J s Y
theorem keeps_row {X Y:World} {row:Option Nat} {B:Nat} {T:TypeId} (hg:X.grownBy Y row) (hr:∀r,row=some r→B≤r∧∃c,X.heap[r]? = some (.cells c T (0,0))) {k:Nat} {o:Obj} (hk:X.heap[k]? = some o) (ho:o.isCells=false):Y.heap[k]? = some o:=by
 refine(hg.block k (Array.getElem?_eq_some_iff.1 hk).1 (fun e=>?_)).trans hk
 obtain⟨_,c,hc⟩:=hr k e.symm
 rw[hk] at hc
 cases hc
 cases ho
def FamCall {α:Type} (F:Fence) (n:Nat) (P:Program) (gf:Nat) (lb:Array Value) (encs:α→Array Value) (T:TypeId) (N:Nat) (Kp:Nat→World→World→Prop) (S Sp:List α→Prop) (w:World):Prop:=
 ∀(l:Nat) (J:Nat→List α→World→Prop) (Jx:List α→World→Prop) (W:World),Below w.heap.size w W→(∀b,RowTurns W.heap.size T (J b))→
  (∀b pre x W1,b≤W1.heap.size→J b pre W1→pre.length<N→YieldAt F (n-1) P l (encs x) W1 fun e W'=>(e = .returned (.bool true)∧J b (pre ++ [x]) W'∧Kp b W1 W')∨(e = .returned (.bool false)∧Jx (pre ++ [x]) W'))→
  (∀b,J b [] W)→
  CallsIn F n P gf (#[.func (.yield l) #[] #[]]++lb) W fun e W'=>(∃v,e = .returned v)∧((∃b xs,S xs∧J b xs W')∨(∃pre,Sp pre∧Jx pre W'))
theorem rangeFunc_fam {α:Type} {g:Operand} {ps:Array Tmp} {assign body:Code} {Q:Exit→Act→World→Prop} {a:Act} {w:World}
  (hro:F.round=none) (h1:1≤n) {gf:Nat} {lb:Array Value} (hg:a.eval g = .func (.func gf) #[] lb) (hFg:F.fn gf) (eg:∀args w,(callFunc gf args).run P w = .ok (.enter gf args) w)
  {encs:α→Array Value} (hps:∀x,(encs x).size=ps.size) {T:TypeId} {N:Nat} {Kp:Nat→World→World→Prop} {S Sp:List α→Prop}
  (hcall:FamCall F (n-1) P gf lb encs T N Kp S Sp w)
  (I:Nat→List α→World→Prop) (Ix:Code→List α→World→Prop) (hI:∀b,OwnFrom w.heap.size (I b)) (hIx:∀c,OwnFrom w.heap.size (Ix c)) (hIT:∀b,RowTurns w.heap.size T (I b))
  (hKt:∀b {A B C:World},Kp b A B→Kp b B C→Kp b A C) (hKb:∀b (W:World) (l:Nat) (o o':Obj),W.heap[l]? = some o→o.isCells=false→Kp b W (W.putObj l o'))
  (h0:∀b,I b [] w) (Ax:α→Act→World→Prop) (hAx:∀x a',OwnFrom w.heap.size (fun (_:Unit) W=>Ax x a' W))
  (hassign:∀(l b:Nat) (pre:List α) (x:α) (W:World) (K:Act→World→Prop),I b pre W→(∀a' W',KeepsFrom w.heap.size W W'→Kp b W W'→I b pre W'→Ax x a' W'→K a' W')→
   assign.wpIn (F.inRound l) (n-1-1) P (Exit.then K (fun _ _ _=>False)) { tmps:=(ps.zip (encs x)).foldl (fun t (p,v)=>t.setIfInBounds p v) a.tmps,defers:=[] } W)
  (hbody:∀(l b:Nat) (pre:List α) (x:α) (a':Act) (W:World),w.heap.size≤l→b≤W.heap.size→I b pre W→Ax x a' W→pre.length<N→body.wpIn (F.inRound l) (n-1-1) P (ownPostG w.heap.size (Kp b) (I b) Ix (pre ++ [x]) W) a' W)
  (hdone:∀(D b:Nat) (xs:List α) (W:World),w.heap.size≤D→S xs→I b xs W→W.heap[D]? = some (.deferred (some []))→Q .normal { a with defers:={ target:=.collected D,args:=#[] } :: a.defers } W)
  (hstop:∀(D:Nat) (c:Code) (pre:List α) (W:World),w.heap.size≤D→Sp pre→Ix c pre W→W.heap[D]? = some (.deferred (some []))→c.wpIn F n P Q { a with defers:={ target:=.collected D,args:=#[] } :: a.defers } W) :
  (Code.rangeFunc g ps assign body).wpIn F n P Q a w:=by
 refine wpIn_rangeFunc ?_
 intro fn hfn
 rw[hro]
 obtain⟨rec,hrec⟩:∃rec:LoopState→Option Code→Loop,rec=fun st pe=>{ state:=st,pending:=pe,fn,tmps:=a.tmps,params:=ps,assign,body,defers:=w.heap.size }:=⟨_,rfl⟩
 obtain⟨W1,hW1⟩:∃W1,(w.alloc (.deferred (some []))).alloc (.loop (rec .ready none))=W1:=⟨_,rfl⟩
 have hs1:W1.heap.size=w.heap.size+2:=by rw[←hW1];simp
 have hL1:W1.heap[w.heap.size+1]? = some (.loop (rec .ready none)):=by
  have:=World.alloc_heap_new (w.alloc (.deferred (some []))) (.loop (rec .ready none))
  rw[←hW1];rwa [World.size_alloc] at this
 have hK1:W1.heap[w.heap.size]? = some (.deferred (some [])):=by
  rw[←hW1];exact(Below.heap_alloc _ _ _ (by simp)).trans (World.alloc_heap_new w _)
 have hI1:∀b,I b [] W1:=fun b=>by rw[←hW1];exact(hI b).alloc _ ((hI b).alloc _ (h0 b))
 have hb1:Below w.heap.size w W1:=by rw[←hW1];exact((Below.refl _ w).alloc (Nat.le_refl _) _).alloc (by simp) _
 refine⟨w.heap.size+1,[{ target:=.collected w.heap.size,args:=#[] }],W1,{ target:=.fn (.func gf) lb,args:=#[.func (.yield (w.heap.size+1)) #[] #[]] },W1,gf,
  #[.func (.yield (w.heap.size+1)) #[] #[]]++lb,W1,?_,?_,?_,?_,fun _=>h1,?_⟩
 ·rw[←hW1,hrec];exact run_enterLoop_outer _ _ _ _ _
 ·simp only[resolve,hg]
  simp[go_sem]
 ·intro f' hf';simp[Target.leads] at hf';subst hf';exact hFg
 ·simp[invoke,go_sem,eg]
 ·refine(hcall (w.heap.size+1)
   (fun b pre W=>I b pre W∧W.heap[w.heap.size+1]? = some (.loop (rec .ready none))∧W.heap[w.heap.size]? = some (.deferred (some [])))
   (fun pre W=>∃c,Ix c pre W∧W.heap[w.heap.size+1]? = some (.loop (rec .done (some c)))∧W.heap[w.heap.size]? = some (.deferred (some [])))
   W1 hb1
   (fun b s A B row hs hg' hr=>⟨hIT b s A B row hs.1 hg' (fun r e=>⟨by have:=(hr r e).1;omega,(hr r e).2⟩),keeps_row hg' hr hs.2.1 rfl,keeps_row hg' hr hs.2.2 rfl⟩)
   ?_ (fun b=>⟨hI1 b,hL1,hK1⟩)).mono ?_
  ·rintro b pre x Wa hbs ⟨hi,hl,hk⟩ hlen
   have hy:=run_yield (P:=P) (args:=encs x) hl (by rw[hrec];exact hps x)
   rw[hrec] at hy
   refine⟨fn,_,assign,body,hy,roundIn_of_wpIn hfn (hassign _ b pre x Wa _ hi ?_)⟩
   clear hy
   intro a' W hkf hkp hia hax
   replace hl:=hkf.same _ _ (by omega) hl rfl
   replace hk:=hkf.same _ _ (Nat.le_refl _) hk rfl
   have hlt:w.heap.size+1<W.heap.size:=(Array.getElem?_eq_some_iff.1 hl).1
   have hl2:(W.putObj (w.heap.size+1) (.loop { rec .ready none with state:=.busy })).heap[w.heap.size+1]? = some (.loop { rec .ready none with state:=.busy }):=World.putObj_heap_same hlt
   have hk2:(W.putObj (w.heap.size+1) (.loop { rec .ready none with state:=.busy })).heap[w.heap.size]? = some (.deferred (some [])):=(World.putObj_heap_other (by omega)).trans hk
   have hw2:Kp b W (W.putObj (w.heap.size+1) (.loop { rec .ready none with state:=.busy })):=hKb b _ _ _ _ hl rfl
   refine⟨_,run_beginRound hl (by rw[hrec]),?_⟩
   refine wpIn_mono (hbody _ b pre x a' _ (by omega) (by rw[World.putObj_size];exact Nat.le_trans hbs hkf.size) ((hI b).putObj _ hia (by omega) hl rfl) ((hAx x a').putObj (s:=()) _ hax (by omega) hl rfl) hlen) ?_
   have fin:∀(jump:Option Code) (W3:World),KeepsFrom w.heap.size (W.putObj (w.heap.size+1) (.loop { rec .ready none with state:=.busy })) W3→
     (Instr.endRound (w.heap.size+1) jump).run P W3 = .ok (.bool jump.isNone) (W3.putObj (w.heap.size+1) (.loop (rec (if jump.isNone then .ready else .done) jump)))∧
     W3.heap[w.heap.size+1]? = some (.loop { rec .ready none with state:=.busy })∧
     (W3.putObj (w.heap.size+1) (.loop (rec (if jump.isNone then .ready else .done) jump))).heap[w.heap.size+1]? = some (.loop (rec (if jump.isNone then .ready else .done) jump))∧
     (W3.putObj (w.heap.size+1) (.loop (rec (if jump.isNone then .ready else .done) jump))).heap[w.heap.size]? = some (.deferred (some [])):=fun jump W3 hk3=>by
    have hl3:=hk3.same _ _ (by omega) hl2 rfl
    have hend:=run_endRound (P:=P) jump hl3
    rw[hrec] at hend ⊢
    exact⟨hend,by rw[hrec] at hl3;exact hl3,World.putObj_heap_same (Array.getElem?_eq_some_iff.1 hl3).1,(World.putObj_heap_other (by omega)).trans (hk3.same _ _ (Nat.le_refl _) hk2 rfl)⟩
   rintro e a3 W3 hp
   cases e with
   | normal=>
    obtain⟨hk3,hkp3,hi3⟩:=hp
    obtain⟨hr,hl3,hl4,hk4⟩:=fin none W3 hk3
    exact⟨_,_,hr,.inl ⟨rfl,⟨(hI b).putObj _ hi3 (by omega) hl3 rfl,hl4,hk4⟩,hKt b hkp (hKt b (hKt b hw2 hkp3) (hKb b _ _ _ _ hl3 rfl))⟩⟩
   | ret=>
    obtain⟨hk3,hi3⟩:=hp
    obtain⟨hr,hl3,hl4,hk4⟩:=fin (some .ret) W3 hk3
    exact⟨_,_,hr,.inr ⟨rfl,.ret,(hIx _).putObj _ hi3 (by omega) hl3 rfl,hl4,hk4⟩⟩
   | exit id=>
    obtain⟨hk3,hi3⟩:=hp
    obtain⟨hr,hl3,hl4,hk4⟩:=fin (some (.exit id)) W3 hk3
    exact⟨_,_,hr,.inr ⟨rfl,.exit id,(hIx _).putObj _ hi3 (by omega) hl3 rfl,hl4,hk4⟩⟩
   | goto t=>
    obtain⟨hk3,hi3⟩:=hp
    obtain⟨hr,hl3,hl4,hk4⟩:=fin (some (.goto t)) W3 hk3
    exact⟨_,_,hr,.inr ⟨rfl,.goto t,(hIx _).putObj _ hi3 (by omega) hl3 rfl,hl4,hk4⟩⟩
   | panic ch=>exact hp.elim
   | outgrown=>exact hp.elim
  ·rintro e W2 ⟨⟨v,rfl⟩,(⟨b,xs,hS,hi,hl,hk⟩|⟨pre,hSp,c,hi,hl,hk⟩)⟩
   ·exact⟨none,_,by have:=run_endLoop (P:=P) hl (by rw[hrec];simp);rw[hrec] at this;exact this,hdone _ b xs _ (Nat.le_refl _) hS ((hI b).putObj _ hi (by omega) hl rfl) ((World.putObj_heap_other (by omega)).trans hk)⟩
   ·exact⟨some c,_,by have:=run_endLoop (P:=P) hl (by rw[hrec];simp);rw[hrec] at this;exact this,hstop _ c pre _ (Nat.le_refl _) hSp ((hIx c).putObj _ hi (by omega) hl rfl) ((World.putObj_heap_other (by omega)).trans hk)⟩
end Go.Sf
namespace Go.Proofs.YtjfelfjobeeenaaGreat
open Go.RowKit Go.Sf Go.Shelf
def IRd (W:World) (v:Value) (xs:List Int):Prop:=∃p c,v = .slice p xs.length c∧(xs = []∨∃g,p=some ⟨g,0,none⟩∧∀(j:Nat) (x:Int),xs[j]? = some x→W.cell? ⟨g,j,none⟩=some (.int .i64 x))
theorem ird_of_own {W:World} {base:Nat} {v:Value} {xs:List Int} (h:W.ownsRow base 3 1 v xs.length (xs.map (Value.int .i64))):IRd W v xs:=by
 rcases h.2 with ⟨rfl,h0⟩|⟨g,c,cur,rfl,_,_,_⟩
 ·exact⟨none,0,by rw[h0],Or.inl (List.eq_nil_of_length_eq_zero h0)⟩
 ·refine⟨_,_,rfl,Or.inr ⟨g,rfl,fun j x hx=>?_⟩⟩
  have h1:=h.cells (g:=g) rfl j (.int .i64 x) (by rw[List.getElem?_map,hx];rfl)
  rw[←h1];congr 1;unfold Addr.add;simp
def NoX (xs:List Int) (x:Int) (k:Nat):Prop:=∀j,j<k→xs[j]?≠some x
set_option maxHeartbeats 2000000 in
theorem index_any {W:World} {v:Value} {xs:List Int} (h:IRd W v xs) (x:Int) (hl:xs.length≤1000000) :
  Calls Tryz.prog 127 #[v,.int .i64 x] W fun e w'=>∃r:Int,e = .returned (.int .i64 r)∧(0≤r↔x∈xs)∧w'=W:=by
 obtain⟨p,c,rfl,hr⟩:=h
 have HR:=Lib.hid hr
 have HP:Hid (∀r:Int,(∃j:Nat,r=j∧xs[j]? = some x)→(0≤r↔x∈xs)):=(show ∀_,_→_ from fun r ⟨j,h1,h2⟩=>⟨fun _=>List.mem_of_getElem? h2,fun _=>by omega⟩)
 have HNP:Hid (NoX xs x xs.length→((0:Int)≤-1↔x∈xs)):=(show _→_ from fun hn=>⟨fun h=>absurd h (by omega),fun h=>by
  obtain⟨j,hj,e⟩:=List.getElem_of_mem h
  exact absurd (by rw[List.getElem?_eq_getElem hj,e]) (hn j hj)⟩)
 clear hr
 generalize hq:xs.length=q at *
 have HQ:=Lib.hid hq
 clear hq
 go_enter Tryz.func127,Tryz.ntmps127
 go_wp2
 go_loopw [8] (fun i wr=>∃k:Nat,k≤q∧i = .int .i64 k∧Hid (NoX xs x k)∧wr=W) (fun i _=>q-(intOf i).toNat)
 case atStart=>exact⟨0,Nat.zero_le _,rfl,(show NoX _ _ _ from fun j hj=>absurd hj (Nat.not_lt_zero _)),rfl⟩
 case round=>
  obtain⟨k,hk,rfl,hno,rfl⟩:=hrel
  rcases Nat.lt_or_ge k q with hlt|hge
  ·obtain⟨y,hy⟩:∃y,xs[k]? = some y:=⟨_,List.getElem?_eq_getElem (by rw[HQ.out];exact hlt)⟩
   rcases HR.out with h0|⟨g,rfl,hc⟩
   ·subst h0;simp at hy
   ·have cy:=hc k y hy
    have HY:=Lib.hid hy
    clear hy hc
    by_cases e:x=y
    ·have eb:(x == y)=true:=by simpa using e
     have ev:decide (x=y)=true:=by simpa using e
     have HE:=Lib.hid (HP.out k ⟨k,rfl,by rw[HY.out,e]⟩)
     clear e
     go_wp2
     go_ret
     exact⟨_,rfl,HE.out,rfl⟩
    ·have eb:(x == y)=false:=by simpa using e
     have ev:decide (x=y)=false:=by simpa using e
     have HN:Hid (NoX xs x (k+1)):=(show NoX _ _ _ from fun j hj=>by
      by_cases e2:j=k
      ·subst e2;rw[HY.out];intro h;cases h;exact e rfl
      ·exact hno.out j (by omega))
     clear e
     go_wp2
     go_roundw
     case rel=>exact⟨k+1,by omega,by go_num,HN,by first|rfl|trivial⟩
     case measure=>simp[intOf];omega
  ·obtain rfl:k=q:=by omega
   have HE:=Lib.hid (HNP.out hno.out)
   go_wp2
   go_ret
   exact⟨_,rfl,HE.out,rfl⟩
set_option maxHeartbeats 2000000 in
theorem contains_any {W:World} {v:Value} {xs:List Int} (h:IRd W v xs) (x:Int) (hl:xs.length≤1000000) :
  Calls Tryz.prog 64 #[v,.int .i64 x] W fun e w'=>e = .returned (.bool (decide (x∈xs)))∧w'=W:=by
 have HI:=Lib.hid (index_any h x hl)
 clear h
 go_enter Tryz.func64,Tryz.ntmps64
 go_wp2_with (go_at_call 127;refine HI.out.mono ?_;rintro e w2 ⟨r,rfl,hr,rfl⟩;have HR:=Lib.hid hr;clear hr)
 go_ret
 exact⟨by have:=HR.out;congr 2;simp[this],rfl⟩
def pkStep (pre:List Tsk) (t:Tsk):List Tsk:=if t.nd∈pre.map (·.nd) then pre else pre ++ [t]
def pk (ts:List Tsk):List Tsk:=ts.foldl pkStep []
theorem pk_take {ts:List Tsk} {k:Nat} {t:Tsk} (h:ts[k]? = some t):pk (ts.take (k+1))=pkStep (pk (ts.take k)) t:=by
 obtain⟨h1,rfl⟩:=List.getElem?_eq_some_iff.1 h
 unfold pk
 rw[List.take_succ_eq_append_getElem h1,List.foldl_append];rfl
theorem pkStep_pre (pre:List Tsk) (t:Tsk):pre <+: pkStep pre t:=by
 unfold pkStep
 split
 ·exact List.prefix_refl _
 ·exact List.prefix_append _ _
theorem pk_fold:∀(r pre:List Tsk),pre <+: r.foldl pkStep pre
 | [],pre=>List.prefix_refl _
 | t :: r,pre=>(pkStep_pre pre t).trans (pk_fold r _)
theorem pk_pre (ts:List Tsk) (k:Nat):pk (ts.take k) <+: pk ts:=by
 have h:=pk_fold (ts.drop k) (pk (ts.take k))
 unfold pk at h ⊢
 rwa [←List.foldl_append,List.take_append_drop] at h
theorem pk_len (ts:List Tsk):(pk ts).length≤ts.length:=by
 have:∀(r pre:List Tsk),(r.foldl pkStep pre).length≤pre.length+r.length:=by
  intro r
  induction r with
  | nil=>intro pre;simp
  | cons t r ih=>
   intro pre
   have h1:=ih (pkStep pre t)
   have h2:(pkStep pre t).length≤pre.length+1:=by unfold pkStep;split <;> simp
   simp only[List.foldl_cons,List.length_cons]
   omega
 simpa[pk] using this ts []
end Go.Proofs.YtjfelfjobeeenaaGreat
