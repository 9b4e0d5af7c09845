/- deficit.Tasks: walked. Conditions: needs that lie in memory. The document's sorted: walked. Conditions: a row of ids in memory. The document's Tasks: where a task goes, in plain Lean; its 'ahead', walked. Conditions: none. -/
import Derived.Test.YtjfelfjobeeenaaGreatF13
import Derived.Test.YtjfelfjobeeenaaGreatF19
import Derived.Deep.CutBlock
set_option linter.unusedSimpArgs false
set_option linter.unusedVariables false
namespace Go.Proofs.YtjfelfjobeeenaaGreat
open Go.RowKit Go.Sf Go.Shelf
structure Nd where
 id:ID
 held:Nat
 mis:List Int
structure NAt (W:World) (g i:Nat) (nd:Nd) (ph pm:Option Addr) (ch cm:Nat):Prop where
 c0:W.cell? ⟨g,i*4,none⟩=some (.string nd.id.key)
 c1:W.cell? ⟨g,i*4+1,none⟩=some (.int .i64 nd.id.ver)
 c2:W.cell? ⟨g,i*4+2,none⟩=some (.slice ph nd.held ch)
 c3:W.cell? ⟨g,i*4+3,none⟩=some (.slice pm nd.mis.length cm)
 m:nd.mis = []∨∃gm,pm=some ⟨gm,0,none⟩∧∀j x,nd.mis[j]? = some x→W.cell? ⟨gm,j,none⟩=some (.int .i64 x)
theorem NAt.grown {W W':World} {g i:Nat} {nd:Nd} {ph pm:Option Addr} {ch cm:Nat} (h:NAt W g i nd ph pm ch cm) (hg:W.grownBy W' none):NAt W' g i nd ph pm ch cm:=
 ⟨hg.cell h.c0 (by simp),hg.cell h.c1 (by simp),hg.cell h.c2 (by simp),hg.cell h.c3 (by simp),h.m.imp id fun ⟨gm,e,hc⟩=>⟨gm,e,fun j x hx=>hg.cell (hc j x hx) (by simp)⟩⟩
def NRow (W:World) (v:Value) (l:List Nd):Prop:=∃p cap,v = .slice p l.length cap∧(l = []∨∃g,p=some ⟨g,0,none⟩∧∀i nd,l[i]? = some nd→∃ph pm ch cm,NAt W g i nd ph pm ch cm)
theorem NRow.grown {W W':World} {v:Value} {l:List Nd} (h:NRow W v l) (hg:W.grownBy W' none):NRow W' v l:=by
 obtain⟨p,cap,h1,h2⟩:=h
 refine⟨p,cap,h1,h2.imp id fun ⟨g,e,hc⟩=>⟨g,e,fun i nd hi=>?_⟩⟩
 obtain⟨ph,pm,ch,cm,hn⟩:=hc i nd hi
 exact⟨ph,pm,ch,cm,hn.grown hg⟩
def ndT (nd:Nd):List Tsk:=nd.mis.map fun x=>⟨nd.id,x,nd.held⟩
def rawT (l:List Nd):List Tsk:=l.flatMap ndT
theorem rawT_take {l:List Nd} {k:Nat} {nd:Nd} (h:l[k]? = some nd):rawT (l.take (k+1))=rawT (l.take k)++ndT nd:=by
 obtain⟨h1,rfl⟩:=List.getElem?_eq_some_iff.1 h
 unfold rawT
 rw[List.take_succ_eq_append_getElem h1,List.flatMap_append];simp
theorem ndT_take {nd:Nd} {j:Nat} {x:Int} (h:nd.mis[j]? = some x):(ndT nd).take (j+1)=(ndT nd).take j ++ [⟨nd.id,x,nd.held⟩]:=by
 obtain⟨h1,rfl⟩:=List.getElem?_eq_some_iff.1 h
 rw[List.take_succ_eq_append_getElem (by simp[ndT];exact h1)]
 simp[ndT]
def TA (w0 w:World) (v:Value) (ts:List Tsk):Prop:=w.ownsRow w0.heap.size 56 4 v ts.length (ts.flatMap tskCells)∧w0.grownBy w none
theorem TA.kept {w0 w w':World} {v:Value} {ts:List Tsk} (h:TA w0 w v ts) (hg:w.grownBy w' none):TA w0 w' v ts:=
 ⟨h.1.kept hg (by cases hv:v.ownBlock <;> simp),grown_trans h.2 hg⟩
theorem TA.keep {w0 w w1 w2:World} {v v':Value} {ts:List Tsk} {t:Tsk} (h:TA w0 w v ts) (hg:w.grownBy w1 none) (ho:w2.ownsRow w0.heap.size 56 4 v' (ts.length+1) (ts.flatMap tskCells++tskCells t)) (hg2:w1.grownBy w2 v.ownBlock):TA w0 w2 v' (ts ++ [t]):=
 ⟨by simp only[List.length_append,List.length_cons,List.length_nil,List.flatMap_append,List.flatMap_cons,List.flatMap_nil,List.append_nil,Nat.zero_add];exact ho,grown_own (grown_trans h.2 hg) hg2 (row_base h.1)⟩
theorem TA.len {w0 w:World} {v:Value} {ts:List Tsk} (h:TA w0 w v ts):∃p cap,v = .slice p ts.length cap:=by
 rcases h.1.2 with ⟨e,h0⟩|⟨b,c,cur,e,_⟩
 ·exact⟨none,0,by rw[e,h0]⟩
 ·exact⟨_,_,e⟩
theorem own_ty {W:World} {base n:Nat} {e:TypeId} {size:Nat} {v:Value} {xs:List Value} (h:W.ownsRow base e size v n xs) {g:Nat} (hg:v.ownBlock=some g):∃c,W.heap[g]? = some (.cells c e (0,0)):=by
 rcases h.2 with ⟨rfl,_⟩|⟨b,cap,cur,rfl,_,hb,_⟩
 ·simp[Value.ownBlock] at hg
 ·simp[Value.ownBlock] at hg
  subst hg
  exact⟨_,hb⟩
theorem infoTsk:(Tryz.prog.info? 56).map (fun i=>(i.zero,i.size,i.bytes))=some (some (.agg #[.string { data:=#[] },.int .i64 0,.int .i64 0,.int .i64 0]),4,40):=by kernel_rfl
theorem task_new (w:World) (a b c d:Value) (t:TypeId):∀j u,([a,b,c,d]:List Value)[j]? = some u→(w.alloc (.cells #[a,b,c,d] t)).cell? ((⟨w.heap.size,0,none⟩:Addr).add j)=some u:=by
 intro j u hj
 match j,hj with
 | 0,hj=>simp at hj;subst hj;simp[Addr.add,go_sem]
 | 1,hj=>simp at hj;subst hj;simp[Addr.add,go_sem]
 | 2,hj=>simp at hj;subst hj;simp[Addr.add,go_sem]
 | 3,hj=>simp at hj;subst hj;simp[Addr.add,go_sem]
 | j+4,hj=>simp at hj
set_option maxHeartbeats 4000000 in
set_option maxRecDepth 100000 in
theorem tasks_any {w:World} {v:Value} {l:List Nd} (h:NRow w v l) (hl:(rawT l).length≤1000000) (hn:l.length≤1000000) :
  Calls Tryz.prog 18 #[v] w fun e w'=>∃v',e = .returned v'∧TA w w' v' (sortT (rawT l)):=by
 obtain⟨p,cap,rfl,hrow⟩:=h
 obtain⟨i0,hi,hz0,hz1,hz2⟩:=info_parts infoTsk
 have HROW:=Lib.hid hrow
 have HLE:Hid (∀k nd j,l[k]? = some nd→j≤nd.mis.length→(rawT (l.take k)++(ndT nd).take j).length≤1000000):=(show ∀k nd j,_→_→_≤_ from fun k nd j h1 h2=>by
  have e1:(rawT l).length=(rawT (l.take (k+1))).length+(rawT (l.drop (k+1))).length:=by
   rw[←List.length_append];unfold rawT;rw[←List.flatMap_append,List.take_append_drop]
  rw[rawT_take h1,List.length_append] at e1
  rw[List.length_append,List.length_take]
  omega)
 have HN:=Lib.hid hn
 have HL:=Lib.hid hl
 have H0:Hid (TA w w (.slice none 0 0) []):=(show TA _ _ _ _ from ⟨World.ownsRow_nil _ _ _ _,grown_refl _⟩)
 clear hrow hl
 generalize hm:l.length=n at *
 have HM:=Lib.hid hm
 clear hm
 go_enter Tryz.func18,Tryz.ntmps18
 go_wp2
 go_loopw [3,10] (fun x i wr=>∃k:Nat,k≤n∧i = .int .i64 k∧Hid (TA w wr x (rawT (l.take k)))) (fun _ i _=>n-(intOf i).toNat)
 case atStart=>exact⟨0,Nat.zero_le _,rfl,H0⟩
 case round=>
  clear H0
  obtain⟨k,hk,rfl,hT⟩:=hrel
  rcases Nat.lt_or_ge k n with hlt|hge
  ·obtain⟨nd,hnd⟩:∃nd,l[k]? = some nd:=⟨_,List.getElem?_eq_getElem (by rw[HM.out];exact hlt)⟩
   have HND:=Lib.hid hnd
   rcases HROW.out with h0|⟨g,rfl,hc⟩
   ·subst h0;simp at hnd
   ·obtain⟨ph,pm,ch,cm,hn⟩:=hc k nd hnd
    have HC:=Lib.hid hc
    have HNA:=Lib.hid hn
    obtain⟨c0,c1,c2,c3,-⟩:=hn.grown hT.out.2
    have HML:Hid (nd.mis.length≤1000000):=(show _≤_ from by
     have:=HLE.out k nd nd.mis.length hnd (Nat.le_refl _)
     rw[List.length_append,List.length_take] at this
     simp[ndT] at this
     omega)
    have HLN:=Lib.hid (fun j hj=>HLE.out k nd j hnd hj)
    have HX:Hid (rawT (l.take (k+1))=rawT (l.take k)++ndT nd):=(show _=_ from rawT_take hnd)
    clear hc hnd hn
    obtain⟨⟨key,ver⟩,held,mis⟩:=nd
    simp only at c0 c1 c2 c3
    obtain⟨q,hq⟩:∃q,q=mis.length:=⟨_,rfl⟩
    rw[←hq] at c3
    have hq1:q≤1000000:=by have:=HML.out;simp only at this;omega
    have HQ:=Lib.hid hq
    clear hq
    go_upto_region 5 with fail
    have HB:=Lib.hid (World.alloc_heap_new wr (.cells #[.string key,.int .i64 ver,.slice ph held ch,.slice pm q cm] 71))
    have HT2:=Lib.hid (hT.out.kept (World.grownBy_alloc wr (.cells #[.string key,.int .i64 ver,.slice ph held ch,.slice pm q cm] 71) none))
    clear c0 c1 c2 c3 hT
    generalize wr.alloc (.cells #[.string key,.int .i64 ver,.slice ph held ch,.slice pm q cm] 71)=wa at *
    generalize wr.heap.size=bn at *
    have d3:wa.cell? ⟨bn,3,none⟩=some (.slice pm q cm):=(cell_block HB.out 3).trans rfl
    go_wp2
    clear d3
    have H1:Hid (TA w wa u3 (rawT (l.take k)++(ndT ⟨⟨key,ver⟩,held,mis⟩).take 0)):=(show TA _ _ _ _ from by simpa using HT2.out)
    go_loopw [3,17] (fun x i wr=>∃j:Nat,j≤q∧i = .int .i64 j∧Hid (TA w wr x (rawT (l.take k)++(ndT ⟨⟨key,ver⟩,held,mis⟩).take j))∧Hid (wr.heap[bn]? = some (.cells #[.string key,.int .i64 ver,.slice ph held ch,.slice pm q cm] 71 (0,0)))) (fun _ i _=>q-(intOf i).toNat)
    case atStart=>exact⟨0,Nat.zero_le _,rfl,H1,HB⟩
    case round=>
     clear H1 HT2 HB
     obtain⟨j,hj,rfl,hT,hB⟩:=hrel
     rcases Nat.lt_or_ge j q with hlj|hgj
     ·obtain⟨x,hx⟩:∃x,mis[j]? = some x:=⟨_,List.getElem?_eq_getElem (by rw[←HQ.out];exact hlj)⟩
      have hlen:=HLN.out j (by show j≤mis.length;have:=HQ.out;omega)
      have HX2:Hid ((ndT ⟨⟨key,ver⟩,held,mis⟩).take (j+1)=(ndT ⟨⟨key,ver⟩,held,mis⟩).take j ++ [⟨⟨key,ver⟩,x,held⟩]):=(show _=_ from ndT_take (nd:=⟨⟨key,ver⟩,held,mis⟩) hx)
      rcases HNA.out.m with h0|⟨gm,rfl,hm⟩
      ·simp only at h0;subst h0;simp at hx
      ·have cx:=hT.out.2.cell (hm j x hx) (by simp)
       have d0:wr.cell? ⟨bn,0,none⟩=some (.string key):=(cell_block hB.out 0).trans rfl
       have d1:wr.cell? ⟨bn,1,none⟩=some (.int .i64 ver):=(cell_block hB.out 1).trans rfl
       have d2:wr.cell? ⟨bn,2,none⟩=some (.slice ph held ch):=(cell_block hB.out 2).trans rfl
       have HBN:Hid (bn<wr.heap.size):=(show _<_ from (Array.getElem?_eq_some_iff.1 hB.out).1)
       clear hx hm
       obtain⟨ts,hts⟩:∃ts,ts=rawT (l.take k)++(ndT ⟨⟨key,ver⟩,held,mis⟩).take j:=⟨_,rfl⟩
       rw[←hts] at hT hlen
       have HTS:=Lib.hid hts
       clear hts
       go_wp2_with (at_builtin;go_loud (refine wpList_append_own _ rfl _ _ 42 rfl w.heap.size 56 i0 (.agg #[.string { data:=#[] },.int .i64 0,.int .i64 0,.int .i64 0]) 4 40 Tryz.underlying42 hi hz0 hz1 hz2 rfl (by decide) _ _ _ rfl (hT.out.1.alloc _) ⟨wr.heap.size,0,none⟩ 1 1 [.string key,.int .i64 ver,.int .i64 x,.int .i64 held] rfl rfl ?c1 ?c2 ?c3 ?c4 ?c5 ?_))
       case c1=>exact task_new _ _ _ _ _ _
       case c2=>intro u hu;simp at hu;rcases hu with rfl|rfl|rfl|rfl <;> rfl
       case c3=>unfold maxLen;omega
       case c4=>omega
       case c5=>have:=hT.out.2.size;simp;omega
       intro v' w9 ho hg9 _
       have hne:some bn≠u3.ownBlock:=fun e=>by
        obtain⟨c,hc⟩:=own_ty hT.out.1 e.symm
        rw[hB.out] at hc
        cases hc
       have H9:=Lib.hid (hT.out.keep (t:=⟨⟨key,ver⟩,x,held⟩) (World.grownBy_alloc _ _ _) ho hg9)
       have HB9:Hid (w9.heap[bn]? = some (.cells #[.string key,.int .i64 ver,.slice ph held ch,.slice (some ⟨gm,0,none⟩) q cm] 71 (0,0))):=(show _=_ from (hg9.block bn (by have:=HBN.out;simp;omega) hne).trans (((World.grownBy_alloc wr _ none).block bn HBN.out (by simp)).trans hB.out))
       clear ho hg9 hT hB cx d0 d1 d2 hlen
       go_wp2
       go_roundw
       case rel=>exact⟨j+1,by omega,by go_num,by rw[HX2.out,←List.append_assoc,←HTS.out];exact H9,HB9⟩
       case measure=>simp[intOf];omega
     ·obtain rfl:j=q:=by omega
      have HE:Hid (TA w wr u3 (rawT (l.take (k+1)))):=(show TA _ _ _ _ from by
       have:=hT.out
       rw[List.take_of_length_le (l:=ndT ⟨⟨key,ver⟩,held,mis⟩) (by rw[HQ.out];simp[ndT])] at this
       rw[HX.out];exact this)
      clear hT hB
      go_wp2
      go_roundw
      case rel=>exact⟨k+1,by omega,by go_num,HE⟩
      case measure=>simp[intOf];omega
  ·obtain rfl:k=n:=by omega
   have hT2:=hT.out
   rw[List.take_of_length_le (by rw[HM.out];exact Nat.le_refl _)] at hT2
   have HS:=Lib.hid (sst_any hT2.1 HL.out)
   have HT2:=Lib.hid hT2
   clear hT hT2
   go_wp2_with (go_at_call 62;refine HS.out.mono ?_;rintro e w2 ⟨rfl,ho,hg⟩;have HO:=Lib.hid ho;have HG:=Lib.hid hg;clear ho hg)
   go_ret
   refine⟨_,rfl,?_,grown_own HT2.out.2 HG.out (row_base HT2.out.1)⟩
   rw[(sortT_perm (rawT l)).length_eq]
   exact HO.out
structure Parts (W:World) (v:Value) (out:List ID) (k c:Nat):Prop where
 low:∀s,s≤k→∀W',W.grownBy W' none→∀p,v = .slice p k c→YRow W' idCells (.slice p s c) (out.take s)
theorem parts_of {W:World} {v:Value} {out:List ID} {k c:Nat} {E:TypeId} (h:SRow W E 2 idCells v out) (hk:out.length=k):Parts W v out k c:=by
 subst hk
 refine⟨fun s hs W' hg p hv=>?_⟩
 have h':=h.grown hg (by simp)
 rcases h.2 with ⟨e,h0⟩|⟨g,c2,cur,e,_⟩
 ·rw[hv] at e
  injection e with e1 e2 e3
  subst e1
  have:out = []:=List.eq_nil_of_length_eq_zero h0
  subst this
  have:s=0:=by simpa using hs
  subst this
  exact⟨none,c,rfl,Or.inl rfl⟩
 ·rw[e] at h' hv
  injection hv with e1 e2 e3
  subst e1 e3
  exact yrow_take lenID h' s hs _
section
variable {W : World}
set_option maxHeartbeats 8000000 in
set_option maxRecDepth 100000 in
theorem rsorted_any {v:Value} {l:List ID} (h:SRow W 59 2 idCells v l) (hl:l.length≤1000000):Calls Tryz.prog 176 #[v] W fun e w'=>∃v',e = .returned v'∧Grows W 59 2 idCells v' (sortL l) w':=by
 obtain⟨i0,hi,hz0,hz1,hz2⟩:=info_parts infoRID
 obtain⟨pl,cl,rfl,hcl,hlc⟩:=h.form
 have HL:=Lib.hid h
 clear h
 go_enter Tryz.func176,Tryz.ntmps176
 go_wp2
 go_loopw [3,4] (fun o x wr=>∃k:Nat,k≤l.length∧x = .int .i64 k∧Grows W 59 2 idCells o (outL l k) wr) (fun _ x _=>l.length-(intOf x).toNat)
 case atStart=>exact⟨0,Nat.zero_le _,rfl,by rw[outL_zero];exact Grows.start _ _ _ _⟩
 case round=>
  obtain⟨k,hk,rfl,hgr⟩:=hrel
  have hol:=outL_len l k hk
  obtain⟨po,co,rfl,hco,hlo⟩:=hgr.row.form
  by_cases hlt:k<l.length
  ·have HS:Hid (outL l (k+1)=insL (outL l k) l[k]):=(show _=_ from outL_succ l k hlt)
   have hLr:=HL.out.grown hgr.grown (by simp)
   obtain⟨g,c',e,hc,-⟩:=(hLr.at lenID).resolve_left (fun e=>by rw[e] at hlt;simp at hlt)
   injection e with e1 e2 e3
   subst e1
   have a0:wr.cell? ⟨g,k*2,none⟩=some (.string l[k].key):=hc k hlt 0 _ rfl
   have a1:wr.cell? ⟨g,k*2+1,none⟩=some (.int .i64 l[k].ver):=hc k hlt 1 _ rfl
   have HGR:=Lib.hid hgr
   have hgw:g<wr.heap.size:=cell_lt a0
   clear hc hLr e2 e3 hgr
   generalize l[k]=z at *
   generalize outL l k=out at *
   subst hol
   have HPT:=Lib.hid (parts_of (k:=out.length) (c:=co) HGR.out.row rfl)
   go_upto_block 2 with fail
   go_cut [5] (fun s wx=>∃j:Nat,j≤out.length∧s = .int .i64 j∧slotI z out out.length=j∧wr.grownBy wx none)
   case first=>
    clear hlo hco
    generalize wr=W3 at *
    go_wp2_with fail
    go_loopw [5] (fun s wx=>∃j:Nat,j≤out.length∧s = .int .i64 j∧slotI z out out.length=slotI z out j∧W3.grownBy wx none) (fun s _=>(intOf s).toNat)
    case atStart=>exact⟨out.length,Nat.le_refl _,rfl,rfl,grown_refl _⟩
    case round=>
     obtain⟨j,hj,rfl,hs,hgx⟩:=hrel
     have HSL:=Lib.hid hs
     have HGX:=Lib.hid hgx
     clear hs
     cases j with
     | zero=>
      clear hgx a0 a1 hgw
      go_wp2
      go_quiet (fail)
      go_wp2
      go_meet
      exact⟨0,Nat.zero_le _,rfl,by rw[HSL.out];rfl,grown_trans HGX.out (grown_drewN _ _)⟩
     | succ j=>
      have hjl:j<out.length:=by omega
      obtain⟨gb,cb,e,hc,-⟩:=(HGR.out.row.at lenID).resolve_left (fun e=>by rw[e] at hjl;simp at hjl)
      injection e with e1 e2 e3
      subst e1
      have b0:wr.cell? ⟨gb,j*2,none⟩=some (.string out[j].key):=hgx.cell (hc j hjl 0 _ rfl) (by simp)
      have b1:wr.cell? ⟨gb,j*2+1,none⟩=some (.int .i64 out[j].ver):=hgx.cell (hc j hjl 1 _ rfl) (by simp)
      have c0:wr.cell? ⟨g,out.length*2,none⟩=some (.string z.key):=hgx.cell a0 (by simp)
      have c1:wr.cell? ⟨g,out.length*2+1,none⟩=some (.int .i64 z.ver):=hgx.cell a1 (by simp)
      have l0:=cell_lt b0
      have l1:=cell_lt c0
      have HLS:Hid (∀W':World,Calls Tryz.prog 175 #[.agg #[.string z.key,.int .i64 z.ver],.agg #[.string out[j].key,.int .i64 out[j].ver]] W' fun e w'=>e = .returned (.bool (ltI z out[j]))∧W'.grownBy w' none):=(show ∀_,_ from fun W'=>rless_any z out[j] W')
      have HJ:=Lib.hid (And.intro (slot_step z out j hjl) (slot_stop z out j hjl))
      clear hc e2 e3 a0 a1 hgw hgx HGR
      generalize hlz:ltI z out[j]=b at *
      clear hlz
      generalize out[j]=y at *
      have hij:((j+1:Nat):Int)-1=j:=by omega
      go_wp2
      refine wp_region_quiet_ext (by kernel_rfl) (by kernel_rfl) ?_
      repeat (any_goals (first|go_big_quiet_step ((go_at_call 175;exact calls_ext (HLS.out _)))|quiet_step ((go_at_call 175;exact calls_ext (HLS.out _)))))
      refine wpQuiet_nil ?_
      intro _ hw'
      obtain⟨x,hw''⟩:=hw'
      subst hw''
      cases b
      ·go_wp2
       go_meet
       exact⟨j+1,by omega,rfl,by rw[HSL.out];exact HJ.out.2 trivial,grown_ext' HGX.out _⟩
      ·go_wp2
       go_roundw
       case rel=>exact⟨j,by omega,by go_num,by rw[HSL.out];exact HJ.out.1 rfl,grown_ext' HGX.out _⟩
       case measure=>simp[intOf]
   case rest=>
    obtain⟨s,hs,rfl,hsl,hgx⟩:=hcut
    have HIN:Hid (insL out z=out.take s ++ [z]++out.drop s):=(show _=_ from insL_at hsl)
    have HT:Hid (YRow wc idCells (.slice po s co) (out.take s)):=(show YRow _ _ _ _ from HPT.out.low s hs wc hgx po rfl)
    have HO:=Lib.hid (HGR.out.row.grown hgx (by simp))
    have HGC:=Lib.hid (grown_trans HGR.out.grown hgx)
    have HK:Hid (out.length<l.length):=(show _<_ from hlt)
    have HHS:Hid (s≤out.length):=(show _≤_ from hs)
    have HOC:Hid (out.length≤co):=(show _≤_ from hlo)
    have c0:wc.cell? ⟨g,out.length*2,none⟩=some (.string z.key):=hgx.cell a0 (by simp)
    have c1:wc.cell? ⟨g,out.length*2+1,none⟩=some (.int .i64 z.ver):=hgx.cell a1 (by simp)
    have HD:Hid (po=none∧out = []∧co=0∨(∃gb,po=some ⟨gb,0,none⟩)∧co=s∨(∃gb,po=some ⟨gb,0,none⟩)∧s<co):=(show _∨_∨_ from by
     rcases HGR.out.row.2 with ⟨e,h0⟩|⟨gb,cb,cur,e,_,_,r1,_,_⟩
     ·injection e with e1 e2 e3
      exact Or.inl ⟨e1,List.eq_nil_of_length_eq_zero h0,e3⟩
     ·injection e with e1 e2 e3
      rcases Nat.lt_or_ge s co with h|h
      ·exact Or.inr (Or.inr ⟨⟨gb,e1⟩,h⟩)
      ·exact Or.inr (Or.inl ⟨⟨gb,e1⟩,by omega⟩))
    have c0':=Lib.hid c0
    have c1':=Lib.hid c1
    clear a0 a1 hgw HPT hgx HGR
    go_upto_region 10 with (at_builtin;refine wpList_sapp (l:=[]) (m:=out.take s) _ rfl (.tmp 31) (.tmp 34) 139 rfl lenID oneID i0 _ 24 Tryz.underlying139 hi hz0 hz1 hz2 rfl (by decide) (by decide) rfl ?a1 rfl ?a2 ?a3 s ?a4 ?_)
    case a1=>exact World.ownsRow_nil _ _ _ _
    case a2=>exact HT.out
    case a3=>have:=HHS.out;simp;omega
    case a4=>have:=HHS.out;simp;omega
    intro p1 cap1 w1 ha1
    have HG1:=Lib.hid (Grows.app (Grows.start wc 59 2 idCells) ha1)
    have c0:w1.cell? ⟨g,out.length*2,none⟩=some (.string z.key):=HG1.out.grown.cell c0'.out (by simp)
    have c1:w1.cell? ⟨g,out.length*2+1,none⟩=some (.int .i64 z.ver):=HG1.out.grown.cell c1'.out (by simp)
    clear ha1
    go_upto_region 11 with (at_builtin;refine wpList_sapp (l:=out.take s) (m:=[z]) _ rfl (.tmp 36) (.tmp 41) 139 rfl lenID oneID i0 _ 24 Tryz.underlying139 hi hz0 hz1 hz2 rfl (by decide) (by decide) rfl ?b1 rfl ?b2 ?b3 (s+1) ?b4 ?_)
    case b1=>exact(HG1.out.more (grown_alloc (grown_refl _) _)).row
    case b2=>exact yrow_at z (heap_alloc_new _ _)
    case b3=>have:=HHS.out;simp;omega
    case b4=>have:=HHS.out;simp;omega
    intro p2 cap2 w2 ha2
    have HG2:=Lib.hid (Grows.app (HG1.out.more (grown_alloc (grown_refl _) _)) ha2)
    have HO2:=Lib.hid (HO.out.grown HG2.out.grown (by simp))
    clear ha2 c0 c1
    rcases HD.out with ⟨rfl,hout,rfl⟩|⟨⟨gb,rfl⟩,rfl⟩|⟨⟨gb,rfl⟩,hsc⟩
    ·have hz:out.length=0:=by rw[hout];rfl
     obtain rfl:s=0:=by omega
     have HOU:=Lib.hid hout
     have HK0:Hid (0<l.length):=(show 0<l.length from by have:=HK.out;omega)
     clear hout hlo hco
     rw[hz] at hlt hs
     simp only[hz]
     go_wp2_with (at_builtin;refine wpList_sapp (l:=out.take 0 ++ [z]) (m:=out.drop 0) _ rfl (.tmp 43) (.tmp 46) 139 rfl lenID oneID i0 _ 24 Tryz.underlying139 hi hz0 hz1 hz2 rfl (by decide) (by decide) rfl ?e1 rfl ?e2 ?e3 1 ?e4 ?_)
     case e1=>exact HG2.out.row
     case e2=>exact yrow_none _ 0 (by rw[HOU.out];rfl) _ rfl _ _
     intro p3 cap3 w3 ha3
     have HG3:=Lib.hid (Grows.app HG2.out ha3)
     clear ha3
     go_wp2
     go_roundw
     case rel=>exact⟨1,HK0.out,by go_num,by rw[show(1:Nat)=out.length+1 by omega,HS.out,HIN.out,List.append_assoc];simpa[hz] using HG3.out.up HGC.out⟩
     case measure=>have:=HK0.out;simp[intOf];omega
    ·skip
     go_wp2_with (at_builtin;refine wpList_sapp (l:=out.take co ++ [z]) (m:=out.drop co) _ rfl (.tmp 43) (.tmp 46) 139 rfl lenID oneID i0 _ 24 Tryz.underlying139 hi hz0 hz1 hz2 rfl (by decide) (by decide) rfl ?f1 rfl ?f2 ?f3 (out.length+1) ?f4 ?_)
     case f1=>exact HG2.out.row
     case f2=>exact yrow_none out _ (List.drop_eq_nil_of_le (by omega)) _ (by omega) _ _
     case f3=>have:=HHS.out;first|omega|(simp;omega)
     case f4=>have:=HHS.out;first|omega|(simp;omega)
     intro p3 cap3 w3 ha3
     have HG3:=Lib.hid (Grows.app HG2.out ha3)
     clear ha3
     go_wp2
     go_roundw
     case rel=>exact⟨out.length+1,HK.out,by go_num,by rw[HS.out,HIN.out,List.append_assoc];exact HG3.out.up HGC.out⟩
     case measure=>have:=HK.out;simp[intOf];omega
    ·skip
     go_wp2_with (at_builtin;refine wpList_sapp (l:=out.take s ++ [z]) (m:=out.drop s) _ rfl (.tmp 43) (.tmp 46) 139 rfl lenID oneID i0 _ 24 Tryz.underlying139 hi hz0 hz1 hz2 rfl (by decide) (by decide) rfl ?g1 rfl ?g2 ?g3 (out.length+1) ?g4 ?_)
     case g1=>exact HG2.out.row
     case g2=>exact yrow_drop lenID HO2.out s hs _ (by omega) _ (by omega) _
     case g3=>have:=HHS.out;first|omega|(simp;omega)
     case g4=>have:=HHS.out;first|omega|(simp;omega)
     intro p3 cap3 w3 ha3
     have HG3:=Lib.hid (Grows.app HG2.out ha3)
     clear ha3
     go_wp2
     go_roundw
     case rel=>exact⟨out.length+1,HK.out,by go_num,by rw[HS.out,HIN.out,List.append_assoc];exact HG3.out.up HGC.out⟩
     case measure=>have:=HK.out;simp[intOf];omega
  ·obtain rfl:k=l.length:=by omega
   have HK:Hid (outL l l.length=sortL l):=(show _=_ from outL_all l _ (Nat.le_refl _))
   have HGR:=Lib.hid hgr
   clear hgr
   go_wp2
   go_ret
   exact⟨_,rfl,by rw[←HK.out];exact HGR.out⟩
end
def slotT (x:Tsk) (out:List Tsk):Nat→Nat
 | 0=>0
 | k+1=>if ltT x (out.getD k x)=true then slotT x out k else k+1
def insT (out:List Tsk) (x:Tsk):List Tsk:=out.take (slotT x out out.length)++x :: out.drop (slotT x out out.length)
theorem slotT_le (x:Tsk) (out:List Tsk):∀n,slotT x out n≤n
 | 0=>Nat.le_refl _
 | k+1=>by
  unfold slotT
  split
  ·have:=slotT_le x out k;omega
  ·exact Nat.le_refl _
theorem slotT_up (x:Tsk) (out:List Tsk):∀n,∀j,slotT x out n≤j→j<n→ltT x (out.getD j x)=true
 | 0,j,_,h=>by omega
 | k+1,j,h1,h2=>by
  unfold slotT at h1
  split at h1
  ·rename_i hl
   rcases Nat.lt_or_ge j k with h|h
   ·exact slotT_up x out k j h1 h
   ·obtain rfl:j=k:=by omega
    exact hl
  ·omega
theorem slotT_dn (x:Tsk) (out:List Tsk):∀n,slotT x out n=0∨ltT x (out.getD (slotT x out n-1) x)=false
 | 0=>Or.inl rfl
 | k+1=>by
  unfold slotT
  split
  ·exact slotT_dn x out k
  ·rename_i hl
   exact Or.inr (by simpa using hl)
theorem slotT_step (x:Tsk) (out:List Tsk) (j:Nat) (hj:j<out.length) (h:ltT x out[j]=true):slotT x out (j+1)=slotT x out j:=by
 conv=>lhs;unfold slotT
 rw[if_pos (by simpa[List.getD,List.getElem?_eq_getElem hj] using h)]
theorem slotT_stop (x:Tsk) (out:List Tsk) (j:Nat) (hj:j<out.length) (h:ltT x out[j]=false):slotT x out (j+1)=j+1:=by
 conv=>lhs;unfold slotT
 rw[if_neg (by simpa[List.getD,List.getElem?_eq_getElem hj] using h)]
theorem insT_at {out:List Tsk} {x:Tsk} {s:Nat} (h:slotT x out out.length=s):insT out x=out.take s ++ [x]++out.drop s:=by
 unfold insT
 rw[h,List.append_assoc]
 rfl
theorem insT_perm (out:List Tsk) (x:Tsk):(insT out x).Perm (out ++ [x]):=by
 unfold insT
 generalize slotT x out out.length=s
 refine List.perm_middle.trans ?_
 rw[List.take_append_drop]
 exact(List.perm_append_singleton x out).symm
theorem insT_srt {out:List Tsk} (h:Srt ltT out) (x:Tsk):Srt ltT (insT out x):=by
 have hk:=slotT_le x out out.length
 have hup:=slotT_up x out out.length
 have hdn:=slotT_dn x out out.length
 unfold insT
 generalize slotT x out out.length=k at *
 have hg:∀j (hj:j<out.length),out.getD j x=out[j]:=fun j hj=>by simp[List.getD,List.getElem?_eq_getElem hj]
 have hb:∀y∈out.drop k,ltT x y=true:=fun y hy=>by
  obtain⟨i,hi,rfl⟩:=List.getElem_of_mem hy
  rw[List.getElem_drop]
  rw[List.length_drop] at hi
  have:=hup (k+i) (by omega) (by omega)
  rwa [hg (k+i) (by omega)] at this
 have ha:∀y∈out.take k,ltT x y=false:=fun y hy=>by
  obtain⟨i,hi,rfl⟩:=List.getElem_of_mem hy
  rw[List.getElem_take]
  rw[List.length_take] at hi
  rcases hdn with h0|h0
  ·omega
  ·rw[hg (k-1) (by omega)] at h0
   by_cases e:i=k-1
   ·subst e;exact h0
   ·have:=(List.pairwise_iff_getElem.1 h) i (k-1) (by omega) (by omega) (by omega)
    exact linT.thr _ _ _ this h0
 have hs:Srt ltT (out.take k++out.drop k):=by rw[List.take_append_drop];exact h
 obtain⟨s1,s2,s12⟩:=List.pairwise_append.1 hs
 refine List.pairwise_append.2 ⟨s1,List.pairwise_cons.2 ⟨fun y hy=>linT.tot _ _ (hb y hy),s2⟩,fun a ha' b hb'=>?_⟩
 rcases List.mem_cons.1 hb' with rfl|hm
 ·exact ha a ha'
 ·exact s12 a ha' b hm
def outT (l:List Tsk):List Tsk:=l.foldl insT []
theorem outT_snoc (l:List Tsk) (x:Tsk):outT (l ++ [x])=insT (outT l) x:=by unfold outT;rw[List.foldl_append];rfl
theorem foldT_perm:∀(l out:List Tsk),(l.foldl insT out).Perm (out++l)
 | [],out=>by simp
 | x :: r,out=>by
  rw[List.foldl_cons]
  refine(foldT_perm r _).trans ?_
  have:=List.Perm.append_right r (insT_perm out x)
  rwa [List.append_assoc] at this
theorem foldT_srt:∀(l out:List Tsk),Srt ltT out→Srt ltT (l.foldl insT out)
 | [],out,h=>h
 | x :: r,out,h=>foldT_srt r _ (insT_srt h x)
theorem outT_perm (l:List Tsk):(outT l).Perm l:=foldT_perm l []
theorem outT_len (l:List Tsk):(outT l).length=l.length:=(outT_perm l).length_eq
theorem outT_srt (l:List Tsk):Srt ltT (outT l):=foldT_srt l [] List.Pairwise.nil
theorem outT_eq (l:List Tsk):outT l=sortT l:=sortT_eq (outT_perm l) (outT_srt l)
theorem infoRT:(Tryz.prog.info? 61).map (fun i=>(i.zero,i.size,i.bytes))=some (some (.agg #[.string ⟨#[]⟩,.int .i64 0,.int .i64 0,.int .i64 0]),4,40):=by kernel_rfl
theorem oneT:∀x,∀u∈tskCells x,u.oneCell'=true:=fun x u hu=>by
 simp only[tskCells,List.mem_cons,List.not_mem_nil,or_false] at hu
 rcases hu with rfl|rfl|rfl|rfl <;> rfl
set_option maxHeartbeats 4000000 in
set_option maxRecDepth 100000 in
theorem ahead_any (a b:Tsk) (W:World):Calls Tryz.prog 136 #[encTsk a,encTsk b] W fun e w'=>e = .returned (.bool (ltT a b))∧W.grownBy w' none:=by
 obtain⟨⟨ak,av⟩,ao,ah⟩:=a
 obtain⟨⟨bk,bv⟩,bo,bh⟩:=b
 have HL:Hid (∀W':World,Calls Tryz.prog 175 #[.agg #[.string ak,.int .i64 av],.agg #[.string bk,.int .i64 bv]] W' fun e w'=>e = .returned (.bool (ltI ⟨ak,av⟩ ⟨bk,bv⟩))∧W'.grownBy w' none):=(show ∀_,_ from fun W'=>rless_any ⟨ak,av⟩ ⟨bk,bv⟩ W')
 obtain⟨r,HR⟩:∃r,Hid (r=ltT ⟨⟨ak,av⟩,ao,ah⟩ ⟨⟨bk,bv⟩,bo,bh⟩):=⟨_,rfl⟩
 rw[show ltT ⟨⟨ak,av⟩,ao,ah⟩ ⟨⟨bk,bv⟩,bo,bh⟩=r from HR.out.symm]
 have HI:Hid (∀x y:ID,ltI x y=decide (ltI x y=true)):=(show ∀_ _,_ from fun x y=>by simp)
 simp only[encTsk]
 by_cases h1:ah=bh
 ·subst h1
  by_cases h2:ak=bk
  ·subst h2
   by_cases h3:av=bv
   ·subst h3
    have e:r=decide (ao<bo):=by
     rw[HR.out,Bool.eq_iff_iff,ltT_iff];simp[Std.lt_irrefl]
    subst e
    go_enter Tryz.func136,Tryz.ntmps136
    go_wp2
    go_ret
    exact⟨rfl,grown_alloc (grown_alloc (grown_refl _) _) _⟩
   ·have e:r=ltI ⟨ak,av⟩ ⟨ak,bv⟩:=by
     rw[HR.out,lt_same,Bool.eq_iff_iff,ltT_iff];simp[Std.lt_irrefl,h3]
    have hb:decide (av=bv)=false:=by simpa using h3
    have hb2:(av == bv)=false:=by simpa using h3
    rw[e]
    go_enter Tryz.func136,Tryz.ntmps136
    go_wp2_with (go_at_call 175;refine(HL.out _).mono ?_;rintro e w3 ⟨rfl,hg⟩)
    go_ret
    exact⟨rfl,grown_trans (grown_alloc (grown_alloc (grown_refl _) _) _) hg⟩
  ·have e:r=ltI ⟨ak,av⟩ ⟨bk,bv⟩:=by
    rw[HR.out,Bool.eq_iff_iff,ltT_iff,ltI_iff];simp[h2]
   have hb:decide (ak=bk)=false:=by simpa using h2
   have hb3:(ak.toList == bk.toList)=false:=by rw[toList_eq_iff];exact hb
   rw[e]
   go_enter Tryz.func136,Tryz.ntmps136
   go_wp2_with (go_at_call 175;refine(HL.out _).mono ?_;rintro e w3 ⟨rfl,hg⟩)
   go_ret
   exact⟨rfl,grown_trans (grown_alloc (grown_alloc (grown_refl _) _) _) hg⟩
 ·have e:r=decide (ah<bh):=by
   rw[HR.out,Bool.eq_iff_iff,ltT_iff];simp[h1]
  have hb:decide (ah=bh)=false:=by simpa using h1
  have hb2:(ah == bh)=false:=by simpa using h1
  rw[e]
  go_enter Tryz.func136,Tryz.ntmps136
  go_wp2
  go_ret
  exact⟨rfl,grown_alloc (grown_alloc (grown_refl _) _) _⟩
end Go.Proofs.YtjfelfjobeeenaaGreat
