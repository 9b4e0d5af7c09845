/- The document's table: Wanted, count, Held: the walks. Conditions: a table that lies in memory. slices.Concat of two rows of bytes, slices.Clone; fields.Writer's Raw, Out: the walks. Conditions: rows in memory, not too many bytes. Rows of structs: appending to one, writing an element: laws at the operation. Conditions: none. -/
import Derived.Test.YtjfelfjobeeenaaGreatP13
import Derived.Maps.AppendAt
import Derived.Deep.RegionLaw
import Derived.StillTailTactics
namespace Go.Proofs.YtjfelfjobeeenaaGreat
set_option linter.unusedVariables false
set_option linter.unusedSimpArgs false
open Go.RowKit Go.Sf Go.Shelf
theorem firstI_some {α:Type} (f:α→Bool) (l:List α):decide (0≤firstI f l)=l.any f:=by
 unfold firstI
 cases h:l.findIdx? f with
 | none=>
  rw[List.findIdx?_eq_none_iff] at h
  have:l.any f=false:=by rw[List.any_eq_false];intro x hx;rw[h x hx];decide
  rw[this];decide
 | some k=>
  obtain⟨hk,hf,_⟩:=List.findIdx?_eq_some_iff_getElem.1 h
  have:l.any f=true:=List.any_eq_true.2 ⟨_,List.getElem_mem hk,hf⟩
  rw[this];simp
theorem mget_any {K V:Type} [DecidableEq K] (l:List (K × V)) (x:K):(mget l x).isSome=l.any fun p=>decide (p.1=x):=by
 induction l with
 | nil=>rfl
 | cons p r ih=>
  simp only[mget,List.any_cons]
  by_cases h:p.1=x
  ·simp[h]
  ·simp only[if_neg h,ih];simp[h]
theorem pendI_B (R:RTab) (i:ID):decide (0≤pendI R i)=rpendB R i:=by
 unfold pendI rpendB
 rw[firstI_some,mget_any]
section
variable {W : World} {rb : Nat} {R : RTab} {vL vC vV vP vH : Value}
set_option maxHeartbeats 2000000 in
set_option maxRecDepth 100000 in
theorem rwanted_core (h:RMem W rb R vL vC vV vP vH) (i:ID):Calls Tryz.prog 115 #[.pointer (some ⟨rb,0,none⟩),encID i] W fun e w'=>e = .returned (.bool (rwanted R i))∧W.grownBy w' none:=by
 obtain⟨k,n⟩:=i
 have HP:Hid (∀W',W.grownBy W' none→Calls Tryz.prog 117 #[.pointer (some ⟨rb,0,none⟩),.agg #[.string k,.int .i64 n]] W' fun e w'=>e = .returned (.int .i64 (pendI R ⟨k,n⟩))∧W'.grownBy w' none):=fun W' hg=>rpend_core (h.grown hg) ⟨k,n⟩
 have HL:Hid (∀W',W.grownBy W' none→Calls Tryz.prog 149 #[.pointer (some ⟨rb,0,none⟩),.string k] W' fun e w'=>e = .returned (.int .i64 (rlook R k))∧W'.grownBy w' none):=fun W' hg=>rlook_core (h.grown hg) k
 clear h
 have hres:rwanted R ⟨k,n⟩=(decide (0≤pendI R ⟨k,n⟩) || (decide (0<n) && decide (rlook R k=n))):=by rw[pendI_B];rfl
 generalize rwanted R ⟨k,n⟩=res at *
 generalize pendI R ⟨k,n⟩=P at *
 generalize rlook R k=L at *
 have HR:=Lib.hid hres
 clear hres
 simp only[encID]
 by_cases hP:0≤P
 ·have hP':decide (0≤P)=true:=by simpa using hP
  go_enter Tryz.func115,Tryz.ntmps115
  go_wp2
  refine wp_region_quiet_ext (by kernel_rfl) (by kernel_rfl) ?_
  repeat (any_goals (first|go_big_quiet_step (((go_at_call 117;exact calls_ext (HP.out _ (by repeat (first|exact grown_refl _|exact World.grownBy_alloc _ _ _|refine grown_ext' ?_ _|refine grown_alloc ?_ _|refine grown_drew ?_))))))|quiet_step (((go_at_call 117;exact calls_ext (HP.out _ (by repeat (first|exact grown_refl _|exact World.grownBy_alloc _ _ _|refine grown_ext' ?_ _|refine grown_alloc ?_ _|refine grown_drew ?_))))))))
  refine wpQuiet_nil ?_
  intro _ hw'
  obtain⟨x,hw''⟩:=hw'
  subst hw''
  go_wp2
  go_ret
  exact⟨by rw[HR.out];simp[hP],by repeat (first|exact grown_refl _|exact World.grownBy_alloc _ _ _|refine grown_ext' ?_ _|refine grown_alloc ?_ _|refine grown_drew ?_)⟩
 ·have hP':decide (0≤P)=false:=by simpa using hP
  by_cases hn:0<n
  ·have hn':decide (0<n)=true:=by simpa using hn
   by_cases he:L=n
   all_goals
    go_enter Tryz.func115,Tryz.ntmps115
    go_wp2
    refine wp_region_quiet_ext (by kernel_rfl) (by kernel_rfl) ?_
    repeat (any_goals (first|go_big_quiet_step (((first|(go_at_call 117;exact calls_ext (HP.out _ (by repeat (first|exact grown_refl _|exact World.grownBy_alloc _ _ _|refine grown_ext' ?_ _|refine grown_alloc ?_ _|refine grown_drew ?_))))|(go_at_call 149;exact calls_ext (HL.out _ (by repeat (first|exact grown_refl _|exact World.grownBy_alloc _ _ _|refine grown_ext' ?_ _|refine grown_alloc ?_ _|refine grown_drew ?_)))))))|quiet_step (((first|(go_at_call 117;exact calls_ext (HP.out _ (by repeat (first|exact grown_refl _|exact World.grownBy_alloc _ _ _|refine grown_ext' ?_ _|refine grown_alloc ?_ _|refine grown_drew ?_))))|(go_at_call 149;exact calls_ext (HL.out _ (by repeat (first|exact grown_refl _|exact World.grownBy_alloc _ _ _|refine grown_ext' ?_ _|refine grown_alloc ?_ _|refine grown_drew ?_)))))))))
    refine wpQuiet_nil ?_
    intro _ hw'
    obtain⟨x,hw''⟩:=hw'
    subst hw''
    go_wp2
    go_ret
    exact⟨by rw[HR.out];simp[hn,he,hP'],by repeat (first|exact grown_refl _|exact World.grownBy_alloc _ _ _|refine grown_ext' ?_ _|refine grown_alloc ?_ _|refine grown_drew ?_)⟩
  ·have hn':decide (0<n)=false:=by simpa using hn
   go_enter Tryz.func115,Tryz.ntmps115
   go_wp2
   refine wp_region_quiet_ext (by kernel_rfl) (by kernel_rfl) ?_
   repeat (any_goals (first|go_big_quiet_step (((go_at_call 117;exact calls_ext (HP.out _ (by repeat (first|exact grown_refl _|exact World.grownBy_alloc _ _ _|refine grown_ext' ?_ _|refine grown_alloc ?_ _|refine grown_drew ?_))))))|quiet_step (((go_at_call 117;exact calls_ext (HP.out _ (by repeat (first|exact grown_refl _|exact World.grownBy_alloc _ _ _|refine grown_ext' ?_ _|refine grown_alloc ?_ _|refine grown_drew ?_))))))))
   refine wpQuiet_nil ?_
   intro _ hw'
   obtain⟨x,hw''⟩:=hw'
   subst hw''
   go_wp2
   go_ret
   exact⟨by rw[HR.out];simp[hn',hP'],by repeat (first|exact grown_refl _|exact World.grownBy_alloc _ _ _|refine grown_ext' ?_ _|refine grown_alloc ?_ _|refine grown_drew ?_)⟩
def cntB {α:Type} (f:α→Bool) (l:List α) (k:Nat):Nat:=((l.take k).filter f).length
theorem cntB_zero {α:Type} (f:α→Bool) (l:List α):cntB f l 0=0:=by simp[cntB]
theorem cntB_step {α:Type} (f:α→Bool) (l:List α) (k:Nat) (hk:k<l.length):cntB f l (k+1)=cntB f l k+if f l[k]=true then 1 else 0:=by
 unfold cntB
 rw[List.take_succ_eq_append_getElem hk,List.filter_append,List.length_append]
 congr 1
 by_cases h:f l[k]=true <;> simp[List.filter_cons,h]
theorem cntB_le {α:Type} (f:α→Bool) (l:List α) (k:Nat):cntB f l k≤k:=by
 unfold cntB
 exact Nat.le_trans (List.length_filter_le _ _) (by rw[List.length_take];omega)
theorem cntB_all {α:Type} (f:α→Bool) (l:List α) (k:Nat) (hk:l.length≤k):cntB f l k=(l.filter f).length:=by
 unfold cntB;rw[List.take_of_length_le hk]
set_option maxHeartbeats 4000000 in
set_option maxRecDepth 100000 in
theorem rcount_core (h:RMem W rb R vL vC vV vP vH) (i:ID) (b:Bool):Calls Tryz.prog 118 #[.pointer (some ⟨rb,0,none⟩),encID i,.bool b] W fun e w'=>e = .returned (.int .i64 (rcount R i b))∧W.grownBy w' none:=by
 have HV:Hid (rcount R i b=(R.holds.filter fun h=>decide (h.id=i) && h.ref == b).length):=(show _=_ from rfl)
 generalize rcount R i b=res at *
 have HR:=Lib.hid (h.grown (World.grownBy_alloc W (.cells #[.string i.key,.int .i64 i.ver] 59) none))
 have HB:=Lib.hid (heap_alloc_new W (.cells #[.string i.key,.int .i64 i.ver] 59))
 have HG:=Lib.hid (World.grownBy_alloc W (.cells #[.string i.key,.int .i64 i.ver] 59) none)
 clear h
 simp only[encID]
 go_enter Tryz.func118,Tryz.ntmps118
 go_wp2
 generalize W.alloc (.cells #[.string i.key,.int .i64 i.ver] 59)=W2 at *
 go_loopw [7,8] (fun c x wr=>∃k:Nat,k≤R.holds.length∧x = .int .i64 k∧c = .int .i64 (cntB (fun h:RHold=>decide (h.id=i) && h.ref == b) R.holds k)∧W2.grownBy wr none) (fun _ x _=>R.holds.length-(intOf x).toNat)
 case atStart=>exact⟨0,Nat.zero_le _,rfl,by rw[cntB_zero];rfl,grown_refl _⟩
 case round=>
  obtain⟨k,hk,rfl,rfl,hg2⟩:=hrel
  have hR:=HR.out.grown hg2
  obtain⟨p,cap,hv,hcap,hlc⟩:=hR.holds.form
  have c8:=hR.c8
  rw[hv] at c8
  have bb:=(hg2.block W.heap.size (Array.getElem?_eq_some_iff.1 HB.out).1 (by simp)).trans HB.out
  have b0:wr.cell? ⟨W.heap.size,0,none⟩=some (.string i.key):=(cell_block bb 0).trans rfl
  have b1:wr.cell? ⟨W.heap.size,1,none⟩=some (.int .i64 i.ver):=(cell_block bb 1).trans rfl
  have hcl:=cntB_le (fun h:RHold=>decide (h.id=i) && h.ref == b) R.holds k
  clear bb
  by_cases hlt:k<R.holds.length
  ·obtain⟨g,cap',hv',hc,hfz⟩:=(hR.holds.at lenH).resolve_left (fun e=>by rw[e] at hlt;simp at hlt)
   rw[hv] at hv'
   injection hv' with hv1 hv2 hv3
   subst hv1
   have e0:wr.cell? ⟨g,k*5,none⟩=some (.string R.holds[k].id.key):=hc k hlt 0 _ rfl
   have e1:wr.cell? ⟨g,k*5+1,none⟩=some (.int .i64 R.holds[k].id.ver):=hc k hlt 1 _ rfl
   have e4:wr.cell? ⟨g,k*5+4,none⟩=some (.bool R.holds[k].ref):=hc k hlt 4 _ rfl
   have hst:=cntB_step (fun h:RHold=>decide (h.id=i) && h.ref == b) R.holds k hlt
   have HH:=Lib.hid hR
   clear hR hv hv2 hv3 hc hfz
   generalize cntB (fun h:RHold=>decide (h.id=i) && h.ref == b) R.holds k=c at *
   have heq:=eql_id R.holds[k].id i
   by_cases hi:R.holds[k].id=i
   ·have hd:decide (R.holds[k].id=i)=true:=by simpa using hi
    rw[hd] at heq
    simp only[hd,Bool.true_and] at hst
    clear hi hd
    cases hb:(R.holds[k].ref == b) with
    | true=>
     have HS:Hid (cntB (fun h:RHold=>decide (h.id=i) && h.ref == b) R.holds (k+1)=c+1):=(show _=_ from by rw[hst,if_pos hb])
     clear hst
     go_wp2
     go_quiet (fail)
     go_wp2
     go_roundw
     case rel=>exact⟨k+1,by omega,by go_num,by rw[HS.out];go_num,grown_trans hg2 (grown_drewN _ _)⟩
     case measure=>simp[intOf];omega
    | false=>
     have HS:Hid (cntB (fun h:RHold=>decide (h.id=i) && h.ref == b) R.holds (k+1)=c):=(show _=_ from by rw[hst,if_neg (by rw[hb];decide)];rfl)
     clear hst
     go_wp2
     go_quiet (fail)
     go_wp2
     go_roundw
     case rel=>exact⟨k+1,by omega,by go_num,by rw[HS.out],grown_trans hg2 (grown_drewN _ _)⟩
     case measure=>simp[intOf];omega
   ·have hd:decide (R.holds[k].id=i)=false:=by simpa using hi
    rw[hd] at heq
    simp only[hd,Bool.false_and] at hst
    have HS:Hid (cntB (fun h:RHold=>decide (h.id=i) && h.ref == b) R.holds (k+1)=c):=(show _=_ from by rw[hst,if_neg (by decide)];rfl)
    clear hi hd hst
    go_wp2
    go_quiet (fail)
    go_wp2
    go_roundw
    case rel=>exact⟨k+1,by omega,by go_num,by rw[HS.out],grown_trans hg2 (grown_drewN _ _)⟩
    case measure=>simp[intOf];omega
  ·have HS:Hid (cntB (fun h:RHold=>decide (h.id=i) && h.ref == b) R.holds k=res):=(show _=_ from by rw[HV.out,cntB_all _ _ _ (by omega)])
   have HH:=Lib.hid hR
   clear hR hv
   go_wp2
   go_ret
   exact⟨by rw[←HS.out];rfl,grown_trans HG.out hg2⟩
end
open Go.RowKit Go.Sf
structure RawRow (W:World) (v:Value) (l:List Int):Prop where
 ex:∃p cap,v = .slice p l.length cap∧(l = []∨∃a,p=some a∧∀j u,(bytesV l)[j]? = some u→W.cell? (a.add j)=some u)
theorem run_append_none {P:Program} (w:World) (base:Nat) (t ty e:TypeId) (i:TypeInfo) (ht:P.underlying t=some (.slice e)) (hi:P.info? e=some i) (v:Value) (n:Nat) (xs:List Value) (hown:w.ownsRow base e 1 v n xs) (cx:Nat) :
  (Builtin.append_ #[t,t] ty #[v,.slice none 0 cx]).run P w = .ok v w:=by
 rcases hown.2 with ⟨rfl,rfl⟩|⟨g,cap,cur,rfl,hbg,hg,hnc,hcm,hcs,htake⟩
 ·simp[Builtin.append_,run_underlying ht,sizeOf,typeInfo,hi,Builtin.lenOf,Builtin.firstCells]
 ·simp[Builtin.append_,run_underlying ht,sizeOf,typeInfo,hi,Builtin.lenOf,Builtin.firstCells,hnc,storeCells]
theorem wpList_raw {P:Program} (w:World) {ops:Array Oper} {rest:List Oper} {o:Oper} {a:Act} {Q:Exit→Act→World→Prop} (hgd:o.guard=none) (s x:Operand) (t e:TypeId) (hop:o.op = .call { callee:=.builtin .append,args:=#[s,x],argTypes:=#[t,t] })
  (i:TypeInfo) (ht:P.underlying t=some (.slice e)) (hi:P.info? e=some i) (hz:i.zero=some (.int .u8 0)) (hsize:i.size=1) (hby:i.bytes=1)
  (base:Nat) (v:Value) (n:Nat) (xs:List Value) (hs:a.eval s=v) (hown:w.ownsRow base e 1 v n xs) (y:Value) (l:List Int) (hx:a.eval x=y) (hy:RawRow w y l) (hk:n+l.length≤1000000000) (hbase:base≤w.heap.size)
  (h:∀v' w',w'.ownsRow base e 1 v' (n+l.length) (xs++bytesV l)→w.grownBy w' v.ownBlock→(v'.ownBlock=v.ownBlock∨v'.ownBlock=some w.heap.size)→wpList P ops Q rest (a.put o.dst v') w') :
  wpList P ops Q (o :: rest) a w:=by
 obtain⟨p,cap,rfl,hc⟩:=hy.ex
 cases p with
 | none=>
  have hl:l = []:=by
   rcases hc with h0|⟨a,ha,_⟩
   ·exact h0
   ·cases ha
  subst hl
  have hr:=run_append_none (P:=P) w base t o.type e i ht hi v n xs hown cap
  exact Go.Lib.wpList_append_run w hgd s x t t hop v _ hs hx _ _ hr (h v w (by simpa[bytesV] using hown) ⟨rfl,rfl,rfl,Nat.le_refl _,fun _ _ _=>rfl⟩ (Or.inl rfl))
 | some ad=>
  have hc':∀j u,(bytesV l)[j]? = some u→w.cell? (ad.add j)=some u:=by
   rcases hc with h0|⟨a,ha,hc⟩
   ·subst h0;intro j u hu;simp[bytesV] at hu
   ·cases ha;exact hc
  obtain⟨v',w',hr,h1,h2,h3,h4⟩:=run_append_own_at (P:=P) w base t o.type e i (.int .u8 0) 1 1 ht hi hz hsize hby rfl (by decide) v n xs hown ad l.length cap (bytesV l) (by simp[bytesV]) hc' (fun u hu=>by simp[bytesV] at hu;obtain⟨b,_,rfl⟩:=hu;rfl) (by unfold maxLen;omega) (by omega) hbase
  exact Go.Lib.wpList_append_run w hgd s x t t hop v _ hs hx _ _ hr (h v' w' h1 h2 h4)
theorem RawRow.grown {W W':World} {v:Value} {l:List Int} (h:RawRow W v l) {r:Option Nat} (hg:W.grownBy W' r) (hr:∀b p n c,r=some b→v = .slice (some p) n c→p.block≠b):RawRow W' v l:=by
 obtain⟨p,cap,rfl,hc⟩:=h.ex
 refine⟨p,cap,rfl,?_⟩
 rcases hc with h0|⟨a,rfl,hc⟩
 ·exact Or.inl h0
 ·refine Or.inr ⟨a,rfl,fun j u hu=>?_⟩
  have hb:(a.add j).block=a.block:=by unfold Addr.add;split <;> rfl
  have hcc:=hc j u hu
  refine hg.cell hcc (fun e=>hr a.block a _ _ (by rw[←e,hb]) rfl rfl)
theorem RawRow.nil {W:World} {v:Value} {l:List Int} (h:RawRow W v l) (e:v = .slice none 0 0):l = []:=by
 obtain⟨p,cap,rfl,hc⟩:=h.ex
 injection e with _ e2 _
 exact List.eq_nil_of_length_eq_zero e2
@[go_sem] theorem eqlBytesNone (n c:Nat) (w:World):(binOp BinOp.eql 25 (.slice none n c) (.slice none 0 0)).run Tryz.prog w = .ok (.bool true) w:=by kernel_rfl
@[go_sem] theorem eqlBytesSome (a:Addr) (n c:Nat) (w:World):(binOp BinOp.eql 25 (.slice (some a) n c) (.slice none 0 0)).run Tryz.prog w = .ok (.bool false) w:=by kernel_rfl
theorem raw_of_row {W:World} {base:Nat} {v:Value} {l:List Int} (h:W.ownsRow base 5 1 v l.length (bytesV l)):RawRow W v l:=by
 rcases h.2 with ⟨e1,h0⟩|⟨b,c,cur,e1,_⟩
 ·have:l = []:=List.eq_nil_of_length_eq_zero h0
  subst this
  exact⟨none,0,by rw[e1];rfl,Or.inl rfl⟩
 ·exact⟨_,_,e1,Or.inr ⟨_,rfl,h.cells (g:=b) (by rw[e1];rfl)⟩⟩
set_option maxHeartbeats 2000000 in
set_option maxRecDepth 100000 in
theorem clone_any {W:World} {v:Value} {l:List Int} (h:RawRow W v l) (hl:l.length≤100000000) (hnil:v = .slice none 0 0→l = []) :
  Calls Tryz.prog 111 #[v] W fun e w'=>∃v',e = .returned v'∧w'.ownsRow W.heap.size 5 1 v' l.length (bytesV l)∧W.grownBy w' none:=by
 obtain⟨i0,hi,hz0,hz1,hz2⟩:=info_parts infoU8
 obtain⟨p,cap,rfl,hc⟩:=h.ex
 cases p with
 | none=>
  have h0:l = []:=by
   rcases hc with h0|⟨a,ha,_⟩
   ·exact h0
   ·cases ha
  subst h0
  clear hc h
  go_enter Tryz.func111,Tryz.ntmps111
  go_wp2
  go_ret
  exact⟨_,rfl,World.ownsRow_nil _ _ _ _,grown_refl _⟩
 | some ad=>
  have H:=Lib.hid h
  have HR:Hid (∀W',W.grownBy W' none→RawRow W' (.slice (some ad) l.length cap) l):=(fun W' hg=>h.grown hg (by simp))
  clear hc h
  go_enter Tryz.func111,Tryz.ntmps111
  go_wp2_with (at_builtin;refine wpList_raw _ rfl _ _ 25 5 rfl i0 Tryz.underlying25 hi hz0 hz1 hz2 W.heap.size _ 0 [] rfl ?r0 _ l rfl (HR.out _ ?r1) (by omega) ?r2 ?_)
  case r0=>exact World.ownsRow_made W #[] 0 (Nat.le_refl _) (by unfold maxLen;omega) rfl
  case r1=>exact grown_alloc (grown_refl _) _
  case r2=>simp
  intro v' w1 ho hg hat
  have HO:=Lib.hid ho
  have HG:Hid (W.grownBy w1 none):=(show W.grownBy w1 none from ⟨hg.os,hg.tape,hg.output,Nat.le_trans (by simp) hg.size,fun k hk _=>(hg.block k (by simp;omega) (by simp[Value.ownBlock];omega)).trans ((World.grownBy_alloc W _ none).block k hk (by simp))⟩)
  clear ho hg hat
  go_wp2
  go_ret
  exact⟨_,rfl,by simpa using HO.out,HG.out⟩
set_option maxHeartbeats 2000000 in
set_option maxRecDepth 100000 in
theorem out_any {W:World} {wb base:Nat} {v:Value} {l:List Int} (h:WBox W wb base v l) (hl:l.length≤100000000) :
  Calls Tryz.prog 53 #[.pointer (some ⟨wb,0,none⟩)] W fun e w'=>∃v',e = .returned v'∧w'.ownsRow W.heap.size 5 1 v' l.length (bytesV l)∧W.grownBy w' none:=by
 have c0:W.cell? ⟨wb,0,none⟩=some v:=by simp[World.cell?,h.box]
 have hr:RawRow W v l:=raw_of_row h.row
 have HC:=Lib.hid (clone_any hr hl (fun e=>hr.nil e))
 clear h hr
 go_enter Tryz.func53,Tryz.ntmps53
 go_wp2_with (go_at_call 111;refine HC.out.mono ?_;rintro e w' ⟨v',rfl,h1,h2⟩;have HQ:=Lib.hid (And.intro h1 h2);clear h1 h2)
 go_ret
 exact⟨v',rfl,HQ.out.1,HQ.out.2⟩
theorem grown_row {W w1 w2:World} {base n:Nat} {e:TypeId} {v:Value} {xs:List Value} (h:W.grownBy w1 none) (hr:w1.ownsRow base e 1 v n xs) (hb:W.heap.size≤base) (h2:w1.grownBy w2 v.ownBlock):W.grownBy w2 none:=
 ⟨h2.os.trans h.os,h2.tape.trans h.tape,h2.output.trans h.output,Nat.le_trans h.size h2.size,fun k hk _=>
  (h2.block k (Nat.lt_of_lt_of_le hk h.size) (fun e=>by have:=(hr.lt k e.symm).1;omega)).trans (h.block k hk (by simp))⟩
set_option maxHeartbeats 4000000 in
set_option maxRecDepth 100000 in
theorem concat_any {W:World} {r:Nat} {v0 v1:Value} {l0 l1:List Int} (h0:RawRow W v0 l0) (h1:RawRow W v1 l1) (c0:W.cell? ⟨r,0,none⟩=some v0) (c1:W.cell? ⟨r,1,none⟩=some v1) (hl:l0.length+l1.length≤100000000) :
  Calls Tryz.prog 167 #[.slice (some ⟨r,0,none⟩) 2 2] W fun e w'=>∃v',e = .returned v'∧w'.ownsRow W.heap.size 5 1 v' (l0.length+l1.length) (bytesV l0++bytesV l1)∧W.grownBy w' none:=by
 obtain⟨i0,hi,hz0,hz1,hz2⟩:=info_parts infoU8
 have H0:Hid (∀W',W.grownBy W' none→RawRow W' v0 l0):=(fun W' hg=>h0.grown hg (by simp))
 have H1:Hid (∀W',W.grownBy W' none→RawRow W' v1 l1):=(fun W' hg=>h1.grown hg (by simp))
 obtain⟨p0,k0,rfl,-⟩:=h0.ex
 obtain⟨p1,k1,rfl,-⟩:=h1.ex
 have hrl:r<W.heap.size:=World.block_lt_of_cell? W _ c0
 have HC:Hid (∀W',W.grownBy W' none→W'.cell? ⟨r,0,none⟩=some (.slice p0 l0.length k0)∧W'.cell? ⟨r,1,none⟩=some (.slice p1 l1.length k1)):=(fun W' hg=>⟨hg.cell c0 (by simp),hg.cell c1 (by simp)⟩)
 clear h0 h1
 generalize hn0:l0.length=n0 at *
 generalize hn1:l1.length=n1 at *
 have HN:Hid (l0.length=n0∧l1.length=n1):=(show _∧_ from ⟨hn0,hn1⟩)
 clear hn0 hn1
 go_enter Tryz.func167,Tryz.ntmps167
 go_wp2
 go_loopw [3,11] (fun sz i wr=>W=wr∧((i = .int .i64 0∧sz = .int .i64 0)∨(i = .int .i64 1∧sz = .int .i64 n0)∨(i = .int .i64 2∧sz = .int .i64 ((n0+n1:Nat):Int)))) (fun _ i _=>2-(intOf i).toNat)
 case atStart=>exact⟨rfl,Or.inl ⟨rfl,rfl⟩⟩
 case round=>
  obtain⟨rfl,⟨rfl,rfl⟩|⟨rfl,rfl⟩|⟨rfl,rfl⟩⟩:=hrel
  ·go_wp2
   go_roundw
   case rel=>simp
   case measure=>simp[intOf]
  ·go_wp2
   go_roundw
   case rel=>simp
   case measure=>simp[intOf]
  ·go_wp2_with (go_at_call 189;refine(grow_any (n0+n1) (by omega) W).mono ?_;rintro e w1 ⟨vg,rfl,hr,hg,-⟩;have HR:=Lib.hid hr;have HG:=Lib.hid hg;clear hr hg c0 c1)
   go_loopw [6,27] (fun v i wz=>W.grownBy wz none∧((i = .int .i64 0∧wz.ownsRow W.heap.size 5 1 v 0 [])∨(i = .int .i64 1∧wz.ownsRow W.heap.size 5 1 v n0 (bytesV l0))∨(i = .int .i64 2∧wz.ownsRow W.heap.size 5 1 v (n0+n1) (bytesV l0++bytesV l1)))) (fun _ i _=>2-(intOf i).toNat)
   case atStart=>exact⟨HG.out,Or.inl ⟨rfl,HR.out⟩⟩
   case round=>
    obtain⟨hgr,⟨rfl,ho⟩|⟨rfl,ho⟩|⟨rfl,ho⟩⟩:=hrel
    ·obtain⟨c0,c1⟩:=HC.out wr hgr
     have HGR:=Lib.hid hgr
     have HO:=Lib.hid ho
     clear hgr ho
     go_wp2_with (at_builtin;refine wpList_raw _ rfl _ _ 25 5 rfl i0 Tryz.underlying25 hi hz0 hz1 hz2 W.heap.size _ 0 [] rfl HO.out _ l0 rfl (H0.out _ HGR.out) (by have:=HN.out;omega) HGR.out.size ?_;intro v2 w2 ho2 hg2 _;have HO2:=Lib.hid ho2;have HG2:=Lib.hid (grown_row HGR.out HO.out (Nat.le_refl _) hg2);clear ho2 hg2)
     go_roundw
     case rel=>exact⟨HG2.out,Or.inr (Or.inl ⟨rfl,by simpa[HN.out.1] using HO2.out⟩)⟩
     case measure=>simp[intOf]
    ·obtain⟨c0,c1⟩:=HC.out wr hgr
     have HGR:=Lib.hid hgr
     have HO:=Lib.hid ho
     clear hgr ho
     go_wp2_with (at_builtin;refine wpList_raw _ rfl _ _ 25 5 rfl i0 Tryz.underlying25 hi hz0 hz1 hz2 W.heap.size _ n0 (bytesV l0) rfl HO.out _ l1 rfl (H1.out _ HGR.out) (by have:=HN.out;omega) HGR.out.size ?_;intro v2 w2 ho2 hg2 _;have HO2:=Lib.hid ho2;have HG2:=Lib.hid (grown_row HGR.out HO.out (Nat.le_refl _) hg2);clear ho2 hg2)
     go_roundw
     case rel=>exact⟨HG2.out,Or.inr (Or.inr ⟨rfl,by simpa[HN.out.2] using HO2.out⟩)⟩
     case measure=>simp[intOf]
    ·have HGR:=Lib.hid hgr
     have HO:=Lib.hid ho
     clear hgr ho
     go_wp2
     go_ret
     exact⟨_,rfl,HO.out,HGR.out⟩
def YRow {α:Type} (W:World) (enc:α→List Value) (y:Value) (m:List α):Prop:=∃p cap,y = .slice p m.length cap∧(m = []∨∃a,p=some a∧∀j u,(m.flatMap enc)[j]? = some u→W.cell? (a.add j)=some u)
def Apped {α:Type} (W:World) (E:TypeId) (sz:Nat) (enc:α→List Value) (v:Value) (l:List α) (v':Value) (w':World):Prop:=
 SRow w' E sz enc v' l∧W.grownBy w' v.ownBlock∧(v'.ownBlock=v.ownBlock∨v'.ownBlock=some W.heap.size)
section
variable {α : Type} {P : Program} {W : World} {E : TypeId} {sz : Nat} {enc : α → List Value} {v y : Value} {l m : List α}
theorem run_sapp (he:∀x,(enc x).length=sz) (h1c:∀x,∀u∈enc x,u.oneCell'=true) (t ty:TypeId) (i:TypeInfo) (z:Value) (bytes:Nat) (ht:P.underlying t=some (.slice E)) (hi:P.info? E=some i) (hz:i.zero=some z)
  (hsize:i.size=sz) (hby:i.bytes=bytes) (hzs:z.cells.size=sz) (hsz:0<sz) (hb:bytes≤1000) (h:SRow W E sz enc v l) (hy:YRow W enc y m) (hl:l.length+m.length≤1000000000) :
  ∃v' w',(Builtin.append_ #[t,t] ty #[v,y]).run P W = .ok v' w'∧Apped W E sz enc v (l++m) v' w':=by
 obtain⟨p,cap,rfl,hc⟩:=hy
 cases p with
 | none=>
  have hm:m = []:=by
   rcases hc with h0|⟨a,ha,_⟩
   ·exact h0
   ·cases ha
  subst hm
  have e0:(Builtin.append_ #[t,t] ty #[v,.slice none 0 cap]).run P W = .ok v W:=by
   rcases h.2 with ⟨rfl,h0⟩|⟨g,c,cur,rfl,_,_,hnc,_⟩
   ·simp[Builtin.append_,run_underlying ht,sizeOf,typeInfo,hi,Builtin.lenOf,Builtin.firstCells,h0]
   ·simp[Builtin.append_,run_underlying ht,sizeOf,typeInfo,hi,Builtin.lenOf,Builtin.firstCells,hnc,storeCells]
  exact⟨v,W,e0,by rw[List.append_nil];exact h,⟨rfl,rfl,rfl,Nat.le_refl _,fun _ _ _=>rfl⟩,Or.inl rfl⟩
 | some a=>
  have hnews:∀j u,(m.flatMap enc)[j]? = some u→W.cell? (a.add j)=some u:=by
   rcases hc with h0|⟨a',ha,hc⟩
   ·subst h0;intro j u hu;simp at hu
   ·cases ha;exact hc
  have hbm:(l.length+m.length)*bytes≤140737488355328:=Nat.le_trans (Nat.mul_le_mul_left _ hb) (by omega)
  obtain⟨v',w',hr,h2,h3,h4,h5⟩:=run_append_own_at (P:=P) W 0 t ty E i z sz bytes ht hi hz hsize hby hzs hsz v l.length (l.flatMap enc) h a m.length cap (m.flatMap enc) (flat_size enc sz he m) hnews (fun u hu=>by
   obtain⟨x,_,hx⟩:=List.mem_flatMap.1 hu
   exact h1c x u hx) (by unfold maxLen;omega) hbm (Nat.zero_le _)
  refine⟨v',w',hr,?_,h3,h5⟩
  unfold SRow
  rw[List.length_append,List.flatMap_append]
  exact h2
theorem wpList_sapp (w:World) {ops:Array Oper} {rest:List Oper} {o:Oper} {a:Act} {Q:Exit→Act→World→Prop} (hgd:o.guard=none) (s x:Operand) (t:TypeId) (hop:o.op = .call { callee:=.builtin .append,args:=#[s,x],argTypes:=#[t,t] })
  (he:∀x,(enc x).length=sz) (h1c:∀x,∀u∈enc x,u.oneCell'=true) (i:TypeInfo) (z:Value) (bytes:Nat) (ht:P.underlying t=some (.slice E)) (hi:P.info? E=some i) (hz:i.zero=some z)
  (hsize:i.size=sz) (hby:i.bytes=bytes) (hzs:z.cells.size=sz) (hsz:0<sz) (hb:bytes≤1000) (hs:a.eval s=v) (h:SRow w E sz enc v l) (hx:a.eval x=y) (hy:YRow w enc y m) (hl:l.length+m.length≤1000000000) (n:Nat) (hn:l.length+m.length=n)
  (hK:∀p' cap' w',Apped w E sz enc v (l++m) (.slice p' n cap') w'→wpList P ops Q rest (a.put o.dst (.slice p' n cap')) w'):wpList P ops Q (o :: rest) a w:=by
 obtain⟨v',w',hr,h1⟩:=run_sapp (P:=P) he h1c t o.type i z bytes ht hi hz hsize hby hzs hsz hb h hy hl
 obtain⟨p',cap',rfl,-,-⟩:=h1.1.form
 rw[List.length_append,hn] at hr h1
 exact Go.Lib.wpList_append_run w hgd s x t t hop v y hs hx _ _ hr (hK p' cap' w' h1)
theorem step_sapp {ops:Array Oper} {o:Oper} {a:Act} {w:World} {K:Act→World→Prop} {Q:Exit→Act→World→Prop} {F:Prop} (hgd:o.guard=none) (s x:Operand) (t:TypeId) (hop:o.op=Op.call { callee:=Callee.builtin Builtin.append,args:=#[s,x],argTypes:=#[t,t] })
  (he:∀x,(enc x).length=sz) (h1c:∀x,∀u∈enc x,u.oneCell'=true) (i:TypeInfo) (z:Value) (bytes:Nat) (ht:P.underlying t=some (.slice E)) (hi:P.info? E=some i) (hz:i.zero=some z)
  (hsize:i.size=sz) (hby:i.bytes=bytes) (hzs:z.cells.size=sz) (hsz:0<sz) (hb:bytes≤1000) (hs:a.eval s=v) (h:SRow w E sz enc v l) (hx:a.eval x=y) (hy:YRow w enc y m) (hl:l.length+m.length≤1000000000) (n:Nat) (hn:l.length+m.length=n)
  (hK:∀p' cap' w',Apped w E sz enc v (l++m) (.slice p' n cap') w'→K (a.put o.dst (.slice p' n cap')) w'):if Region.wanted o (yielded ops a.tmps)=true then Oper.wp P o a w K Q else F:=by
 have hw:Region.wanted o (yielded ops a.tmps)=true:=by simp[Region.wanted,hgd]
 rw[if_pos hw]
 obtain⟨v',w',hr,h1⟩:=run_sapp (P:=P) he h1c t o.type i z bytes ht hi hz hsize hby hzs hsz hb h hy hl
 obtain⟨p',cap',rfl,-,-⟩:=h1.1.form
 rw[List.length_append,hn] at hr h1
 exact Go.Lib.wp_append_run w s x t t hop v y hs hx _ _ hr (hK p' cap' w' h1)
end
def setsL:List Value→Nat→List Value→List Value
 | xs,_,[]=>xs
 | xs,o,a :: r=>setsL (xs.set o a) (o+1) r
theorem setsL_right (A:List Value):∀(news F:List Value) (o:Nat),setsL (A++F) (A.length+o) news=A++setsL F o news
 | [],F,o=>rfl
 | a :: r,F,o=>by
  simp only[setsL]
  rw[List.set_append_right _ _ (by omega)]
  have e:A.length+o-A.length=o:=by omega
  rw[e,Nat.add_assoc]
  exact setsL_right A r _ _
theorem setsL_left:∀(news B A F:List Value),B.length=news.length→setsL (A++B++F) A.length news=A++news++F
 | [],B,A,F,h=>by
  have:B = []:=List.eq_nil_of_length_eq_zero (by simpa using h)
  subst this;simp[setsL]
 | a :: r,[],A,F,h=>by simp at h
 | a :: r,b :: B,A,F,h=>by
  simp only[setsL]
  have e1:(A++b :: B++F).set A.length a=(A ++ [a])++B++F:=by
   rw[List.append_assoc,List.set_append_right _ _ (Nat.le_refl _)]
   simp
  have e2:A.length+1=(A ++ [a]).length:=by simp
  rw[e1,e2,setsL_left r B (A ++ [a]) F (by simpa using h)]
  simp
theorem setsL_flat {α:Type} (enc:α→List Value) (sz:Nat) (he:∀x,(enc x).length=sz) (x:α):∀(l:List α) (k:Nat),k<l.length→setsL (l.flatMap enc) (k*sz) (enc x)=(l.set k x).flatMap enc
 | [],k,h=>by simp at h
 | y :: r,0,h=>by
  simp only[List.flatMap_cons,List.set_cons_zero,Nat.zero_mul]
  have:=setsL_left (enc x) (enc y) [] (r.flatMap enc) (by rw[he,he])
  simpa using this
 | y :: r,k+1,h=>by
  simp only[List.flatMap_cons,List.set_cons_succ]
  have e:(k+1)*sz=(enc y).length+k*sz:=by rw[he,Nat.succ_mul];omega
  rw[e,setsL_right,setsL_flat enc sz he x r k (by simpa using h)]
section
variable {α : Type} {W : World} {E : TypeId} {sz : Nat} {enc : α → List Value} {l : List α} {g n cap : Nat}
theorem own_sets:∀(news:List Value) (W:World) (xs:List Value) (o:Nat),W.ownsRow 0 E sz (.slice (some ⟨g,0,none⟩) n cap) n xs→(news.foldl (fun (p:World × Nat) u=>(p.1.setCell ⟨g,p.2,none⟩ u,p.2+1)) (W,o)).1.ownsRow 0 E sz (.slice (some ⟨g,0,none⟩) n cap) n (setsL xs o news)∧W.grownBy (news.foldl (fun (p:World × Nat) u=>(p.1.setCell ⟨g,p.2,none⟩ u,p.2+1)) (W,o)).1 (some g)
 | [],W,xs,o,h=>⟨h,rfl,rfl,rfl,Nat.le_refl _,fun _ _ _=>rfl⟩
 | a :: r,W,xs,o,h=>by
  obtain⟨h1,h2⟩:=World.ownsRow.stored h o a
  obtain⟨h3,h4⟩:=own_sets r _ _ (o+1) h1
  exact⟨h3,h4.os.trans h2.os,h4.tape.trans h2.tape,h4.output.trans h2.output,Nat.le_trans h2.size h4.size,fun k hk hn=>(h4.block k (Nat.lt_of_lt_of_le hk h2.size) hn).trans (h2.block k hk hn)⟩
theorem SRow.put (he:∀x,(enc x).length=sz) (h:SRow W E sz enc (.slice (some ⟨g,0,none⟩) l.length cap) l) (x:α) (k:Nat) (hk:k<l.length) :
  SRow ((enc x).foldl (fun (p:World × Nat) u=>(p.1.setCell ⟨g,p.2,none⟩ u,p.2+1)) (W,k*sz)).1 E sz enc (.slice (some ⟨g,0,none⟩) l.length cap) (l.set k x)∧W.grownBy ((enc x).foldl (fun (p:World × Nat) u=>(p.1.setCell ⟨g,p.2,none⟩ u,p.2+1)) (W,k*sz)).1 (some g):=by
 obtain⟨h1,h2⟩:=own_sets (enc x) W (l.flatMap enc) (k*sz) h
 rw[setsL_flat enc sz he x l k hk] at h1
 refine⟨?_,h2⟩
 unfold SRow
 rw[List.length_set]
 exact h1
end
theorem oneC:∀x,∀u∈cellsC x,u.oneCell'=true:=fun x u hu=>by
 simp only[cellsC,List.mem_cons,List.not_mem_nil,or_false] at hu
 rcases hu with rfl|rfl|rfl|rfl|rfl <;> rfl
theorem oneV:∀x,∀u∈cellsV x,u.oneCell'=true:=fun x u hu=>by
 simp only[cellsV,List.mem_cons,List.not_mem_nil,or_false] at hu
 rcases hu with rfl|rfl|rfl <;> rfl
theorem oneP:∀x,∀u∈cellsP x,u.oneCell'=true:=fun x u hu=>by
 simp only[cellsP,List.mem_cons,List.not_mem_nil,or_false] at hu
 rcases hu with rfl|rfl|rfl|rfl <;> rfl
theorem oneH:∀x,∀u∈cellsH x,u.oneCell'=true:=fun x u hu=>by
 simp only[cellsH,List.mem_cons,List.not_mem_nil,or_false] at hu
 rcases hu with rfl|rfl|rfl|rfl|rfl <;> rfl
theorem infoC:(Tryz.prog.info? 193).map (fun i=>(i.zero,i.size,i.bytes))=some (some (.agg #[.int .i64 0,.int .i64 0,.int .i64 0,.bool false,.int .i64 0]),5,40):=by kernel_rfl
theorem infoV:(Tryz.prog.info? 202).map (fun i=>(i.zero,i.size,i.bytes))=some (some (.agg #[.string ⟨#[]⟩,.int .i64 0,.bool false]),3,32):=by kernel_rfl
theorem infoP:(Tryz.prog.info? 190).map (fun i=>(i.zero,i.size,i.bytes))=some (some (.agg #[.string ⟨#[]⟩,.int .i64 0,.int .i64 0,.int .i64 0]),4,40):=by kernel_rfl
theorem infoH:(Tryz.prog.info? 197).map (fun i=>(i.zero,i.size,i.bytes))=some (some (.agg #[.string ⟨#[]⟩,.int .i64 0,.int .i64 0,.int .i64 0,.bool false]),5,48):=by kernel_rfl
end Go.Proofs.YtjfelfjobeeenaaGreat
