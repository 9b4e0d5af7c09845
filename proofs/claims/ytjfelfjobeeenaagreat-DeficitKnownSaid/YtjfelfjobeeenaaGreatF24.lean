/- What Missing's closure answers: does a node hold an id? Conditions: a table that lies in memory; the closure's boxes. slices.IndexFunc and slices.DeleteFunc at ids, over a row of the call's own: walked. Conditions: the predicate answers a plain one in whatever world is grown from here, but for the row. slices.DeleteFunc at ids, over a row: walked. Conditions: the predicate answers a plain one wherever these blocks, none of which is the row's, lie as they lay. slices.DeleteFunc at ids: the walk. Conditions: as Mis2's. -/
import Derived.Test.YtjfelfjobeeenaaGreatF10
import Derived.Test.YtjfelfjobeeenaaGreatF19
import Derived.Laws.IdiomCopy
import Derived.Test.YtjfelfjobeeenaaGreatF16
set_option linter.unusedSimpArgs false
set_option linter.unusedVariables false
namespace Go.Proofs.YtjfelfjobeeenaaGreat
open Go.RowKit Go.Sf Go.Shelf
def hasB (T:Tab) (n:Int) (i:ID):Bool:=decide (n∈memH T.holds i)
def notHas (T:Tab) (n:Int) (i:ID):Bool:=!hasB T n i
theorem mget_unit (l:List Int) (n:Int):(mget (l.map fun n=>(n,())) n).isSome=decide (n∈l):=by
 induction l with
 | nil=>simp[mget]
 | cons x r ih=>
  simp only[List.map_cons,mget,List.mem_cons]
  by_cases h:x=n
  ·subst h;simp
  ·rw[if_neg h]
   have:¬n=x:=fun e=>h e.symm
   rw[ih];simp[this]
theorem run_hasSet (s:NSet) (n:Int) (W:World) (h:SetT W s):(Instr.lookup 127 (.map (some s.blk)) (.int .i64 n) true).run Tryz.prog W = .ok (.tuple #[.agg #[],.bool (decide (n∈s.mem))]) W:=by
 have h1:=MapT.lookup keInt Tryz.underlying127 (zeroUnit W) h n true
 rw[mget_unit] at h1
 refine h1.trans ?_
 cases mget (s.mem.map fun n=>(n,())) n <;> rfl
theorem run_hasNil (n:Int) (W:World):(Instr.lookup 127 (.map none) (.int .i64 n) true).run Tryz.prog W = .ok (.tuple #[.agg #[],.bool false]) W:=by kernel_rfl
section
variable {w : World}
set_option maxRecDepth 100000 in
theorem has_any (s:NSet) (h:SetT w s) (n:Int):Calls Tryz.prog 104 #[.map (some s.blk),.int .i64 n] w fun e w'=>e = .returned (.bool (decide (n∈s.mem)))∧w.grownBy w' none:=by
 have hl:=run_hasSet s n w h
 clear h
 generalize decide (n∈s.mem)=d at *
 go_enter Tryz.func104,Tryz.ntmps104
 go_wp2
 go_ret
 exact⟨rfl,World.grownBy_alloc _ _ _⟩
set_option maxRecDepth 100000 in
theorem has_nil (n:Int):Calls Tryz.prog 104 #[.map none,.int .i64 n] w fun e w'=>e = .returned (.bool false)∧w.grownBy w' none:=by
 have hl:=fun W=>run_hasNil n W
 go_enter Tryz.func104,Tryz.ntmps104
 go_wp2
 go_ret
 exact⟨rfl,World.grownBy_alloc _ _ _⟩
variable {tb : Nat} {T : Tab}
set_option maxHeartbeats 4000000 in
set_option maxRecDepth 100000 in
theorem mis1_any (h:TRep w tb T) (i:ID) (n:Int) (b1 b2:Nat) (h1:w.cell? ⟨b1,0,none⟩=some (.pointer (some ⟨tb,0,none⟩))) (h2:w.cell? ⟨b2,0,none⟩=some (.int .i64 n)) :
  Calls Tryz.prog 103 #[encID i,.pointer (some ⟨b1,0,none⟩),.pointer (some ⟨b2,0,none⟩)] w fun e w'=>e = .returned (.bool (hasB T n i))∧w.grownBy w' none:=by
 obtain⟨k,v⟩:=i
 have l1:=cell_lt h1
 have l2:=cell_lt h2
 have htb:=h.tlt
 simp only[encID]
 cases hr:mget T.holds ⟨k,v⟩ with
 | none=>
  have hl:=run_setsT T.hb T.holds k v none hr
  have HM:Hid (hasB T n ⟨k,v⟩=false):=(show _=_ from by unfold hasB memH;rw[hr];simp)
  have c7:=h.c7
  have hh:=h.holds
  simp only[Option.map_none] at hl
  have HN:Hid (∀W:World,Calls Tryz.prog 104 #[.map none,.int .i64 n] W fun e w'=>e = .returned (.bool false)∧W.grownBy w' none):=fun W=>has_nil n
  clear h
  go_enter Tryz.func103,Tryz.ntmps103
  go_wp2
  refine wp_region_quiet_ext (by kernel_rfl) (by kernel_rfl) ?_
  repeat (any_goals (first|go_big_quiet_step ((go_at_call 104;exact calls_ext (HN.out _)))|quiet_step ((go_at_call 104;exact calls_ext (HN.out _)))))
  refine wpQuiet_nil ?_
  intro _ hw'
  obtain⟨x,hw''⟩:=hw'
  subst hw''
  go_wp2
  go_ret
  exact⟨by rw[HM.out];rfl,by repeat (first|exact grown_refl _|exact World.grownBy_alloc _ _ _|refine grown_ext' ?_ _|refine grown_alloc ?_ _|refine grown_drew ?_)⟩
 | some s=>
  have hl:=run_setsT T.hb T.holds k v (some s) hr
  have HM:Hid (hasB T n ⟨k,v⟩=decide (n∈s.mem)):=(show _=_ from by unfold hasB memH;rw[hr];rfl)
  have c7:=h.c7
  have hh:=h.holds
  have hs:=h.hsets _ (mget_mem hr)
  simp only[Option.map_some] at hl
  have HN:Hid (∀W:World,w.grownBy W none→Calls Tryz.prog 104 #[.map (some s.blk),.int .i64 n] W fun e w'=>e = .returned (.bool (decide (n∈s.mem)))∧W.grownBy w' none):=fun W hg=>has_any s (MapT.kept hs hg (by simp)) n
  clear h hs
  generalize decide (n∈s.mem)=d at *
  go_enter Tryz.func103,Tryz.ntmps103
  go_wp2
  refine wp_region_quiet_ext (by kernel_rfl) (by kernel_rfl) ?_
  repeat (any_goals (first|go_big_quiet_step ((go_at_call 104;exact calls_ext (HN.out _ (by repeat (first|exact grown_refl _|exact World.grownBy_alloc _ _ _|refine grown_ext' ?_ _|refine grown_alloc ?_ _|refine grown_drew ?_)))))|quiet_step ((go_at_call 104;exact calls_ext (HN.out _ (by repeat (first|exact grown_refl _|exact World.grownBy_alloc _ _ _|refine grown_ext' ?_ _|refine grown_alloc ?_ _|refine grown_drew ?_)))))))
  refine wpQuiet_nil ?_
  intro _ hw'
  obtain⟨x,hw''⟩:=hw'
  subst hw''
  go_wp2
  go_ret
  exact⟨by rw[HM.out];rfl,by repeat (first|exact grown_refl _|exact World.grownBy_alloc _ _ _|refine grown_ext' ?_ _|refine grown_alloc ?_ _|refine grown_drew ?_)⟩
end
def PredI (W:World) (fv:Value) (f:ID→Bool) (bs:Nat→Prop):Prop:=
 ∃g cap,fv = .func (.func g) #[] cap∧(∀args w,(callFunc g args).run Tryz.prog w = .ok (.enter g args) w)∧∀(i:ID) (w:World),(∀k,bs k→w.heap[k]? = W.heap[k]?)→W.heap.size≤w.heap.size→Calls Tryz.prog g (#[encID i]++cap) w fun e w'=>e = .returned (.bool (f i))∧w.grownBy w' none
section
variable {W : World} {bs : Nat → Prop}
set_option maxHeartbeats 4000000 in
set_option maxRecDepth 100000 in
theorem idxF_any {fv:Value} {f:ID→Bool} (hf:PredI W fv f bs) {v:Value} {l:List ID} (h:LRead W 2 idCells v l) (hl:l.length≤1000000) (hbs:∀k,bs k→k<W.heap.size) :
  Calls Tryz.prog 163 #[v,fv] W fun e w'=>e = .returned (.int .i64 (firstI f l))∧W.grownBy w' none:=by
 obtain⟨pv,cv,rfl,hv⟩:=h
 obtain⟨g,cap,rfl,hent,hcall⟩:=hf
 have HV:=Lib.hid hv
 have HC:=Lib.hid hcall
 have HB:=Lib.hid hbs
 clear hv hcall hbs
 go_enter Tryz.func163,Tryz.ntmps163
 go_wp2
 go_loopw [8] (fun x wr=>∃k:Nat,k≤l.length∧x = .int .i64 k∧NoneB f l k∧W.grownBy wr none) (fun x _=>l.length-(intOf x).toNat)
 case atStart=>exact⟨0,Nat.zero_le _,rfl,noneB_zero,grown_refl _⟩
 case round=>
  obtain⟨k,hk,rfl,hno,hg⟩:=hrel
  have HNO:=Lib.hid hno
  have HG:=Lib.hid hg
  clear hno
  by_cases hlt:k<l.length
  ·obtain⟨ga,rfl,ea⟩:=HV.out.resolve_left (fun e=>by rw[e] at hlt;simp at hlt)
   have fa:wr.cell? ⟨ga,k*2,none⟩=some (.string l[k].key):=hg.cell (ea k hlt 0 _ rfl) (by simp)
   have fa1:wr.cell? ⟨ga,k*2+1,none⟩=some (.int .i64 l[k].ver):=hg.cell (ea k hlt 1 _ rfl) (by simp)
   have HCL:Hid (Calls Tryz.prog g (#[.agg #[.string l[k].key,.int .i64 l[k].ver]]++cap) wr fun e w'=>e = .returned (.bool (f l[k]))∧wr.grownBy w' none):=(show Calls _ _ _ _ _ from HC.out l[k] wr (fun b hb=>HG.out.block b (HB.out b hb) (by simp)) HG.out.size)
   clear ea hg
   cases hp:f l[k] with
   | true=>
    rw[hp] at HCL
    have HH:=Lib.hid (firstI_hit HNO.out hlt hp)
    clear hp
    generalize l[k]=z at *
    go_wp2_with (go_at_fn g;refine HCL.out.mono ?_;rintro e w1 ⟨rfl,hg1⟩;have HG1:=Lib.hid hg1;clear hg1)
    go_ret
    exact⟨by rw[HH.out];rfl,grown_trans HG.out HG1.out⟩
   | false=>
    rw[hp] at HCL
    have HN:=Lib.hid (HNO.out.step hlt hp)
    clear hp
    generalize l[k]=z at *
    go_wp2_with (go_at_fn g;refine HCL.out.mono ?_;rintro e w1 ⟨rfl,hg1⟩;have HG1:=Lib.hid hg1;clear hg1)
    go_roundw
    case rel=>exact⟨k+1,by omega,by go_num,HN.out,grown_trans HG.out HG1.out⟩
    case measure=>simp[intOf];omega
  ·obtain rfl:k=l.length:=by omega
   clear hg
   go_wp2
   go_ret
   exact⟨by rw[firstI_none HNO.out (Nat.le_refl _)];rfl,HG.out⟩
end
theorem run_clear_many {P:Program} (w:World) (t e ty:TypeId) (z:Value) (ht:P.underlying t=some (.slice e)) (hv:∀w,(zeroValue e).run P w = .ok z w) (b o n c:Nat) (hn:0<n)
  (h1:∀v∈(Builtin.zeroCells z.cells n).toList,v.oneCell'=true) (hc:∀j,j<n*z.cells.size→(w.cell? ⟨b,o+j,none⟩).isSome=true) (hf:∀j,j<n*z.cells.size→w.frozen? ⟨b,o+j,none⟩=false) :
  (Builtin.clear_ #[t] ty #[.slice (some ⟨b,o,none⟩) n c]).run P w = .ok (.tuple #[]) (w.setCells b o (Builtin.zeroCells z.cells n).toList):=by
 have hl:(Builtin.zeroCells z.cells n).toList.length=n*z.cells.size:=by simp[Builtin.zeroCells]
 have hst:=run_storeCells_cells (P:=P) b o (Builtin.zeroCells z.cells n).toList 0 w (by rw[hl];simpa using hc) (by rw[hl];simpa using hf) h1
 simp only[Nat.add_zero] at hst
 obtain⟨m,rfl⟩:∃m,n=m+1:=⟨n-1,by omega⟩
 simp[Builtin.clear_,run_underlying ht,hv,hst]
theorem grown_setCells (b:Nat):∀(vs:List Value) (o:Nat) (w:World),w.grownBy (w.setCells b o vs) (some b)
 | [],o,w=>⟨rfl,rfl,rfl,Nat.le_refl _,fun _ _ _=>rfl⟩
 | v :: r,o,w=>by
  have h:=grown_setCells b r (o+1) (w.setCell ⟨b,o,none⟩ v)
  exact⟨h.os,h.tape,h.output,Nat.le_trans (by simp[World.setCell]) h.size,fun k hk hn=>(h.block k (by simpa[World.setCell] using hk) hn).trans (Below.heap_setCell w _ _ k (fun e=>hn (by show some k=some b;rw[e])))⟩
structure KI (f:ID→Bool) (l:List ID) (j i:Nat) (d:List ID):Prop where
 len:d.length=l.length
 lt:i<j
 low:d.take i=(l.take j).filter fun x=>!f x
 high:∀t,i≤t→d[t]? = l[t]?
section
variable {f : ID → Bool} {l d : List ID} {i j : Nat}
theorem KI.start {k:Nat} (hno:NoneB f l k) (hk:k<l.length) (hf:f l[k]=true):KI f l (k+1) k l:=by
 refine⟨rfl,Nat.lt_succ_self _,?_,fun _ _=>rfl⟩
 rw[List.take_succ_eq_append_getElem hk,List.filter_append]
 have h1:(l.take k).filter (fun x=>!f x)=l.take k:=by
  rw[List.filter_eq_self]
  intro x hx
  obtain⟨a,ha,rfl⟩:=List.getElem_of_mem hx
  rw[List.length_take] at ha
  rw[List.getElem_take,hno a (by omega) (by omega)];rfl
 rw[h1];simp[hf]
theorem KI.skip (h:KI f l j i d) (hj:j<l.length) (hf:f l[j]=true):KI f l (j+1) i d:=by
 refine⟨h.len,by have:=h.lt;omega,?_,h.high⟩
 rw[List.take_succ_eq_append_getElem hj,List.filter_append,h.low];simp[hf]
theorem KI.keep (h:KI f l j i d) (hj:j<l.length) (hf:f l[j]=false):KI f l (j+1) (i+1) (d.set i l[j]):=by
 have hl:=h.len
 have hlt:=h.lt
 refine⟨by rw[List.length_set];exact hl,by omega,?_,fun t ht=>?_⟩
 ·rw[List.take_succ_eq_append_getElem hj,List.filter_append,←h.low,List.take_succ_eq_append_getElem (by rw[List.length_set];omega),List.getElem_set_self,List.take_set,List.set_eq_of_length_le (by rw[List.length_take];omega)]
  simp[hf]
 ·rw[List.getElem?_set_ne (by omega)]
  exact h.high t (by omega)
theorem KI.at (h:KI f l j i d) (hj:j<l.length):∃hd:j<d.length,d[j]=l[j]:=by
 have hd:j<d.length:=by rw[h.len];exact hj
 have:=h.high j (Nat.le_of_lt h.lt)
 rw[List.getElem?_eq_getElem hd,List.getElem?_eq_getElem hj] at this
 exact⟨hd,Option.some.inj this⟩
theorem KI.done (h:KI f l l.length i d):d.take i=l.filter fun x=>!f x:=by rw[h.low,List.take_length]
theorem filter_none (hno:NoneB f l l.length):(l.filter fun x=>!f x)=l:=by
 rw[List.filter_eq_self]
 intro x hx
 obtain⟨a,ha,rfl⟩:=List.getElem_of_mem hx
 rw[hno a ha ha];rfl
theorem firstI_neg (h:firstI f l = -1):NoneB f l l.length:=by
 unfold firstI at h
 cases e:l.findIdx? f with
 | some k=>rw[e] at h;simp only at h;omega
 | none=>
  intro a ha _
  have:=(List.findIdx?_eq_none_iff.1 e) l[a] (List.getElem_mem ha)
  simpa using this
theorem firstI_pos (h:firstI f l≠-1):∃k:Nat,firstI f l=k∧∃hk:k<l.length,f l[k]=true∧NoneB f l k:=by
 unfold firstI at *
 cases e:l.findIdx? f with
 | none=>rw[e] at h;exact absurd rfl h
 | some k=>
  obtain⟨hk,hf,hno⟩:=List.findIdx?_eq_some_iff_getElem.1 e
  exact⟨k,rfl,hk,hf,fun a ha hak=>by have:=hno a hak;simpa using this⟩
end
theorem zeroID (w:World):(zeroValue 54).run Tryz.prog w = .ok (.agg #[.string ⟨#[]⟩,.int .i64 0]) w:=by kernel_rfl
theorem zerosID (n:Nat):∀v∈(Builtin.zeroCells (Value.agg #[.string ⟨#[]⟩,.int .i64 0]).cells n).toList,v.oneCell'=true:=by
 intro v hv
 simp only[Builtin.zeroCells,Value.cells,Array.toList_map,List.mem_map] at hv
 obtain⟨a,_,rfl⟩:=hv
 have:a%2=0∨a%2=1:=by omega
 rcases this with h|h <;> simp[h] <;> rfl
theorem lread_head {W w:World} {E:TypeId} {g cap i n:Nat} {d:List ID} (h:SRow W E 2 idCells (.slice (some ⟨g,0,none⟩) n cap) d) (hi:i≤d.length) (hw:∀k,k<i*2→w.cell? ⟨g,k,none⟩=W.cell? ⟨g,k,none⟩):LRead w 2 idCells (.slice (some ⟨g,0,none⟩) i cap) (d.take i):=by
 refine⟨some ⟨g,0,none⟩,cap,by rw[List.length_take,Nat.min_eq_left hi],?_⟩
 rcases h.at lenID with h0|⟨g',c',e,hc,-⟩
 ·left;rw[h0];simp
 ·injection e with e1 e2 e3
  cases e1
  refine Or.inr ⟨g,rfl,fun a ha j u hu=>?_⟩
  have ha':a<i:=by rw[List.length_take] at ha;omega
  rw[List.getElem_take] at hu
  have hj:j<2:=by
   have:=(List.getElem?_eq_some_iff.1 hu).1
   simpa[idCells] using this
  rw[hw _ (by omega)]
  exact hc a (by omega) j u hu
section
variable {W : World} {bs : Nat → Prop}
set_option maxHeartbeats 8000000 in
set_option maxRecDepth 100000 in
theorem delF_any {fv:Value} {f:ID→Bool} (hf:PredI W fv f bs) {v:Value} {l:List ID} (h:SRow W 54 2 idCells v l) (hl:l.length≤1000000) (hbs:∀k,bs k→k<W.heap.size) (hown:∀g,v.ownBlock=some g→¬bs g) :
  Calls Tryz.prog 105 #[v,fv] W fun e w'=>∃v',e = .returned v'∧LRead w' 2 idCells v' (l.filter fun i=>!f i)∧W.grownBy w' v.ownBlock:=by
 have HIX:=Lib.hid (idxF_any hf (h.lread lenID) hl hbs)
 obtain⟨gf,cap,rfl,hent,hcall⟩:=hf
 have HC:=Lib.hid hcall
 have HB:=Lib.hid hbs
 have HOW:=Lib.hid hown
 clear hcall hbs hown
 by_cases hx:firstI f l = -1
 ·have hno:=firstI_neg hx
  rw[hx] at HIX
  rw[filter_none hno]
  obtain⟨p,c,rfl,-,-⟩:=h.form
  have HR:=Lib.hid h
  clear h hno hx
  go_enter Tryz.func105,Tryz.ntmps105
  go_wp2_with (go_at_call 163;refine HIX.out.mono ?_;rintro e w1 ⟨rfl,hg⟩;have HG:=Lib.hid hg;clear hg)
  go_ret
  have hr1:SRow w1 54 2 idCells (.slice p l.length c) l:=HR.out.grown HG.out (by simp)
  exact⟨_,rfl,hr1.lread lenID,⟨HG.out.os,HG.out.tape,HG.out.output,HG.out.size,fun k hk _=>HG.out.block k hk (by simp)⟩⟩
 ·obtain⟨k0,hk0,hkl,hft,hno⟩:=firstI_pos hx
  rw[hk0] at HIX
  obtain⟨g,c,rfl,-,-⟩:=(h.at lenID).resolve_left (fun e=>by rw[e] at hkl;simp at hkl)
  obtain⟨p2,c2,e2,hcb,hcl⟩:=h.form
  injection e2 with e21 e22 e23
  subst e23
  have HR:=Lib.hid h
  have HK:=Lib.hid (KI.start hno hkl hft)
  have hne:((k0:Int) == -1)=false:=beq_eq_false_iff_ne.2 (by omega)
  have HNG:Hid (¬bs g):=(show ¬bs g from HOW.out g rfl)
  have HGS:Hid (g<W.heap.size):=(show g<_ from h.lt rfl)
  have hz:=zeroID
  clear h hno hft hx hk0 e21 e22
  go_enter Tryz.func105,Tryz.ntmps105
  go_wp2_with (go_at_call 163;refine HIX.out.mono ?_;rintro e w1 ⟨rfl,hg⟩;have HG:=Lib.hid hg;clear hg)
  go_loopw [5,6] (fun x y wr=>∃(i j:Nat) (d:List ID),x = .int .i64 i∧y = .int .i64 j∧j≤l.length∧KI f l j i d∧SRow wr 54 2 idCells (.slice (some ⟨g,0,none⟩) l.length c) d∧W.grownBy wr (some g)) (fun _ y _=>l.length-(intOf y).toNat)
  case atStart=>exact⟨k0,k0+1,l,rfl,by go_num,by omega,HK.out,HR.out.grown HG.out (by simp),⟨HG.out.os,HG.out.tape,HG.out.output,HG.out.size,fun k hk _=>HG.out.block k hk (by simp)⟩⟩
  case round=>
   obtain⟨i,j,d,rfl,rfl,hj,hki,hrow,hg⟩:=hrel
   have hij:=hki.lt
   have hdl:=hki.len
   have HKI:=Lib.hid hki
   have HROW:=Lib.hid hrow
   have HGW:=Lib.hid hg
   have hgs:g<wr.heap.size:=Nat.lt_of_lt_of_le HGS.out hg.size
   by_cases hlt:j<l.length
   ·obtain⟨hd,hdj⟩:=hki.at hlt
    obtain⟨g',c',e,hc,hfz⟩:=(hrow.at lenID).resolve_left (fun e=>by rw[e] at hd;simp at hd)
    injection e with e1 e2 e3
    cases e1
    have e0:wr.cell? ⟨g,j*2,none⟩=some (.string l[j].key):=by rw[←hdj];exact hc j hd 0 _ rfl
    have e1:wr.cell? ⟨g,j*2+1,none⟩=some (.int .i64 l[j].ver):=by rw[←hdj];exact hc j hd 1 _ rfl
    have hid:i<d.length:=by omega
    have q0:wr.cell? ⟨g,i*2,none⟩=some (.string d[i].key):=hc i hid 0 _ rfl
    have q1:wr.cell? ⟨g,i*2+1,none⟩=some (.int .i64 d[i].ver):=hc i hid 1 _ rfl
    have z0:=hfz (i*2)
    have z1:=hfz (i*2+1)
    have HCL:Hid (∀w,wr.grownBy w none→Calls Tryz.prog gf (#[.agg #[.string l[j].key,.int .i64 l[j].ver]]++cap) w fun e w'=>e = .returned (.bool (f l[j]))∧w.grownBy w' none):=(show ∀_,_→Calls _ _ _ _ _ from fun w hw=>HC.out l[j] w (fun b hb=>(hw.block b (Nat.lt_of_lt_of_le (HB.out b hb) HGW.out.size) (by simp)).trans (HGW.out.block b (HB.out b hb) (fun e=>HNG.out (by cases e;exact hb)))) (Nat.le_trans HGW.out.size hw.size))
    have HST:=Lib.hid (fun hfj=>hki.skip hlt hfj)
    have HKP:=Lib.hid (fun hfj=>hki.keep hlt hfj)
    clear hki hrow hg hc hfz e2 e3 hdj
    cases hp:f l[j] with
    | true=>
     rw[hp] at HCL
     have HS2:=Lib.hid (HST.out hp)
     clear hp HST HKP
     generalize l[j]=z at *
     clear q0 q1 z0 z1
     go_upto_region 8 with fail
     have G1:=Lib.hid (World.grownBy_alloc wr (.cells #[.string z.key,.int .i64 z.ver] 54) none)
     have hcl:=HCL.out _ G1.out
     go_wp2_with (go_at_fn gf;refine hcl.mono ?_;rintro e w2 ⟨rfl,hg2⟩;have HG2:=Lib.hid (grown_trans G1.out hg2);clear hg2)
     go_roundw
     case rel=>exact⟨i,j+1,d,rfl,by go_num,by omega,HS2.out,HROW.out.grown HG2.out (by simp),⟨HG2.out.os.trans HGW.out.os,HG2.out.tape.trans HGW.out.tape,HG2.out.output.trans HGW.out.output,Nat.le_trans HGW.out.size HG2.out.size,fun k hk hn=>(HG2.out.block k (Nat.lt_of_lt_of_le hk HGW.out.size) (by simp)).trans (HGW.out.block k hk hn)⟩⟩
     case measure=>simp[intOf];omega
    | false=>
     rw[hp] at HCL
     have HS2:=Lib.hid (HKP.out hp)
     clear hp HST HKP
     generalize l[j]=z at *
     clear q0 q1 z0 z1
     have HD:=Lib.hid hid
     go_upto_region 8 with fail
     have G1:=Lib.hid (World.grownBy_alloc wr (.cells #[.string z.key,.int .i64 z.ver] 54) none)
     have hcl:=HCL.out _ G1.out
     have B1:=Lib.hid (heap_alloc_new wr (.cells #[.string z.key,.int .i64 z.ver] 54))
     have HSZ:Hid (wr.heap.size<(wr.alloc (.cells #[.string z.key,.int .i64 z.ver] 54)).heap.size):=(show _<_ from by simp)
     generalize wr.alloc (.cells #[.string z.key,.int .i64 z.ver] 54)=wa at *
     have a0:wa.cell? ⟨wr.heap.size,0,none⟩=some (.string z.key):=(cell_block B1.out 0).trans rfl
     have a1:wa.cell? ⟨wr.heap.size,1,none⟩=some (.int .i64 z.ver):=(cell_block B1.out 1).trans rfl
     go_upto_region 9 with (go_at_fn gf;refine hcl.mono ?_;rintro e w2 ⟨rfl,hg2⟩;have HG2:=Lib.hid (grown_trans G1.out hg2);have HB2:=Lib.hid ((hg2.block _ HSZ.out (by simp)).trans B1.out);clear hg2)
     have HR2:=Lib.hid (HROW.out.grown HG2.out (by simp))
     have b0:w2.cell? ⟨wr.heap.size,0,none⟩=some (.string z.key):=(cell_block HB2.out 0).trans rfl
     have b1:w2.cell? ⟨wr.heap.size,1,none⟩=some (.int .i64 z.ver):=(cell_block HB2.out 1).trans rfl
     obtain⟨g2,c2,e,hc2,hfz2⟩:=(HR2.out.at lenID).resolve_left (fun e=>by rw[e] at hid;simp at hid)
     injection e with e1 e2 e3
     cases e1
     have q0:w2.cell? ⟨g,i*2,none⟩=some (.string d[i].key):=hc2 i hid 0 _ rfl
     have q1:w2.cell? ⟨g,i*2+1,none⟩=some (.int .i64 d[i].ver):=hc2 i hid 1 _ rfl
     have z0:=hfz2 (i*2)
     have z1:=hfz2 (i*2+1)
     have HP:Hid _:=Lib.hid (SRow.put lenID (l:=d) (W:=w2) (g:=g) (cap:=c) (by rw[hdl];exact HR2.out) z i hid)
     simp only[idCells,List.foldl_cons,List.foldl_nil] at HP
     rw[hdl] at HP
     clear hc2 hfz2 e2 e3
     generalize d[i]=y at *
     go_wp2
     go_roundw
     case rel=>exact⟨i+1,j+1,d.set i z,by go_num,by go_num,by omega,HS2.out,HP.out.1,⟨HP.out.2.os.trans (HG2.out.os.trans HGW.out.os),HP.out.2.tape.trans (HG2.out.tape.trans HGW.out.tape),HP.out.2.output.trans (HG2.out.output.trans HGW.out.output),Nat.le_trans HGW.out.size (Nat.le_trans HG2.out.size HP.out.2.size),fun k hk hn=>(HP.out.2.block k (Nat.lt_of_lt_of_le hk (Nat.le_trans HGW.out.size HG2.out.size)) hn).trans ((HG2.out.block k (Nat.lt_of_lt_of_le hk HGW.out.size) (by simp)).trans (HGW.out.block k hk hn))⟩⟩
     case measure=>simp[intOf];omega
   ·obtain rfl:j=l.length:=by omega
    have hsz:(Builtin.zeroCells (Value.agg #[.string ⟨#[]⟩,.int .i64 0]).cells (l.length-i)).toList.length=(l.length-i)*2:=by simp[Builtin.zeroCells,Value.cells]
    have HF:Hid (d.take i=l.filter fun x=>!f x):=(show _=_ from hki.done)
    have hcell:∀t,t<l.length*2→(wr.cell? ⟨g,t,none⟩).isSome=true:=fun t ht=>by
     have h1:wr.ownsRow 0 54 2 (.slice (some ⟨g,0,none⟩) l.length c) l.length (d.flatMap idCells):=(by have h2:=hrow;unfold SRow at h2;rw[hdl] at h2;exact h2)
     rw[World.ownsRow.cellAt h1 t ht,List.getElem?_eq_getElem (by rw[flat_size idCells 2 lenID,hdl];exact ht)]
     rfl
    have hclr:∀ty,(Builtin.clear_ #[66] ty #[.slice (some ⟨g,i*2,none⟩) (l.length-i) (c-i)]).run Tryz.prog wr = .ok (.tuple #[]) (wr.setCells g (i*2) (Builtin.zeroCells (Value.agg #[.string ⟨#[]⟩,.int .i64 0]).cells (l.length-i)).toList):=fun ty=>
     run_clear_many wr _ _ ty _ Tryz.underlying66 hz g (i*2) _ _ (by omega) (zerosID _) (fun t ht=>hcell _ (by simp[Value.cells] at ht;omega)) (fun t _=>by
      rcases hrow.at lenID with h0|⟨g',c',e,_,hfz⟩
      ·rw[h0] at hdl;simp at hdl;omega
      ·injection e with e1 e2 e3;cases e1;exact hfz _)
    generalize (Builtin.zeroCells (Value.agg #[.string ⟨#[]⟩,.int .i64 0]).cells (l.length-i)).toList=zs at *
    have HZ:=Lib.hid hsz
    clear hki hrow hg hcell hsz
    go_wp2
    go_ret
    refine⟨_,rfl,?_,?_⟩
    ·rw[←HF.out]
     refine lread_head HROW.out (by omega) fun t ht=>?_
     exact World.cell?_setCells_out g zs (i*2) wr _ (fun _ _=>Or.inl ht)
    ·have h1:=grown_setCells g zs (i*2) wr
     exact⟨h1.os.trans HGW.out.os,h1.tape.trans HGW.out.tape,h1.output.trans HGW.out.output,Nat.le_trans HGW.out.size h1.size,fun k hk hn=>(h1.block k (Nat.lt_of_lt_of_le hk HGW.out.size) hn).trans (HGW.out.block k hk hn)⟩
end
end Go.Proofs.YtjfelfjobeeenaaGreat
