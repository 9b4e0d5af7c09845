/- slices.IndexFunc and slices.DeleteFunc at ids, over a row of the call's own: walked. Conditions: the predicate answers a plain one in whatever world is grown from here, but for the row. slices.DeleteFunc at ids, over a row: walked. Conditions: the predicate answers a plain one wherever these blocks, none of which is the row's, lie as they lay. slices.DeleteFunc at ids: the walk. Conditions: as Mis2's. The example that the laws fall back on: works() answers true. The running state of a law over a table, with blocks of its own; a table's calls at it. Conditions: a table that commands have made. -/
import Derived.Test.YtjfelfjobeeenaaGreatP11
import Derived.Test.YtjfelfjobeeenaaGreatP19
import Derived.Laws.IdiomCopy
import Derived.Test.YtjfelfjobeeenaaGreatP15
namespace Go.Proofs.YtjfelfjobeeenaaGreat
set_option linter.unusedVariables false
set_option linter.unusedSimpArgs false
open Go.RowKit Go.Sf Go.Shelf
def PredI (W:World) (fv:Value) (f:ID→Bool) (bs:Nat→Prop):Prop:=
 ∃g cap,fv = .func (.func g) #[] cap∧(∀args w,(callFunc g args).run Tryz.prog w = .ok (.enter g args) w)∧∀(i:ID) (w:World),(∀k,bs k→w.heap[k]? = W.heap[k]?)→W.heap.size≤w.heap.size→Calls Tryz.prog g (#[encID i]++cap) w fun e w'=>e = .returned (.bool (f i))∧w.grownBy w' none
section
variable {W : World} {bs : Nat → Prop}
set_option maxHeartbeats 4000000 in
set_option maxRecDepth 100000 in
theorem idxF_any {fv:Value} {f:ID→Bool} (hf:PredI W fv f bs) {v:Value} {l:List ID} (h:LRead W 2 idCells v l) (hl:l.length≤1000000) (hbs:∀k,bs k→k<W.heap.size) :
  Calls Tryz.prog 163 #[v,fv] W fun e w'=>e = .returned (.int .i64 (firstI f l))∧W.grownBy w' none:=by
 obtain⟨pv,cv,rfl,hv⟩:=h
 obtain⟨g,cap,rfl,hent,hcall⟩:=hf
 have HV:=Lib.hid hv
 have HC:=Lib.hid hcall
 have HB:=Lib.hid hbs
 clear hv hcall hbs
 go_enter Tryz.func163,Tryz.ntmps163
 go_wp2
 go_loopw [8] (fun x wr=>∃k:Nat,k≤l.length∧x = .int .i64 k∧NoneB f l k∧W.grownBy wr none) (fun x _=>l.length-(intOf x).toNat)
 case atStart=>exact⟨0,Nat.zero_le _,rfl,noneB_zero,grown_refl _⟩
 case round=>
  obtain⟨k,hk,rfl,hno,hg⟩:=hrel
  have HNO:=Lib.hid hno
  have HG:=Lib.hid hg
  clear hno
  by_cases hlt:k<l.length
  ·obtain⟨ga,rfl,ea⟩:=HV.out.resolve_left (fun e=>by rw[e] at hlt;simp at hlt)
   have fa:wr.cell? ⟨ga,k*2,none⟩=some (.string l[k].key):=hg.cell (ea k hlt 0 _ rfl) (by simp)
   have fa1:wr.cell? ⟨ga,k*2+1,none⟩=some (.int .i64 l[k].ver):=hg.cell (ea k hlt 1 _ rfl) (by simp)
   have HCL:Hid (Calls Tryz.prog g (#[.agg #[.string l[k].key,.int .i64 l[k].ver]]++cap) wr fun e w'=>e = .returned (.bool (f l[k]))∧wr.grownBy w' none):=(show Calls _ _ _ _ _ from HC.out l[k] wr (fun b hb=>HG.out.block b (HB.out b hb) (by simp)) HG.out.size)
   clear ea hg
   cases hp:f l[k] with
   | true=>
    rw[hp] at HCL
    have HH:=Lib.hid (firstI_hit HNO.out hlt hp)
    clear hp
    generalize l[k]=z at *
    go_wp2_with (go_at_fn g;refine HCL.out.mono ?_;rintro e w1 ⟨rfl,hg1⟩;have HG1:=Lib.hid hg1;clear hg1)
    go_ret
    exact⟨by rw[HH.out];rfl,grown_trans HG.out HG1.out⟩
   | false=>
    rw[hp] at HCL
    have HN:=Lib.hid (HNO.out.step hlt hp)
    clear hp
    generalize l[k]=z at *
    go_wp2_with (go_at_fn g;refine HCL.out.mono ?_;rintro e w1 ⟨rfl,hg1⟩;have HG1:=Lib.hid hg1;clear hg1)
    go_roundw
    case rel=>exact⟨k+1,by omega,by go_num,HN.out,grown_trans HG.out HG1.out⟩
    case measure=>simp[intOf];omega
  ·obtain rfl:k=l.length:=by omega
   clear hg
   go_wp2
   go_ret
   exact⟨by rw[firstI_none HNO.out (Nat.le_refl _)];rfl,HG.out⟩
end
theorem run_clear_many {P:Program} (w:World) (t e ty:TypeId) (z:Value) (ht:P.underlying t=some (.slice e)) (hv:∀w,(zeroValue e).run P w = .ok z w) (b o n c:Nat) (hn:0<n)
  (h1:∀v∈(Builtin.zeroCells z.cells n).toList,v.oneCell'=true) (hc:∀j,j<n*z.cells.size→(w.cell? ⟨b,o+j,none⟩).isSome=true) (hf:∀j,j<n*z.cells.size→w.frozen? ⟨b,o+j,none⟩=false) :
  (Builtin.clear_ #[t] ty #[.slice (some ⟨b,o,none⟩) n c]).run P w = .ok (.tuple #[]) (w.setCells b o (Builtin.zeroCells z.cells n).toList):=by
 have hl:(Builtin.zeroCells z.cells n).toList.length=n*z.cells.size:=by simp[Builtin.zeroCells]
 have hst:=run_storeCells_cells (P:=P) b o (Builtin.zeroCells z.cells n).toList 0 w (by rw[hl];simpa using hc) (by rw[hl];simpa using hf) h1
 simp only[Nat.add_zero] at hst
 obtain⟨m,rfl⟩:∃m,n=m+1:=⟨n-1,by omega⟩
 simp[Builtin.clear_,run_underlying ht,hv,hst]
theorem grown_setCells (b:Nat):∀(vs:List Value) (o:Nat) (w:World),w.grownBy (w.setCells b o vs) (some b)
 | [],o,w=>⟨rfl,rfl,rfl,Nat.le_refl _,fun _ _ _=>rfl⟩
 | v :: r,o,w=>by
  have h:=grown_setCells b r (o+1) (w.setCell ⟨b,o,none⟩ v)
  exact⟨h.os,h.tape,h.output,Nat.le_trans (by simp[World.setCell]) h.size,fun k hk hn=>(h.block k (by simpa[World.setCell] using hk) hn).trans (Below.heap_setCell w _ _ k (fun e=>hn (by show some k=some b;rw[e])))⟩
structure KI (f:ID→Bool) (l:List ID) (j i:Nat) (d:List ID):Prop where
 len:d.length=l.length
 lt:i<j
 low:d.take i=(l.take j).filter fun x=>!f x
 high:∀t,i≤t→d[t]? = l[t]?
section
variable {f : ID → Bool} {l d : List ID} {i j : Nat}
theorem KI.start {k:Nat} (hno:NoneB f l k) (hk:k<l.length) (hf:f l[k]=true):KI f l (k+1) k l:=by
 refine⟨rfl,Nat.lt_succ_self _,?_,fun _ _=>rfl⟩
 rw[List.take_succ_eq_append_getElem hk,List.filter_append]
 have h1:(l.take k).filter (fun x=>!f x)=l.take k:=by
  rw[List.filter_eq_self]
  intro x hx
  obtain⟨a,ha,rfl⟩:=List.getElem_of_mem hx
  rw[List.length_take] at ha
  rw[List.getElem_take,hno a (by omega) (by omega)];rfl
 rw[h1];simp[hf]
theorem KI.skip (h:KI f l j i d) (hj:j<l.length) (hf:f l[j]=true):KI f l (j+1) i d:=by
 refine⟨h.len,by have:=h.lt;omega,?_,h.high⟩
 rw[List.take_succ_eq_append_getElem hj,List.filter_append,h.low];simp[hf]
theorem KI.keep (h:KI f l j i d) (hj:j<l.length) (hf:f l[j]=false):KI f l (j+1) (i+1) (d.set i l[j]):=by
 have hl:=h.len
 have hlt:=h.lt
 refine⟨by rw[List.length_set];exact hl,by omega,?_,fun t ht=>?_⟩
 ·rw[List.take_succ_eq_append_getElem hj,List.filter_append,←h.low,List.take_succ_eq_append_getElem (by rw[List.length_set];omega),List.getElem_set_self,List.take_set,List.set_eq_of_length_le (by rw[List.length_take];omega)]
  simp[hf]
 ·rw[List.getElem?_set_ne (by omega)]
  exact h.high t (by omega)
theorem KI.at (h:KI f l j i d) (hj:j<l.length):∃hd:j<d.length,d[j]=l[j]:=by
 have hd:j<d.length:=by rw[h.len];exact hj
 have:=h.high j (Nat.le_of_lt h.lt)
 rw[List.getElem?_eq_getElem hd,List.getElem?_eq_getElem hj] at this
 exact⟨hd,Option.some.inj this⟩
theorem KI.done (h:KI f l l.length i d):d.take i=l.filter fun x=>!f x:=by rw[h.low,List.take_length]
theorem filter_none (hno:NoneB f l l.length):(l.filter fun x=>!f x)=l:=by
 rw[List.filter_eq_self]
 intro x hx
 obtain⟨a,ha,rfl⟩:=List.getElem_of_mem hx
 rw[hno a ha ha];rfl
theorem firstI_neg (h:firstI f l = -1):NoneB f l l.length:=by
 unfold firstI at h
 cases e:l.findIdx? f with
 | some k=>rw[e] at h;simp only at h;omega
 | none=>
  intro a ha _
  have:=(List.findIdx?_eq_none_iff.1 e) l[a] (List.getElem_mem ha)
  simpa using this
theorem firstI_pos (h:firstI f l≠-1):∃k:Nat,firstI f l=k∧∃hk:k<l.length,f l[k]=true∧NoneB f l k:=by
 unfold firstI at *
 cases e:l.findIdx? f with
 | none=>rw[e] at h;exact absurd rfl h
 | some k=>
  obtain⟨hk,hf,hno⟩:=List.findIdx?_eq_some_iff_getElem.1 e
  exact⟨k,rfl,hk,hf,fun a ha hak=>by have:=hno a hak;simpa using this⟩
end
theorem zeroID (w:World):(zeroValue 54).run Tryz.prog w = .ok (.agg #[.string ⟨#[]⟩,.int .i64 0]) w:=by kernel_rfl
theorem zerosID (n:Nat):∀v∈(Builtin.zeroCells (Value.agg #[.string ⟨#[]⟩,.int .i64 0]).cells n).toList,v.oneCell'=true:=by
 intro v hv
 simp only[Builtin.zeroCells,Value.cells,Array.toList_map,List.mem_map] at hv
 obtain⟨a,_,rfl⟩:=hv
 have:a%2=0∨a%2=1:=by omega
 rcases this with h|h <;> simp[h] <;> rfl
theorem lread_head {W w:World} {E:TypeId} {g cap i n:Nat} {d:List ID} (h:SRow W E 2 idCells (.slice (some ⟨g,0,none⟩) n cap) d) (hi:i≤d.length) (hw:∀k,k<i*2→w.cell? ⟨g,k,none⟩=W.cell? ⟨g,k,none⟩):LRead w 2 idCells (.slice (some ⟨g,0,none⟩) i cap) (d.take i):=by
 refine⟨some ⟨g,0,none⟩,cap,by rw[List.length_take,Nat.min_eq_left hi],?_⟩
 rcases h.at lenID with h0|⟨g',c',e,hc,-⟩
 ·left;rw[h0];simp
 ·injection e with e1 e2 e3
  cases e1
  refine Or.inr ⟨g,rfl,fun a ha j u hu=>?_⟩
  have ha':a<i:=by rw[List.length_take] at ha;omega
  rw[List.getElem_take] at hu
  have hj:j<2:=by
   have:=(List.getElem?_eq_some_iff.1 hu).1
   simpa[idCells] using this
  rw[hw _ (by omega)]
  exact hc a (by omega) j u hu
section
variable {W : World} {bs : Nat → Prop}
set_option maxHeartbeats 8000000 in
set_option maxRecDepth 100000 in
theorem delF_any {fv:Value} {f:ID→Bool} (hf:PredI W fv f bs) {v:Value} {l:List ID} (h:SRow W 54 2 idCells v l) (hl:l.length≤1000000) (hbs:∀k,bs k→k<W.heap.size) (hown:∀g,v.ownBlock=some g→¬bs g) :
  Calls Tryz.prog 105 #[v,fv] W fun e w'=>∃v',e = .returned v'∧LRead w' 2 idCells v' (l.filter fun i=>!f i)∧W.grownBy w' v.ownBlock:=by
 have HIX:=Lib.hid (idxF_any hf (h.lread lenID) hl hbs)
 obtain⟨gf,cap,rfl,hent,hcall⟩:=hf
 have HC:=Lib.hid hcall
 have HB:=Lib.hid hbs
 have HOW:=Lib.hid hown
 clear hcall hbs hown
 by_cases hx:firstI f l = -1
 ·have hno:=firstI_neg hx
  rw[hx] at HIX
  rw[filter_none hno]
  obtain⟨p,c,rfl,-,-⟩:=h.form
  have HR:=Lib.hid h
  clear h hno hx
  go_enter Tryz.func105,Tryz.ntmps105
  go_wp2_with (go_at_call 163;refine HIX.out.mono ?_;rintro e w1 ⟨rfl,hg⟩;have HG:=Lib.hid hg;clear hg)
  go_ret
  have hr1:SRow w1 54 2 idCells (.slice p l.length c) l:=HR.out.grown HG.out (by simp)
  exact⟨_,rfl,hr1.lread lenID,⟨HG.out.os,HG.out.tape,HG.out.output,HG.out.size,fun k hk _=>HG.out.block k hk (by simp)⟩⟩
 ·obtain⟨k0,hk0,hkl,hft,hno⟩:=firstI_pos hx
  rw[hk0] at HIX
  obtain⟨g,c,rfl,-,-⟩:=(h.at lenID).resolve_left (fun e=>by rw[e] at hkl;simp at hkl)
  obtain⟨p2,c2,e2,hcb,hcl⟩:=h.form
  injection e2 with e21 e22 e23
  subst e23
  have HR:=Lib.hid h
  have HK:=Lib.hid (KI.start hno hkl hft)
  have hne:((k0:Int) == -1)=false:=beq_eq_false_iff_ne.2 (by omega)
  have HNG:Hid (¬bs g):=(show ¬bs g from HOW.out g rfl)
  have HGS:Hid (g<W.heap.size):=(show g<_ from h.lt rfl)
  have hz:=zeroID
  clear h hno hft hx hk0 e21 e22
  go_enter Tryz.func105,Tryz.ntmps105
  go_wp2_with (go_at_call 163;refine HIX.out.mono ?_;rintro e w1 ⟨rfl,hg⟩;have HG:=Lib.hid hg;clear hg)
  go_loopw [5,6] (fun x y wr=>∃(i j:Nat) (d:List ID),x = .int .i64 i∧y = .int .i64 j∧j≤l.length∧KI f l j i d∧SRow wr 54 2 idCells (.slice (some ⟨g,0,none⟩) l.length c) d∧W.grownBy wr (some g)) (fun _ y _=>l.length-(intOf y).toNat)
  case atStart=>exact⟨k0,k0+1,l,rfl,by go_num,by omega,HK.out,HR.out.grown HG.out (by simp),⟨HG.out.os,HG.out.tape,HG.out.output,HG.out.size,fun k hk _=>HG.out.block k hk (by simp)⟩⟩
  case round=>
   obtain⟨i,j,d,rfl,rfl,hj,hki,hrow,hg⟩:=hrel
   have hij:=hki.lt
   have hdl:=hki.len
   have HKI:=Lib.hid hki
   have HROW:=Lib.hid hrow
   have HGW:=Lib.hid hg
   have hgs:g<wr.heap.size:=Nat.lt_of_lt_of_le HGS.out hg.size
   by_cases hlt:j<l.length
   ·obtain⟨hd,hdj⟩:=hki.at hlt
    obtain⟨g',c',e,hc,hfz⟩:=(hrow.at lenID).resolve_left (fun e=>by rw[e] at hd;simp at hd)
    injection e with e1 e2 e3
    cases e1
    have e0:wr.cell? ⟨g,j*2,none⟩=some (.string l[j].key):=by rw[←hdj];exact hc j hd 0 _ rfl
    have e1:wr.cell? ⟨g,j*2+1,none⟩=some (.int .i64 l[j].ver):=by rw[←hdj];exact hc j hd 1 _ rfl
    have hid:i<d.length:=by omega
    have q0:wr.cell? ⟨g,i*2,none⟩=some (.string d[i].key):=hc i hid 0 _ rfl
    have q1:wr.cell? ⟨g,i*2+1,none⟩=some (.int .i64 d[i].ver):=hc i hid 1 _ rfl
    have z0:=hfz (i*2)
    have z1:=hfz (i*2+1)
    have HCL:Hid (∀w,wr.grownBy w none→Calls Tryz.prog gf (#[.agg #[.string l[j].key,.int .i64 l[j].ver]]++cap) w fun e w'=>e = .returned (.bool (f l[j]))∧w.grownBy w' none):=(show ∀_,_→Calls _ _ _ _ _ from fun w hw=>HC.out l[j] w (fun b hb=>(hw.block b (Nat.lt_of_lt_of_le (HB.out b hb) HGW.out.size) (by simp)).trans (HGW.out.block b (HB.out b hb) (fun e=>HNG.out (by cases e;exact hb)))) (Nat.le_trans HGW.out.size hw.size))
    have HST:=Lib.hid (fun hfj=>hki.skip hlt hfj)
    have HKP:=Lib.hid (fun hfj=>hki.keep hlt hfj)
    clear hki hrow hg hc hfz e2 e3 hdj
    cases hp:f l[j] with
    | true=>
     rw[hp] at HCL
     have HS2:=Lib.hid (HST.out hp)
     clear hp HST HKP
     generalize l[j]=z at *
     clear q0 q1 z0 z1
     go_upto_region 8 with fail
     have G1:=Lib.hid (World.grownBy_alloc wr (.cells #[.string z.key,.int .i64 z.ver] 54) none)
     have hcl:=HCL.out _ G1.out
     go_wp2_with (go_at_fn gf;refine hcl.mono ?_;rintro e w2 ⟨rfl,hg2⟩;have HG2:=Lib.hid (grown_trans G1.out hg2);clear hg2)
     go_roundw
     case rel=>exact⟨i,j+1,d,rfl,by go_num,by omega,HS2.out,HROW.out.grown HG2.out (by simp),⟨HG2.out.os.trans HGW.out.os,HG2.out.tape.trans HGW.out.tape,HG2.out.output.trans HGW.out.output,Nat.le_trans HGW.out.size HG2.out.size,fun k hk hn=>(HG2.out.block k (Nat.lt_of_lt_of_le hk HGW.out.size) (by simp)).trans (HGW.out.block k hk hn)⟩⟩
     case measure=>simp[intOf];omega
    | false=>
     rw[hp] at HCL
     have HS2:=Lib.hid (HKP.out hp)
     clear hp HST HKP
     generalize l[j]=z at *
     clear q0 q1 z0 z1
     have HD:=Lib.hid hid
     go_upto_region 8 with fail
     have G1:=Lib.hid (World.grownBy_alloc wr (.cells #[.string z.key,.int .i64 z.ver] 54) none)
     have hcl:=HCL.out _ G1.out
     have B1:=Lib.hid (heap_alloc_new wr (.cells #[.string z.key,.int .i64 z.ver] 54))
     have HSZ:Hid (wr.heap.size<(wr.alloc (.cells #[.string z.key,.int .i64 z.ver] 54)).heap.size):=(show _<_ from by simp)
     generalize wr.alloc (.cells #[.string z.key,.int .i64 z.ver] 54)=wa at *
     have a0:wa.cell? ⟨wr.heap.size,0,none⟩=some (.string z.key):=(cell_block B1.out 0).trans rfl
     have a1:wa.cell? ⟨wr.heap.size,1,none⟩=some (.int .i64 z.ver):=(cell_block B1.out 1).trans rfl
     go_upto_region 9 with (go_at_fn gf;refine hcl.mono ?_;rintro e w2 ⟨rfl,hg2⟩;have HG2:=Lib.hid (grown_trans G1.out hg2);have HB2:=Lib.hid ((hg2.block _ HSZ.out (by simp)).trans B1.out);clear hg2)
     have HR2:=Lib.hid (HROW.out.grown HG2.out (by simp))
     have b0:w2.cell? ⟨wr.heap.size,0,none⟩=some (.string z.key):=(cell_block HB2.out 0).trans rfl
     have b1:w2.cell? ⟨wr.heap.size,1,none⟩=some (.int .i64 z.ver):=(cell_block HB2.out 1).trans rfl
     obtain⟨g2,c2,e,hc2,hfz2⟩:=(HR2.out.at lenID).resolve_left (fun e=>by rw[e] at hid;simp at hid)
     injection e with e1 e2 e3
     cases e1
     have q0:w2.cell? ⟨g,i*2,none⟩=some (.string d[i].key):=hc2 i hid 0 _ rfl
     have q1:w2.cell? ⟨g,i*2+1,none⟩=some (.int .i64 d[i].ver):=hc2 i hid 1 _ rfl
     have z0:=hfz2 (i*2)
     have z1:=hfz2 (i*2+1)
     have HP:Hid _:=Lib.hid (SRow.put lenID (l:=d) (W:=w2) (g:=g) (cap:=c) (by rw[hdl];exact HR2.out) z i hid)
     simp only[idCells,List.foldl_cons,List.foldl_nil] at HP
     rw[hdl] at HP
     clear hc2 hfz2 e2 e3
     generalize d[i]=y at *
     go_wp2
     go_roundw
     case rel=>exact⟨i+1,j+1,d.set i z,by go_num,by go_num,by omega,HS2.out,HP.out.1,⟨HP.out.2.os.trans (HG2.out.os.trans HGW.out.os),HP.out.2.tape.trans (HG2.out.tape.trans HGW.out.tape),HP.out.2.output.trans (HG2.out.output.trans HGW.out.output),Nat.le_trans HGW.out.size (Nat.le_trans HG2.out.size HP.out.2.size),fun k hk hn=>(HP.out.2.block k (Nat.lt_of_lt_of_le hk (Nat.le_trans HGW.out.size HG2.out.size)) hn).trans ((HG2.out.block k (Nat.lt_of_lt_of_le hk HGW.out.size) (by simp)).trans (HGW.out.block k hk hn))⟩⟩
     case measure=>simp[intOf];omega
   ·obtain rfl:j=l.length:=by omega
    have hsz:(Builtin.zeroCells (Value.agg #[.string ⟨#[]⟩,.int .i64 0]).cells (l.length-i)).toList.length=(l.length-i)*2:=by simp[Builtin.zeroCells,Value.cells]
    have HF:Hid (d.take i=l.filter fun x=>!f x):=(show _=_ from hki.done)
    have hcell:∀t,t<l.length*2→(wr.cell? ⟨g,t,none⟩).isSome=true:=fun t ht=>by
     have h1:wr.ownsRow 0 54 2 (.slice (some ⟨g,0,none⟩) l.length c) l.length (d.flatMap idCells):=(by have h2:=hrow;unfold SRow at h2;rw[hdl] at h2;exact h2)
     rw[World.ownsRow.cellAt h1 t ht,List.getElem?_eq_getElem (by rw[flat_size idCells 2 lenID,hdl];exact ht)]
     rfl
    have hclr:∀ty,(Builtin.clear_ #[66] ty #[.slice (some ⟨g,i*2,none⟩) (l.length-i) (c-i)]).run Tryz.prog wr = .ok (.tuple #[]) (wr.setCells g (i*2) (Builtin.zeroCells (Value.agg #[.string ⟨#[]⟩,.int .i64 0]).cells (l.length-i)).toList):=fun ty=>
     run_clear_many wr _ _ ty _ Tryz.underlying66 hz g (i*2) _ _ (by omega) (zerosID _) (fun t ht=>hcell _ (by simp[Value.cells] at ht;omega)) (fun t _=>by
      rcases hrow.at lenID with h0|⟨g',c',e,_,hfz⟩
      ·rw[h0] at hdl;simp at hdl;omega
      ·injection e with e1 e2 e3;cases e1;exact hfz _)
    generalize (Builtin.zeroCells (Value.agg #[.string ⟨#[]⟩,.int .i64 0]).cells (l.length-i)).toList=zs at *
    have HZ:=Lib.hid hsz
    clear hki hrow hg hcell hsz
    go_wp2
    go_ret
    refine⟨_,rfl,?_,?_⟩
    ·rw[←HF.out]
     refine lread_head HROW.out (by omega) fun t ht=>?_
     exact World.cell?_setCells_out g zs (i*2) wr _ (fun _ _=>Or.inl ht)
    ·have h1:=grown_setCells g zs (i*2) wr
     exact⟨h1.os.trans HGW.out.os,h1.tape.trans HGW.out.tape,h1.output.trans HGW.out.output,Nat.le_trans HGW.out.size h1.size,fun k hk hn=>(h1.block k (Nat.lt_of_lt_of_le hk HGW.out.size) hn).trans (HGW.out.block k hk hn)⟩
end
@[go_sem] theorem fieldCall2 (r1 r2 r4:Int) (r3:Bool) (w:World):(Instr.field 77 (.agg #[.int .i64 r1,.int .i64 r2,.bool r3,.int .i64 r4]) 2).run Tryz.prog w = .ok (.bool r3) w:=by kernel_rfl
@[go_sem] theorem fieldCall3 (r1 r2 r4:Int) (r3:Bool) (w:World):(Instr.field 77 (.agg #[.int .i64 r1,.int .i64 r2,.bool r3,.int .i64 r4]) 3).run Tryz.prog w = .ok (.int .i64 r4) w:=by kernel_rfl
def aK:ByteArray:=⟨#[97]⟩
def aI:ID:=⟨aK,1⟩
def wkD:Cmd:=⟨1,0,0,0,0,0,⟨#[]⟩,0⟩
def wkC:List Cmd:=[⟨1,0,0,0,0,0,⟨#[]⟩,0⟩,⟨1,0,0,0,0,0,⟨#[]⟩,0⟩,⟨2,0,0,1,0,0,⟨#[]⟩,0⟩,⟨2,1,0,2,0,0,⟨#[]⟩,0⟩,⟨3,0,9,0,1,0,aK,0⟩,⟨4,0,0,1,0,1,aK,0⟩,⟨4,1,0,1,0,1,aK,0⟩]
def wkL (k:Nat):Tab:=(wkC.take k).foldl stepT (newT 3 2 0).norm
def wk8:Tab:=stepT (wkL 7) ⟨4,1,0,2,0,1,aK,0⟩
def wk9:Tab:=stepT wk8 ⟨6,0,9,0,2,0,aK,0⟩
theorem wkL_succ (k:Nat) (hk:k<7):wkL (k+1)=stepT (wkL k) (wkC.getD k wkD):=by
 unfold wkL
 have hl:wkC.length=7:=rfl
 rw[List.take_add_one,List.foldl_append,List.getD_eq_getElem?_getD,List.getElem?_eq_getElem (by omega)]
 rfl
theorem ok_of {T:Tab} (hr:T.refuses = []) (o0:0≤T.offers) (o1:T.offers<4611686018427387904) (n0:0≤T.next) (n1:T.next<4611686018427387904) (ln:T.lives.length≤9223372036854775807):T.Ok:=
 ⟨o0,o1,n0,n1,ln,fun i=>by rw[hr];simp[memH,mget]⟩
def goodB (L:Tab) (c:Cmd):Bool:=decide (L.refuses = []) && decide (0≤L.offers∧L.offers<4611686018427387904∧0≤L.next∧L.next<4611686018427387904∧L.lives.length≤9223372036854775807) && mayB c && decide (c.node<(L.lives.length:Int)∧1≤c.kind∧c.kind≤7∧0≤c.node∧(c.key.size:Int)≤9223372036854775807)
theorem do_good {bs:Nat→Prop} {w:World} {tb:Nat} {L:Tab} (h:At bs w tb L) (c:Cmd) (hg:goodB L c=true) (hbs:∀k,w.heap.size≤k→bs k) :
  Calls Tryz.prog 22 #[.pointer (some ⟨tb,0,none⟩),encCmd c] w fun e w'=>e = .returned (.int .i64 0)∧At bs w' tb (stepT L c)∧Out bs w w':=by
 simp only[goodB,Bool.and_eq_true,decide_eq_true_eq] at hg
 obtain⟨⟨⟨hr,o0,o1,n0,n1,ln⟩,hm⟩,hn,h1,h7,hn0,hk⟩:=hg
 exact do_at h c hk (ok_of hr o0 o1 n0 n1 ln) hm hn h1 h7 hn0 hbs
theorem ints_form {w w':World} {v:Value} {l:List Int} (h:Ints w w' v l):∃p cap,v = .slice p l.length cap:=by
 rcases h.1.2 with ⟨hv,h0⟩|⟨g,cap,cur,hv,_⟩
 ·exact⟨none,0,by rw[hv,h0]⟩
 ·exact⟨_,cap,hv⟩
theorem ids_form {base:Nat} {w':World} {v:Value} {l:List ID} (h:IdRow base w' v l):∃p cap,v = .slice p l.length cap:=by
 rcases h.2 with ⟨hv,h0⟩|⟨g,cap,cur,hv,_⟩
 ·exact⟨none,0,by rw[hv,h0]⟩
 ·exact⟨_,cap,hv⟩
theorem holdL_length (T:Tab) (i:ID):(holdL T i).length=(memH T.holds i).length:=by simp[holdL]
theorem curL_length (T:Tab):(curL T).length=((T.values.map fun p=>p.1.data.toList).filterMap (curAt T)).length:=
 ((List.mergeSort_perm _ _).filterMap _).length_eq
theorem wk_good:∀k,k<7→goodB (wkL k) (wkC.getD k wkD)=true:=by decide +kernel
theorem wk_good8:goodB (wkL 7) ⟨4,1,0,2,0,1,aK,0⟩=true:=by decide +kernel
theorem wk_good9:goodB wk8 ⟨6,0,9,0,2,0,aK,0⟩=true:=by decide +kernel
theorem wk_a1:look (wkL 7) aK=0:=by decide +kernel
theorem wk_a2:wantedB (wkL 7) aI=true:=by decide +kernel
theorem wk_a3:(callV (wkL 7) 9).req=1∧(callV (wkL 7) 9).ver=1∧(callV (wkL 7) 9).done=false∧(callV (wkL 7) 9).code=0:=by decide +kernel
theorem wk_a4:memH (wkL 7).holds aI = [0]:=by decide +kernel
theorem fits_small {l:List Int} (h:(∀n∈l,0≤n∧n<1000000)∧l.length≤1000000):Fits l:=
 ⟨fun n hn=>by
  have:=h.1 n hn
  have e1:IntKind.min .i64 = -9223372036854775808:=by decide +kernel
  have e2:IntKind.max .i64=9223372036854775807:=by decide +kernel
  simp only[Lit.wf,e1,e2,Bool.and_eq_true,decide_eq_true_eq];omega,h.2⟩
theorem wk_a5:Fits (memH (wkL 7).holds aI):=fits_small (by rw[wk_a4];decide)
theorem wk_a6:(memH (wkL 7).holds aI).length=1:=by rw[wk_a4];rfl
theorem wk_b1:look wk8 aK=1:=by decide +kernel
theorem wk_b2:(callV wk8 9).req=1∧(callV wk8 9).ver=1∧(callV wk8 9).done=true∧(callV wk8 9).code=0:=by decide +kernel
theorem wk_b4:memH wk8.holds aI = [0,1]:=by decide +kernel
theorem wk_b7:Fits (memH wk8.holds aI):=fits_small (by rw[wk_b4];decide)
theorem wk_b8:(memH wk8.holds aI).length=2:=by rw[wk_b4];rfl
theorem wk_b5:((wk8.values.map fun p=>p.1.data.toList).filterMap (curAt wk8)).length=1:=by decide +kernel
theorem wk_b6:(∀p∈wk8.values,p.1.size≤64)∧wk8.values.length≤1000000:=by decide +kernel
theorem wk_c1:look wk9 aK=0:=by decide +kernel
theorem wk_c2:((wk9.values.map fun p=>p.1.data.toList).filterMap (curAt wk9)).length=0:=by decide +kernel
theorem wk_c3:(∀p∈wk9.values,p.1.size≤64)∧wk9.values.length≤1000000:=by decide +kernel
theorem wk_c4:wk9.next=3:=by decide +kernel
set_option maxRecDepth 100000 in
theorem id_any (k:ByteArray) (n:Int) (w:World):Calls Tryz.prog 45 #[.string k,.int .i64 n] w fun e w'=>e = .returned (encID ⟨k,n⟩)∧w.grownBy w' none:=by
 simp only[encID]
 go_enter Tryz.func45,Tryz.ntmps45
 go_wp2
 refine bodyPost_ret (v:=.agg #[.string k,.int .i64 n]) (by simp[results,Tryz.results45,go_sem]) rfl ⟨rfl,?_⟩
 repeat (first|exact grown_refl _|exact World.grownBy_alloc _ _ _|refine grown_ext' ?_ _|refine grown_alloc ?_ _|refine grown_drew ?_)
theorem At.mono {bs cs:Nat→Prop} {w:World} {tb:Nat} {L:Tab} (h:At bs w tb L) (hs:∀k,k<w.heap.size→bs k→cs k):At cs w tb L:=by
 obtain⟨T,h1,h2,h3⟩:=h.ex
 exact⟨T,h1,h2,fun b hb=>hs b (h1.lt b hb) (h3 b hb)⟩
structure St (w:World) (g tb:Nat) (L:Tab) (W:World):Prop where
 tab:At (fun k=>w.heap.size≤k∧k≠g) W tb L
 out:Out (fun k=>w.heap.size≤k∧k≠g) w W
 lt:g<W.heap.size
section
variable {w W W' : World} {g tb : Nat} {L : Tab}
theorem St.grown (h:St w g tb L W) (hg:W.grownBy W' none):St w g tb L W':=⟨h.tab.grown hg,h.out.grown hg,Nat.lt_of_lt_of_le h.lt hg.size⟩
theorem St.base (h:St w g tb L W):w.grownBy W none:=h.out.to_grown fun k hk h=>by omega
theorem St.look (h:St w g tb L W) (k:ByteArray) (v:Int) (hv:look L k=v):Calls Tryz.prog 34 #[.pointer (some ⟨tb,0,none⟩),.string k] W fun e w'=>e = .returned (.int .i64 v)∧St w g tb L w'∧W.grownBy w' none:=by
 subst hv
 exact(look_at h.tab k).mono fun e w' ⟨a,b⟩=>⟨a,h.grown b,b⟩
theorem St.wanted (h:St w g tb L W) (k:ByteArray) (n:Int) (v:Bool) (hv:wantedB L ⟨k,n⟩=v):Calls Tryz.prog 36 #[.pointer (some ⟨tb,0,none⟩),.agg #[.string k,.int .i64 n]] W fun e w'=>e = .returned (.bool v)∧St w g tb L w'∧W.grownBy w' none:=by
 subst hv
 exact(wanted_at h.tab ⟨k,n⟩).mono fun e w' ⟨a,b⟩=>⟨a,h.grown b,b⟩
theorem St.call (h:St w g tb L W) (n r v:Int) (d:Bool) (c:Int) (hv:(callV L n).req=r∧(callV L n).ver=v∧(callV L n).done=d∧(callV L n).code=c):Calls Tryz.prog 32 #[.pointer (some ⟨tb,0,none⟩),.int .i64 n] W fun e w'=>e = .returned (.agg #[.int .i64 r,.int .i64 v,.bool d,.int .i64 c])∧St w g tb L w'∧W.grownBy w' none:=by
 obtain⟨rfl,rfl,rfl,rfl⟩:=hv
 exact(call_at h.tab n).mono fun e w' ⟨a,b⟩=>⟨a,h.grown b,b⟩
theorem St.next (h:St w g tb L W) (v:Int) (hv:L.next=v):Calls Tryz.prog 31 #[.pointer (some ⟨tb,0,none⟩)] W fun e w'=>e = .returned (.int .i64 v)∧St w g tb L w'∧W.grownBy w' none:=by
 subst hv
 exact(next_at h.tab).mono fun e w' ⟨a,b⟩=>⟨a,h.grown b,b⟩
theorem St.holders (h:St w g tb L W) (k:ByteArray) (n:Int) (l:Nat) (hf:Fits (memH L.holds ⟨k,n⟩)) (hv:(memH L.holds ⟨k,n⟩).length=l):Calls Tryz.prog 37 #[.pointer (some ⟨tb,0,none⟩),.agg #[.string k,.int .i64 n]] W fun e w'=>∃p c,e = .returned (.slice p l c)∧St w g tb L w'∧W.grownBy w' none:=by
 subst hv
 refine(holders_at h.tab ⟨k,n⟩ hf).mono ?_
 rintro e w' ⟨v,a,b⟩
 obtain⟨p,c,hv⟩:=ints_form b
 rw[holdL_length] at hv
 exact⟨p,c,by rw[a,hv],h.grown b.2.2,b.2.2⟩
theorem St.current (h:St w g tb L W) (l:Nat) (hr:(∀p∈L.values,p.1.size≤64)∧L.values.length≤1000000) (hv:((L.values.map fun p=>p.1.data.toList).filterMap (curAt L)).length=l):Calls Tryz.prog 42 #[.pointer (some ⟨tb,0,none⟩)] W fun e w'=>∃p c,e = .returned (.slice p l c)∧St w g tb L w'∧W.grownBy w' none:=by
 subst hv
 refine(current_at h.tab (fun p hp=>Nat.le_trans (hr.1 p hp) (by unfold maxLen;omega)) hr.2).mono ?_
 rintro e w' ⟨v,a,b,hg⟩
 obtain⟨p,c,hv⟩:=ids_form b
 rw[curL_length] at hv
 exact⟨p,c,by rw[a,hv],h.grown hg,hg⟩
theorem St.step (h:St w g tb L W) (hw:w.heap.size≤g) (kind node client inc req ver:Int) (key:ByteArray) (code:Int) (L':Tab) (hg:goodB L ⟨kind,node,client,inc,req,ver,key,code⟩=true) (hL:stepT L ⟨kind,node,client,inc,req,ver,key,code⟩=L') :
  Calls Tryz.prog 22 #[.pointer (some ⟨tb,0,none⟩),.agg #[.int .u8 kind,.int .i64 node,.int .i64 client,.int .i64 inc,.int .i64 req,.int .i64 ver,.string key,.int .i64 code]] W fun e w'=>e = .returned (.int .i64 0)∧St w g tb L' w'∧Out (fun k=>w.heap.size≤k∧k≠g) W w':=by
 subst hL
 refine(do_good h.tab ⟨kind,node,client,inc,req,ver,key,code⟩ hg (fun k hk=>⟨by have:=h.lt;omega,by have:=h.lt;omega⟩)).mono ?_
 rintro e w' ⟨a,b,c⟩
 exact⟨a,⟨b,h.out.trans c,Nat.lt_of_lt_of_le h.lt c.size⟩,c⟩
end
theorem wkL_zero:wkL 0=(newT 3 2 0).norm:=rfl
theorem wk8_eq:stepT (wkL 7) ⟨4,1,0,2,0,1,⟨#[97]⟩,0⟩=wk8:=rfl
theorem wk9_eq:stepT wk8 ⟨6,0,9,0,2,0,⟨#[97]⟩,0⟩=wk9:=rfl
theorem wk_f7:look (wkL 7) ⟨#[97]⟩=0∧wantedB (wkL 7) ⟨⟨#[97]⟩,1⟩=true∧((callV (wkL 7) 9).req=1∧(callV (wkL 7) 9).ver=1∧(callV (wkL 7) 9).done=false∧(callV (wkL 7) 9).code=0)∧Fits (memH (wkL 7).holds ⟨⟨#[97]⟩,1⟩)∧(memH (wkL 7).holds ⟨⟨#[97]⟩,1⟩).length=1∧goodB (wkL 7) ⟨4,1,0,2,0,1,⟨#[97]⟩,0⟩=true∧stepT (wkL 7) ⟨4,1,0,2,0,1,⟨#[97]⟩,0⟩=wk8:=⟨wk_a1,wk_a2,wk_a3,wk_a5,wk_a6,wk_good8,wk8_eq⟩
theorem wk_f8:look wk8 ⟨#[97]⟩=1∧((callV wk8 9).req=1∧(callV wk8 9).ver=1∧(callV wk8 9).done=true∧(callV wk8 9).code=0)∧Fits (memH wk8.holds ⟨⟨#[97]⟩,1⟩)∧(memH wk8.holds ⟨⟨#[97]⟩,1⟩).length=2∧((∀p∈wk8.values,p.1.size≤64)∧wk8.values.length≤1000000)∧((wk8.values.map fun p=>p.1.data.toList).filterMap (curAt wk8)).length=1∧goodB wk8 ⟨6,0,9,0,2,0,⟨#[97]⟩,0⟩=true∧stepT wk8 ⟨6,0,9,0,2,0,⟨#[97]⟩,0⟩=wk9:=⟨wk_b1,wk_b2,wk_b7,wk_b8,wk_b6,wk_b5,wk_good9,wk9_eq⟩
theorem wk_f9:look wk9 ⟨#[97]⟩=0∧((∀p∈wk9.values,p.1.size≤64)∧wk9.values.length≤1000000)∧((wk9.values.map fun p=>p.1.data.toList).filterMap (curAt wk9)).length=0∧wk9.next=3:=⟨wk_c1,wk_c3,wk_c2,wk_c4⟩
attribute [irreducible] wkL wk8 wk9 goodB
theorem mapT_at {K V:Type} {ek:K→Value} {ev:V→Value} {w w':World} {b:Nat} {m:List (K × V)} (h:MapT w b ek ev m) (e:w'.heap[b]? = w.heap[b]?):MapT w' b ek ev m:=by
 obtain⟨es,clock,hb,hs,he⟩:=h
 exact⟨es,clock,e.trans hb,hs,he⟩
theorem TRep.same {w W:World} {tb:Nat} {T:Tab} (h:TRep w tb T) (hs:∀b∈T.blocks tb,W.heap[b]? = w.heap[b]?):TRep W tb T where
 cells:=(hs _ (by simp[Tab.blocks])).trans h.cells
 lives:=(hs _ (by simp[Tab.blocks])).trans h.lives
 calls:=mapT_at h.calls (hs _ (by simp[Tab.blocks]))
 values:=mapT_at h.values (hs _ (by simp[Tab.blocks]))
 pending:=mapT_at h.pending (hs _ (by simp[Tab.blocks]))
 holds:=mapT_at h.holds (hs _ (by simp[Tab.blocks]))
 refuses:=mapT_at h.refuses (hs _ (by simp[Tab.blocks]))
 hsets:=fun x hx=>mapT_at (h.hsets x hx) (hs _ (by simp only[Tab.blocks,List.mem_cons,List.mem_append,List.mem_map];exact Or.inr (Or.inr (Or.inr (Or.inr (Or.inr (Or.inr (Or.inr (Or.inl ⟨x,hx,rfl⟩)))))))))
 rsets:=fun x hx=>mapT_at (h.rsets x hx) (hs _ (by simp only[Tab.blocks,List.mem_cons,List.mem_append,List.mem_map];exact Or.inr (Or.inr (Or.inr (Or.inr (Or.inr (Or.inr (Or.inr (Or.inr ⟨x,hx,rfl⟩)))))))))
 nodup:=h.nodup
theorem At.same {bs:Nat→Prop} {w W:World} {tb:Nat} {L:Tab} (h:At bs w tb L) (hs:∀k,k<w.heap.size→bs k→W.heap[k]? = w.heap[k]?):At bs W tb L:=by
 obtain⟨T,h1,h2,h3⟩:=h.ex
 exact⟨T,h1.same fun b hb=>hs b (h1.lt b hb) (h3 b hb),h2,h3⟩
def Same (own:Nat→Prop) (W W':World):Prop:=∀k,own k→W'.heap[k]? = W.heap[k]?
theorem Same.trans {own:Nat→Prop} {A B C:World} (h:Same own A B) (g:Same own B C):Same own A C:=fun k hk=>(g k hk).trans (h k hk)
def actT (L:Tab) (c:Cmd):Tab:=if mayB c=true∧c.node<(L.lives.length:Int) then stepT L c else L
theorem may_kind {c:Cmd} (h:mayB c=true):1≤c.kind∧c.kind≤7∧0≤c.node:=by
 unfold mayB smallB at h
 simp only[Bool.and_eq_true,decide_eq_true_eq] at h
 omega
section
variable {n k : Nat} {L : Tab}
theorem act_inv (h:Inv n k L) (c:Cmd):Inv n k (actT L c):=by
 unfold actT
 split
 ·rename_i hm
  have:=may_kind hm.1
  exact inv_step h c ⟨this.2.2,by have:=h.ln;omega⟩
 ·exact h
theorem Inv.pend_len (h:Inv n k L):(L.pending.length:Int)<L.next:=by
 have hnd:(L.pending.map fun p=>p.1.ver).Nodup:=by
  have h1:=h.pnd
  have h2:=h.pu
  clear h
  generalize L.pending=m at *
  induction m with
  | nil=>simp
  | cons p r ih=>
   simp only[List.map_cons,List.nodup_cons] at h1 ⊢
   refine⟨fun hm=>?_,ih h1.2 (fun a ha b hb=>h2 a (by simp[ha]) b (by simp[hb]))⟩
   obtain⟨q,hq,e⟩:=List.mem_map.1 hm
   exact h1.1 (List.mem_map.2 ⟨q,hq,h2 q (by simp[hq]) p (by simp) e⟩)
 have hn:=h.nx
 have h3:=nodup_range_len (L.next-1).toNat ((L.pending.map fun p=>p.1.ver-1)) (by
  have:(L.pending.map fun p=>p.1.ver-1)=(L.pending.map fun p=>p.1.ver).map (·- 1):=by rw[List.map_map];rfl
  rw[this]
  rw[List.nodup_iff_pairwise_ne,List.pairwise_map]
  exact List.Pairwise.imp (fun hab e=>hab (by omega)) (List.nodup_iff_pairwise_ne.1 hnd)) (fun x hx=>by
   obtain⟨p,hp,rfl⟩:=List.mem_map.1 hx
   have:=h.pv p hp
   omega)
 simp at h3
 omega
theorem Inv.fits (h:Inv n k L) (hn:n≤1000000) (i:ID):Fits (memH L.holds i):=
 fits_small ⟨fun x hx=>by have:=(h.hm.len i).2 x hx;omega,by have:=(h.hm.len i).1;omega⟩
theorem Inv.ok (h:Inv n k L) (hn:n≤1000000) (ho:L.offers<1000000) (hx:L.next<1000000):L.Ok:=
 ⟨h.o0,by omega,by have:=h.nx;omega,by omega,by rw[h.ln];omega,fun i=>by have:=(h.rm.len i).1;omega⟩
end
section
variable {w W W' : World} {own : Nat → Prop} {tb : Nat} {L : Tab}
set_option maxRecDepth 100000 in
theorem offered_any {T:Tab} (h:TRep W tb T):Calls Tryz.prog 35 #[.pointer (some ⟨tb,0,none⟩)] W fun e w'=>e = .returned (.int .i64 T.offers)∧W.grownBy w' none:=by
 have c1:=h.c1
 clear h
 go_enter Tryz.func35,Tryz.ntmps35
 go_wp2
 go_ret
 exact⟨rfl,grown_refl _⟩
theorem do_act {bs:Nat→Prop} {n k:Nat} (h:At bs W tb L) (hI:Inv n k L) (hn:n≤1000000) (ho:L.offers<1000000) (hx:L.next<1000000) (c:Cmd) (hkey:(c.key.size:Int)≤9223372036854775807) (hbs:∀k,W.heap.size≤k→bs k) :
  Calls Tryz.prog 22 #[.pointer (some ⟨tb,0,none⟩),encCmd c] W fun e w'=>e = .returned (.int .i64 (if mayB c=true∧c.node<(L.lives.length:Int) then 0 else 2))∧At bs w' tb (actT L c)∧Out bs W w':=by
 unfold actT
 by_cases hm:mayB c=true
 ·by_cases hc:c.node<(L.lives.length:Int)
  ·rw[if_pos ⟨hm,hc⟩,if_pos ⟨hm,hc⟩]
   have:=may_kind hm
   exact do_at h c hkey (hI.ok hn ho hx) hm hc this.1 this.2.1 this.2.2 hbs
  ·rw[if_neg (fun e=>hc e.2),if_neg (fun e=>hc e.2)]
   obtain⟨T,h1,h2,h3⟩:=h.ex
   have e:T.lives.length=L.lives.length:=by rw[←h2];rfl
   have hl:=hI.ln
   refine(do_bad2 h1 c hkey (by omega) hm (by omega)).mono ?_
   rintro e w' ⟨a,b⟩
   exact⟨a,h.grown b,Out.of_grown b _⟩
 ·rw[if_neg (fun e=>hm e.1),if_neg (fun e=>hm e.1)]
  obtain⟨T,h1,h2,h3⟩:=h.ex
  have e:T.lives.length=L.lives.length:=by rw[←h2];rfl
  have hl:=hI.ln
  refine(do_bad1 h1 c hkey (by omega) (by simpa using hm)).mono ?_
  rintro e w' ⟨a,b⟩
  exact⟨a,h.grown b,Out.of_grown b _⟩
end
end Go.Proofs.YtjfelfjobeeenaaGreat
