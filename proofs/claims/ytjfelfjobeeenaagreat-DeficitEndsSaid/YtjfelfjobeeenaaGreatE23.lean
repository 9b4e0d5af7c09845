/- slices.DeleteFunc at ids: the walk. Conditions: as Mis2's. -/
import Derived.Test.YtjfelfjobeeenaaGreatE22
import Derived.Test.YtjfelfjobeeenaaGreatE16
set_option linter.unusedSimpArgs false
set_option linter.unusedVariables false
namespace Go.Proofs.YtjfelfjobeeenaaGreat
open Go.RowKit Go.Sf Go.Shelf
section
variable {W : World} {bs : Nat → Prop}
set_option maxHeartbeats 8000000 in
set_option maxRecDepth 100000 in
theorem delF_any {fv:Value} {f:ID→Bool} (hf:PredI W fv f bs) {v:Value} {l:List ID} (h:SRow W 54 2 idCells v l) (hl:l.length≤1000000) (hbs:∀k,bs k→k<W.heap.size) (hown:∀g,v.ownBlock=some g→¬bs g) :
  Calls Tryz.prog 105 #[v,fv] W fun e w'=>∃v',e = .returned v'∧LRead w' 2 idCells v' (l.filter fun i=>!f i)∧W.grownBy w' v.ownBlock:=by
 have HIX:=Lib.hid (idxF_any hf (h.lread lenID) hl hbs)
 obtain⟨gf,cap,rfl,hent,hcall⟩:=hf
 have HC:=Lib.hid hcall
 have HB:=Lib.hid hbs
 have HOW:=Lib.hid hown
 clear hcall hbs hown
 by_cases hx:firstI f l = -1
 ·have hno:=firstI_neg hx
  rw[hx] at HIX
  rw[filter_none hno]
  obtain⟨p,c,rfl,-,-⟩:=h.form
  have HR:=Lib.hid h
  clear h hno hx
  go_enter Tryz.func105,Tryz.ntmps105
  go_wp2_with (go_at_call 163;refine HIX.out.mono ?_;rintro e w1 ⟨rfl,hg⟩;have HG:=Lib.hid hg;clear hg)
  go_ret
  have hr1:SRow w1 54 2 idCells (.slice p l.length c) l:=HR.out.grown HG.out (by simp)
  exact⟨_,rfl,hr1.lread lenID,⟨HG.out.os,HG.out.tape,HG.out.output,HG.out.size,fun k hk _=>HG.out.block k hk (by simp)⟩⟩
 ·obtain⟨k0,hk0,hkl,hft,hno⟩:=firstI_pos hx
  rw[hk0] at HIX
  obtain⟨g,c,rfl,-,-⟩:=(h.at lenID).resolve_left (fun e=>by rw[e] at hkl;simp at hkl)
  obtain⟨p2,c2,e2,hcb,hcl⟩:=h.form
  injection e2 with e21 e22 e23
  subst e23
  have HR:=Lib.hid h
  have HK:=Lib.hid (KI.start hno hkl hft)
  have hne:((k0:Int) == -1)=false:=beq_eq_false_iff_ne.2 (by omega)
  have HNG:Hid (¬bs g):=(show ¬bs g from HOW.out g rfl)
  have HGS:Hid (g<W.heap.size):=(show g<_ from h.lt rfl)
  have hz:=zeroID
  clear h hno hft hx hk0 e21 e22
  go_enter Tryz.func105,Tryz.ntmps105
  go_wp2_with (go_at_call 163;refine HIX.out.mono ?_;rintro e w1 ⟨rfl,hg⟩;have HG:=Lib.hid hg;clear hg)
  go_loopw [5,6] (fun x y wr=>∃(i j:Nat) (d:List ID),x = .int .i64 i∧y = .int .i64 j∧j≤l.length∧KI f l j i d∧SRow wr 54 2 idCells (.slice (some ⟨g,0,none⟩) l.length c) d∧W.grownBy wr (some g)) (fun _ y _=>l.length-(intOf y).toNat)
  case atStart=>exact⟨k0,k0+1,l,rfl,by go_num,by omega,HK.out,HR.out.grown HG.out (by simp),⟨HG.out.os,HG.out.tape,HG.out.output,HG.out.size,fun k hk _=>HG.out.block k hk (by simp)⟩⟩
  case round=>
   obtain⟨i,j,d,rfl,rfl,hj,hki,hrow,hg⟩:=hrel
   have hij:=hki.lt
   have hdl:=hki.len
   have HKI:=Lib.hid hki
   have HROW:=Lib.hid hrow
   have HGW:=Lib.hid hg
   have hgs:g<wr.heap.size:=Nat.lt_of_lt_of_le HGS.out hg.size
   by_cases hlt:j<l.length
   ·obtain⟨hd,hdj⟩:=hki.at hlt
    obtain⟨g',c',e,hc,hfz⟩:=(hrow.at lenID).resolve_left (fun e=>by rw[e] at hd;simp at hd)
    injection e with e1 e2 e3
    cases e1
    have e0:wr.cell? ⟨g,j*2,none⟩=some (.string l[j].key):=by rw[←hdj];exact hc j hd 0 _ rfl
    have e1:wr.cell? ⟨g,j*2+1,none⟩=some (.int .i64 l[j].ver):=by rw[←hdj];exact hc j hd 1 _ rfl
    have hid:i<d.length:=by omega
    have q0:wr.cell? ⟨g,i*2,none⟩=some (.string d[i].key):=hc i hid 0 _ rfl
    have q1:wr.cell? ⟨g,i*2+1,none⟩=some (.int .i64 d[i].ver):=hc i hid 1 _ rfl
    have z0:=hfz (i*2)
    have z1:=hfz (i*2+1)
    have HCL:Hid (∀w,wr.grownBy w none→Calls Tryz.prog gf (#[.agg #[.string l[j].key,.int .i64 l[j].ver]]++cap) w fun e w'=>e = .returned (.bool (f l[j]))∧w.grownBy w' none):=(show ∀_,_→Calls _ _ _ _ _ from fun w hw=>HC.out l[j] w (fun b hb=>(hw.block b (Nat.lt_of_lt_of_le (HB.out b hb) HGW.out.size) (by simp)).trans (HGW.out.block b (HB.out b hb) (fun e=>HNG.out (by cases e;exact hb)))) (Nat.le_trans HGW.out.size hw.size))
    have HST:=Lib.hid (fun hfj=>hki.skip hlt hfj)
    have HKP:=Lib.hid (fun hfj=>hki.keep hlt hfj)
    clear hki hrow hg hc hfz e2 e3 hdj
    cases hp:f l[j] with
    | true=>
     rw[hp] at HCL
     have HS2:=Lib.hid (HST.out hp)
     clear hp HST HKP
     generalize l[j]=z at *
     clear q0 q1 z0 z1
     go_upto_region 8 with fail
     have G1:=Lib.hid (World.grownBy_alloc wr (.cells #[.string z.key,.int .i64 z.ver] 54) none)
     have hcl:=HCL.out _ G1.out
     go_wp2_with (go_at_fn gf;refine hcl.mono ?_;rintro e w2 ⟨rfl,hg2⟩;have HG2:=Lib.hid (grown_trans G1.out hg2);clear hg2)
     go_roundw
     case rel=>exact⟨i,j+1,d,rfl,by go_num,by omega,HS2.out,HROW.out.grown HG2.out (by simp),⟨HG2.out.os.trans HGW.out.os,HG2.out.tape.trans HGW.out.tape,HG2.out.output.trans HGW.out.output,Nat.le_trans HGW.out.size HG2.out.size,fun k hk hn=>(HG2.out.block k (Nat.lt_of_lt_of_le hk HGW.out.size) (by simp)).trans (HGW.out.block k hk hn)⟩⟩
     case measure=>simp[intOf];omega
    | false=>
     rw[hp] at HCL
     have HS2:=Lib.hid (HKP.out hp)
     clear hp HST HKP
     generalize l[j]=z at *
     clear q0 q1 z0 z1
     have HD:=Lib.hid hid
     go_upto_region 8 with fail
     have G1:=Lib.hid (World.grownBy_alloc wr (.cells #[.string z.key,.int .i64 z.ver] 54) none)
     have hcl:=HCL.out _ G1.out
     have B1:=Lib.hid (heap_alloc_new wr (.cells #[.string z.key,.int .i64 z.ver] 54))
     have HSZ:Hid (wr.heap.size<(wr.alloc (.cells #[.string z.key,.int .i64 z.ver] 54)).heap.size):=(show _<_ from by simp)
     generalize wr.alloc (.cells #[.string z.key,.int .i64 z.ver] 54)=wa at *
     have a0:wa.cell? ⟨wr.heap.size,0,none⟩=some (.string z.key):=(cell_block B1.out 0).trans rfl
     have a1:wa.cell? ⟨wr.heap.size,1,none⟩=some (.int .i64 z.ver):=(cell_block B1.out 1).trans rfl
     go_upto_region 9 with (go_at_fn gf;refine hcl.mono ?_;rintro e w2 ⟨rfl,hg2⟩;have HG2:=Lib.hid (grown_trans G1.out hg2);have HB2:=Lib.hid ((hg2.block _ HSZ.out (by simp)).trans B1.out);clear hg2)
     have HR2:=Lib.hid (HROW.out.grown HG2.out (by simp))
     have b0:w2.cell? ⟨wr.heap.size,0,none⟩=some (.string z.key):=(cell_block HB2.out 0).trans rfl
     have b1:w2.cell? ⟨wr.heap.size,1,none⟩=some (.int .i64 z.ver):=(cell_block HB2.out 1).trans rfl
     obtain⟨g2,c2,e,hc2,hfz2⟩:=(HR2.out.at lenID).resolve_left (fun e=>by rw[e] at hid;simp at hid)
     injection e with e1 e2 e3
     cases e1
     have q0:w2.cell? ⟨g,i*2,none⟩=some (.string d[i].key):=hc2 i hid 0 _ rfl
     have q1:w2.cell? ⟨g,i*2+1,none⟩=some (.int .i64 d[i].ver):=hc2 i hid 1 _ rfl
     have z0:=hfz2 (i*2)
     have z1:=hfz2 (i*2+1)
     have HP:Hid _:=Lib.hid (SRow.put lenID (l:=d) (W:=w2) (g:=g) (cap:=c) (by rw[hdl];exact HR2.out) z i hid)
     simp only[idCells,List.foldl_cons,List.foldl_nil] at HP
     rw[hdl] at HP
     clear hc2 hfz2 e2 e3
     generalize d[i]=y at *
     go_wp2
     go_roundw
     case rel=>exact⟨i+1,j+1,d.set i z,by go_num,by go_num,by omega,HS2.out,HP.out.1,⟨HP.out.2.os.trans (HG2.out.os.trans HGW.out.os),HP.out.2.tape.trans (HG2.out.tape.trans HGW.out.tape),HP.out.2.output.trans (HG2.out.output.trans HGW.out.output),Nat.le_trans HGW.out.size (Nat.le_trans HG2.out.size HP.out.2.size),fun k hk hn=>(HP.out.2.block k (Nat.lt_of_lt_of_le hk (Nat.le_trans HGW.out.size HG2.out.size)) hn).trans ((HG2.out.block k (Nat.lt_of_lt_of_le hk HGW.out.size) (by simp)).trans (HGW.out.block k hk hn))⟩⟩
     case measure=>simp[intOf];omega
   ·obtain rfl:j=l.length:=by omega
    have hsz:(Builtin.zeroCells (Value.agg #[.string ⟨#[]⟩,.int .i64 0]).cells (l.length-i)).toList.length=(l.length-i)*2:=by simp[Builtin.zeroCells,Value.cells]
    have HF:Hid (d.take i=l.filter fun x=>!f x):=(show _=_ from hki.done)
    have hcell:∀t,t<l.length*2→(wr.cell? ⟨g,t,none⟩).isSome=true:=fun t ht=>by
     have h1:wr.ownsRow 0 54 2 (.slice (some ⟨g,0,none⟩) l.length c) l.length (d.flatMap idCells):=(by have h2:=hrow;unfold SRow at h2;rw[hdl] at h2;exact h2)
     rw[World.ownsRow.cellAt h1 t ht,List.getElem?_eq_getElem (by rw[flat_size idCells 2 lenID,hdl];exact ht)]
     rfl
    have hclr:∀ty,(Builtin.clear_ #[66] ty #[.slice (some ⟨g,i*2,none⟩) (l.length-i) (c-i)]).run Tryz.prog wr = .ok (.tuple #[]) (wr.setCells g (i*2) (Builtin.zeroCells (Value.agg #[.string ⟨#[]⟩,.int .i64 0]).cells (l.length-i)).toList):=fun ty=>
     run_clear_many wr _ _ ty _ Tryz.underlying66 hz g (i*2) _ _ (by omega) (zerosID _) (fun t ht=>hcell _ (by simp[Value.cells] at ht;omega)) (fun t _=>by
      rcases hrow.at lenID with h0|⟨g',c',e,_,hfz⟩
      ·rw[h0] at hdl;simp at hdl;omega
      ·injection e with e1 e2 e3;cases e1;exact hfz _)
    generalize (Builtin.zeroCells (Value.agg #[.string ⟨#[]⟩,.int .i64 0]).cells (l.length-i)).toList=zs at *
    have HZ:=Lib.hid hsz
    clear hki hrow hg hcell hsz
    go_wp2
    go_ret
    refine⟨_,rfl,?_,?_⟩
    ·rw[←HF.out]
     refine lread_head HROW.out (by omega) fun t ht=>?_
     exact World.cell?_setCells_out g zs (i*2) wr _ (fun _ _=>Or.inl ht)
    ·have h1:=grown_setCells g zs (i*2) wr
     exact⟨h1.os.trans HGW.out.os,h1.tape.trans HGW.out.tape,h1.output.trans HGW.out.output,Nat.le_trans HGW.out.size h1.size,fun k hk hn=>(h1.block k (Nat.lt_of_lt_of_le hk HGW.out.size) hn).trans (HGW.out.block k hk hn)⟩
end
end Go.Proofs.YtjfelfjobeeenaaGreat
