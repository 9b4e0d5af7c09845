/- JournalKeeps: the walk. Conditions: rows in memory. -/
import Derived.Test.YtbcbhlfjgobejaaGreatD39
import Derived.Deep.DeepCutAuto
set_option linter.unusedSimpArgs false
set_option linter.unusedVariables false
namespace Go.Proofs.YtbcbhlfjgobejaaGreat
open Go.RowKit Go.Sf Go.Shelf
attribute [local go_sem] Oper.semAt_some
theorem bits_lt (op:BinOp) (a b:Int):bits op .i64 a b<9223372036854775808:=by
 show IntKind.i64.wrap _<_
 rw[IntKind.wrap_i64]
 omega
set_option maxHeartbeats 8000000 in
set_option maxRecDepth 100000 in
theorem jkeeps_walk (nb0:Nat) (hnb:nb0<256) (v1 v2:Value) (l:List CallM) (inl:List Int) (W:World) (h1:CallRow W v1 l) (h2:IntRow W v2 inl):Calls Tryz.prog 9 #[.int .u8 (nb0:Int),v1,v2] W fun e w'=>e = .returned (.bool true)∧W.grownBy w' none:=by
 have HLA:=Lib.hid (large21_any v1 l W h1)
 have HW:=Lib.hid works21_any
 obtain⟨p1,cap1,rfl,hl1,hok,hrow⟩:=h1
 obtain⟨p2,cap2,rfl,hl2,hir,hirow⟩:=h2
 have HOK:=Lib.hid hok
 have HROW:=Lib.hid hrow
 have HIR:=Lib.hid hir
 have HIROW:=Lib.hid hirow
 obtain⟨m,hm⟩:∃m,m=l.length:=⟨_,rfl⟩
 obtain⟨mi,hmi⟩:∃m,m=inl.length:=⟨_,rfl⟩
 have HM:=Lib.hid hm
 have HMI:=Lib.hid hmi
 rw[←hm] at HLA hl1 ⊢
 rw[←hmi] at hl2 ⊢
 clear hok hrow hir hirow hm hmi
 have hN:∀w:World,Hid (Calls Tryz.prog 19 #[.int .i64 (3+(nb0:Int)%23)] w fun e w'=>∃db,e = .returned (.pointer (some ⟨db,0,none⟩))∧w.grownBy w' none∧w.heap.size≤db∧∀own:Nat→Prop,(∀k,own k→k<w.heap.size)→DRep own w' db (Dk.new (3+(nb0:Int)%23))):=fun w=>Lib.hid (dnew _ w)
 have HN:=Lib.hid hN
 clear hN
 by_cases hmi1:100<mi
 ·go_enter Tryz.func9,Tryz.ntmps9
  go_upto_region 3 with (first
   | (go_at_call 55;refine HLA.out.mono ?_;rintro e w1 ⟨r,rfl,hg,hr⟩;have HG1:=Lib.hid hg;clear hg hr HLA)
   | (go_at_call 48;refine(HW.out _).mono ?_;rintro e w2 ⟨rfl,hg⟩;have HG2:=Lib.hid hg;clear hg))
  all_goals go_ret
  all_goals exact⟨rfl,grown_trans HG1.out HG2.out⟩
 ·go_enter Tryz.func9,Tryz.ntmps9
  go_upto_region 4 with (first
   | (go_at_call 55;refine HLA.out.mono ?_;rintro e w1 ⟨r,rfl,hg,hr⟩;have HG1:=Lib.hid hg;have HR1:=Lib.hid hr;clear hg hr HLA)
   | (go_at_call 48;refine(HW.out _).mono ?_;rintro e w2 ⟨rfl,hg⟩;have HG2:=Lib.hid hg;clear hg)
   | (go_at_call 19;refine(HN.out _).out.mono ?_;rintro e w2 ⟨db,rfl,hg,-,hd⟩;have HOP:=Lib.hid (jopen_fresh (W:=W) (n:=3+(nb0:Int)%23) (by omega) (grown_trans HG1.out hg) (fun own ho=>hd own fun k hk=>Nat.lt_of_lt_of_le (ho k hk) HG1.out.size));clear hg hd HN))
  ·go_ret
   exact⟨rfl,grown_trans HG1.out HG2.out⟩
  ·have HLEN:=Lib.hid (HR1.out (by first|assumption|simp_all))
   clear HR1
   go_upto_region 5 with (go_at_call 49;refine HOP.out.mono ?_;rintro e w3 ⟨jb,S,rfl,hj,hk,hn,-⟩;have HK0:=Lib.hid (show _∧_∧_ from ⟨hj,hk,hn⟩);clear hj hk hn HOP)
   go_upto_region 6 with fail
   have HK1:Hid (∃(own:Nat→Prop) (blk:Int→List Nat),JMem W own jb db w3.heap.size S V0 [] blk (.slice none 0 0) 0 (w3.alloc (.cells #[.string ⟨#[]⟩,.bool false,.slice none 0 0] 85))):=Lib.hid (by
    obtain⟨hj,⟨hs,blk,hi⟩,hn⟩:=HK0.out
    have hg:=World.grownBy_alloc w3 (.cells #[.string ⟨#[]⟩,.bool false,.slice none 0 0] 85) none
    have hh:=heap_alloc_new w3 (.cells #[.string ⟨#[]⟩,.bool false,.slice none 0 0] 85)
    have hz:=hj.gr.size
    exact⟨_,blk,hj.more hg,⟨hi,rfl,by simp⟩,by rw[hn];decide,by rw[hs.n];omega,⟨hh,⟨Or.inr ⟨Nat.le_refl _,heap_lt hh⟩,hz⟩,trow_nil _,fun g hg2=>by simp[Value.ownBlock] at hg2,⟨Nat.zero_le _,by simp[V0],by decide,by intro b hb;simp[V0] at hb⟩⟩⟩)
   clear HK0 HG1
   generalize w3.alloc (.cells #[.string ⟨#[]⟩,.bool false,.slice none 0 0] 85)=wv at *
   generalize w3.heap.size=nb at *
   go_wp2
   go_loopw [8,9,11] (fun s e i wr=>JLoop W m db nb s e i wr) (fun _ _ i _=>m-(intOf i).toNat)
   case atStart=>
    obtain⟨own,blk,h⟩:=HK1.out
    exact⟨own,jb,S,V0,[],blk,_,0,Nat.zero_le _,rfl,rfl,rfl,h⟩
   case round=>
    as_aux_lemma=>
    clear HK1
    obtain⟨own,jb,S,V,all,blk,a,k,hkm,rfl,rfl,rfl,hkmem⟩:=hrel
    have HK:=Lib.hid hkmem
    clear hkmem
    by_cases hlt:k<m
    ·go_upto_if 47 with fail
     have HKM:=Lib.hid hkm
     have HLT:Hid (k<m∧k<50):=Lib.hid ⟨hlt,by have:=HLEN.out.1;have:=HM.out;omega⟩
     go_cut [] from 47 to 53 (fun wx=>∃S1,JMem W own jb db nb S1 V all blk a k wx)
     case first=>
      by_cases hin:k<mi
      ·have hkl:k<inl.length:=by rw[←HMI.out];exact hin
       obtain⟨b2,off2,rfl,cin⟩:∃b off,p2=some ⟨b,off,none⟩∧wr.cell? ⟨b,off+k,none⟩=some (.int .i64 inl[k]):=by
        rcases HIROW.out with h0|⟨b,off,rfl,h1⟩
        ·rw[h0] at hkl;simp at hkl
        ·exact⟨b,off,rfl,HK.out.jr.gr.cell (h1 k hkl) (by simp)⟩
       have hir2:=HIR.out inl[k] (List.getElem_mem hkl)
       have HFA:=Lib.hid (HK.out.jr.fail inl[k] hir2.2)
       generalize inl[k]=fn at *
       go_wp2_with (go_at_call 28;refine HFA.out.mono ?_;rintro e w5 ⟨rfl,hk5,ht5⟩;have HK5:=Lib.hid (HK.out.failed _ hk5 ht5);clear hk5 ht5 HFA)
       go_meet
       case rel=>exact⟨_,HK5.out⟩
      ·go_wp2
       go_meet
       case rel=>exact⟨S,HK.out⟩
     case rest=>
      obtain⟨S1,hk1⟩:=hcut
      clear HK
      have HK:=Lib.hid hk1
      clear hk1
      have hkl:k<l.length:=by rw[←HM.out];exact HLT.out.1
      have hgetD:l.getD k callD=l[k]:=by simp[List.getD_eq_getElem?_getD,List.getElem?_eq_getElem hkl]
      obtain⟨b1,off1,rfl,hcx⟩:∃b off,p1=some ⟨b,off,none⟩∧∀j u,(callCells l[k])[j]? = some u→wc.cell? ⟨b,off+k*5+j,none⟩=some u:=by
       rcases HROW.out with h0|⟨b,off,rfl,h1⟩
       ·rw[h0] at hkl;simp at hkl
       ·exact⟨b,off,rfl,fun j u hu=>HK.out.jr.gr.cell (h1 k hkl j u (by rw[hgetD];exact hu)) (by simp)⟩
      have HX:=Lib.hid (HOK.out l[k] (List.getElem_mem hkl))
      have HXL:=Lib.hid (HLEN.out.2 l[k] (List.getElem_mem hkl))
      clear hgetD
      generalize l[k]=x at *
      have x0:=hcx 0 (.int .u8 x.kind) rfl
      have x1:=hcx 1 (.slice x.p x.B.length x.c) rfl
      have x2:=hcx 2 (.int .u8 x.times) rfl
      have x3:=hcx 3 (.int .i64 x.n) rfl
      have x4:=hcx 4 (.slice x.fp x.F.length x.fc) rfl
      rw[Nat.add_zero] at x0
      have hlt1:=cell_lt x0
      clear hcx hkl
      go_upto_region 15 with fail
      obtain⟨wa,hwa⟩:∃wa,wa=(wc.alloc (.cells #[.int .u8 x.kind,.slice x.p x.B.length x.c,.int .u8 x.times,.int .i64 x.n,.slice x.fp x.F.length x.fc] 86)).alloc (.cells #[.string ⟨#[]⟩,.bool false,.slice none 0 0] 85):=⟨_,rfl⟩
      rw[←hwa]
      have HJ:=Lib.hid (JB.start (x:=x) HK.out hwa)
      obtain⟨ow,how⟩:∃o:Nat→Prop,o=fun q=>own q∨(wc.heap.size≤q∧q<wa.heap.size):=⟨_,rfl⟩
      rw[←how] at HJ
      have HI:=Lib.hid (show _∧_∧_ from ⟨HK.out.ji,HK.out.next,HK.out.n⟩)
      have HLV:Hid (V.entries.length≤k):=Lib.hid HK.out.hb.ok.few
      clear hwa how x0 x1 x2 x3 x4 hlt1 HK
      generalize wc.heap.size+1=tb at *
      generalize wc.heap.size=xb at *
      have HBY:Hid (∀w',W.grownBy w' none→Calls Tryz.prog 56 #[.agg #[.int .u8 x.kind,.slice x.p x.B.length x.c,.int .u8 x.times,.int .i64 x.n,.slice x.fp x.F.length x.fc]] w' fun e w''=>e = .returned (.string (ofB (bytesQ x)))∧w'.grownBy w'' none):=Lib.hid fun w' hg=>bytes21_any (HX.out.grown hg)
      have HLX:=Lib.hid (bytesQ_len x)
      have HBLX:=Lib.hid (bytesQ_BL HX.out)
      have HBS:=Lib.hid (strB_of (bytesQ_BL HX.out))
      have HLD:Hid (∀w':World,w'.heap[xb]? = some (.cells (callCells x).toArray 86 (0,0))→w'.cell? ⟨xb,0,none⟩=some (.int .u8 x.kind)∧w'.cell? ⟨xb,1,none⟩=some (.slice x.p x.B.length x.c)∧w'.cell? ⟨xb,2,none⟩=some (.int .u8 x.times)∧w'.cell? ⟨xb,3,none⟩=some (.int .i64 x.n)∧w'.cell? ⟨xb,4,none⟩=some (.slice x.fp x.F.length x.fc)):=Lib.hid fun w' h=>⟨(cell_block h 0).trans rfl,(cell_block h 1).trans rfl,(cell_block h 2).trans rfl,(cell_block h 3).trans rfl,(cell_block h 4).trans rfl⟩
      have hk0:=HX.out.k
      obtain⟨z0,z1,z2,z3,z4⟩:=HLD.out wa HJ.out.1.c
      go_upto_region 16 with fail
      go_cut [67] from 58 to 67 (fun c wx=>c = .bool (decide (x.kind%12=5∨x.kind%12=6))∧wx=wa)
      case first=>
       by_cases c5:x.kind%12=5
       ·go_wp2
        go_meet
        case rel=>exact⟨by simp[c5],rfl⟩
       ·by_cases c6:x.kind%12=6
        ·go_wp2
         go_meet
         case rel=>exact⟨by simp[c6],rfl⟩
        ·go_wp2
         go_meet
         case rel=>exact⟨by simp[c5,c6],rfl⟩
      case rest=>
       obtain⟨rfl,rfl⟩:=hcut
       generalize hwc:wc=w7 at *
       clear hwc
       go_upto_if 67 with fail
       go_cut [14] from 58 to 98 (fun f wx=>JMid W jb db nb tb xb V a x k f wx)
       case first=>
        --F0
        by_cases hrm:x.kind%12=5∨x.kind%12=6
        ·go_upto_region 18 with (go_at_call 56;refine(HBY.out _ HJ.out.2.gr).mono ?_;rintro e w8 ⟨rfl,hg8⟩;have HG8:=Lib.hid hg8;obtain⟨t0,t1,t2,tf⟩:=box3 (HJ.out.1.t.grown hg8).box;clear hg8)
         have HS:Hid (JB W ow nb tb xb V ⟨1,bytesQ x,[]⟩ a (.slice none 0 0) x (k+1) (((w8.setCell ⟨tb,0,none⟩ (.string (ofB (bytesQ x)))).setCell ⟨tb,1,none⟩ (.bool true)).setCell ⟨tb,2,none⟩ (.slice none 0 0))∧JR W ow jb db (V.j S1) (((w8.setCell ⟨tb,0,none⟩ (.string (ofB (bytesQ x)))).setCell ⟨tb,1,none⟩ (.bool true)).setCell ⟨tb,2,none⟩ (.slice none 0 0))):=Lib.hid (JB.set (X':=⟨1,bytesQ x,[]⟩) (nv':=.slice none 0 0) (HJ.out.1.grown HG8.out) (HJ.out.2.grown HG8.out) (trow_nil _) (fun g hg=>by simp[Value.ownBlock] at hg) ⟨Nat.zero_le _,by simp,HLX.out,HBLX.out⟩)
         clear t0 t1 t2 tf z0 z1 z2 z3 z4 HG8 HJ
         generalize ((w8.setCell ⟨tb,0,none⟩ (.string (ofB (bytesQ x)))).setCell ⟨tb,1,none⟩ (.bool true)).setCell ⟨tb,2,none⟩ (.slice none 0 0)=w9 at *
         obtain⟨q0,q1,q2,q3,q4⟩:=HLD.out w9 HS.out.1.c
         go_wp2_with (first
          | (rw[hcv])
          | (go_at_call 56;refine(HBY.out _ HS.out.2.gr).mono ?_;rintro e w10 ⟨rfl,hg10⟩;obtain⟨yv,w11,hcv,hg11,hy⟩:=conv_strP w10 (ofB (bytesQ x)) (by rw[ofB_size];have:=HLX.out;omega);rw[HBS.out] at hy;have HY:=Lib.hid hy;have HB11:=Lib.hid (((HS.out.1.grown hg10).grown hg11).mono (own':=fun q=>ow q∨(w10.heap.size≤q∧q<w11.heap.size)) fun q hq=>Or.inl hq);have HR11:=Lib.hid ((HS.out.2.grown hg10).more hg11);clear hg10 hg11 hy)
          | (go_at_call 53;refine(HB11.out.cp (fun z hz=>same_one hz _) HR11.out HI.out.1 HI.out.2.1 (by have:=HLT.out.2;omega) HI.out.2.2 (HY.out.mono fun q hq=>Or.inr hq) HBLX.out).mono ?_;rintro e w12 ⟨f,rfl,hm⟩;have HM:=Lib.hid hm;clear hm))
         go_meet
         case rel=>exact HM.out
        ·obtain⟨n0,n1,n2,nf⟩:=box3 HJ.out.1.v.box
         obtain⟨t0,t1,t2,tf⟩:=box3 HJ.out.1.t.box
         go_upto_region 20 with fail
         have HS:Hid (JB W ow nb tb xb V { V with entries:=[] } a (.slice none 0 0) x (k+1) (((w7.setCell ⟨tb,0,none⟩ (.string (ofB (hsS V)))).setCell ⟨tb,1,none⟩ (.bool (hsB V))).setCell ⟨tb,2,none⟩ (.slice none 0 0))∧JR W ow jb db (V.j S1) (((w7.setCell ⟨tb,0,none⟩ (.string (ofB (hsS V)))).setCell ⟨tb,1,none⟩ (.bool (hsB V))).setCell ⟨tb,2,none⟩ (.slice none 0 0))):=Lib.hid (JB.set (X':={ V with entries:=[] }) (nv':=.slice none 0 0) HJ.out.1 HJ.out.2 (trow_nil _) (fun g hg=>by simp[Value.ownBlock] at hg) ⟨Nat.zero_le _,by simp,HJ.out.1.v.ok.st⟩)
         clear n0 n1 n2 nf t0 t1 t2 tf z0 z1 z2 z3 z4 HJ
         generalize ((w7.setCell ⟨tb,0,none⟩ (.string (ofB (hsS V)))).setCell ⟨tb,1,none⟩ (.bool (hsB V))).setCell ⟨tb,2,none⟩ (.slice none 0 0)=w9 at *
         obtain⟨pa,ca,hpa,-,-⟩:=SRow.form HS.out.1.v.row
         subst hpa
         obtain⟨-,-,n2,-⟩:=box3 HS.out.1.v.box
         obtain⟨-,-,t2,tf⟩:=box3 HS.out.1.t.box
         have hen:V.entries.length≤60:=by have:=HS.out.1.v.ok.few;have:=HLT.out.2;omega
         obtain⟨i0,ze,by0,hi,hz,hs,hb,hzs,hb2⟩:=infoStr
         go_upto_region 21 with (at_builtin;refine wpList_sapp (E:=9) (sz:=1) (enc:=strE) (v:=.slice none 0 0) (l:=[]) (m:=V.entries) _ rfl _ _ 83 rfl strE_len strE_one i0 ze by0 Tryz.underlying83 hi hz hs hb hzs (by decide) hb2 rfl (trow_nil _) rfl (TRow.y HS.out.1.v.row) (by simp;omega) V.entries.length (by simp) ?_;intro pn cn w10 hap;have HAP:=Lib.hid hap;obtain⟨t2b,tfb,-⟩:=HS.out.1.row_cell hap;clear hap)
         obtain⟨ow1,hs1,hb1,hr1⟩:=HS.out.1.row HS.out.2 HAP.out ⟨by have:=HS.out.1.v.ok.few;exact this,HS.out.1.v.ok.short,HS.out.1.v.ok.st⟩
         have HE0:Hid (JB W ow1 nb tb xb V V (.slice pa V.entries.length ca) (.slice pn V.entries.length cn) x (k+1) (w10.setCell ⟨tb,2,none⟩ (.slice pn V.entries.length cn)).drew∧JR W ow1 jb db (V.j S1) (w10.setCell ⟨tb,2,none⟩ (.slice pn V.entries.length cn)).drew):=Lib.hid ⟨hb1.grown (grown_drew (grown_refl _)),hr1.grown (grown_drew (grown_refl _))⟩
         clear hs1 hb1 hr1 HS HAP t2 tf n2 t2b tfb
         generalize w10.setCell ⟨tb,2,none⟩ (.slice pn V.entries.length cn)=wq at *
         obtain⟨q0,q1,q2,q3,q4⟩:=HLD.out wq.drew HE0.out.1.c
         obtain⟨-,-,t2,tf⟩:=box3 HE0.out.1.t.box
         refine wp_region_held_drew (S:=fun w'=>w'.cell? ⟨xb,0,none⟩=some (.int .u8 x.kind)∧w'.cell? ⟨xb,1,none⟩=some (.slice x.p x.B.length x.c)∧w'.cell? ⟨xb,2,none⟩=some (.int .u8 x.times)∧w'.cell? ⟨xb,3,none⟩=some (.int .i64 x.n)∧w'.cell? ⟨xb,4,none⟩=some (.slice x.fp x.F.length x.fc)) (by kernel_rfl) ⟨q0,q1,q2,q3,q4⟩ (fun hHeld=>?_)
         refine wpAnyH_take (i := 0) (oi := { dst := some 87, op := Op.fieldAddr 85 (Operand.tmp 13) 2, type := 0, pos := "law.go:204", after := #[], guard := none }) (v := ?_) rfl (by kernel_rfl) (by kernel_rfl) (by kernel_rfl) (fun _ _ _ h => h) (Or.inl ⟨by rfl, ?_⟩) hHeld ?_
         rotate_left
         ·intro w hSw;(try dsimp only at hSw);obtain -:=hSw;go_simp;try with_reducible rfl
         (try simp only[Act.put,List.setIfInBounds_toArray,List.set_cons_zero,List.set_cons_succ])
         refine wpAnyH_take (i := 2) (oi := { dst := some 89, op := Op.load 86 (Operand.tmp 12), type := 86, pos := "law.go:204", after := #[], guard := none }) (v := ?_) rfl (by kernel_rfl) (by kernel_rfl) (by kernel_rfl) (fun _ _ _ h => h) (Or.inl ⟨by rfl, ?_⟩) hHeld ?_
         rotate_left
         ·intro w hSw;(try dsimp only at hSw);obtain⟨q0,q1,q2,q3,q4⟩:=hSw;go_simp;try with_reducible rfl
         (try simp only[Act.put,List.setIfInBounds_toArray,List.set_cons_zero,List.set_cons_succ])
         refine wpAnyH_ready (rs:=[1,3]) (by kernel_rfl) (by simp) ?_
         refine (AllReadyH.cons (o := { dst := some 88, op := Op.load 83 (Operand.tmp 87), type := 83, pos := "law.go:204", after := #[{ on := 0, ground := Ground.data }], guard := none }) rfl (fun K hK => ?_) (AllReadyH.cons (o := { dst := some 90, op := Op.call { callee := Callee.value (Operand.func 56), args := #[Operand.tmp 89], argTypes := #[86] }, type := 9, pos := "law.go:204", after := #[{ on := 2, ground := Ground.data }], guard := none }) rfl (fun K hK => ?_) AllReadyH.nil))
         ·go_simp
          refine hK.out _ _ (HLD.out _ HE0.out.1.c) (fun hHeld=>?_)
          clear hK K
          (try simp only[Act.put,List.setIfInBounds_toArray,List.set_cons_zero,List.set_cons_succ])
          refine wpAnyH_ready (rs:=[3]) (by kernel_rfl) (by simp) ?_
          refine (AllReadyH.cons (o := { dst := some 90, op := Op.call { callee := Callee.value (Operand.func 56), args := #[Operand.tmp 89], argTypes := #[86] }, type := 9, pos := "law.go:204", after := #[{ on := 2, ground := Ground.data }], guard := none }) rfl (fun K hK => ?_) AllReadyH.nil)
          go_simp
          go_at_call 56
          refine(HBY.out _ HE0.out.2.gr).mono ?_
          rintro e w13 ⟨rfl,hg13⟩
          have HX3:=Lib.hid (show _∧_ from ⟨HE0.out.1.grown hg13,HE0.out.2.grown hg13⟩)
          obtain⟨-,-,t23,tf3⟩:=box3 HX3.out.1.t.box
          clear hg13
          refine hK.out _ _ (HLD.out _ HX3.out.1.c) (fun hHeld=>?_)
          clear hK K
          (try simp only[Act.put,List.setIfInBounds_toArray,List.set_cons_zero,List.set_cons_succ])
          refine wpAnyH_ready (rs:=[4]) (by kernel_rfl) (by simp) ?_
          refine (AllReadyH.cons (o := { dst := some 91, op := Op.buildSlice 83 1 #[(0, Operand.tmp 90)], type := 83, pos := "law.go:204", after := #[{ on := 3, ground := Ground.data }], guard := none }) rfl (fun K hK => ?_) AllReadyH.nil)
          go_simp
          have hg14:w13.grownBy (w13.alloc (.cells #[.string (ofB (bytesQ x))] 9)) none:=World.grownBy_alloc _ _ none
          have HY:=Lib.hid (one_str w13 (bytesQ x))
          have HX4:=Lib.hid (show _∧_ from ⟨HX3.out.1.grown hg14,HX3.out.2.grown hg14⟩)
          obtain⟨-,-,t24,tf4⟩:=box3 HX4.out.1.t.box
          clear hg14
          refine hK.out _ _ (HLD.out _ HX4.out.1.c) (fun hHeld=>?_)
          clear hK K
          (try simp only[Act.put,List.setIfInBounds_toArray,List.set_cons_zero,List.set_cons_succ])
          generalize w13.alloc (.cells #[.string (ofB (bytesQ x))] 9)=w14 at *
          refine wpAnyH_ready (rs:=[5]) (by kernel_rfl) (by simp) ?_
          refine (AllReadyH.cons (o := { dst := some 92, op := Op.call { callee := Callee.builtin Builtin.append, args := #[Operand.tmp 88, Operand.tmp 91], argTypes := #[83, 83] }, type := 83, pos := "law.go:204", after := #[{ on := 1, ground := Ground.data }, { on := 4, ground := Ground.data }, { on := 3, ground := Ground.chain }], guard := none }) rfl (fun K hK => ?_) AllReadyH.nil)
          refine step_sapp (E:=9) (sz:=1) (enc:=strE) (v:=.slice pn V.entries.length cn) (l:=V.entries) (m:=[bytesQ x]) rfl _ _ 83 rfl strE_len strE_one i0 ze by0 Tryz.underlying83 hi hz hs hb hzs (by decide) hb2 rfl HX4.out.1.t.row rfl HY.out (by simp;omega) (V.entries.length+1) (by simp) ?_
          intro p' cap' w15 hap
          obtain⟨t25,tf5,hx5⟩:=HX4.out.1.row_cell hap
          have HAP:=Lib.hid hap
          have HX5:=Lib.hid hx5
          clear hap hx5
          refine hK.out _ _ (HLD.out _ HX5.out) (fun hHeld=>?_)
          clear hK K
          (try simp only[Act.put,List.setIfInBounds_toArray,List.set_cons_zero,List.set_cons_succ])
          refine wpAnyH_take (i := 6) (oi := { dst := some 93, op := Op.fieldAddr 85 (Operand.tmp 13) 2, type := 0, pos := "law.go:204", after := #[{ on := 0, ground := Ground.phase }, { on := 1, ground := Ground.phase }, { on := 2, ground := Ground.phase }, { on := 3, ground := Ground.phase }, { on := 4, ground := Ground.phase }, { on := 5, ground := Ground.phase }], guard := none }) (v := ?_) rfl (by kernel_rfl) (by kernel_rfl) (by kernel_rfl) (fun _ _ _ h => h) (Or.inl ⟨by rfl, ?_⟩) hHeld ?_
          rotate_left
          ·intro w hSw;(try dsimp only at hSw);obtain -:=hSw;go_simp;try with_reducible rfl
          (try simp only[Act.put,List.setIfInBounds_toArray,List.set_cons_zero,List.set_cons_succ])
          refine wpAnyH_ready (rs:=[7]) (by kernel_rfl) (by simp) ?_
          refine (AllReadyH.cons (o := { dst := none, op := Op.store 83 (Operand.tmp 93) (Operand.tmp 92), type := 0, pos := "law.go:204", after := #[{ on := 6, ground := Ground.data }, { on := 5, ground := Ground.data }, { on := 5, ground := Ground.chain }, { on := 0, ground := Ground.phase }, { on := 1, ground := Ground.phase }, { on := 2, ground := Ground.phase }, { on := 3, ground := Ground.phase }, { on := 4, ground := Ground.phase }, { on := 5, ground := Ground.phase }], guard := none }) rfl (fun K hK => ?_) AllReadyH.nil)
          go_simp
          obtain⟨ow2,hs2,hb2x,hr2⟩:=HX4.out.1.row HX4.out.2 HAP.out ⟨by have:=HX4.out.1.v.ok.few;have h0:V.entries.length≤k:=HLV.out;simp;omega,fun b hb=>by
           rcases List.mem_append.1 hb with e|e
           ·exact HX4.out.1.v.ok.short b e
           ·rw[List.mem_singleton.1 e];exact⟨HLX.out,HBLX.out⟩,HX4.out.1.v.ok.st⟩
          have HZ:Hid (JB W ow2 nb tb xb V { V with entries:=V.entries ++ [bytesQ x] } (.slice pa V.entries.length ca) (.slice p' (V.entries.length+1) cap') x (k+1) (w15.setCell ⟨tb,2,none⟩ (.slice p' (V.entries.length+1) cap'))∧JR W ow2 jb db (V.j S1) (w15.setCell ⟨tb,2,none⟩ (.slice p' (V.entries.length+1) cap'))):=Lib.hid ⟨hb2x,hr2⟩
          clear hs2 hb2x hr2
          refine hK.out _ _ (HLD.out _ HZ.out.1.c) (fun hHeld=>?_)
          clear hK K
          (try simp only[Act.put,List.setIfInBounds_toArray,List.set_cons_zero,List.set_cons_succ])
          refine wpAnyH_done (by kernel_rfl) ?_ _
          clear q0 q1 q2 q3 q4 t2 tf t23 tf3 t24 tf4 t25 tf5 HX3 HX4 HX5 HE0 HAP HY
          generalize w15.setCell ⟨tb,2,none⟩ (.slice p' (V.entries.length+1) cap')=w16 at *
          obtain⟨q0,q1,q2,q3,q4⟩:=HLD.out w16 HZ.out.1.c
          go_wp2_with (first
           | (rw[hcv])
           | (go_at_call 56;refine(HBY.out _ HZ.out.2.gr).mono ?_;rintro e w17 ⟨rfl,hg17⟩;obtain⟨yv,w18,hcv,hg18,hy⟩:=conv_strP w17 (ofB (bytesQ x)) (by rw[ofB_size];have:=HLX.out;omega);rw[HBS.out] at hy;have HYY:=Lib.hid hy;have HB18:=Lib.hid (((HZ.out.1.grown hg17).grown hg18).mono (own':=fun q=>ow2 q∨(w17.heap.size≤q∧q<w18.heap.size)) fun q hq=>Or.inl hq);have HR18:=Lib.hid ((HZ.out.2.grown hg17).more hg18);clear hg17 hg18 hy)
           | (go_at_call 50;refine(HB18.out.app HR18.out HI.out.1 HI.out.2.1 (by have:=HLT.out.2;omega) HI.out.2.2 (HYY.out.mono fun q hq=>Or.inr hq) HBLX.out).mono ?_;rintro e w19 ⟨f,rfl,hm⟩;have HM:=Lib.hid hm;clear hm))
          go_meet
          case rel=>exact HM.out
         ·go_simp
          go_at_call 56
          refine(HBY.out _ HE0.out.2.gr).mono ?_
          rintro e w13 ⟨rfl,hg13⟩
          have HX3:=Lib.hid (show _∧_ from ⟨HE0.out.1.grown hg13,HE0.out.2.grown hg13⟩)
          obtain⟨-,-,t23,tf3⟩:=box3 HX3.out.1.t.box
          clear hg13
          refine hK.out _ _ (HLD.out _ HX3.out.1.c) (fun hHeld=>?_)
          clear hK K
          (try simp only[Act.put,List.setIfInBounds_toArray,List.set_cons_zero,List.set_cons_succ])
          refine wpAnyH_ready (rs:=[1,4]) (by kernel_rfl) (by simp) ?_
          refine (AllReadyH.cons (o := { dst := some 88, op := Op.load 83 (Operand.tmp 87), type := 83, pos := "law.go:204", after := #[{ on := 0, ground := Ground.data }], guard := none }) rfl (fun K hK => ?_) (AllReadyH.cons (o := { dst := some 91, op := Op.buildSlice 83 1 #[(0, Operand.tmp 90)], type := 83, pos := "law.go:204", after := #[{ on := 3, ground := Ground.data }], guard := none }) rfl (fun K hK => ?_) AllReadyH.nil))
          ·go_simp
           refine hK.out _ _ (HLD.out _ HX3.out.1.c) (fun hHeld=>?_)
           clear hK K
           (try simp only[Act.put,List.setIfInBounds_toArray,List.set_cons_zero,List.set_cons_succ])
           refine wpAnyH_ready (rs:=[4]) (by kernel_rfl) (by simp) ?_
           refine (AllReadyH.cons (o := { dst := some 91, op := Op.buildSlice 83 1 #[(0, Operand.tmp 90)], type := 83, pos := "law.go:204", after := #[{ on := 3, ground := Ground.data }], guard := none }) rfl (fun K hK => ?_) AllReadyH.nil)
           go_simp
           have hg14:w13.grownBy (w13.alloc (.cells #[.string (ofB (bytesQ x))] 9)) none:=World.grownBy_alloc _ _ none
           have HY:=Lib.hid (one_str w13 (bytesQ x))
           have HX4:=Lib.hid (show _∧_ from ⟨HX3.out.1.grown hg14,HX3.out.2.grown hg14⟩)
           obtain⟨-,-,t24,tf4⟩:=box3 HX4.out.1.t.box
           clear hg14
           refine hK.out _ _ (HLD.out _ HX4.out.1.c) (fun hHeld=>?_)
           clear hK K
           (try simp only[Act.put,List.setIfInBounds_toArray,List.set_cons_zero,List.set_cons_succ])
           generalize w13.alloc (.cells #[.string (ofB (bytesQ x))] 9)=w14 at *
           refine wpAnyH_ready (rs:=[5]) (by kernel_rfl) (by simp) ?_
           refine (AllReadyH.cons (o := { dst := some 92, op := Op.call { callee := Callee.builtin Builtin.append, args := #[Operand.tmp 88, Operand.tmp 91], argTypes := #[83, 83] }, type := 83, pos := "law.go:204", after := #[{ on := 1, ground := Ground.data }, { on := 4, ground := Ground.data }, { on := 3, ground := Ground.chain }], guard := none }) rfl (fun K hK => ?_) AllReadyH.nil)
           refine step_sapp (E:=9) (sz:=1) (enc:=strE) (v:=.slice pn V.entries.length cn) (l:=V.entries) (m:=[bytesQ x]) rfl _ _ 83 rfl strE_len strE_one i0 ze by0 Tryz.underlying83 hi hz hs hb hzs (by decide) hb2 rfl HX4.out.1.t.row rfl HY.out (by simp;omega) (V.entries.length+1) (by simp) ?_
           intro p' cap' w15 hap
           obtain⟨t25,tf5,hx5⟩:=HX4.out.1.row_cell hap
           have HAP:=Lib.hid hap
           have HX5:=Lib.hid hx5
           clear hap hx5
           refine hK.out _ _ (HLD.out _ HX5.out) (fun hHeld=>?_)
           clear hK K
           (try simp only[Act.put,List.setIfInBounds_toArray,List.set_cons_zero,List.set_cons_succ])
           refine wpAnyH_take (i := 6) (oi := { dst := some 93, op := Op.fieldAddr 85 (Operand.tmp 13) 2, type := 0, pos := "law.go:204", after := #[{ on := 0, ground := Ground.phase }, { on := 1, ground := Ground.phase }, { on := 2, ground := Ground.phase }, { on := 3, ground := Ground.phase }, { on := 4, ground := Ground.phase }, { on := 5, ground := Ground.phase }], guard := none }) (v := ?_) rfl (by kernel_rfl) (by kernel_rfl) (by kernel_rfl) (fun _ _ _ h => h) (Or.inl ⟨by rfl, ?_⟩) hHeld ?_
           rotate_left
           ·intro w hSw;(try dsimp only at hSw);obtain -:=hSw;go_simp;try with_reducible rfl
           (try simp only[Act.put,List.setIfInBounds_toArray,List.set_cons_zero,List.set_cons_succ])
           refine wpAnyH_ready (rs:=[7]) (by kernel_rfl) (by simp) ?_
           refine (AllReadyH.cons (o := { dst := none, op := Op.store 83 (Operand.tmp 93) (Operand.tmp 92), type := 0, pos := "law.go:204", after := #[{ on := 6, ground := Ground.data }, { on := 5, ground := Ground.data }, { on := 5, ground := Ground.chain }, { on := 0, ground := Ground.phase }, { on := 1, ground := Ground.phase }, { on := 2, ground := Ground.phase }, { on := 3, ground := Ground.phase }, { on := 4, ground := Ground.phase }, { on := 5, ground := Ground.phase }], guard := none }) rfl (fun K hK => ?_) AllReadyH.nil)
           go_simp
           obtain⟨ow2,hs2,hb2x,hr2⟩:=HX4.out.1.row HX4.out.2 HAP.out ⟨by have:=HX4.out.1.v.ok.few;have h0:V.entries.length≤k:=HLV.out;simp;omega,fun b hb=>by
            rcases List.mem_append.1 hb with e|e
            ·exact HX4.out.1.v.ok.short b e
            ·rw[List.mem_singleton.1 e];exact⟨HLX.out,HBLX.out⟩,HX4.out.1.v.ok.st⟩
           have HZ:Hid (JB W ow2 nb tb xb V { V with entries:=V.entries ++ [bytesQ x] } (.slice pa V.entries.length ca) (.slice p' (V.entries.length+1) cap') x (k+1) (w15.setCell ⟨tb,2,none⟩ (.slice p' (V.entries.length+1) cap'))∧JR W ow2 jb db (V.j S1) (w15.setCell ⟨tb,2,none⟩ (.slice p' (V.entries.length+1) cap'))):=Lib.hid ⟨hb2x,hr2⟩
           clear hs2 hb2x hr2
           refine hK.out _ _ (HLD.out _ HZ.out.1.c) (fun hHeld=>?_)
           clear hK K
           (try simp only[Act.put,List.setIfInBounds_toArray,List.set_cons_zero,List.set_cons_succ])
           refine wpAnyH_done (by kernel_rfl) ?_ _
           clear q0 q1 q2 q3 q4 t2 tf t23 tf3 t24 tf4 t25 tf5 HX3 HX4 HX5 HE0 HAP HY
           generalize w15.setCell ⟨tb,2,none⟩ (.slice p' (V.entries.length+1) cap')=w16 at *
           obtain⟨q0,q1,q2,q3,q4⟩:=HLD.out w16 HZ.out.1.c
           go_wp2_with (first
            | (rw[hcv])
            | (go_at_call 56;refine(HBY.out _ HZ.out.2.gr).mono ?_;rintro e w17 ⟨rfl,hg17⟩;obtain⟨yv,w18,hcv,hg18,hy⟩:=conv_strP w17 (ofB (bytesQ x)) (by rw[ofB_size];have:=HLX.out;omega);rw[HBS.out] at hy;have HYY:=Lib.hid hy;have HB18:=Lib.hid (((HZ.out.1.grown hg17).grown hg18).mono (own':=fun q=>ow2 q∨(w17.heap.size≤q∧q<w18.heap.size)) fun q hq=>Or.inl hq);have HR18:=Lib.hid ((HZ.out.2.grown hg17).more hg18);clear hg17 hg18 hy)
            | (go_at_call 50;refine(HB18.out.app HR18.out HI.out.1 HI.out.2.1 (by have:=HLT.out.2;omega) HI.out.2.2 (HYY.out.mono fun q hq=>Or.inr hq) HBLX.out).mono ?_;rintro e w19 ⟨f,rfl,hm⟩;have HM:=Lib.hid hm;clear hm))
           go_meet
           case rel=>exact HM.out
          ·go_simp
           have hg14:w13.grownBy (w13.alloc (.cells #[.string (ofB (bytesQ x))] 9)) none:=World.grownBy_alloc _ _ none
           have HY:=Lib.hid (one_str w13 (bytesQ x))
           have HX4:=Lib.hid (show _∧_ from ⟨HX3.out.1.grown hg14,HX3.out.2.grown hg14⟩)
           obtain⟨-,-,t24,tf4⟩:=box3 HX4.out.1.t.box
           clear hg14
           refine hK.out _ _ (HLD.out _ HX4.out.1.c) (fun hHeld=>?_)
           clear hK K
           (try simp only[Act.put,List.setIfInBounds_toArray,List.set_cons_zero,List.set_cons_succ])
           generalize w13.alloc (.cells #[.string (ofB (bytesQ x))] 9)=w14 at *
           refine wpAnyH_ready (rs:=[1]) (by kernel_rfl) (by simp) ?_
           refine (AllReadyH.cons (o := { dst := some 88, op := Op.load 83 (Operand.tmp 87), type := 83, pos := "law.go:204", after := #[{ on := 0, ground := Ground.data }], guard := none }) rfl (fun K hK => ?_) AllReadyH.nil)
           go_simp
           refine hK.out _ _ (HLD.out _ HX4.out.1.c) (fun hHeld=>?_)
           clear hK K
           (try simp only[Act.put,List.setIfInBounds_toArray,List.set_cons_zero,List.set_cons_succ])
           refine wpAnyH_ready (rs:=[5]) (by kernel_rfl) (by simp) ?_
           refine (AllReadyH.cons (o := { dst := some 92, op := Op.call { callee := Callee.builtin Builtin.append, args := #[Operand.tmp 88, Operand.tmp 91], argTypes := #[83, 83] }, type := 83, pos := "law.go:204", after := #[{ on := 1, ground := Ground.data }, { on := 4, ground := Ground.data }, { on := 3, ground := Ground.chain }], guard := none }) rfl (fun K hK => ?_) AllReadyH.nil)
           refine step_sapp (E:=9) (sz:=1) (enc:=strE) (v:=.slice pn V.entries.length cn) (l:=V.entries) (m:=[bytesQ x]) rfl _ _ 83 rfl strE_len strE_one i0 ze by0 Tryz.underlying83 hi hz hs hb hzs (by decide) hb2 rfl HX4.out.1.t.row rfl HY.out (by simp;omega) (V.entries.length+1) (by simp) ?_
           intro p' cap' w15 hap
           obtain⟨t25,tf5,hx5⟩:=HX4.out.1.row_cell hap
           have HAP:=Lib.hid hap
           have HX5:=Lib.hid hx5
           clear hap hx5
           refine hK.out _ _ (HLD.out _ HX5.out) (fun hHeld=>?_)
           clear hK K
           (try simp only[Act.put,List.setIfInBounds_toArray,List.set_cons_zero,List.set_cons_succ])
           refine wpAnyH_take (i := 6) (oi := { dst := some 93, op := Op.fieldAddr 85 (Operand.tmp 13) 2, type := 0, pos := "law.go:204", after := #[{ on := 0, ground := Ground.phase }, { on := 1, ground := Ground.phase }, { on := 2, ground := Ground.phase }, { on := 3, ground := Ground.phase }, { on := 4, ground := Ground.phase }, { on := 5, ground := Ground.phase }], guard := none }) (v := ?_) rfl (by kernel_rfl) (by kernel_rfl) (by kernel_rfl) (fun _ _ _ h => h) (Or.inl ⟨by rfl, ?_⟩) hHeld ?_
           rotate_left
           ·intro w hSw;(try dsimp only at hSw);obtain -:=hSw;go_simp;try with_reducible rfl
           (try simp only[Act.put,List.setIfInBounds_toArray,List.set_cons_zero,List.set_cons_succ])
           refine wpAnyH_ready (rs:=[7]) (by kernel_rfl) (by simp) ?_
           refine (AllReadyH.cons (o := { dst := none, op := Op.store 83 (Operand.tmp 93) (Operand.tmp 92), type := 0, pos := "law.go:204", after := #[{ on := 6, ground := Ground.data }, { on := 5, ground := Ground.data }, { on := 5, ground := Ground.chain }, { on := 0, ground := Ground.phase }, { on := 1, ground := Ground.phase }, { on := 2, ground := Ground.phase }, { on := 3, ground := Ground.phase }, { on := 4, ground := Ground.phase }, { on := 5, ground := Ground.phase }], guard := none }) rfl (fun K hK => ?_) AllReadyH.nil)
           go_simp
           obtain⟨ow2,hs2,hb2x,hr2⟩:=HX4.out.1.row HX4.out.2 HAP.out ⟨by have:=HX4.out.1.v.ok.few;have h0:V.entries.length≤k:=HLV.out;simp;omega,fun b hb=>by
            rcases List.mem_append.1 hb with e|e
            ·exact HX4.out.1.v.ok.short b e
            ·rw[List.mem_singleton.1 e];exact⟨HLX.out,HBLX.out⟩,HX4.out.1.v.ok.st⟩
           have HZ:Hid (JB W ow2 nb tb xb V { V with entries:=V.entries ++ [bytesQ x] } (.slice pa V.entries.length ca) (.slice p' (V.entries.length+1) cap') x (k+1) (w15.setCell ⟨tb,2,none⟩ (.slice p' (V.entries.length+1) cap'))∧JR W ow2 jb db (V.j S1) (w15.setCell ⟨tb,2,none⟩ (.slice p' (V.entries.length+1) cap'))):=Lib.hid ⟨hb2x,hr2⟩
           clear hs2 hb2x hr2
           refine hK.out _ _ (HLD.out _ HZ.out.1.c) (fun hHeld=>?_)
           clear hK K
           (try simp only[Act.put,List.setIfInBounds_toArray,List.set_cons_zero,List.set_cons_succ])
           refine wpAnyH_done (by kernel_rfl) ?_ _
           clear q0 q1 q2 q3 q4 t2 tf t23 tf3 t24 tf4 t25 tf5 HX3 HX4 HX5 HE0 HAP HY
           generalize w15.setCell ⟨tb,2,none⟩ (.slice p' (V.entries.length+1) cap')=w16 at *
           obtain⟨q0,q1,q2,q3,q4⟩:=HLD.out w16 HZ.out.1.c
           go_wp2_with (first
            | (rw[hcv])
            | (go_at_call 56;refine(HBY.out _ HZ.out.2.gr).mono ?_;rintro e w17 ⟨rfl,hg17⟩;obtain⟨yv,w18,hcv,hg18,hy⟩:=conv_strP w17 (ofB (bytesQ x)) (by rw[ofB_size];have:=HLX.out;omega);rw[HBS.out] at hy;have HYY:=Lib.hid hy;have HB18:=Lib.hid (((HZ.out.1.grown hg17).grown hg18).mono (own':=fun q=>ow2 q∨(w17.heap.size≤q∧q<w18.heap.size)) fun q hq=>Or.inl hq);have HR18:=Lib.hid ((HZ.out.2.grown hg17).more hg18);clear hg17 hg18 hy)
            | (go_at_call 50;refine(HB18.out.app HR18.out HI.out.1 HI.out.2.1 (by have:=HLT.out.2;omega) HI.out.2.2 (HYY.out.mono fun q hq=>Or.inr hq) HBLX.out).mono ?_;rintro e w19 ⟨f,rfl,hm⟩;have HM:=Lib.hid hm;clear hm))
           go_meet
           case rel=>exact HM.out
        --F1
       case rest=>
        clear HJ HI HBY HBS HBLX HLX HLV z0 z1 z2 z3 z4 hk0
        obtain⟨ow3,X,nv,hjb,⟨rfl,S3,al3,bl3,hr3,hi3,hn3,h43⟩|⟨rfl,S3,al3,bl3,hr3,hi3,hn3,h43⟩|⟨rfl,d3,n3,hd3,ho3,h43,hg3⟩⟩:=hcut
        ·--F0
         obtain⟨pa,ca,hpa,-,-⟩:=SRow.form hjb.v.row
         subst hpa
         have hoff:=hr3.dr.off
         rw[show(V.j S3).S.d.off=false from hi3.inv.off] at hoff
         have HOFF:=Lib.hid hoff
         have HSM:=Lib.hid (same21_any hr3 hjb.v.ok hjb.v.ok (by have:=HLT.out.2;omega) hjb.v.row)
         have HMM:Hid (JMem W ow3 jb db nb S3 V al3 bl3 (.slice pa V.entries.length ca) (k+1) wc):=Lib.hid ⟨hr3,hi3,by omega,h43,hjb.v⟩
         obtain⟨n0,n1,n2,-⟩:=box3 hjb.v.box
         clear hr3 hi3 hjb hoff
         go_wp2_with (first
          | (go_at_call 33;refine HOFF.out.mono ?_;rintro e w13 ⟨rfl,h5⟩;obtain rfl:wc=w13:=h5.symm)
          | (go_at_call 57;refine HSM.out.mono ?_;rintro e w14 ⟨r,rfl,hg,hr⟩;obtain rfl:r=true:=hr.2 ⟨rfl,rfl,rfl⟩;have HG14:=Lib.hid hg;clear hg hr))
         exact⟨⟨ow3,jb,S3,V,al3,bl3,_,k+1,by have:=HLT.out;omega,by simp,rfl,rfl,HMM.out.grown HG14.out⟩,by have:=HLT.out;simp[intOf];omega⟩
         --F1
        ·--F0
         obtain⟨pa,ca,hpa,-,-⟩:=SRow.form hjb.v.row
         subst hpa
         obtain⟨pn,cn,hpn,-,-⟩:=SRow.form hjb.t.row
         subst hpn
         obtain⟨n0,n1,n2,nf⟩:=box3 hjb.v.box
         obtain⟨t0,t1,t2,-⟩:=box3 hjb.t.box
         go_upto_region 31 with fail
         have HZ:Hid (HB W ow3 nb X (.slice pn X.entries.length cn) (k+1) (((wc.setCell ⟨nb,0,none⟩ (.string (ofB (hsS X)))).setCell ⟨nb,1,none⟩ (.bool (hsB X))).setCell ⟨nb,2,none⟩ (.slice pn X.entries.length cn))∧JR W ow3 jb db (X.j S3) (((wc.setCell ⟨nb,0,none⟩ (.string (ofB (hsS X)))).setCell ⟨nb,1,none⟩ (.bool (hsB X))).setCell ⟨nb,2,none⟩ (.slice pn X.entries.length cn))):=Lib.hid ⟨hjb.take.1,hr3.keep hjb.v.nbo hjb.take.2.2 (hasW_size _ _ _ _ _)⟩
         clear n0 n1 n2 nf t0 t1 t2 hr3 hjb
         generalize ((wc.setCell ⟨nb,0,none⟩ (.string (ofB (hsS X)))).setCell ⟨nb,1,none⟩ (.bool (hsB X))).setCell ⟨nb,2,none⟩ (.slice pn X.entries.length cn)=w9 at *
         have hoff:=HZ.out.2.dr.off
         rw[show(X.j S3).S.d.off=false from hi3.inv.off] at hoff
         have HOFF:=Lib.hid hoff
         have HSM:=Lib.hid (same21_any HZ.out.2 HZ.out.1.ok HZ.out.1.ok (by have:=HLT.out.2;omega) HZ.out.1.row)
         have HMM:Hid (JMem W ow3 jb db nb S3 X al3 bl3 (.slice pn X.entries.length cn) (k+1) w9):=Lib.hid ⟨HZ.out.2,hi3,by omega,h43,HZ.out.1⟩
         obtain⟨n0,n1,n2,-⟩:=box3 HZ.out.1.box
         clear hi3 hoff HZ
         go_wp2_with (first
          | (go_at_call 33;refine HOFF.out.mono ?_;rintro e w13 ⟨rfl,h5⟩;obtain rfl:w9=w13:=h5.symm)
          | (go_at_call 57;refine HSM.out.mono ?_;rintro e w14 ⟨r,rfl,hg,hr⟩;obtain rfl:r=true:=hr.2 ⟨rfl,rfl,rfl⟩;have HG14:=Lib.hid hg;clear hg hr))
         exact⟨⟨ow3,jb,S3,X,al3,bl3,_,k+1,by have:=HLT.out;omega,by simp,rfl,rfl,HMM.out.grown HG14.out⟩,by have:=HLT.out;simp[intOf];omega⟩
         --F1
        ·obtain⟨pa,ca,hpa,-,-⟩:=SRow.form hjb.v.row
         subst hpa
         obtain⟨pn,cn,hpn,-,-⟩:=SRow.form hjb.t.row
         subst hpn
         have hoff:=hd3.off
         rw[ho3] at hoff
         have HOFF:=Lib.hid hoff
         have HON:=Lib.hid (hd3.on HX.out.f HX.out.fb (by have:=HXL.out.2;omega))
         obtain⟨a1,a2,a3,a4,al,blk4,hP,hgood⟩:=hg3.on ho3 x.F
         obtain⟨Vx,hvx,hsel⟩:∃Vx,jv al V0=some Vx∧(Vx=V∨Vx=X):=hP.elim (fun e=>⟨V,e,Or.inl rfl⟩) (fun e=>⟨X,e,Or.inr rfl⟩)
         have HA:=Lib.hid (show _∧_∧_∧_∧_∧_ from ⟨a1,a2,a3,a4,hgood,hvx⟩)
         have HJB:=Lib.hid hjb
         have HSEL:=Lib.hid hsel
         obtain⟨z0,z1,z2,z3,z4⟩:=HLD.out wc hjb.c
         clear hd3 ho3 hg3 a1 a2 a3 a4 hP hgood hvx hjb hsel hoff
         go_upto_region 33 with (first
          | (go_at_call 33;refine HOFF.out.mono ?_;rintro e w13 ⟨rfl,h5⟩;obtain rfl:wc=w13:=h5.symm)
          | (go_at_call 34;refine HON.out.mono ?_;rintro e w14 ⟨rfl,hd,ht⟩;have HD14:=Lib.hid hd;have HT14:=Lib.hid ht;clear hd ht))
         have HJB1:=Lib.hid (HJB.out.turn HT14.out)
         obtain⟨z0,z1,z2,z3,z4⟩:=HLD.out w14 HJB1.out.c
         have HFA:=Lib.hid (HD14.out.fail (bits .and .i64 x.n 7) (bits_lt _ _ _))
         have HMID:Hid (∀w,DR W ow3 db ((d3.on x.F).failed (bits .and .i64 x.n 7)) w→Calls Tryz.prog 49 #[.pointer (some ⟨db,0,none⟩)] w fun e w'=>∃y z d',e = .returned (.tuple #[y,z])∧DR W ow3 db d' w'∧DG d' n3 (fun al=>jv al V0=some Vx) ((k:Int)+2)∧Turn (fun q=>¬ow3 q) w w'):=Lib.hid fun w h=>by
          have h1:=h.mid HA.out.1.1 HA.out.2.1 (fun i _=>HA.out.2.2.2.1 i) (by show(d3.on x.F).n≤4096;rw[HA.out.2.2.1];exact h43) (show(k:Int)+2≤1000 by have:=HLT.out.2;omega) (by rw[show((d3.on x.F).failed (bits .and .i64 x.n 7)).n=n3 from HA.out.2.2.1];exact HA.out.2.2.2.2.1) HA.out.2.2.2.2.2
          rw[show((d3.on x.F).failed (bits .and .i64 x.n 7)).n=n3 from HA.out.2.2.1] at h1
          exact h1
         go_upto_region 36 with (first
          | (go_at_call 28;refine HFA.out.mono ?_;rintro e w15 ⟨rfl,hd,ht⟩;have HD15:=Lib.hid hd;have HT15:=Lib.hid ht;clear hd ht)
          | (go_at_call 49;refine(HMID.out _ HD15.out).mono ?_;rintro e w16 ⟨y,z,d5,rfl,hd,hg,ht⟩;have HD16:=Lib.hid hd;have HG16:=Lib.hid hg;have HT16:=Lib.hid ht;clear hd hg ht)
          | (go_at_call 41;refine HD16.out.crash.mono ?_;rintro e w17 ⟨rfl,hd,ht⟩;have HD17:=Lib.hid hd;have HT17:=Lib.hid ht;clear hd ht))
         have HJB2:=Lib.hid (((HJB1.out.turn HT15.out).turn HT16.out).turn HT17.out)
         obtain⟨z0,z1,z2,z3,z4⟩:=HLD.out w17 HJB2.out.c
         have HON2:=Lib.hid (HD17.out.on HX.out.f HX.out.fb (by have:=HXL.out.2;omega))
         obtain⟨a1,a2,a3,a4,al5,blk5,hP,hgood⟩:=HG16.out.crashed.on rfl x.F
         have HOP:Hid (∀w,DR W ow3 db (d5.crashed.on x.F) w→Calls Tryz.prog 49 #[.pointer (some ⟨db,0,none⟩)] w fun e w'=>∃jb S al blk,e = .returned (.tuple #[.pointer (some ⟨jb,0,none⟩),.int .i64 0])∧JR W ow3 jb db (Vx.j S) w'∧JI S Vx al blk∧Steady S.d∧S.next≤(k:Int)+2∧S.d.n≤4096∧Turn (fun q=>¬ow3 q) w w'):=Lib.hid fun w h=>by
          refine(h.open_ a1 a2 (fun i _=>a4 i) (by rw[a3];exact h43) (show(k:Int)+2≤1000 by have:=HLT.out.2;omega) (by rw[a3];exact hgood) hP).mono ?_
          rintro e w' ⟨jb,S,al,blk,rfl,h1,h2,h3,h4,h5,h6,-,-⟩
          exact⟨jb,S,al,blk,rfl,h1,h2,h3,h4,by rw[h5,a3];exact h43,h6⟩
         clear HA HFA HMID HON HOFF HJB HJB1 HD14 HD15 HD16 HD17 HT14 HT15 HT16 HT17 HG16 a1 a2 a3 a4 hP hgood
         go_upto_region 38 with (first
          | (go_at_call 34;refine HON2.out.mono ?_;rintro e w18 ⟨rfl,hd,ht⟩;have HD18:=Lib.hid hd;have HT18:=Lib.hid ht;clear hd ht)
          | (go_at_call 49;refine(HOP.out _ HD18.out).mono ?_;rintro e w19 ⟨jb2,S5,al6,blk6,rfl,hr,hi,hs,hn,hn4,ht⟩;have HR19:=Lib.hid hr;have HI19:=Lib.hid (show _∧_∧_∧_ from ⟨hi,hs,hn,hn4⟩);have HJB3:=Lib.hid ((HJB2.out.turn HT18.out).turn ht);clear hr hi hs hn hn4 ht))
         clear HON2 HOP HD18 HT18 HJB2 z0 z1 z2 z3 z4
         have hokx:VOk Vx (k+1):=by
          rcases HSEL.out with e|e
          ·rw[e];exact HJB3.out.v.ok
          ·rw[e];exact HJB3.out.t.ok
         have HOKX:=Lib.hid hokx
         clear hokx
         obtain⟨n0,n1,n2,nf⟩:=box3 HJB3.out.v.box
         obtain⟨t0,t1,t2,-⟩:=box3 HJB3.out.t.box
         have HSM:=Lib.hid (same21_any HR19.out HOKX.out HJB3.out.v.ok (by have:=HLT.out.2;omega) HJB3.out.v.row)
         go_upto_region 40 with fail
         by_cases hsv:SameV Vx V
         ·go_upto_region 42 with (go_at_call 57;refine HSM.out.mono ?_;rintro e w20 ⟨r,rfl,hg,hr⟩;obtain rfl:r=true:=hr.2 hsv;have HG20:=Lib.hid hg;clear hg hr)
          have hbx:=(HJB3.out.v.grown HG20.out).alike hsv HOKX.out
          have hrx:=HR19.out.grown HG20.out
          clear n0 n1 n2 nf t0 t1 t2 HSM HR19 HJB3 HG20 HSEL hsv
          obtain⟨p9,c9,e9,-,-⟩:=SRow.form hbx.row
          rw[e9] at hbx
          have HBX:=Lib.hid hbx
          have HAG:=Lib.hid (hrx.again HI19.out.1 HI19.out.2.1 (by have:=HI19.out.2.2.1;have:=HLT.out.2;omega) HI19.out.2.2.2)
          clear hbx hrx e9
          go_upto_region 43 with (go_at_call 49;refine HAG.out.mono ?_;rintro e w22 ⟨jb3,S6,rfl,hr,hr2,ht⟩;have HRA:=Lib.hid hr;have HRB:=Lib.hid hr2;have HBY:=Lib.hid (HBX.out.turn ht);clear hr hr2 ht)
          obtain⟨m0,m1,m2,-⟩:=box3 HBY.out.box
          have HS1:=Lib.hid (same21_any HRB.out HOKX.out HOKX.out (by have:=HLT.out.2;omega) HBY.out.row)
          go_upto_region 45 with (go_at_call 57;refine HS1.out.mono ?_;rintro e w23 ⟨r,rfl,hg,hr⟩;obtain rfl:r=true:=hr.2 ⟨rfl,rfl,rfl⟩;have HG23:=Lib.hid hg;clear hg hr)
          have HBZ:=Lib.hid (HBY.out.grown HG23.out)
          have HRZ:=Lib.hid (HRA.out.grown HG23.out)
          obtain⟨k0,k1,k2,-⟩:=box3 HBZ.out.box
          have HS2:=Lib.hid (same21_any HRZ.out HOKX.out HOKX.out (by have:=HLT.out.2;omega) HBZ.out.row)
          clear m0 m1 m2 HS1 HBY HRA HRB HG23 HBX HAG
          go_wp2_with (go_at_call 57;refine HS2.out.mono ?_;rintro e w24 ⟨r,rfl,hg,hr⟩;obtain rfl:r=true:=hr.2 ⟨rfl,rfl,rfl⟩;have HG24:=Lib.hid hg;clear hg hr)
          exact⟨⟨ow3,jb2,S5,Vx,al6,blk6,_,k+1,by have:=HLT.out;omega,by simp,rfl,rfl,⟨HRZ.out.grown HG24.out,HI19.out.1,by have:=HI19.out.2.2.1;omega,HI19.out.2.2.2,HBZ.out.grown HG24.out⟩⟩,by have:=HLT.out;simp[intOf];omega⟩
         ·have hvx2:Vx=X:=HSEL.out.elim (fun e=>absurd (show SameV Vx V by rw[e];exact⟨rfl,rfl,rfl⟩) hsv) id
          subst hvx2
          go_upto_region 41 with (go_at_call 57;refine HSM.out.mono ?_;rintro e w20 ⟨r,rfl,hg,hr⟩;obtain rfl:r=false:=Bool.eq_false_iff.2 fun e=>hsv (hr.1 e);have HG20:=Lib.hid hg;clear hg hr)
          have HJB4:=Lib.hid (HJB3.out.grown HG20.out)
          have HR20:=Lib.hid (HR19.out.grown HG20.out)
          obtain⟨n0,n1,n2,nf⟩:=box3 HJB4.out.v.box
          obtain⟨t0,t1,t2,-⟩:=box3 HJB4.out.t.box
          go_upto_region 42 with fail
          have hbx:HB W ow3 nb Vx (.slice pn Vx.entries.length cn) (k+1) (((w20.setCell ⟨nb,0,none⟩ (.string (ofB (hsS Vx)))).setCell ⟨nb,1,none⟩ (.bool (hsB Vx))).setCell ⟨nb,2,none⟩ (.slice pn Vx.entries.length cn)):=HJB4.out.take.1
          have hrx:JR W ow3 jb2 db (Vx.j S5) (((w20.setCell ⟨nb,0,none⟩ (.string (ofB (hsS Vx)))).setCell ⟨nb,1,none⟩ (.bool (hsB Vx))).setCell ⟨nb,2,none⟩ (.slice pn Vx.entries.length cn)):=HR20.out.keep HJB4.out.v.nbo HJB4.out.take.2.2 (hasW_size _ _ _ _ _)
          clear n0 n1 n2 nf t0 t1 t2 HSM HR19 HR20 HJB3 HJB4 HG20 HSEL hsv
          generalize ((w20.setCell ⟨nb,0,none⟩ (.string (ofB (hsS Vx)))).setCell ⟨nb,1,none⟩ (.bool (hsB Vx))).setCell ⟨nb,2,none⟩ (.slice pn Vx.entries.length cn)=w21 at *
          obtain⟨p9,c9,e9,-,-⟩:=SRow.form hbx.row
          rw[e9] at hbx
          have HBX:=Lib.hid hbx
          have HAG:=Lib.hid (hrx.again HI19.out.1 HI19.out.2.1 (by have:=HI19.out.2.2.1;have:=HLT.out.2;omega) HI19.out.2.2.2)
          clear hbx hrx e9
          go_upto_region 43 with (go_at_call 49;refine HAG.out.mono ?_;rintro e w22 ⟨jb3,S6,rfl,hr,hr2,ht⟩;have HRA:=Lib.hid hr;have HRB:=Lib.hid hr2;have HBY:=Lib.hid (HBX.out.turn ht);clear hr hr2 ht)
          obtain⟨m0,m1,m2,-⟩:=box3 HBY.out.box
          have HS1:=Lib.hid (same21_any HRB.out HOKX.out HOKX.out (by have:=HLT.out.2;omega) HBY.out.row)
          go_upto_region 45 with (go_at_call 57;refine HS1.out.mono ?_;rintro e w23 ⟨r,rfl,hg,hr⟩;obtain rfl:r=true:=hr.2 ⟨rfl,rfl,rfl⟩;have HG23:=Lib.hid hg;clear hg hr)
          have HBZ:=Lib.hid (HBY.out.grown HG23.out)
          have HRZ:=Lib.hid (HRA.out.grown HG23.out)
          obtain⟨k0,k1,k2,-⟩:=box3 HBZ.out.box
          have HS2:=Lib.hid (same21_any HRZ.out HOKX.out HOKX.out (by have:=HLT.out.2;omega) HBZ.out.row)
          clear m0 m1 m2 HS1 HBY HRA HRB HG23 HBX HAG
          go_wp2_with (go_at_call 57;refine HS2.out.mono ?_;rintro e w24 ⟨r,rfl,hg,hr⟩;obtain rfl:r=true:=hr.2 ⟨rfl,rfl,rfl⟩;have HG24:=Lib.hid hg;clear hg hr)
          exact⟨⟨ow3,jb2,S5,Vx,al6,blk6,_,k+1,by have:=HLT.out;omega,by simp,rfl,rfl,⟨HRZ.out.grown HG24.out,HI19.out.1,by have:=HI19.out.2.2.1;omega,HI19.out.2.2.2,HBZ.out.grown HG24.out⟩⟩,by have:=HLT.out;simp[intOf];omega⟩
    ·go_wp2_with (go_at_call 48;refine(HW.out _).mono ?_;rintro e w9 ⟨rfl,hg⟩;have HG9:=Lib.hid hg;clear hg)
     go_ret
     exact⟨rfl,grown_trans HK.out.jr.gr HG9.out⟩
end Go.Proofs.YtbcbhlfjgobejaaGreat
