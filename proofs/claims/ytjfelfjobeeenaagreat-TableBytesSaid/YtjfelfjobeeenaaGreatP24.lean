/- tells: the walk: both tables tell the same. Conditions: both tables lie in memory and go together. -/
import Derived.Test.YtjfelfjobeeenaaGreatP23
import Derived.Deep.RegionHeld3
import Derived.Deep.DeepCutAuto
namespace Go.Proofs.YtjfelfjobeeenaaGreat
set_option linter.unusedVariables false
set_option linter.unusedSimpArgs false
open Go.RowKit Go.Sf Go.Shelf Go.Maps
theorem neq_self (n:Int):(n != n)=false:=by simp
theorem eql_selfB (b:Bool):(b == b)=true:=by simp
theorem neq_selfB (b:Bool):(b != b)=false:=by simp
section
variable {W : World} {tb rb : Nat} {L : Tab} {R : RTab}
set_option maxHeartbeats 8000000 in
set_option maxRecDepth 100000 in
theorem tells_any (h:Telling W tb rb L R) (htb:tb<W.heap.size) (hrb:rb<W.heap.size) (kind node client inc req ver code:Int) (key:ByteArray) :
  Calls Tryz.prog 83 #[.pointer (some ⟨tb,0,none⟩),.pointer (some ⟨rb,0,none⟩),.agg #[.int .u8 kind,.int .i64 node,.int .i64 client,.int .i64 inc,.int .i64 req,.int .i64 ver,.string key,.int .i64 code]] W fun e w'=>e = .returned (.bool true)∧W.grownBy w' none:=by
 have HH:=Lib.hid h
 clear h
 go_enter Tryz.func83,Tryz.ntmps83
 go_upto_region 1 with fail
 have HG0:=Lib.hid (World.grownBy_alloc W (.cells #[.int .u8 kind,.int .i64 node,.int .i64 client,.int .i64 inc,.int .i64 req,.int .i64 ver,.string key,.int .i64 code] 24) none)
 have HB0:=Lib.hid (heap_alloc_new W (.cells #[.int .u8 kind,.int .i64 node,.int .i64 client,.int .i64 inc,.int .i64 req,.int .i64 ver,.string key,.int .i64 code] 24))
 generalize W.alloc (.cells #[.int .u8 kind,.int .i64 node,.int .i64 client,.int .i64 inc,.int .i64 req,.int .i64 ver,.string key,.int .i64 code] 24)=wa at *
 generalize hcb:W.heap.size=cb at *
 have d2:wa.cell? ⟨cb,2,none⟩=some (.int .i64 client):=(cell_block HB0.out 2).trans rfl
 go_upto_region 2 with (go_at_call 146;refine(HH.out.rcall _ HG0.out client).mono ?_;rintro e w1 ⟨rfl,hg⟩;have HG1:=Lib.hid hg;clear hg)
 have HGX:=Lib.hid (grown_trans HG0.out (grown_alloc HG1.out (.cells #[.int .i64 client,.int .i64 (callV L client).req,.int .i64 (callV L client).ver,.bool (callV L client).done,.int .i64 (callV L client).code] 193)))
 have HBC:=Lib.hid (((grown_alloc HG1.out (.cells #[.int .i64 client,.int .i64 (callV L client).req,.int .i64 (callV L client).ver,.bool (callV L client).done,.int .i64 (callV L client).code] 193)).block cb (Array.getElem?_eq_some_iff.1 HB0.out).1 (by simp)).trans HB0.out)
 have HBX:=Lib.hid (heap_alloc_new w1 (.cells #[.int .i64 client,.int .i64 (callV L client).req,.int .i64 (callV L client).ver,.bool (callV L client).done,.int .i64 (callV L client).code] 193))
 clear d2
 generalize w1.alloc (.cells #[.int .i64 client,.int .i64 (callV L client).req,.int .i64 (callV L client).ver,.bool (callV L client).done,.int .i64 (callV L client).code] 193)=wx at *
 generalize hxb:w1.heap.size=xb at *
 have d2:wx.cell? ⟨cb,2,none⟩=some (.int .i64 client):=(cell_block HBC.out 2).trans rfl
 go_upto_region 3 with (go_at_call 32;refine(HH.out.call _ HGX.out client).mono ?_;rintro e w2 ⟨rfl,hg⟩;have HG2:=Lib.hid hg;clear hg)
 have HGY:=Lib.hid (grown_trans HGX.out (grown_alloc HG2.out (.cells #[.int .i64 (callV L client).req,.int .i64 (callV L client).ver,.bool (callV L client).done,.int .i64 (callV L client).code] 77)))
 have HBC2:=Lib.hid (((grown_alloc HG2.out (.cells #[.int .i64 (callV L client).req,.int .i64 (callV L client).ver,.bool (callV L client).done,.int .i64 (callV L client).code] 77)).block cb (Array.getElem?_eq_some_iff.1 HBC.out).1 (by simp)).trans HBC.out)
 have HBX2:=Lib.hid (((grown_alloc HG2.out (.cells #[.int .i64 (callV L client).req,.int .i64 (callV L client).ver,.bool (callV L client).done,.int .i64 (callV L client).code] 77)).block xb (Array.getElem?_eq_some_iff.1 HBX.out).1 (by simp)).trans HBX.out)
 have HBY:=Lib.hid (heap_alloc_new w2 (.cells #[.int .i64 (callV L client).req,.int .i64 (callV L client).ver,.bool (callV L client).done,.int .i64 (callV L client).code] 77))
 clear d2 HG0 HB0 HG1 HGX HBC HBX
 generalize w2.alloc (.cells #[.int .i64 (callV L client).req,.int .i64 (callV L client).ver,.bool (callV L client).done,.int .i64 (callV L client).code] 77)=wy at *
 generalize hyb:w2.heap.size=yb at *
 clear HG2 hxb hyb
 have x1:wy.cell? ⟨xb,1,none⟩=some (.int .i64 (callV L client).req):=(cell_block HBX2.out 1).trans rfl
 have x2:wy.cell? ⟨xb,2,none⟩=some (.int .i64 (callV L client).ver):=(cell_block HBX2.out 2).trans rfl
 have x3:wy.cell? ⟨xb,3,none⟩=some (.bool (callV L client).done):=(cell_block HBX2.out 3).trans rfl
 have x4:wy.cell? ⟨xb,4,none⟩=some (.int .i64 (callV L client).code):=(cell_block HBX2.out 4).trans rfl
 have y0:wy.cell? ⟨yb,0,none⟩=some (.int .i64 (callV L client).req):=(cell_block HBY.out 0).trans rfl
 have y1:wy.cell? ⟨yb,1,none⟩=some (.int .i64 (callV L client).ver):=(cell_block HBY.out 1).trans rfl
 have y2:wy.cell? ⟨yb,2,none⟩=some (.bool (callV L client).done):=(cell_block HBY.out 2).trans rfl
 have y3:wy.cell? ⟨yb,3,none⟩=some (.int .i64 (callV L client).code):=(cell_block HBY.out 3).trans rfl
 have r2:wy.cell? ⟨rb,2,none⟩=some (.int .i64 L.offers):=HGY.out.cell HH.out.rc2 (by simp)
 have r3:wy.cell? ⟨rb,3,none⟩=some (.int .i64 L.next):=HGY.out.cell HH.out.rc3 (by simp)
 have n1:=neq_self (callV L client).req
 have n2:=neq_self (callV L client).ver
 have n3:=neq_selfB (callV L client).done
 have n4:=neq_self (callV L client).code
 have n5:=neq_self L.offers
 have n6:=neq_self L.next
 have lx:=cell_lt x1
 have ly:=cell_lt y1
 have lr:=cell_lt r2
 have HOF:Hid (∀w,wy.grownBy w none→Calls Tryz.prog 35 #[.pointer (some ⟨tb,0,none⟩)] w fun e w'=>e = .returned (.int .i64 L.offers)∧w.grownBy w' none):=(show ∀_,_→Calls _ _ _ _ _ from fun w hg=>HH.out.offered w (grown_trans HGY.out hg))
 have HNX:Hid (∀w,wy.grownBy w none→Calls Tryz.prog 31 #[.pointer (some ⟨tb,0,none⟩)] w fun e w'=>e = .returned (.int .i64 L.next)∧w.grownBy w' none):=(show ∀_,_→Calls _ _ _ _ _ from fun w hg=>HH.out.next w (grown_trans HGY.out hg))
 generalize (callV L client).req=q0 at *
 generalize (callV L client).ver=q1 at *
 generalize (callV L client).done=q2 at *
 generalize (callV L client).code=q3 at *
 generalize L.offers=q4 at *
 generalize L.next=q5 at *
 refine wp_region_quiet_ext (by kernel_rfl) (by kernel_rfl) ?_
 repeat (any_goals (first|go_big_quiet_step ((first|(go_at_call 35;exact calls_ext (HOF.out _ (by repeat (first|exact grown_refl _|exact World.grownBy_alloc _ _ _|refine grown_ext' ?_ _|refine grown_alloc ?_ _|refine grown_drew ?_))))|(go_at_call 31;exact calls_ext (HNX.out _ (by repeat (first|exact grown_refl _|exact World.grownBy_alloc _ _ _|refine grown_ext' ?_ _|refine grown_alloc ?_ _|refine grown_drew ?_))))))|quiet_step ((first|(go_at_call 35;exact calls_ext (HOF.out _ (by repeat (first|exact grown_refl _|exact World.grownBy_alloc _ _ _|refine grown_ext' ?_ _|refine grown_alloc ?_ _|refine grown_drew ?_))))|(go_at_call 31;exact calls_ext (HNX.out _ (by repeat (first|exact grown_refl _|exact World.grownBy_alloc _ _ _|refine grown_ext' ?_ _|refine grown_alloc ?_ _|refine grown_drew ?_))))))))
 refine wpQuiet_nil ?_
 intro _ hw'
 obtain⟨x,hw''⟩:=hw'
 subst hw''
 have HGZ:=Lib.hid (grown_trans HGY.out (grown_ext wy x))
 have HBC3:=Lib.hid (((grown_ext wy x).block cb (Array.getElem?_eq_some_iff.1 HBC2.out).1 (by simp)).trans HBC2.out)
 clear x1 x2 x3 x4 y0 y1 y2 y3 r2 r3 n1 n2 n3 n4 n5 n6 lx ly lr HOF HNX HGY HBC2 HBX2 HBY
 generalize ext wy x=wz at *
 go_upto_region 5 with fail
 have d6:wz.cell? ⟨cb,6,none⟩=some (.string key):=(cell_block HBC3.out 6).trans rfl
 have nlk:=neq_self (look L key)
 go_cut [87] (fun s wx=>s = .bool false∧wz.grownBy wx none)
 case first=>
  have HGP:=Lib.hid (grown_refl wz)
  go_region_held3 (fun w'=>w'.cell? ⟨cb,6,none⟩=some (.string key)) (first|assumption|go_keep) (first
  | (go_at_call 33;refine(HH.out.pending _ (grown_trans HGZ.out (grown_trans HGP.out (by repeat (first|exact grown_refl _|exact World.grownBy_alloc _ _ _|refine grown_alloc ?_ _|refine grown_drew ?_))))).mono ?_;rintro e w3 ⟨pa,rfl,hp,hg⟩;have k7:=hg.cell (a:=⟨cb,6,none⟩) (v:=.string key) (by first|assumption|(simp only[World.cell_drew];assumption)) (by simp);replace HGP:=Lib.hid (grown_trans (grown_trans HGP.out (by repeat (first|exact grown_refl _|exact World.grownBy_alloc _ _ _|refine grown_alloc ?_ _|refine grown_drew ?_))) hg);have HPA:=Lib.hid hp;clear hp;clear hg)
  | (go_at_call 148;refine(HH.out.rpending _ (grown_trans HGZ.out (grown_trans HGP.out (by repeat (first|exact grown_refl _|exact World.grownBy_alloc _ _ _|refine grown_alloc ?_ _|refine grown_drew ?_))))).mono ?_;rintro e w3 ⟨pb,rfl,hp,hg⟩;have k7:=hg.cell (a:=⟨cb,6,none⟩) (v:=.string key) (by first|assumption|(simp only[World.cell_drew];assumption)) (by simp);replace HGP:=Lib.hid (grown_trans (grown_trans HGP.out (by repeat (first|exact grown_refl _|exact World.grownBy_alloc _ _ _|refine grown_alloc ?_ _|refine grown_drew ?_))) hg);replace HPA:=Lib.hid (HPA.out.kept (grown_trans (by repeat (first|exact grown_refl _|exact World.grownBy_alloc _ _ _|refine grown_alloc ?_ _|refine grown_drew ?_)) hg));have HPB:=Lib.hid hp;clear hp;clear hg)
  | (go_at_call 42;refine(HH.out.current _ (grown_trans HGZ.out (grown_trans HGP.out (by repeat (first|exact grown_refl _|exact World.grownBy_alloc _ _ _|refine grown_alloc ?_ _|refine grown_drew ?_))))).mono ?_;rintro e w3 ⟨ca,rfl,hp,hg⟩;have k7:=hg.cell (a:=⟨cb,6,none⟩) (v:=.string key) (by first|assumption|(simp only[World.cell_drew];assumption)) (by simp);replace HGP:=Lib.hid (grown_trans (grown_trans HGP.out (by repeat (first|exact grown_refl _|exact World.grownBy_alloc _ _ _|refine grown_alloc ?_ _|refine grown_drew ?_))) hg);have HCA:=Lib.hid hp;clear hp;clear hg)
  | (go_at_call 137;refine(HH.out.rcurrent _ (grown_trans HGZ.out (grown_trans HGP.out (by repeat (first|exact grown_refl _|exact World.grownBy_alloc _ _ _|refine grown_alloc ?_ _|refine grown_drew ?_))))).mono ?_;rintro e w3 ⟨cb2,rfl,hp,hg⟩;have k7:=hg.cell (a:=⟨cb,6,none⟩) (v:=.string key) (by first|assumption|(simp only[World.cell_drew];assumption)) (by simp);replace HGP:=Lib.hid (grown_trans (grown_trans HGP.out (by repeat (first|exact grown_refl _|exact World.grownBy_alloc _ _ _|refine grown_alloc ?_ _|refine grown_drew ?_))) hg);replace HCA:=Lib.hid (HCA.out.kept (grown_trans (by repeat (first|exact grown_refl _|exact World.grownBy_alloc _ _ _|refine grown_alloc ?_ _|refine grown_drew ?_)) hg));have HCB:=Lib.hid hp;clear hp;clear hg)
  | (go_at_call 147;refine(sameIDs_any (HPA.out.kept (by repeat (first|exact grown_refl _|exact World.grownBy_alloc _ _ _|refine grown_alloc ?_ _|refine grown_drew ?_))) (HPB.out.kept (by repeat (first|exact grown_refl _|exact World.grownBy_alloc _ _ _|refine grown_alloc ?_ _|refine grown_drew ?_))) HH.out.lp).mono ?_;rintro e w3 ⟨rfl,hg⟩;have k7:=hg.cell (a:=⟨cb,6,none⟩) (v:=.string key) (by first|assumption|(simp only[World.cell_drew];assumption)) (by simp);replace HGP:=Lib.hid (grown_trans (grown_trans HGP.out (by repeat (first|exact grown_refl _|exact World.grownBy_alloc _ _ _|refine grown_alloc ?_ _|refine grown_drew ?_))) hg);clear HPA HPB;clear hg)
  | (go_at_call 147;refine(sameIDs_any (HCA.out.kept (by repeat (first|exact grown_refl _|exact World.grownBy_alloc _ _ _|refine grown_alloc ?_ _|refine grown_drew ?_))) (HCB.out.kept (by repeat (first|exact grown_refl _|exact World.grownBy_alloc _ _ _|refine grown_alloc ?_ _|refine grown_drew ?_))) HH.out.lc).mono ?_;rintro e w3 ⟨rfl,hg⟩;have k7:=hg.cell (a:=⟨cb,6,none⟩) (v:=.string key) (by first|assumption|(simp only[World.cell_drew];assumption)) (by simp);replace HGP:=Lib.hid (grown_trans (grown_trans HGP.out (by repeat (first|exact grown_refl _|exact World.grownBy_alloc _ _ _|refine grown_alloc ?_ _|refine grown_drew ?_))) hg);clear HCA HCB;clear hg)
  | (go_at_call 34;refine(HH.out.look _ (grown_trans HGZ.out (grown_trans HGP.out (by repeat (first|exact grown_refl _|exact World.grownBy_alloc _ _ _|refine grown_alloc ?_ _|refine grown_drew ?_)))) key).mono ?_;rintro e w3 ⟨rfl,hg⟩;have k7:=hg.cell (a:=⟨cb,6,none⟩) (v:=.string key) (by first|assumption|(simp only[World.cell_drew];assumption)) (by simp);replace HGP:=Lib.hid (grown_trans (grown_trans HGP.out (by repeat (first|exact grown_refl _|exact World.grownBy_alloc _ _ _|refine grown_alloc ?_ _|refine grown_drew ?_))) hg);clear hg)
  | (go_at_call 149;refine(HH.out.rlook _ (grown_trans HGZ.out (grown_trans HGP.out (by repeat (first|exact grown_refl _|exact World.grownBy_alloc _ _ _|refine grown_alloc ?_ _|refine grown_drew ?_)))) key).mono ?_;rintro e w3 ⟨rfl,hg⟩;have k7:=hg.cell (a:=⟨cb,6,none⟩) (v:=.string key) (by first|assumption|(simp only[World.cell_drew];assumption)) (by simp);replace HGP:=Lib.hid (grown_trans (grown_trans HGP.out (by repeat (first|exact grown_refl _|exact World.grownBy_alloc _ _ _|refine grown_alloc ?_ _|refine grown_drew ?_))) hg);clear hg)
  )
  all_goals
   go_wp2_with fail
   go_meet
   exact⟨rfl,grown_trans HGP.out (by repeat (first|exact grown_refl _|exact World.grownBy_alloc _ _ _|refine grown_alloc ?_ _|refine grown_drew ?_))⟩
 case rest=>
  obtain⟨rfl,hgc⟩:=hcut
  have HGC:=Lib.hid (grown_trans HGZ.out hgc)
  have HBC4:=Lib.hid ((hgc.block cb (Array.getElem?_eq_some_iff.1 HBC3.out).1 (by simp)).trans HBC3.out)
  have hn0:=HH.out.n0
  have hn1:=HH.out.n1
  have HC0:=Lib.hid HH.out.rc0
  clear hgc d6 HBC3 nlk
  generalize hN:R.N=N at *
  have HN:=Lib.hid hN
  clear hN
  go_wp2
  go_loopw [9] (fun x wr=>∃a:Int,-1≤a∧a≤N+1∧x = .int .i64 a∧wc.grownBy wr none) (fun x _=>(N+1-intOf x).toNat)
  case atStart=>exact⟨-1,by omega,by omega,rfl,grown_refl _⟩
  case round=>
   obtain⟨a,ha0,ha1,rfl,hgw⟩:=hrel
   have HGR:=Lib.hid (grown_trans HGC.out hgw)
   have HGW:=Lib.hid hgw
   have r0:wr.cell? ⟨rb,0,none⟩=some (.int .i64 N):=HGR.out.cell HC0.out (by simp)
   have lrb:=cell_lt r0
   by_cases hle:a≤N
   ·by_cases h0:a<0
    ·have HLV:Hid (lifeV L a=0):=(show _=_ from HH.out.out a (Or.inl h0))
     have hb0:decide (0≤a)=false:=by simp;omega
     clear hgw
     go_wp2_with (first
      | (go_at_call 23;refine(HH.out.life _ HGR.out a).mono ?_;rw[HLV.out];rintro e w5 ⟨rfl,hg⟩;have HG5:=Lib.hid (grown_trans HGW.out hg);clear hg)
      | (go_at_call 43;refine(HH.out.missing _ (grown_trans HGC.out HG5.out) a).mono ?_;rintro e w6 ⟨va,rfl,hp,hg⟩;have HPA:=Lib.hid hp;have HG6:=Lib.hid (grown_trans HG5.out hg);clear hp hg)
      | (go_at_call 150;refine(HH.out.rmissing _ (grown_trans HGC.out HG6.out) a).mono ?_;rintro e w7 ⟨vb,rfl,hp,hg⟩;have HPB:=Lib.hid hp;have HG7:=Lib.hid (grown_trans HG6.out hg);replace HPA:=Lib.hid (HPA.out.kept hg);clear hp hg)
      | (go_at_call 147;refine(sameIDs_any HPA.out HPB.out (HH.out.lm a)).mono ?_;rintro e w8 ⟨rfl,hg⟩;have HG8:=Lib.hid (grown_trans HG7.out hg);clear hg))
     go_roundw
     case rel=>exact⟨a+1,by omega,by omega,by go_num,HG8.out⟩
     case measure=>simp[intOf];omega
    ·obtain⟨m,rfl⟩:=Int.eq_ofNat_of_zero_le (show 0≤a by omega)
     have hb0:decide (0≤(m:Int))=true:=by simp
     by_cases h1:(m:Int)<N
     ·obtain⟨gL,capL,len,r4,rl,hml,hlc,hcl⟩:=HH.out.rlive m (by rw[HN.out];exact h1)
      have r4':wr.cell? ⟨rb,4,none⟩=some (.slice (some ⟨gL,0,none⟩) len capL):=HGR.out.cell r4 (by simp)
      have rl':wr.cell? ⟨gL,m,none⟩=some (.int .i64 (lifeV L (m:Int))):=HGR.out.cell rl (by simp)
      have hb1:decide ((m:Int)<N)=true:=by simpa using h1
      have nl:=neq_self (lifeV L (m:Int))
      have HLV:Hid (lifeV L (m:Int)=lifeV L (m:Int)):=rfl
      clear hgw r4 rl
      generalize hlv:lifeV L (m:Int)=lv at *
      have HLV:Hid (lifeV L (m:Int)=lv):=hlv
      clear hlv
      go_wp2_with (first
       | (go_at_call 23;refine(HH.out.life _ HGR.out (m:Int)).mono ?_;rw[HLV.out];rintro e w5 ⟨rfl,hg⟩;have HG5:=Lib.hid (grown_trans HGW.out hg);clear hg)
       | (go_at_call 43;refine(HH.out.missing _ (grown_trans HGC.out HG5.out) (m:Int)).mono ?_;rintro e w6 ⟨va,rfl,hp,hg⟩;have HPA:=Lib.hid hp;have HG6:=Lib.hid (grown_trans HG5.out hg);clear hp hg)
       | (go_at_call 150;refine(HH.out.rmissing _ (grown_trans HGC.out HG6.out) (m:Int)).mono ?_;rintro e w7 ⟨vb,rfl,hp,hg⟩;have HPB:=Lib.hid hp;have HG7:=Lib.hid (grown_trans HG6.out hg);replace HPA:=Lib.hid (HPA.out.kept hg);clear hp hg)
       | (go_at_call 147;refine(sameIDs_any HPA.out HPB.out (HH.out.lm (m:Int))).mono ?_;rintro e w8 ⟨rfl,hg⟩;have HG8:=Lib.hid (grown_trans HG7.out hg);clear hg))
      go_roundw
      case rel=>exact⟨(m:Int)+1,by omega,by omega,by go_num,HG8.out⟩
      case measure=>simp[intOf];omega
     ·have hb1:decide ((m:Int)<N)=false:=by simp;omega
      have HLV:Hid (lifeV L (m:Int)=0):=(show _=_ from HH.out.out m (Or.inr (by rw[HN.out];omega)))
      clear hgw
      go_wp2_with (first
       | (go_at_call 23;refine(HH.out.life _ HGR.out (m:Int)).mono ?_;rw[HLV.out];rintro e w5 ⟨rfl,hg⟩;have HG5:=Lib.hid (grown_trans HGW.out hg);clear hg)
       | (go_at_call 43;refine(HH.out.missing _ (grown_trans HGC.out HG5.out) (m:Int)).mono ?_;rintro e w6 ⟨va,rfl,hp,hg⟩;have HPA:=Lib.hid hp;have HG6:=Lib.hid (grown_trans HG5.out hg);clear hp hg)
       | (go_at_call 150;refine(HH.out.rmissing _ (grown_trans HGC.out HG6.out) (m:Int)).mono ?_;rintro e w7 ⟨vb,rfl,hp,hg⟩;have HPB:=Lib.hid hp;have HG7:=Lib.hid (grown_trans HG6.out hg);replace HPA:=Lib.hid (HPA.out.kept hg);clear hp hg)
       | (go_at_call 147;refine(sameIDs_any HPA.out HPB.out (HH.out.lm (m:Int))).mono ?_;rintro e w8 ⟨rfl,hg⟩;have HG8:=Lib.hid (grown_trans HG7.out hg);clear hg))
      go_roundw
      case rel=>exact⟨(m:Int)+1,by omega,by omega,by go_num,HG8.out⟩
      case measure=>simp[intOf];omega
   ·have d5:wr.cell? ⟨cb,5,none⟩=some (.int .i64 ver):=(cell_block ((hgw.block cb (Array.getElem?_eq_some_iff.1 HBC4.out).1 (by simp)).trans HBC4.out) 5).trans rfl
    have d6:wr.cell? ⟨cb,6,none⟩=some (.string key):=(cell_block ((hgw.block cb (Array.getElem?_eq_some_iff.1 HBC4.out).1 (by simp)).trans HBC4.out) 6).trans rfl
    have HGP:=Lib.hid (grown_refl wr)
    have heqb:=eql_selfB (wantedB L ⟨key,ver⟩)
    clear hgw
    generalize wantedB L ⟨key,ver⟩=wn at *
    go_upto_region 15 with fail
    go_cut [6] (fun s wx=>s = .bool true∧wr.grownBy wx none)
    case first=>
     go_region_held3 (fun w'=>w'.cell? ⟨cb,5,none⟩=some (.int .i64 ver)∧w'.cell? ⟨cb,6,none⟩=some (.string key)) (first|exact⟨by assumption,by assumption⟩|go_keep) (first
     | (go_at_call 45;refine(id_any key ver _).mono ?_;rintro e w3 ⟨rfl,hg⟩;have k5:=hg.cell (a:=⟨cb,5,none⟩) (v:=.int .i64 ver) (by first|assumption|(simp only[World.cell_drew];assumption)) (by simp);have k6:=hg.cell (a:=⟨cb,6,none⟩) (v:=.string key) (by first|assumption|(simp only[World.cell_drew];assumption)) (by simp);replace HGP:=Lib.hid (grown_trans (grown_trans HGP.out (by repeat (first|exact grown_refl _|exact World.grownBy_alloc _ _ _|refine grown_alloc ?_ _|refine grown_drew ?_))) hg);simp only[encID];clear hg)
     | (go_at_call 36;refine(HH.out.wanted _ (grown_trans HGR.out (grown_trans HGP.out (by repeat (first|exact grown_refl _|exact World.grownBy_alloc _ _ _|refine grown_alloc ?_ _|refine grown_drew ?_)))) key ver).mono ?_;rintro e w3 ⟨rfl,hg⟩;have k5:=hg.cell (a:=⟨cb,5,none⟩) (v:=.int .i64 ver) (by first|assumption|(simp only[World.cell_drew];assumption)) (by simp);have k6:=hg.cell (a:=⟨cb,6,none⟩) (v:=.string key) (by first|assumption|(simp only[World.cell_drew];assumption)) (by simp);replace HGP:=Lib.hid (grown_trans (grown_trans HGP.out (by repeat (first|exact grown_refl _|exact World.grownBy_alloc _ _ _|refine grown_alloc ?_ _|refine grown_drew ?_))) hg);clear hg)
     | (go_at_call 115;refine(HH.out.rwanted _ (grown_trans HGR.out (grown_trans HGP.out (by repeat (first|exact grown_refl _|exact World.grownBy_alloc _ _ _|refine grown_alloc ?_ _|refine grown_drew ?_)))) key ver).mono ?_;rintro e w3 ⟨rfl,hg⟩;have k5:=hg.cell (a:=⟨cb,5,none⟩) (v:=.int .i64 ver) (by first|assumption|(simp only[World.cell_drew];assumption)) (by simp);have k6:=hg.cell (a:=⟨cb,6,none⟩) (v:=.string key) (by first|assumption|(simp only[World.cell_drew];assumption)) (by simp);replace HGP:=Lib.hid (grown_trans (grown_trans HGP.out (by repeat (first|exact grown_refl _|exact World.grownBy_alloc _ _ _|refine grown_alloc ?_ _|refine grown_drew ?_))) hg);clear hg)
     | (go_at_call 37;refine(HH.out.holders _ (grown_trans HGR.out (grown_trans HGP.out (by repeat (first|exact grown_refl _|exact World.grownBy_alloc _ _ _|refine grown_alloc ?_ _|refine grown_drew ?_)))) key ver).mono ?_;rintro e w3 ⟨pa,rfl,hp,hg⟩;have k5:=hg.cell (a:=⟨cb,5,none⟩) (v:=.int .i64 ver) (by first|assumption|(simp only[World.cell_drew];assumption)) (by simp);have k6:=hg.cell (a:=⟨cb,6,none⟩) (v:=.string key) (by first|assumption|(simp only[World.cell_drew];assumption)) (by simp);replace HGP:=Lib.hid (grown_trans (grown_trans HGP.out (by repeat (first|exact grown_refl _|exact World.grownBy_alloc _ _ _|refine grown_alloc ?_ _|refine grown_drew ?_))) hg);have HPA:=Lib.hid hp;clear hp;clear hg)
     | (go_at_call 138;refine(HH.out.rholders _ (grown_trans HGR.out (grown_trans HGP.out (by repeat (first|exact grown_refl _|exact World.grownBy_alloc _ _ _|refine grown_alloc ?_ _|refine grown_drew ?_)))) key ver).mono ?_;rintro e w3 ⟨pb,rfl,hp,hg⟩;have k5:=hg.cell (a:=⟨cb,5,none⟩) (v:=.int .i64 ver) (by first|assumption|(simp only[World.cell_drew];assumption)) (by simp);have k6:=hg.cell (a:=⟨cb,6,none⟩) (v:=.string key) (by first|assumption|(simp only[World.cell_drew];assumption)) (by simp);replace HGP:=Lib.hid (grown_trans (grown_trans HGP.out (by repeat (first|exact grown_refl _|exact World.grownBy_alloc _ _ _|refine grown_alloc ?_ _|refine grown_drew ?_))) hg);replace HPA:=Lib.hid (HPA.out.kept (grown_trans (by repeat (first|exact grown_refl _|exact World.grownBy_alloc _ _ _|refine grown_alloc ?_ _|refine grown_drew ?_)) hg));have HPB:=Lib.hid hp;clear hp;clear hg)
     | (go_at_call 151;refine(sameInts_any (HPA.out.kept (by repeat (first|exact grown_refl _|exact World.grownBy_alloc _ _ _|refine grown_alloc ?_ _|refine grown_drew ?_))) (HPB.out.kept (by repeat (first|exact grown_refl _|exact World.grownBy_alloc _ _ _|refine grown_alloc ?_ _|refine grown_drew ?_))) (HH.out.lh _)).mono ?_;rintro e w3 ⟨rfl,hg⟩;have k5:=hg.cell (a:=⟨cb,5,none⟩) (v:=.int .i64 ver) (by first|assumption|(simp only[World.cell_drew];assumption)) (by simp);have k6:=hg.cell (a:=⟨cb,6,none⟩) (v:=.string key) (by first|assumption|(simp only[World.cell_drew];assumption)) (by simp);replace HGP:=Lib.hid (grown_trans (grown_trans HGP.out (by repeat (first|exact grown_refl _|exact World.grownBy_alloc _ _ _|refine grown_alloc ?_ _|refine grown_drew ?_))) hg);clear HPA HPB;clear hg)
     )
     all_goals
      go_wp2_with fail
      go_meet
      exact⟨rfl,grown_trans HGP.out (by repeat (first|exact grown_refl _|exact World.grownBy_alloc _ _ _|refine grown_alloc ?_ _|refine grown_drew ?_))⟩
    case rest=>
     obtain⟨rfl,hge⟩:=hcut
     go_wp2
     go_ret
     exact⟨rfl,grown_trans HGR.out hge⟩
end
end Go.Proofs.YtjfelfjobeeenaaGreat
