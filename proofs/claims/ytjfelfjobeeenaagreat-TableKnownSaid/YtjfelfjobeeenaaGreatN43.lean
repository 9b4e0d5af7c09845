/- tells: the walk: both tables tell the same. Conditions: none, or as the theorems say. -/
import Derived.Test.YtjfelfjobeeenaaGreatN42
import Derived.Deep.RegionHeld3
import Derived.Deep.DeepCutAuto
import Derived.Test.YtjfelfjobeeenaaGreatN27
namespace Go.Proofs.YtjfelfjobeeenaaGreat
set_option maxHeartbeats 200000000
set_option linter.unusedVariables false
set_option linter.unusedSimpArgs false
open Go.RowKit Go.Sf Go.Shelf Go.Maps
theorem Uy (n:Int):(n != n)=false:=by simp
theorem zq4 (b:Bool):(b == b)=true:=by simp
theorem zrq (b:Bool):(b != b)=false:=by simp
section
variable {W : World} {tb rb : Nat} {L : Tab} {R : yp}
set_option maxRecDepth 100000 in
theorem zss (h:zjy W tb rb L R) (htb:tb<W.heap.size) (hrb:rb<W.heap.size) (kind node zvw zvx zvy zvz code:Int) (key:ByteArray) :
  Calls Tryz.prog 83 #[.pointer (some ⟨tb,0,none⟩),.pointer (some ⟨rb,0,none⟩),.agg #[.int .u8 kind,.int .i64 node,.int .i64 zvw,.int .i64 zvx,.int .i64 zvy,.int .i64 zvz,.string key,.int .i64 code]] W fun e w'=>e = .returned (.bool true)∧W.grownBy w' none:=by
 have HH:=za h;clear h
 go_enter Tryz.func83,Tryz.ntmps83
 go_upto_region 1 with fail
 have HG0:=za (zc W (.cells #[.int .u8 kind,.int .i64 node,.int .i64 zvw,.int .i64 zvx,.int .i64 zvy,.int .i64 zvz,.string key,.int .i64 code] 24) none);have HB0:=za (heap_alloc_new W (.cells #[.int .u8 kind,.int .i64 node,.int .i64 zvw,.int .i64 zvx,.int .i64 zvy,.int .i64 zvz,.string key,.int .i64 code] 24));generalize W.alloc (.cells #[.int .u8 kind,.int .i64 node,.int .i64 zvw,.int .i64 zvx,.int .i64 zvy,.int .i64 zvz,.string key,.int .i64 code] 24)=wa at *;generalize hcb:W.heap.size=cb at *;have d2:wa.cell? ⟨cb,2,none⟩=some (.int .i64 zvw):=(zh HB0.out 2).trans rfl
 go_upto_region 2 with (go_at_call 146;refine(HH.out.rcall _ HG0.out zvw).mono ?_;rintro e w1 ⟨rfl,hg⟩;have HG1:=za hg;clear hg)
 have HGX:=za (ze HG0.out (zg HG1.out (.cells #[.int .i64 zvw,.int .i64 (callV L zvw).zvy,.int .i64 (callV L zvw).zvz,.bool (callV L zvw).done,.int .i64 (callV L zvw).code] 193)));have HBC:=za (((zg HG1.out (.cells #[.int .i64 zvw,.int .i64 (callV L zvw).zvy,.int .i64 (callV L zvw).zvz,.bool (callV L zvw).done,.int .i64 (callV L zvw).code] 193)).block cb (Array.getElem?_eq_some_iff.1 HB0.out).1 (by simp)).trans HB0.out)
 have HBX:=za (heap_alloc_new w1 (.cells #[.int .i64 zvw,.int .i64 (callV L zvw).zvy,.int .i64 (callV L zvw).zvz,.bool (callV L zvw).done,.int .i64 (callV L zvw).code] 193));clear d2;generalize w1.alloc (.cells #[.int .i64 zvw,.int .i64 (callV L zvw).zvy,.int .i64 (callV L zvw).zvz,.bool (callV L zvw).done,.int .i64 (callV L zvw).code] 193)=wx at *;generalize hxb:w1.heap.size=xb at *;have d2:wx.cell? ⟨cb,2,none⟩=some (.int .i64 zvw):=(zh HBC.out 2).trans rfl
 go_upto_region 3 with (go_at_call 32;refine(HH.out.call _ HGX.out zvw).mono ?_;rintro e w2 ⟨rfl,hg⟩;have HG2:=za hg;clear hg)
 have HGY:=za (ze HGX.out (zg HG2.out (.cells #[.int .i64 (callV L zvw).zvy,.int .i64 (callV L zvw).zvz,.bool (callV L zvw).done,.int .i64 (callV L zvw).code] 77)));have HBC2:=za (((zg HG2.out (.cells #[.int .i64 (callV L zvw).zvy,.int .i64 (callV L zvw).zvz,.bool (callV L zvw).done,.int .i64 (callV L zvw).code] 77)).block cb (Array.getElem?_eq_some_iff.1 HBC.out).1 (by simp)).trans HBC.out)
 have HBX2:=za (((zg HG2.out (.cells #[.int .i64 (callV L zvw).zvy,.int .i64 (callV L zvw).zvz,.bool (callV L zvw).done,.int .i64 (callV L zvw).code] 77)).block xb (Array.getElem?_eq_some_iff.1 HBX.out).1 (by simp)).trans HBX.out)
 have HBY:=za (heap_alloc_new w2 (.cells #[.int .i64 (callV L zvw).zvy,.int .i64 (callV L zvw).zvz,.bool (callV L zvw).done,.int .i64 (callV L zvw).code] 77));clear d2 HG0 HB0 HG1 HGX HBC HBX;generalize w2.alloc (.cells #[.int .i64 (callV L zvw).zvy,.int .i64 (callV L zvw).zvz,.bool (callV L zvw).done,.int .i64 (callV L zvw).code] 77)=wy at *;generalize hyb:w2.heap.size=yb at *;clear HG2 hxb hyb;have x1:wy.cell? ⟨xb,1,none⟩=some (.int .i64 (callV L zvw).zvy):=(zh HBX2.out 1).trans rfl;have x2:wy.cell? ⟨xb,2,none⟩=some (.int .i64 (callV L zvw).zvz):=(zh HBX2.out 2).trans rfl;have x3:wy.cell? ⟨xb,3,none⟩=some (.bool (callV L zvw).done):=(zh HBX2.out 3).trans rfl;have x4:wy.cell? ⟨xb,4,none⟩=some (.int .i64 (callV L zvw).code):=(zh HBX2.out 4).trans rfl;have y0:wy.cell? ⟨yb,0,none⟩=some (.int .i64 (callV L zvw).zvy):=(zh HBY.out 0).trans rfl;have y1:wy.cell? ⟨yb,1,none⟩=some (.int .i64 (callV L zvw).zvz):=(zh HBY.out 1).trans rfl;have y2:wy.cell? ⟨yb,2,none⟩=some (.bool (callV L zvw).done):=(zh HBY.out 2).trans rfl;have y3:wy.cell? ⟨yb,3,none⟩=some (.int .i64 (callV L zvw).code):=(zh HBY.out 3).trans rfl;have r2:wy.cell? ⟨rb,2,none⟩=some (.int .i64 L.offers):=HGY.out.cell HH.out.rc2 (by simp)
 have r3:wy.cell? ⟨rb,3,none⟩=some (.int .i64 L.next):=HGY.out.cell HH.out.rc3 (by simp)
 have n1:=Uy (callV L zvw).zvy;have n2:=Uy (callV L zvw).zvz;have n3:=zrq (callV L zvw).done;have n4:=Uy (callV L zvw).code;have n5:=Uy L.offers;have n6:=Uy L.next;have lx:=yo x1;have ly:=yo y1;have lr:=yo r2;have HOF:Hid (∀w,wy.grownBy w none→Calls Tryz.prog 35 #[.pointer (some ⟨tb,0,none⟩)] w fun e w'=>e = .returned (.int .i64 L.offers)∧w.grownBy w' none):=(show ∀_,_→Calls _ _ _ _ _ from fun w hg=>HH.out.offered w (ze HGY.out hg))
 have HNX:Hid (∀w,wy.grownBy w none→Calls Tryz.prog 31 #[.pointer (some ⟨tb,0,none⟩)] w fun e w'=>e = .returned (.int .i64 L.next)∧w.grownBy w' none):=(show ∀_,_→Calls _ _ _ _ _ from fun w hg=>HH.out.next w (ze HGY.out hg))
 generalize (callV L zvw).zvy=q0 at *;generalize (callV L zvw).zvz=q1 at *;generalize (callV L zvw).done=q2 at *;generalize (callV L zvw).code=q3 at *;generalize L.offers=q4 at *;generalize L.next=q5 at *;refine zo (by kernel_rfl) (by kernel_rfl) ?_
 repeat (any_goals (first|go_big_quiet_step ((first|(go_at_call 35;exact zq (HOF.out _ (by repeat (first|exact zd _|exact zc _ _ _|refine zi ?_ _|refine zg ?_ _|refine zf ?_))))|(go_at_call 31;exact zq (HNX.out _ (by repeat (first|exact zd _|exact zc _ _ _|refine zi ?_ _|refine zg ?_ _|refine zf ?_))))))|quiet_step ((first|(go_at_call 35;exact zq (HOF.out _ (by repeat (first|exact zd _|exact zc _ _ _|refine zi ?_ _|refine zg ?_ _|refine zf ?_))))|(go_at_call 31;exact zq (HNX.out _ (by repeat (first|exact zd _|exact zc _ _ _|refine zi ?_ _|refine zg ?_ _|refine zf ?_))))))))
 refine wpQuiet_nil ?_;intro _ hw';obtain⟨x,hw''⟩:=hw';subst hw'';have HGZ:=za (ze HGY.out (yf wy x));have HBC3:=za (((yf wy x).block cb (Array.getElem?_eq_some_iff.1 HBC2.out).1 (by simp)).trans HBC2.out)
 clear x1 x2 x3 x4 y0 y1 y2 y3 r2 r3 n1 n2 n3 n4 n5 n6 lx ly lr HOF HNX HGY HBC2 HBX2 HBY;generalize ext wy x=wz at *
 go_upto_region 5 with fail
 have d6:wz.cell? ⟨cb,6,none⟩=some (.string key):=(zh HBC3.out 6).trans rfl;have nlk:=Uy (look L key)
 go_cut [87] (fun s wx=>s = .bool false∧wz.grownBy wx none)
 case first=>
  have HGP:=za (zd wz)
  go_region_held3 (fun w'=>w'.cell? ⟨cb,6,none⟩=some (.string key)) (first|assumption|go_keep) (first
  | (go_at_call 33;refine(HH.out.pending _ (ze HGZ.out (ze HGP.out (by repeat (first|exact zd _|exact zc _ _ _|refine zg ?_ _|refine zf ?_))))).mono ?_;rintro e w3 ⟨pa,rfl,hp,hg⟩;have k7:=hg.cell (a:=⟨cb,6,none⟩) (v:=.string key) (by first|assumption|(simp only[World.cell_drew];assumption)) (by simp);replace HGP:=za (ze (ze HGP.out (by repeat (first|exact zd _|exact zc _ _ _|refine zg ?_ _|refine zf ?_))) hg);have HPA:=za hp;clear hp;clear hg)
  | (go_at_call 148;refine(HH.out.rpending _ (ze HGZ.out (ze HGP.out (by repeat (first|exact zd _|exact zc _ _ _|refine zg ?_ _|refine zf ?_))))).mono ?_;rintro e w3 ⟨pb,rfl,hp,hg⟩;have k7:=hg.cell (a:=⟨cb,6,none⟩) (v:=.string key) (by first|assumption|(simp only[World.cell_drew];assumption)) (by simp);replace HGP:=za (ze (ze HGP.out (by repeat (first|exact zd _|exact zc _ _ _|refine zg ?_ _|refine zf ?_))) hg);replace HPA:=za (HPA.out.kept (ze (by repeat (first|exact zd _|exact zc _ _ _|refine zg ?_ _|refine zf ?_)) hg));have HPB:=za hp;clear hp;clear hg)
  | (go_at_call 42;refine(HH.out.current _ (ze HGZ.out (ze HGP.out (by repeat (first|exact zd _|exact zc _ _ _|refine zg ?_ _|refine zf ?_))))).mono ?_;rintro e w3 ⟨ca,rfl,hp,hg⟩;have k7:=hg.cell (a:=⟨cb,6,none⟩) (v:=.string key) (by first|assumption|(simp only[World.cell_drew];assumption)) (by simp);replace HGP:=za (ze (ze HGP.out (by repeat (first|exact zd _|exact zc _ _ _|refine zg ?_ _|refine zf ?_))) hg);have HCA:=za hp;clear hp;clear hg)
  | (go_at_call 137;refine(HH.out.rcurrent _ (ze HGZ.out (ze HGP.out (by repeat (first|exact zd _|exact zc _ _ _|refine zg ?_ _|refine zf ?_))))).mono ?_;rintro e w3 ⟨cb2,rfl,hp,hg⟩;have k7:=hg.cell (a:=⟨cb,6,none⟩) (v:=.string key) (by first|assumption|(simp only[World.cell_drew];assumption)) (by simp);replace HGP:=za (ze (ze HGP.out (by repeat (first|exact zd _|exact zc _ _ _|refine zg ?_ _|refine zf ?_))) hg);replace HCA:=za (HCA.out.kept (ze (by repeat (first|exact zd _|exact zc _ _ _|refine zg ?_ _|refine zf ?_)) hg));have HCB:=za hp;clear hp;clear hg)
  | (go_at_call 147;refine(Vx (HPA.out.kept (by repeat (first|exact zd _|exact zc _ _ _|refine zg ?_ _|refine zf ?_))) (HPB.out.kept (by repeat (first|exact zd _|exact zc _ _ _|refine zg ?_ _|refine zf ?_))) HH.out.lp).mono ?_;rintro e w3 ⟨rfl,hg⟩;have k7:=hg.cell (a:=⟨cb,6,none⟩) (v:=.string key) (by first|assumption|(simp only[World.cell_drew];assumption)) (by simp);replace HGP:=za (ze (ze HGP.out (by repeat (first|exact zd _|exact zc _ _ _|refine zg ?_ _|refine zf ?_))) hg);clear HPA HPB;clear hg)
  | (go_at_call 147;refine(Vx (HCA.out.kept (by repeat (first|exact zd _|exact zc _ _ _|refine zg ?_ _|refine zf ?_))) (HCB.out.kept (by repeat (first|exact zd _|exact zc _ _ _|refine zg ?_ _|refine zf ?_))) HH.out.lc).mono ?_;rintro e w3 ⟨rfl,hg⟩;have k7:=hg.cell (a:=⟨cb,6,none⟩) (v:=.string key) (by first|assumption|(simp only[World.cell_drew];assumption)) (by simp);replace HGP:=za (ze (ze HGP.out (by repeat (first|exact zd _|exact zc _ _ _|refine zg ?_ _|refine zf ?_))) hg);clear HCA HCB;clear hg)
  | (go_at_call 34;refine(HH.out.look _ (ze HGZ.out (ze HGP.out (by repeat (first|exact zd _|exact zc _ _ _|refine zg ?_ _|refine zf ?_)))) key).mono ?_;rintro e w3 ⟨rfl,hg⟩;have k7:=hg.cell (a:=⟨cb,6,none⟩) (v:=.string key) (by first|assumption|(simp only[World.cell_drew];assumption)) (by simp);replace HGP:=za (ze (ze HGP.out (by repeat (first|exact zd _|exact zc _ _ _|refine zg ?_ _|refine zf ?_))) hg);clear hg)
  | (go_at_call 149;refine(HH.out.rlook _ (ze HGZ.out (ze HGP.out (by repeat (first|exact zd _|exact zc _ _ _|refine zg ?_ _|refine zf ?_)))) key).mono ?_;rintro e w3 ⟨rfl,hg⟩;have k7:=hg.cell (a:=⟨cb,6,none⟩) (v:=.string key) (by first|assumption|(simp only[World.cell_drew];assumption)) (by simp);replace HGP:=za (ze (ze HGP.out (by repeat (first|exact zd _|exact zc _ _ _|refine zg ?_ _|refine zf ?_))) hg);clear hg)
  )
  all_goals
   go_wp2_with fail
   go_meet
   exact⟨rfl,ze HGP.out (by repeat (first|exact zd _|exact zc _ _ _|refine zg ?_ _|refine zf ?_))⟩
 case rest=>
  obtain⟨rfl,hgc⟩:=hcut;have HGC:=za (ze HGZ.out hgc);have HBC4:=za ((hgc.block cb (Array.getElem?_eq_some_iff.1 HBC3.out).1 (by simp)).trans HBC3.out)
  have hn0:=HH.out.n0;have hn1:=HH.out.n1;have HC0:=za HH.out.rc0;clear hgc d6 HBC3 nlk;generalize hN:R.N=N at *;have HN:=za hN;clear hN;go_wp2
  go_loopw [9] (fun x wr=>∃a:Int,-1≤a∧a≤N+1∧x = .int .i64 a∧wc.grownBy wr none) (fun x _=>(N+1-intOf x).toNat)
  case atStart=>exact⟨-1,by omega,by omega,rfl,zd _⟩
  case round=>
   obtain⟨a,ha0,ha1,rfl,hgw⟩:=hrel;have HGR:=za (ze HGC.out hgw);have HGW:=za hgw;have r0:wr.cell? ⟨rb,0,none⟩=some (.int .i64 N):=HGR.out.cell HC0.out (by simp)
   have lrb:=yo r0
   by_cases hle:a≤N
   ·by_cases h0:a<0
    ·have HLV:Hid (yq L a=0):=(show _=_ from HH.out.out a (Or.inl h0))
     have hb0:decide (0≤a)=false:=by simp;omega
     clear hgw
     go_wp2_with (first
      | (go_at_call 23;refine(HH.out.life _ HGR.out a).mono ?_;rw[HLV.out];rintro e w5 ⟨rfl,hg⟩;have HG5:=za (ze HGW.out hg);clear hg)
      | (go_at_call 43;refine(HH.out.missing _ (ze HGC.out HG5.out) a).mono ?_;rintro e w6 ⟨va,rfl,hp,hg⟩;have HPA:=za hp;have HG6:=za (ze HG5.out hg);clear hp hg)
      | (go_at_call 150;refine(HH.out.rmissing _ (ze HGC.out HG6.out) a).mono ?_;rintro e w7 ⟨vb,rfl,hp,hg⟩;have HPB:=za hp;have HG7:=za (ze HG6.out hg);replace HPA:=za (HPA.out.kept hg);clear hp hg)
      | (go_at_call 147;refine(Vx HPA.out HPB.out (HH.out.lm a)).mono ?_;rintro e w8 ⟨rfl,hg⟩;have HG8:=za (ze HG7.out hg);clear hg))
     go_roundw
     case rel=>exact⟨a+1,by omega,by omega,by go_num,HG8.out⟩
     case measure=>simp[intOf];omega
    ·obtain⟨m,rfl⟩:=Int.eq_ofNat_of_zero_le (show 0≤a by omega)
     have hb0:decide (0≤(m:Int))=true:=by simp
     by_cases h1:(m:Int)<N
     ·obtain⟨gL,capL,len,r4,rl,hml,hlc,hcl⟩:=HH.out.rlive m (by rw[HN.out];exact h1)
      have r4':wr.cell? ⟨rb,4,none⟩=some (.slice (some ⟨gL,0,none⟩) len capL):=HGR.out.cell r4 (by simp)
      have rl':wr.cell? ⟨gL,m,none⟩=some (.int .i64 (yq L (m:Int))):=HGR.out.cell rl (by simp)
      have hb1:decide ((m:Int)<N)=true:=by simpa using h1
      have nl:=Uy (yq L (m:Int));have HLV:Hid (yq L (m:Int)=yq L (m:Int)):=rfl;clear hgw r4 rl;generalize hlv:yq L (m:Int)=lv at *;have HLV:Hid (yq L (m:Int)=lv):=hlv;clear hlv
      go_wp2_with (first
       | (go_at_call 23;refine(HH.out.life _ HGR.out (m:Int)).mono ?_;rw[HLV.out];rintro e w5 ⟨rfl,hg⟩;have HG5:=za (ze HGW.out hg);clear hg)
       | (go_at_call 43;refine(HH.out.missing _ (ze HGC.out HG5.out) (m:Int)).mono ?_;rintro e w6 ⟨va,rfl,hp,hg⟩;have HPA:=za hp;have HG6:=za (ze HG5.out hg);clear hp hg)
       | (go_at_call 150;refine(HH.out.rmissing _ (ze HGC.out HG6.out) (m:Int)).mono ?_;rintro e w7 ⟨vb,rfl,hp,hg⟩;have HPB:=za hp;have HG7:=za (ze HG6.out hg);replace HPA:=za (HPA.out.kept hg);clear hp hg)
       | (go_at_call 147;refine(Vx HPA.out HPB.out (HH.out.lm (m:Int))).mono ?_;rintro e w8 ⟨rfl,hg⟩;have HG8:=za (ze HG7.out hg);clear hg))
      go_roundw
      case rel=>exact⟨(m:Int)+1,by omega,by omega,by go_num,HG8.out⟩
      case measure=>simp[intOf];omega
     ·have hb1:decide ((m:Int)<N)=false:=by simp;omega
      have HLV:Hid (yq L (m:Int)=0):=(show _=_ from HH.out.out m (Or.inr (by rw[HN.out];omega)))
      clear hgw
      go_wp2_with (first
       | (go_at_call 23;refine(HH.out.life _ HGR.out (m:Int)).mono ?_;rw[HLV.out];rintro e w5 ⟨rfl,hg⟩;have HG5:=za (ze HGW.out hg);clear hg)
       | (go_at_call 43;refine(HH.out.missing _ (ze HGC.out HG5.out) (m:Int)).mono ?_;rintro e w6 ⟨va,rfl,hp,hg⟩;have HPA:=za hp;have HG6:=za (ze HG5.out hg);clear hp hg)
       | (go_at_call 150;refine(HH.out.rmissing _ (ze HGC.out HG6.out) (m:Int)).mono ?_;rintro e w7 ⟨vb,rfl,hp,hg⟩;have HPB:=za hp;have HG7:=za (ze HG6.out hg);replace HPA:=za (HPA.out.kept hg);clear hp hg)
       | (go_at_call 147;refine(Vx HPA.out HPB.out (HH.out.lm (m:Int))).mono ?_;rintro e w8 ⟨rfl,hg⟩;have HG8:=za (ze HG7.out hg);clear hg))
      go_roundw
      case rel=>exact⟨(m:Int)+1,by omega,by omega,by go_num,HG8.out⟩
      case measure=>simp[intOf];omega
   ·have d5:wr.cell? ⟨cb,5,none⟩=some (.int .i64 zvz):=(zh ((hgw.block cb (Array.getElem?_eq_some_iff.1 HBC4.out).1 (by simp)).trans HBC4.out) 5).trans rfl
    have d6:wr.cell? ⟨cb,6,none⟩=some (.string key):=(zh ((hgw.block cb (Array.getElem?_eq_some_iff.1 HBC4.out).1 (by simp)).trans HBC4.out) 6).trans rfl
    have HGP:=za (zd wr);have heqb:=zq4 (yl L ⟨key,zvz⟩);clear hgw;generalize yl L ⟨key,zvz⟩=wn at *
    go_upto_region 15 with fail
    go_cut [6] (fun s wx=>s = .bool true∧wr.grownBy wx none)
    case first=>
     go_region_held3 (fun w'=>w'.cell? ⟨cb,5,none⟩=some (.int .i64 zvz)∧w'.cell? ⟨cb,6,none⟩=some (.string key)) (first|exact⟨by assumption,by assumption⟩|go_keep) (first
     | (go_at_call 45;refine(zke key zvz _).mono ?_;rintro e w3 ⟨rfl,hg⟩;have k5:=hg.cell (a:=⟨cb,5,none⟩) (v:=.int .i64 zvz) (by first|assumption|(simp only[World.cell_drew];assumption)) (by simp);have k6:=hg.cell (a:=⟨cb,6,none⟩) (v:=.string key) (by first|assumption|(simp only[World.cell_drew];assumption)) (by simp);replace HGP:=za (ze (ze HGP.out (by repeat (first|exact zd _|exact zc _ _ _|refine zg ?_ _|refine zf ?_))) hg);simp only[zx];clear hg)
     | (go_at_call 36;refine(HH.out.wanted _ (ze HGR.out (ze HGP.out (by repeat (first|exact zd _|exact zc _ _ _|refine zg ?_ _|refine zf ?_)))) key zvz).mono ?_;rintro e w3 ⟨rfl,hg⟩;have k5:=hg.cell (a:=⟨cb,5,none⟩) (v:=.int .i64 zvz) (by first|assumption|(simp only[World.cell_drew];assumption)) (by simp);have k6:=hg.cell (a:=⟨cb,6,none⟩) (v:=.string key) (by first|assumption|(simp only[World.cell_drew];assumption)) (by simp);replace HGP:=za (ze (ze HGP.out (by repeat (first|exact zd _|exact zc _ _ _|refine zg ?_ _|refine zf ?_))) hg);clear hg)
     | (go_at_call 115;refine(HH.out.rwanted _ (ze HGR.out (ze HGP.out (by repeat (first|exact zd _|exact zc _ _ _|refine zg ?_ _|refine zf ?_)))) key zvz).mono ?_;rintro e w3 ⟨rfl,hg⟩;have k5:=hg.cell (a:=⟨cb,5,none⟩) (v:=.int .i64 zvz) (by first|assumption|(simp only[World.cell_drew];assumption)) (by simp);have k6:=hg.cell (a:=⟨cb,6,none⟩) (v:=.string key) (by first|assumption|(simp only[World.cell_drew];assumption)) (by simp);replace HGP:=za (ze (ze HGP.out (by repeat (first|exact zd _|exact zc _ _ _|refine zg ?_ _|refine zf ?_))) hg);clear hg)
     | (go_at_call 37;refine(HH.out.holders _ (ze HGR.out (ze HGP.out (by repeat (first|exact zd _|exact zc _ _ _|refine zg ?_ _|refine zf ?_)))) key zvz).mono ?_;rintro e w3 ⟨pa,rfl,hp,hg⟩;have k5:=hg.cell (a:=⟨cb,5,none⟩) (v:=.int .i64 zvz) (by first|assumption|(simp only[World.cell_drew];assumption)) (by simp);have k6:=hg.cell (a:=⟨cb,6,none⟩) (v:=.string key) (by first|assumption|(simp only[World.cell_drew];assumption)) (by simp);replace HGP:=za (ze (ze HGP.out (by repeat (first|exact zd _|exact zc _ _ _|refine zg ?_ _|refine zf ?_))) hg);have HPA:=za hp;clear hp;clear hg)
     | (go_at_call 138;refine(HH.out.rholders _ (ze HGR.out (ze HGP.out (by repeat (first|exact zd _|exact zc _ _ _|refine zg ?_ _|refine zf ?_)))) key zvz).mono ?_;rintro e w3 ⟨pb,rfl,hp,hg⟩;have k5:=hg.cell (a:=⟨cb,5,none⟩) (v:=.int .i64 zvz) (by first|assumption|(simp only[World.cell_drew];assumption)) (by simp);have k6:=hg.cell (a:=⟨cb,6,none⟩) (v:=.string key) (by first|assumption|(simp only[World.cell_drew];assumption)) (by simp);replace HGP:=za (ze (ze HGP.out (by repeat (first|exact zd _|exact zc _ _ _|refine zg ?_ _|refine zf ?_))) hg);replace HPA:=za (HPA.out.kept (ze (by repeat (first|exact zd _|exact zc _ _ _|refine zg ?_ _|refine zf ?_)) hg));have HPB:=za hp;clear hp;clear hg)
     | (go_at_call 151;refine(zk6 (HPA.out.kept (by repeat (first|exact zd _|exact zc _ _ _|refine zg ?_ _|refine zf ?_))) (HPB.out.kept (by repeat (first|exact zd _|exact zc _ _ _|refine zg ?_ _|refine zf ?_))) (HH.out.lh _)).mono ?_;rintro e w3 ⟨rfl,hg⟩;have k5:=hg.cell (a:=⟨cb,5,none⟩) (v:=.int .i64 zvz) (by first|assumption|(simp only[World.cell_drew];assumption)) (by simp);have k6:=hg.cell (a:=⟨cb,6,none⟩) (v:=.string key) (by first|assumption|(simp only[World.cell_drew];assumption)) (by simp);replace HGP:=za (ze (ze HGP.out (by repeat (first|exact zd _|exact zc _ _ _|refine zg ?_ _|refine zf ?_))) hg);clear HPA HPB;clear hg)
     )
     all_goals
      go_wp2_with fail
      go_meet
      exact⟨rfl,ze HGP.out (by repeat (first|exact zd _|exact zc _ _ _|refine zg ?_ _|refine zf ?_))⟩
    case rest=>
     obtain⟨rfl,hge⟩:=hcut;go_wp2
     go_ret
     exact⟨rfl,ze HGR.out hge⟩
end
open Go.RowKit Go.Sf Go.Shelf
section
variable {bs : Nat → Prop} {W : World} {rb : Nat} {R : yp}
set_option maxRecDepth 100000 in
theorem rdo_1 (h:RAt bs W rb R) (hbs:∀k,W.heap.size≤k→bs k) (ok:ROk R) (node zvw zvx zvy zvz code:Int) (key:ByteArray) (hn0:0≤node) (hn1:node<(R.zv0.length:Int)):Calls Tryz.prog 60 #[.pointer (some ⟨rb,0,none⟩),zp ⟨1,node,zvw,zvx,zvy,zvz,key,code⟩] W fun e w'=>e = .returned (.tuple #[])∧RAt bs w' rb (rdo R ⟨1,node,zvw,zvx,zvy,zvz,key,code⟩)∧yc bs W w':=by
 obtain⟨a,rfl⟩:=Int.eq_ofNat_of_zero_le hn0;have hal:a<R.zv0.length:=by omega
 obtain⟨W2,hE⟩:∃W2,(W.alloc (.cells #[.int .u8 1,.int .i64 (a:Int),.int .i64 zvw,.int .i64 zvx,.int .i64 zvy,.int .i64 zvz,.string key,.int .i64 code] 29)).alloc (.cells #[.string key,.int .i64 zvz] 59)=W2:=⟨_,rfl⟩;obtain⟨HG2,HB0,HB1,HA0,HBS,HT0⟩:=qg h hbs _ _ W2 hE;have HE:=za hE;clear hE;have hrb0:rb<W.heap.size:=h.lt;have OK:=za ok;clear h hbs ok;simp only[zp]
 go_enter Tryz.func60,Tryz.ntmps60
 go_upto_region 4 with fail
 rw[HE.out];clear HE;have c2:=HA0.out.c2;have z2:=HA0.out.free 2;have o0:=OK.out.o0;have o1:=OK.out.o1
 go_upto_region 36 with fail
 obtain⟨hq1,hq2⟩:=HA0.out.setOff (R.offers+1);have HA1:=za hq1;have HT1:=za hq2;clear hq1 hq2 c2 z2
 go_wp2_with (go_at_call 123;refine(qc HA1.out (HBS.out _ HT1.out.size) (by exact OK.out.nd) (by have:=OK.out.lh;show R.holds.length≤_;omega) (by exact OK.out.ll)).mono ?_;rintro e wz ⟨rfl,hr,ht⟩;have HZ:=za (xj HG2.out hr (yj HT1.out ht));clear hr ht)
 first|go_end0|refine bodyPost_ret (results_none rfl _ _ _) rfl ?_
 refine⟨rfl,?_⟩;have hZ:=HZ.out
 exact hZ
set_option maxRecDepth 100000 in
theorem rdo_7y (h:RAt bs W rb R) (hbs:∀k,W.heap.size≤k→bs k) (ok:ROk R) (node zvw zvx zvy zvz code:Int) (key:ByteArray) (hn0:0≤node) (hn1:node<(R.zv0.length:Int)) (hB:vq R ⟨7,node,zvw,zvx,zvy,zvz,key,code⟩=true):Calls Tryz.prog 60 #[.pointer (some ⟨rb,0,none⟩),zp ⟨7,node,zvw,zvx,zvy,zvz,key,code⟩] W fun e w'=>e = .returned (.tuple #[])∧RAt bs w' rb (rdo R ⟨7,node,zvw,zvx,zvy,zvz,key,code⟩)∧yc bs W w':=by
 obtain⟨a,rfl⟩:=Int.eq_ofNat_of_zero_le hn0;have hal:a<R.zv0.length:=by omega
 obtain⟨W2,hE⟩:∃W2,(W.alloc (.cells #[.int .u8 7,.int .i64 (a:Int),.int .i64 zvw,.int .i64 zvx,.int .i64 zvy,.int .i64 zvz,.string key,.int .i64 code] 29)).alloc (.cells #[.string key,.int .i64 zvz] 59)=W2:=⟨_,rfl⟩;obtain⟨HG2,HB0,HB1,HA0,HBS,HT0⟩:=qg h hbs _ _ W2 hE;have HE:=za hE;clear hE;have hrb0:rb<W.heap.size:=h.lt;have OK:=za ok;clear h hbs ok;simp only[zp]
 go_enter Tryz.func60,Tryz.ntmps60
 go_upto_region 34 with fail
 rw[HE.out];clear HE;obtain⟨⟨d0,d1,d2,d3,d4,d5,d6,d7⟩,j0,j1,hw0,hw1⟩:=xl HB0.out HB1.out HT0.out;have HBG:=za (Xf HA0.out (HBS.out _ (Nat.le_refl _)) ⟨7,(a:Int),zvw,zvx,zvy,zvz,key,code⟩ (by have:=OK.out.lp;omega))
 simp only[zp] at HBG;rw[hB] at HBG;have HTT:=za (show qf R ⟨7,(a:Int),zvw,zvx,zvy,zvz,key,code⟩=xp R ⟨7,(a:Int),zvw,zvx,zvy,zvz,key,code⟩ from by unfold qf;rw[hB];rfl)
 have HBB:=za hB;clear hB
 go_upto_region 36 with (first
  | (go_at_call 113;refine HBG.out.mono ?_;rintro e w1 ⟨rfl,hr,ht⟩;rw[HTT.out] at hr;clear d0 d1 d2 d3 d4 d5 d6 d7 j0 j1 hw0 hw1;have HA1:=za hr;have HT1:=za ht;clear hr ht;obtain⟨⟨d0,d1,d2,d3,d4,d5,d6,d7⟩,j0,j1,hw0,hw1⟩:=xl HB0.out HB1.out HT1.out)
  | (go_at_call 114;refine(zb8 HA1.out (HBS.out _ HT1.out.size) zvw ⟨zvy,0,true,code⟩ (by have:=OK.out.lc;show R.calls.length≤_;omega)).mono ?_;rintro e w2 ⟨rfl,hr,ht⟩;clear d0 d1 d2 d3 d4 d5 d6 d7 j0 j1 hw0 hw1;have HA2:=za hr;have HT2:=za (yj HT1.out ht);clear hr ht))
 go_wp2_with (go_at_call 123;refine(qc HA2.out (HBS.out _ HT2.out.size) (by exact OK.out.nd) (by have:=OK.out.lh;show R.holds.length≤_;omega) (by exact OK.out.ll)).mono ?_;rintro e wz ⟨rfl,hr,ht⟩;have HZ:=za (xj HG2.out hr (yj HT2.out ht));clear hr ht)
 first|go_end0|refine bodyPost_ret (results_none rfl _ _ _) rfl ?_
 refine⟨rfl,?_⟩;have hZ:=HZ.out;have e:rdo R ⟨7,(a:Int),zvw,zvx,zvy,zvz,key,code⟩=ve { xp R ⟨7,(a:Int),zvw,zvx,zvy,zvz,key,code⟩ with calls:=ym R.calls zvw ⟨zvy,0,true,code⟩ }:=by unfold rdo;simp[HBB.out]
 rw[e]
 exact hZ
set_option maxRecDepth 100000 in
theorem rdo_7n (h:RAt bs W rb R) (hbs:∀k,W.heap.size≤k→bs k) (ok:ROk R) (node zvw zvx zvy zvz code:Int) (key:ByteArray) (hn0:0≤node) (hn1:node<(R.zv0.length:Int)) (hB:vq R ⟨7,node,zvw,zvx,zvy,zvz,key,code⟩=false):Calls Tryz.prog 60 #[.pointer (some ⟨rb,0,none⟩),zp ⟨7,node,zvw,zvx,zvy,zvz,key,code⟩] W fun e w'=>e = .returned (.tuple #[])∧RAt bs w' rb (rdo R ⟨7,node,zvw,zvx,zvy,zvz,key,code⟩)∧yc bs W w':=by
 obtain⟨a,rfl⟩:=Int.eq_ofNat_of_zero_le hn0;have hal:a<R.zv0.length:=by omega
 obtain⟨W2,hE⟩:∃W2,(W.alloc (.cells #[.int .u8 7,.int .i64 (a:Int),.int .i64 zvw,.int .i64 zvx,.int .i64 zvy,.int .i64 zvz,.string key,.int .i64 code] 29)).alloc (.cells #[.string key,.int .i64 zvz] 59)=W2:=⟨_,rfl⟩;obtain⟨HG2,HB0,HB1,HA0,HBS,HT0⟩:=qg h hbs _ _ W2 hE;have HE:=za hE;clear hE;have hrb0:rb<W.heap.size:=h.lt;have OK:=za ok;clear h hbs ok;simp only[zp]
 go_enter Tryz.func60,Tryz.ntmps60
 go_upto_region 34 with fail
 rw[HE.out];clear HE;obtain⟨⟨d0,d1,d2,d3,d4,d5,d6,d7⟩,j0,j1,hw0,hw1⟩:=xl HB0.out HB1.out HT0.out;have HBG:=za (Xf HA0.out (HBS.out _ (Nat.le_refl _)) ⟨7,(a:Int),zvw,zvx,zvy,zvz,key,code⟩ (by have:=OK.out.lp;omega))
 simp only[zp] at HBG;rw[hB] at HBG;have HTT:=za (show qf R ⟨7,(a:Int),zvw,zvx,zvy,zvz,key,code⟩=R from by unfold qf;rw[hB];rfl)
 have HBB:=za hB;clear hB
 go_upto_region 36 with (go_at_call 113;refine HBG.out.mono ?_;rintro e w1 ⟨rfl,hr,ht⟩;rw[HTT.out] at hr;clear d0 d1 d2 d3 d4 d5 d6 d7 j0 j1 hw0 hw1;have HA1:=za hr;have HT1:=za ht;clear hr ht;obtain⟨⟨d0,d1,d2,d3,d4,d5,d6,d7⟩,j0,j1,hw0,hw1⟩:=xl HB0.out HB1.out HT1.out)
 go_wp2_with (go_at_call 123;refine(qc HA1.out (HBS.out _ HT1.out.size) (by exact OK.out.nd) (by have:=OK.out.lh;omega) (by exact OK.out.ll)).mono ?_;rintro e wz ⟨rfl,hr,ht⟩;have HZ:=za (xj HG2.out hr (yj HT1.out ht));clear hr ht)
 first|go_end0|refine bodyPost_ret (results_none rfl _ _ _) rfl ?_
 refine⟨rfl,?_⟩;have hZ:=HZ.out;have e:rdo R ⟨7,(a:Int),zvw,zvx,zvy,zvz,key,code⟩=ve R:=by unfold rdo;simp[HBB.out]
 rw[e]
 exact hZ
end
end Go.Proofs.YtjfelfjobeeenaaGreat
