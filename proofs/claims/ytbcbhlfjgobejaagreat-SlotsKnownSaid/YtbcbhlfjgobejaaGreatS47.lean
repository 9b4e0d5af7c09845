/- SlotsKeeps: the walk. Conditions: none, or as the theorems say. -/
import Derived.Test.YtbcbhlfjgobejaaGreatS29
import Derived.Deep.DeepCutAuto
import Derived.Test.YtbcbhlfjgobejaaGreatS30
import Derived.Test.YtbcbhlfjgobejaaGreatS46
set_option linter.unusedSimpArgs false
set_option linter.unusedVariables false
namespace Go.Proofs.YtbcbhlfjgobejaaGreat
set_option maxHeartbeats 200000000
open Go.RowKit Go.Sf Go.Shelf
variable {C:Array Value} {l:List Int} {b n:Nat} {T:TypeId} {w:World}
set_option maxRecDepth 100000 in
theorem zkf (nb:Nat) (hnb:nb<256) (v1 v2:Value) (l:List vn) (inl:List Int) (W:World) (h1:ur W v1 l) (h2:zn9 W v2 inl):Calls Tryz.prog 5 #[.int .u8 (nb:Int),v1,v2] W λe w'=>e = .returned (.bool true)∧W.grownBy w' none:=by
 have HLA:=zd (zcd v1 l W h1);have HW:=zd Ya;obtain⟨p1,cap1,rfl,hl1,hok,hrow⟩:=h1;obtain⟨p2,cap2,rfl,hl2,hir,hirow⟩:=h2;have HOK:=zd hok;have HROW:=zd hrow;have HIR:=zd hir;have HIROW:=zd hirow;obtain⟨m,hm⟩:∃m,m=l.length:=⟨_,rfl⟩;obtain⟨mi,hmi⟩:∃m,m=inl.length:=⟨_,rfl⟩;have HM:=zd hm;have HMI:=zd hmi;rw[←hm] at HLA hl1 ⊢;rw[←hmi] at hl2 ⊢;clear hok hrow hir hirow hm hmi;have hN:∀w:World,Hid (Calls Tryz.prog 19 #[.int .i64 (3+(nb:Int)%18)] w λe w'=>∃db,e = .returned (.pointer (some ⟨db,0,none⟩))∧w.grownBy w' none∧w.heap.size≤db∧∀own:Nat→Prop,(∀k,own k→k<w.heap.size)→vk own w' db (Dk.new (3+(nb:Int)%18))):=λw=>zd (dnew _ w)
 have HN:=zd hN;clear hN
 by_cases hmi1:100<mi
 ·go_enter Tryz.func5,Tryz.ntmps5
  go_upto_region 3 with (first
   | (go_at_call 27;refine HLA.out.mono ?_;rintro e w1 ⟨r,rfl,hg,hr⟩;have HG1:=zd hg;clear hg hr HLA)
   | (go_at_call 17;refine(HW.out _).mono ?_;rintro e w2 ⟨rfl,hg⟩;have HG2:=zd hg;clear hg))
  all_goals go_ret
  all_goals exact⟨rfl,zh HG1.out HG2.out⟩
 ·go_enter Tryz.func5,Tryz.ntmps5
  go_upto_region 4 with (first
   | (go_at_call 27;refine HLA.out.mono ?_;rintro e w1 ⟨r,rfl,hg,hr⟩;have HG1:=zd hg;have HR1:=zd hr;clear hg hr HLA)
   | (go_at_call 17;refine(HW.out _).mono ?_;rintro e w2 ⟨rfl,hg⟩;have HG2:=zd hg;clear hg)
   | (go_at_call 19;refine(HN.out _).out.mono ?_;rintro e w2 ⟨db,rfl,hg,-,hd⟩;have HG2:=zd (zh HG1.out hg);have HOP:=zd (zbl HG2.out (own:=λk=>k<w1.heap.size) (λk hk=>Nat.lt_of_lt_of_le hk HG1.out.size) (hd _ (λk hk=>hk)) (Zz _) (by show 0+(min 4096 (max 0 (3+(nb:Int)%18))).toNat<1000000;omega));clear hg hd HN))
  ·go_ret
   exact⟨rfl,zh HG1.out HG2.out⟩
  ·have HLEN:=zd (HR1.out (by first|assumption|simp_all))
   clear HR1;have HSZ:=zd HG1.out.size
   go_upto_region 5 with (go_at_call 18;refine HOP.out.mono ?_;rintro e w3 ⟨st,ks,rfl,hks,hkr,ht⟩;rw[Jn (zgm _) hks] at hkr;have HK0:=zd hkr;clear hks hkr ht HOP)
   have HK1:Hid (Zv W (λk=>k<w1.heap.size) st db (S0 (3+(nb:Int)%18)) [] (λ_=>[]) (.slice none 0 0) 0 w3):=(show Zv _ _ _ _ _ _ _ _ _ _ from ⟨HK0.out,zo5 _,(by show(1:Int)≤((0:Nat):Int)+1;omega),(by show(min 4096 (max 0 (3+(nb:Int)%18))).toNat≤4096;omega),zdo _,Nat.le_refl _,λg hg=>by simp[Value.ownBlock] at hg⟩)
   clear HK0 HG2 HG1 HSZ;go_wp2
   go_loopw [8,9,10,11] (λs e a i wr=>KLoop W m db s e a i wr) (λ_ _ _ i _=>m-(intOf i).toNat)
   case atStart=>exact⟨_,st,_,_,_,0,by omega,rfl,rfl,rfl,HK1.out⟩
   case round=>
    clear HK1;obtain⟨own,st,S,all,blk,k,hkm,rfl,rfl,rfl,hkmem⟩:=hrel;have HK:=zd hkmem;clear hkmem
    by_cases hlt:k<m
    ·go_upto_if 47 with fail
     have HKM:=zd hkm;have HLT:Hid (k<m∧k<60):=(show _∧_ from ⟨hlt,by have:=HLEN.out.1;have:=HM.out;omega⟩)
     go_cut [] from 47 to 53 (λwx=>∃S1,Zv W own st db S1 all blk u10 k wx)
     case first=>
      by_cases hin:k<mi
      ·have hkl:k<inl.length:=by rw[←HMI.out];exact hin
       obtain⟨b2,off2,rfl,cin⟩:∃b off,p2=some ⟨b,off,none⟩∧wr.cell? ⟨b,off+k,none⟩=some (.int .i64 inl[k]):=by
        rcases HIROW.out with h0|⟨b,off,rfl,h1⟩
        ·rw[h0] at hkl;simp at hkl
        ·exact⟨b,off,rfl,HK.out.kr.gr.cell (h1 k hkl) (by simp)⟩
       have hir2:=HIR.out inl[k] (List.getElem_mem hkl);have HFA:=zd (HK.out.kr.fail inl[k] hir2.2);generalize inl[k]=fn at *
       go_wp2_with (go_at_call 28;refine HFA.out.mono ?_;rintro e w5 ⟨rfl,hk5,ht5⟩;have HK5:=zd (HK.out.failed _ hk5 ht5);clear hk5 ht5 HFA)
       go_meet
       case rel=>exact⟨_,HK5.out⟩
      ·go_wp2
       go_meet
       case rel=>exact⟨S,HK.out⟩
     case rest=>
      obtain⟨S1,hk1⟩:=hcut;clear HK;have HK:=zd hk1;clear hk1;have hkl:k<l.length:=by rw[←HM.out];exact HLT.out.1
      have hgetD:l.getD k zht=l[k]:=by simp[List.getD_eq_getElem?_getD,List.getElem?_eq_getElem hkl]
      obtain⟨b1,off1,rfl,hcx⟩:∃b off,p1=some ⟨b,off,none⟩∧∀j u,(yd l[k])[j]? = some u→wc.cell? ⟨b,off+k*5+j,none⟩=some u:=by
       rcases HROW.out with h0|⟨b,off,rfl,h1⟩
       ·rw[h0] at hkl;simp at hkl
       ·exact⟨b,off,rfl,λj u hu=>HK.out.kr.gr.cell (h1 k hkl j u (by rw[hgetD];exact hu)) (by simp)⟩
      have HX:=zd (HOK.out l[k] (List.getElem_mem hkl));have HXL:=zd (HLEN.out.2 l[k] (List.getElem_mem hkl));clear hgetD;generalize l[k]=x at *;have x0:=hcx 0 (.int .u8 x.kind) rfl;have x1:=hcx 1 (.slice x.p x.B.length x.c) rfl;have x2:=hcx 2 (.int .u8 x.times) rfl;have x3:=hcx 3 (.int .i64 x.n) rfl;have x4:=hcx 4 (.slice x.fp x.F.length x.fc) rfl;rw[Nat.add_zero] at x0;have hlt1:=xi x0;clear hcx hkl;have hgA:=ze wc (.cells (yd x).toArray 49) none;have hnA:=heap_alloc_new wc (.cells (yd x).toArray 49);have HKA:=zd (HK.out.more hgA);have HOA:Hid (own wc.heap.size∨(wc.heap.size≤wc.heap.size∧wc.heap.size<(wc.alloc (.cells (yd x).toArray 49)).heap.size)):=(show _∨_ from Or.inr ⟨Nat.le_refl _,by simp⟩)
      have HNX:=zd HKA.out.kr.next;have HBX:=zd hnA;have HXB:Hid (W.heap.size≤wc.heap.size):=(show _≤_ from HK.out.kr.gr.size)
      obtain⟨i0,z0,by0,hi,hz,hs,hb,hzs,hb2⟩:=hinfo;clear HK hgA hnA
      go_upto_region 14 with fail
      generalize hWA:wc.alloc (.cells #[.int .u8 x.kind,.slice x.p x.B.length x.c,.int .u8 x.times,.int .i64 x.n,.slice x.fp x.F.length x.fc] 49)=wa at *;have HWA:Hid (wc.alloc (.cells (yd x).toArray 49)=wa):=(show _=_ from hWA)
      rw[HWA.out] at HKA HNX HBX HOA;clear hWA HWA x0 x1 x2 x3 x4 hlt1;obtain⟨ownA,hownA⟩:∃o:Nat→Prop,o=λq=>own q∨(wc.heap.size≤q∧q<wa.heap.size):=⟨_,rfl⟩
      rw[←hownA] at HKA;have HOA2:Hid (ownA wc.heap.size):=(show ownA _ from by rw[hownA];exact HOA.out)
      clear hownA HOA;generalize wc.heap.size=xb at *;obtain⟨pa,ca,hpa,-,-⟩:=yl.form HKA.out.row;subst hpa;have hL60:all.length≤60:=by have:=HKA.out.len;have:=HLT.out.2;omega
      go_upto_region 17 with (first
       | (go_at_call 29;refine HNX.out.mono ?_;rintro e w5 ⟨rfl,h5⟩;obtain rfl:wa=w5:=h5.symm)
       | (at_builtin;refine xn (E:=54) (sz:=2) (enc:=Zq) (v:=.slice none 0 0) (l:=[]) (m:=all) _ rfl _ _ 46 rfl jh Qa i0 z0 by0 Tryz.underlying46 hi hz hs hb hzs (by decide) hb2 rfl (zdo _) rfl (Zg.y HKA.out.row) (by simp;omega) all.length (by simp) ?_;intro pn cn w6 hap;have HAP:=zd hap;clear hap))
      have HN6:=zd (zbf.start HKA.out HAP.out);have HB6:=zd ((HAP.out.2.1.block xb (Array.getElem?_eq_some_iff.1 HBX.out).1 (by simp[Value.ownBlock])).trans HBX.out)
      obtain⟨own6,hown6⟩:∃o:Nat→Prop,o=λq=>ownA q∨(wa.heap.size≤q∧q<w6.heap.size):=⟨_,rfl⟩
      rw[←hown6] at HN6;have HO6:Hid (own6 xb):=(show own6 _ from by rw[hown6];exact Or.inl HOA2.out)
      clear hown6 HOA2;clear HAP HKA HNX HBX;have y0:w6.cell? ⟨xb,0,none⟩=some (.int .u8 x.kind):=(zf HB6.out 0).trans rfl;have y3:w6.cell? ⟨xb,3,none⟩=some (.int .i64 x.n):=(zf HB6.out 3).trans rfl;have HBG:Hid (∀w',w6.grownBy w' none→w'.heap[xb]? = some (.cells (yd x).toArray 49 (0,0))):=(show ∀_,_→_=_ from λw' hg=>(hg.block xb (Array.getElem?_eq_some_iff.1 HB6.out).1 (by simp)).trans HB6.out)
      have hk0:=HX.out.k
      go_upto_region 18 with fail
      go_cut [72] from 63 to 72 (λc wx=>c = .bool (decide (x.kind%12=5∨x.kind%12=6))∧wx=w6)
      case first=>
       by_cases c5:x.kind%12=5
       ·go_wp2
        go_meet
        case rel=>exact⟨by simp[c5],rfl⟩
       ·by_cases c6:x.kind%12=6
        ·go_wp2
         go_meet
         case rel=>exact⟨by simp[c6],rfl⟩
        ·go_wp2
         go_meet
         case rel=>exact⟨by simp[c5,c6],rfl⟩
      case rest=>
       obtain⟨rfl,rfl⟩:=hcut;generalize hwc:wc=w7 at *;clear hwc
       go_upto_if 72 with fail
       go_cut [14,15,16,17] from 63 to 115 (λnv f _ _ wx=>wx.heap[xb]? = some (.cells (yd x).toArray 49 (0,0))∧∃pn' n' cn',nv = .slice pn' n' cn'∧KMid W st db all (.slice pa all.length ca) (k+1) (.slice pn' n' cn') f wx)
       case first=>
        by_cases hrm:x.kind%12=5∨x.kind%12=6
        ·by_cases hall:all = []
         ·subst hall
          go_wp2
          exact⟨⟨own6,st,S1,[],blk,k+1,by have:=HLT.out;omega,by simp,rfl,rfl,HN6.out.mem.up⟩,by have:=HLT.out;simp[intOf];omega⟩
         ·have hpos:0<all.length:=List.length_pos_iff.2 hall
          obtain⟨ix,hix,hixl⟩:=idx_of x.n hpos hL60
          go_upto_region 21 with fail
          rw[hix];clear hix;obtain⟨ga,hga,cix⟩:∃ga,pa=some ⟨ga,0,none⟩∧w7.cell? ⟨ga,ix*2,none⟩=some (.int .i64 all[ix].1):=by
           rcases yl.at jh HN6.out.mem.row with h0|⟨g,c,e,hc,_⟩
           ·rw[h0] at hpos;simp at hpos
           ·injection e with e1
            exact⟨g,e1,hc ix hixl 0 _ rfl⟩
          subst hga;have HRM:=zd (HN6.out.mem.kr.rem all[ix].1 (by rw[HN6.out.mem.inv.late];decide))
          have HREM:=zd (λw2 w3 v3 hr ht hv hg hn=>HN6.out.rem hixl (by have:=HLT.out.2;omega) (w2:=w2) (w3:=w3) (v3:=v3) hr ht hv hg hn)
          have HTA:=zd (λw2 (ht:zm (λk=>¬own6 k) w7 w2)=>Zg.turn HN6.out.mem.row (λg hg=>(HN6.out.mem.own_ g hg).1) ht)
          generalize all[ix].1=qk at *;generalize (S1.rem qk).2=fv at *;generalize (S1.rem qk).1=SR at *;have e1:(0:Int)≤(ix:Int):=by omega
          have e2:(ix:Int)<(all.length:Int):=by omega
          go_upto_region 22 with (go_at_call 30;refine HRM.out.mono ?_;rintro e w8 ⟨rfl,hr,ht⟩;have HR:=zd hr;have HT:=zd ht;clear hr ht)
          have HWO:=zd (zjt (HTA.out w8 HT.out) ix hixl (by omega))
          go_wp2_with (go_at_call 31;refine HWO.out.mono ?_;rintro e w9 ⟨v9,rfl,hv,hg,hn⟩;obtain⟨p9,n9,c9,h9⟩:=zkc hv;subst h9;have HV:=zd hv;have HG:=zd hg;have HNN:=zd hn;clear hv hg hn)
          go_meet
          case rel=>exact⟨(HG.out.block xb (Nat.lt_of_lt_of_le (Array.getElem?_eq_some_iff.1 HB6.out).1 HT.out.size) (by simp)).trans ((HT.out.block xb (Array.getElem?_eq_some_iff.1 HB6.out).1 (λe=>e HO6.out)).trans HB6.out),_,_,_,rfl,HREM.out _ _ _ HR.out HT.out HV.out HG.out HNN.out⟩
        ·have HBY:=zd (Ux (HX.out.grown HN6.out.mem.kr.gr))
         have HLX:=zd (zdc x);have HBLX:=zd (zfa HX.out);have y0:=(zf HB6.out 0).trans rfl;have hld:∀w':World,w'.heap[xb]? = some (.cells (yd x).toArray 49 (0,0))→w'.cell? ⟨xb,0,none⟩=some (.int .u8 x.kind)∧w'.cell? ⟨xb,1,none⟩=some (.slice x.p x.B.length x.c)∧w'.cell? ⟨xb,2,none⟩=some (.int .u8 x.times)∧w'.cell? ⟨xb,3,none⟩=some (.int .i64 x.n)∧w'.cell? ⟨xb,4,none⟩=some (.slice x.fp x.F.length x.fc):=λw' h=>⟨(zf h 0).trans rfl,(zf h 1).trans rfl,(zf h 2).trans rfl,(zf h 3).trans rfl,(zf h 4).trans rfl⟩
         have HLD:=zd hld;obtain⟨z0',z1',z2',z3',z4'⟩:=hld w7 HB6.out;clear hld y0 y3;have HBY2:Hid (∀w',W.grownBy w' none→Calls Tryz.prog 32 #[.agg #[.int .u8 x.kind,.slice x.p x.B.length x.c,.int .u8 x.times,.int .i64 x.n,.slice x.fp x.F.length x.fc]] w' λe w''=>e = .returned (.string (ofB (yx x)))∧w'.grownBy w'' none):=(show ∀_,_→Calls _ _ _ _ _ from λw' hg=>Ux (HX.out.grown hg))
         have HBS:=zd (qy HBLX.out);generalize yx x=bx at *
         go_upto_region 25 with (first
          | (rw[hcv])
          | (go_at_call 32;refine(HBY2.out _ HN6.out.mem.kr.gr).mono ?_;rintro e w8 ⟨rfl,hg8⟩;obtain⟨yv,w9,hcv,hg9,hy⟩:=zfd w8 (ofB bx) (by rw[yu];have:=HLX.out;omega);have HN9:=zd ((HN6.out.grown hg8).more hg9);have HY:=zd hy;have HG9:=zd (zh hg8 hg9);clear hg8 hg9 hy)
          | (go_at_call 20;refine(HN9.out.mem.kr.put (HY.out.mono λk hk=>Or.inr hk) (by rw[HBS.out];exact HBLX.out) (by rw[HBS.out];have:=HLX.out;omega) (by rw[HN9.out.mem.inv.late];decide)).mono ?_;rintro e w10 ⟨rfl,hr,ht⟩;have HR:=zd hr;have HT:=zd ht;clear hr ht))
         rw[HBS.out] at HR ⊢;have hkey:=Uo.put_key HN9.out.mem.inv (by have:=HN9.out.mem.next;have:=HLT.out.2;omega) (b:=bx) (by have:=HLX.out;omega)
         have HPUT:=zd (λw5 w6 v' hg ha=>HN9.out.put (by have:=HLT.out.2;omega) (b:=bx) (by have:=HLX.out;omega) HR.out HT.out (w5:=w5) (w6:=w6) (v':=v') hg ha)
         have HGW:Hid (W.grownBy w10 none):=(show World.grownBy _ _ _ from HR.out.gr)
         have HNV:Hid (Zg w10 (.slice pn all.length cn) all):=(show Zg _ _ _ from Zg.turn HN9.out.row (λg hg=>(HN9.out.own_ g hg).1) HT.out)
         have h9:=HBG.out w9 HG9.out;have h10:w10.heap[xb]? = some (.cells (yd x).toArray 49 (0,0)):=(HT.out.block xb (Array.getElem?_eq_some_iff.1 h9).1 (λe=>e (Or.inl HO6.out))).trans h9
         have HB10:=zd h10;have HXN:Hid (∀g,(Value.slice pn all.length cn).ownBlock=some g→g≠xb):=(show ∀_,_→_ from λg hg e=>by
          subst e
          exact ji (HNV.out) h10 (by decide) hg)
         obtain⟨q0,q1,q2,q3,q4⟩:=HLD.out w10 h10;have HBY3:=zd (HBY2.out w10 HGW.out);clear HR HT h9 h10 HN9 HY hcv HG9 HN6 HBY HBY2 HB6 z0' z1' z2' z3' z4';generalize (S1.put bx).2.2=fv at *;generalize (S1.put bx).2.1=kv at *
         rcases hkey with ⟨rfl,rfl⟩|hne
         ·go_wp2_with (first
           | (go_at_call 32;refine HBY3.out.mono ?_;rintro e w11 ⟨rfl,hg⟩;have HG11:=zd hg;clear hg)
           | (at_builtin;refine xn (E:=54) (sz:=2) (enc:=Zq) (v:=.slice pn all.length cn) (l:=all) (m:=[(S1.next,bx)]) _ rfl _ _ 46 rfl jh Qa i0 z0 by0 Tryz.underlying46 hi hz hs hb hzs (by decide) hb2 rfl ((HNV.out.kept HG11.out).kept (ze _ _ none)) rfl (zjw _ (S1.next,bx)) (by simp;omega) (all.length+1) (by simp) ?_;intro p12 c12 w12 hap;have HAP:=zd hap;clear hap))
          go_meet
          case rel=>exact⟨(HAP.out.2.1.block xb (Nat.lt_of_lt_of_le (Array.getElem?_eq_some_iff.1 HB10.out).1 (Nat.le_trans HG11.out.size (by simp))) (λe=>HXN.out _ e.symm rfl)).trans (((ze _ _ none).block xb (Nat.lt_of_lt_of_le (Array.getElem?_eq_some_iff.1 HB10.out).1 HG11.out.size) (by simp)).trans ((HG11.out.block xb (Array.getElem?_eq_some_iff.1 HB10.out).1 (by simp)).trans HB10.out)),_,_,_,rfl,HPUT.out _ _ _ (zh HG11.out (ze _ _ none)) HAP.out⟩
         ·go_wp2_with (first
           | (go_at_call 32;refine HBY3.out.mono ?_;rintro e w11 ⟨rfl,hg⟩;have HG11:=zd hg;clear hg)
           | (at_builtin;refine xn (E:=54) (sz:=2) (enc:=Zq) (v:=.slice pn all.length cn) (l:=all) (m:=[(S1.next,bx)]) _ rfl _ _ 46 rfl jh Qa i0 z0 by0 Tryz.underlying46 hi hz hs hb hzs (by decide) hb2 rfl ((HNV.out.kept HG11.out).kept (ze _ _ none)) rfl (zjw _ (S1.next,bx)) (by simp;omega) (all.length+1) (by simp) ?_;intro p12 c12 w12 hap;have HAP:=zd hap;clear hap))
          go_meet
          case rel=>exact⟨(HAP.out.2.1.block xb (Nat.lt_of_lt_of_le (Array.getElem?_eq_some_iff.1 HB10.out).1 (Nat.le_trans HG11.out.size (by simp))) (λe=>HXN.out _ e.symm rfl)).trans (((ze _ _ none).block xb (Nat.lt_of_lt_of_le (Array.getElem?_eq_some_iff.1 HB10.out).1 HG11.out.size) (by simp)).trans ((HG11.out.block xb (Array.getElem?_eq_some_iff.1 HB10.out).1 (by simp)).trans HB10.out)),_,_,_,rfl,HPUT.out _ _ _ (zh HG11.out (ze _ _ none)) HAP.out⟩
       case rest=>
        obtain⟨hbx,pn',n',cn',rfl,own8,S8,now,blk8,⟨rfl,hm⟩|⟨rfl,hm⟩|⟨rfl,ho⟩⟩:=hcut
        ·clear HN6 HB6 HBG HO6 y0 y3
         go_wp2
         exact⟨⟨own8,st,S8,all,blk8,k+1,by have:=HLT.out;omega,by simp,rfl,rfl,hm⟩,by have:=HLT.out;simp[intOf];omega⟩
        ·have hoff:=hm.kr.off
         rw[hm.inv.off] at hoff;have HOFF:=zd hoff;obtain⟨p0,c0,e0,-,-⟩:=yl.form hm.row
         injection e0 with e1 e2 e3
         subst e1 e2 e3;have hml:=hm.len;have HSM:=zd (zbv hm.kr hm.inv.recs hm.inv.good (by have:=hm.next;have:=HLT.out.2;omega) (by have:=HLT.out.2;omega) hm.row)
         have HMM:=zd hm;clear HN6 HB6 HBG HO6 y0 y3 hm hoff
         go_wp2_with (first
          | (go_at_call 33;refine HOFF.out.mono ?_;rintro e w13 ⟨rfl,h5⟩;obtain rfl:wc=w13:=h5.symm)
          | (go_at_call 35;refine HSM.out.mono ?_;rintro e w14 ⟨rfl,hg⟩;have HG14:=zd hg;clear hg))
         exact⟨⟨own8,st,S8,now,blk8,k+1,by have:=HLT.out;omega,by simp,rfl,rfl,HMM.out.grown HG14.out⟩,by have:=HLT.out;simp[intOf];omega⟩
        ·obtain⟨nn,hnn,hbad⟩:=ho.bad
         have hoff:=ho.kr.off;rw[hbad.off] at hoff;have HOFF:=zd hoff;have HON:=zd (ho.kr.on HX.out.f HX.out.fb (by have:=HXL.out.2;omega))
         have HBAD:=zd hbad;have HHO:=zd ho;have z4:wc.cell? ⟨xb,4,none⟩=some (.slice x.fp x.F.length x.fc):=(zf hbx 4).trans rfl;clear HN6 HB6 HBG HO6 y0 y3 ho hbad hoff hbx
         go_upto_region 36 with (first
          | (go_at_call 33;refine HOFF.out.mono ?_;rintro e w13 ⟨rfl,h5⟩;obtain rfl:wc=w13:=h5.symm)
          | (go_at_call 34;refine HON.out.mono ?_;rintro e w14 ⟨rfl,hd,hg,ht⟩;have HT14:=zd ht;have HOP:=zd (zbl hg HHO.out.kr.old hd (HBAD.out.on x.F).1 (by rw[(HBAD.out.on x.F).2.1,(HBAD.out.on x.F).2.2];show 0+nn<1000000;omega));clear hd hg ht)
          | (go_at_call 18;refine HOP.out.mono ?_;rintro e w15 ⟨st2,ks,rfl,hks,hkr,ht⟩;have HKS:=zd hks;have HKR:=zd hkr;have HT15:=zd (HT14.out.trans ht);clear hks hkr ht))
         have hop:=HHO.out.opened HKS.out HKR.out HT15.out;have hform:=yl.form HHO.out.nrow;obtain⟨p0,c0,e0,-,-⟩:=hform
         injection e0 with e1 e2 e3
         subst e1 e2 e3;have HLL:Hid (k+1≤61):=(show _≤_ from by have:=HLT.out.2;omega)
         clear HON HBAD HHO HKS HKR HT15 HT14 HOP HOFF z4;generalize openS (S8.d.on x.F) ks=S9 at *
         go_upto_region 38 with fail
         go_cut [148] from 141 to 148 (λc wx=>(c = .bool false∧∃blk9,Zv W own8 st2 db S9 all blk9 (.slice pa all.length ca) (k+1) wx)∨(c = .bool true∧∃blk9,Zv W own8 st2 db S9 now blk9 (.slice pn' now.length cn') (k+1) wx))
         case first=>
          rcases hop with ⟨blk9,hm⟩|⟨blk9,hm,har,hne⟩
          ·have HSM:=zd (zbv hm.kr hm.inv.recs hm.inv.good (by have:=hm.next;have:=HLT.out.2;omega) (by have:=hm.len;have:=HLT.out.2;omega) hm.row)
           have HMM:=zd hm;clear hm
           go_wp2_with (go_at_call 35;refine HSM.out.mono ?_;rintro e w16 ⟨rfl,hg⟩;have HG16:=zd hg;clear hg)
           go_meet
           case rel=>exact Or.inl ⟨rfl,blk9,HMM.out.grown HG16.out⟩
          ·have hkk:=hm.keys HLL.out
           have HSM:=zd (zky hm.kr hkk.1 hkk.2 har hne);have HMM:=zd hm;clear hm hkk har hne
           go_wp2_with (go_at_call 35;refine HSM.out.mono ?_;rintro e w16 ⟨rfl,hg⟩;have HG16:=zd hg;clear hg)
           go_meet
           case rel=>exact Or.inr ⟨rfl,blk9,HMM.out.grown HG16.out⟩
         case rest=>
         clear hop;have hcut1:=hcut;clear hcut;generalize hwc0:wc=w20 at *;clear hwc0
         go_upto_if 148 with fail
         go_cut [10] from 148 to 149 (λv wx=>∃p n c al blk9,v = .slice p n c∧Zv W own8 st2 db S9 al blk9 (.slice p n c) (k+1) wx)
         case first=>
          rcases hcut1 with ⟨rfl,blk9,hm⟩|⟨rfl,blk9,hm⟩
          ·go_wp2
           go_meet
           case rel=>exact⟨_,_,_,all,blk9,rfl,hm⟩
          ·go_wp2
           go_meet
           case rel=>exact⟨_,_,_,now,blk9,rfl,hm⟩
         case rest=>
          clear hcut1;obtain⟨p9,n9,c9,al,blk9,rfl,hm⟩:=hcut;obtain⟨p0,c0,e0,-,-⟩:=yl.form hm.row
          injection e0 with e1 e2 e3
          subst e1 e2 e3;have hml:=hm.len;have HSM:=zd (λ(w':World) (hg:wc.grownBy w' none)=>zbv (hm.grown hg).kr hm.inv.recs hm.inv.good (by have:=hm.next;have:=HLT.out.2;omega) (by have:=hm.len;have:=HLT.out.2;omega) (hm.grown hg).row)
          have HNX:=zd hm.kr.next;have HMM:=zd hm;have HFIN:Hid (∀w',wc.grownBy w' none→KLoop W m db (.pointer (some ⟨st2,0,none⟩)) (.int .i64 0) (.slice p9 al.length c9) (.int .i64 ((k:Int)+1)) w'):=(show ∀_,_→KLoop _ _ _ _ _ _ _ _ from λw' hg=>⟨own8,st2,S9,al,blk9,k+1,by have:=HLT.out;omega,by simp,rfl,rfl,hm.grown hg⟩)
          generalize hwc9:wc=w17 at *;clear hwc9
          go_upto_region 40 with fail
          rcases Nat.eq_zero_or_pos al.length with h0|h0
          ·have h00:al = []:=List.eq_nil_of_length_eq_zero h0
           subst h00;clear hm h0 hml;simp only[List.length_nil] at HSM HFIN ⊢;refine ya (by kernel_rfl) (by kernel_rfl) ?_
           repeat (any_goals (first|go_big_quiet_step (fail)|quiet_step (fail)))
           refine wpQuiet_nil ?_;intro _ hw';obtain⟨xx,hw''⟩:=hw';subst hw'';have HG9:=zd (ux w17 xx);generalize ext w17 xx=w18 at *;have HSM2:=zd (HSM.out w18 HG9.out)
           go_wp2_with (go_at_call 35;refine HSM2.out.mono ?_;rintro e w19 ⟨rfl,hg⟩;have HG19:=zd hg;clear hg)
           exact⟨HFIN.out _ (zh HG9.out HG19.out),by have:=HLT.out;simp[intOf];omega⟩
          ·obtain⟨n1,hn1⟩:∃n1,al.length=n1+1:=⟨al.length-1,by omega⟩
           have hl1:n1<al.length:=by omega
           have hkey:=(hm.inv.good.key (List.getElem_mem hl1)).2;obtain⟨g9,hg9,c9c⟩:∃g,p9=some ⟨g,0,none⟩∧w17.cell? ⟨g,n1*2,none⟩=some (.int .i64 al[n1].1):=by
            rcases yl.at jh hm.row with e0|⟨g,c,e,hc,_⟩
            ·rw[e0] at h0;simp at h0
            ·injection e with e1
             exact⟨g,e1,hc n1 hl1 0 _ rfl⟩
           subst hg9;have hgl9:=xi c9c;have HNX2:Hid (∀x:Ext,Calls Tryz.prog 29 #[.pointer (some ⟨st2,0,none⟩)] (ext w17 x) λe w'=>e = .returned (.int .i64 S9.next)∧(ext w17 x).grownBy w' none):=(show ∀x,Calls _ _ _ _ _ from λx=>((hm.grown (ux w17 x)).kr.next).mono (by rintro e w' ⟨rfl,rfl⟩;exact⟨rfl,zi _⟩))
           clear hm;generalize al[n1].1=q9 at *;have hd:decide (S9.next≤q9)=false:=by rw[decide_eq_false_iff_not];omega
           have hb9:n1≤99:=by have:=HLT.out.2;omega
           rw[hn1] at HSM HFIN ⊢;have f1:(0:Int)<((n1:Nat):Int)+1:=by omega
           have f2:(0:Int)≤(n1:Int):=by omega
           have f3:(n1:Int)<(n1:Int)+1:=by omega
           have f4:IntKind.i64.wrap ((n1:Nat):Int)=(n1:Int):=by rw[IntKind.wrap_i64];omega
           have f5:decide ((0:Int)<(n1:Int)+1)=true:=by rw[decide_eq_true_iff];omega
           have f6:((n1+1:Nat):Int)-1=(n1:Int):=by omega
           clear h0 hn1 hl1 hkey hml;refine ya (by kernel_rfl) (by kernel_rfl) ?_
           repeat (any_goals (first|go_big_quiet_step ((go_at_call 29;exact yw (HNX2.out _)))|quiet_step ((go_at_call 29;exact yw (HNX2.out _)))))
           refine wpQuiet_nil ?_;intro _ hw';obtain⟨xx,hw''⟩:=hw';subst hw'';have HG9:=zd (ux w17 xx);generalize ext w17 xx=w18 at *;have HSM2:=zd (HSM.out w18 HG9.out)
           go_wp2_with (go_at_call 35;refine HSM2.out.mono ?_;rintro e w19 ⟨rfl,hg⟩;have HG19:=zd hg;clear hg)
           exact⟨HFIN.out _ (zh HG9.out HG19.out),by have:=HLT.out;simp[intOf];omega⟩
    ·go_wp2_with (go_at_call 17;refine(HW.out _).mono ?_;rintro e w9 ⟨rfl,hg⟩;have HG9:=zd hg;clear hg)
     go_ret
     exact⟨rfl,zh HK.out.kr.gr HG9.out⟩
theorem Yq (w:World):zx w (.slice none 0 0) []:=⟨none,0,rfl,Or.inl rfl⟩
theorem zgo {l:List vn} (h:ur w (.slice (some ⟨b,0,none⟩) n n) l) (k:Nat) (hk:k≤n):ur w (.slice (some ⟨b,0,none⟩) k n) (l.take k):=by
 obtain⟨p,cap,e,h1,h2,h3⟩:=h
 injection e with e1 e2 e3
 subst e1 e2 e3;have hlk:(l.take k).length=k:=by rw[List.length_take];omega
 refine⟨some ⟨b,0,none⟩,l.length,by rw[hlk],by omega,λx hx=>h2 x (List.mem_of_mem_take hx),?_⟩
 rcases h3 with h3|⟨b',off,hp,h3⟩
 ·exact Or.inl (by rw[h3];simp)
 ·refine Or.inr ⟨b',off,hp,λi hi j u hu=>h3 i (by omega) j u ?_⟩
  rw[hlk] at hi;rw[List.getD_eq_getElem?_getD,List.getElem?_take_of_lt hi,←List.getD_eq_getElem?_getD] at hu
  exact hu
theorem zgn {l:List vn} (h:ur w (.slice (some ⟨b,0,none⟩) n n) l) (k:Nat) (hk:k≤n) (a:Option Addr) (c m:Nat) (hm:m=n-k) (ha:k<n→a=some ⟨b,k*5,none⟩):ur w (.slice a m c) (l.drop k):=by
 obtain⟨p,cap,e,h1,h2,h3⟩:=h
 injection e with e1 e2 e3
 subst e1 e2 e3 hm;have hlk:(l.drop k).length=l.length-k:=by rw[List.length_drop]
 refine⟨a,c,by rw[hlk],by omega,λx hx=>h2 x (List.mem_of_mem_drop hx),?_⟩
 rcases Nat.lt_or_ge k l.length with hkl|hkl
 ·rcases h3 with h3|⟨b',off,hp,h3⟩
  ·exact Or.inl (by rw[h3];simp)
  ·have:=Option.some.inj hp
   injection this with q1 q2
   subst q1 q2;refine Or.inr ⟨b,k*5,ha hkl,λi hi j u hu=>?_⟩
   rw[hlk] at hi;have h4:=h3 (k+i) (by omega) j u (by
    rw[List.getD_eq_getElem?_getD,List.getElem?_drop,←List.getD_eq_getElem?_getD] at hu
    exact hu)
   rw[show k*5+i*5+j=0+(k+i)*5+j from by omega]
   exact h4
 ·exact Or.inl (List.drop_eq_nil_of_le hkl)
theorem ur.grown {w':World} {v:Value} {l:List vn} (h:ur w v l) (hg:w.grownBy w' none):ur w' v l:=by
 obtain⟨p,cap,e,h1,h2,h3⟩:=h;refine⟨p,cap,e,h1,λx hx=>(h2 x hx).grown hg,?_⟩
 rcases h3 with h3|⟨b,off,hp,h3⟩
 ·exact Or.inl h3
 ·exact Or.inr ⟨b,off,hp,λi hi j u hu=>hg.cell (h3 i hi j u hu) (by simp)⟩
theorem zha (v:Value) (l:List vn) (W:World) (h:ur W v l):Calls Tryz.prog 6 #[.int .u8 9,v] W λe w'=>e = .returned (.bool true)∧W.grownBy w' none:=zkq 9 (by decide) v l W h
theorem zke {fz:Nat × Nat} (n:Nat) (hn:n=l.length) (hl:l.length≤1000) (hr:∀x∈l,-9223372036854775808≤x∧x<9223372036854775808) (hb:w.heap[b]? = some (.cells C T fz)) (hC:C=(l.map λx=>Value.int .i64 x).toArray):zn9 w (.slice (some ⟨b,0,none⟩) n n) l:=by
 subst hn hC;refine⟨_,_,rfl,by omega,hr,Or.inr ⟨b,0,rfl,λi hi=>?_⟩⟩
 rw[Nat.zero_add]
 exact(zf hb i).trans (by simp[hi])
theorem zks {fz:Nat × Nat} (n:Nat) (hn:n=l.length) (hb:w.heap[b]? = some (.cells C T fz)) (hC:C=(zg l).toArray):zx w (.slice (some ⟨b,0,none⟩) n n) l:=by
 subst hn hC;refine⟨_,_,rfl,Or.inr ⟨_,rfl,λj u hu=>?_⟩⟩
 rw[ut]
 exact(zf hb j).trans (by simpa using hu)
end Go.Proofs.YtbcbhlfjgobejaaGreat
