/- TableBytes: the walk: it answers true. Conditions: none, or as the theorems say. -/
import Derived.Test.YtjfelfjobeeenaaGreatN31
import Derived.Test.YtjfelfjobeeenaaGreatN50
import Derived.Deep.DeepCutAuto
import Derived.Deep.RegionHeld3
namespace Go.Proofs.YtjfelfjobeeenaaGreat
set_option maxHeartbeats 200000000
set_option linter.unusedVariables false
set_option linter.unusedSimpArgs false
open Go.RowKit Go.Sf Go.Shelf
theorem zvj {w w1 w2 w3 w4:World} {tb ub rb:Nat} {L U:Tab} {R:yp} (hg0:w.grownBy w1 none) (hA:At (fun k=>w1.heap.size≤k) w2 tb L) (hg1:w1.grownBy w2 none) (hU:At (fun k=>w2.heap.size≤k) w3 ub U) (hg2:w2.grownBy w3 none) (hR:RAt (fun k=>w3.heap.size≤k) w4 rb R) (hg3:w3.grownBy w4 none):∃own,za2 w own tb ub rb L U R w4:=by
 have s0:=hg0.size;have s1:=hg1.size;have s2:=hg2.size;have s3:=hg3.size;refine⟨fun k=>w2.heap.size≤k∧k<w3.heap.size,⟨⟨fun k=>w3.heap.size≤k∧k<w4.heap.size,?_,?_,fun k hk=>⟨hk.2,fun e=>by omega⟩⟩,fun k hk=>by omega,ze (ze (ze hg0 hg1) hg2) hg3⟩,(hU.mono fun k hk hb=>⟨hb,hk⟩).grown hg3,fun k hk=>by omega⟩
 ·exact((hA.mono (cs:=fun k=>w.heap.size≤k∧¬(w2.heap.size≤k∧k<w3.heap.size)∧¬(w3.heap.size≤k∧k<w4.heap.size)) fun k hk hb=>⟨by omega,fun e=>by omega,fun e=>by omega⟩).grown hg2).grown hg3
 ·exact hR.mono fun k hk hb=>⟨by omega,hb,hk⟩
theorem zmc (N K:Nat) (w:Int) (hK:yu N w=K) (bs:Nat→Prop) {W:World} {tb:Nat} (hA:At bs W tb (qn N w 0).norm):Up N K 0 (qn N w 0).norm (zce N (yu N w)):=
 ⟨⟨zkh N w K hK,zqq N w,zu1 N _⟩,rng_new N w,zvi N w,hA.nod⟩
theorem zq3 (L:Tab):4≤(qa L).length:=by
 unfold qa;simp only[List.length_append,Qt];omega
theorem enc_row {w:World} {base:Nat} {v:Value} {L:Tab} (h:w.ownsRow base 5 1 v (qa L).length (zu (qa L))):∃g cap cur,v = .slice (some ⟨g,0,none⟩) (qa L).length cap∧base≤g∧w.heap[g]? = some (.cells cur 5 (0,0))∧(qa L).length≤cap∧cap≤maxLen∧cur.size=cap:=by
 rcases h.2 with ⟨_,h0⟩|⟨g,cap,cur,e1,e2,e3,e4,e5,e6,_⟩
 ·have:=zq3 L;omega
 ·exact⟨g,cap,cur,e1,e2,e3,e4,e5,by omega⟩
set_option maxRecDepth 100000 in
theorem zih (a b at8:Nat) (ha:a≤255) (hb:b≤255) (hat:at8≤255) (v vb:Value) (l:List Cmd) (lb:List Int) (w:World) (h:Xg w w.heap.size v l) (hvb:uy w.heap.size w vb lb) (hlb:BL lb) :
  Calls Tryz.prog 8 #[.int .u8 a,.int .u8 b,v,.int .u8 at8,vb] w fun e w'=>e = .returned (.bool true)∧w.grownBy w' none:=by
 obtain⟨n,hn⟩:∃n:Nat,n=a%14:=⟨_,rfl⟩;obtain⟨k,hk⟩:∃k:Nat,k=b%14:=⟨_,rfl⟩;obtain⟨q,hq⟩:∃q:Nat,q=at8%80:=⟨_,rfl⟩;have hn14:n<14:=by omega
 have hk14:k<14:=by omega
 have hq80:q<80:=by omega
 have e1:(a:Int)%14=(n:Int):=by omega
 have e2:(b:Int)%14=(k:Int):=by omega
 have e3:(at8:Int)%80=(q:Int):=by omega
 obtain⟨N,hN⟩:∃N:Nat,(N:Int)=vm n:=⟨(vm n).toNat,by unfold vm;split <;> (try split) <;> omega⟩
 have hN1:1≤N∧N≤13:=by unfold vm at hN;split at hN <;> (try split at hN) <;> omega
 obtain⟨K,hK⟩:∃K:Nat,yu N k=K:=⟨(yu N k).toNat,by unfold yu;split <;> (try split) <;> omega⟩
 have hK1:1≤K∧K≤N:=by unfold yu at hK;split at hK <;> (try split at hK) <;> omega
 have HCN:Hid (vm N=N∧yu N K=K):=(show _∧_ from ⟨by unfold vm;(repeat' split) <;> omega,by unfold yu;(repeat' split) <;> omega⟩)
 have HNW:Hid (∀W,w.grownBy W none→Calls Tryz.prog 30 #[.int .i64 n,.int .i64 k] W fun e w'=>∃tb,e = .returned (.pointer (some ⟨tb,0,none⟩))∧At (fun k=>W.heap.size≤k) w' tb (qn N k 0).norm∧W.grownBy w' none):=(fun W hg=>
  (zel (bs:=fun k=>W.heap.size≤k) n k N hN W (fun _ h=>h)).mono fun e w' ⟨tb,h1,h2,h3,h4⟩=>⟨tb,h1,h3,h4⟩)
 have HRW:Hid (∀W,Calls Tryz.prog 38 #[.int .i64 n,.int .i64 k] W fun e w'=>∃rb,e = .returned (.pointer (some ⟨rb,0,none⟩))∧RAt (fun k=>W.heap.size≤k) w' rb (zce N (yu N k))∧W.grownBy w' none):=(show ∀_,_ from fun W=>znk n k N hN W (fun k=>W.heap.size≤k) (fun _ h=>h))
 have HKN:Hid (∀(bs:Nat→Prop) (W:World) (tb:Nat),At bs W tb (qn N k 0).norm→Up N K 0 (qn N k 0).norm (zce N (yu N k))):=(fun bs W tb hA=>zmc N K k hK bs hA)
 have HLG:Hid (Calls Tryz.prog 29 #[v] w fun e w'=>∃r,e = .returned (.bool r)∧w.grownBy w' none∧(r=false→l.length≤80)):=zeg v l _ w h
 have HV:=za h;have HVB:=za hvb;have HLB:=za hlb;obtain⟨pb,cb,rfl,-⟩:=hvb.ex;have HB:Hid (N≤13∧K≤13):=(show _∧_ from ⟨hN1.2,by omega⟩)
 clear hN hK hN1 hK1 hn hk hq h hvb hlb
 by_cases hlen:2000<lb.length
 ·have hlI:(2000:Int)<lb.length:=by omega
  go_enter Tryz.func8,Tryz.ntmps8
  go_wp2_with (first
   | (go_at_call 29;refine HLG.out.mono ?_;rintro e w1 ⟨r,rfl,hg,hr⟩;have HG:=za hg;clear hg hr HLG;cases r)
   | (go_at_call 10;refine(qd _).mono ?_;rintro e w2 ⟨rfl,hg⟩;have HG2:=za hg;clear hg))
  all_goals
   go_ret
   exact⟨rfl,ze HG.out HG2.out⟩
 have hlI:¬(2000:Int)<lb.length:=by omega
 have HLN:Hid (lb.length≤2000):=(show _≤_ from by omega)
 clear hlen
 go_enter Tryz.func8,Tryz.ntmps8
 go_wp2_with (first
  | (go_at_call 29;refine HLG.out.mono ?_;rintro e w1 ⟨r,rfl,hg,hr⟩;have HG:=za hg;have HR:=za hr;clear hg hr HLG;cases r)
  | (go_at_call 10;refine(qd _).mono ?_;rintro e w2 ⟨rfl,hg⟩;have HG2:=za hg;clear hg)
  | (go_at_call 30;refine(HNW.out _ HG.out).mono ?_;rintro e w2 ⟨tb,rfl,hA,hg⟩;have HA:=za hA;have HG2:=za hg;clear hA hg)
  | (go_at_call 30;refine(HNW.out _ (ze HG.out HG2.out)).mono ?_;rintro e w3 ⟨ub,rfl,hA,hg⟩;have HAU:=za hA;have HG3:=za hg;clear hA hg)
  | (go_at_call 38;refine(HRW.out _).mono ?_;rintro e w4 ⟨rb,rfl,hA,hg⟩;have HRA:=za hA;have HG4:=za hg;clear hA hg))
 rotate_left
 ·go_ret
  exact⟨rfl,ze HG.out HG2.out⟩
 have hl80:=HR.out trivial;obtain⟨own0,hT0⟩:=zvj HG.out HA.out HG2.out HAU.out HG3.out HRA.out HG4.out;have HT0:=za hT0;have HK0:=za (HKN.out _ _ _ HA.out);clear hT0 HA HG HG2 HNW HR HRA HG3 HRW HG4 HAU HKN;obtain⟨p,cap,rfl,hlen2,hks,hrow⟩:=HV.out;have HROW:=za hrow;have HKS:=za hks;clear HV hrow hks hlen2;have HD:Hid (∀i c,i<l.length→l.getD i wkD=c→(c.key.size:Int)≤9223372036854775807):=(fun i c hi hc=>HKS.out c (by rw[←hc];simp only[List.getD_eq_getElem?_getD,List.getElem?_eq_getElem hi,Option.getD_some];exact List.getElem_mem hi))
 clear HKS;generalize hm:l.length=m at *;generalize (qn N k 0).norm=L0 at *;generalize zce N (yu N k)=R0 at *
 go_loopw [13,16] (fun s i wr=>∃(j:Nat) (own:Nat→Prop) (tb:Nat) (L U:Tab) (R:yp),j≤m∧s = .pointer (some ⟨tb,0,none⟩)∧i = .int .i64 j∧za2 w own tb ub rb L U R wr∧Up N K j L R∧Up N K j U R) (fun _ i _=>m-(intOf i).toNat)
 case atStart=>exact⟨0,own0,tb,L0,L0,R0,Nat.zero_le _,rfl,rfl,HT0.out,HK0.out,HK0.out⟩
 case round=>
  clear HT0 HK0;obtain⟨j,own,tb,L,U,R,hj,rfl,rfl,hTr,hKL,hKU⟩:=hrel
  rcases Nat.lt_or_ge j m with hlt|hge
  ·rcases HROW.out with h0|⟨b,off,rfl,hb,hc⟩
   ·subst h0;simp at hm;omega
   ·have HJ:=za hlt
    have HTR:=za hTr;have HKL:=za hKL;have HKU:=za hKU;clear hTr hKL hKU;have HHC:=za hc;clear hc
    go_upto_if 56 with fail
    go_cut [13] (fun s wx=>∃(tb:Nat) (L:Tab),s = .pointer (some ⟨tb,0,none⟩)∧za2 w own tb ub rb L U R wx∧Up N K j L R)
    case first=>
     by_cases hjq:j=q
     ·subst hjq
      have HE:Hid (qa L=qa U):=(show _=_ from HKL.out.same HKU.out)
      have HFT:=za (HKL.out.fit (by omega) HB.out.1 HCN.out.1 HCN.out.2).1
      have HFU:=za (HKU.out.fit (by omega) HB.out.1 HCN.out.1 HCN.out.2).1
      have HAG:=za (HKL.out.again (by omega) HB.out.1 HCN.out.1 HCN.out.2)
      have HFR:=za (fun (W:World) (v:Value) (hv:uy W.heap.size W v (qa L))=>zq8 HKL.out (by omega) HB.out.1 HCN.out.1 HCN.out.2 hv)
      go_upto_region 10 with (go_at_call 40;refine(HTR.out.bytesT HFT.out).mono ?_;rintro e w8 ⟨vx,rfl,ho,hg⟩;obtain⟨g,capx,cur,rfl,hge,hgb,hle,hcm,hcs⟩:=enc_row ho;have HX:=za (HTR.out.fresh hg g hge (yi hgb));have HBX:=za (xq ho);have HGB:=za (And.intro hgb (And.intro hle hcs));clear ho hg hge hgb hle hcm hcs)
      go_upto_region 11 with (go_at_call 41;refine(HFR.out _ _ HBX.out).mono ?_;rintro e w9 ⟨tb9,rfl,hA,hg⟩;have HX9:=za (HX.out.swap hg hA);have HBX9:=za (HBX.out.later (Nat.le_refl _) hg);have HGB9:=za (And.intro ((hg.block g (yi HGB.out.1) (by simp)).trans HGB.out.1) HGB.out.2);clear hA hg)
      have HBY:Hid (∀W',w9.grownBy W' none→Calls Tryz.prog 40 #[.pointer (some ⟨tb9,0,none⟩)] W' fun e w'=>∃v,e = .returned v∧w'.ownsRow W'.heap.size 5 1 v (qa L).length (zu (qa L))∧W'.grownBy w' none):=(show ∀_,_ from fun W' hg=>by have h1:=(HX9.out.less.grown hg).bytesT (HAG.out.2.2.2 _ HAG.out.1);rw[HAG.out.2.1] at h1;exact h1)
      have HBU:Hid (∀W',w9.grownBy W' none→Calls Tryz.prog 40 #[.pointer (some ⟨ub,0,none⟩)] W' fun e w'=>∃v,e = .returned v∧w'.ownsRow W'.heap.size 5 1 v (qa L).length (zu (qa L))∧W'.grownBy w' none):=(show ∀_,_ from fun W' hg=>by rw[HE.out];exact zc6 (HX9.out.less.grown hg).u HFU.out)
      have HKC:=za HAG.out.2.2.1;clear HFR HX HBX HGB HAG HFT HFU HE;generalize qa L=EL at *;have hnq:(ofB EL != ofB EL)=false:=by simp[bne,Xj]
      have hS0:(fun w':World=>w9.grownBy w' none) w9.drew:=zf (zd _)
      dsimp only at hS0;refine wp_region_held_drew (S:=fun w':World=>w9.grownBy w' none) (by kernel_rfl) hS0 (fun hHeld=>?_)
      clear hS0;refine tg 0 ?_ hHeld ?_ ?_ rfl (by kernel_rfl) rfl fun _ _ _ h=>h
      rotate_left
      ·rintro w s1;go_simp;try with_reducible rfl
      (try simp only[Act.put,pA,pB,pC])
      refine tg 1 ?_ hHeld ?_ ?_ rfl (by kernel_rfl) rfl fun _ _ _ h=>h
      rotate_left
      ·rintro w s1;go_simp;try with_reducible rfl
      (try simp only[Act.put,pA,pB,pC])
      refine tg 2 ?_ hHeld ?_ ?_ rfl (by kernel_rfl) rfl fun _ _ _ h=>h
      rotate_left
      ·rintro w s1;go_simp;try with_reducible rfl
      (try simp only[Act.put,pA,pB,pC])
      refine tg 3 ?_ hHeld ?_ ?_ rfl (by kernel_rfl) rfl fun _ _ _ h=>h
      rotate_left
      ·rintro w s1;go_simp;try with_reducible rfl
      (try simp only[Act.put,pA,pB,pC])
      refine tg 6 ?_ hHeld ?_ ?_ rfl (by kernel_rfl) rfl fun _ _ _ h=>h
      rotate_left
      ·rintro w s1;go_simp;try with_reducible rfl
      (try simp only[Act.put,pA,pB,pC])
      refine tg 7 ?_ hHeld ?_ ?_ rfl (by kernel_rfl) rfl fun _ _ _ h=>h
      rotate_left
      ·intro w hSw;(try dsimp only at hSw);go_simp;rw[ys (HBX9.out.turn fun k hk=>World.grownBy.block hSw k hk (by simp))];rfl
      (try simp only[Act.put,pA,pB,pC])
      refine rdy 4 (fun K hK=>?_) rfl (by kernel_rfl)
      go_simp
      refine(HBY.out _ hHeld).mono ?_;rintro e wby ⟨vy,rfl,ho,hg⟩;obtain⟨py,cy,rfl⟩:=Zo ho;have HRy:=za (xq ho);have HGy:=za hg;clear ho hg;refine hK.out _ _ (ze hHeld HGy.out) (fun hHeld=>?_)
      clear hK K
      (try simp only[Act.put,pA,pB,pC])
      refine rdy 5 (fun K hK=>?_) rfl (by kernel_rfl)
      go_simp
      rw[ys HRy.out];simp only[Result.andThen];rw[Oper.upon_value];refine hK.out _ _ (hHeld) (fun hHeld=>?_)
      clear hK K
      (try simp only[Act.put,pA,pB,pC])
      refine rdy 8 (fun K hK=>?_) rfl (by kernel_rfl)
      go_simp
      refine hK.out _ _ hHeld (fun hHeld=>?_)
      clear hK K
      (try simp only[Act.put,pA,pB,pC])
      refine rdy 9 (fun K hK=>?_) rfl (by kernel_rfl)
      go_simp
      refine hK.out _ _ hHeld (fun hHeld=>?_)
      clear hK K
      (try simp only[Act.put,pA,pB,pC])
      refine rdy 10 (fun K hK=>?_) rfl (by kernel_rfl)
      go_simp
      refine hK.out _ _ hHeld (fun hHeld=>?_)
      clear hK K
      (try simp only[Act.put,pA,pB,pC])
      refine tg 11 ?_ hHeld ?_ ?_ rfl (by kernel_rfl) rfl fun _ _ _ h=>h
      rotate_left
      ·rintro w s1;go_simp;try with_reducible rfl
      (try simp only[Act.put,pA,pB,pC])
      refine tg 14 ?_ hHeld ?_ ?_ rfl (by kernel_rfl) rfl fun _ _ _ h=>h
      rotate_left
      ·rintro w s1;go_simp;try with_reducible rfl
      (try simp only[Act.put,pA,pB,pC])
      refine tg 15 ?_ hHeld ?_ ?_ rfl (by kernel_rfl) rfl fun _ _ _ h=>h
      rotate_left
      ·intro w hSw;(try dsimp only at hSw);go_simp;rw[ys (HBX9.out.turn fun k hk=>World.grownBy.block hSw k hk (by simp))];rfl
      (try simp only[Act.put,pA,pB,pC])
      refine rdy 12 (fun K hK=>?_) rfl (by kernel_rfl)
      go_simp
      refine(HBU.out _ hHeld).mono ?_;rintro e wbu ⟨vu,rfl,ho,hg⟩;obtain⟨pu,cu,rfl⟩:=Zo ho;have HRu:=za (xq ho);have HGu:=za hg;clear ho hg;refine hK.out _ _ (ze hHeld HGu.out) (fun hHeld=>?_)
      clear hK K
      (try simp only[Act.put,pA,pB,pC])
      refine rdy 13 (fun K hK=>?_) rfl (by kernel_rfl)
      go_simp
      rw[ys HRu.out];simp only[Result.andThen];rw[Oper.upon_value];refine hK.out _ _ (hHeld) (fun hHeld=>?_)
      clear hK K
      (try simp only[Act.put,pA,pB,pC])
      refine rdy 16 (fun K hK=>?_) rfl (by kernel_rfl)
      go_simp
      refine hK.out _ _ hHeld (fun hHeld=>?_)
      clear hK K
      (try simp only[Act.put,pA,pB,pC])
      refine rdy 17 (fun K hK=>?_) rfl (by kernel_rfl)
      go_simp
      refine hK.out _ _ hHeld (fun hHeld=>?_)
      clear hK K
      (try simp only[Act.put,pA,pB,pC])
      refine wpAnyH_done (by kernel_rfl) ?_ _
      have HX11:=za (HX9.out.grown hHeld);have HGB11:=za (And.intro ((hHeld.block g (yi HGB9.out.1) (by simp)).trans HGB9.out.1) HGB9.out.2)
      have hci:(EL.length:Int)≤9223372036854775807:=by have:=HBX9.out.cells;obtain⟨_,_,e0,h1,h2,_⟩:=this;omega
      clear HBY HBU HX9 HGB9 HBX9 hHeld hnq;go_wp2
      go_loopw [20] (fun s wi=>∃(i:Nat) (cur':Array Value),i≤EL.length∧s = .int .i64 i∧wi.heap[g]? = some (.cells cur' 5 (0,0))∧EL.length≤cur'.size∧Jb w own tb9 ub rb g (za6 L) U R wi) (fun s _=>EL.length-(intOf s).toNat)
      case atStart=>exact⟨0,cur,Nat.zero_le _,rfl,HGB11.out.1,by have h1:=HGB11.out.2;omega,HX11.out⟩
      case round=>
       clear HX11 HGB11;obtain⟨i,cur',hi,rfl,hgb,hsz,hx⟩:=hrel;have HXi:=za hx;clear hx
       by_cases hil:i<EL.length
       ·have x0:wr.cell? ⟨g,i,none⟩=some (cur'[i]'(by omega)):=by simp[World.cell?,hgb,show i<cur'.size by omega]
        have z0:wr.frozen? ⟨g,i,none⟩=false:=yr hgb i;have HGBi:=za hgb;clear hgb;generalize cur'[i]'(by omega)=xv at *
        go_wp2
        go_roundw
        case rel=>exact⟨i+1,cur'.setIfInBounds i (.int .u8 0),by omega,by go_num,by have h1:=HGBi.out;simp[World.setCell,Array.getElem?_modify,h1],by simpa using hsz,HXi.out.turn (vf _ _ _ _)⟩
        case measure=>simp[intOf];omega
       ·obtain rfl:i=EL.length:=by omega
        go_wp2
        go_meet
        exact⟨tb9,za6 L,rfl,HXi.out.less,HKC.out⟩
     ·have hjI:¬(j:Int)=q:=by omega
      go_wp2
      go_meet
      exact⟨tb,L,rfl,HTR.out,HKL.out⟩
    case rest=>
     obtain⟨tb,L,rfl,hTr,hKL⟩:=hcut;have hcell:=HHC.out j hlt;have hk:=HD.out j _ (by omega) rfl
     have HHK:=za hcell;generalize l.getD j wkD=c at *;obtain⟨kind,node,zvw,zvx,zvy,zvz,key,code⟩:=c;have c0:=hTr.duo.base.cell (hcell 0 _ rfl) (by simp)
     have c1:=hTr.duo.base.cell (hcell 1 _ rfl) (by simp)
     have c2:=hTr.duo.base.cell (hcell 2 _ rfl) (by simp)
     have c3:=hTr.duo.base.cell (hcell 3 _ rfl) (by simp)
     have c4:=hTr.duo.base.cell (hcell 4 _ rfl) (by simp)
     have c5:=hTr.duo.base.cell (hcell 5 _ rfl) (by simp)
     have c6:=hTr.duo.base.cell (hcell 6 _ rfl) (by simp)
     have c7:=hTr.duo.base.cell (hcell 7 _ rfl) (by simp)
     simp only[Nat.add_zero] at c0 c1 c2 c3 c4 c5 c6 c7;have HT1:=za hTr;have HKL1:=za hKL;have hx:=hKL.both.sim.s0.next;clear hTr hKL hcell HTR HKL;generalize wc=wd at *;have HUX:Hid (U.offers<1000000∧U.next<1000000):=(show _∧_ from by
      have g1:=HKU.out.both.sim.s0.next;have g2:=HKU.out.both.sim.s0.offers;have g3:=HKU.out.both.rb.o1;have g4:=HKU.out.both.rb.x1
      exact⟨by omega,by omega⟩)
     have HDU:Hid (Calls Tryz.prog 22 #[.pointer (some ⟨ub,0,none⟩),.agg #[.int .u8 kind,.int .i64 node,.int .i64 zvw,.int .i64 zvx,.int .i64 zvy,.int .i64 zvz,.string key,.int .i64 code]] wd fun e w'=>(∃z,e = .returned (.int .i64 z))∧∃own',za2 w own' tb ub rb L (Xz U ⟨kind,node,zvw,zvx,zvy,zvz,key,code⟩) R w'):=(show Calls _ _ _ _ _ from HT1.out.doU HKU.out.both.inv (by have:=HB.out;omega) HUX.out.1 HUX.out.2 ⟨kind,node,zvw,zvx,zvy,zvz,key,code⟩ hk)
     go_upto_region 19 with (go_at_call 22;refine HDU.out.mono ?_;rintro e w5 ⟨⟨z,rfl⟩,own5,hT5⟩;have HT5:=za hT5;clear hT5)
     clear c0 c1 c2 c3 c4 c5 c6 c7 HDU HUX;have hTr:=HT5.out;have hcell:=HHK.out;have c0:=hTr.duo.base.cell (hcell 0 _ rfl) (by simp)
     have c1:=hTr.duo.base.cell (hcell 1 _ rfl) (by simp)
     have c2:=hTr.duo.base.cell (hcell 2 _ rfl) (by simp)
     have c3:=hTr.duo.base.cell (hcell 3 _ rfl) (by simp)
     have c4:=hTr.duo.base.cell (hcell 4 _ rfl) (by simp)
     have c5:=hTr.duo.base.cell (hcell 5 _ rfl) (by simp)
     have c6:=hTr.duo.base.cell (hcell 6 _ rfl) (by simp)
     have c7:=hTr.duo.base.cell (hcell 7 _ rfl) (by simp)
     simp only[Nat.add_zero] at c0 c1 c2 c3 c4 c5 c6 c7;clear hTr hcell
     go_wp2_with (go_at_call 39;refine(HT5.out.play HKL1.out.both (by have:=HB.out;omega) (by have:=HB.out;omega) (by omega) kind node zvw zvx zvy zvz key code hk).mono ?_;rintro e w6 ⟨rfl,hT6⟩;have HT6:=za hT6;clear hT6)
     go_roundw
     case rel=>
      obtain⟨bs,hA⟩:=HT6.out.duo.atT
      exact⟨j+1,own5,tb,_,_,_,by omega,rfl,by go_num,HT6.out,HKL1.out.act (by omega) hA.nod,HKU.out.act (by omega) HT6.out.u.nod⟩
     case measure=>simp[intOf];omega
  ·obtain rfl:j=m:=by omega
   have HTR:=za hTr;have HKL:=za hKL;have HKU:=za hKU;clear hTr hKL hKU;have HE:Hid (qa L=qa U):=(show _=_ from HKL.out.same HKU.out)
   have HFT:=za (HKL.out.fit (by omega) HB.out.1 HCN.out.1 HCN.out.2).1
   have HFU:=za (HKU.out.fit (by omega) HB.out.1 HCN.out.1 HCN.out.2).1
   have HBU:Hid (∀W',wr.grownBy W' none→Calls Tryz.prog 40 #[.pointer (some ⟨ub,0,none⟩)] W' fun e w'=>∃v,e = .returned v∧w'.ownsRow W'.heap.size 5 1 v (qa L).length (zu (qa L))∧W'.grownBy w' none):=(show ∀_,_ from fun W' hg=>by rw[HE.out];exact zc6 (HTR.out.grown hg).u HFU.out)
   go_upto_region 21 with fail
   go_cut [112] (fun s wx=>s = .bool false∧wr.grownBy wx none)
   case first=>
    have hS0:(fun w':World=>wr.grownBy w' none) wr.drew:=zf (zd _)
    dsimp only at hS0;refine wp_region_held_drew (S:=fun w':World=>wr.grownBy w' none) (by kernel_rfl) hS0 (fun hHeld=>?_)
    clear hS0;refine tg 0 ?_ hHeld ?_ ?_ rfl (by kernel_rfl) rfl fun _ _ _ h=>h
    rotate_left
    ·rintro w s1;go_simp;try with_reducible rfl
    (try simp only[Act.put,pA,pB,pC])
    refine tg 3 ?_ hHeld ?_ ?_ rfl (by kernel_rfl) rfl fun _ _ _ h=>h
    rotate_left
    ·rintro w s1;go_simp;try with_reducible rfl
    (try simp only[Act.put,pA,pB,pC])
    refine rdy 1 (fun K hK=>?_) rfl (by kernel_rfl)
    go_simp
    refine((HTR.out.grown hHeld).bytesT HFT.out).mono ?_;rintro e wba ⟨va,rfl,ho,hg⟩;obtain⟨pa,ca,rfl⟩:=Zo ho;have HRa:=za (xq ho);have HGa:=za hg;clear ho hg;refine hK.out _ _ (ze hHeld HGa.out) (fun hHeld=>?_)
    clear hK K
    (try simp only[Act.put,pA,pB,pC])
    have HWa:=za hHeld;generalize qa L=EL at *;have hnq:(ofB EL != ofB EL)=false:=by simp[bne,Xj]
    refine wpAnyH_ready (rs:=[2,4]) (by kernel_rfl) (by simp) ?_
    refine AllReadyH.cons (o := { dst := some 108, op := Op.convert 25 9 (Operand.tmp 107), type := 9, pos := "law.go:178", after := #[{ on := 1, ground := Ground.data }], guard := none }) rfl (fun K hK => ?_) (AllReadyH.cons (o := { dst := some 110, op := Op.call { callee := Callee.value (Operand.func 40), args := #[Operand.tmp 109], argTypes := #[38] }, type := 25, pos := "law.go:178", after := #[{ on := 3, ground := Ground.data }, { on := 1, ground := Ground.chain }], guard := none }) rfl (fun K hK => ?_) (AllReadyH.nil))
    ·go_simp
     rw[ys HRa.out];simp only[Result.andThen];rw[Oper.upon_value];refine hK.out _ _ (hHeld) (fun hHeld=>?_)
     clear hK K
     (try simp only[Act.put,pA,pB,pC])
     refine rdy 4 (fun K hK=>?_) rfl (by kernel_rfl)
     go_simp
     refine(HBU.out _ hHeld).mono ?_;rintro e wbb ⟨vb,rfl,ho,hg⟩;obtain⟨pb,cb,rfl⟩:=Zo ho;have HRb:=za (xq ho);have HGb:=za hg;clear ho hg;refine hK.out _ _ (ze hHeld HGb.out) (fun hHeld=>?_)
     clear hK K
     (try simp only[Act.put,pA,pB,pC])
     refine rdy 5 (fun K hK=>?_) rfl (by kernel_rfl)
     go_simp
     rw[ys HRb.out];simp only[Result.andThen];rw[Oper.upon_value];refine hK.out _ _ (hHeld) (fun hHeld=>?_)
     clear hK K
     (try simp only[Act.put,pA,pB,pC])
     refine rdy 6 (fun K hK=>?_) rfl (by kernel_rfl)
     go_simp
     refine hK.out _ _ hHeld (fun hHeld=>?_)
     clear hK K
     (try simp only[Act.put,pA,pB,pC])
     refine wpAnyH_done (by kernel_rfl) ?_ _
     go_wp2_with fail
     go_meet
     exact⟨by first|rfl|rw[hnq],hHeld⟩
    ·go_simp
     refine(HBU.out _ hHeld).mono ?_;rintro e wbb ⟨vb,rfl,ho,hg⟩;obtain⟨pb,cb,rfl⟩:=Zo ho;have HRb:=za (xq ho);have HGb:=za hg;clear ho hg;refine hK.out _ _ (ze hHeld HGb.out) (fun hHeld=>?_)
     clear hK K
     (try simp only[Act.put,pA,pB,pC])
     refine wpAnyH_ready (rs:=[2,5]) (by kernel_rfl) (by simp) ?_
     refine AllReadyH.cons (o := { dst := some 108, op := Op.convert 25 9 (Operand.tmp 107), type := 9, pos := "law.go:178", after := #[{ on := 1, ground := Ground.data }], guard := none }) rfl (fun K hK => ?_) (AllReadyH.cons (o := { dst := some 111, op := Op.convert 25 9 (Operand.tmp 110), type := 9, pos := "law.go:178", after := #[{ on := 4, ground := Ground.data }], guard := none }) rfl (fun K hK => ?_) (AllReadyH.nil))
     ·go_simp
      rw[ys (HRa.out.turn fun k hk=>HGb.out.block k hk (by simp))]
      simp only[Result.andThen];rw[Oper.upon_value];refine hK.out _ _ (hHeld) (fun hHeld=>?_)
      clear hK K
      (try simp only[Act.put,pA,pB,pC])
      refine rdy 5 (fun K hK=>?_) rfl (by kernel_rfl)
      go_simp
      rw[ys HRb.out];simp only[Result.andThen];rw[Oper.upon_value];refine hK.out _ _ (hHeld) (fun hHeld=>?_)
      clear hK K
      (try simp only[Act.put,pA,pB,pC])
      refine rdy 6 (fun K hK=>?_) rfl (by kernel_rfl)
      go_simp
      refine hK.out _ _ hHeld (fun hHeld=>?_)
      clear hK K
      (try simp only[Act.put,pA,pB,pC])
      refine wpAnyH_done (by kernel_rfl) ?_ _
      go_wp2_with fail
      go_meet
      exact⟨by first|rfl|rw[hnq],hHeld⟩
     ·go_simp
      rw[ys HRb.out];simp only[Result.andThen];rw[Oper.upon_value];refine hK.out _ _ (hHeld) (fun hHeld=>?_)
      clear hK K
      (try simp only[Act.put,pA,pB,pC])
      refine rdy 2 (fun K hK=>?_) rfl (by kernel_rfl)
      go_simp
      rw[ys (HRa.out.turn fun k hk=>HGb.out.block k hk (by simp))]
      simp only[Result.andThen];rw[Oper.upon_value];refine hK.out _ _ (hHeld) (fun hHeld=>?_)
      clear hK K
      (try simp only[Act.put,pA,pB,pC])
      refine rdy 6 (fun K hK=>?_) rfl (by kernel_rfl)
      go_simp
      refine hK.out _ _ hHeld (fun hHeld=>?_)
      clear hK K
      (try simp only[Act.put,pA,pB,pC])
      refine wpAnyH_done (by kernel_rfl) ?_ _
      go_wp2_with fail
      go_meet
      exact⟨by first|rfl|rw[hnq],hHeld⟩
   case rest=>
    obtain⟨rfl,hg6⟩:=hcut;have HG6:=za (ze HTR.out.duo.base hg6);have HB6:=za (HVB.out.later (Nat.le_refl _) HG6.out);have HFB:=za (zgw HB6.out HLB.out (fun L' e'=>zh3 HLB.out (Nat.le_trans HLN.out (by decide)) e'))
    generalize wc=w6 at *
    go_upto_region 24 with (go_at_call 41;refine HFB.out.mono ?_;rintro e w7 ⟨hg7,⟨tb7,T7,rfl,h1,h2,h3,h4⟩|⟨rfl,h1⟩⟩ <;> first
     | (have HG7:=za hg7;have HT7:=za h3;have HE7:=za h2;have HF7:=za (zh3 HLB.out (Nat.le_trans HLN.out (by decide)) h1).of_norm;clear h1 h2 h3 h4 hg7)
     | (have HG7:=za hg7;clear hg7 h1))
    ·go_upto_region 26 with fail
     have HB7:=za (HB6.out.later (Nat.le_refl _) HG7.out);have hS0:(fun w':World=>w7.grownBy w' none) w7.drew:=zf (zd _)
     dsimp only at hS0;refine wp_region_held_drew (S:=fun w':World=>w7.grownBy w' none) (by kernel_rfl) hS0 (fun hHeld=>?_)
     clear hS0;refine tg 0 ?_ hHeld ?_ ?_ rfl (by kernel_rfl) rfl fun _ _ _ h=>h
     rotate_left
     ·rintro w s1;go_simp;try with_reducible rfl
     (try simp only[Act.put,pA,pB,pC])
     refine tg 3 ?_ hHeld ?_ ?_ rfl (by kernel_rfl) rfl fun _ _ _ h=>h
     rotate_left
     ·rintro w s1;go_simp;try with_reducible rfl
     (try simp only[Act.put,pA,pB,pC])
     refine tg 4 ?_ hHeld ?_ ?_ rfl (by kernel_rfl) rfl fun _ _ _ h=>h
     rotate_left
     ·intro w hSw;(try dsimp only at hSw);go_simp;rw[ys (HB7.out.turn fun k hk=>World.grownBy.block hSw k hk (by simp))];rfl
     (try simp only[Act.put,pA,pB,pC])
     refine rdy 1 (fun K hK=>?_) rfl (by kernel_rfl)
     go_simp
     refine(zbt (HT7.out.grown hHeld) HF7.out).mono ?_;rintro e wbz ⟨vz,rfl,ho,hg⟩;obtain⟨pz,cz,rfl⟩:=Zo ho;have HRz:=za (xq ho);have HGz:=za hg;clear ho hg;refine hK.out _ _ (ze hHeld HGz.out) (fun hHeld=>?_)
     clear hK K
     (try simp only[Act.put,pA,pB,pC])
     have HZ:Hid (qa T7=lb):=(show _=_ from by rw[←Jg];exact HE7.out)
     rw[HZ.out] at HRz;rw[HZ.out];have hzq:(ofB lb == ofB lb)=true:=Xj _;refine rdy 2 (fun K hK=>?_) rfl (by kernel_rfl)
     go_simp
     rw[ys HRz.out];simp only[Result.andThen];rw[Oper.upon_value];refine hK.out _ _ (hHeld) (fun hHeld=>?_)
     clear hK K
     (try simp only[Act.put,pA,pB,pC])
     refine rdy 5 (fun K hK=>?_) rfl (by kernel_rfl)
     go_simp
     refine hK.out _ _ hHeld (fun hHeld=>?_)
     clear hK K
     (try simp only[Act.put,pA,pB,pC])
     refine rdy 6 (fun K hK=>?_) rfl (by kernel_rfl)
     go_simp
     refine hK.out _ _ hHeld (fun hHeld=>?_)
     clear hK K
     (try simp only[Act.put,pA,pB,pC])
     refine rdy 7 (fun K hK=>?_) rfl (by kernel_rfl)
     go_simp
     refine(qd _).mono ?_;rintro e w9 ⟨rfl,hg9⟩;refine hK.out _ _ (ze hHeld hg9) (fun hHeld=>?_)
     clear hK K
     (try simp only[Act.put,pA,pB,pC])
     refine rdy 8 (fun K hK=>?_) rfl (by kernel_rfl)
     go_simp
     refine hK.out _ _ hHeld (fun hHeld=>?_)
     clear hK K
     (try simp only[Act.put,pA,pB,pC])
     refine rdy 9 (fun K hK=>?_) rfl (by kernel_rfl)
     go_simp
     refine hK.out _ _ hHeld (fun hHeld=>?_)
     clear hK K
     (try simp only[Act.put,pA,pB,pC])
     refine wpAnyH_done (by kernel_rfl) ?_ _
     go_wp2
     go_ret
     exact⟨rfl,ze (ze HG6.out HG7.out) hHeld⟩
    ·go_wp2_with (go_at_call 10;refine(qd _).mono ?_;rintro e w9 ⟨rfl,hg9⟩;have HG9:=za hg9;clear hg9)
     go_ret
     exact⟨rfl,ze (ze HG6.out HG7.out) HG9.out⟩
end Go.Proofs.YtjfelfjobeeenaaGreat
