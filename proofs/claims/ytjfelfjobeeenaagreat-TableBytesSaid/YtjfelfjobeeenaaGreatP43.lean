/- TableBytes: the walk: it answers true. Conditions: a row of commands and a row of bytes in memory. A law that leaves all old memory alone: its row's last step. Conditions: none. -/
import Derived.Test.YtjfelfjobeeenaaGreatP1
import Derived.Test.YtjfelfjobeeenaaGreatP42
import Derived.Deep.DeepCutAuto
import Derived.Deep.RegionHeld3
import Derived.Test.YtjfelfjobeeenaaGreatRows
import Derived.WalkKit
import Derived.ProofKit
import Derived.OpenShut
namespace Go.Proofs.YtjfelfjobeeenaaGreat
set_option linter.unusedVariables false
set_option linter.unusedSimpArgs false
open Go.RowKit Go.Sf Go.Shelf
theorem trio_new {w w1 w2 w3 w4:World} {tb ub rb:Nat} {L U:Tab} {R:RTab} (hg0:w.grownBy w1 none) (hA:At (fun k=>w1.heap.size≤k) w2 tb L) (hg1:w1.grownBy w2 none) (hU:At (fun k=>w2.heap.size≤k) w3 ub U) (hg2:w2.grownBy w3 none) (hR:RAt (fun k=>w3.heap.size≤k) w4 rb R) (hg3:w3.grownBy w4 none):∃own,Trio w own tb ub rb L U R w4:=by
 have s0:=hg0.size
 have s1:=hg1.size
 have s2:=hg2.size
 have s3:=hg3.size
 refine⟨fun k=>w2.heap.size≤k∧k<w3.heap.size,⟨⟨fun k=>w3.heap.size≤k∧k<w4.heap.size,?_,?_,fun k hk=>⟨hk.2,fun e=>by omega⟩⟩,fun k hk=>by omega,grown_trans (grown_trans (grown_trans hg0 hg1) hg2) hg3⟩,(hU.mono fun k hk hb=>⟨hb,hk⟩).grown hg3,fun k hk=>by omega⟩
 ·exact((hA.mono (cs:=fun k=>w.heap.size≤k∧¬(w2.heap.size≤k∧k<w3.heap.size)∧¬(w3.heap.size≤k∧k<w4.heap.size)) fun k hk hb=>⟨by omega,fun e=>by omega,fun e=>by omega⟩).grown hg2).grown hg3
 ·exact hR.mono fun k hk hb=>⟨by omega,hb,hk⟩
theorem kept_new (N K:Nat) (w:Int) (hK:clampW N w=K) (bs:Nat→Prop) {W:World} {tb:Nat} (hA:At bs W tb (newT N w 0).norm):Kept N K 0 (newT N w 0).norm (rnew N (clampW N w)):=
 ⟨⟨inv_new N w K hK,sim_new N w,rnew_b N _⟩,rng_new N w,tidy_new N w,hA.nod⟩
theorem encT_long (L:Tab):4≤(encT L).length:=by
 unfold encT
 simp only[List.length_append,e2_len]
 omega
theorem enc_row {w:World} {base:Nat} {v:Value} {L:Tab} (h:w.ownsRow base 5 1 v (encT L).length (bytesV (encT L))):∃g cap cur,v = .slice (some ⟨g,0,none⟩) (encT L).length cap∧base≤g∧w.heap[g]? = some (.cells cur 5 (0,0))∧(encT L).length≤cap∧cap≤maxLen∧cur.size=cap:=by
 rcases h.2 with ⟨_,h0⟩|⟨g,cap,cur,e1,e2,e3,e4,e5,e6,_⟩
 ·have:=encT_long L;omega
 ·exact⟨g,cap,cur,e1,e2,e3,e4,e5,by omega⟩
set_option maxHeartbeats 16000000 in
set_option maxRecDepth 100000 in
theorem bytes_law (a b at8:Nat) (ha:a≤255) (hb:b≤255) (hat:at8≤255) (v vb:Value) (l:List Cmd) (lb:List Int) (w:World) (h:CmdRow w w.heap.size v l) (hvb:BRow w.heap.size w vb lb) (hlb:BL lb) :
  Calls Tryz.prog 8 #[.int .u8 a,.int .u8 b,v,.int .u8 at8,vb] w fun e w'=>e = .returned (.bool true)∧w.grownBy w' none:=by
 obtain⟨n,hn⟩:∃n:Nat,n=a%14:=⟨_,rfl⟩
 obtain⟨k,hk⟩:∃k:Nat,k=b%14:=⟨_,rfl⟩
 obtain⟨q,hq⟩:∃q:Nat,q=at8%80:=⟨_,rfl⟩
 have hn14:n<14:=by omega
 have hk14:k<14:=by omega
 have hq80:q<80:=by omega
 have e1:(a:Int)%14=(n:Int):=by omega
 have e2:(b:Int)%14=(k:Int):=by omega
 have e3:(at8:Int)%80=(q:Int):=by omega
 obtain⟨N,hN⟩:∃N:Nat,(N:Int)=clampN n:=⟨(clampN n).toNat,by unfold clampN;split <;> (try split) <;> omega⟩
 have hN1:1≤N∧N≤13:=by unfold clampN at hN;split at hN <;> (try split at hN) <;> omega
 obtain⟨K,hK⟩:∃K:Nat,clampW N k=K:=⟨(clampW N k).toNat,by unfold clampW;split <;> (try split) <;> omega⟩
 have hK1:1≤K∧K≤N:=by unfold clampW at hK;split at hK <;> (try split at hK) <;> omega
 have HCN:Hid (clampN N=N∧clampW N K=K):=(show _∧_ from ⟨by unfold clampN;(repeat' split) <;> omega,by unfold clampW;(repeat' split) <;> omega⟩)
 have HNW:Hid (∀W,w.grownBy W none→Calls Tryz.prog 30 #[.int .i64 n,.int .i64 k] W fun e w'=>∃tb,e = .returned (.pointer (some ⟨tb,0,none⟩))∧At (fun k=>W.heap.size≤k) w' tb (newT N k 0).norm∧W.grownBy w' none):=(fun W hg=>
  (new_at (bs:=fun k=>W.heap.size≤k) n k N hN W (fun _ h=>h)).mono fun e w' ⟨tb,h1,h2,h3,h4⟩=>⟨tb,h1,h3,h4⟩)
 have HRW:Hid (∀W,Calls Tryz.prog 38 #[.int .i64 n,.int .i64 k] W fun e w'=>∃rb,e = .returned (.pointer (some ⟨rb,0,none⟩))∧RAt (fun k=>W.heap.size≤k) w' rb (rnew N (clampW N k))∧W.grownBy w' none):=(show ∀_,_ from fun W=>rnew_any n k N hN W (fun k=>W.heap.size≤k) (fun _ h=>h))
 have HKN:Hid (∀(bs:Nat→Prop) (W:World) (tb:Nat),At bs W tb (newT N k 0).norm→Kept N K 0 (newT N k 0).norm (rnew N (clampW N k))):=(fun bs W tb hA=>kept_new N K k hK bs hA)
 have HLG:Hid (Calls Tryz.prog 29 #[v] w fun e w'=>∃r,e = .returned (.bool r)∧w.grownBy w' none∧(r=false→l.length≤80)):=large_any v l _ w h
 have HV:=Lib.hid h
 have HVB:=Lib.hid hvb
 have HLB:=Lib.hid hlb
 obtain⟨pb,cb,rfl,-⟩:=hvb.ex
 have HB:Hid (N≤13∧K≤13):=(show _∧_ from ⟨hN1.2,by omega⟩)
 clear hN hK hN1 hK1 hn hk hq h hvb hlb
 by_cases hlen:2000<lb.length
 ·have hlI:(2000:Int)<lb.length:=by omega
  go_enter Tryz.func8,Tryz.ntmps8
  go_wp2_with (first
   | (go_at_call 29;refine HLG.out.mono ?_;rintro e w1 ⟨r,rfl,hg,hr⟩;have HG:=Lib.hid hg;clear hg hr HLG;cases r)
   | (go_at_call 10;refine(works_any _).mono ?_;rintro e w2 ⟨rfl,hg⟩;have HG2:=Lib.hid hg;clear hg))
  all_goals
   go_ret
   exact⟨rfl,grown_trans HG.out HG2.out⟩
 have hlI:¬(2000:Int)<lb.length:=by omega
 have HLN:Hid (lb.length≤2000):=(show _≤_ from by omega)
 clear hlen
 go_enter Tryz.func8,Tryz.ntmps8
 go_wp2_with (first
  | (go_at_call 29;refine HLG.out.mono ?_;rintro e w1 ⟨r,rfl,hg,hr⟩;have HG:=Lib.hid hg;have HR:=Lib.hid hr;clear hg hr HLG;cases r)
  | (go_at_call 10;refine(works_any _).mono ?_;rintro e w2 ⟨rfl,hg⟩;have HG2:=Lib.hid hg;clear hg)
  | (go_at_call 30;refine(HNW.out _ HG.out).mono ?_;rintro e w2 ⟨tb,rfl,hA,hg⟩;have HA:=Lib.hid hA;have HG2:=Lib.hid hg;clear hA hg)
  | (go_at_call 30;refine(HNW.out _ (grown_trans HG.out HG2.out)).mono ?_;rintro e w3 ⟨ub,rfl,hA,hg⟩;have HAU:=Lib.hid hA;have HG3:=Lib.hid hg;clear hA hg)
  | (go_at_call 38;refine(HRW.out _).mono ?_;rintro e w4 ⟨rb,rfl,hA,hg⟩;have HRA:=Lib.hid hA;have HG4:=Lib.hid hg;clear hA hg))
 rotate_left
 ·go_ret
  exact⟨rfl,grown_trans HG.out HG2.out⟩
 have hl80:=HR.out trivial
 obtain⟨own0,hT0⟩:=trio_new HG.out HA.out HG2.out HAU.out HG3.out HRA.out HG4.out
 have HT0:=Lib.hid hT0
 have HK0:=Lib.hid (HKN.out _ _ _ HA.out)
 clear hT0 HA HG HG2 HNW HR HRA HG3 HRW HG4 HAU HKN
 obtain⟨p,cap,rfl,hlen2,hks,hrow⟩:=HV.out
 have HROW:=Lib.hid hrow
 have HKS:=Lib.hid hks
 clear HV hrow hks hlen2
 have HD:Hid (∀i c,i<l.length→l.getD i wkD=c→(c.key.size:Int)≤9223372036854775807):=(fun i c hi hc=>HKS.out c (by rw[←hc];simp only[List.getD_eq_getElem?_getD,List.getElem?_eq_getElem hi,Option.getD_some];exact List.getElem_mem hi))
 clear HKS
 generalize hm:l.length=m at *
 generalize (newT N k 0).norm=L0 at *
 generalize rnew N (clampW N k)=R0 at *
 go_loopw [13,16] (fun s i wr=>∃(j:Nat) (own:Nat→Prop) (tb:Nat) (L U:Tab) (R:RTab),j≤m∧s = .pointer (some ⟨tb,0,none⟩)∧i = .int .i64 j∧Trio w own tb ub rb L U R wr∧Kept N K j L R∧Kept N K j U R) (fun _ i _=>m-(intOf i).toNat)
 case atStart=>exact⟨0,own0,tb,L0,L0,R0,Nat.zero_le _,rfl,rfl,HT0.out,HK0.out,HK0.out⟩
 case round=>
  clear HT0 HK0
  obtain⟨j,own,tb,L,U,R,hj,rfl,rfl,hTr,hKL,hKU⟩:=hrel
  rcases Nat.lt_or_ge j m with hlt|hge
  ·rcases HROW.out with h0|⟨b,off,rfl,hb,hc⟩
   ·subst h0;simp at hm;omega
   ·have HJ:=Lib.hid hlt
    have HTR:=Lib.hid hTr
    have HKL:=Lib.hid hKL
    have HKU:=Lib.hid hKU
    clear hTr hKL hKU
    have HHC:=Lib.hid hc
    clear hc
    go_upto_if 56 with fail
    go_cut [13] (fun s wx=>∃(tb:Nat) (L:Tab),s = .pointer (some ⟨tb,0,none⟩)∧Trio w own tb ub rb L U R wx∧Kept N K j L R)
    case first=>
     by_cases hjq:j=q
     ·subst hjq
      have HE:Hid (encT L=encT U):=(show _=_ from HKL.out.same HKU.out)
      have HFT:=Lib.hid (HKL.out.fit (by omega) HB.out.1 HCN.out.1 HCN.out.2).1
      have HFU:=Lib.hid (HKU.out.fit (by omega) HB.out.1 HCN.out.1 HCN.out.2).1
      have HAG:=Lib.hid (HKL.out.again (by omega) HB.out.1 HCN.out.1 HCN.out.2)
      have HFR:=Lib.hid (fun (W:World) (v:Value) (hv:BRow W.heap.size W v (encT L))=>from_told HKL.out (by omega) HB.out.1 HCN.out.1 HCN.out.2 hv)
      go_upto_region 10 with (go_at_call 40;refine(HTR.out.bytesT HFT.out).mono ?_;rintro e w8 ⟨vx,rfl,ho,hg⟩;obtain⟨g,capx,cur,rfl,hge,hgb,hle,hcm,hcs⟩:=enc_row ho;have HX:=Lib.hid (HTR.out.fresh hg g hge (lt_of_some hgb));have HBX:=Lib.hid (brow_of_row ho);have HGB:=Lib.hid (And.intro hgb (And.intro hle hcs));clear ho hg hge hgb hle hcm hcs)
      go_upto_region 11 with (go_at_call 41;refine(HFR.out _ _ HBX.out).mono ?_;rintro e w9 ⟨tb9,rfl,hA,hg⟩;have HX9:=Lib.hid (HX.out.swap hg hA);have HBX9:=Lib.hid (HBX.out.later (Nat.le_refl _) hg);have HGB9:=Lib.hid (And.intro ((hg.block g (lt_of_some HGB.out.1) (by simp)).trans HGB.out.1) HGB.out.2);clear hA hg)
      have HBY:Hid (∀W',w9.grownBy W' none→Calls Tryz.prog 40 #[.pointer (some ⟨tb9,0,none⟩)] W' fun e w'=>∃v,e = .returned v∧w'.ownsRow W'.heap.size 5 1 v (encT L).length (bytesV (encT L))∧W'.grownBy w' none):=(show ∀_,_ from fun W' hg=>by have h1:=(HX9.out.less.grown hg).bytesT (HAG.out.2.2.2 _ HAG.out.1);rw[HAG.out.2.1] at h1;exact h1)
      have HBU:Hid (∀W',w9.grownBy W' none→Calls Tryz.prog 40 #[.pointer (some ⟨ub,0,none⟩)] W' fun e w'=>∃v,e = .returned v∧w'.ownsRow W'.heap.size 5 1 v (encT L).length (bytesV (encT L))∧W'.grownBy w' none):=(show ∀_,_ from fun W' hg=>by rw[HE.out];exact bytes_at (HX9.out.less.grown hg).u HFU.out)
      have HKC:=Lib.hid HAG.out.2.2.1
      clear HFR HX HBX HGB HAG HFT HFU HE
      generalize encT L=EL at *
      have hnq:(ofB EL != ofB EL)=false:=by simp[bne,bytes_beq_self]
      have hS0:(fun w':World=>w9.grownBy w' none) w9.drew:=grown_drew (grown_refl _)
      dsimp only at hS0
      refine wp_region_held_drew (S:=fun w':World=>w9.grownBy w' none) (by kernel_rfl) hS0 (fun hHeld=>?_)
      clear hS0
      refine tg 0 ?_ hHeld ?_ ?_ rfl (by kernel_rfl) rfl fun _ _ _ h=>h
      rotate_left
      ·rintro w s1;go_simp;try with_reducible rfl
      (try simp only[Act.put,pA,pB,pC])
      refine tg 1 ?_ hHeld ?_ ?_ rfl (by kernel_rfl) rfl fun _ _ _ h=>h
      rotate_left
      ·rintro w s1;go_simp;try with_reducible rfl
      (try simp only[Act.put,pA,pB,pC])
      refine tg 2 ?_ hHeld ?_ ?_ rfl (by kernel_rfl) rfl fun _ _ _ h=>h
      rotate_left
      ·rintro w s1;go_simp;try with_reducible rfl
      (try simp only[Act.put,pA,pB,pC])
      refine tg 3 ?_ hHeld ?_ ?_ rfl (by kernel_rfl) rfl fun _ _ _ h=>h
      rotate_left
      ·rintro w s1;go_simp;try with_reducible rfl
      (try simp only[Act.put,pA,pB,pC])
      refine tg 6 ?_ hHeld ?_ ?_ rfl (by kernel_rfl) rfl fun _ _ _ h=>h
      rotate_left
      ·rintro w s1;go_simp;try with_reducible rfl
      (try simp only[Act.put,pA,pB,pC])
      refine tg 7 ?_ hHeld ?_ ?_ rfl (by kernel_rfl) rfl fun _ _ _ h=>h
      rotate_left
      ·intro w hSw;(try dsimp only at hSw);go_simp;rw[conv_bytes (HBX9.out.turn fun k hk=>World.grownBy.block hSw k hk (by simp))];rfl
      (try simp only[Act.put,pA,pB,pC])
      refine rdy 4 (fun K hK=>?_) rfl (by kernel_rfl)
      go_simp
      refine(HBY.out _ hHeld).mono ?_
      rintro e wby ⟨vy,rfl,ho,hg⟩
      obtain⟨py,cy,rfl⟩:=row_slice ho
      have HRy:=Lib.hid (brow_of_row ho)
      have HGy:=Lib.hid hg
      clear ho hg
      refine hK.out _ _ (grown_trans hHeld HGy.out) (fun hHeld=>?_)
      clear hK K
      (try simp only[Act.put,pA,pB,pC])
      refine rdy 5 (fun K hK=>?_) rfl (by kernel_rfl)
      go_simp
      rw[conv_bytes HRy.out]
      simp only[Result.andThen]
      rw[Oper.upon_value]
      refine hK.out _ _ (hHeld) (fun hHeld=>?_)
      clear hK K
      (try simp only[Act.put,pA,pB,pC])
      refine rdy 8 (fun K hK=>?_) rfl (by kernel_rfl)
      go_simp
      refine hK.out _ _ hHeld (fun hHeld=>?_)
      clear hK K
      (try simp only[Act.put,pA,pB,pC])
      refine rdy 9 (fun K hK=>?_) rfl (by kernel_rfl)
      go_simp
      refine hK.out _ _ hHeld (fun hHeld=>?_)
      clear hK K
      (try simp only[Act.put,pA,pB,pC])
      refine rdy 10 (fun K hK=>?_) rfl (by kernel_rfl)
      go_simp
      refine hK.out _ _ hHeld (fun hHeld=>?_)
      clear hK K
      (try simp only[Act.put,pA,pB,pC])
      refine tg 11 ?_ hHeld ?_ ?_ rfl (by kernel_rfl) rfl fun _ _ _ h=>h
      rotate_left
      ·rintro w s1;go_simp;try with_reducible rfl
      (try simp only[Act.put,pA,pB,pC])
      refine tg 14 ?_ hHeld ?_ ?_ rfl (by kernel_rfl) rfl fun _ _ _ h=>h
      rotate_left
      ·rintro w s1;go_simp;try with_reducible rfl
      (try simp only[Act.put,pA,pB,pC])
      refine tg 15 ?_ hHeld ?_ ?_ rfl (by kernel_rfl) rfl fun _ _ _ h=>h
      rotate_left
      ·intro w hSw;(try dsimp only at hSw);go_simp;rw[conv_bytes (HBX9.out.turn fun k hk=>World.grownBy.block hSw k hk (by simp))];rfl
      (try simp only[Act.put,pA,pB,pC])
      refine rdy 12 (fun K hK=>?_) rfl (by kernel_rfl)
      go_simp
      refine(HBU.out _ hHeld).mono ?_
      rintro e wbu ⟨vu,rfl,ho,hg⟩
      obtain⟨pu,cu,rfl⟩:=row_slice ho
      have HRu:=Lib.hid (brow_of_row ho)
      have HGu:=Lib.hid hg
      clear ho hg
      refine hK.out _ _ (grown_trans hHeld HGu.out) (fun hHeld=>?_)
      clear hK K
      (try simp only[Act.put,pA,pB,pC])
      refine rdy 13 (fun K hK=>?_) rfl (by kernel_rfl)
      go_simp
      rw[conv_bytes HRu.out]
      simp only[Result.andThen]
      rw[Oper.upon_value]
      refine hK.out _ _ (hHeld) (fun hHeld=>?_)
      clear hK K
      (try simp only[Act.put,pA,pB,pC])
      refine rdy 16 (fun K hK=>?_) rfl (by kernel_rfl)
      go_simp
      refine hK.out _ _ hHeld (fun hHeld=>?_)
      clear hK K
      (try simp only[Act.put,pA,pB,pC])
      refine rdy 17 (fun K hK=>?_) rfl (by kernel_rfl)
      go_simp
      refine hK.out _ _ hHeld (fun hHeld=>?_)
      clear hK K
      (try simp only[Act.put,pA,pB,pC])
      refine wpAnyH_done (by kernel_rfl) ?_ _
      have HX11:=Lib.hid (HX9.out.grown hHeld)
      have HGB11:=Lib.hid (And.intro ((hHeld.block g (lt_of_some HGB9.out.1) (by simp)).trans HGB9.out.1) HGB9.out.2)
      have hci:(EL.length:Int)≤9223372036854775807:=by have:=HBX9.out.cells;obtain⟨_,_,e0,h1,h2,_⟩:=this;omega
      clear HBY HBU HX9 HGB9 HBX9 hHeld hnq
      go_wp2
      go_loopw [20] (fun s wi=>∃(i:Nat) (cur':Array Value),i≤EL.length∧s = .int .i64 i∧wi.heap[g]? = some (.cells cur' 5 (0,0))∧EL.length≤cur'.size∧TrioX w own tb9 ub rb g (canon L) U R wi) (fun s _=>EL.length-(intOf s).toNat)
      case atStart=>exact⟨0,cur,Nat.zero_le _,rfl,HGB11.out.1,by have h1:=HGB11.out.2;omega,HX11.out⟩
      case round=>
       clear HX11 HGB11
       obtain⟨i,cur',hi,rfl,hgb,hsz,hx⟩:=hrel
       have HXi:=Lib.hid hx
       clear hx
       by_cases hil:i<EL.length
       ·have x0:wr.cell? ⟨g,i,none⟩=some (cur'[i]'(by omega)):=by simp[World.cell?,hgb,show i<cur'.size by omega]
        have z0:wr.frozen? ⟨g,i,none⟩=false:=free_block hgb i
        have HGBi:=Lib.hid hgb
        clear hgb
        generalize cur'[i]'(by omega)=xv at *
        go_wp2
        go_roundw
        case rel=>exact⟨i+1,cur'.setIfInBounds i (.int .u8 0),by omega,by go_num,by have h1:=HGBi.out;simp[World.setCell,Array.getElem?_modify,h1],by simpa using hsz,HXi.out.turn (turn_set _ _ _ _)⟩
        case measure=>simp[intOf];omega
       ·obtain rfl:i=EL.length:=by omega
        go_wp2
        go_meet
        exact⟨tb9,canon L,rfl,HXi.out.less,HKC.out⟩
     ·have hjI:¬(j:Int)=q:=by omega
      go_wp2
      go_meet
      exact⟨tb,L,rfl,HTR.out,HKL.out⟩
    case rest=>
     obtain⟨tb,L,rfl,hTr,hKL⟩:=hcut
     have hcell:=HHC.out j hlt
     have hk:=HD.out j _ (by omega) rfl
     have HHK:=Lib.hid hcell
     generalize l.getD j wkD=c at *
     obtain⟨kind,node,client,inc,req,ver,key,code⟩:=c
     have c0:=hTr.duo.base.cell (hcell 0 _ rfl) (by simp)
     have c1:=hTr.duo.base.cell (hcell 1 _ rfl) (by simp)
     have c2:=hTr.duo.base.cell (hcell 2 _ rfl) (by simp)
     have c3:=hTr.duo.base.cell (hcell 3 _ rfl) (by simp)
     have c4:=hTr.duo.base.cell (hcell 4 _ rfl) (by simp)
     have c5:=hTr.duo.base.cell (hcell 5 _ rfl) (by simp)
     have c6:=hTr.duo.base.cell (hcell 6 _ rfl) (by simp)
     have c7:=hTr.duo.base.cell (hcell 7 _ rfl) (by simp)
     simp only[Nat.add_zero] at c0 c1 c2 c3 c4 c5 c6 c7
     have HT1:=Lib.hid hTr
     have HKL1:=Lib.hid hKL
     have hx:=hKL.both.sim.s0.next
     clear hTr hKL hcell HTR HKL
     generalize wc=wd at *
     have HUX:Hid (U.offers<1000000∧U.next<1000000):=(show _∧_ from by
      have g1:=HKU.out.both.sim.s0.next
      have g2:=HKU.out.both.sim.s0.offers
      have g3:=HKU.out.both.rb.o1
      have g4:=HKU.out.both.rb.x1
      exact⟨by omega,by omega⟩)
     have HDU:Hid (Calls Tryz.prog 22 #[.pointer (some ⟨ub,0,none⟩),.agg #[.int .u8 kind,.int .i64 node,.int .i64 client,.int .i64 inc,.int .i64 req,.int .i64 ver,.string key,.int .i64 code]] wd fun e w'=>(∃z,e = .returned (.int .i64 z))∧∃own',Trio w own' tb ub rb L (actT U ⟨kind,node,client,inc,req,ver,key,code⟩) R w'):=(show Calls _ _ _ _ _ from HT1.out.doU HKU.out.both.inv (by have:=HB.out;omega) HUX.out.1 HUX.out.2 ⟨kind,node,client,inc,req,ver,key,code⟩ hk)
     go_upto_region 19 with (go_at_call 22;refine HDU.out.mono ?_;rintro e w5 ⟨⟨z,rfl⟩,own5,hT5⟩;have HT5:=Lib.hid hT5;clear hT5)
     clear c0 c1 c2 c3 c4 c5 c6 c7 HDU HUX
     have hTr:=HT5.out
     have hcell:=HHK.out
     have c0:=hTr.duo.base.cell (hcell 0 _ rfl) (by simp)
     have c1:=hTr.duo.base.cell (hcell 1 _ rfl) (by simp)
     have c2:=hTr.duo.base.cell (hcell 2 _ rfl) (by simp)
     have c3:=hTr.duo.base.cell (hcell 3 _ rfl) (by simp)
     have c4:=hTr.duo.base.cell (hcell 4 _ rfl) (by simp)
     have c5:=hTr.duo.base.cell (hcell 5 _ rfl) (by simp)
     have c6:=hTr.duo.base.cell (hcell 6 _ rfl) (by simp)
     have c7:=hTr.duo.base.cell (hcell 7 _ rfl) (by simp)
     simp only[Nat.add_zero] at c0 c1 c2 c3 c4 c5 c6 c7
     clear hTr hcell
     go_wp2_with (go_at_call 39;refine(HT5.out.play HKL1.out.both (by have:=HB.out;omega) (by have:=HB.out;omega) (by omega) kind node client inc req ver key code hk).mono ?_;rintro e w6 ⟨rfl,hT6⟩;have HT6:=Lib.hid hT6;clear hT6)
     go_roundw
     case rel=>
      obtain⟨bs,hA⟩:=HT6.out.duo.atT
      exact⟨j+1,own5,tb,_,_,_,by omega,rfl,by go_num,HT6.out,HKL1.out.act (by omega) hA.nod,HKU.out.act (by omega) HT6.out.u.nod⟩
     case measure=>simp[intOf];omega
  ·obtain rfl:j=m:=by omega
   have HTR:=Lib.hid hTr
   have HKL:=Lib.hid hKL
   have HKU:=Lib.hid hKU
   clear hTr hKL hKU
   have HE:Hid (encT L=encT U):=(show _=_ from HKL.out.same HKU.out)
   have HFT:=Lib.hid (HKL.out.fit (by omega) HB.out.1 HCN.out.1 HCN.out.2).1
   have HFU:=Lib.hid (HKU.out.fit (by omega) HB.out.1 HCN.out.1 HCN.out.2).1
   have HBU:Hid (∀W',wr.grownBy W' none→Calls Tryz.prog 40 #[.pointer (some ⟨ub,0,none⟩)] W' fun e w'=>∃v,e = .returned v∧w'.ownsRow W'.heap.size 5 1 v (encT L).length (bytesV (encT L))∧W'.grownBy w' none):=(show ∀_,_ from fun W' hg=>by rw[HE.out];exact bytes_at (HTR.out.grown hg).u HFU.out)
   go_upto_region 21 with fail
   go_cut [112] (fun s wx=>s = .bool false∧wr.grownBy wx none)
   case first=>
    have hS0:(fun w':World=>wr.grownBy w' none) wr.drew:=grown_drew (grown_refl _)
    dsimp only at hS0
    refine wp_region_held_drew (S:=fun w':World=>wr.grownBy w' none) (by kernel_rfl) hS0 (fun hHeld=>?_)
    clear hS0
    refine tg 0 ?_ hHeld ?_ ?_ rfl (by kernel_rfl) rfl fun _ _ _ h=>h
    rotate_left
    ·rintro w s1;go_simp;try with_reducible rfl
    (try simp only[Act.put,pA,pB,pC])
    refine tg 3 ?_ hHeld ?_ ?_ rfl (by kernel_rfl) rfl fun _ _ _ h=>h
    rotate_left
    ·rintro w s1;go_simp;try with_reducible rfl
    (try simp only[Act.put,pA,pB,pC])
    refine rdy 1 (fun K hK=>?_) rfl (by kernel_rfl)
    go_simp
    refine((HTR.out.grown hHeld).bytesT HFT.out).mono ?_
    rintro e wba ⟨va,rfl,ho,hg⟩
    obtain⟨pa,ca,rfl⟩:=row_slice ho
    have HRa:=Lib.hid (brow_of_row ho)
    have HGa:=Lib.hid hg
    clear ho hg
    refine hK.out _ _ (grown_trans hHeld HGa.out) (fun hHeld=>?_)
    clear hK K
    (try simp only[Act.put,pA,pB,pC])
    have HWa:=Lib.hid hHeld
    generalize encT L=EL at *
    have hnq:(ofB EL != ofB EL)=false:=by simp[bne,bytes_beq_self]
    refine wpAnyH_ready (rs:=[2,4]) (by kernel_rfl) (by simp) ?_
    refine AllReadyH.cons (o := { dst := some 108, op := Op.convert 25 9 (Operand.tmp 107), type := 9, pos := "law.go:178", after := #[{ on := 1, ground := Ground.data }], guard := none }) rfl (fun K hK => ?_) (AllReadyH.cons (o := { dst := some 110, op := Op.call { callee := Callee.value (Operand.func 40), args := #[Operand.tmp 109], argTypes := #[38] }, type := 25, pos := "law.go:178", after := #[{ on := 3, ground := Ground.data }, { on := 1, ground := Ground.chain }], guard := none }) rfl (fun K hK => ?_) (AllReadyH.nil))
    ·go_simp
     rw[conv_bytes HRa.out]
     simp only[Result.andThen]
     rw[Oper.upon_value]
     refine hK.out _ _ (hHeld) (fun hHeld=>?_)
     clear hK K
     (try simp only[Act.put,pA,pB,pC])
     refine rdy 4 (fun K hK=>?_) rfl (by kernel_rfl)
     go_simp
     refine(HBU.out _ hHeld).mono ?_
     rintro e wbb ⟨vb,rfl,ho,hg⟩
     obtain⟨pb,cb,rfl⟩:=row_slice ho
     have HRb:=Lib.hid (brow_of_row ho)
     have HGb:=Lib.hid hg
     clear ho hg
     refine hK.out _ _ (grown_trans hHeld HGb.out) (fun hHeld=>?_)
     clear hK K
     (try simp only[Act.put,pA,pB,pC])
     refine rdy 5 (fun K hK=>?_) rfl (by kernel_rfl)
     go_simp
     rw[conv_bytes HRb.out]
     simp only[Result.andThen]
     rw[Oper.upon_value]
     refine hK.out _ _ (hHeld) (fun hHeld=>?_)
     clear hK K
     (try simp only[Act.put,pA,pB,pC])
     refine rdy 6 (fun K hK=>?_) rfl (by kernel_rfl)
     go_simp
     refine hK.out _ _ hHeld (fun hHeld=>?_)
     clear hK K
     (try simp only[Act.put,pA,pB,pC])
     refine wpAnyH_done (by kernel_rfl) ?_ _
     go_wp2_with fail
     go_meet
     exact⟨by first|rfl|rw[hnq],hHeld⟩
    ·go_simp
     refine(HBU.out _ hHeld).mono ?_
     rintro e wbb ⟨vb,rfl,ho,hg⟩
     obtain⟨pb,cb,rfl⟩:=row_slice ho
     have HRb:=Lib.hid (brow_of_row ho)
     have HGb:=Lib.hid hg
     clear ho hg
     refine hK.out _ _ (grown_trans hHeld HGb.out) (fun hHeld=>?_)
     clear hK K
     (try simp only[Act.put,pA,pB,pC])
     refine wpAnyH_ready (rs:=[2,5]) (by kernel_rfl) (by simp) ?_
     refine AllReadyH.cons (o := { dst := some 108, op := Op.convert 25 9 (Operand.tmp 107), type := 9, pos := "law.go:178", after := #[{ on := 1, ground := Ground.data }], guard := none }) rfl (fun K hK => ?_) (AllReadyH.cons (o := { dst := some 111, op := Op.convert 25 9 (Operand.tmp 110), type := 9, pos := "law.go:178", after := #[{ on := 4, ground := Ground.data }], guard := none }) rfl (fun K hK => ?_) (AllReadyH.nil))
     ·go_simp
      rw[conv_bytes (HRa.out.turn fun k hk=>HGb.out.block k hk (by simp))]
      simp only[Result.andThen]
      rw[Oper.upon_value]
      refine hK.out _ _ (hHeld) (fun hHeld=>?_)
      clear hK K
      (try simp only[Act.put,pA,pB,pC])
      refine rdy 5 (fun K hK=>?_) rfl (by kernel_rfl)
      go_simp
      rw[conv_bytes HRb.out]
      simp only[Result.andThen]
      rw[Oper.upon_value]
      refine hK.out _ _ (hHeld) (fun hHeld=>?_)
      clear hK K
      (try simp only[Act.put,pA,pB,pC])
      refine rdy 6 (fun K hK=>?_) rfl (by kernel_rfl)
      go_simp
      refine hK.out _ _ hHeld (fun hHeld=>?_)
      clear hK K
      (try simp only[Act.put,pA,pB,pC])
      refine wpAnyH_done (by kernel_rfl) ?_ _
      go_wp2_with fail
      go_meet
      exact⟨by first|rfl|rw[hnq],hHeld⟩
     ·go_simp
      rw[conv_bytes HRb.out]
      simp only[Result.andThen]
      rw[Oper.upon_value]
      refine hK.out _ _ (hHeld) (fun hHeld=>?_)
      clear hK K
      (try simp only[Act.put,pA,pB,pC])
      refine rdy 2 (fun K hK=>?_) rfl (by kernel_rfl)
      go_simp
      rw[conv_bytes (HRa.out.turn fun k hk=>HGb.out.block k hk (by simp))]
      simp only[Result.andThen]
      rw[Oper.upon_value]
      refine hK.out _ _ (hHeld) (fun hHeld=>?_)
      clear hK K
      (try simp only[Act.put,pA,pB,pC])
      refine rdy 6 (fun K hK=>?_) rfl (by kernel_rfl)
      go_simp
      refine hK.out _ _ hHeld (fun hHeld=>?_)
      clear hK K
      (try simp only[Act.put,pA,pB,pC])
      refine wpAnyH_done (by kernel_rfl) ?_ _
      go_wp2_with fail
      go_meet
      exact⟨by first|rfl|rw[hnq],hHeld⟩
   case rest=>
    obtain⟨rfl,hg6⟩:=hcut
    have HG6:=Lib.hid (grown_trans HTR.out.duo.base hg6)
    have HB6:=Lib.hid (HVB.out.later (Nat.le_refl _) HG6.out)
    have HFB:=Lib.hid (from_any HB6.out HLB.out (fun L' e'=>tfit_dec HLB.out (Nat.le_trans HLN.out (by decide)) e'))
    generalize wc=w6 at *
    go_upto_region 24 with (go_at_call 41;refine HFB.out.mono ?_;rintro e w7 ⟨hg7,⟨tb7,T7,rfl,h1,h2,h3,h4⟩|⟨rfl,h1⟩⟩ <;> first
     | (have HG7:=Lib.hid hg7;have HT7:=Lib.hid h3;have HE7:=Lib.hid h2;have HF7:=Lib.hid (tfit_dec HLB.out (Nat.le_trans HLN.out (by decide)) h1).of_norm;clear h1 h2 h3 h4 hg7)
     | (have HG7:=Lib.hid hg7;clear hg7 h1))
    ·go_upto_region 26 with fail
     have HB7:=Lib.hid (HB6.out.later (Nat.le_refl _) HG7.out)
     have hS0:(fun w':World=>w7.grownBy w' none) w7.drew:=grown_drew (grown_refl _)
     dsimp only at hS0
     refine wp_region_held_drew (S:=fun w':World=>w7.grownBy w' none) (by kernel_rfl) hS0 (fun hHeld=>?_)
     clear hS0
     refine tg 0 ?_ hHeld ?_ ?_ rfl (by kernel_rfl) rfl fun _ _ _ h=>h
     rotate_left
     ·rintro w s1;go_simp;try with_reducible rfl
     (try simp only[Act.put,pA,pB,pC])
     refine tg 3 ?_ hHeld ?_ ?_ rfl (by kernel_rfl) rfl fun _ _ _ h=>h
     rotate_left
     ·rintro w s1;go_simp;try with_reducible rfl
     (try simp only[Act.put,pA,pB,pC])
     refine tg 4 ?_ hHeld ?_ ?_ rfl (by kernel_rfl) rfl fun _ _ _ h=>h
     rotate_left
     ·intro w hSw;(try dsimp only at hSw);go_simp;rw[conv_bytes (HB7.out.turn fun k hk=>World.grownBy.block hSw k hk (by simp))];rfl
     (try simp only[Act.put,pA,pB,pC])
     refine rdy 1 (fun K hK=>?_) rfl (by kernel_rfl)
     go_simp
     refine(bytes_any (HT7.out.grown hHeld) HF7.out).mono ?_
     rintro e wbz ⟨vz,rfl,ho,hg⟩
     obtain⟨pz,cz,rfl⟩:=row_slice ho
     have HRz:=Lib.hid (brow_of_row ho)
     have HGz:=Lib.hid hg
     clear ho hg
     refine hK.out _ _ (grown_trans hHeld HGz.out) (fun hHeld=>?_)
     clear hK K
     (try simp only[Act.put,pA,pB,pC])
     have HZ:Hid (encT T7=lb):=(show _=_ from by rw[←encT_norm];exact HE7.out)
     rw[HZ.out] at HRz
     rw[HZ.out]
     have hzq:(ofB lb == ofB lb)=true:=bytes_beq_self _
     refine rdy 2 (fun K hK=>?_) rfl (by kernel_rfl)
     go_simp
     rw[conv_bytes HRz.out]
     simp only[Result.andThen]
     rw[Oper.upon_value]
     refine hK.out _ _ (hHeld) (fun hHeld=>?_)
     clear hK K
     (try simp only[Act.put,pA,pB,pC])
     refine rdy 5 (fun K hK=>?_) rfl (by kernel_rfl)
     go_simp
     refine hK.out _ _ hHeld (fun hHeld=>?_)
     clear hK K
     (try simp only[Act.put,pA,pB,pC])
     refine rdy 6 (fun K hK=>?_) rfl (by kernel_rfl)
     go_simp
     refine hK.out _ _ hHeld (fun hHeld=>?_)
     clear hK K
     (try simp only[Act.put,pA,pB,pC])
     refine rdy 7 (fun K hK=>?_) rfl (by kernel_rfl)
     go_simp
     refine(works_any _).mono ?_
     rintro e w9 ⟨rfl,hg9⟩
     refine hK.out _ _ (grown_trans hHeld hg9) (fun hHeld=>?_)
     clear hK K
     (try simp only[Act.put,pA,pB,pC])
     refine rdy 8 (fun K hK=>?_) rfl (by kernel_rfl)
     go_simp
     refine hK.out _ _ hHeld (fun hHeld=>?_)
     clear hK K
     (try simp only[Act.put,pA,pB,pC])
     refine rdy 9 (fun K hK=>?_) rfl (by kernel_rfl)
     go_simp
     refine hK.out _ _ hHeld (fun hHeld=>?_)
     clear hK K
     (try simp only[Act.put,pA,pB,pC])
     refine wpAnyH_done (by kernel_rfl) ?_ _
     go_wp2
     go_ret
     exact⟨rfl,grown_trans (grown_trans HG6.out HG7.out) hHeld⟩
    ·go_wp2_with (go_at_call 10;refine(works_any _).mono ?_;rintro e w9 ⟨rfl,hg9⟩;have HG9:=Lib.hid hg9;clear hg9)
     go_ret
     exact⟨rfl,grown_trans (grown_trans HG6.out HG7.out) HG9.out⟩
end Go.Proofs.YtjfelfjobeeenaaGreat
namespace Go.Sf
open Go.ChangeShapes Go.WideShapes Go.ChangeAt Go.RowKit
variable {P : Program} {H : Type} {enc : TypeId × Value → H}
theorem post_of_grown {f:Func} {s:ChangeSpec} {apart fresh handsOn again:Bool} {W W':World} {args:Array Value} {v:Value} {ds gs:List (DataW H)} {before pa pv:List MemPlace}
  (hW:DataW.Whole enc P f.params.toList s.vars apart W args.toList ds gs before)
  (hres:∀(b:Nat) (sp:Nat→Bool) (hd:Bool),DataW.TrodAll enc P W' b sp hd f.resultTypes.toList (v.resultList f.resultTypes.size) (s.fn H (ds++gs)).results [])
  (hargs:∀sp:Nat→Bool,(∀p∈before,sp p.block=true)→DataW.TrodAll enc P W' 0 sp true f.params.toList args.toList (s.fn H (ds++gs)).args pa)
  (hvars:∀sp:Nat→Bool,(∀p∈before,sp p.block=true)→DataW.TrodVars enc P W' sp s.vars (s.fn H (ds++gs)).vars pv)
  (hps:before=pa++pv) (hg:W.grownBy W' none)
  (hok:∀(j:Nat) (t:TypeId) (r:Value),f.resultTypes[j]? = some t→(v.resultList f.resultTypes.size)[j]? = some r→Value.okWide P W' .any 0 t r) :
  s.post enc P f apart fresh handsOn again W args v W':=by
 have hold:∀p∈before,(fun b=>decide (b<W.heap.size)) p.block=true:=fun p hp=>by simpa using hW.lt p hp
 have hlt:∀p∈before,p.block<W.heap.size:=fun p hp=>hW.lt p hp
 refine⟨ds,gs,before,[],pa,pv,hW,hres _ _ _,hargs _ hold,hvars _ hold,⟨hg.os,hg.output,fun i hi=>by rw[hg.block i hi (by simp)];exact(World.keptBut_refl W (fun p=>p∈before∧(p∈[]∨p∈pa∨p∈pv))).2.2 i hi⟩,fun _=>?_⟩
 obtain⟨_,_,_,_,_,hz,hn⟩:=hW
 refine⟨hok,_,_,([]++pa)++pv,⟨[]++pa,pv,trodAll_append (hargs _ (fun _ _=>rfl)) (hres _ _ _),hvars _ (fun _ _=>rfl),rfl,?_,?_⟩,?_⟩
 ·intro b off hp
  have hp':MemPlace.cell b off∈before:=by rw[hps];simpa using hp
  rw[World.frozen?_of_block (a:=⟨b,off,none⟩) (hg.block b (hlt _ hp') (by simp))]
  exact hz b off hp'
 ·intro ha
  have:=hn ha
  rw[hps] at this
  simpa using this
 ·intro p hp _
  rw[hps]
  simpa using hp
end Go.Sf
