/- The vault's Put: the walk. Conditions: none, or as the theorems say. -/
import Derived.Test.YtbcbhlfjgobejaaGreatI1
import Derived.Test.YtbcbhlfjgobejaaGreatI34
set_option linter.unusedSimpArgs false
set_option linter.unusedVariables false
namespace Go.Proofs.YtbcbhlfjgobejaaGreat
set_option maxHeartbeats 200000000
open Go.RowKit Go.Sf Go.Shelf
attribute [local go_sem] Oper.semAt_some
section
variable {own own' : Nat → Prop} {W : World} {vb st db mb : Nat} {km : List (VID × KpM)} {vk : Nat → Prop} {V : Vlt}
set_option maxRecDepth 100000 in
theorem vputs (h:VAt own W vb st db mb km vk V) {s:ShM} {pk pr:Option Addr} {ck cr:Nat} (hk:ye own W (.slice pk s.key.length ck) (zi s.key)) (hr:ye own W (.slice pr s.row.length cr) (zi s.row)) (hbl:BL s.key∧BL s.row) (hlen:s.key.length≤1000000∧s.row.length≤1000000) (hv2:s.znm≤9223372036854775807)
  (hf:V.S.d.late.length+600<1000000) (hf2:∀b,(V.S.put b).1.d.late.length<1000000):Calls Tryz.prog 64 #[.pointer (some ⟨vb,0,none⟩),shV pk ck pr cr s] W (VPost own W vb st db mb (V.putS s)):=by
 have HB:Hid (∀w,W.grownBy w none→Calls Tryz.prog 79 #[.pointer (some ⟨vb,0,none⟩)] w fun e w'=>e = .returned (.int .i64 V.broken)∧w'=w):=zd fun w hg=>zew (h.grown hg)
 have H:=zd h
 by_cases hb0:V.broken=0
 ·rw[hb0] at HB
  have HMY:Hid (∀w,Calls Tryz.prog 65 #[.agg #[.slice pk s.key.length ck,.int .i64 s.znm,.int .i64 s.node,.slice pr s.row.length cr]] w fun e w'=>e = .returned (.bool (Xf s.key.length s.znm s.node s.row.length))∧w.grownBy w' none):=zd fun w=>zcf w pk s.key.length ck s.znm s.node pr s.row.length cr
  by_cases hm:Xf s.key.length s.znm s.node s.row.length=true
  ·have HMS:=zd ((Yj s hv2).1 hm)
   rw[hm] at HMY
   by_cases hl0:V.life=0
   ·have HP:=zd (zh3 hb0 hm hl0)
    have hk64:=HMS.out.k2;obtain⟨c0,c1,-,c3,-,-⟩:=h.cells;rw[hl0] at c1;generalize V.putS s=VD at *;clear h hf hf2 hk hr hbl hlen hv2 HMS hm;obtain⟨key,znm,node,row⟩:=s;unfold shV;simp only at HMY hk64 ⊢;generalize key.length=la at *;generalize row.length=ma at *
    go_enter Tryz.func64,Tryz.ntmps64
    go_upto_region 1 with fail
    have HGA:=zd (zg W (.cells #[.slice pk la ck,.int .i64 znm,.int .i64 node,.slice pr ma cr] 97) none);obtain⟨a0,a1,a2,a3,-⟩:=yx (heap_alloc_new W (.cells #[.slice pk la ck,.int .i64 znm,.int .i64 node,.slice pr ma cr] 97));replace c1:=HGA.out.cell c1 (by simp)
    generalize W.alloc (.cells #[.slice pk la ck,.int .i64 znm,.int .i64 node,.slice pr ma cr] 97)=W1 at *
    go_wp2_with (first
     | (go_at_call 65;refine(HMY.out W1).mono ?_;rintro e w2 ⟨rfl,hg⟩;replace a0:=hg.cell a0 (by simp);replace c1:=hg.cell c1 (by simp);have HG2:=zd (HGA.out.trans hg);clear hg)
     | (go_at_call 79;refine(HB.out W1 HGA.out).mono ?_;rintro e w9 ⟨rfl,h5⟩;obtain rfl:W1=w9:=h5.symm))
    go_ret
    exact⟨by rw[HP.out];rfl,⟨_,_,by rw[HP.out];exact H.out.grown HG2.out⟩,yl HG2.out⟩
   ·have HPD:=zd fun hs=>zer hb0 hm hl0 hs
    obtain⟨S2,r1,r2,hp⟩:∃S2 r1 r2,V.S.put (83 :: vh s)=(S2,r1,r2):=⟨_,_,_,rfl⟩;have HPE:=zd fun hs hr=>zh4 hb0 hm hl0 hs hp (r2:=r2) hr
    have HPF:=zd fun hs (h:r2=0) hi=>zh5 hb0 hm hl0 hs (r1:=r1) (S2:=S2) (h ▸ hp) hi
    have HPG:=zd fun (h:r2=0) hi=>zh6 hb0 hm hl0 (r1:=r1) (S2:=S2) (h ▸ hp) hi
    have hl:=h.look (idS s);have hkp:=h.kp (idS s);have HM:=zd h.mp;have hpv:=zjf V 83 (vh s);obtain⟨c0,c1,-,c3,-,-⟩:=h.cells;have hkt:∀w,zq (fun k=>¬own k) W w→ye own w (.slice pk s.key.length ck) (zi s.key)∧ye own w (.slice pr s.row.length cr) (zi s.row):=fun w ht=>⟨hk.turn fun k hk=>ht.block k (h.olt hk) (fun e=>e hk),hr.turn fun k hk=>ht.block k (h.olt hk) (fun e=>e hk)⟩
    have HID:Hid (∀w,zq (fun k=>¬own k) W w→Calls Tryz.prog 130 #[.agg #[.slice pk s.key.length ck,.int .i64 s.znm,.int .i64 s.node,.slice pr s.row.length cr]] w fun e w'=>e = .returned (.agg #[.string (ofB s.key),.int .i64 s.znm])∧w.grownBy w' none):=zd fun w ht=>zfk (hkt w ht).1.raw
    have HCL:Hid (∀w,zq (fun k=>¬own k) W w→Calls Tryz.prog 137 #[.agg #[.slice pk s.key.length ck,.int .i64 s.znm,.int .i64 s.node,.slice pr s.row.length cr]] w fun e w'=>∃qk dk qr dr,e = .returned (.agg #[.slice qk s.key.length dk,.int .i64 s.znm,.int .i64 s.node,.slice qr s.row.length dr])∧w.grownBy w' none∧Jl (fun k=>w.heap.size≤k∧k<w'.heap.size) w' ⟨qk,dk,qr,dr,s,r1⟩):=zd fun w ht=>by
     have k1:=Qu (hkt w ht).1;have k2:=Qu (hkt w ht).2;refine(zci k1.1 k2.1 k1.2 k2.2 hlen.1 hlen.2).mono ?_;rintro e w' ⟨qk,dk,qr,dr,rfl,h1,h2,h3⟩
     exact⟨qk,dk,qr,dr,rfl,h1,h2,h3,HMS.out,hbl⟩
    have HSP:Hid (∀w,zq (fun k=>¬own k) W w→Calls Tryz.prog 80 #[.agg #[.slice pk s.key.length ck,.int .i64 s.znm,.int .i64 s.node,.slice pr s.row.length cr]] w fun e w'=>∃p c,e = .returned (.tuple #[.slice p (vh s).length c,.int .i64 0])∧w.grownBy w' none∧ye (fun k=>w.heap.size≤k∧k<w'.heap.size) w' (.slice p (vh s).length c) (zi (vh s))):=zd fun w ht=>zk0 HMS.out (hkt w ht).1.raw (hkt w ht).2.raw hbl.1 hbl.2
    have HSA:Hid (∀w,W.grownBy w none→Calls Tryz.prog 136 #[.agg #[.slice (jv km (idS s)).pk (jv km (idS s)).s.key.length (jv km (idS s)).ck,.int .i64 (jv km (idS s)).s.znm,.int .i64 (jv km (idS s)).s.node,.slice (jv km (idS s)).pr (jv km (idS s)).s.row.length (jv km (idS s)).cr],.agg #[.slice pk s.key.length ck,.int .i64 s.znm,.int .i64 s.node,.slice pr s.row.length cr]] w (zlg w ((jv km (idS s)).s=s))):=zd fun w hg=>zif (hkp.key.raw.grown hg (by simp)) (hk.raw.grown hg (by simp)) (hkp.row.raw.grown hg (by simp)) (hr.raw.grown hg (by simp)) hkp.bl.2 hbl.2 (by have:=hkp.lk;omega) hlen.1
    have hev:=encS_BL hbl.1 hbl.2;have hel:(vh s).length≤10000000:=by rw[Vj];have:=HMS.out.k2;have:=HMS.out.r;omega
    have HVP:Hid (∀w p c,W.grownBy w none→ye (fun k=>W.heap.size≤k∧k<w.heap.size) w (.slice p (vh s).length c) (zi (vh s))→Calls Tryz.prog 133 #[.pointer (some ⟨vb,0,none⟩),.int .u8 83,.slice p (vh s).length c] w fun e w2=>e = .returned (.tuple #[.int .i64 r1,.int .i64 r2])∧VAt (fun k=>own k∨(W.heap.size≤k∧k<w.heap.size)) w2 vb st db mb km vk (V.put 83 (vh s))∧zq (fun k=>¬(own k∨(W.heap.size≤k∧k<w.heap.size))) w w2):=zd fun w p c hg hr=>by
     have ho:VAt (fun k=>own k∨(W.heap.size≤k∧k<w.heap.size)) w vb st db mb km vk V:=H.out.oth ⟨hg.os,hg.tape,hg.output,hg.size,fun k hk _=>hg.block k hk (by simp)⟩ (fun k hk=>hk.imp id And.left) (fun k hk=>hk.elim (fun e=>Nat.lt_of_lt_of_le (H.out.olt e) hg.size) And.right)
     have h5:=vput ho (k:=83) (b:=vh s) (hr.mono fun k hk=>Or.inr hk) ⟨by decide,by decide⟩ hev hel hf
     unfold PutV at h5;rw[hp] at h5
     exact h5
    have HF2:Hid ((V.put 83 (vh s)).S.d.late.length<1000000):=zd (by rw[hpv.2.2.2];exact hf2 _)
    have HVM:Hid (vb<W.heap.size∧mb<W.heap.size):=zd ⟨h.vlt h.vvb,h.vlt h.vmb⟩;have hlk:(V.look (idS s)).1=(jv km (idS s)).s∧(V.look (idS s)).2=(jv km (idS s)).k∧(zw V.sh (idS s)).isSome=(zw km (idS s)).isSome:=⟨by rw[hl.1],by rw[hl.1],hl.2⟩
    rw[hlk.1,hlk.2.2] at HPD HPE;rw[hlk.1,hlk.2.1,hlk.2.2] at HPF;rw[hlk.2.2] at HPG;have hk64:=HMS.out.k2;generalize V.putS s=VD at *;generalize V.put 83 (vh s)=V1 at *;generalize vh s=E at *;generalize hen:E.length=en at *;clear h hf hf2 hkp hl hpv hkt hev hel hk hr hlk hp hlen hv2 hm hbl hen;generalize V.life=lf at *;have hlf:(lf == 0)=false:=by simp[hl0]
    have HKS:Hid (∃kp,jv km (idS s)=kp∧True):=zd ⟨_,rfl,trivial⟩;generalize hkx:jv km (idS s)=X at *;have HKX:=zd hkx;clear hkx HKS;obtain⟨kpk,kck,kpr,kcr,ks,kk⟩:=X;have HSD:Hid (ks=ks):=zd rfl;obtain⟨is,hIS⟩:∃is,(zw km (idS s)).isSome=is:=⟨_,rfl⟩;rw[hIS] at HPD HPE HPF HPG;have hvv:Value.tuple #[uw (jv km (idS s)),.bool (zw km (idS s)).isSome] = .tuple #[.agg #[.slice kpk ks.key.length kck,.int .i64 ks.znm,.int .i64 ks.node,.slice kpr ks.row.length kcr,.int .i64 kk],.bool is]:=by rw[HKX.out,hIS];rfl
    have HID9:Hid (idS s=⟨ofB s.key,s.znm⟩):=zd rfl;rw[HID9.out] at hvv;have HVV:=zd hvv;obtain⟨ik,hik⟩:∃ik,ofB s.key=ik:=⟨_,rfl⟩;rw[hik] at HVV HID;have HIK:Hid (idS s=⟨ik,s.znm⟩):=zd (by rw[HID9.out,hik])
    clear hvv hIS hik HID9 HSD HKX;simp only at HSA HPD HPE HPF HPG;unfold shV;have HSE:Hid (∀r:Prop,(ks=s↔r)→True):=zd fun _ _=>trivial
    generalize hsame:(ks=s)=SM at *;clear HSE hsame;obtain⟨kkey,kver,knode,krow⟩:=ks;obtain⟨s0,hs0⟩:∃s0,s=s0:=⟨_,rfl⟩;have HSV:Hid (s.znm=s0.znm):=zd (by rw[hs0])
    rw[hs0] at HPF HPG HIK HMS;have HS0:=zd hs0;clear hs0;obtain⟨key,znm,node,row⟩:=s;simp only at HSA HVV HID HSP HCL hk64 HMY HIK HSV ⊢;generalize hla:key.length=la at *;generalize hma:row.length=ma at *;have HLA:=zd (And.intro hla hma);clear hla hma;generalize kkey.length=kla at *;generalize krow.length=kma at *
    go_enter Tryz.func64,Tryz.ntmps64
    go_upto_region 1 with fail
    have HGA:=zd (zg W (.cells #[.slice pk la ck,.int .i64 znm,.int .i64 node,.slice pr ma cr] 97) none);have hbx:=heap_alloc_new W (.cells #[.slice pk la ck,.int .i64 znm,.int .i64 node,.slice pr ma cr] 97);have HBX:=zd hbx;obtain⟨a0,a1,a2,a3,-⟩:=yx hbx;clear hbx;replace c1:=HGA.out.cell c1 (by simp)
    replace c3:=HGA.out.cell c3 (by simp)
    clear c0;generalize W.alloc (.cells #[.slice pk la ck,.int .i64 znm,.int .i64 node,.slice pr ma cr] 97)=W1 at *;generalize hb1:W.heap.size=b1 at *;have HBE:=zd hb1;clear hb1
    go_upto_region 8 with (first
     | (go_at_call 65;refine(HMY.out W1).mono ?_;rintro e W2 ⟨rfl,hg⟩;replace a0:=hg.cell a0 (by simp);replace a1:=hg.cell a1 (by simp);replace a2:=hg.cell a2 (by simp);replace a3:=hg.cell a3 (by simp);replace c1:=hg.cell c1 (by simp);replace c3:=hg.cell c3 (by simp);have HG2:=zd (HGA.out.trans hg);have HB2:=zd ((hg.block b1 (Array.getElem?_eq_some_iff.1 HBX.out).1 (by simp)).trans HBX.out);clear hg)
     | (go_at_call 79;refine(HB.out W1 HGA.out).mono ?_;rintro e w9 ⟨rfl,h5⟩;obtain rfl:W1=w9:=h5.symm))
    have HMM:=zd (HM.out.kept HG2.out (by simp))
    clear HBX HMY HB HM
    go_cut [6,7] (fun a i wx=>∃bb,a = .pointer (some ⟨bb,0,none⟩)∧i = .bool is∧Lkd W b1 bb #[.slice pk la ck,.int .i64 znm,.int .i64 node,.slice pr ma cr] #[.slice kpk kla kck,.int .i64 kver,.int .i64 knode,.slice kpr kma kcr,.int .i64 kk] wx)
    case first=>
     --F0
     refine wp_region_held_drew (S:=fun w=>w.cell? ⟨vb,3,none⟩=some (.map (some mb))∧w.cell? ⟨b1,0,none⟩=some (.slice pk la ck)∧w.cell? ⟨b1,1,none⟩=some (.int .i64 znm)∧w.cell? ⟨b1,2,none⟩=some (.int .i64 node)∧w.cell? ⟨b1,3,none⟩=some (.slice pr ma cr)∧yg w mb yu uw km) (by kernel_rfl) ⟨c3,a0,a1,a2,a3,HMM.out⟩ (fun hHeld=>?_)
     have HGx0:Hid (W.grownBy W2.drew none):=zd (zl HG2.out);have HBx0:Hid (W2.drew.heap[b1]? = some (.cells #[.slice pk la ck,.int .i64 znm,.int .i64 node,.slice pr ma cr] 97 (0,0))):=zd HB2.out;generalize W2.drew=x0 at *;refine tk (i:=0) (oi:=⟨some 35,Op.move (Operand.tmp 0),_,_,_,none⟩) (v:=?_) rfl hHeld ?_ ?_;rotate_left
     ·rintro w -;go_simp;try with_reducible rfl
     (try simp only[Act.put,za,zb,zc])
     refine tk (i:=4) (oi:=⟨some 39,Op.load 97 (Operand.tmp 3),_,_,_,none⟩) (v:=?_) rfl hHeld ?_ ?_;rotate_left
     ·rintro w ⟨s1,s2,s3,s4,s5,s6⟩;go_simp;try with_reducible rfl
     (try simp only[Act.put,za,zb,zc])
     refine tk (i:=1) (oi:=⟨some 36,Op.nilCheck (Operand.tmp 35),_,_,_,none⟩) (v:=?_) rfl hHeld ?_ ?_;rotate_left
     ·rintro w -;go_simp;try with_reducible rfl
     (try simp only[Act.put,za,zb,zc])
     refine tk (i:=2) (oi:=⟨some 37,Op.fieldAddr 224 (Operand.tmp 36) 3,_,_,_,none⟩) (v:=?_) rfl hHeld ?_ ?_;rotate_left
     ·rintro w -;go_simp;try with_reducible rfl
     (try simp only[Act.put,za,zb,zc])
     refine tk (i:=3) (oi:=⟨some 38,Op.load 221 (Operand.tmp 37),_,_,_,none⟩) (v:=?_) rfl hHeld ?_ ?_;rotate_left
     ·rintro w ⟨s1,s2,s3,s4,s5,s6⟩;go_simp;try with_reducible rfl
     (try simp only[Act.put,za,zb,zc])
     refine wpAnyH_ready (rs:=[5,10]) (by kernel_rfl) (by simp) ?_
     refine(AllReadyH.cons (o:=⟨some 40,Op.call { callee:=Callee.value (Operand.func 130),args:=#[Operand.tmp 39],argTypes:=#[97] },_,_,_,none⟩) rfl (fun K hK=>?_) (AllReadyH.cons (o:=⟨some 6,Op.alloc 226,_,_,_,none⟩) rfl (fun K hK=>?_) AllReadyH.nil))
     ·go_simp
      go_at_call 130
      refine(HID.out x0 (yl HGx0.out)).mono ?_;rintro e x1 ⟨rfl,hg⟩;have HGx1:=zd (HGx0.out.trans hg);have HBx1:=zd ((hg.block b1 (Array.getElem?_eq_some_iff.1 HBx0.out).1 (by simp)).trans HBx0.out)
      refine hK.out _ _ ⟨hg.cell hHeld.1 (by simp),hg.cell hHeld.2.1 (by simp),hg.cell hHeld.2.2.1 (by simp),hg.cell hHeld.2.2.2.1 (by simp),hg.cell hHeld.2.2.2.2.1 (by simp),hHeld.2.2.2.2.2.kept hg (by simp)⟩ (fun hHeld=>?_)
      clear hK K
      (try simp only[Act.put,za,zb,zc])
      clear hg;refine wpAnyH_take (i:=6) (oi:=⟨some 41,Op.lookup 221 (Operand.tmp 38) (Operand.tmp 40) true,_,_,_,none⟩) (v:=.tuple #[.agg #[.slice kpk kla kck,.int .i64 kver,.int .i64 knode,.slice kpr kma kcr,.int .i64 kk],.bool is]) rfl (by kernel_rfl) (by kernel_rfl) (by kernel_rfl) (fun _ _ _ h=>h) (Or.inl ⟨by rfl,fun w hSw=>jq (i:=⟨ik,znm⟩) _ _ (by rfl) (by rfl) (by rfl) HVV.out hSw.2.2.2.2.2⟩) hHeld ?_
      (try simp only[Act.put,za,zb,zc])
      refine tk (i:=7) (oi:=⟨some 34,Op.move (Operand.tmp 41),_,_,_,none⟩) (v:=?_) rfl hHeld ?_ ?_;rotate_left
      ·rintro w -;go_simp;try with_reducible rfl
      (try simp only[Act.put,za,zb,zc])
      refine tk (i:=8) (oi:=⟨some 42,Op.extract (Operand.tmp 34) 0,_,_,_,none⟩) (v:=?_) rfl hHeld ?_ ?_;rotate_left
      ·rintro w -;go_simp;try with_reducible rfl
      (try simp only[Act.put,za,zb,zc])
      refine tk (i:=9) (oi:=⟨some 43,Op.extract (Operand.tmp 34) 1,_,_,_,none⟩) (v:=?_) rfl hHeld ?_ ?_;rotate_left
      ·rintro w -;go_simp;try with_reducible rfl
      (try simp only[Act.put,za,zb,zc])
      refine wpAnyH_ready (rs:=[10]) (by kernel_rfl) (by simp) ?_
      refine(AllReadyH.cons (o:=⟨some 6,Op.alloc 226,_,_,_,none⟩) rfl (fun K hK=>?_) AllReadyH.nil)
      refine xw rfl (ve 226 rfl Zh) ?_;have hg:=zg x1 (.cells qc.cells 226) none;have HKx2:=zd (heap_alloc_new x1 (.cells qc.cells 226));have HGx2:=zd (HGx1.out.trans hg);have HBx2:=zd ((hg.block b1 (Array.getElem?_eq_some_iff.1 HBx1.out).1 (by simp)).trans HBx1.out)
      have HBN:Hid (b1<x1.heap.size∧b1≤x1.heap.size):=zd ⟨(Array.getElem?_eq_some_iff.1 HBx1.out).1,by have:=HGx1.out.size;have:=HBE.out;omega⟩
      refine hK.out _ _ ⟨hg.cell hHeld.1 (by simp),hg.cell hHeld.2.1 (by simp),hg.cell hHeld.2.2.1 (by simp),hg.cell hHeld.2.2.2.1 (by simp),hg.cell hHeld.2.2.2.2.1 (by simp),hHeld.2.2.2.2.2.kept hg (by simp)⟩ (fun hHeld=>?_)
      clear hK K
      (try simp only[Act.put,za,zb,zc])
      clear hg;generalize hbb:x1.heap.size=bb at *;clear hbb;generalize x1.alloc (.cells qc.cells 226)=x2 at *;refine wpAnyH_ready (rs:=[11]) (by kernel_rfl) (by simp) ?_
      refine(AllReadyH.cons (o:=⟨none,Op.store 226 (Operand.tmp 6) (Operand.tmp 42),_,_,_,none⟩) rfl (fun K hK=>?_) AllReadyH.nil)
      refine xc rfl (uh 226 _ _ rfl bb #[.slice kpk kla kck,.int .i64 kver,.int .i64 knode,.slice kpr kma kcr,.int .i64 kk] _ qc.cells rfl rfl HKx2.out (by kernel_rfl) rfl (by simp[Value.oneCell'])) ?_
      have hg:=qy x2 bb #[.slice kpk kla kck,.int .i64 kver,.int .i64 knode,.slice kpr kma kcr,.int .i64 kk];have hne:=HBN.out;have HL:Hid (Lkd W b1 bb #[.slice pk la ck,.int .i64 znm,.int .i64 node,.slice pr ma cr] #[.slice kpk kla kck,.int .i64 kver,.int .i64 knode,.slice kpr kma kcr,.int .i64 kk] (x2.setRow bb #[.slice kpk kla kck,.int .i64 kver,.int .i64 knode,.slice kpr kma kcr,.int .i64 kk])):=zd ⟨xi HGx2.out hg (fun q hq=>by injection hq with hq;have:=HBE.out;omega),(hg.block b1 (Array.getElem?_eq_some_iff.1 HBx2.out).1 (fun e=>by have e2:b1=bb:=Option.some.inj e;omega)).trans HBx2.out,setRow_heap _ _ _ _ _ _ HKx2.out,by have:=HBE.out;omega⟩
      refine hK.out _ _ ⟨hg.cell hHeld.1 (fun e=>by have e2:vb=bb:=Option.some.inj e;have:=HVM.out;omega),hg.cell hHeld.2.1 (fun e=>by have e2:b1=bb:=Option.some.inj e;omega),hg.cell hHeld.2.2.1 (fun e=>by have e2:b1=bb:=Option.some.inj e;omega),hg.cell hHeld.2.2.2.1 (fun e=>by have e2:b1=bb:=Option.some.inj e;omega),hg.cell hHeld.2.2.2.2.1 (fun e=>by have e2:b1=bb:=Option.some.inj e;omega),hHeld.2.2.2.2.2.kept hg (fun e=>by have e2:mb=bb:=Option.some.inj e;have:=HVM.out;omega)⟩ (fun hHeld=>?_)
      clear hK K
      (try simp only[Act.put,za,zb,zc])
      clear hg hne;generalize x2.setRow bb #[.slice kpk kla kck,.int .i64 kver,.int .i64 knode,.slice kpr kma kcr,.int .i64 kk]=x3 at *;refine tk (i:=12) (oi:=⟨some 7,Op.assign (Operand.tmp 43),_,_,_,none⟩) (v:=?_) rfl hHeld ?_ ?_;rotate_left
      ·rintro w -;go_simp;try with_reducible rfl
      (try simp only[Act.put,za,zb,zc])
      refine wpAnyH_done (by kernel_rfl) ?_ _
      go_wp2_with fail
      go_meet
      case rel=>exact⟨bb,rfl,rfl,HL.out⟩
     ·refine xw rfl (ve 226 rfl Zh) ?_
      have hg:=zg x0 (.cells qc.cells 226) none;have HKx1:=zd (heap_alloc_new x0 (.cells qc.cells 226));have HGx1:=zd (HGx0.out.trans hg);have HBx1:=zd ((hg.block b1 (Array.getElem?_eq_some_iff.1 HBx0.out).1 (by simp)).trans HBx0.out)
      have HBN:Hid (b1<x0.heap.size∧b1≤x0.heap.size):=zd ⟨(Array.getElem?_eq_some_iff.1 HBx0.out).1,by have:=HGx0.out.size;have:=HBE.out;omega⟩
      refine hK.out _ _ ⟨hg.cell hHeld.1 (by simp),hg.cell hHeld.2.1 (by simp),hg.cell hHeld.2.2.1 (by simp),hg.cell hHeld.2.2.2.1 (by simp),hg.cell hHeld.2.2.2.2.1 (by simp),hHeld.2.2.2.2.2.kept hg (by simp)⟩ (fun hHeld=>?_)
      clear hK K
      (try simp only[Act.put,za,zb,zc])
      clear hg;generalize hbb:x0.heap.size=bb at *;clear hbb;generalize x0.alloc (.cells qc.cells 226)=x1 at *;refine wpAnyH_ready (rs:=[5]) (by kernel_rfl) (by simp) ?_
      refine(AllReadyH.cons (o:=⟨some 40,Op.call { callee:=Callee.value (Operand.func 130),args:=#[Operand.tmp 39],argTypes:=#[97] },_,_,_,none⟩) rfl (fun K hK=>?_) AllReadyH.nil)
      go_simp
      go_at_call 130
      refine(HID.out x1 (yl HGx1.out)).mono ?_;rintro e x2 ⟨rfl,hg⟩;have HGx2:=zd (HGx1.out.trans hg);have HBx2:=zd ((hg.block b1 (Array.getElem?_eq_some_iff.1 HBx1.out).1 (by simp)).trans HBx1.out)
      have HKx2:=zd ((hg.block bb (Array.getElem?_eq_some_iff.1 HKx1.out).1 (by simp)).trans HKx1.out)
      refine hK.out _ _ ⟨hg.cell hHeld.1 (by simp),hg.cell hHeld.2.1 (by simp),hg.cell hHeld.2.2.1 (by simp),hg.cell hHeld.2.2.2.1 (by simp),hg.cell hHeld.2.2.2.2.1 (by simp),hHeld.2.2.2.2.2.kept hg (by simp)⟩ (fun hHeld=>?_)
      clear hK K
      (try simp only[Act.put,za,zb,zc])
      clear hg;refine wpAnyH_take (i:=6) (oi:=⟨some 41,Op.lookup 221 (Operand.tmp 38) (Operand.tmp 40) true,_,_,_,none⟩) (v:=.tuple #[.agg #[.slice kpk kla kck,.int .i64 kver,.int .i64 knode,.slice kpr kma kcr,.int .i64 kk],.bool is]) rfl (by kernel_rfl) (by kernel_rfl) (by kernel_rfl) (fun _ _ _ h=>h) (Or.inl ⟨by rfl,fun w hSw=>jq (i:=⟨ik,znm⟩) _ _ (by rfl) (by rfl) (by rfl) HVV.out hSw.2.2.2.2.2⟩) hHeld ?_
      (try simp only[Act.put,za,zb,zc])
      refine tk (i:=7) (oi:=⟨some 34,Op.move (Operand.tmp 41),_,_,_,none⟩) (v:=?_) rfl hHeld ?_ ?_;rotate_left
      ·rintro w -;go_simp;try with_reducible rfl
      (try simp only[Act.put,za,zb,zc])
      refine tk (i:=8) (oi:=⟨some 42,Op.extract (Operand.tmp 34) 0,_,_,_,none⟩) (v:=?_) rfl hHeld ?_ ?_;rotate_left
      ·rintro w -;go_simp;try with_reducible rfl
      (try simp only[Act.put,za,zb,zc])
      refine tk (i:=9) (oi:=⟨some 43,Op.extract (Operand.tmp 34) 1,_,_,_,none⟩) (v:=?_) rfl hHeld ?_ ?_;rotate_left
      ·rintro w -;go_simp;try with_reducible rfl
      (try simp only[Act.put,za,zb,zc])
      refine wpAnyH_ready (rs:=[11]) (by kernel_rfl) (by simp) ?_
      refine(AllReadyH.cons (o:=⟨none,Op.store 226 (Operand.tmp 6) (Operand.tmp 42),_,_,_,none⟩) rfl (fun K hK=>?_) AllReadyH.nil)
      refine xc rfl (uh 226 _ _ rfl bb #[.slice kpk kla kck,.int .i64 kver,.int .i64 knode,.slice kpr kma kcr,.int .i64 kk] _ qc.cells rfl rfl HKx2.out (by kernel_rfl) rfl (by simp[Value.oneCell'])) ?_
      have hg:=qy x2 bb #[.slice kpk kla kck,.int .i64 kver,.int .i64 knode,.slice kpr kma kcr,.int .i64 kk];have hne:=HBN.out;have HL:Hid (Lkd W b1 bb #[.slice pk la ck,.int .i64 znm,.int .i64 node,.slice pr ma cr] #[.slice kpk kla kck,.int .i64 kver,.int .i64 knode,.slice kpr kma kcr,.int .i64 kk] (x2.setRow bb #[.slice kpk kla kck,.int .i64 kver,.int .i64 knode,.slice kpr kma kcr,.int .i64 kk])):=zd ⟨xi HGx2.out hg (fun q hq=>by injection hq with hq;have:=HBE.out;omega),(hg.block b1 (Array.getElem?_eq_some_iff.1 HBx2.out).1 (fun e=>by have e2:b1=bb:=Option.some.inj e;omega)).trans HBx2.out,setRow_heap _ _ _ _ _ _ HKx2.out,by have:=HBE.out;omega⟩
      refine hK.out _ _ ⟨hg.cell hHeld.1 (fun e=>by have e2:vb=bb:=Option.some.inj e;have:=HVM.out;omega),hg.cell hHeld.2.1 (fun e=>by have e2:b1=bb:=Option.some.inj e;omega),hg.cell hHeld.2.2.1 (fun e=>by have e2:b1=bb:=Option.some.inj e;omega),hg.cell hHeld.2.2.2.1 (fun e=>by have e2:b1=bb:=Option.some.inj e;omega),hg.cell hHeld.2.2.2.2.1 (fun e=>by have e2:b1=bb:=Option.some.inj e;omega),hHeld.2.2.2.2.2.kept hg (fun e=>by have e2:mb=bb:=Option.some.inj e;have:=HVM.out;omega)⟩ (fun hHeld=>?_)
      clear hK K
      (try simp only[Act.put,za,zb,zc])
      clear hg hne;generalize x2.setRow bb #[.slice kpk kla kck,.int .i64 kver,.int .i64 knode,.slice kpr kma kcr,.int .i64 kk]=x3 at *;refine tk (i:=12) (oi:=⟨some 7,Op.assign (Operand.tmp 43),_,_,_,none⟩) (v:=?_) rfl hHeld ?_ ?_;rotate_left
      ·rintro w -;go_simp;try with_reducible rfl
      (try simp only[Act.put,za,zb,zc])
      refine wpAnyH_done (by kernel_rfl) ?_ _
      go_wp2_with fail
      go_meet
      case rel=>exact⟨bb,rfl,rfl,HL.out⟩
     --F1
    case rest=>
     obtain⟨bb,rfl,rfl,hcut⟩:=hcut;have HLK:=zd hcut;have hk5:∀w:World,w.heap[bb]? = some (.cells #[.slice kpk kla kck,.int .i64 kver,.int .i64 knode,.slice kpr kma kcr,.int .i64 kk] 226 (0,0))→w.cell? ⟨bb,0,none⟩=some (.slice kpk kla kck)∧w.cell? ⟨bb,1,none⟩=some (.int .i64 kver)∧w.cell? ⟨bb,2,none⟩=some (.int .i64 knode)∧w.cell? ⟨bb,3,none⟩=some (.slice kpr kma kcr)∧w.cell? ⟨bb,4,none⟩=some (.int .i64 kk):=fun w hb=>⟨(zh hb 0).trans rfl,(zh hb 1).trans rfl,(zh hb 2).trans rfl,(zh hb 3).trans rfl,(zh hb 4).trans rfl⟩
     have HK5:=zd hk5;clear hcut hk5 c1 c3 a0 a1 a2 a3 HMM HB2
     go_upto_region 9 with fail
     go_cut [50] (fun c wx=>∃r:Bool,c = .bool r∧(r=true↔(is=true∧SM))∧wc.grownBy wx none)
     case first=>
      cases is with
      | false=>
       go_wp2
       go_meet
       case rel=>exact⟨false,rfl,by simp,zm _⟩
      | true=>
       obtain⟨a0,a1,a2,a3,-⟩:=yx HLK.out.hb1;obtain⟨k0,k1,k2,k3,-⟩:=HK5.out wc HLK.out.hbb
       go_wp2_with (go_at_call 136;refine(HSA.out wc HLK.out.gr).mono ?_;rintro e w8 ⟨r,rfl,hg,hr⟩;have HG8:=zd hg;have HR8:=zd hr;clear hg hr)
       go_meet
       case rel=>exact⟨r,rfl,by rw[HR8.out];simp,HG8.out⟩
     case rest=>
      obtain⟨r,rfl,hr,hg9⟩:=hcut
      cases r with
      | true=>
       have HP:=zd (HPD.out (hr.1 rfl));have HG9:=zd (HLK.out.gr.trans hg9);clear hr hg9;go_wp2
       go_ret
       exact⟨by rw[HP.out];rfl,⟨_,_,by rw[HP.out];exact H.out.grown HG9.out⟩,yl HG9.out⟩
      | false=>
       have HNS:Hid (¬(is=true∧SM)):=zd fun e=>by have:=hr.2 e;cases this
       have HG9:=zd (HLK.out.gr.trans hg9);have hb9:=(hg9.block b1 (Array.getElem?_eq_some_iff.1 HLK.out.hb1).1 (by simp)).trans HLK.out.hb1
       have HKB9:=zd ((hg9.block bb (Array.getElem?_eq_some_iff.1 HLK.out.hbb).1 (by simp)).trans HLK.out.hbb)
       have HBG:Hid (b1≤bb):=zd (by have:=HLK.out.ge;have:=HBE.out;omega)
       have HB9:=zd hb9;obtain⟨a0,a1,a2,a3,-⟩:=yx hb9;clear hr hg9 hb9 HPD HSA HLK;generalize wc=w9 at *;have HTB:Hid (∀w,zq (fun k=>¬own k) w9 w→zq (fun k=>¬own k) W w):=zd fun w ht=>(yl HG9.out).trans ht
       go_upto_region 12 with (go_at_call 80;refine(HSP.out w9 (HTB.out w9 (zq.refl _ _))).mono ?_;rintro e w10 ⟨p,c,rfl,hg,hr⟩;have hg10:=HG9.out.trans hg;have HVC:=zd (HVP.out w10 p c hg10 (by have hz:=HG9.out.size;have hz2:=HBE.out;exact hr.mono fun k hk=>⟨by omega,hk.2⟩));have HG10:=zd hg10;have HB10:=zd ((hg.block b1 (Array.getElem?_eq_some_iff.1 HB9.out).1 (by simp)).trans HB9.out);have HK10:=zd ((hg.block bb (Array.getElem?_eq_some_iff.1 HKB9.out).1 (by simp)).trans HKB9.out);clear hg hg10 hr)
       clear a0 a1 a2 a3 HSP HVP HB9 HKB9 HG9
       go_upto_region 13 with (go_at_call 133;refine HVC.out.mono ?_;rintro e w11 ⟨rfl,hv,ht⟩;have HV11:=zd hv;have HT11:=zd ht;clear hv ht)
       clear HVC;have hz10:b1<w10.heap.size:=(Array.getElem?_eq_some_iff.1 HB10.out).1;have hzk:bb<w10.heap.size:=(Array.getElem?_eq_some_iff.1 HK10.out).1;have HZ:Hid (b1≤bb∧bb<w10.heap.size):=zd ⟨HBG.out,hzk⟩;have hb11:=(HT11.out.block b1 hz10 (fun e=>e (Or.inr ⟨Nat.le_refl _,hz10⟩))).trans HB10.out
       have HK11:=zd ((HT11.out.block bb hzk (fun e=>e (Or.inr ⟨HBG.out,hzk⟩))).trans HK10.out)
       have HTW:Hid (zq (fun k=>¬own k) W w11):=zd ((yl HG10.out).trans (HT11.out.mono fun k hk e=>hk (Or.inl e)))
       by_cases hr2:r2=0
       ·obtain⟨c0,-,-,c3,-,-⟩:=HV11.out.cells
        obtain⟨a0,a1,a2,a3,-⟩:=yx hb11;clear hb11 hz10 hzk HT11 HB10 HK10 HPE;subst hr2
        go_upto_region 15 with fail
        refine wp_region_held_drew (S:=fun w=>w.cell? ⟨vb,3,none⟩=some (.map (some mb))∧w.cell? ⟨b1,0,none⟩=some (.slice pk la ck)∧w.cell? ⟨b1,1,none⟩=some (.int .i64 znm)∧w.cell? ⟨b1,2,none⟩=some (.int .i64 node)∧w.cell? ⟨b1,3,none⟩=some (.slice pr ma cr)) (by kernel_rfl) ⟨c3,a0,a1,a2,a3⟩ (fun hHeld=>?_)
        have HTd:Hid (zq (fun k=>¬own k) W w11.drew):=zd (HTW.out.trans (yl (zl (zm _))))
        have HVd:=zd (HV11.out.grown (zl (zm _)));have HKd:Hid (w11.drew.heap[bb]? = some (.cells #[.slice kpk kla kck,.int .i64 kver,.int .i64 knode,.slice kpr kma kcr,.int .i64 kk] 226 (0,0))):=zd HK11.out;clear HV11 HK11 HTW c0 c3 a0 a1 a2 a3;generalize w11.drew=y1 at *;refine tk (i:=0) (oi:=⟨some 65,Op.move (Operand.tmp 0),_,_,_,none⟩) (v:=?_) rfl hHeld ?_ ?_;rotate_left
        ·rintro w -;go_simp;try with_reducible rfl
        (try simp only[Act.put,za,zb,zc])
        refine tk (i:=1) (oi:=⟨some 66,Op.nilCheck (Operand.tmp 65),_,_,_,none⟩) (v:=?_) rfl hHeld ?_ ?_;rotate_left
        ·rintro w -;go_simp;try with_reducible rfl
        (try simp only[Act.put,za,zb,zc])
        refine tk (i:=2) (oi:=⟨some 67,Op.fieldAddr 224 (Operand.tmp 66) 3,_,_,_,none⟩) (v:=?_) rfl hHeld ?_ ?_;rotate_left
        ·rintro w -;go_simp;try with_reducible rfl
        (try simp only[Act.put,za,zb,zc])
        refine tk (i:=8) (oi:=⟨some 73,Op.move (Operand.tmp 10),_,_,_,none⟩) (v:=?_) rfl hHeld ?_ ?_;rotate_left
        ·rintro w -;go_simp;try with_reducible rfl
        (try simp only[Act.put,za,zb,zc])
        refine tk (i:=3) (oi:=⟨some 68,Op.load 221 (Operand.tmp 67),_,_,_,none⟩) (v:=?_) rfl hHeld ?_ ?_;rotate_left
        ·rintro w ⟨s1,s2,s3,s4,s5⟩;go_simp;try with_reducible rfl
        (try simp only[Act.put,za,zb,zc])
        refine tk (i:=4) (oi:=⟨some 69,Op.load 97 (Operand.tmp 3),_,_,_,none⟩) (v:=?_) rfl hHeld ?_ ?_;rotate_left
        ·rintro w ⟨s1,s2,s3,s4,s5⟩;go_simp;try with_reducible rfl
        (try simp only[Act.put,za,zb,zc])
        refine tk (i:=6) (oi:=⟨some 71,Op.load 97 (Operand.tmp 3),_,_,_,none⟩) (v:=?_) rfl hHeld ?_ ?_;rotate_left
        ·rintro w ⟨s1,s2,s3,s4,s5⟩;go_simp;try with_reducible rfl
        (try simp only[Act.put,za,zb,zc])
        refine wpAnyH_ready (rs:=[5]) (by kernel_rfl) (by simp) ?_
        refine AllReadyH.cons (o:=⟨some 70,Op.call { callee:=Callee.value (Operand.func 130),args:=#[Operand.tmp 69],argTypes:=#[97] },_,_,_,none⟩) rfl (fun K hK=>?_) AllReadyH.nil
        go_simp
        go_at_call 130
        refine(HID.out y1 HTd.out).mono ?_;rintro e y2 ⟨rfl,hg⟩;have HGY2:=zd hg;refine hK.out _ _ ⟨hg.cell hHeld.1 (by simp),hg.cell hHeld.2.1 (by simp),hg.cell hHeld.2.2.1 (by simp),hg.cell hHeld.2.2.2.1 (by simp),hg.cell hHeld.2.2.2.2 (by simp)⟩ (fun hHeld=>?_)
        clear hK K
        (try simp only[Act.put,za,zb,zc])
        clear hg;refine wpAnyH_ready (rs:=[7]) (by kernel_rfl) (by simp) ?_
        refine AllReadyH.cons (o:=⟨some 72,Op.call { callee:=Callee.value (Operand.func 137),args:=#[Operand.tmp 71],argTypes:=#[97] },_,_,_,none⟩) rfl (fun K hK=>?_) AllReadyH.nil
        go_simp
        go_at_call 137
        refine(HCL.out y2 (HTd.out.trans (yl HGY2.out))).mono ?_;rintro e y3 ⟨qk,dk,qr,dr,rfl,hg,hx⟩;have HGY3:=zd (HGY2.out.trans hg);have HX:=zd (hx.mono (Q:=fun k=>y1.heap.size≤k∧k<y3.heap.size) fun k hk=>⟨Nat.le_trans HGY2.out.size hk.1,hk.2⟩)
        refine hK.out _ _ ⟨hg.cell hHeld.1 (by simp),hg.cell hHeld.2.1 (by simp),hg.cell hHeld.2.2.1 (by simp),hg.cell hHeld.2.2.2.1 (by simp),hg.cell hHeld.2.2.2.2 (by simp)⟩ (fun hHeld=>?_)
        clear hK K
        (try simp only[Act.put,za,zb,zc])
        clear hg hx;refine tk (i:=9) (oi:=⟨some 74,Op.build 226 #[(0,Operand.tmp 72),(1,Operand.tmp 73)],_,_,_,none⟩) (v:=?_) rfl hHeld ?_ ?_;rotate_left
        ·rintro w -;go_simp;try with_reducible rfl
        (try simp only[Act.put,za,zb,zc])
        have hm3:=(HVd.out.mp.kept HGY3.out (by simp)).update (P:=Tryz.prog) keID Tryz.underlying221 ⟨ik,znm⟩ ⟨qk,dk,qr,dr,⟨key,znm,node,row⟩,r1⟩
        obtain⟨y4,hrun,hm4,hg4,hz4⟩:=hm3;have hek:uw ⟨qk,dk,qr,dr,⟨key,znm,node,row⟩,r1⟩ = .agg #[.slice qk la dk,.int .i64 znm,.int .i64 node,.slice qr ma dr,.int .i64 r1]:=by rw[←HLA.out.1,←HLA.out.2];rfl
        rw[hek] at hrun;have HRU:Hid ((Instr.mapUpdate 221 (.map (some mb)) (.agg #[.string ik,.int .i64 znm]) (.agg #[.slice qk la dk,.int .i64 znm,.int .i64 node,.slice qr ma dr,.int .i64 r1])).run Tryz.prog y3 = .ok () y4):=zd hrun;have hkp:=HVd.out.keep HGY3.out HX.out hm4 hg4 hz4;have HKP:Hid ((∃km' vk',VAt (fun k=>own k∨(b1≤k∧k<w10.heap.size)) y4 vb st db mb km' vk' (V1.keep (idS s0) s0 r1))∧zq (fun k=>¬(own k∨(b1≤k∧k<w10.heap.size))) y1 y4):=zd (by
         rw[HIK.out,←HSV.out,←HS0.out]
         exact hkp)
        have HKY:Hid (y4.heap[bb]? = some (.cells #[.slice kpk kla kck,.int .i64 kver,.int .i64 knode,.slice kpr kma kcr,.int .i64 kk] 226 (0,0))):=zd ((HKP.out.2.block bb (Array.getElem?_eq_some_iff.1 HKd.out).1 (fun e=>e (Or.inr HZ.out))).trans HKd.out)
        have HOLD:Hid (y4.cell? ⟨vb,3,none⟩=some (.map (some mb))∧y4.cell? ⟨b1,0,none⟩=some (.slice pk la ck)∧y4.cell? ⟨b1,1,none⟩=some (.int .i64 znm)∧y4.cell? ⟨b1,2,none⟩=some (.int .i64 node)∧y4.cell? ⟨b1,3,none⟩=some (.slice pr ma cr)):=zd (by
         have h1:vb≠mb:=HVd.out.ne;have h2:=HVM.out
         exact⟨hg4.cell hHeld.1 (fun e=>h1 (Option.some.inj e)),hg4.cell hHeld.2.1 (fun e=>by have e2:b1=mb:=Option.some.inj e;omega),hg4.cell hHeld.2.2.1 (fun e=>by have e2:b1=mb:=Option.some.inj e;omega),hg4.cell hHeld.2.2.2.1 (fun e=>by have e2:b1=mb:=Option.some.inj e;omega),hg4.cell hHeld.2.2.2.2 (fun e=>by have e2:b1=mb:=Option.some.inj e;omega)⟩)
        clear hrun hm4 hg4 hz4 hek hkp;refine wpAnyH_ready (rs:=[10]) (by kernel_rfl) (by simp) ?_
        refine AllReadyH.cons (o:=⟨none,Op.mapUpdate 221 (Operand.tmp 68) (Operand.tmp 70) (Operand.tmp 74),_,_,_,none⟩) rfl (fun K hK=>?_) AllReadyH.nil
        refine xc rfl (qm _ _ _ rfl rfl rfl rfl HRU.out) ?_;refine hK.out _ _ ⟨HOLD.out.1,HOLD.out.2.1,HOLD.out.2.2.1,HOLD.out.2.2.2.1,HOLD.out.2.2.2.2⟩ (fun hHeld=>?_)
        clear hK K
        (try simp only[Act.put,za,zb,zc])
        refine wpAnyH_done (by kernel_rfl) ?_ _
        clear hHeld HOLD HRU HX HVd HKd
        cases is with
        | false=>
         have HP:=zd (HPG.out rfl rfl);go_wp2
         go_ret
         exact⟨by rw[HP.out];rfl,by
          obtain⟨⟨km',vk',hv⟩,-⟩:=HKP.out
          exact⟨km',vk',by rw[HP.out];exact hv.less fun k hk=>Or.inl hk⟩,HTd.out.trans (HKP.out.2.mono fun k hk e=>hk (Or.inl e))⟩
        | true=>
         have HP:=zd (HPF.out HNS.out rfl rfl);obtain⟨⟨km',vk',hv⟩,ht4⟩:=HKP.out;have HTY:Hid (zq (fun k=>¬own k) W y4.drew):=zd ((HTd.out.trans (ht4.mono fun k hk e=>hk (Or.inl e))).trans (yl (zl (zm _))))
         have hv4:=hv.grown (zl (zm y4));have HRV:=zd (zbe hv4 kk (by exact HF2.out))
         obtain⟨c0,-⟩:=hv4.cells;have k4:=(HK5.out y4 HKY.out).2.2.2.2;replace c0:y4.cell? ⟨vb,0,none⟩=some (.pointer (some ⟨st,0,none⟩)):=c0;have HRM:Hid ((V1.keep (idS s0) s0 r1).rem kk=(({ V1.keep (idS s0) s0 r1 with S:=((V1.keep (idS s0) s0 r1).S.rem kk).1 }:Vlt).met ((V1.keep (idS s0) s0 r1).S.rem kk).2,((V1.keep (idS s0) s0 r1).S.rem kk).2)):=zd rfl
         have HBT:Hid (∀w',zq (fun k=>¬(own k∨(b1≤k∧k<w10.heap.size))) y4.drew w'→w'.cell? ⟨bb,4,none⟩=some (.int .i64 kk)):=zd fun w' ht=>(HK5.out w' ((ht.block bb (Array.getElem?_eq_some_iff.1 HKY.out).1 (fun e=>e (Or.inr HZ.out))).trans HKY.out)).2.2.2.2
         clear hv hv4 ht4 HKP HPF HPG;generalize (V1.keep (idS s0) s0 r1).rem kk=VR at *;generalize ({ V1.keep (idS s0) s0 r1 with S:=((V1.keep (idS s0) s0 r1).S.rem kk).1 }:Vlt)=V3 at *
         generalize ((V1.keep (idS s0) s0 r1).S.rem kk).2=r3 at *
         go_upto_region 17 with fail
         refine wp_region_held_drew (S:=fun w=>w.cell? ⟨vb,0,none⟩=some (.pointer (some ⟨st,0,none⟩))∧w.cell? ⟨bb,4,none⟩=some (.int .i64 kk)) (by kernel_rfl) ⟨c0,k4⟩ (fun hHeld=>?_)
         refine tk (i:=0) (oi:=⟨some 76,Op.move (Operand.tmp 0),_,_,_,none⟩) (v:=?_) rfl hHeld ?_ ?_;rotate_left
         ·rintro w ⟨s1,s2⟩;go_simp;try with_reducible rfl
         (try simp only[Act.put,za,zb,zc])
         refine tk (i:=1) (oi:=⟨some 77,Op.move (Operand.tmp 0),_,_,_,none⟩) (v:=?_) rfl hHeld ?_ ?_;rotate_left
         ·rintro w ⟨s1,s2⟩;go_simp;try with_reducible rfl
         (try simp only[Act.put,za,zb,zc])
         refine tk (i:=2) (oi:=⟨some 78,Op.nilCheck (Operand.tmp 77),_,_,_,none⟩) (v:=?_) rfl hHeld ?_ ?_;rotate_left
         ·rintro w ⟨s1,s2⟩;go_simp;try with_reducible rfl
         (try simp only[Act.put,za,zb,zc])
         refine tk (i:=3) (oi:=⟨some 79,Op.fieldAddr 224 (Operand.tmp 78) 0,_,_,_,none⟩) (v:=?_) rfl hHeld ?_ ?_;rotate_left
         ·rintro w ⟨s1,s2⟩;go_simp;try with_reducible rfl
         (try simp only[Act.put,za,zb,zc])
         refine tk (i:=4) (oi:=⟨some 80,Op.load 24 (Operand.tmp 79),_,_,_,none⟩) (v:=?_) rfl hHeld ?_ ?_;rotate_left
         ·rintro w ⟨s1,s2⟩;go_simp;try with_reducible rfl
         (try simp only[Act.put,za,zb,zc])
         refine tk (i:=5) (oi:=⟨some 81,Op.fieldAddr 226 (Operand.tmp 6) 1,_,_,_,none⟩) (v:=?_) rfl hHeld ?_ ?_;rotate_left
         ·rintro w ⟨s1,s2⟩;go_simp;try with_reducible rfl
         (try simp only[Act.put,za,zb,zc])
         refine tk (i:=6) (oi:=⟨some 82,Op.load 2 (Operand.tmp 81),_,_,_,none⟩) (v:=?_) rfl hHeld ?_ ?_;rotate_left
         ·rintro w ⟨s1,s2⟩;go_simp;try with_reducible rfl
         (try simp only[Act.put,za,zb,zc])
         generalize y4.drew=x6 at *;refine wpAnyH_ready (rs:=[7]) (by kernel_rfl) (by simp) ?_
         refine AllReadyH.cons (o:=⟨some 83,Op.call { callee:=Callee.value (Operand.func 30),args:=#[Operand.tmp 80,Operand.tmp 82],argTypes:=#[24,2] },_,_,_,none⟩) rfl (fun K hK=>?_) AllReadyH.nil
         go_simp
         go_at_call 30
         refine HRV.out.mono ?_;rintro e w17 ⟨rfl,hv7,ht7⟩;have HV7:=zd hv7;have HT7:=zd ht7;obtain⟨c7,-⟩:=hv7.cells;have g4:=HBT.out w17 ht7;clear hv7 ht7;refine hK.out _ _ ⟨c7,g4⟩ (fun hHeld=>?_)
         clear hK K
         (try simp only[Act.put,za,zb,zc])
         refine wpAnyH_ready (rs:=[8]) (by kernel_rfl) (by simp) ?_
         refine AllReadyH.cons (o:=⟨some 84,Op.call { callee:=Callee.value (Operand.func 135),args:=#[Operand.tmp 76,Operand.tmp 83],argTypes:=#[92,25] },_,_,_,none⟩) rfl (fun K hK=>?_) AllReadyH.nil
         go_simp
         go_at_call 135
         refine(vmet HV7.out r3).mono ?_;rintro e w18 ⟨rfl,hv8,ht8⟩;have HV8:=zd hv8;have HT8:=zd (HT7.out.trans ht8);obtain⟨c8,-⟩:=hv8.cells;have g8:=HBT.out w18 HT8.out;clear hv8 ht8;refine hK.out _ _ ⟨c8,g8⟩ (fun hHeld=>?_)
         clear hK K
         (try simp only[Act.put,za,zb,zc])
         refine tk (i:=9) (oi:=⟨some 4,Op.assign (Operand.tmp 84),_,_,_,none⟩) (v:=?_) rfl hHeld ?_ ?_;rotate_left
         ·rintro w -;go_simp;try with_reducible rfl
         (try simp only[Act.put,za,zb,zc])
         refine wpAnyH_done (by kernel_rfl) ?_ _
         clear hHeld c0 k4 g4 c7 c8 g8;go_wp2
         go_ret
         exact⟨by rw[HP.out,HRM.out];rfl,⟨_,_,by rw[HP.out,HRM.out];exact HV8.out.less fun k hk=>Or.inl hk⟩,HTY.out.trans (HT8.out.mono fun k hk e=>hk (Or.inl e))⟩
       ·have HP:=zd (HPE.out HNS.out hr2)
        have hb:(r2 != 0)=true:=by simp[hr2]
        clear hb11 hz10 hzk;go_wp2
        go_ret
        exact⟨by rw[HP.out];rfl,⟨_,_,by rw[HP.out];exact HV11.out.less fun k hk=>Or.inl hk⟩,HTW.out⟩
  ·have hm':Xf s.key.length s.znm s.node s.row.length=false:=by simpa using hm
   have HP:=zd (zmz hb0 hm');rw[hm'] at HMY;generalize V.putS s=VD at *;clear h hf hf2 hk hr hbl hlen hv2 hm hm';obtain⟨key,znm,node,row⟩:=s;unfold shV;simp only at HMY ⊢;generalize key.length=la at *;generalize row.length=ma at *
   go_enter Tryz.func64,Tryz.ntmps64
   go_upto_region 1 with fail
   have HGA:=zd (zg W (.cells #[.slice pk la ck,.int .i64 znm,.int .i64 node,.slice pr ma cr] 97) none);obtain⟨a0,a1,a2,a3,-⟩:=yx (heap_alloc_new W (.cells #[.slice pk la ck,.int .i64 znm,.int .i64 node,.slice pr ma cr] 97));generalize W.alloc (.cells #[.slice pk la ck,.int .i64 znm,.int .i64 node,.slice pr ma cr] 97)=W1 at *
   go_wp2_with (first
    | (go_at_call 65;refine(HMY.out W1).mono ?_;rintro e w2 ⟨rfl,hg⟩;have HG2:=zd (HGA.out.trans hg);clear hg)
    | (go_at_call 79;refine(HB.out W1 HGA.out).mono ?_;rintro e w9 ⟨rfl,h5⟩;obtain rfl:W1=w9:=h5.symm))
   go_ret
   exact⟨by rw[HP.out];rfl,⟨_,_,by rw[HP.out];exact H.out.grown HG2.out⟩,yl HG2.out⟩
 ·have HP:=zd (putS_a hb0 s)
  have hb1:(V.broken != 0)=true:=by simp[hb0]
  generalize V.putS s=VD at *;clear h hf hf2 hk hr hbl hlen hv2;obtain⟨key,znm,node,row⟩:=s;unfold shV;simp only;generalize key.length=la at *;generalize row.length=ma at *;generalize V.broken=br at *
  go_enter Tryz.func64,Tryz.ntmps64
  have HGA:=zd (zg W (.cells #[.slice pk la ck,.int .i64 znm,.int .i64 node,.slice pr ma cr] 97) none)
  go_upto_region 1 with fail
  generalize W.alloc (.cells #[.slice pk la ck,.int .i64 znm,.int .i64 node,.slice pr ma cr] 97)=W1 at *
  go_wp2_with (go_at_call 79;refine(HB.out W1 HGA.out).mono ?_;rintro e w9 ⟨rfl,h5⟩;obtain rfl:W1=w9:=h5.symm)
  go_ret
  exact⟨by rw[HP.out];rfl,⟨_,_,by rw[HP.out];exact H.out.grown HGA.out⟩,yl HGA.out⟩
end
end Go.Proofs.YtbcbhlfjgobejaaGreat
