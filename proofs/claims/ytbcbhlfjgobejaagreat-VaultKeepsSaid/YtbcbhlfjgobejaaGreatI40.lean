/- The vault's Open: the walk. Conditions: none, or as the theorems say. -/
import Derived.Test.YtbcbhlfjgobejaaGreatI1
import Derived.Test.YtbcbhlfjgobejaaGreatI39
set_option linter.unusedSimpArgs false
set_option linter.unusedVariables false
namespace Go.Proofs.YtbcbhlfjgobejaaGreat
set_option maxHeartbeats 200000000
open Go.RowKit Go.Sf Go.Shelf
attribute [local go_sem] Oper.semAt_some
section
variable {own own2 : Nat → Prop} {W X : World} {vb st db mb : Nat} {S : Sto} {n : Nat}
theorem getB_ok (h:Zc own W st db S) (hl:∀r∈S.recs,r.2.1.length≤200000) (k:Int):BL (S.getB k)∧(S.getB k).length≤200000:=by
 obtain⟨mb,tb,rv,rb,hS⟩:=h;unfold Sto.getB
 cases hg:zw S.recs k with
 | none=>exact⟨fun x hx=>by simp at hx,by simp⟩
 | some r=>
  have hm:=uo hg
  exact⟨(hS.ok.bytes _ hm).1,hl _ hm⟩
theorem zk9 {b:List Int} {s:ShM} (h:vsaid b=some (.inr s)) (hb:BL b):ze3 s∧BL s.key∧BL s.row:=by
 cases b with
 | nil=>cases h
 | cons k t=>
  replace h:vsaidK k t=some (.inr s):=h;unfold vsaidK at h
  split at h
  ·split at h
   ·injection h with h;cases h
   ·cases h
  ·split at h
   ·split at h
    ·rename_i he
     injection h with h
     injection h with h
     have:=okS_may he.choose_spec.1 (fun x hx=>hb x (List.mem_cons_of_mem _ hx))
     rwa [h] at this
    ·cases h
   ·cases h
def VRI (own2:Nat→Prop) (X:World) (vb st db mb:Nat) (v:Value) (V:Vlt) (o:List Int) (j:Nat) (w:World):Prop:=
 ∃Si,VO own2 X.heap.size w vb st db mb v (srt o) { V with S:=Si }∧ja V.S (srt o)=ja Si ((srt o).drop j)∧Si.d.late.length≤V.S.d.late.length+j∧zq (fun k=>¬own2 k) X w
theorem zis (S:Sto) (k:Int) (t:List Int):ja S (k :: t)=if (S.rem k).2=0 then ja (S.rem k).1 t else S.rem k:=by
 rw[ja]
 by_cases h:(S.rem k).2=0
 ·rw[if_neg (by simp[h]),if_pos h]
 ·rw[if_pos h,if_neg h]
@[go_sem] theorem mkSh (w:World):(Instr.makeMap 221 none).run Tryz.prog w = .ok (.map (some w.heap.size)) (w.alloc (.map #[] 0)):=by kernel_rfl
set_option maxRecDepth 100000 in
theorem vopen {d:Dk} (hd:vl own W db d) (hoff:d.off=false) (hlate:d.late.length+d.n<1000000) (hgood:d.opened.2=0→∀ks,Yg d ks→JGood (openS d ks)):Calls Tryz.prog 61 #[.pointer (some ⟨db,0,none⟩)] W (VOpenP own W db d):=by
 have hop:=sopen hd hoff hlate
 by_cases ho:d.opened.2=0
 ·have HOP:Hid (Calls Tryz.prog 18 #[.pointer (some ⟨db,0,none⟩)] W fun e w'=>∃st ks,e = .returned (.tuple #[.pointer (some ⟨st,0,none⟩),.int .i64 0])∧Yg d ks∧Zc own w' st db (openS d ks)∧zq (fun k=>¬own k) W w'):=zd (hop.mono (by
   rintro e w' ⟨ht,(⟨h1,_⟩|⟨_,st,ks,rfl,h2,h3⟩)⟩
   ·exact absurd ho h1
   ·exact⟨st,ks,rfl,h2,h3,ht⟩))
  have HG:=zd (hgood ho);have HO:=zd ho;clear hop hd hoff hlate hgood ho
  go_enter Tryz.func61,Tryz.ntmps61
  go_upto_region 5 with (go_at_call 18;refine HOP.out.mono ?_;rintro e w0 ⟨st,ks,rfl,hks,hs0,ht0⟩;have HKS:=zd hks;have HS0:=zd hs0;have HT0:=zd ht0;clear hks hs0 ht0)
  have HGD:=zd (HG.out ks HKS.out);have ha1:=VAt.new HS0.out;have hgw:=(zg w0 (.map #[] 0) none).trans (zg (w0.alloc (.map #[] 0)) (.cells #[.pointer (some ⟨st,0,none⟩),.int .i64 0,.int .i64 0,.map (some w0.heap.size),.int .i64 0] 224) none);have HT1:Hid (zq (fun k=>¬own k) W ((w0.alloc (.map #[] 0)).alloc (.cells #[.pointer (some ⟨st,0,none⟩),.int .i64 0,.int .i64 0,.map (some w0.heap.size),.int .i64 0] 224))):=zd (HT0.out.trans (ue hgw))
  clear hgw;generalize hSS:openS d ks=S at HS0 HGD ha1;have HSS:=zd hSS;clear hSS HG HS0 HOP;generalize (w0.alloc (.map #[] 0)).alloc (.cells #[.pointer (some ⟨st,0,none⟩),.int .i64 0,.int .i64 0,.map (some w0.heap.size),.int .i64 0] 224)=X1 at *;generalize hvb:w0.heap.size+1=vb at *;clear hvb;generalize w0.heap.size=mb at *;have HA1:=zd ha1;obtain⟨n,hn⟩:∃n,n=S.keys.length:=⟨_,rfl⟩;have HN:=zd hn;have hnl:S.keys.length=S.recs.length:=by unfold Sto.keys;rw[List.length_map]
  have hn1:n≤1000:=by have:=HGD.out.few;omega
  have HNUM:Hid (Calls Tryz.prog 26 #[.pointer (some ⟨st,0,none⟩)] X1 fun e w2=>X1.grownBy w2 none∧∃p cap,e = .returned (.slice p n cap)∧∀j (hj:j<S.keys.length),∃g,p=some ⟨g,0,none⟩∧X1.heap.size≤g∧g<w2.heap.size∧w2.cell? ⟨g,j,none⟩=some (.int .i64 S.keys[j])):=zd (by
   obtain⟨mb,tb,rv,rb,hS⟩:=ha1.sr;refine(zm8 hS HGD.out.num (by have:=HGD.out.few;show S.recs.length≤_;omega)).mono ?_
   rintro e w2 ⟨hg,v,rfl,hv⟩;have e1:(S.recs.map (·.1)).mergeSort (fun x y=>decide (x≤y))=S.keys:=List.mergeSort_of_pairwise (HGD.out.rise.imp fun {a b} h=>by simp;omega)
   have hv2:w2.ownsRow X1.heap.size 2 1 v S.recs.length (((S.recs.map (·.1)).mergeSort fun x y=>decide (x≤y)).map (Value.int .i64)):=hv
   rw[e1,←hnl,←hn] at hv2;obtain⟨p,cap,rfl,h1⟩:=key_row hn.symm hv2
   exact⟨hg,p,cap,rfl,h1⟩)
  clear ha1 hn hnl
  go_wp2_with (go_at_call 26;refine HNUM.out.mono ?_;rintro e w2 ⟨hg2,p,cap,rfl,hk⟩;have HK:=zd hk;have HG2:=zd hg2;clear hk hg2)
  obtain⟨own2,ho2⟩:∃o:Nat→Prop,o=fun k=>own k∨(X1.heap.size≤k∧k<w2.heap.size):=⟨_,rfl⟩
  have HO2:Hid ((∀k,own k→own2 k)∧(∀k,X1.heap.size≤k→k<w2.heap.size→own2 k)∧(∀k,own2 k→own k∨X1.heap.size≤k)∧(∀k,own2 k→k<w2.heap.size)):=zd (by
   have h1:=HG2.out.size;have h2:=fun k=>@VAt.olt _ _ _ _ _ _ _ _ _ HA1.out k
   subst ho2
   exact⟨fun k hk=>Or.inl hk,fun k a b=>Or.inr ⟨a,b⟩,fun k hk=>hk.imp id And.left,fun k hk=>hk.elim (fun e=>Nat.lt_of_lt_of_le (h2 k e) h1) And.right⟩)
  clear ho2;have HA2:Hid (VO own2 w2.heap.size w2 vb st db mb (.slice none 0 0) [] (Vlt.new S)):=zd ⟨⟨_,_,HA1.out.oth (ue HG2.out) (fun k hk=>hk.elim (HO2.out.2.2.1 k) fun e=>by cases e) (fun k hk=>hk.elim (HO2.out.2.2.2 k) fun e=>by cases e)⟩,⟨rfl,Or.inl ⟨rfl,rfl⟩⟩,fun g hg=>by cases hg⟩
  have HTW:Hid (zq (fun k=>¬own k) W w2):=zd (HT1.out.trans (ue HG2.out))
  clear HNUM HT0 HT1 HA1 HG2;have HZ2:Hid (∀wr,zq (fun k=>¬own2 k) w2 wr→w2.heap.size≤wr.heap.size):=zd fun wr ht=>ht.size
  go_loopw [7,35] (fun v i wr=>∃j:Nat,j≤n∧i = .int .i64 j∧VOI own2 w2 vb st db mb S j v wr) (fun _ i _=>n-(intOf i).toNat)
  case atStart=>exact⟨0,Nat.zero_le _,rfl,_,_,_,_,_,rfl,HA2.out,rfl,rfl,Nat.le_refl _,rfl,zq.refl _ _⟩
  case round=>
   obtain⟨j,hj,rfl,p1,n1,c1,o,V,rfl,ha,hS,rfl,hel,hf,ht⟩:=hrel
   by_cases hjn:j<n
   ·have hjk:j<S.keys.length:=by rw[←HN.out];exact hjn
    obtain⟨g,rfl,hg1,hg2,e0⟩:=HK.out j hjk;have e1:wr.cell? ⟨g,j,none⟩=some (.int .i64 S.keys[j]):=(World.cell?_of_block (a:=⟨g,j,none⟩) (ht.block g hg2 (fun e=>e (HO2.out.2.1 g hg1 hg2)))).trans e0
    have hgl:=xg e1;have e2:(0:Int)≤(j:Int):=by omega
    have e3:(j:Int)<(n:Int):=by omega
    have hdr:S.keys.drop j=S.keys[j] :: S.keys.drop (j+1):=List.drop_eq_getElem_cons hjk;rw[hdr] at hf;have HF:=zd hf;have HA:=zd ha;have HT:=zd ht;have HS:=zd hS;have HEL:=zd hel;have HJ:=zd (show j<n∧n≤1000 from ⟨hjn,hn1⟩)
    have HWZ:=zd (HZ2.out wr ht);have HGET:Hid (Calls Tryz.prog 21 #[.pointer (some ⟨st,0,none⟩),.int .i64 S.keys[j]] wr fun e w'=>wr.grownBy w' none∧∃p n c ok,e = .returned (.tuple #[.slice p n c,.bool ok])∧ye (fun i=>wr.heap.size≤i∧i<w'.heap.size) w' (.slice p n c) (zi (S.getB S.keys[j]))):=zd (by
     have h1:=ha.srep;rw[hS] at h1
     exact sgetB h1 _ HGD.out.short)
    have HBB:Hid (BL (S.getB S.keys[j])∧(S.getB S.keys[j]).length≤200000):=zd (by
     have h1:=ha.srep;rw[hS] at h1
     exact getB_ok h1 HGD.out.short _)
    clear e0 hdr ha hS hel hf ht;generalize S.keys[j]=kk at *
    cases hs:vsaid (S.getB kk) with
    | none=>
     have HF2:=zd ((HF.out.symm.trans (zna _ _ _ hs)))
     --F0
     go_wp2_with (first
      | (go_at_call 21;refine HGET.out.mono ?_;rintro e w3 ⟨hg3,pb,nb,cb,ok,rfl,hrow⟩;have HROW:=zd hrow;have HG3:=zd hg3;clear hrow hg3)
      | (go_at_call 129;refine(zjo HROW.out HBB.out.1 HBB.out.2).mono ?_;rintro e w4 ⟨hg4,x,rfl,hx⟩;have HG4:=zd (HG3.out.trans hg4);clear hg4;unfold Xy at hx;rw[hs] at hx;obtain rfl:=hx))
     go_ret2
     refine⟨HTW.out.trans ((HT.out.mono fun k hk e=>hk (HO2.out.1 k e)).trans (ue HG4.out)),Or.inr ⟨HO.out,st,ks,HKS.out,Or.inl ⟨?_,rfl,?_⟩⟩⟩
     ·rw[HSS.out];exact HF2.out
     ·rw[HSS.out]
      have h1:=(HA.out.grown HG4.out).srep;rw[HS.out] at h1
      exact h1.lessJ fun k hk=>HO2.out.1 k hk
     --F1
    | some r=>
     cases r with
     | inl nn=>
      have HF2:=zd ((zjk _ _ _ hs).symm.trans HF.out)
      --F0
      by_cases ha0:0<V.at_
      ·have HOA:Hid (oldA o V=o ++ [V.at_]):=zd (if_pos ha0)
       obtain⟨i0,z0,by0,hi,hz0,hz1,hz2,hz3,hz4⟩:=zl1
       go_wp2_with (first
        | (go_at_call 21;refine HGET.out.mono ?_;rintro e w3 ⟨hg3,pb,nb,cb,ok,rfl,hrow⟩;have HROW:=zd hrow;have HG3:=zd hg3;clear hrow hg3)
        | (go_at_call 129;refine(zjo HROW.out HBB.out.1 HBB.out.2).mono ?_;rintro e w4 ⟨hg4,x,rfl,hx⟩;have HG4:=zd (HG3.out.trans hg4);clear hg4;unfold Xy at hx;rw[hs] at hx;obtain rfl:=hx;obtain⟨c0,c1',c2,c3,c4,cf⟩:=(HA.out.grown HG4.out).cells)
        | (at_builtin;refine Vx (E:=2) (sz:=1) (enc:=lgE) (v:=.slice p1 o.length c1) (l:=o) (m:=[V.at_]) _ rfl _ _ 40 rfl zee zjc i0 z0 by0 Tryz.underlying40 hi hz0 hz1 hz2 hz3 (by decide) hz4 rfl (HA.out.row.grown (HG4.out.trans (zg _ _ none)) (by simp)) rfl (zmt _ V.at_) (by have:=HEL.out;have:=HJ.out;simp only[List.length_cons,List.length_nil];omega) (o.length+1) (by simp only[List.length_cons,List.length_nil]) ?_;intro p' cap' w8 hap;have happ:=VO.app HA.out (HA.out.off HO2.out.2.2.2) HWZ.out (HG4.out.trans (zg _ _ none)) hap;have HV8:=zd happ.1;have HT8:=zd happ.2;clear hap happ;clear c0 c1' c2 c3 c4 cf;obtain⟨c0,c1',c2,c3,c4,cf⟩:=HV8.out.cells))
       have HL:=HV8.out.znn nn kk
       exact⟨⟨j+1,by omega,by simp,p',_,cap',_,_,rfl,HL.1,HS.out,by simp,by have:=HEL.out;simp;omega,by rw[←HOA.out];exact HF2.out,HT.out.trans (HT8.out.trans HL.2)⟩,by simp[intOf];omega⟩
      ·have HOA:Hid (oldA o V=o):=zd (if_neg ha0)
       go_wp2_with (first
        | (go_at_call 21;refine HGET.out.mono ?_;rintro e w3 ⟨hg3,pb,nb,cb,ok,rfl,hrow⟩;have HROW:=zd hrow;have HG3:=zd hg3;clear hrow hg3)
        | (go_at_call 129;refine(zjo HROW.out HBB.out.1 HBB.out.2).mono ?_;rintro e w4 ⟨hg4,x,rfl,hx⟩;have HG4:=zd (HG3.out.trans hg4);clear hg4;unfold Xy at hx;rw[hs] at hx;obtain rfl:=hx;obtain⟨c0,c1',c2,c3,c4,cf⟩:=(HA.out.grown HG4.out).cells))
       have HL:=(HA.out.grown HG4.out).znn nn kk
       exact⟨⟨j+1,by omega,by simp,p1,_,c1,_,_,rfl,HL.1,HS.out,rfl,by have:=HEL.out;omega,(congrArg (fun x=>vfold S (S.keys.drop (j+1)) (V.znn nn kk) x) HOA.out.symm).trans HF2.out,HT.out.trans ((ue HG4.out).trans HL.2)⟩,by simp[intOf];omega⟩
      --F1
     | inr s=>
      have HF2:=zd ((zjl _ _ _ hs).symm.trans HF.out);have HMS:=zd (zk9 hs HBB.out.1)
      go_upto_region 19 with (first
       | (go_at_call 21;refine HGET.out.mono ?_;rintro e w3 ⟨hg3,pb,nb,cb,ok,rfl,hrow⟩;have HROW:=zd hrow;have HG3:=zd hg3;clear hrow hg3)
       | (go_at_call 129;refine(zjo HROW.out HBB.out.1 HBB.out.2).mono ?_;rintro e w4 ⟨hg4,x,rfl,hx⟩;have HG34:=zd hg4;clear hg4;unfold Xy at hx;rw[hs] at hx;obtain⟨pk,ck,pr,cr,rfl,hk,hr⟩:=hx;have HKR:=zd (And.intro hk hr);clear hk hr;unfold shV))
      go_upto_region 20 with fail
      have hga:=zg w4 (.cells #[.slice pk s.key.length ck,.int .i64 s.znm,.int .i64 s.node,.slice pr s.row.length cr] 97) none;have hbx:=heap_alloc_new w4 (.cells #[.slice pk s.key.length ck,.int .i64 s.znm,.int .i64 s.node,.slice pr s.row.length cr] 97);obtain⟨a0,a1,a2,a3,-⟩:=yx hbx;have HG2:=zd hga;have HB2:=zd hbx;clear hga hbx;generalize w4.alloc (.cells #[.slice pk s.key.length ck,.int .i64 s.znm,.int .i64 s.node,.slice pr s.row.length cr] 97)=W2 at *;obtain⟨Q,hQ⟩:∃Q:Nat→Prop,Q=fun k=>w3.heap.size≤k∧k<W2.heap.size:=⟨_,rfl⟩
      have HQ:Hid ((∀k,Q k→w3.heap.size≤k∧k<W2.heap.size)∧(∀k,w3.heap.size≤k→k<W2.heap.size→Q k)):=zd (by subst hQ;exact⟨fun k hk=>hk,fun k h1 h2=>⟨h1,h2⟩⟩)
      clear hQ;have HVQ:Hid (VO (fun k=>own2 k∨Q k) w2.heap.size W2 vb st db mb (.slice p1 o.length c1) o V):=zd ((HA.out.grown HG3.out).more (HG34.out.trans HG2.out) HQ.out.1)
      have HRW:Hid (ye Q W2 (.slice pk s.key.length ck) (zi s.key)∧ye Q W2 (.slice pr s.row.length cr) (zi s.row)):=zd ⟨(HKR.out.1.gr HG2.out).mono fun k hk=>HQ.out.2 k hk.1 (Nat.lt_of_lt_of_le hk.2 HG2.out.size),(HKR.out.2.gr HG2.out).mono fun k hk=>HQ.out.2 k hk.1 (Nat.lt_of_lt_of_le hk.2 HG2.out.size)⟩
      have HID:Hid (∀w,ye Q w (.slice pk s.key.length ck) (zi s.key)→Calls Tryz.prog 130 #[.agg #[.slice pk s.key.length ck,.int .i64 s.znm,.int .i64 s.node,.slice pr s.row.length cr]] w fun e w'=>e = .returned (.agg #[.string (ofB s.key),.int .i64 s.znm])∧w.grownBy w' none):=zd fun w hw=>zfk hw.raw
      obtain⟨km,vk,hva⟩:=HVQ.out.va;have HMM:=zd hva.mp;have hlk:=hva.look (idS s);have HVM:Hid (vb<W2.heap.size∧mb<W2.heap.size∧vb<w3.heap.size∧mb<w3.heap.size):=zd (by
       obtain⟨km9,vk9,h9⟩:=HA.out.va;have:=HG3.out.size
       exact⟨hva.vlt hva.vvb,hva.vlt hva.vmb,Nat.lt_of_lt_of_le (h9.vlt h9.vvb) this,Nat.lt_of_lt_of_le (h9.vlt h9.vmb) this⟩)
      obtain⟨-,-,-,c3,-,-⟩:=hva.cells;clear hva;generalize hkx:jv km (idS s)=X at *;have HKX:=zd hkx;clear hkx;obtain⟨kpk,kck,kpr,kcr,ks,kk0⟩:=X;simp only at hlk;obtain⟨is,hIS⟩:∃is,(zw km (idS s)).isSome=is:=⟨_,rfl⟩;have HOK:Hid (zei o V (idS s)=if is=true then o ++ [kk0] else o):=zd (by unfold zei;rw[hlk.1,hlk.2,hIS])
      have hvv:Value.tuple #[uw (jv km (idS s)),.bool (zw km (idS s)).isSome] = .tuple #[.agg #[.slice kpk ks.key.length kck,.int .i64 ks.znm,.int .i64 ks.node,.slice kpr ks.row.length kcr,.int .i64 kk0],.bool is]:=by rw[HKX.out,hIS];rfl
      have HID9:Hid (idS s=⟨ofB s.key,s.znm⟩):=zd rfl;rw[HID9.out] at hvv;have HVV:=zd hvv;obtain⟨ik,hik⟩:∃ik,ofB s.key=ik:=⟨_,rfl⟩;rw[hik] at HVV HID;have HIK:Hid (idS s=⟨ik,s.znm⟩):=zd (by rw[HID9.out,hik])
      clear hvv hIS hik HID9 HKX hlk;generalize zei o V (idS s)=o2 at *;obtain⟨kkey,kver,knode,krow⟩:=ks;obtain⟨s0,hs0⟩:∃s0,s=s0:=⟨_,rfl⟩;have HSV:Hid (s.znm=s0.znm):=zd (by rw[hs0])
      rw[hs0] at HF2 HIK HMS;have HS0:=zd hs0;clear hs0 hs;obtain⟨key,znm,node,row⟩:=s;simp only at HVV HID HIK HSV HRW HKR a0 a1 a2 a3 HB2 ⊢;generalize hla:key.length=la at *;generalize hma:row.length=ma at *;have HLA:=zd (And.intro hla hma);clear hla hma;generalize kkey.length=kla at *;generalize krow.length=kma at *;have hb1w:=xg a0;have HBW:Hid (w4.heap.size<W2.heap.size∧Q w4.heap.size):=zd ⟨hb1w,HQ.out.2 _ HG34.out.size hb1w⟩;clear hb1w;generalize w4.heap.size=b1 at *
      go_cut [14,15] (fun a i wx=>∃bb,a = .pointer (some ⟨bb,0,none⟩)∧i = .bool is∧Lkd W2 b1 bb #[.slice pk la ck,.int .i64 znm,.int .i64 node,.slice pr ma cr] #[.slice kpk kla kck,.int .i64 kver,.int .i64 knode,.slice kpr kma kcr,.int .i64 kk0] wx)
      case first=>
       --F0
       refine wp_region_held_drew (S:=fun w=>w.cell? ⟨vb,3,none⟩=some (.map (some mb))∧w.cell? ⟨b1,0,none⟩=some (.slice pk la ck)∧w.cell? ⟨b1,1,none⟩=some (.int .i64 znm)∧w.cell? ⟨b1,2,none⟩=some (.int .i64 node)∧w.cell? ⟨b1,3,none⟩=some (.slice pr ma cr)∧yg w mb yu uw km) (by kernel_rfl) ⟨c3,a0,a1,a2,a3,HMM.out⟩ (fun hHeld=>?_)
       have HGx0:Hid (W2.grownBy W2.drew none):=zd (zl (zm _));have HBx0:Hid (W2.drew.heap[b1]? = some (.cells #[.slice pk la ck,.int .i64 znm,.int .i64 node,.slice pr ma cr] 97 (0,0))):=zd HB2.out;have HX0:Hid (∀w,W2.drew.grownBy w none→W2.grownBy w none):=zd fun w hg=>(zl (zm W2)).trans hg
       generalize W2.drew=x0 at *;refine tk (i:=0) (oi:=⟨some 74,Op.move (Operand.tmp 6),_,_,_,none⟩) (v:=?_) rfl hHeld ?_ ?_;rotate_left
       ·rintro w -;go_simp;try with_reducible rfl
       (try simp only[Act.put,za,zb,zc])
       refine tk (i:=4) (oi:=⟨some 78,Op.load 97 (Operand.tmp 13),_,_,_,none⟩) (v:=?_) rfl hHeld ?_ ?_;rotate_left
       ·rintro w ⟨s1,s2,s3,s4,s5,s6⟩;go_simp;try with_reducible rfl
       (try simp only[Act.put,za,zb,zc])
       refine tk (i:=1) (oi:=⟨some 75,Op.nilCheck (Operand.tmp 74),_,_,_,none⟩) (v:=?_) rfl hHeld ?_ ?_;rotate_left
       ·rintro w -;go_simp;try with_reducible rfl
       (try simp only[Act.put,za,zb,zc])
       refine tk (i:=2) (oi:=⟨some 76,Op.fieldAddr 224 (Operand.tmp 75) 3,_,_,_,none⟩) (v:=?_) rfl hHeld ?_ ?_;rotate_left
       ·rintro w -;go_simp;try with_reducible rfl
       (try simp only[Act.put,za,zb,zc])
       refine tk (i:=3) (oi:=⟨some 77,Op.load 221 (Operand.tmp 76),_,_,_,none⟩) (v:=?_) rfl hHeld ?_ ?_;rotate_left
       ·rintro w ⟨s1,s2,s3,s4,s5,s6⟩;go_simp;try with_reducible rfl
       (try simp only[Act.put,za,zb,zc])
       refine wpAnyH_ready (rs:=[5,10]) (by kernel_rfl) (by simp) ?_
       refine(AllReadyH.cons (o:=⟨some 79,Op.call { callee:=Callee.value (Operand.func 130),args:=#[Operand.tmp 78],argTypes:=#[97] },_,_,_,none⟩) rfl (fun K hK=>?_) (AllReadyH.cons (o:=⟨some 14,Op.alloc 226,_,_,_,none⟩) rfl (fun K hK=>?_) AllReadyH.nil))
       ·go_simp
        go_at_call 130
        refine(HID.out x0 (HRW.out.1.gr HGx0.out)).mono ?_;rintro e x1 ⟨rfl,hg⟩;have HGx1:=zd (HGx0.out.trans hg);have HBx1:=zd ((hg.block b1 (Array.getElem?_eq_some_iff.1 HBx0.out).1 (by simp)).trans HBx0.out)
        refine hK.out _ _ ⟨hg.cell hHeld.1 (by simp),hg.cell hHeld.2.1 (by simp),hg.cell hHeld.2.2.1 (by simp),hg.cell hHeld.2.2.2.1 (by simp),hg.cell hHeld.2.2.2.2.1 (by simp),hHeld.2.2.2.2.2.kept hg (by simp)⟩ (fun hHeld=>?_)
        clear hK K
        (try simp only[Act.put,za,zb,zc])
        clear hg;refine wpAnyH_take (i:=6) (oi:=⟨some 80,Op.lookup 221 (Operand.tmp 77) (Operand.tmp 79) true,_,_,_,none⟩) (v:=.tuple #[.agg #[.slice kpk kla kck,.int .i64 kver,.int .i64 knode,.slice kpr kma kcr,.int .i64 kk0],.bool is]) rfl (by kernel_rfl) (by kernel_rfl) (by kernel_rfl) (fun _ _ _ h=>h) (Or.inl ⟨by rfl,fun w hSw=>jq (i:=⟨ik,znm⟩) _ _ (by rfl) (by rfl) (by rfl) HVV.out hSw.2.2.2.2.2⟩) hHeld ?_
        (try simp only[Act.put,za,zb,zc])
        refine tk (i:=7) (oi:=⟨some 73,Op.move (Operand.tmp 80),_,_,_,none⟩) (v:=?_) rfl hHeld ?_ ?_;rotate_left
        ·rintro w -;go_simp;try with_reducible rfl
        (try simp only[Act.put,za,zb,zc])
        refine tk (i:=8) (oi:=⟨some 81,Op.extract (Operand.tmp 73) 0,_,_,_,none⟩) (v:=?_) rfl hHeld ?_ ?_;rotate_left
        ·rintro w -;go_simp;try with_reducible rfl
        (try simp only[Act.put,za,zb,zc])
        refine tk (i:=9) (oi:=⟨some 82,Op.extract (Operand.tmp 73) 1,_,_,_,none⟩) (v:=?_) rfl hHeld ?_ ?_;rotate_left
        ·rintro w -;go_simp;try with_reducible rfl
        (try simp only[Act.put,za,zb,zc])
        refine wpAnyH_ready (rs:=[10]) (by kernel_rfl) (by simp) ?_
        refine(AllReadyH.cons (o:=⟨some 14,Op.alloc 226,_,_,_,none⟩) rfl (fun K hK=>?_) AllReadyH.nil)
        refine xw rfl (ve 226 rfl Zh) ?_;have hg:=zg x1 (.cells qc.cells 226) none;have HKx2:=zd (heap_alloc_new x1 (.cells qc.cells 226));have HGx2:=zd (HGx1.out.trans hg);have HBx2:=zd ((hg.block b1 (Array.getElem?_eq_some_iff.1 HBx1.out).1 (by simp)).trans HBx1.out)
        have HBN:Hid (b1<x1.heap.size∧W2.heap.size≤x1.heap.size):=zd ⟨(Array.getElem?_eq_some_iff.1 HBx1.out).1,HGx1.out.size⟩;refine hK.out _ _ ⟨hg.cell hHeld.1 (by simp),hg.cell hHeld.2.1 (by simp),hg.cell hHeld.2.2.1 (by simp),hg.cell hHeld.2.2.2.1 (by simp),hg.cell hHeld.2.2.2.2.1 (by simp),hHeld.2.2.2.2.2.kept hg (by simp)⟩ (fun hHeld=>?_)
        clear hK K
        (try simp only[Act.put,za,zb,zc])
        clear hg;generalize hbb:x1.heap.size=bb at *;clear hbb;generalize x1.alloc (.cells qc.cells 226)=x2 at *;refine wpAnyH_ready (rs:=[11]) (by kernel_rfl) (by simp) ?_
        refine(AllReadyH.cons (o:=⟨none,Op.store 226 (Operand.tmp 14) (Operand.tmp 81),_,_,_,none⟩) rfl (fun K hK=>?_) AllReadyH.nil)
        refine xc rfl (uh 226 _ _ rfl bb #[.slice kpk kla kck,.int .i64 kver,.int .i64 knode,.slice kpr kma kcr,.int .i64 kk0] _ qc.cells rfl rfl HKx2.out (by kernel_rfl) rfl (by simp[Value.oneCell'])) ?_
        have hg:=qy x2 bb #[.slice kpk kla kck,.int .i64 kver,.int .i64 knode,.slice kpr kma kcr,.int .i64 kk0];have hne:=HBN.out;have HL:Hid (Lkd W2 b1 bb #[.slice pk la ck,.int .i64 znm,.int .i64 node,.slice pr ma cr] #[.slice kpk kla kck,.int .i64 kver,.int .i64 knode,.slice kpr kma kcr,.int .i64 kk0] (x2.setRow bb #[.slice kpk kla kck,.int .i64 kver,.int .i64 knode,.slice kpr kma kcr,.int .i64 kk0])):=zd ⟨xi HGx2.out hg (fun q hq=>by injection hq with hq;omega),(hg.block b1 (Array.getElem?_eq_some_iff.1 HBx2.out).1 (fun e=>by have e2:b1=bb:=Option.some.inj e;omega)).trans HBx2.out,setRow_heap _ _ _ _ _ _ HKx2.out,hne.2⟩
        refine hK.out _ _ ⟨hg.cell hHeld.1 (fun e=>by have e2:vb=bb:=Option.some.inj e;have:=HVM.out;omega),hg.cell hHeld.2.1 (fun e=>by have e2:b1=bb:=Option.some.inj e;omega),hg.cell hHeld.2.2.1 (fun e=>by have e2:b1=bb:=Option.some.inj e;omega),hg.cell hHeld.2.2.2.1 (fun e=>by have e2:b1=bb:=Option.some.inj e;omega),hg.cell hHeld.2.2.2.2.1 (fun e=>by have e2:b1=bb:=Option.some.inj e;omega),hHeld.2.2.2.2.2.kept hg (fun e=>by have e2:mb=bb:=Option.some.inj e;have:=HVM.out;omega)⟩ (fun hHeld=>?_)
        clear hK K
        (try simp only[Act.put])
        clear hg hne;generalize x2.setRow bb #[.slice kpk kla kck,.int .i64 kver,.int .i64 knode,.slice kpr kma kcr,.int .i64 kk0]=x3 at *;refine tk (i:=12) (oi:=⟨some 15,Op.assign (Operand.tmp 82),_,_,_,none⟩) (v:=?_) rfl hHeld ?_ ?_;rotate_left
        ·rintro w -;go_simp;try with_reducible rfl
        (try simp only[Act.put,za,zb,zc])
        refine wpAnyH_done (by kernel_rfl) ?_ _
        go_wp2_with fail
        go_meet
        case rel=>exact⟨bb,rfl,rfl,HL.out⟩
       ·refine xw rfl (ve 226 rfl Zh) ?_
        have hg:=zg x0 (.cells qc.cells 226) none;have HKx1:=zd (heap_alloc_new x0 (.cells qc.cells 226));have HGx1:=zd (HGx0.out.trans hg);have HBx1:=zd ((hg.block b1 (Array.getElem?_eq_some_iff.1 HBx0.out).1 (by simp)).trans HBx0.out)
        have HBN:Hid (b1<x0.heap.size∧W2.heap.size≤x0.heap.size):=zd ⟨(Array.getElem?_eq_some_iff.1 HBx0.out).1,HGx0.out.size⟩;refine hK.out _ _ ⟨hg.cell hHeld.1 (by simp),hg.cell hHeld.2.1 (by simp),hg.cell hHeld.2.2.1 (by simp),hg.cell hHeld.2.2.2.1 (by simp),hg.cell hHeld.2.2.2.2.1 (by simp),hHeld.2.2.2.2.2.kept hg (by simp)⟩ (fun hHeld=>?_)
        clear hK K
        (try simp only[Act.put,za,zb,zc])
        clear hg;generalize hbb:x0.heap.size=bb at *;clear hbb;generalize x0.alloc (.cells qc.cells 226)=x1 at *;refine wpAnyH_ready (rs:=[5]) (by kernel_rfl) (by simp) ?_
        refine(AllReadyH.cons (o:=⟨some 79,Op.call { callee:=Callee.value (Operand.func 130),args:=#[Operand.tmp 78],argTypes:=#[97] },_,_,_,none⟩) rfl (fun K hK=>?_) AllReadyH.nil)
        go_simp
        go_at_call 130
        refine(HID.out x1 (HRW.out.1.gr HGx1.out)).mono ?_;rintro e x2 ⟨rfl,hg⟩;have HGx2:=zd (HGx1.out.trans hg);have HBx2:=zd ((hg.block b1 (Array.getElem?_eq_some_iff.1 HBx1.out).1 (by simp)).trans HBx1.out)
        have HKx2:=zd ((hg.block bb (Array.getElem?_eq_some_iff.1 HKx1.out).1 (by simp)).trans HKx1.out)
        refine hK.out _ _ ⟨hg.cell hHeld.1 (by simp),hg.cell hHeld.2.1 (by simp),hg.cell hHeld.2.2.1 (by simp),hg.cell hHeld.2.2.2.1 (by simp),hg.cell hHeld.2.2.2.2.1 (by simp),hHeld.2.2.2.2.2.kept hg (by simp)⟩ (fun hHeld=>?_)
        clear hK K
        (try simp only[Act.put,za,zb,zc])
        clear hg;refine wpAnyH_take (i:=6) (oi:=⟨some 80,Op.lookup 221 (Operand.tmp 77) (Operand.tmp 79) true,_,_,_,none⟩) (v:=.tuple #[.agg #[.slice kpk kla kck,.int .i64 kver,.int .i64 knode,.slice kpr kma kcr,.int .i64 kk0],.bool is]) rfl (by kernel_rfl) (by kernel_rfl) (by kernel_rfl) (fun _ _ _ h=>h) (Or.inl ⟨by rfl,fun w hSw=>jq (i:=⟨ik,znm⟩) _ _ (by rfl) (by rfl) (by rfl) HVV.out hSw.2.2.2.2.2⟩) hHeld ?_
        (try simp only[Act.put,za,zb,zc])
        refine tk (i:=7) (oi:=⟨some 73,Op.move (Operand.tmp 80),_,_,_,none⟩) (v:=?_) rfl hHeld ?_ ?_;rotate_left
        ·rintro w -;go_simp;try with_reducible rfl
        (try simp only[Act.put,za,zb,zc])
        refine tk (i:=8) (oi:=⟨some 81,Op.extract (Operand.tmp 73) 0,_,_,_,none⟩) (v:=?_) rfl hHeld ?_ ?_;rotate_left
        ·rintro w -;go_simp;try with_reducible rfl
        (try simp only[Act.put,za,zb,zc])
        refine tk (i:=9) (oi:=⟨some 82,Op.extract (Operand.tmp 73) 1,_,_,_,none⟩) (v:=?_) rfl hHeld ?_ ?_;rotate_left
        ·rintro w -;go_simp;try with_reducible rfl
        (try simp only[Act.put,za,zb,zc])
        refine wpAnyH_ready (rs:=[11]) (by kernel_rfl) (by simp) ?_
        refine(AllReadyH.cons (o:=⟨none,Op.store 226 (Operand.tmp 14) (Operand.tmp 81),_,_,_,none⟩) rfl (fun K hK=>?_) AllReadyH.nil)
        refine xc rfl (uh 226 _ _ rfl bb #[.slice kpk kla kck,.int .i64 kver,.int .i64 knode,.slice kpr kma kcr,.int .i64 kk0] _ qc.cells rfl rfl HKx2.out (by kernel_rfl) rfl (by simp[Value.oneCell'])) ?_
        have hg:=qy x2 bb #[.slice kpk kla kck,.int .i64 kver,.int .i64 knode,.slice kpr kma kcr,.int .i64 kk0];have hne:=HBN.out;have HL:Hid (Lkd W2 b1 bb #[.slice pk la ck,.int .i64 znm,.int .i64 node,.slice pr ma cr] #[.slice kpk kla kck,.int .i64 kver,.int .i64 knode,.slice kpr kma kcr,.int .i64 kk0] (x2.setRow bb #[.slice kpk kla kck,.int .i64 kver,.int .i64 knode,.slice kpr kma kcr,.int .i64 kk0])):=zd ⟨xi HGx2.out hg (fun q hq=>by injection hq with hq;omega),(hg.block b1 (Array.getElem?_eq_some_iff.1 HBx2.out).1 (fun e=>by have e2:b1=bb:=Option.some.inj e;omega)).trans HBx2.out,setRow_heap _ _ _ _ _ _ HKx2.out,hne.2⟩
        refine hK.out _ _ ⟨hg.cell hHeld.1 (fun e=>by have e2:vb=bb:=Option.some.inj e;have:=HVM.out;omega),hg.cell hHeld.2.1 (fun e=>by have e2:b1=bb:=Option.some.inj e;omega),hg.cell hHeld.2.2.1 (fun e=>by have e2:b1=bb:=Option.some.inj e;omega),hg.cell hHeld.2.2.2.1 (fun e=>by have e2:b1=bb:=Option.some.inj e;omega),hg.cell hHeld.2.2.2.2.1 (fun e=>by have e2:b1=bb:=Option.some.inj e;omega),hHeld.2.2.2.2.2.kept hg (fun e=>by have e2:mb=bb:=Option.some.inj e;have:=HVM.out;omega)⟩ (fun hHeld=>?_)
        clear hK K
        (try simp only[Act.put])
        clear hg hne;generalize x2.setRow bb #[.slice kpk kla kck,.int .i64 kver,.int .i64 knode,.slice kpr kma kcr,.int .i64 kk0]=x3 at *;refine tk (i:=12) (oi:=⟨some 15,Op.assign (Operand.tmp 82),_,_,_,none⟩) (v:=?_) rfl hHeld ?_ ?_;rotate_left
        ·rintro w -;go_simp;try with_reducible rfl
        (try simp only[Act.put,za,zb,zc])
        refine wpAnyH_done (by kernel_rfl) ?_ _
        go_wp2_with fail
        go_meet
        case rel=>exact⟨bb,rfl,rfl,HL.out⟩
       --F1
      case rest=>
       obtain⟨bb,rfl,rfl,hcut⟩:=hcut;have HLK:=zd hcut;have k4:wc.cell? ⟨bb,4,none⟩=some (.int .i64 kk0):=(zh hcut.hbb 4).trans rfl;have HWZ2:Hid (wr.heap.size≤W2.heap.size∧wr.heap.size≤w3.heap.size):=zd ⟨Nat.le_trans HG3.out.size (Nat.le_trans HG34.out.size HG2.out.size),HG3.out.size⟩;have HRL:Hid (∀g,(Value.slice p1 o.length c1).ownBlock=some g→g<w3.heap.size):=zd fun g hg=>Nat.lt_of_lt_of_le (HA.out.row.lt hg) HWZ2.out.2
       have HOFF:Hid (∀k,(own2 k∨Q k)→(Value.slice p1 o.length c1).ownBlock≠some k):=zd fun k hk e=>by
        rcases hk with h1|h1
        ·exact HA.out.off HO2.out.2.2.2 k h1 e
        ·have:=HRL.out k e;have:=(HQ.out.1 k h1).1;omega
       clear hcut c3 a0 a1 a2 a3
       --F0
       cases is with
       | false=>
        have HO2X:Hid (o2=o):=zd (HOK.out.trans (if_neg (by decide)))
        have HVX:Hid (VO (fun k=>own2 k∨Q k) w2.heap.size wc vb st db mb (.slice p1 o.length c1) o V):=zd (HVQ.out.grown HLK.out.gr)
        have HTX:Hid (zq (fun k=>¬(own2 k∨Q k)) W2 wc):=zd (ue HLK.out.gr)
        have HQO:Hid (∀k,Q k→(Value.slice p1 o.length c1).ownBlock≠some k):=zd fun k hk=>HOFF.out k (Or.inr hk)
        have HLN:Hid (o.length≤j+1):=zd (by have:=HEL.out;omega)
        rw[HO2X.out] at HF2
        go_upto_region 23 with fail
        have hb1x:wc.heap[b1]? = some (.cells #[.slice pk la ck,.int .i64 znm,.int .i64 node,.slice pr ma cr] 97 (0,0)):=(HTX.out.block b1 HBW.out.1 (fun e=>e (Or.inr HBW.out.2))).trans HB2.out
        obtain⟨a0,a1,a2,a3,-⟩:=yx hb1x;obtain⟨-,-,-,c3,-,-⟩:=HVX.out.cells;have HTd:Hid (zq (fun k=>¬(own2 k∨Q k)) W2 wc.drew):=zd (HTX.out.trans (ue (zl (zm _))))
        have HVd:=zd (HVX.out.grown (zl (zm _)));have HRd:Hid (ye Q wc.drew (.slice pk la ck) (zi key)∧ye Q wc.drew (.slice pr ma cr) (zi row)):=zd ⟨HRW.out.1.turn fun k hk=>HTd.out.block k (HQ.out.1 k hk).2 (fun e=>e (Or.inr hk)),HRW.out.2.turn fun k hk=>HTd.out.block k (HQ.out.1 k hk).2 (fun e=>e (Or.inr hk))⟩
        clear hb1x HVX HTX;refine wp_region_held_drew (S:=fun w=>w.cell? ⟨vb,3,none⟩=some (.map (some mb))∧w.cell? ⟨b1,0,none⟩=some (.slice pk la ck)∧w.cell? ⟨b1,1,none⟩=some (.int .i64 znm)∧w.cell? ⟨b1,2,none⟩=some (.int .i64 node)∧w.cell? ⟨b1,3,none⟩=some (.slice pr ma cr)) (by kernel_rfl) ⟨c3,a0,a1,a2,a3⟩ (fun hHeld=>?_)
        clear c3 a0 a1 a2 a3;generalize wc.drew=y1 at *;refine tk (i:=0) (oi:=⟨some 89,Op.move (Operand.tmp 6),_,_,_,none⟩) (v:=?_) rfl hHeld ?_ ?_;rotate_left
        ·rintro w -;go_simp;try with_reducible rfl
        (try simp only[Act.put,za,zb,zc])
        refine tk (i:=1) (oi:=⟨some 90,Op.nilCheck (Operand.tmp 89),_,_,_,none⟩) (v:=?_) rfl hHeld ?_ ?_;rotate_left
        ·rintro w -;go_simp;try with_reducible rfl
        (try simp only[Act.put,za,zb,zc])
        refine tk (i:=2) (oi:=⟨some 91,Op.fieldAddr 224 (Operand.tmp 90) 3,_,_,_,none⟩) (v:=?_) rfl hHeld ?_ ?_;rotate_left
        ·rintro w -;go_simp;try with_reducible rfl
        (try simp only[Act.put,za,zb,zc])
        refine tk (i:=3) (oi:=⟨some 92,Op.load 221 (Operand.tmp 91),_,_,_,none⟩) (v:=?_) rfl hHeld ?_ ?_;rotate_left
        ·rintro w ⟨s1,s2,s3,s4,s5⟩;go_simp;try with_reducible rfl
        (try simp only[Act.put,za,zb,zc])
        refine tk (i:=4) (oi:=⟨some 93,Op.load 97 (Operand.tmp 13),_,_,_,none⟩) (v:=?_) rfl hHeld ?_ ?_;rotate_left
        ·rintro w ⟨s1,s2,s3,s4,s5⟩;go_simp;try with_reducible rfl
        (try simp only[Act.put,za,zb,zc])
        refine tk (i:=6) (oi:=⟨some 95,Op.load 97 (Operand.tmp 13),_,_,_,none⟩) (v:=?_) rfl hHeld ?_ ?_;rotate_left
        ·rintro w ⟨s1,s2,s3,s4,s5⟩;go_simp;try with_reducible rfl
        (try simp only[Act.put,za,zb,zc])
        refine tk (i:=7) (oi:=⟨some 96,Op.move (Operand.tmp 9),_,_,_,none⟩) (v:=?_) rfl hHeld ?_ ?_;rotate_left
        ·rintro w -;go_simp;try with_reducible rfl
        (try simp only[Act.put,za,zb,zc])
        refine tk (i:=8) (oi:=⟨some 97,Op.build 226 #[(0,Operand.tmp 95),(1,Operand.tmp 96)],_,_,_,none⟩) (v:=?_) rfl hHeld ?_ ?_;rotate_left
        ·rintro w -;go_simp;try with_reducible rfl
        (try simp only[Act.put,za,zb,zc])
        refine wpAnyH_ready (rs:=[5]) (by kernel_rfl) (by simp) ?_
        refine AllReadyH.cons (o:=⟨some 94,Op.call { callee:=Callee.value (Operand.func 130),args:=#[Operand.tmp 93],argTypes:=#[97] },_,_,_,none⟩) rfl (fun K hK=>?_) AllReadyH.nil
        go_simp
        go_at_call 130
        refine(HID.out y1 HRd.out.1).mono ?_;rintro e y2 ⟨rfl,hg⟩;have HGY2:=zd hg;refine hK.out _ _ ⟨hg.cell hHeld.1 (by simp),hg.cell hHeld.2.1 (by simp),hg.cell hHeld.2.2.1 (by simp),hg.cell hHeld.2.2.2.1 (by simp),hg.cell hHeld.2.2.2.2 (by simp)⟩ (fun hHeld=>?_)
        clear hK K
        (try simp only[Act.put,za,zb,zc])
        clear hg;have HVy:=zd (HVd.out.grown HGY2.out);obtain⟨kmx,vkx,hvax⟩:=HVy.out.va;have hm3:=hvax.mp.update (P:=Tryz.prog) keID Tryz.underlying221 ⟨ik,znm⟩ ⟨pk,ck,pr,cr,⟨key,znm,node,row⟩,kk⟩;obtain⟨y4,hrun,hm4,hg4,hz4⟩:=hm3;have hek:uw ⟨pk,ck,pr,cr,⟨key,znm,node,row⟩,kk⟩ = .agg #[.slice pk la ck,.int .i64 znm,.int .i64 node,.slice pr ma cr,.int .i64 kk]:=by rw[←HLA.out.1,←HLA.out.2];rfl
        rw[hek] at hrun;have HRU:Hid ((Instr.mapUpdate 221 (.map (some mb)) (.agg #[.string ik,.int .i64 znm]) (.agg #[.slice pk la ck,.int .i64 znm,.int .i64 node,.slice pr ma cr,.int .i64 kk])).run Tryz.prog y2 = .ok () y4):=zd hrun;have hkx:Jl Q y2 ⟨pk,ck,pr,cr,⟨key,znm,node,row⟩,kk⟩:=by
         have h1:=HRd.out.1.gr HGY2.out;have h2:=HRd.out.2.gr HGY2.out;rw[←HLA.out.1] at h1;rw[←HLA.out.2] at h2;have h3:=HMS.out;rw[←HS0.out] at h3
         exact⟨h1,h2,h3.1,h3.2⟩
        have hqv:∀k,Q k→k≠vb∧k≠mb:=fun k hk=>by
         have h1:=(HQ.out.1 k hk).1;have h2:=HVM.out;omega
        have hkp:=HVy.out.keep (fun k hk=>⟨fun e=>by
         have h1:=HO2.out.2.2.2 k e;have h2:=HWZ.out;have h3:=HWZ2.out.2;have h4:=(HQ.out.1 k hk).1;omega,HQO.out k hk⟩) hkx hqv hvax hm4 hg4 hz4
        have HKP:Hid (VO own2 w2.heap.size y4 vb st db mb (.slice p1 o.length c1) (o) (V.keep (idS s0) s0 kk)∧zq (fun k=>¬own2 k) y2 y4):=zd (by
         rw[HIK.out,←HSV.out,←HS0.out]
         exact hkp)
        have HOLD:Hid (y4.cell? ⟨vb,3,none⟩=some (.map (some mb))∧y4.cell? ⟨b1,0,none⟩=some (.slice pk la ck)∧y4.cell? ⟨b1,1,none⟩=some (.int .i64 znm)∧y4.cell? ⟨b1,2,none⟩=some (.int .i64 node)∧y4.cell? ⟨b1,3,none⟩=some (.slice pr ma cr)):=zd (by
         have h1:vb≠mb:=hvax.ne;have h2:b1≠mb:=(hqv b1 HBW.out.2).2
         exact⟨hg4.cell hHeld.1 (fun e=>h1 (Option.some.inj e)),hg4.cell hHeld.2.1 (fun e=>h2 (Option.some.inj e)),hg4.cell hHeld.2.2.1 (fun e=>h2 (Option.some.inj e)),hg4.cell hHeld.2.2.2.1 (fun e=>h2 (Option.some.inj e)),hg4.cell hHeld.2.2.2.2 (fun e=>h2 (Option.some.inj e))⟩)
        clear hrun hm4 hg4 hz4 hek hkp hkx hqv hvax HVy HVd HRd;refine wpAnyH_ready (rs:=[9]) (by kernel_rfl) (by simp) ?_
        refine AllReadyH.cons (o:=⟨none,Op.mapUpdate 221 (Operand.tmp 92) (Operand.tmp 94) (Operand.tmp 97),_,_,_,none⟩) rfl (fun K hK=>?_) AllReadyH.nil
        refine xc rfl (qm _ _ _ rfl rfl rfl rfl HRU.out) ?_;refine hK.out _ _ ⟨HOLD.out.1,HOLD.out.2.1,HOLD.out.2.2.1,HOLD.out.2.2.2.1,HOLD.out.2.2.2.2⟩ (fun hHeld=>?_)
        clear hK K
        (try simp only[Act.put])
        refine wpAnyH_done (by kernel_rfl) ?_ _
        clear hHeld HOLD HRU;go_wp2
        exact⟨⟨j+1,by omega,by simp,_,_,_,_,_,rfl,HKP.out.1,HS.out,rfl,by have:=HLN.out;simpa using this,HF2.out,HT.out.trans ((ue (HG3.out.trans (HG34.out.trans HG2.out))).trans ((HTd.out.mono fun k hk e=>hk (Or.inl e)).trans ((ue HGY2.out).trans HKP.out.2)))⟩,by simp[intOf];omega⟩
       | true=>
        have HO2X:Hid (o2=o ++ [kk0]):=zd (HOK.out.trans (if_pos rfl));obtain⟨i0,z0,by0,hi,hz0,hz1,hz2,hz3,hz4⟩:=zl1;rw[HO2X.out] at HF2
        go_upto_region 23 with (at_builtin;refine Vx (E:=2) (sz:=1) (enc:=lgE) (v:=.slice p1 o.length c1) (l:=o) (m:=[kk0]) _ rfl _ _ 40 rfl zee zjc i0 z0 by0 Tryz.underlying40 hi hz0 hz1 hz2 hz3 (by decide) hz4 rfl (HVQ.out.row.grown (HLK.out.gr.trans (zg _ _ none)) (by simp)) rfl (zmt _ kk0) (by have:=HEL.out;have:=HJ.out;simp only[List.length_cons,List.length_nil];omega) (o.length+1) (by simp only[List.length_cons,List.length_nil]) ?_;intro p' cap' w8 hap;have happ:=VO.app HVQ.out HOFF.out (Nat.le_trans HWZ.out HWZ2.out.1) (HLK.out.gr.trans (zg _ _ none)) hap;have HVX:=zd happ.1;have HTX:=zd happ.2;have HO8:=zd hap.2.2;clear hap happ)
        have HQO:Hid (∀k,Q k→(Value.slice p' (o.length+1) cap').ownBlock≠some k):=zd fun k hk e=>by
         rcases HO8.out with e2|e2
         ·exact HOFF.out k (Or.inr hk) (e2.symm.trans e)
         ·have e3:=e2.symm.trans e
          injection e3 with e3
          have h1:=(HQ.out.1 k hk).2;have h2:=HLK.out.gr.size;simp only[World.alloc,Array.size_push] at e3;omega
        have HLN:Hid (o.length+1≤j+1):=zd (by have:=HEL.out;omega)
        have hb1x:w8.heap[b1]? = some (.cells #[.slice pk la ck,.int .i64 znm,.int .i64 node,.slice pr ma cr] 97 (0,0)):=(HTX.out.block b1 HBW.out.1 (fun e=>e (Or.inr HBW.out.2))).trans HB2.out
        obtain⟨a0,a1,a2,a3,-⟩:=yx hb1x;obtain⟨-,-,-,c3,-,-⟩:=HVX.out.cells;have HTd:Hid (zq (fun k=>¬(own2 k∨Q k)) W2 w8.drew):=zd (HTX.out.trans (ue (zl (zm _))))
        have HVd:=zd (HVX.out.grown (zl (zm _)));have HRd:Hid (ye Q w8.drew (.slice pk la ck) (zi key)∧ye Q w8.drew (.slice pr ma cr) (zi row)):=zd ⟨HRW.out.1.turn fun k hk=>HTd.out.block k (HQ.out.1 k hk).2 (fun e=>e (Or.inr hk)),HRW.out.2.turn fun k hk=>HTd.out.block k (HQ.out.1 k hk).2 (fun e=>e (Or.inr hk))⟩
        clear hb1x HVX HTX;refine wp_region_held_drew (S:=fun w=>w.cell? ⟨vb,3,none⟩=some (.map (some mb))∧w.cell? ⟨b1,0,none⟩=some (.slice pk la ck)∧w.cell? ⟨b1,1,none⟩=some (.int .i64 znm)∧w.cell? ⟨b1,2,none⟩=some (.int .i64 node)∧w.cell? ⟨b1,3,none⟩=some (.slice pr ma cr)) (by kernel_rfl) ⟨c3,a0,a1,a2,a3⟩ (fun hHeld=>?_)
        clear c3 a0 a1 a2 a3;generalize w8.drew=y1 at *;refine tk (i:=0) (oi:=⟨some 89,Op.move (Operand.tmp 6),_,_,_,none⟩) (v:=?_) rfl hHeld ?_ ?_;rotate_left
        ·rintro w -;go_simp;try with_reducible rfl
        (try simp only[Act.put,za,zb,zc])
        refine tk (i:=1) (oi:=⟨some 90,Op.nilCheck (Operand.tmp 89),_,_,_,none⟩) (v:=?_) rfl hHeld ?_ ?_;rotate_left
        ·rintro w -;go_simp;try with_reducible rfl
        (try simp only[Act.put,za,zb,zc])
        refine tk (i:=2) (oi:=⟨some 91,Op.fieldAddr 224 (Operand.tmp 90) 3,_,_,_,none⟩) (v:=?_) rfl hHeld ?_ ?_;rotate_left
        ·rintro w -;go_simp;try with_reducible rfl
        (try simp only[Act.put,za,zb,zc])
        refine tk (i:=3) (oi:=⟨some 92,Op.load 221 (Operand.tmp 91),_,_,_,none⟩) (v:=?_) rfl hHeld ?_ ?_;rotate_left
        ·rintro w ⟨s1,s2,s3,s4,s5⟩;go_simp;try with_reducible rfl
        (try simp only[Act.put,za,zb,zc])
        refine tk (i:=4) (oi:=⟨some 93,Op.load 97 (Operand.tmp 13),_,_,_,none⟩) (v:=?_) rfl hHeld ?_ ?_;rotate_left
        ·rintro w ⟨s1,s2,s3,s4,s5⟩;go_simp;try with_reducible rfl
        (try simp only[Act.put,za,zb,zc])
        refine tk (i:=6) (oi:=⟨some 95,Op.load 97 (Operand.tmp 13),_,_,_,none⟩) (v:=?_) rfl hHeld ?_ ?_;rotate_left
        ·rintro w ⟨s1,s2,s3,s4,s5⟩;go_simp;try with_reducible rfl
        (try simp only[Act.put,za,zb,zc])
        refine tk (i:=7) (oi:=⟨some 96,Op.move (Operand.tmp 9),_,_,_,none⟩) (v:=?_) rfl hHeld ?_ ?_;rotate_left
        ·rintro w -;go_simp;try with_reducible rfl
        (try simp only[Act.put,za,zb,zc])
        refine tk (i:=8) (oi:=⟨some 97,Op.build 226 #[(0,Operand.tmp 95),(1,Operand.tmp 96)],_,_,_,none⟩) (v:=?_) rfl hHeld ?_ ?_;rotate_left
        ·rintro w -;go_simp;try with_reducible rfl
        (try simp only[Act.put,za,zb,zc])
        refine wpAnyH_ready (rs:=[5]) (by kernel_rfl) (by simp) ?_
        refine AllReadyH.cons (o:=⟨some 94,Op.call { callee:=Callee.value (Operand.func 130),args:=#[Operand.tmp 93],argTypes:=#[97] },_,_,_,none⟩) rfl (fun K hK=>?_) AllReadyH.nil
        go_simp
        go_at_call 130
        refine(HID.out y1 HRd.out.1).mono ?_;rintro e y2 ⟨rfl,hg⟩;have HGY2:=zd hg;refine hK.out _ _ ⟨hg.cell hHeld.1 (by simp),hg.cell hHeld.2.1 (by simp),hg.cell hHeld.2.2.1 (by simp),hg.cell hHeld.2.2.2.1 (by simp),hg.cell hHeld.2.2.2.2 (by simp)⟩ (fun hHeld=>?_)
        clear hK K
        (try simp only[Act.put,za,zb,zc])
        clear hg;have HVy:=zd (HVd.out.grown HGY2.out);obtain⟨kmx,vkx,hvax⟩:=HVy.out.va;have hm3:=hvax.mp.update (P:=Tryz.prog) keID Tryz.underlying221 ⟨ik,znm⟩ ⟨pk,ck,pr,cr,⟨key,znm,node,row⟩,kk⟩;obtain⟨y4,hrun,hm4,hg4,hz4⟩:=hm3;have hek:uw ⟨pk,ck,pr,cr,⟨key,znm,node,row⟩,kk⟩ = .agg #[.slice pk la ck,.int .i64 znm,.int .i64 node,.slice pr ma cr,.int .i64 kk]:=by rw[←HLA.out.1,←HLA.out.2];rfl
        rw[hek] at hrun;have HRU:Hid ((Instr.mapUpdate 221 (.map (some mb)) (.agg #[.string ik,.int .i64 znm]) (.agg #[.slice pk la ck,.int .i64 znm,.int .i64 node,.slice pr ma cr,.int .i64 kk])).run Tryz.prog y2 = .ok () y4):=zd hrun;have hkx:Jl Q y2 ⟨pk,ck,pr,cr,⟨key,znm,node,row⟩,kk⟩:=by
         have h1:=HRd.out.1.gr HGY2.out;have h2:=HRd.out.2.gr HGY2.out;rw[←HLA.out.1] at h1;rw[←HLA.out.2] at h2;have h3:=HMS.out;rw[←HS0.out] at h3
         exact⟨h1,h2,h3.1,h3.2⟩
        have hqv:∀k,Q k→k≠vb∧k≠mb:=fun k hk=>by
         have h1:=(HQ.out.1 k hk).1;have h2:=HVM.out;omega
        have hkp:=HVy.out.keep (fun k hk=>⟨fun e=>by
         have h1:=HO2.out.2.2.2 k e;have h2:=HWZ.out;have h3:=HWZ2.out.2;have h4:=(HQ.out.1 k hk).1;omega,HQO.out k hk⟩) hkx hqv hvax hm4 hg4 hz4
        have HKP:Hid (VO own2 w2.heap.size y4 vb st db mb (.slice p' (o.length+1) cap') (o ++ [kk0]) (V.keep (idS s0) s0 kk)∧zq (fun k=>¬own2 k) y2 y4):=zd (by
         rw[HIK.out,←HSV.out,←HS0.out]
         exact hkp)
        have HOLD:Hid (y4.cell? ⟨vb,3,none⟩=some (.map (some mb))∧y4.cell? ⟨b1,0,none⟩=some (.slice pk la ck)∧y4.cell? ⟨b1,1,none⟩=some (.int .i64 znm)∧y4.cell? ⟨b1,2,none⟩=some (.int .i64 node)∧y4.cell? ⟨b1,3,none⟩=some (.slice pr ma cr)):=zd (by
         have h1:vb≠mb:=hvax.ne;have h2:b1≠mb:=(hqv b1 HBW.out.2).2
         exact⟨hg4.cell hHeld.1 (fun e=>h1 (Option.some.inj e)),hg4.cell hHeld.2.1 (fun e=>h2 (Option.some.inj e)),hg4.cell hHeld.2.2.1 (fun e=>h2 (Option.some.inj e)),hg4.cell hHeld.2.2.2.1 (fun e=>h2 (Option.some.inj e)),hg4.cell hHeld.2.2.2.2 (fun e=>h2 (Option.some.inj e))⟩)
        clear hrun hm4 hg4 hz4 hek hkp hkx hqv hvax HVy HVd HRd;refine wpAnyH_ready (rs:=[9]) (by kernel_rfl) (by simp) ?_
        refine AllReadyH.cons (o:=⟨none,Op.mapUpdate 221 (Operand.tmp 92) (Operand.tmp 94) (Operand.tmp 97),_,_,_,none⟩) rfl (fun K hK=>?_) AllReadyH.nil
        refine xc rfl (qm _ _ _ rfl rfl rfl rfl HRU.out) ?_;refine hK.out _ _ ⟨HOLD.out.1,HOLD.out.2.1,HOLD.out.2.2.1,HOLD.out.2.2.2.1,HOLD.out.2.2.2.2⟩ (fun hHeld=>?_)
        clear hK K
        (try simp only[Act.put])
        refine wpAnyH_done (by kernel_rfl) ?_ _
        clear hHeld HOLD HRU;go_wp2
        exact⟨⟨j+1,by omega,by simp,_,_,_,_,_,rfl,HKP.out.1,HS.out,by simp,by have:=HLN.out;simpa using this,HF2.out,HT.out.trans ((ue (HG3.out.trans (HG34.out.trans HG2.out))).trans ((HTd.out.mono fun k hk e=>hk (Or.inl e)).trans ((ue HGY2.out).trans HKP.out.2)))⟩,by simp[intOf];omega⟩
       --F1
   ·have HFE:Hid (vfold S S.keys (Vlt.new S) []=some (V,o)):=zd (by
     have e:S.keys.drop j = []:=List.drop_of_length_le (by rw[←HN.out];omega)
     rw[e] at hf
     exact hf.symm)
    have e3:¬(j:Int)<(n:Int):=by omega
    have HA:=zd ha;have HT:=zd ht;have HS:=zd hS;have hol:o.length≤1000:=by omega
    have HOL:=zd hol;have HSRT:=zd (sort64 ha.row (by omega))
    clear ha hS hel hf ht HK;generalize wr=wz at *
    go_upto_region 26 with (go_at_call 131;refine HSRT.out.mono ?_;rintro e w5 ⟨rfl,hr,hg⟩;have hso:=VO.sort HA.out HO2.out.2.2.2 hr hg;have HV5:=zd hso.1;have HT5:=zd (HT.out.trans hso.2);clear hr hg hso)
    have hls:(srt o).length=o.length:=zbc o;obtain⟨m,hm⟩:∃m,m=o.length:=⟨_,rfl⟩;have HMS:Hid (m=(srt o).length):=zd (by rw[hls,hm])
    have hm1:m≤1000:=by omega
    rw[←hm] at HV5 HOL ⊢;clear hm hls HSRT hol HA HT;have HLT:Hid (V.S.d.late.length+1000<1000000):=zd (by rw[HS.out];exact HGD.out.late)
    go_wp2
    go_loopw [103] (fun i wr=>∃j:Nat,j≤m∧i = .int .i64 j∧VRI own2 w2 vb st db mb (.slice p1 m c1) V o j wr) (fun i _=>m-(intOf i).toNat)
    case atStart=>exact⟨0,Nat.zero_le _,rfl,V.S,HV5.out,rfl,Nat.le_refl _,HT5.out⟩
    case round=>
     obtain⟨j2,hj2,rfl,Si,hv,hr,hl,ht⟩:=hrel
     by_cases hjm:j2<m
     ·have hjk:j2<(srt o).length:=by rw[←HMS.out];exact hjm
      rcases uk.at zee hv.row with e|⟨g,cc,e,hc,-⟩
      ·exfalso
       rw[e] at hjk;simp at hjk
      ·injection e with e1 e2 e4
       have c5:wr.cell? ⟨g,j2,none⟩=some (.int .i64 (srt o)[j2]):=by
        have:=hc j2 hjk 0 _ rfl;rw[Nat.mul_one,Nat.add_zero] at this
        exact this
       have hdr:(srt o).drop j2=(srt o)[j2] :: (srt o).drop (j2+1):=List.drop_eq_getElem_cons hjk;rw[hdr] at hr;obtain⟨km,vk,hva⟩:=hv.va;have HREM:=zd (zbe hva (srt o)[j2] (by have:=HLT.out;show Si.d.late.length<1000000;omega))
       have HRL:=zd (zm1 Si (srt o)[j2]);have HVV:=zd hv;have HTT:=zd ht;have HLL:=zd hl;have hgl:=xg c5;have hr2:=zis Si (srt o)[j2] ((srt o).drop (j2+1));rw[hr2] at hr;have HRR:=zd hr;subst e1;clear hc hdr hv hr hl ht hva hr2 e2 e4;generalize (srt o)[j2]=kr at *;generalize hrr:(Si.rem kr).2=r at *;have HR2:=zd hrr;clear hrr;have e5:(0:Int)≤(j2:Int):=by omega
       have e6:(j2:Int)<(m:Int):=by omega
       by_cases hr0:r=0
       ·subst hr0
        go_wp2_with (go_at_call 30;refine HREM.out.mono ?_;rintro e w6 ⟨rfl,h6,t6⟩;have H6:=zd h6;have T6:=zd t6;clear h6 t6)
        exact⟨⟨j2+1,by omega,by simp,(Si.rem kr).1,HVV.out.turn ⟨km,vk,H6.out⟩ T6.out,by rw[HRR.out];simp,by have:=HRL.out;have:=HLL.out;omega,HTT.out.trans (T6.out.mono fun k hk e=>hk (Or.inl e))⟩,by simp[intOf];omega⟩
       ·have hb:(r != 0)=true:=by simp[hr0]
        go_wp2_with (go_at_call 30;refine HREM.out.mono ?_;rintro e w6 ⟨rfl,h6,t6⟩;have H6:=zd h6;have T6:=zd t6;clear h6 t6)
        go_ret2
        have hres:ja V.S (srt o)=Si.rem kr:=by rw[HRR.out,if_neg hr0]
        refine⟨HTW.out.trans ((HTT.out.trans (T6.out.mono fun k hk e=>hk (Or.inl e))).mono fun k hk e=>hk (HO2.out.1 k e)),Or.inr ⟨HO.out,st,ks,HKS.out,Or.inr ⟨V,o,by rw[HSS.out];exact HFE.out,Or.inl ⟨?_,?_,?_⟩⟩⟩⟩
        ·rw[hres,HR2.out];exact hr0
        ·rw[hres,HR2.out];rfl
        ·rw[hres]
         exact(HVV.out.turn ⟨km,vk,H6.out⟩ T6.out).srep.lessJ fun k hk=>HO2.out.1 k hk
     ·have HRF:Hid (ja V.S (srt o)=(Si,0)):=zd (by
       rw[hr,List.drop_of_length_le (by rw[←HMS.out];omega)]
       rfl)
      have e6:¬(j2:Int)<(m:Int):=by omega
      have HVV:=zd hv;have HTT:=zd ht;clear hv hr hl ht;go_wp2
      go_ret2
      obtain⟨km,vk,hva⟩:=HVV.out.va;refine⟨HTW.out.trans (HTT.out.mono fun k hk e=>hk (HO2.out.1 k e)),Or.inr ⟨HO.out,st,ks,HKS.out,Or.inr ⟨V,o,by rw[HSS.out];exact HFE.out,Or.inr ⟨?_,vb,mb,km,vk,rfl,?_⟩⟩⟩⟩
      ·rw[HRF.out]
      ·rw[HRF.out]
       exact hva.less fun k hk=>Or.inl (HO2.out.1 k hk)
 ·have HOP:Hid (Calls Tryz.prog 18 #[.pointer (some ⟨db,0,none⟩)] W fun e w'=>e = .returned (.tuple #[.pointer none,.int .i64 d.opened.2])∧vl own w' db d.opened.1∧zq (fun k=>¬own k) W w'):=zd (hop.mono (by
   rintro e w' ⟨ht,(⟨_,h1,h2⟩|⟨h1,_⟩)⟩
   ·exact⟨h1,h2,ht⟩
   ·exact absurd h1 ho))
  have HO:=zd ho;have hb:(d.opened.2 != 0)=true:=by simp[ho]
  clear hop hd hoff hlate hgood;generalize hoo:d.opened.2=oo at *;have HOO:=zd hoo;clear hoo
  go_enter Tryz.func61,Tryz.ntmps61
  go_wp2_with (go_at_call 18;refine HOP.out.mono ?_;rintro e w0 ⟨rfl,h1,h2⟩;have H1:=zd h1;have H2:=zd h2;clear h1 h2)
  go_ret2
  refine⟨H2.out,Or.inl ⟨?_,?_,H1.out⟩⟩
  ·rw[HOO.out];exact HO.out
  ·rw[HOO.out];rfl
end
end Go.Proofs.YtbcbhlfjgobejaaGreat
