/- Bytes' closure for what is pending; nodes: the walks. Conditions: none, or as the theorems say. -/
import Derived.Test.YtjfelfjobeeenaaGreatN20
import Derived.Test.YtjfelfjobeeenaaGreatN15
import Derived.StillTailTactics
import Derived.Deep.CutBlock
import Derived.Test.YtjfelfjobeeenaaGreatN16
import Derived.Shelf.SlIterI.Nil
import Derived.Shelf.SlLaysF
import Derived.Ground.GgzProg
import Derived.Ground.SlsfProg
import Derived.Shelf.SlGeneric
import Derived.Test.YtjfelfjobeeenaaGreatProg
import Derived.Test.YtjfelfjobeeenaaGreatN19
import Derived.Shelf.SlSortCmp.Whole1
namespace Go.Proofs.YtjfelfjobeeenaaGreat
set_option maxHeartbeats 200000000
set_option linter.unusedVariables false
set_option linter.unusedSimpArgs false
open Go.RowKit Go.Sf Go.Shelf Go.Maps
def Ud (l:List Int):List Int:=l.mergeSort fun x y=>decide (x≤y)
def zhv (p:ID × ye):List Int:=eID p.1++e2 p.2.mem.length++(Ud p.2.mem).flatMap e2
theorem zem (l:List Int):(Ud l).length=l.length:=List.length_mergeSort _
theorem zd8:∀l:List Int,(l.flatMap e2).length=2*l.length
 | []=>rfl
 | x :: r=>by simp only[List.flatMap_cons,List.length_append,Qt,zd8 r,List.length_cons];omega
theorem zno (p:ID × ye):(zhv p).length=p.1.key.size+11+2*p.2.mem.length:=by
 unfold zhv;rw[List.length_append,List.length_append,zag,Qt,zd8,zem]
theorem jc {α:Type} (f:α→List Int) (l:List α) (k:Nat) (hk:k<l.length):(l.take (k+1)).flatMap f=(l.take k).flatMap f++f l[k]:=by
 rw[List.take_succ_eq_append_getElem hk,List.flatMap_append];simp
section
variable {own : Nat → Prop} {w wa wz : World} {wb g : Nat} {l : List Int}
theorem Zk (ht:yc (fun k=>¬own k) wa wz) {k:Nat} (hk:k<wa.heap.size) (ho:own k):wz.heap[k]? = wa.heap[k]?:=ht.block k hk (fun e=>e ho)
set_option maxRecDepth 100000 in
theorem by3_any (h:WS own wb l w) (i:ID) (c:xd) (hl:l.length+i.key.size≤80000):Calls Tryz.prog 93 #[.agg #[.string i.key,.int .i64 i.zvz],.agg #[.int .i64 c.zvw,.int .i64 c.zvy],.pointer (some ⟨wb,0,none⟩)] w (jm own wb (l++zdn (i,c)) w):=by
 obtain⟨zvw,zvy⟩:=c;obtain⟨key,zvz⟩:=i;simp only at hl ⊢;have HG1:=za (zc w (.cells #[.string key,.int .i64 zvz] 54) none);have HB1:=za (heap_alloc_new w (.cells #[.string key,.int .i64 zvz] 54));have H1:=za (h.fresh HG1.out w.heap.size (Nat.le_refl _) (by simp))
 have hs1:(w.alloc (.cells #[.string key,.int .i64 zvz] 54)).heap.size=w.heap.size+1:=by simp
 have HE:Hid (l++eID ⟨key,zvz⟩++e2 zvw++e8 zvy=l++zdn (⟨key,zvz⟩,⟨zvw,zvy⟩)):=(show _=_ from by simp[zdn,List.append_assoc])
 have hl1:(l++eID ⟨key,zvz⟩).length≤90009:=by rw[List.length_append,zag];simp only;omega
 have hl2:(l++eID ⟨key,zvz⟩++e2 zvw).length≤90011:=by rw[List.length_append,Qt];omega
 have HL:=za (And.intro hl (And.intro hl1 hl2));clear h hl hl1 hl2
 go_enter Tryz.func93,Tryz.ntmps93
 go_upto_region 1 with fail
 generalize w.alloc (.cells #[.string key,.int .i64 zvz] 54)=wa at *;have HG2:=za (zc wa (.cells #[.int .i64 zvw,.int .i64 zvy] 130) none);have HB2:=za (heap_alloc_new wa (.cells #[.int .i64 zvw,.int .i64 zvy] 130));have H2:=za (H1.out.fresh HG2.out wa.heap.size (Nat.le_refl _) (by simp))
 have HB3:=za ((HG2.out.block w.heap.size (by omega) (by simp)).trans HB1.out)
 rw[hs1] at HB2 H2;generalize wa.alloc (.cells #[.int .i64 zvw,.int .i64 zvy] 130)=wy at *;generalize hgb:w.heap.size=gb at *;clear hgb;have hwl:=H2.out.wlt;have b0:wy.cell? ⟨gb,0,none⟩=some (.string key):=(zh HB3.out 0).trans rfl;have b1:wy.cell? ⟨gb,1,none⟩=some (.int .i64 zvz):=(zh HB3.out 1).trans rfl
 go_upto_region 2 with (go_at_call 91;refine(H2.out.idZ ⟨key,zvz⟩ (by have:=HL.out;simp only;omega)).mono ?_;rintro e w1 ⟨rfl,hq,ht⟩;have HQ1:=za hq;have HT1:=za ht;clear hq ht b0 b1)
 have hwl:=HQ1.out.wlt;have b2:w1.cell? ⟨gb+1,0,none⟩=some (.int .i64 zvw):=(zh (zc1 HT1.out HB2.out) 0).trans rfl
 go_upto_region 3 with (go_at_call 50;refine(HQ1.out.shortZ (by have:=HL.out;omega) zvw).mono ?_;rintro e w2 ⟨rfl,hq,ht⟩;have HQ2:=za hq;have HT2:=za (HT1.out.trans ht);clear hq ht b2)
 have hwl:=HQ2.out.wlt;have b3:w2.cell? ⟨gb+1,1,none⟩=some (.int .i64 zvy):=(zh (zc1 HT2.out HB2.out) 1).trans rfl
 go_wp2_with (go_at_call 51;refine(HQ2.out.longZ (by have:=HL.out;omega) zvy).mono ?_;rintro e w3 ⟨rfl,hq,ht⟩;have HQ3:=za hq;have HT3:=za (HT2.out.trans ht);clear hq ht b3)
 first|go_end0|refine bodyPost_ret (results_none rfl _ _ _) rfl ?_
 rw[←HE.out];have h2:=Qj HG2.out HQ3.out HT3.out
 exact Qj HG1.out h2.2.1 h2.2.2
set_option maxRecDepth 100000 in
theorem zrs (h:WS own wb l w) (i:ID) (s:ye) (hs:qr w s) (ho:own s.blk) (hf:Xw s.mem) (hl:l.length+i.key.size+2*s.mem.length≤80000):Calls Tryz.prog 95 #[.pointer (some ⟨wb,0,none⟩),.agg #[.string i.key,.int .i64 i.zvz],.map (some s.blk)] w (jm own wb (l++zhv (i,s)) w):=by
 obtain⟨key,zvz⟩:=i;simp only at hl ⊢;have HG1:=za (zc w (.cells #[.string key,.int .i64 zvz] 54) none);have HB1:=za (heap_alloc_new w (.cells #[.string key,.int .i64 zvz] 54));have H1:=za (h.fresh HG1.out w.heap.size (Nat.le_refl _) (by simp))
 have HS1:Hid (qr (w.alloc (.cells #[.string key,.int .i64 zvz] 54)) s):=(show qr _ _ from zw.kept hs HG1.out (by simp))
 have HO:=za ho;have HF:=za hf;have HE:Hid (l++eID ⟨key,zvz⟩++e2 s.mem.length++(Ud s.mem).flatMap e2=l++zhv (⟨key,zvz⟩,s)):=(show _=_ from by simp[zhv,List.append_assoc])
 have hl1:(l++eID ⟨key,zvz⟩).length≤90009:=by rw[List.length_append,zag];simp only;omega
 have hl2:(l++eID ⟨key,zvz⟩++e2 s.mem.length).length+2*s.mem.length≤90011:=by rw[List.length_append,List.length_append,zag,Qt];simp only;omega
 have HL:=za (And.intro hl (And.intro hl1 hl2));clear h hl hl1 hl2 hs ho hf
 go_enter Tryz.func95,Tryz.ntmps95
 go_upto_region 1 with fail
 generalize w.alloc (.cells #[.string key,.int .i64 zvz] 54)=wa at *;generalize hgb:w.heap.size=gb at *;have hwl:=H1.out.wlt;have b0:wa.cell? ⟨gb,0,none⟩=some (.string key):=(zh HB1.out 0).trans rfl;have b1:wa.cell? ⟨gb,1,none⟩=some (.int .i64 zvz):=(zh HB1.out 1).trans rfl
 go_upto_region 2 with (go_at_call 91;refine(H1.out.idZ ⟨key,zvz⟩ (by have:=HL.out;simp only;omega)).mono ?_;rintro e w1 ⟨rfl,hq,ht⟩;have HQ1:=za hq;have HT1:=za ht;clear hq ht b0 b1)
 have HS2:Hid (qr w1 s):=(show qr _ _ from zw.same HS1.out (Zk HT1.out (zw.lt HS1.out) (Or.inl HO.out)))
 have hwl:=HQ1.out.wlt;have hset:=HS2.out;have hlen:=Yb s;simp only[qr] at hset;have HSH:Hid (∀w',w1.grownBy w' none→Calls Tryz.prog 50 #[.pointer (some ⟨wb,0,none⟩),.int .u16 ((s.mem.length:Int)%65536)] w' (jm (fun k=>own k∨k=gb) wb (l++eID ⟨key,zvz⟩++e2 s.mem.length) w')):=(show ∀_,_→Calls _ _ _ _ _ from fun w' hg=>(HQ1.out.keep hg).shortZ (by have:=HL.out;omega) s.mem.length)
 go_upto_region 2 with fail
 go_still_tail 6,(by kernel_rfl)
 go_upto_region 3 with (go_at_call 50;refine(HSH.out _ (zf (zd _))).mono ?_;rintro e w2 ⟨rfl,hq,ht⟩;have HQ2:=za hq;have HT2:=za (HT1.out.trans (xy (zf (zd _)) ht));clear hq ht)
 clear hset hlen HSH;have HS3:Hid (qr w2 s):=(show qr _ _ from zw.same HS1.out (Zk HT2.out (zw.lt HS1.out) (Or.inl HO.out)))
 have hwl:=HQ2.out.wlt;have HG3:=za (zc w2 (.cells #[.map (some s.blk)] 127) none);have HS4:Hid (qr (w2.alloc (.cells #[.map (some s.blk)] 127)) s):=(show qr _ _ from zw.kept HS3.out HG3.out (by simp))
 have HSO:Hid (Calls Tryz.prog 81 #[.func (.func 145) #[] #[.pointer (some ⟨w2.heap.size,0,none⟩)]] (w2.alloc (.cells #[.map (some s.blk)] 127)) fun e w'=>∃v,e = .returned v∧zjw (w2.alloc (.cells #[.map (some s.blk)] 127)) w' v (Ud s.mem)):=(show Calls _ _ _ _ _ from zft s HS4.out HF.out.1 HF.out.2 w2.heap.size (by simp) (by simp[go_sem]))
 have hnl:=zem s.mem;generalize hns:Ud s.mem=ks at *
 go_upto_block 0 with (first
  | (go_at_call 82;refine(zee (some s.blk) _).mono ?_;rintro e w3 ⟨rfl,rfl⟩)
  | (go_at_call 81;refine HSO.out.mono ?_;rintro e w4 ⟨v,rfl,hv⟩;obtain⟨p4,c4,rfl⟩:=zed hv;have HV:=za hv;clear hv))
 have HG4:=za (ze HG3.out HV.out.2.2);have HQ4:=za (HQ2.out.keep HG4.out);have HT4:=za (HT2.out.trans (xy HG4.out (yc.refl _ w4)));clear HSO HS3 HS4 HS2;have HKL:Hid (ks.length=s.mem.length):=(show _=_ from hnl)
 rcases Nat.eq_zero_or_pos ks.length with h0|h0
 ·have hks:ks = []:=List.eq_nil_of_length_eq_zero h0
  have HKN:Hid (ks = []):=(show _=_ from hks)
  have hm0:s.mem.length=0:=by omega
  clear hks hns hnl HKL;go_wp2
  go_loopw [22] (fun x wr=>x = .int .i64 0∧wr=w4) (fun _ _=>0)
  case atStart=>exact⟨rfl,rfl⟩
  case round=>
   obtain⟨rfl,rfl⟩:=hrel;go_wp2
   first|go_end0|refine bodyPost_ret (results_none rfl _ _ _) rfl ?_
   rw[←HE.out,HKN.out,List.flatMap_nil,List.append_nil]
   exact Qj HG1.out HQ4.out HT4.out
 ·obtain⟨g,cap,hvf⟩:=Xr HV.out.1 h0
  injection hvf with e1 e2 e3
  subst e1;have hr4:=HV.out.1;have hgl:=hr4.lt g rfl;have hm6:s.mem.length≤1000000:=HF.out.2;have HQ5:Hid (WS (fun k=>(own k∨k=gb)∨k=g) wb (l++eID ⟨key,zvz⟩++Go.Proofs.YtjfelfjobeeenaaGreat.e2 s.mem.length) w4):=(show WS _ _ _ _ from (HQ2.out.keep HG3.out).fresh HV.out.2.2 g hgl.1 hgl.2)
  have hce:∀k,(hk:k<ks.length)→w4.cell? ⟨g,k,none⟩=some (.int .i64 ks[k]):=fun k hk=>by
   rw[World.ownsRow.cellAt hr4 k (by omega),List.getElem?_map,List.getElem?_eq_getElem hk];rfl
  have HCE:=za hce;have HGL:Hid (g<w4.heap.size):=(show _<_ from hgl.2)
  clear hr4 hgl hns e2 e3 hce;go_wp2
  go_loopw [22] (fun x wr=>∃k:Nat,k≤s.mem.length∧x = .int .i64 k∧WS (fun k=>(own k∨k=gb)∨k=g) wb (l++eID ⟨key,zvz⟩++Go.Proofs.YtjfelfjobeeenaaGreat.e2 s.mem.length++(ks.take k).flatMap Go.Proofs.YtjfelfjobeeenaaGreat.e2) wr∧yc (fun k_1=>¬((own k_1∨k_1=gb)∨k_1=g)) w4 wr) (fun x _=>s.mem.length-(intOf x).toNat)
  case atStart=>exact⟨0,Nat.zero_le _,rfl,by simpa using HQ5.out,yc.refl _ _⟩
  case round=>
   obtain⟨k,hk,rfl,hws,htu⟩:=hrel;have HW:=za hws;have HTU:=za htu
   by_cases hlt:k<s.mem.length
   ·have hkl:k<ks.length:=by omega
    have ck:wr.cell? ⟨g,k,none⟩=some (.int .i64 ks[k]):=(World.cell?_of_block (a:=⟨g,k,none⟩) (Zk htu HGL.out (Or.inr rfl))).trans (HCE.out k hkl);have hwl:=hws.wlt;have HN:=za (jc Go.Proofs.YtjfelfjobeeenaaGreat.e2 ks k hkl);have HLK:Hid ((l++eID ⟨key,zvz⟩++Go.Proofs.YtjfelfjobeeenaaGreat.e2 s.mem.length++(ks.take k).flatMap Go.Proofs.YtjfelfjobeeenaaGreat.e2).length≤100000):=(show _≤_ from by
     have h1:=HL.out.2.2;have h2:=zd8 (ks.take k);rw[List.length_append,h2,List.length_take];omega)
    clear hws htu;generalize ks[k]=z at *
    go_wp2_with (go_at_call 50;refine(HW.out.shortZ HLK.out z).mono ?_;rintro e w5 ⟨rfl,hq,ht⟩;have HQ6:=za hq;have HT6:=za (HTU.out.trans ht);clear hq ht)
    go_roundw
    case rel=>exact⟨k+1,by omega,by go_num,by rw[HN.out,←List.append_assoc];exact HQ6.out,HT6.out⟩
    case measure=>simp[intOf];omega
   ·obtain rfl:k=s.mem.length:=by omega
    have HTK:Hid (ks.take s.mem.length=ks):=(show _=_ from List.take_of_length_le (by omega))
    clear hws htu;go_wp2
    first|go_end0|refine bodyPost_ret (results_none rfl _ _ _) rfl ?_
    rw[←HE.out];rw[HTK.out] at HW;have h1:=Qj (zd w4) HW.out HTU.out
    exact Qj HG1.out h1.2.1 (HT4.out.trans h1.2.2)
end
end Go.Proofs.YtjfelfjobeeenaaGreat
namespace Go.Proofs
open Go.Shelf
def Tryz.keysC_ren:Go.Shelf.Ren:=⟨fun|7=>154|10=>184|n=>n,fun|23=>117|26=>3|3=>77|28=>154|0=>0|27=>153|33=>177|4=>4|n=>n,fun|n=>n⟩
theorem Tryz.keysC:Go.Proofs.SlLaysZI.n7 Tryz.prog Tryz.keysC_ren:={
 mixed:=by kernel_rfl
 f7:=⟨Tryz.f154.name,by decide,Tryz.func154.trans (congrArg some (by kernel_rfl))⟩
 f10:=⟨Tryz.f184.name,by decide,Tryz.func184.trans (congrArg some (by kernel_rfl))⟩
 t0:=Tryz.underlying0
 a0:=Tryz.isAgg0
 z0:=Tryz.sizeOf0
 v0:=Tryz.zeroValue0
 t4:=Tryz.underlying4
 a4:=Tryz.isAgg4
 z4:=Tryz.sizeOf4
 v4:=Tryz.zeroValue4
 t23:=Tryz.underlying117
 a23:=Tryz.isAgg117
 z23:=Tryz.sizeOf117
 v23:=Tryz.zeroValue117
 t26:=Tryz.underlying3
 a26:=Tryz.isAgg3
 z26:=Tryz.sizeOf3
 v26:=Tryz.zeroValue3
 t27:=Tryz.underlying153
 a27:=Tryz.isAgg153
 z27:=Tryz.sizeOf153
 v27:=Tryz.zeroValue153
 t28:=Tryz.underlying154
 a28:=Tryz.isAgg154
 z28:=Tryz.sizeOf154
 v28:=Tryz.zeroValue154
 t33:=Tryz.underlying177
 a33:=Tryz.isAgg177
 z33:=Tryz.sizeOf177
 v33:=Tryz.zeroValue177 }
def Tryz.sortFI_ren:Go.Shelf.Ren:=⟨fun|6=>183|15=>179|14=>213|28=>201|29=>202|20=>233|21=>234|22=>235|23=>236|24=>237|25=>238|26=>239|27=>240|46=>254|47=>226|48=>227|49=>255|50=>256|57=>261|n=>n,fun|22=>69|24=>3|25=>159|3=>3|39=>188|0=>0|53=>224|55=>101|4=>4|46=>262|45=>261|50=>266|5=>5|9=>9|66=>283|70=>287|76=>303|77=>304|n=>n,fun|n=>n⟩
theorem Tryz.sortFI:Go.Proofs.SlLaysF.n6 Tryz.prog Tryz.sortFI_ren:={
 mixed:=by kernel_rfl
 f6:=⟨Tryz.f183.name,by decide,Tryz.func183.trans (congrArg some (by kernel_rfl))⟩
 f14:=⟨Tryz.f213.name,by decide,Tryz.func213.trans (congrArg some (by kernel_rfl))⟩
 f15:=Tryz.func179.trans (congrArg some (by kernel_rfl))
 f20:=⟨Tryz.f233.name,by decide,Tryz.func233.trans (congrArg some (by kernel_rfl))⟩
 f21:=⟨Tryz.f234.name,by decide,Tryz.func234.trans (congrArg some (by kernel_rfl))⟩
 f22:=⟨Tryz.f235.name,by decide,Tryz.func235.trans (congrArg some (by kernel_rfl))⟩
 f23:=⟨Tryz.f236.name,by decide,Tryz.func236.trans (congrArg some (by kernel_rfl))⟩
 f24:=⟨Tryz.f237.name,by decide,Tryz.func237.trans (congrArg some (by kernel_rfl))⟩
 f25:=⟨Tryz.f238.name,by decide,Tryz.func238.trans (congrArg some (by kernel_rfl))⟩
 f26:=⟨Tryz.f239.name,by decide,Tryz.func239.trans (congrArg some (by kernel_rfl))⟩
 f27:=⟨Tryz.f240.name,by decide,Tryz.func240.trans (congrArg some (by kernel_rfl))⟩
 f28:=Tryz.func201.trans (congrArg some (by kernel_rfl))
 f29:=Tryz.func202.trans (congrArg some (by kernel_rfl))
 f46:=⟨Tryz.f254.name,by decide,Tryz.func254.trans (congrArg some (by kernel_rfl))⟩
 f47:=Tryz.func226.trans (congrArg some (by kernel_rfl))
 f48:=Tryz.func227.trans (congrArg some (by kernel_rfl))
 f49:=⟨Tryz.f255.name,by decide,Tryz.func255.trans (congrArg some (by kernel_rfl))⟩
 f50:=⟨Tryz.f256.name,by decide,Tryz.func256.trans (congrArg some (by kernel_rfl))⟩
 f57:=⟨Tryz.f261.name,by decide,Tryz.func261.trans (congrArg some (by kernel_rfl))⟩
 t0:=Tryz.underlying0
 a0:=Tryz.isAgg0
 z0:=Tryz.sizeOf0
 v0:=Tryz.zeroValue0
 t3:=Tryz.underlying3
 a3:=Tryz.isAgg3
 z3:=Tryz.sizeOf3
 v3:=Tryz.zeroValue3
 t4:=Tryz.underlying4
 a4:=Tryz.isAgg4
 z4:=Tryz.sizeOf4
 v4:=Tryz.zeroValue4
 t5:=Tryz.underlying5
 a5:=Tryz.isAgg5
 z5:=Tryz.sizeOf5
 v5:=Tryz.zeroValue5
 t9:=Tryz.underlying9
 a9:=Tryz.isAgg9
 z9:=Tryz.sizeOf9
 v9:=Tryz.zeroValue9
 t22:=Tryz.underlying69
 a22:=Tryz.isAgg69
 z22:=Tryz.sizeOf69
 v22:=Tryz.zeroValue69
 a24:=Tryz.isAgg3
 z24:=Tryz.sizeOf3
 t25:=Tryz.underlying159
 a25:=Tryz.isAgg159
 z25:=Tryz.sizeOf159
 v25:=Tryz.zeroValue159
 t39:=Tryz.underlying188
 a39:=Tryz.isAgg188
 z39:=Tryz.sizeOf188
 v39:=Tryz.zeroValue188
 t45:=Tryz.underlying261
 a45:=Tryz.isAgg261
 z45:=Tryz.sizeOf261
 v45:=Tryz.zeroValue261
 t46:=Tryz.underlying262
 a46:=Tryz.isAgg262
 z46:=Tryz.sizeOf262
 v46:=Tryz.zeroValue262
 t50:=Tryz.underlying266
 a50:=Tryz.isAgg266
 z50:=Tryz.sizeOf266
 v50:=Tryz.zeroValue266
 t53:=Tryz.underlying224
 a53:=Tryz.isAgg224
 z53:=Tryz.sizeOf224
 v53:=Tryz.zeroValue224
 t55:=Tryz.underlying101
 a55:=Tryz.isAgg101
 z55:=Tryz.sizeOf101
 v55:=Tryz.zeroValue101
 t66:=Tryz.underlying283
 a66:=Tryz.isAgg283
 z66:=Tryz.sizeOf283
 v66:=Tryz.zeroValue283
 t70:=Tryz.underlying287
 a70:=Tryz.isAgg287
 z70:=Tryz.sizeOf287
 v70:=Tryz.zeroValue287
 t76:=Tryz.underlying303
 a76:=Tryz.isAgg303
 z76:=Tryz.sizeOf303
 v76:=Tryz.zeroValue303
 t77:=Tryz.underlying304
 a77:=Tryz.isAgg304
 z77:=Tryz.sizeOf304
 v77:=Tryz.zeroValue304 }
def Tryz.sortFS_ren:Go.Shelf.Ren:=⟨fun|6=>185|15=>179|14=>214|28=>201|29=>202|20=>241|21=>242|22=>243|23=>244|24=>245|25=>246|26=>247|27=>248|46=>257|47=>226|48=>227|49=>258|50=>259|57=>262|n=>n,fun|22=>172|24=>9|25=>162|3=>3|39=>188|0=>0|53=>224|55=>101|4=>4|46=>262|45=>261|50=>266|5=>5|9=>9|66=>283|70=>287|76=>303|77=>304|n=>n,fun|n=>n⟩
theorem Tryz.sortFS:Go.Proofs.SlLaysF.n6 Tryz.prog Tryz.sortFS_ren:={
 mixed:=by kernel_rfl
 f6:=⟨Tryz.f185.name,by decide,Tryz.func185.trans (congrArg some (by kernel_rfl))⟩
 f14:=⟨Tryz.f214.name,by decide,Tryz.func214.trans (congrArg some (by kernel_rfl))⟩
 f15:=Tryz.func179.trans (congrArg some (by kernel_rfl))
 f20:=⟨Tryz.f241.name,by decide,Tryz.func241.trans (congrArg some (by kernel_rfl))⟩
 f21:=⟨Tryz.f242.name,by decide,Tryz.func242.trans (congrArg some (by kernel_rfl))⟩
 f22:=⟨Tryz.f243.name,by decide,Tryz.func243.trans (congrArg some (by kernel_rfl))⟩
 f23:=⟨Tryz.f244.name,by decide,Tryz.func244.trans (congrArg some (by kernel_rfl))⟩
 f24:=⟨Tryz.f245.name,by decide,Tryz.func245.trans (congrArg some (by kernel_rfl))⟩
 f25:=⟨Tryz.f246.name,by decide,Tryz.func246.trans (congrArg some (by kernel_rfl))⟩
 f26:=⟨Tryz.f247.name,by decide,Tryz.func247.trans (congrArg some (by kernel_rfl))⟩
 f27:=⟨Tryz.f248.name,by decide,Tryz.func248.trans (congrArg some (by kernel_rfl))⟩
 f28:=Tryz.func201.trans (congrArg some (by kernel_rfl))
 f29:=Tryz.func202.trans (congrArg some (by kernel_rfl))
 f46:=⟨Tryz.f257.name,by decide,Tryz.func257.trans (congrArg some (by kernel_rfl))⟩
 f47:=Tryz.func226.trans (congrArg some (by kernel_rfl))
 f48:=Tryz.func227.trans (congrArg some (by kernel_rfl))
 f49:=⟨Tryz.f258.name,by decide,Tryz.func258.trans (congrArg some (by kernel_rfl))⟩
 f50:=⟨Tryz.f259.name,by decide,Tryz.func259.trans (congrArg some (by kernel_rfl))⟩
 f57:=⟨Tryz.f262.name,by decide,Tryz.func262.trans (congrArg some (by kernel_rfl))⟩
 t0:=Tryz.underlying0
 a0:=Tryz.isAgg0
 z0:=Tryz.sizeOf0
 v0:=Tryz.zeroValue0
 t3:=Tryz.underlying3
 a3:=Tryz.isAgg3
 z3:=Tryz.sizeOf3
 v3:=Tryz.zeroValue3
 t4:=Tryz.underlying4
 a4:=Tryz.isAgg4
 z4:=Tryz.sizeOf4
 v4:=Tryz.zeroValue4
 t5:=Tryz.underlying5
 a5:=Tryz.isAgg5
 z5:=Tryz.sizeOf5
 v5:=Tryz.zeroValue5
 t9:=Tryz.underlying9
 a9:=Tryz.isAgg9
 z9:=Tryz.sizeOf9
 v9:=Tryz.zeroValue9
 t22:=Tryz.underlying172
 a22:=Tryz.isAgg172
 z22:=Tryz.sizeOf172
 v22:=Tryz.zeroValue172
 a24:=Tryz.isAgg9
 z24:=Tryz.sizeOf9
 t25:=Tryz.underlying162
 a25:=Tryz.isAgg162
 z25:=Tryz.sizeOf162
 v25:=Tryz.zeroValue162
 t39:=Tryz.underlying188
 a39:=Tryz.isAgg188
 z39:=Tryz.sizeOf188
 v39:=Tryz.zeroValue188
 t45:=Tryz.underlying261
 a45:=Tryz.isAgg261
 z45:=Tryz.sizeOf261
 v45:=Tryz.zeroValue261
 t46:=Tryz.underlying262
 a46:=Tryz.isAgg262
 z46:=Tryz.sizeOf262
 v46:=Tryz.zeroValue262
 t50:=Tryz.underlying266
 a50:=Tryz.isAgg266
 z50:=Tryz.sizeOf266
 v50:=Tryz.zeroValue266
 t53:=Tryz.underlying224
 a53:=Tryz.isAgg224
 z53:=Tryz.sizeOf224
 v53:=Tryz.zeroValue224
 t55:=Tryz.underlying101
 a55:=Tryz.isAgg101
 z55:=Tryz.sizeOf101
 v55:=Tryz.zeroValue101
 t66:=Tryz.underlying283
 a66:=Tryz.isAgg283
 z66:=Tryz.sizeOf283
 v66:=Tryz.zeroValue283
 t70:=Tryz.underlying287
 a70:=Tryz.isAgg287
 z70:=Tryz.sizeOf287
 v70:=Tryz.zeroValue287
 t76:=Tryz.underlying303
 a76:=Tryz.isAgg303
 z76:=Tryz.sizeOf303
 v76:=Tryz.zeroValue303
 t77:=Tryz.underlying304
 a77:=Tryz.isAgg304
 z77:=Tryz.sizeOf304
 v77:=Tryz.zeroValue304 }
end Go.Proofs
namespace Go.Proofs.YtjfelfjobeeenaaGreat
open Go.RowKit Go.Sf Go.Shelf Go.Maps Go.Sort Go.Lib
theorem zs9 (a b:Int) (W:World):Calls Tryz.prog 85 #[.int .i64 a,.int .i64 b] W fun e w'=>e = .returned (.int .i64 (Vs a b))∧w'=W:=by
 by_cases h1:a<b
 ·have hc:Vs a b = -1:=by unfold Vs;rw[if_pos h1]
  rw[hc]
  go_enter Tryz.func85,Tryz.ntmps85
  go_wp2
  go_ret
  exact⟨rfl,rfl⟩
 ·by_cases h2:b<a
  ·have hc:Vs a b=1:=by unfold Vs;rw[if_neg h1,if_pos h2]
   rw[hc]
   go_enter Tryz.func85,Tryz.ntmps85
   go_wp2
   go_ret
   exact⟨rfl,rfl⟩
  ·have hc:Vs a b=0:=by unfold Vs;rw[if_neg h1,if_neg h2]
   rw[hc]
   go_enter Tryz.func85,Tryz.ntmps85
   go_wp2
   go_ret
   exact⟨rfl,rfl⟩
theorem ltN (a b:Int):ltOf Vs a b=decide (a<b):=by
 unfold ltOf Vs
 by_cases h:a<b
 ·simp[h]
 ·by_cases h2:b<a <;> simp[h,h2]
theorem swoN:SWO (ltOf Vs) where
 irrefl x:=by rw[ltN];simp
 trans x y z h1 h2:=by rw[ltN] at *;simp at *;omega
 ntrans x y z h1 h2:=by rw[ltN] at *;simp at *;omega
def cmpS (a b:List UInt8):Int:=zcd ⟨a.toArray⟩ ⟨b.toArray⟩
theorem ltS (a b:List UInt8):ltOf cmpS a b=decide (a<b):=by
 have h:=jx ⟨⟨a.toArray⟩,0⟩ ⟨⟨b.toArray⟩,0⟩;have e:ltI ⟨⟨a.toArray⟩,0⟩ ⟨⟨b.toArray⟩,0⟩=ltOf cmpS a b:=by
  unfold ltI ltOf zku cmpS
  by_cases h0:zcd ⟨a.toArray⟩ ⟨b.toArray⟩=0
  ·simp only[h0,if_true];simp[Vs]
  ·simp only[h0,if_false]
 rw[e] at h
 cases hx:ltOf cmpS a b with
 | true=>
  rcases h.1 hx with h2|⟨_,h2⟩
  ·exact(decide_eq_true (by simpa using h2)).symm
  ·exact absurd h2 (Int.lt_irrefl 0)
 | false=>
  refine(decide_eq_false fun h2=>?_).symm
  have:=h.2 (Or.inl (by simpa using h2))
  rw[hx] at this;cases this
theorem swoS:SWO (ltOf cmpS) where
 irrefl x:=by rw[ltS];exact decide_eq_false Std.lt_irrefl
 trans x y z h1 h2:=by
  rw[ltS] at *;simp only[decide_eq_true_eq] at *
  exact Std.lt_trans h1 h2
 ntrans x y z h1 h2:=by
  rw[ltS] at *;simp only[decide_eq_false_iff_not] at *;intro h
  rcases Std.lt_trichotomy x y with a|a|a
  ·exact h1 a
  ·subst a;exact h2 h
  ·rcases Std.lt_trichotomy y z with b|b|b
   ·exact h2 b
   ·subst b;exact h1 h
   ·exact Std.lt_irrefl (Std.lt_trans (Std.lt_trans h b) a)
def Yz {V:Type} (m:List (Int × V)):List Int:=(m.map (·.1)).mergeSort fun x y=>decide (x≤y)
def Zx {V:Type} (m:List (ByteArray × V)):List (List UInt8):=(m.map fun p=>p.1.data.toList).mergeSort leB
theorem cmpfN:(fun x y:Int=>!(ltOf Vs) y x)=fun x y=>decide (x≤y):=by
 funext x y
 rw[ltN]
 by_cases h:y<x
 ·simp[h]
 ·simp[h];omega
theorem cmpfS:(fun x y:List UInt8=>!(ltOf cmpS) y x)=leB:=by
 funext x y
 rw[ltS];unfold leB
 by_cases h:y<x
 ·rw[decide_eq_true h,decide_eq_false (fun h2:x≤y=>h2 h)];rfl
 ·rw[decide_eq_false h,decide_eq_true (show x≤y from h)];rfl
theorem zre (mb:Option Nat) (W:World):Calls Tryz.prog 154 #[.map mb] W fun e w'=>
  e = .returned (.func (.func 184) #[] #[.pointer (some ⟨W.heap.size,0,none⟩)])∧w'=W.alloc (.cells #[.map mb] 117):=
 callsIn_wide.1 (AnyZI.keys_in Tryz.keysC Fence.wide 5 trivial rfl mb W)
section
variable {w : World} {V : Type} {ev : V → Value}
theorem ztx {m:List (Int × V)} {E:List (Lit × DataW Unit)} (h:E.Perm (m.map fun p=>(Lit.int .i64 p.1,(DataW.nil:DataW Unit)))):(intKeys (.map E)).Perm (m.map (·.1)):=by
 have h1:=h.map (fun p=>(match p.1 with | .int _ x=>x|_=>0:Int))
 rw[List.map_map] at h1
 exact h1
set_option maxRecDepth 100000 in
theorem znv (Bm b:Nat) (m:List (Int × V)) (hBm:Bm<w.heap.size) (hm:w.cell? ⟨Bm,0,none⟩=some (.map (some b))) (hown:zw w b (Value.int .i64) ev m) (hr:∀p∈m,(Lit.int .i64 p.1).wf=true) (hl:m.length≤1000000) :
  Calls Tryz.prog 153 #[.func (.func 184) #[] #[.pointer (some ⟨Bm,0,none⟩)],.func (.func 85) #[] #[]] w
   fun e w'=>∃v,e = .returned v∧w'.ownsRow w.heap.size 3 1 v (Yz m).length ((Yz m).map (Value.int .i64))∧w.grownBy w' none:=by
 obtain⟨E,howns,hE⟩:=zw.owns (P:=Tryz.prog) (k:=3) hown (fun n=>Lit.int .i64 n) (fun p hp=>keyOf_int_mk Tryz.underlying3 (hr p hp)) (by simp[maxLen];omega)
 have hkeys:=ztx hE;have hsz:Maps.size (.map E:DataW Unit)=m.length:=by
  have:=hE.length_eq;simpa[Maps.size] using this
 have hbl:=howns.lt;have hseq:SeqGives Fence.wide 3 Tryz.prog 184 #[.pointer (some ⟨Bm,0,none⟩)] encZ (fun ss=>ss.Perm (intKeys (.map E:DataW Unit))) (Maps.size (.map E:DataW Unit)) w:=
  AnyZI.keys_gives (ρ:=Tryz.keysC_ren) { Tryz.keysC with } Fence.wide _ trivial rfl (by omega) Bm b _ (.map E) _ hBm hm howns
 have HC:Hid (Calls Tryz.prog 143 #[.func (.func 184) #[] #[.pointer (some ⟨Bm,0,none⟩)]] w fun e w'=>∃(v:Value) (ss:List Int),e = .returned v∧ss.Perm (intKeys (.map E:DataW Unit))∧w'.ownsRow w.heap.size 3 1 v ss.length (ss.map encZ)∧(v = .slice none 0 0↔ss = [])∧RowKit.Below w.heap.size w w'):=(callsIn_wide.1 (AnyZI.collect_in (ρ:=Tryz.sortedI_ren) { Tryz.sortedI with } Fence.wide 5 trivial trivial rfl (by omega) 184 #[.pointer (some ⟨Bm,0,none⟩)] trivial (enters_of Tryz.func184 (by kernel_rfl) rfl) _ _ (by rw[hsz];simp[maxLen];omega) (by rw[hsz];omega) _ hseq))
 have eg:∀args w,(callFunc 85 args).run Tryz.prog w = .ok (.enter 85 args) w:=enters_of Tryz.func85 (by kernel_rfl) rfl
 have HK:=za hkeys;clear hown hE hseq hkeys howns hm
 go_enter Tryz.func153,Tryz.ntmps153
 go_wp2_with (go_at_call 143;refine HC.out.mono ?_;rintro e w1 ⟨v,ss,rfl,hp,hrow,hnil,hb⟩;have HP:=za (And.intro hp (And.intro hrow hb));clear hp hrow hnil hb)
 obtain⟨hp,hrow,hb⟩:=HP.out;have hpm:ss.Perm (m.map (·.1)):=hp.trans HK.out
 have hlen:ss.length≤1000000:=by rw[hpm.length_eq];simpa using hl
 have hms:(ss.mergeSort fun x y=>decide (x≤y))=Yz m:=mergeSort_of_perm_i hpm
 have hil:(Yz m).length=ss.length:=by rw[←hms,List.length_mergeSort]
 rcases hrow.2 with ⟨rfl,hz⟩|⟨g,cap,cur,rfl,hbase,hgb,r1,r2,r3,r4⟩
 ·have hss:ss = []:=List.eq_nil_of_length_eq_zero hz
  subst hss;have HE:Hid (Yz m = []):=(show _=_ from List.eq_nil_of_length_eq_zero (by rw[hil];rfl))
  have HB:=za hb;clear hb hp hpm hms hil hrow HP HK hlen
  go_wp2_with (go_at_call 183;refine(AnyF.slices_SortFunc_none (ρ:=Tryz.sortFI_ren) { Tryz.sortFI with } none 0 _ _).mono ?_;rintro e w2 ⟨rfl,rfl⟩)
  go_ret
  rw[HE.out]
  exact⟨_,rfl,World.ownsRow_nil _ _ _ _,jo HB.out⟩
 ·have hH:Holds (Value.int .i64) w1 g 0 ss.toArray:=holds_of_block_i hgb (by simpa using r4)
  have hgl:g<w1.heap.size:=(Array.getElem?_eq_some_iff.1 hgb).1;have hS:=Any.slices_SortFunc_total (ρ:=Tryz.sortFI_ren) Tryz.sortFI (Value.int .i64) (fun _=>rfl) Vs swoN 85 #[] g 0 cap ss.toArray w1 eg (fun mm os dk hd x y=>(zs9 x y _).mono fun e w' ⟨h1,h2⟩=>⟨h1,0,#[],by rw[h2,grow_empty];rfl⟩) hH hgl (by simp;omega) (fun x y h1 h2=>by rw[ltN] at h1 h2;simp at h1 h2;omega)
  rw[cmpfN] at hS;simp only[List.size_toArray] at hS;rw[hms] at hS;have HS:=za hS;have HH:=za (And.intro hbase (And.intro hgb (And.intro r1 (And.intro r2 (And.intro r3 (And.intro hb hil))))));clear hS hH hgl hb hp hpm hms hil hrow HP HK hgb r1 r2 r3 r4 hbase hlen
  go_wp2_with (go_at_call 183;refine HS.out.mono ?_;rintro e w2 ⟨rfl,n,os,rfl⟩)
  go_ret
  obtain⟨hbase,hgb,r1,r2,r3,hb,hil⟩:=HH.out;refine⟨_,rfl,?_,?_⟩
  ·rw[hil]
   exact ownsRow_sorted_i hil hbase hgb r1 r2 r3
  ·exact jk (jo hb) (grownBy_sorted_i _) (fun k hk=>by cases hk;exact hbase)
theorem zsr {m:List (ByteArray × V)} {E:List (Lit × DataW Unit)} (h:E.Perm (m.map fun p=>(Lit.string p.1.data.toList,(DataW.nil:DataW Unit)))):(strKeys (.map E)).Perm (m.map fun p=>p.1.data.toList):=by
 have h1:=h.map (fun p=>strOf p.1)
 rw[List.map_map] at h1
 exact h1
set_option maxRecDepth 100000 in
theorem znt (Bm b:Nat) (m:List (ByteArray × V)) (hBm:Bm<w.heap.size) (hm:w.cell? ⟨Bm,0,none⟩=some (.map (some b))) (hown:zw w b Value.string ev m) (hr:∀p∈m,p.1.size≤maxLen) (hl:m.length≤1000000) :
  Calls Tryz.prog 156 #[.func (.func 162) #[] #[.pointer (some ⟨Bm,0,none⟩)],.func (.func 89) #[] #[]] w
   fun e w'=>∃v,e = .returned v∧w'.ownsRow w.heap.size 9 1 v (Zx m).length ((Zx m).map encStr)∧w.grownBy w' none:=by
 obtain⟨E,howns,hE⟩:=zw.owns (P:=Tryz.prog) (k:=9) hown (fun s=>Lit.string s.data.toList) (fun p hp=>WideMaps.keyOf_string_mk Tryz.underlying9 (hr p hp)) (by simp[maxLen];omega)
 have hkeys:=zsr hE;have hsz:Maps.size (.map E:DataW Unit)=m.length:=by
  have:=hE.length_eq;simpa[Maps.size] using this
 have hbl:=howns.lt;have hseq:SeqGives Fence.wide 3 Tryz.prog 162 #[.pointer (some ⟨Bm,0,none⟩)] encStr (fun ss=>ss.Perm (strKeys (.map E:DataW Unit))) (Maps.size (.map E:DataW Unit)) w:=
  AnyZ.keys_gives (ρ:=Tryz.keysS_ren) { Tryz.keysS with } Fence.wide _ trivial rfl (by omega) Bm b _ (.map E) _ hBm hm howns
 have HC:Hid (Calls Tryz.prog 160 #[.func (.func 162) #[] #[.pointer (some ⟨Bm,0,none⟩)]] w fun e w'=>∃(v:Value) (ss:List (List UInt8)),e = .returned v∧ss.Perm (strKeys (.map E:DataW Unit))∧w'.ownsRow w.heap.size 9 1 v ss.length (ss.map encStr)∧(v = .slice none 0 0↔ss = [])∧RowKit.Below w.heap.size w w'):=(callsIn_wide.1 (AnyZ.collect_in (ρ:=Tryz.sortedS_ren) { Tryz.sortedS with } Fence.wide 5 trivial trivial rfl (by omega) 162 #[.pointer (some ⟨Bm,0,none⟩)] trivial (enters_of Tryz.func162 (by kernel_rfl) rfl) _ _ (by rw[hsz];simp[maxLen];omega) (by rw[hsz];omega) _ hseq))
 have eg:∀args w,(callFunc 89 args).run Tryz.prog w = .ok (.enter 89 args) w:=enters_of Tryz.func89 (by kernel_rfl) rfl
 have HK:=za hkeys;clear hown hE hseq hkeys howns hm
 go_enter Tryz.func156,Tryz.ntmps156
 go_wp2_with (go_at_call 160;refine HC.out.mono ?_;rintro e w1 ⟨v,ss,rfl,hp,hrow,hnil,hb⟩;have HP:=za (And.intro hp (And.intro hrow hb));clear hp hrow hnil hb)
 obtain⟨hp,hrow,hb⟩:=HP.out;have hpm:ss.Perm (m.map fun p=>p.1.data.toList):=hp.trans HK.out
 have hlen:ss.length≤1000000:=by rw[hpm.length_eq];simpa using hl
 have hms:ss.mergeSort leB=Zx m:=mergeSort_of_perm hpm;have hil:(Zx m).length=ss.length:=by rw[←hms,List.length_mergeSort]
 rcases hrow.2 with ⟨rfl,hz⟩|⟨g,cap,cur,rfl,hbase,hgb,r1,r2,r3,r4⟩
 ·have hss:ss = []:=List.eq_nil_of_length_eq_zero hz
  subst hss;have HE:Hid (Zx m = []):=(show _=_ from List.eq_nil_of_length_eq_zero (by rw[hil];rfl))
  have HB:=za hb;clear hb hp hpm hms hil hrow HP HK hlen
  go_wp2_with (go_at_call 185;refine(AnyF.slices_SortFunc_none (ρ:=Tryz.sortFS_ren) { Tryz.sortFS with } none 0 _ _).mono ?_;rintro e w2 ⟨rfl,rfl⟩)
  go_ret
  rw[HE.out]
  exact⟨_,rfl,World.ownsRow_nil _ _ _ _,jo HB.out⟩
 ·have hH:Holds encStr w1 g 0 ss.toArray:=holds_of_block hgb (by simpa using r4)
  have hgl:g<w1.heap.size:=(Array.getElem?_eq_some_iff.1 hgb).1;have hS:=Any.slices_SortFunc_total (ρ:=Tryz.sortFS_ren) Tryz.sortFS encStr (fun _=>rfl) cmpS swoS 89 #[] g 0 cap ss.toArray w1 eg (fun mm os dk hd x y=>(zlk ⟨x.toArray⟩ ⟨y.toArray⟩ _).mono fun e w' ⟨h1,h2⟩=>⟨h1,0,#[],by rw[h2,grow_empty];rfl⟩) hH hgl (by simp;omega) (fun x y h1 h2=>by rw[ltS] at h1 h2;simp only[decide_eq_false_iff_not] at h1 h2;rcases Std.lt_trichotomy x y with a|a|a;exact absurd a h1;exact a;exact absurd a h2)
  rw[cmpfS] at hS;simp only[List.size_toArray] at hS;rw[hms] at hS;have HS:=za hS;have HH:=za (And.intro hbase (And.intro hgb (And.intro r1 (And.intro r2 (And.intro r3 (And.intro hb hil))))));clear hS hH hgl hb hp hpm hms hil hrow HP HK hgb r1 r2 r3 r4 hbase hlen
  go_wp2_with (go_at_call 185;refine HS.out.mono ?_;rintro e w2 ⟨rfl,n,os,rfl⟩)
  go_ret
  obtain⟨hbase,hgb,r1,r2,r3,hb,hil⟩:=HH.out;refine⟨_,rfl,?_,?_⟩
  ·rw[hil]
   exact ownsRow_sorted hil hbase hgb r1 r2 r3
  ·exact jk (jo hb) (grownBy_sorted _) (fun k hk=>by cases hk;exact hbase)
end
end Go.Proofs.YtjfelfjobeeenaaGreat
