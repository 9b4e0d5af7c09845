/- SlotsKnown: walked. Conditions: none, or as the theorems say. -/
import Derived.Test.YtbcbhlfjgobejaaGreatS26
import Derived.Test.YtbcbhlfjgobejaaGreatS48
import Derived.Test.YtbcbhlfjgobejaaGreatRows
import Derived.WalkKit
import Derived.ProofKit
import Derived.OpenShut
set_option linter.unusedSimpArgs false
set_option linter.unusedVariables false
namespace Go.Proofs.YtbcbhlfjgobejaaGreat
set_option maxHeartbeats 200000000
open Go.RowKit Go.Sf Go.Shelf
set_option maxRecDepth 100000
set_option maxHeartbeats 40000000
variable {W w w1:World}
theorem zf5 (n:Nat) (hn:n≤200000) (w:World):(Instr.makeSlice 32 (.int .i64 (n:Int)) (.int .i64 (n:Int))).run Tryz.prog w = .ok (.slice (some ⟨w.heap.size,0,none⟩) n n) (w.alloc (.cells (zg (List.replicate n 0)).toArray 5)):=by
 have:=run_make_row' (P:=Tryz.prog) 32 5 (.int .u8 0) 1 Tryz.underlying32 Yu rfl .i64 .i64 n (by omega) (by omega) w
 rw[this];have e:madeCells #[Value.int .u8 0] n=(zg (List.replicate n 0)).toArray:=by
  apply Array.ext'
  rw[toList_madeCells_one];simp[zg]
 rw[e]
theorem blk_any (k index count:Nat) (s:ByteArray) (hk:k<9223372036854775808) (hi:index<65536) (hc:count<65536) (hs:s.size≤230) (W:World) :
  Calls Tryz.prog 23 #[.int .i64 k,.int .i64 index,.int .i64 count,.string s] W λe w'=>∃E:ByteArray,e = .returned (.string E)∧E.size=256∧W.grownBy w' none:=by
 refine(Xn k index count s hk hi hc hs W).mono ?_;rintro e w' ⟨rfl,hg⟩
 exact⟨_,rfl,by rw[yu];exact js (by show(yz s).length≤230;rw[yt];exact hs),hg⟩
theorem Xv (k i c:Int) (s:ByteArray) (hk:0≤k∧k<9223372036854775808) (hi:0≤i∧i<65536) (hc:0≤c∧c<65536) (hs:s.size≤230) (W:World) :
  Calls Tryz.prog 23 #[.int .i64 k,.int .i64 i,.int .i64 c,.string s] W λe w'=>∃E:ByteArray,e = .returned (.string E)∧E.size=256∧W.grownBy w' none:=by
 obtain⟨k,rfl⟩:=Int.eq_ofNat_of_zero_le hk.1;obtain⟨i,rfl⟩:=Int.eq_ofNat_of_zero_le hi.1;obtain⟨c,rfl⟩:=Int.eq_ofNat_of_zero_le hc.1
 exact blk_any k i c s (by omega) (by omega) (by omega) hs W
theorem Yj (W:World) (E:ByteArray) (hE:E.size=256):∃p c W2,(convert 9 32 (.string E)).run Tryz.prog W = .ok (.slice p 256 c) W2∧W.grownBy W2 none∧zx W2 (.slice p 256 c) (yz E):=by
 obtain⟨y,W2,h1,h2,h3⟩:=Uy W E;obtain⟨p,c,rfl,h4⟩:=h3.ex;have hl:(yz E).length=256:=by rw[yt,hE]
 refine⟨p,c,W2,by rw[h1,hl],h2,⟨p,c,by rw[hl],h4⟩⟩
def Lst (W w:World) (l:List vn):Prop:=W.grownBy w none∧∀x∈l,qr w x
theorem Lst.grown {l:List vn} (h:Lst W w l) (hg:w.grownBy w1 none):Lst W w1 l:=⟨zh h.1 hg,λx hx=>(h.2 x hx).grown hg⟩
theorem Lst.blk {w2:World} {l:List vn} (h:Lst W w l) (hg:w.grownBy w1 none) (hg1:w1.grownBy w2 none) {p:Option Addr} {c:Nat} {E:ByteArray} (hr:zx w2 (.slice p 256 c) (yz E)) (hE:E.size=256) (n:Int) (hn:0≤n∧n<100) :
  Lst W w2 (⟨10,yz E,p,c,0,n,[],none,0⟩ :: l):=by
 have h2:=(h.grown hg).grown hg1;refine⟨h2.1,λx hx=>?_⟩
 rcases List.mem_cons.1 hx with rfl|hx
 ·have hl:(yz E).length=256:=by rw[yt,hE]
  exact⟨by show zx w2 (.slice p (yz E).length c) _;rw[hl];exact hr,zc5 _,Yq _,λb hb=>(by cases hb),by show(0:Int)≤10∧(10:Int)≤255;decide,by show(0:Int)≤0∧(0:Int)≤255;decide,by show _≤n∧n≤_;omega,by show(yz E).length≤_;omega,by show 0≤_;decide⟩
 ·exact h2.2 x hx
theorem Lst.row {l:List vn} (h:Lst W w l) (b:Int):Lst W (w.alloc (.cells #[.int .u8 b] 5 (1,2))) l:=h.grown (ze _ _ none)
theorem Lst.one {l:List vn} (h:Lst W w l) (b:Int) (hb:0≤b∧b<256) (k:Int) (hk:0≤k∧k≤255):Lst W (w.alloc (.cells #[.int .u8 b] 5 (1,2))) (⟨k,[b],some ⟨w.heap.size,0,none⟩,1,0,0,[],none,0⟩ :: l):=by
 have h2:=h.row b;refine⟨h2.1,λx hx=>?_⟩
 rcases List.mem_cons.1 hx with rfl|hx
 ·exact⟨(Va (b:=[b]) (cap:=1) (T:=5) (1,2) (by simp) (by decide) w.heap.size (Nat.le_refl _)).raw,λx hx=>(by simp at hx;omega),Yq _,λb hb=>(by cases hb),hk,by show(0:Int)≤0∧(0:Int)≤255;decide,by show _≤(0:Int)∧(0:Int)≤_;decide,by show 1≤_;decide,by show 0≤_;decide⟩
 ·exact h2.2 x hx
theorem Lst.bare {l:List vn} (h:Lst W w l) (k n:Int) (hk:0≤k∧k≤255) (hn:0≤n∧n≤9223372036854775807):Lst W w (⟨k,[],none,0,0,n,[],none,0⟩ :: l):=by
 refine⟨h.1,λx hx=>?_⟩
 rcases List.mem_cons.1 hx with rfl|hx
 ·exact⟨Yq _,λb hb=>(by cases hb),Yq _,λb hb=>(by cases hb),hk,by show(0:Int)≤0∧(0:Int)≤255;decide,by show _≤n∧n≤_;omega,by show 0≤_;decide,by show 0≤_;decide⟩
 ·exact h.2 x hx
theorem zki (W:World):Calls Tryz.prog 7 #[] W λe w'=>e = .returned (.bool true)∧W.grownBy w' none:=by
 have HON:=zd zpn;have HN:=zd dnew
 go_enter Tryz.func7,Tryz.ntmps7
 go_upto_region 5 with (first
  | (go_at_call 19;refine(HN.out 5 _).mono ?_;rintro e w2 ⟨db,rfl,hg,-,hd⟩;have HG2:=zd (zh HG1.out hg);have HD:=zd (hd (λk=>k<W.heap.size) λk hk=>Nat.lt_of_lt_of_le hk HG1.out.size);have HCR:=zd (dcrash HD.out);clear hg hd)
  | (go_at_call 41;refine HCR.out.mono ?_;rintro e w3 ⟨rfl,hd,ht⟩;have HG3:=zd (xa HG2.out (λk hk=>hk) ht);have HOF:=zd (zgd hd rfl);clear hd ht)
  | (go_at_call 18;first
   | (refine HOF.out.mono ?_;rintro e w4 ⟨rfl,hg⟩;have HG4:=zd (zh HG3.out hg);clear hg)
   | (refine(HON.out _).mono ?_;rintro e w1 ⟨rfl,hg⟩;have HG1:=zd hg;clear hg)))
 clear HG1 HG2 HG3 HOF HCR HD HON;have HPN:=zd put_nil;have HGN:=zd get_nil;have HRN:=zd rem_nil;have HNN:=zd zif;have HXN:=zd zph;have HFN:=zd zoy;have HBN:=zd zj2
 go_upto_region 9 with (first
  | (go_at_call 20;refine(HPN.out _).mono ?_;rintro e w5 ⟨rfl,h5⟩;obtain rfl:w4=w5:=h5.symm)
  | (go_at_call 21;refine(HGN.out _).mono ?_;rintro e w5 ⟨rfl,h5⟩;obtain rfl:w4=w5:=h5.symm)
  | (go_at_call 30;refine(HRN.out _).mono ?_;rintro e w5 ⟨rfl,h5⟩;obtain rfl:w4=w5:=h5.symm)
  | (go_at_call 26;refine(HNN.out _).mono ?_;rintro e w5 ⟨rfl,h5⟩;obtain rfl:w4=w5:=h5.symm)
  | (go_at_call 29;refine(HXN.out _).mono ?_;rintro e w5 ⟨rfl,h5⟩;obtain rfl:w4=w5:=h5.symm)
  | (go_at_call 22;refine(HFN.out _).mono ?_;rintro e w5 ⟨rfl,h5⟩;obtain rfl:w4=w5:=h5.symm)
  | (go_at_call 46;refine(HBN.out _).mono ?_;rintro e w5 ⟨rfl,h5⟩;obtain rfl:w4=w5:=h5.symm))
 clear HPN HGN HRN HNN HXN HFN HBN
 go_upto_region 12 with (first
  | (go_at_call 19;refine(HN.out 600 _).mono ?_;rintro e w5 ⟨db6,rfl,hg,-,hd⟩;have HOP:=zd (zd6 (W:=w4) 600 hg hd);clear hg hd)
  | (go_at_call 18;refine HOP.out.mono ?_;rintro e w6 ⟨st,rfl,hst⟩;have HS:=zd hst;clear hst HOP))
 obtain⟨z1,hz1⟩:∃z,z=List.replicate 131073 (0:Int):=⟨_,rfl⟩;obtain⟨z2,hz2⟩:∃z,z=List.replicate 131072 (0:Int):=⟨_,rfl⟩;have hl1:z1.length=131073:=by rw[hz1,List.length_replicate]
 have hl2:z2.length=131072:=by rw[hz2,List.length_replicate]
 have hm1:∀w:World,(Instr.makeSlice 32 (.int .i64 131073) (.int .i64 131073)).run Tryz.prog w=_:=zf5 131073 (by decide)
 have hm2:∀w:World,(Instr.makeSlice 32 (.int .i64 131072) (.int .i64 131072)).run Tryz.prog w=_:=zf5 131072 (by decide)
 rw[←hz1] at hm1;rw[←hz2] at hm2;have HZ1:Hid (z1.length=131073∧BL z1):=(show _∧_ from ⟨hl1,by rw[hz1];exact z_BL _⟩)
 have HZ2:Hid (z2.length=131072∧BL z2):=(show _∧_ from ⟨hl2,by rw[hz2];exact z_BL _⟩)
 obtain⟨S1,he1,hf1⟩:=ex600 z2 hl2;have HE1:=zd he1;have HF1:=zd hf1;clear he1 hf1 hl1 hl2 hz1 hz2;have HP1:Hid (∀w,w6.grownBy w none→∀v,xw (λk=>w6.heap.size≤k∧k<w.heap.size) w v (zg z1)→Calls Tryz.prog 20 #[.pointer (some ⟨st,0,none⟩),v] w λe w'=>e = .returned (.tuple #[.int .i64 0,.int .i64 3])∧Zp w4 st (S0 600) w'):=(show ∀w,_→∀v,_→Calls _ _ _ _ _ from λw hg v hv=>by
  have:=HS.out.put hg hv HZ1.out.2 (by rw[HZ1.out.1];decide) (by decide)
  rw[ex601 z1 HZ1.out.1] at this
  exact this)
 have HRP1:Hid (xw (λk=>w6.heap.size≤k∧k<(w6.alloc (.cells (zg z1).toArray 5)).heap.size) (w6.alloc (.cells (zg z1).toArray 5)) (.slice (some ⟨w6.heap.size,0,none⟩) 131073 131073) (zg z1)):=(show xw _ _ _ _ from by
  have:=Zy (w:=w6) (b:=z1) (T:=5) (cap:=131073) (by rw[HZ1.out.1];exact Nat.le_refl _) (by omega) w6.heap.size (Nat.le_refl _)
  rw[HZ1.out.1] at this
  exact this)
 go_upto_region 13 with (go_at_call 20;refine(HP1.out _ (ze _ _ none) _ HRP1.out).mono ?_;rintro e w7 ⟨rfl,hst⟩;have HS2:=zd hst;clear hst)
 clear HP1 HRP1 hm1;have HP2:Hid (∀w,w7.grownBy w none→∀v,xw (λk=>w7.heap.size≤k∧k<w.heap.size) w v (zg z2)→Calls Tryz.prog 20 #[.pointer (some ⟨st,0,none⟩),v] w λe w'=>e = .returned (.tuple #[.int .i64 1,.int .i64 0])∧Zp w4 st S1 w'):=(show ∀w,_→∀v,_→Calls _ _ _ _ _ from λw hg v hv=>by
  have:=HS2.out.put hg hv HZ2.out.2 (by rw[HZ2.out.1];decide) (by decide)
  rw[HE1.out] at this
  exact this)
 have HRP2:Hid (xw (λk=>w7.heap.size≤k∧k<(w7.alloc (.cells (zg z2).toArray 5)).heap.size) (w7.alloc (.cells (zg z2).toArray 5)) (.slice (some ⟨w7.heap.size,0,none⟩) 131072 131072) (zg z2)):=(show xw _ _ _ _ from by
  have:=Zy (w:=w7) (b:=z2) (T:=5) (cap:=131072) (by rw[HZ2.out.1];exact Nat.le_refl _) (by omega) w7.heap.size (Nat.le_refl _)
  rw[HZ2.out.1] at this
  exact this)
 go_upto_region 14 with (go_at_call 20;refine(HP2.out _ (ze _ _ none) _ HRP2.out).mono ?_;rintro e w8 ⟨rfl,hst⟩;have hfr:=hst.free;rw[HF1.out] at hfr;have HFR:=zd hfr;have HG8:=zd (zh HG4.out hst.gr);clear hst hfr)
 clear HP2 HRP2 hm2 HS HS2 HZ1 HZ2 HE1 HF1 HG4 HN;have HPT:=zd parts30
 go_upto_region 15 with (first
  | (go_at_call 22;refine HFR.out.mono ?_;rintro e w9 ⟨rfl,h5⟩;obtain rfl:w8=w9:=h5.symm)
  | (go_at_call 15;refine(HPT.out _).mono ?_;rintro e w9 ⟨rfl,h5⟩;obtain rfl:w8=w9:=h5.symm))
 clear HPT HFR;clear z1 z2 S1;go_wp2
 go_loopw [18,19] (λt i wr=>w8.grownBy wr none∧t = .bool true∧∃z:Int,-2≤z∧z≤1000∧i = .int .i64 z) (λt i _=>(1000-intOf i).toNat)
 case atStart=>exact⟨zi _,rfl,-2,by omega,by omega,rfl⟩
 case round=>
  obtain⟨hg,rfl,z,hz1,hz2,rfl⟩:=hrel;have HG:=zd hg;clear hg
  by_cases hz:z<1000
  ·have HSP:=zd (zk5 z hz1 (by omega))
   obtain⟨r,hr⟩:∃r,r=z.tmod 115:=⟨_,rfl⟩;have HR:Hid (z.tmod 115=r):=(show _=_ from hr.symm)
   clear hr
   by_cases hr1:1<r
   ·by_cases hz0:0<z
    ·go_wp2_with (refine Ve _ rfl _ _ _ _ rfl z 115 r rfl rfl (by decide) HR.out ?_)
     go_roundw
     case rel=>exact⟨HG.out,rfl,z+1,by omega,by omega,by go_num⟩
     case measure=>simp[intOf];omega
    ·go_wp2_with (first
      | (refine Ve _ rfl _ _ _ _ rfl z 115 r rfl rfl (by decide) HR.out ?_)
      | (go_at_call 3;refine(HSP.out _).mono ?_;rintro e w9 ⟨rfl,hg⟩;have HG9:=zd (zh HG.out hg);clear hg))
     go_roundw
     case rel=>exact⟨HG9.out,rfl,z+1,by omega,by omega,by go_num⟩
     case measure=>simp[intOf];omega
   ·go_wp2_with (first
     | (refine Ve _ rfl _ _ _ _ rfl z 115 r rfl rfl (by decide) HR.out ?_)
     | (go_at_call 3;refine(HSP.out _).mono ?_;rintro e w9 ⟨rfl,hg⟩;have HG9:=zd (zh HG.out hg);clear hg))
    go_roundw
    case rel=>exact⟨HG9.out,rfl,z+1,by omega,by omega,by go_num⟩
    case measure=>simp[intOf];omega
  ·obtain rfl:z=1000:=by omega
   have HG9:=zd (zh HG8.out HG.out);clear HG HG8;generalize wr=w9 at *
   go_wp2_with fail
   go_loopw [20] (λf wr=>w9=wr∧∃s:ByteArray,f = .string s∧s.size≤230) (λf _=>match f with | .string s=>230-s.size|_=>0)
   case atStart=>exact⟨rfl,_,rfl,by decide⟩
   case round=>
    obtain⟨rfl,s,rfl,hs⟩:=hrel
    by_cases hs2:(s.size:Int)<230
    ·go_wp2_with fail
     go_roundw
     case rel=>exact⟨trivial,_,rfl,by rw[ByteArray.size_append];show s.size+1≤230;omega⟩
     case measure=>show 230-(s++_:ByteArray).size<230-s.size;rw[ByteArray.size_append];show 230-(s.size+1)<_;omega
    ·have HSZ:=zd hs
     have LL0:Hid (Lst W w9 []):=(show Lst _ _ _ from ⟨HG9.out,λx hx=>by cases hx⟩)
     clear HG9 hs;have hcv:=λ(w:World) (C:Array Value) (n c:Nat)=>Lib.run_convert_bytes_const (P:=Tryz.prog) w 32 5 C n c Tryz.underlying32 Tryz.underlying5
     have hcv2:∀(w:World) (b:Nat) (C:Array Value) (n c:Nat),b=w.heap.size→(convert 32 32 (.slice (some ⟨b,0,none⟩) n c)).run Tryz.prog (w.alloc (.cells C 5)) = .ok (.slice (some ⟨b,0,none⟩) n c) (w.alloc (.cells C 5 (C.size,C.size+1))):=λw b C n c e=>by
      subst e
      exact hcv w C n c
     go_upto_region 23 with (first
      | (refine qq rfl rfl rfl HV8.out ?_;refine vi #[.int .u8 10,.slice p8 256 c8,.int .u8 0,.int .i64 7,.slice none 0 0] #[(0,.const (.int .u8 10)),(3,.const (.int .i64 7)),(1,.tmp 173)] [(0,.int .u8 10),(3,.int .i64 7),(1,.slice p8 256 c8)] rfl rfl rfl rfl ?_;clear HV8)
      | (refine qq rfl rfl rfl HV7.out ?_;refine vi #[.int .u8 10,.slice p7 256 c7,.int .u8 0,.int .i64 6,.slice none 0 0] #[(0,.const (.int .u8 10)),(3,.const (.int .i64 6)),(1,.tmp 167)] [(0,.int .u8 10),(3,.int .i64 6),(1,.slice p7 256 c7)] rfl rfl rfl rfl ?_;clear HV7)
      | (refine qq rfl rfl rfl HV6.out ?_;refine vi #[.int .u8 10,.slice p6 256 c6,.int .u8 0,.int .i64 5,.slice none 0 0] #[(0,.const (.int .u8 10)),(3,.const (.int .i64 5)),(1,.tmp 164)] [(0,.int .u8 10),(3,.int .i64 5),(1,.slice p6 256 c6)] rfl rfl rfl rfl ?_;clear HV6)
      | (refine qq rfl rfl rfl HV5.out ?_;refine vi #[.int .u8 10,.slice p5 256 c5,.int .u8 0,.int .i64 4,.slice none 0 0] #[(0,.const (.int .u8 10)),(3,.const (.int .i64 4)),(1,.tmp 161)] [(0,.int .u8 10),(3,.int .i64 4),(1,.slice p5 256 c5)] rfl rfl rfl rfl ?_;clear HV5)
      | (refine qq rfl rfl rfl HV4.out ?_;refine vi #[.int .u8 10,.slice p4 256 c4,.int .u8 0,.int .i64 3,.slice none 0 0] #[(0,.const (.int .u8 10)),(3,.const (.int .i64 3)),(1,.tmp 157)] [(0,.int .u8 10),(3,.int .i64 3),(1,.slice p4 256 c4)] rfl rfl rfl rfl ?_;refine vi #[.int .u8 5,.slice none 0 0,.int .u8 0,.int .i64 5,.slice none 0 0] #[(0,.const (.int .u8 5)),(3,.const (.int .i64 5))] [(0,.int .u8 5),(3,.int .i64 5)] rfl rfl rfl rfl ?_;clear HV4)
      | (refine qq rfl rfl rfl HV3.out ?_;refine vi #[.int .u8 10,.slice p3 256 c3,.int .u8 0,.int .i64 2,.slice none 0 0] #[(0,.const (.int .u8 10)),(3,.const (.int .i64 2)),(1,.tmp 154)] [(0,.int .u8 10),(3,.int .i64 2),(1,.slice p3 256 c3)] rfl rfl rfl rfl ?_;clear HV3)
      | (refine qq rfl rfl rfl HV2.out ?_;refine vi #[.int .u8 10,.slice p2 256 c2,.int .u8 0,.int .i64 1,.slice none 0 0] #[(0,.const (.int .u8 10)),(3,.const (.int .i64 1)),(1,.tmp 151)] [(0,.int .u8 10),(3,.int .i64 1),(1,.slice p2 256 c2)] rfl rfl rfl rfl ?_;clear HV2)
      | (refine qq rfl rfl rfl HV1.out ?_;refine vi #[.int .u8 10,.slice p1 256 c1,.int .u8 0,.int .i64 0,.slice none 0 0] #[(0,.const (.int .u8 10)),(1,.tmp 148)] [(0,.int .u8 10),(1,.slice p1 256 c1)] rfl rfl rfl rfl ?_;clear HV1)
      | (go_at_call 23;first
       | (with_reducible refine(Xv 4611686018427387904 0 1 ⟨#[116]⟩ (by decide) (by decide) (by decide) (by decide) _).mono ?_;rintro e x8 ⟨E8,rfl,hE8,hg⟩;obtain⟨p8,c8,v8,hvk,hgk,hrk⟩:=Yj x8 E8 hE8;have LL8:=zd ((LL7.out.one 114 (by decide) 0 (by decide)).blk hg hgk hrk hE8 7 (by decide));have HV8:=zd hvk;have HE8:=zd hE8;clear hg hgk hrk hvk hE8)
       | (with_reducible refine(Xv 9 2 2 ⟨#[113]⟩ (by decide) (by decide) (by decide) (by decide) v6).mono ?_;rintro e x7 ⟨E7,rfl,hE7,hg⟩;obtain⟨p7,c7,v7,hvk,hgk,hrk⟩:=Yj x7 E7 hE7;have LL7:=zd (LL6.out.blk hg hgk hrk hE7 6 (by decide));have HV7:=zd hvk;have HE7:=zd hE7;clear hg hgk hrk hvk hE7)
       | (with_reducible refine(Xv 6 1 2 ⟨#[]⟩ (by decide) (by decide) (by decide) (by decide) v5).mono ?_;rintro e x6 ⟨E6,rfl,hE6,hg⟩;obtain⟨p6,c6,v6,hvk,hgk,hrk⟩:=Yj x6 E6 hE6;have LL6:=zd (LL5.out.blk hg hgk hrk hE6 5 (by decide));have HV6:=zd hvk;have HE6:=zd hE6;clear hg hgk hrk hvk hE6)
       | (with_reducible refine(Xv 6 0 2 ⟨#[115,104,111,114,116]⟩ (by decide) (by decide) (by decide) (by decide) v4).mono ?_;rintro e x5 ⟨E5,rfl,hE5,hg⟩;obtain⟨p5,c5,v5,hvk,hgk,hrk⟩:=Yj x5 E5 hE5;have LL5:=zd (LL4.out.blk hg hgk hrk hE5 4 (by decide));have HV5:=zd hvk;have HE5:=zd hE5;clear hg hgk hrk hvk hE5)
       | (with_reducible refine(Xv 5 0 1 ⟨#[119]⟩ (by decide) (by decide) (by decide) (by decide) v3).mono ?_;rintro e x4 ⟨E4,rfl,hE4,hg⟩;obtain⟨p4,c4,v4,hvk,hgk,hrk⟩:=Yj x4 E4 hE4;have LL4:=zd (LL3.out.blk hg hgk hrk hE4 3 (by decide));have HV4:=zd hvk;have HE4:=zd hE4;clear hg hgk hrk hvk hE4)
       | (with_reducible refine(Xv 5 1 2 ⟨#[122]⟩ (by decide) (by decide) (by decide) (by decide) v2).mono ?_;rintro e x3 ⟨E3,rfl,hE3,hg⟩;obtain⟨p3,c3,v3,hvk,hgk,hrk⟩:=Yj x3 E3 hE3;have LL3:=zd (LL2.out.blk hg hgk hrk hE3 2 (by decide));have HV3:=zd hvk;have HE3:=zd hE3;clear hg hgk hrk hvk hE3)
       | (with_reducible refine(Xv 5 1 2 ⟨#[121]⟩ (by decide) (by decide) (by decide) (by decide) v1).mono ?_;rintro e x2 ⟨E2,rfl,hE2,hg⟩;obtain⟨p2,c2,v2,hvk,hgk,hrk⟩:=Yj x2 E2 hE2;have LL2:=zd (LL1.out.blk hg hgk hrk hE2 1 (by decide));have HV2:=zd hvk;have HE2:=zd hE2;clear hg hgk hrk hvk hE2)
       | (with_reducible refine(Xv 5 0 2 s (by decide) (by decide) (by decide) HSZ.out w9).mono ?_;rintro e x1 ⟨E1,rfl,hE1,hg⟩;obtain⟨p1,c1,v1,hvk,hgk,hrk⟩:=Yj x1 E1 hE1;have LL1:=zd (LL0.out.blk hg hgk hrk hE1 0 (by decide));have HV1:=zd hvk;have HE1:=zd hE1;clear hg hgk hrk hvk hE1)))
     -- refine vi #[.int .u8 0, .slice (some ⟨v7.heap.size, 0, none⟩) 1 1, .int .u8 0, .int .i64 0, .slice none 0 0] #[(0, .const (.int .u8 0)), (1, .tmp 170)] [(0, .int .u8 0), (1, .slice (some ⟨v7.heap.size, 0, none⟩) 1 1)] rfl rfl rfl rfl ?_
     -- refine vi #[.int .u8 0, .slice (some ⟨v8.heap.size, 0, none⟩) 1 1, .int .u8 0, .int .i64 0, .slice none 0 0] #[(0, .const (.int .u8 0)), (1, .tmp 176)] [(0, .int .u8 0), (1, .slice (some ⟨v8.heap.size, 0, none⟩) 1 1)] rfl rfl rfl rfl ?_
     -- refine vi #[.int .u8 5, .slice none 0 0, .int .u8 0, .int .i64 4611686018427387904, .slice none 0 0] #[(0, .const (.int .u8 5)), (3, .const (.int .i64 4611686018427387904))] [(0, .int .u8 5), (3, .int .i64 4611686018427387904)] rfl rfl rfl rfl ?_
     -- refine vi #[.int .u8 9, .slice none 0 0, .int .u8 0, .int .i64 0, .slice none 0 0] #[(0, .const (.int .u8 9))] [(0, .int .u8 9)] rfl rfl rfl rfl ?_
     -- refine vi #[.int .u8 1, .slice (some ⟨_, 0, none⟩) 1 1, .int .u8 0, .int .i64 0, .slice none 0 0] #[(0, .const (.int .u8 1)), (1, .tmp 181)] [(0, .int .u8 1), (1, .slice (some ⟨_, 0, none⟩) 1 1)] rfl rfl rfl rfl ?_
     obtain⟨l1,hl1⟩:∃l:List vn,l = [⟨10,yz E1,p1,c1,0,0,[],none,0⟩,⟨10,yz E2,p2,c2,0,1,[],none,0⟩,⟨10,yz E3,p3,c3,0,2,[],none,0⟩,⟨10,yz E4,p4,c4,0,3,[],none,0⟩,⟨5,[],none,0,0,5,[],none,0⟩,⟨10,yz E5,p5,c5,0,4,[],none,0⟩,⟨10,yz E6,p6,c6,0,5,[],none,0⟩,⟨10,yz E7,p7,c7,0,6,[],none,0⟩,⟨0,[114],some ⟨v7.heap.size,0,none⟩,1,0,0,[],none,0⟩,⟨10,yz E8,p8,c8,0,7,[],none,0⟩,⟨0,[117],some ⟨v8.heap.size,0,none⟩,1,0,0,[],none,0⟩,⟨5,[],none,0,0,4611686018427387904,[],none,0⟩,⟨9,[],none,0,0,0,[],none,0⟩,⟨1,[118],some ⟨v8.heap.size+1,0,none⟩,1,0,0,[],none,0⟩]:=⟨_,rfl⟩;have HL1:=zd hl1;have hlst:=((((LL8.out.one 117 (by decide) 0 (by decide)).one 118 (by decide) 1 (by decide)).bare 5 5 (by decide) (by decide)).bare 5 4611686018427387904 (by decide) (by decide)).bare 9 0 (by decide) (by decide)
     rw[show(v8.alloc (.cells #[.int .u8 117] 5 (1,2))).heap.size=v8.heap.size+1 from by simp] at hlst
     have HLF:Hid (∀w,((v8.alloc (.cells #[.int .u8 117] 5 (1,2))).alloc (.cells #[.int .u8 118] 5 (1,2))).grownBy w none→W.grownBy w none∧∀x∈l1,qr w x):=(show ∀w,_→_ from λw hg=>⟨(hlst.grown hg).1,λx hx=>(hlst.grown hg).2 x (by
      rw[HL1.out] at hx;simp only[List.mem_cons,List.not_mem_nil,or_false] at hx ⊢
      rcases hx with h|h|h|h|h|h|h|h|h|h|h|h|h|h <;> simp[h])⟩)
     have HCL:Hid ((yz E1).length=256∧(yz E2).length=256∧(yz E3).length=256∧(yz E4).length=256∧(yz E5).length=256∧(yz E6).length=256∧(yz E7).length=256∧(yz E8).length=256):=(show _∧_ from ⟨by rw[yt];exact HE1.out,by rw[yt];exact HE2.out,by rw[yt];exact HE3.out,by rw[yt];exact HE4.out,by rw[yt];exact HE5.out,by rw[yt];exact HE6.out,by rw[yt];exact HE7.out,by rw[yt];exact HE8.out⟩)
     obtain⟨C1,hC1⟩:∃C:Array Value,C = #[.int .u8 10,.slice p1 256 c1,.int .u8 0,.int .i64 0,.slice none 0 0,.int .u8 10,.slice p2 256 c2,.int .u8 0,.int .i64 1,.slice none 0 0,.int .u8 10,.slice p3 256 c3,.int .u8 0,.int .i64 2,.slice none 0 0,.int .u8 10,.slice p4 256 c4,.int .u8 0,.int .i64 3,.slice none 0 0,.int .u8 5,.slice none 0 0,.int .u8 0,.int .i64 5,.slice none 0 0,.int .u8 10,.slice p5 256 c5,.int .u8 0,.int .i64 4,.slice none 0 0,.int .u8 10,.slice p6 256 c6,.int .u8 0,.int .i64 5,.slice none 0 0,.int .u8 10,.slice p7 256 c7,.int .u8 0,.int .i64 6,.slice none 0 0,.int .u8 0,.slice (some ⟨v7.heap.size,0,none⟩) 1 1,.int .u8 0,.int .i64 0,.slice none 0 0,.int .u8 10,.slice p8 256 c8,.int .u8 0,.int .i64 7,.slice none 0 0,.int .u8 0,.slice (some ⟨v8.heap.size,0,none⟩) 1 1,.int .u8 0,.int .i64 0,.slice none 0 0,.int .u8 5,.slice none 0 0,.int .u8 0,.int .i64 4611686018427387904,.slice none 0 0,.int .u8 9,.slice none 0 0,.int .u8 0,.int .i64 0,.slice none 0 0,.int .u8 1,.slice (some ⟨v8.heap.size+1,0,none⟩) 1 1,.int .u8 0,.int .i64 0,.slice none 0 0]:=⟨_,rfl⟩;have HC1:Hid (C1=(l1.map yd).flatten.toArray):=(show _=_ from by
      obtain⟨g1,g2,g3,g4,g5,g6,g7,g8⟩:=HCL.out;rw[hC1,HL1.out];simp only[List.map_cons,List.map_nil,yd,g1,g2,g3,g4,g5,g6,g7,g8]
      rfl)
     rw[←hC1];clear hC1;have h14:l1.length=14:=by rw[HL1.out];rfl
     have hhp:(((v8.alloc (.cells #[.int .u8 117] 5 (1,2))).alloc (.cells #[.int .u8 118] 5 (1,2))).alloc (.cells C1 49)).heap[v8.heap.size+1+1]? = some (.cells C1 49):=by
      have:=heap_alloc_new ((v8.alloc (.cells #[.int .u8 117] 5 (1,2))).alloc (.cells #[.int .u8 118] 5 (1,2))) (.cells C1 49);simpa using this
     have hlw:=HLF.out _ (ze _ (.cells C1 49) none);have hcr:=zb2 (l:=l1) (W:=W) (w:=W) hlw.2 (by rw[h14];omega) hhp HC1.out
     rw[h14] at hcr;have HCR:=zd hcr;have HW10:=zd hlw.1;clear hcr hlw hhp HLF HCL hlst;generalize ((v8.alloc (.cells #[.int .u8 117] 5 (1,2))).alloc (.cells #[.int .u8 118] 5 (1,2))).alloc (.cells C1 49)=w10 at *;generalize v8.heap.size+1+1=cb at *;clear HC1;clear HL1;clear HE1 HE2 HE3 HE4 HE5 HE6 HE7 HE8 LL0 LL1 LL2 LL3 LL4 LL5 LL6 LL7 LL8;go_wp2
     go_loopw [22] (λi wr=>w10.grownBy wr none∧∃j:Nat,j≤15∧i = .int .i64 (j:Int)) (λi _=>15-(intOf i).toNat)
     case atStart=>exact⟨zi _,0,by omega,rfl⟩
     case round=>
      obtain⟨hg,j,hj,rfl⟩:=hrel;have HG:=zd hg;clear hg
      by_cases hj2:j≤14
      ·have HC1:=zd (zgo (HCR.out.grown HG.out) j hj2)
       have HC2:Hid (∀w,w10.grownBy w none→∀a:Option Addr,(j<14→a=some ⟨cb,j*5,none⟩)→ur w (.slice a (14-j) (14-j)) (l1.drop j)):=zd (λw hw a ha=>zgn (HCR.out.grown hw) j hj2 a (14-j) (14-j) rfl ha)
       have hji:(j:Int)≤14:=by omega
       have hji0:(0:Int)≤(j:Int):=by omega
       rcases Nat.lt_or_ge j 14 with hj3|hj3
       ·have HC3:Hid (∀w,w10.grownBy w none→ur w (.slice (some ⟨cb,j*5,none⟩) (14-j) (14-j)) (l1.drop j)):=zd (λw hw=>HC2.out w hw _ (λ_=>rfl))
        clear HC2
        go_wp2_with (go_at_call 6;first
         | (with_reducible refine(zha (.slice (some ⟨cb,j*5,none⟩) (14-j) (14-j)) _ w11 (HC3.out _ HG11.out)).mono ?_;rintro e w12 ⟨rfl,hg⟩;have HG12:=zd (zh HG11.out hg);clear hg)
         | (with_reducible refine(zha (.slice (some ⟨cb,0,none⟩) j 14) _ wr HC1.out).mono ?_;rintro e w11 ⟨rfl,hg⟩;have HG11:=zd (zh HG.out hg);clear hg))
        go_roundw
        case rel=>exact⟨HG12.out,j+1,by omega,by go_num⟩
        case measure=>simp[intOf];omega
       ·obtain rfl:j=14:=by omega
        have HC3:Hid (∀w,w10.grownBy w none→ur w (.slice (some ⟨cb,0,none⟩) 0 0) (l1.drop 14)):=zd (λw hw=>HC2.out w hw _ (λh=>absurd h (by decide)))
        clear HC2
        go_wp2_with (go_at_call 6;first
         | (with_reducible refine(zha (.slice (some ⟨cb,0,none⟩) 0 0) _ w11 (HC3.out _ HG11.out)).mono ?_;rintro e w12 ⟨rfl,hg⟩;have HG12:=zd (zh HG11.out hg);clear hg)
         | (with_reducible refine(zha (.slice (some ⟨cb,0,none⟩) 14 14) _ wr HC1.out).mono ?_;rintro e w11 ⟨rfl,hg⟩;have HG11:=zd (zh HG.out hg);clear hg))
        go_roundw
        case rel=>exact⟨HG12.out,15,by omega,by go_num⟩
        case measure=>simp[intOf]
      ·have hgt:(14:Int)<(j:Int):=by omega
       have HW15:=zd (zh HW10.out HG.out);clear HCR HW10 HG;clear h14 hl1;generalize wr=w15 at *;clear hj hj2
       go_upto_region 29 with fail
       clear hgt;generalize hX:World.alloc _ _=w16;obtain⟨⟨l2,hcr⟩,hg16⟩:=c2_row w15 w16 hX.symm;clear hX;generalize w15.heap.size+1+1+1+1+1+1+1+1=cb2 at *;have HCR:=zd hcr;have HW16:=zd (zh HW15.out hg16);clear hcr hg16 HW15;go_wp2
       go_loopw [24] (λi wr=>w16.grownBy wr none∧∃j:Nat,j≤8∧i = .int .i64 (j:Int)) (λi _=>8-(intOf i).toNat)
       case atStart=>exact⟨zi _,0,by omega,rfl⟩
       case round=>
        obtain⟨hg,j,hj,rfl⟩:=hrel;have HG:=zd hg;clear hg
        by_cases hj2:j<8
        ·obtain⟨r3,hr3⟩:∃r,r=(j:Int).tmod 3:=⟨_,rfl⟩
         have HR3:Hid ((j:Int).tmod 3=r3∧-1000≤r3∧r3≤1000):=(show _∧_ from ⟨hr3.symm,by rw[hr3,Int.tmod_eq_emod_of_nonneg (by omega)];omega⟩)
         obtain⟨h2,hh2⟩:∃h:Nat,h=j / 2:=⟨_,rfl⟩;obtain⟨c36,hc36⟩:∃h:Nat,h=j*36:=⟨_,rfl⟩;have HQ2:Hid (IntKind.i64.wrap ((j:Int).tdiv 2)=(h2:Int)∧h2<8):=(show _∧_ from ⟨by rw[IntKind.wrap_i64,Int.tdiv_eq_ediv_of_nonneg (by omega)];omega,by omega⟩)
         have HC36:Hid (c36<256):=(show _<_ from by omega)
         have HJ8:Hid (j<8):=(show _<_ from hj2)
         have hm1:(j:Int)%256=j:=by omega
         clear hr3 hh2 hc36;have hpos:(0:Int)≤(j:Int):=by omega
         have HKP:=zd (keeps9 j hj2 r3 HR3.out.2 cb2 l2 wr (HCR.out.grown HG.out))
         go_wp2_with (first
          | (refine Ve _ rfl _ _ _ _ rfl (j:Int) 3 r3 rfl rfl (by decide) HR3.out.1 ?_)
          | (refine zjv _ rfl _ _ _ _ rfl (j:Int) 2 (h2:Int) rfl rfl (by decide) HQ2.out.1 ?_)
          | (go_at_call 5;with_reducible refine HKP.out.mono ?_;rintro e x1 ⟨rfl,hg⟩;have HX1:=zd (zh HG.out hg);have HT9:=zd (torn36 j HJ8.out x1);clear hg)
          | (go_at_call 4;with_reducible refine HT9.out.mono ?_;rintro e x2 ⟨rfl,hg⟩;have HX2:=zd (zh HX1.out hg);have HGA:=zd (zh2 j h2 HJ8.out HQ2.out.2 x2);clear hg)
          | (go_at_call 47;first
           | (with_reducible refine HGB.out.mono ?_;rintro e x4 ⟨rfl,hg⟩;have HX4:=zd (zh HX3.out hg);clear hg)
           | (with_reducible refine HGA.out.mono ?_;rintro e x3 ⟨rfl,hg⟩;have HX3:=zd (zh HX2.out hg);have HGB:=zd (gone1 j HJ8.out x3);clear hg)))
         go_roundw
         case rel=>exact⟨HX4.out,j+1,by omega,by go_num⟩
         case measure=>simp[intOf];omega
        ·obtain rfl:j=8:=by omega
         have HWK:=zd (Ya wr);have HGW:=zd (zh HW16.out HG.out)
         go_wp2_with (go_at_call 17;with_reducible refine HWK.out.mono ?_;rintro e x5 ⟨rfl,hg⟩;have HX5:=zd (zh HGW.out hg);clear hg)
         go_ret
         exact⟨rfl,HX5.out⟩
end Go.Proofs.YtbcbhlfjgobejaaGreat
namespace Go.Sf
open Go.ChangeShapes Go.WideShapes Go.ChangeAt Go.RowKit
variable {P : Program} {H : Type} {enc : TypeId × Value → H}
theorem post_of_grown {f:Func} {s:ChangeSpec} {apart fresh handsOn again:Bool} {W W':World} {args:Array Value} {v:Value} {ds gs:List (DataW H)} {before pa pv:List MemPlace}
 (hW:DataW.Whole enc P f.params.toList s.vars apart W args.toList ds gs before)
 (hres:∀(b:Nat) (sp:Nat→Bool) (hd:Bool),DataW.TrodAll enc P W' b sp hd f.resultTypes.toList (v.resultList f.resultTypes.size) (s.fn H (ds++gs)).results [])
 (hargs:∀sp:Nat→Bool,(∀p∈before,sp p.block=true)→DataW.TrodAll enc P W' 0 sp true f.params.toList args.toList (s.fn H (ds++gs)).args pa)
 (hvars:∀sp:Nat→Bool,(∀p∈before,sp p.block=true)→DataW.TrodVars enc P W' sp s.vars (s.fn H (ds++gs)).vars pv)
 (hps:before=pa++pv) (hg:W.grownBy W' none)
 (hok:∀(j:Nat) (t:TypeId) (r:Value),f.resultTypes[j]? = some t→(v.resultList f.resultTypes.size)[j]? = some r→Value.okWide P W' .any 0 t r) :
  s.post enc P f apart fresh handsOn again W args v W':=by
 have hold:∀p∈before,(λb=>decide (b<W.heap.size)) p.block=true:=λp hp=>by simpa using hW.lt p hp
 have hlt:∀p∈before,p.block<W.heap.size:=λp hp=>hW.lt p hp
 refine⟨ds,gs,before,[],pa,pv,hW,hres _ _ _,hargs _ hold,hvars _ hold,⟨hg.os,hg.output,λi hi=>by rw[hg.block i hi (by simp)];exact(World.keptBut_refl W (λp=>p∈before∧(p∈[]∨p∈pa∨p∈pv))).2.2 i hi⟩,λ_=>?_⟩
 obtain⟨_,_,_,_,_,hz,hn⟩:=hW;refine⟨hok,_,_,([]++pa)++pv,⟨[]++pa,pv,trodAll_append (hargs _ (λ_ _=>rfl)) (hres _ _ _),hvars _ (λ_ _=>rfl),rfl,?_,?_⟩,?_⟩
 ·intro b off hp
  have hp':MemPlace.cell b off∈before:=by rw[hps];simpa using hp
  rw[World.frozen?_of_block (a:=⟨b,off,none⟩) (hg.block b (hlt _ hp') (by simp))]
  exact hz b off hp'
 ·intro ha
  have:=hn ha;rw[hps] at this;simpa using this
 ·intro p hp _
  rw[hps];simpa using hp
end Go.Sf
