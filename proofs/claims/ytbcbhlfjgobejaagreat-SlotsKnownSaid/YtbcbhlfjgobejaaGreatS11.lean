/- fields.get at four sizes; fields.Reader's Byte, Short, Word, Long: the walks. Conditions: none, or as the theorems say. -/
import Derived.Test.YtbcbhlfjgobejaaGreatS6
set_option linter.unusedSimpArgs false
set_option linter.unusedVariables false
namespace Go.Proofs.YtbcbhlfjgobejaaGreat
set_option maxHeartbeats 200000000
open Go.RowKit Go.Sf
variable {l:List Int}
theorem Vh {k:Nat} (hk:k<l.length):num (l.take (k+1))=num (l.take k)*256+(l.getD k 0).toNat:=by
 rw[List.take_succ_eq_append_getElem hk,zaj]
 congr 1
 simp[List.getD,List.getElem?_eq_getElem hk]
theorem zg4 (h:BL l):num l<256 ^ l.length:=(zoe _ l rfl h).2
theorem wraps64 (n:Int) (h0:0≤n) (h1:n<2 ^ 64):IntKind.u64.wrap n=n:=by simp[IntKind.wrap,IntKind.bits,IntKind.signed];omega
theorem zg6 (x c:Nat) (hx:x<256 ^ 7) (hc:c<256):bits BinOp.or IntKind.u64 ((x:Int)*256) c=((x*256+c:Nat):Int):=by
 rw[bits_join .u64 64 (by decide) wraps64 8 _ _ (by omega) (by omega) (by omega) (by omega) (by omega) (by omega)]
 omega
theorem zp4 (x:Nat) (hx:x<256 ^ 8):wrap64 (x:Int)=s64 x:=by
 unfold wrap64 s64
 split <;> omega
theorem or_nat (i a c:Nat) (hc:c<2 ^ i):a*2 ^ i ||| c=a*2 ^ i+c:=by
 rw[Nat.mul_comm]
 exact(Nat.two_pow_add_eq_or_of_lt hc a).symm
theorem or8 (c:Nat) (hc:c<256):bits BinOp.or IntKind.u8 0 (c:Int)=(c:Int):=by
 have:=u8_or_nat 0 c (by omega) hc
 simpa using this
theorem or16 (x c:Nat) (hx:x<256) (hc:c<256):bits BinOp.or IntKind.u16 ((x:Int)*256) c=((x*256+c:Nat):Int):=by
 have h:=u16_or_nat (x*256) c (by omega) (by omega)
 rw[or_nat 8 x c hc] at h;rw[←h];congr 1
section
variable {B : Nat} {w w' : World} {rb at_ : Nat} {all : List Int} {bad : Bool}
def us (B:Nat) (w:World) (rb:Nat) (all:List Int) (at_:Nat) (bad:Bool) (k:Nat) (kd:IntKind) (e:Ending) (w':World):Prop:=
 zm (λk=>k=rb) w w'∧if bad=false∧k≤all.length-at_ then e = .returned (.int kd (num ((all.drop at_).take k)))∧Rdr B w' rb all (at_+k) false else e = .returned (.int kd 0)∧Rdr B w' rb all at_ true
set_option maxRecDepth 100000 in
theorem get_u8 (h:Rdr B w rb all at_ bad) (hl:BL all):Calls Tryz.prog 211 #[.pointer (some ⟨rb,0,none⟩)] w (us B w rb all at_ bad 1 .u8):=by
 have HC:=zd (zcy h 1 (by omega))
 clear h
 by_cases hok:bad=false∧1≤all.length-at_
 ·refine Calls.mono (R:=λe w'=>zm (λk=>k=rb) w w'∧(e = .returned (.int .u8 (num ((all.drop at_).take 1)))∧Rdr B w' rb all (at_+1) false)) ?_ (λe w' h=>by unfold us;rw[if_pos hok];exact h)
  have HC2:Hid (Calls Tryz.prog 214 #[.pointer (some ⟨rb,0,none⟩),.int .i64 1] w λe w'=>zm (λk=>k=rb) w w'∧((∃v,e = .returned v∧Un B w' v ((all.drop at_).take 1))∧Rdr B w' rb all (at_+1) false)):=(HC.out.mono λe w' h=>by unfold qs at h;rw[if_pos hok] at h;exact h)
  have HL:Hid (BL ((all.drop at_).take 1)∧((all.drop at_).take 1).length=1):=(show _∧_ from ⟨(hl.drop _).take _,by rw[List.length_take,List.length_drop];omega⟩)
  generalize (all.drop at_).take 1=xs at *;clear HC hok hl
  go_enter Tryz.func211,Tryz.ntmps211
  go_wp2_with (first
   | (go_at_call 241;refine(size8 _ _).mono ?_;rintro e w3 ⟨rfl,h5⟩;obtain rfl:w=w3:=h5.symm)
   | (go_at_call 214;refine HC2.out.mono ?_;rintro e w1 ⟨ht,⟨v,rfl,hv⟩,hd⟩;obtain⟨p,cap,rfl,-,-,hc⟩:=hv.ex;rw[HL.out.2];have HT:=zd ht;have HD:=zd hd;have HCC:=zd hc;clear ht hd hc hv))
  go_loopw [2,10] (λxv i wr=>w1=wr∧∃k:Nat,k≤1∧xv = .int .u8 (num (xs.take k))∧i = .int .i64 k) (λ_ i _=>1-(intOf i).toNat)
  case atStart=>exact⟨rfl,0,by omega,rfl,rfl⟩
  case round=>
   obtain⟨rfl,k,hk,rfl,rfl⟩:=hrel
   by_cases hkn:k<1
   ·have hkl:k<xs.length:=by rw[HL.out.2];exact hkn
    obtain⟨c,hc0,hc1⟩:∃c:Nat,c<256∧xs.getD k 0=c:=by
     have:=HL.out.1 xs[k] (List.getElem_mem _)
     exact⟨xs[k].toNat,by omega,by simp[List.getD,List.getElem?_eq_getElem hkl];omega⟩
    have hnum:num (xs.take (k+1))=num (xs.take k)*256+c:=by rw[Vh hkl,hc1];simp
    have hlt:num (xs.take k)<256 ^ 0:=by
     have h1:=zg4 (HL.out.1.take k);rw[List.length_take] at h1
     exact Nat.lt_of_lt_of_le h1 (Nat.pow_le_pow_right (by decide) (by have:=HL.out.2;omega))
    obtain⟨a,rfl,cell⟩:∃a,p=some a∧w1.cell? (a.add k)=some (.int .u8 c):=by
     rcases HCC.out with h0|⟨a,rfl,-,h1⟩
     ·rw[h0] at hkl;simp at hkl
     ·refine⟨a,rfl,h1 k _ ?_⟩
      rw[zg,List.getElem?_map,List.getElem?_eq_getElem hkl];simp[←hc1,List.getD,List.getElem?_eq_getElem hkl]
    have HNUM:=zd hnum;have HLT:=zd hlt;generalize num (xs.take k)=q at *;clear hnum hc1 hkl;go_wp2;have hlt:=HLT.out;refine⟨⟨trivial,k+1,by omega,?_,by congr 1⟩,by simp[intOf];omega⟩
    rw[HNUM.out];have hq:q=0:=by omega
    subst hq
    congr 1
    first
     | rw[or8 _ hc0]
     | (rw[←or8 _ hc0];congr 1;omega)
     | (simp;rw[or8 _ hc0])
     | trace_state
   ·have hkn':k=1:=by omega
    subst hkn';have HE:Hid (xs.take 1=xs):=(show _=_ from List.take_of_length_le (by rw[HL.out.2];exact Nat.le_refl _))
    go_wp2
    go_ret
    refine⟨HT.out,?_,HD.out⟩;rw[HE.out];rfl
 ·refine Calls.mono (R:=λe w'=>zm (λk=>k=rb) w w'∧(e = .returned (.int .u8 0)∧Rdr B w' rb all at_ true)) ?_ (λe w' h=>by unfold us;rw[if_neg hok];exact h)
  have HC2:Hid (Calls Tryz.prog 214 #[.pointer (some ⟨rb,0,none⟩),.int .i64 1] w λe w'=>zm (λk=>k=rb) w w'∧(e = .returned (.slice none 0 0)∧Rdr B w' rb all at_ true)):=(HC.out.mono λe w' h=>by unfold qs at h;rw[if_neg hok] at h;exact h)
  clear HC hok hl
  go_enter Tryz.func211,Tryz.ntmps211
  go_wp2_with (first
   | (go_at_call 241;refine(size8 _ _).mono ?_;rintro e w3 ⟨rfl,h5⟩;obtain rfl:w=w3:=h5.symm)
   | (go_at_call 214;refine HC2.out.mono ?_;rintro e w1 ⟨ht,rfl,hd⟩;have HT:=zd ht;have HD:=zd hd;clear ht hd))
  go_loopw [2,10] (λxv i wr=>w1=wr∧xv = .int .u8 0∧i = .int .i64 0) (λ_ i _=>0)
  case atStart=>exact⟨rfl,rfl,rfl⟩
  case round=>
   obtain⟨rfl,rfl,rfl⟩:=hrel;go_wp2
   go_ret
   exact⟨HT.out,rfl,HD.out⟩
set_option maxRecDepth 100000 in
theorem zlx (h:Rdr B w rb all at_ bad) (hl:BL all):Calls Tryz.prog 164 #[.pointer (some ⟨rb,0,none⟩)] w (us B w rb all at_ bad 1 .u8):=by
 have HC:=zd (get_u8 h hl);clear h
 go_enter Tryz.func164,Tryz.ntmps164
 go_wp2_with (go_at_call 211;refine HC.out.mono ?_;intro e w1 hp;obtain⟨vv,rfl⟩:∃v,e = .returned v:=(by unfold us at hp;obtain⟨_,hp⟩:=hp;split at hp;exact⟨_,hp.1⟩;exact⟨_,hp.1⟩);have HP:=zd hp;clear hp)
 go_ret
 exact HP.out
set_option maxRecDepth 100000 in
theorem get_u16 (h:Rdr B w rb all at_ bad) (hl:BL all):Calls Tryz.prog 213 #[.pointer (some ⟨rb,0,none⟩)] w (us B w rb all at_ bad 2 .u16):=by
 have HC:=zd (zcy h 2 (by omega))
 clear h
 by_cases hok:bad=false∧2≤all.length-at_
 ·refine Calls.mono (R:=λe w'=>zm (λk=>k=rb) w w'∧(e = .returned (.int .u16 (num ((all.drop at_).take 2)))∧Rdr B w' rb all (at_+2) false)) ?_ (λe w' h=>by unfold us;rw[if_pos hok];exact h)
  have HC2:Hid (Calls Tryz.prog 214 #[.pointer (some ⟨rb,0,none⟩),.int .i64 2] w λe w'=>zm (λk=>k=rb) w w'∧((∃v,e = .returned v∧Un B w' v ((all.drop at_).take 2))∧Rdr B w' rb all (at_+2) false)):=(HC.out.mono λe w' h=>by unfold qs at h;rw[if_pos hok] at h;exact h)
  have HL:Hid (BL ((all.drop at_).take 2)∧((all.drop at_).take 2).length=2):=(show _∧_ from ⟨(hl.drop _).take _,by rw[List.length_take,List.length_drop];omega⟩)
  generalize (all.drop at_).take 2=xs at *;clear HC hok hl
  go_enter Tryz.func213,Tryz.ntmps213
  go_wp2_with (first
   | (go_at_call 247;refine(zk2 _ _).mono ?_;rintro e w3 ⟨rfl,h5⟩;obtain rfl:w=w3:=h5.symm)
   | (go_at_call 214;refine HC2.out.mono ?_;rintro e w1 ⟨ht,⟨v,rfl,hv⟩,hd⟩;obtain⟨p,cap,rfl,-,-,hc⟩:=hv.ex;rw[HL.out.2];have HT:=zd ht;have HD:=zd hd;have HCC:=zd hc;clear ht hd hc hv))
  go_loopw [2,10] (λxv i wr=>w1=wr∧∃k:Nat,k≤2∧xv = .int .u16 (num (xs.take k))∧i = .int .i64 k) (λ_ i _=>2-(intOf i).toNat)
  case atStart=>exact⟨rfl,0,by omega,rfl,rfl⟩
  case round=>
   obtain⟨rfl,k,hk,rfl,rfl⟩:=hrel
   by_cases hkn:k<2
   ·have hkl:k<xs.length:=by rw[HL.out.2];exact hkn
    obtain⟨c,hc0,hc1⟩:∃c:Nat,c<256∧xs.getD k 0=c:=by
     have:=HL.out.1 xs[k] (List.getElem_mem _)
     exact⟨xs[k].toNat,by omega,by simp[List.getD,List.getElem?_eq_getElem hkl];omega⟩
    have hnum:num (xs.take (k+1))=num (xs.take k)*256+c:=by rw[Vh hkl,hc1];simp
    have hlt:num (xs.take k)<256 ^ 1:=by
     have h1:=zg4 (HL.out.1.take k);rw[List.length_take] at h1
     exact Nat.lt_of_lt_of_le h1 (Nat.pow_le_pow_right (by decide) (by have:=HL.out.2;omega))
    obtain⟨a,rfl,cell⟩:∃a,p=some a∧w1.cell? (a.add k)=some (.int .u8 c):=by
     rcases HCC.out with h0|⟨a,rfl,-,h1⟩
     ·rw[h0] at hkl;simp at hkl
     ·refine⟨a,rfl,h1 k _ ?_⟩
      rw[zg,List.getElem?_map,List.getElem?_eq_getElem hkl];simp[←hc1,List.getD,List.getElem?_eq_getElem hkl]
    have HNUM:=zd hnum;have HLT:=zd hlt;generalize num (xs.take k)=q at *;clear hnum hc1 hkl;go_wp2;have hlt:=HLT.out;refine⟨⟨trivial,k+1,by omega,?_,by congr 1⟩,by simp[intOf];omega⟩
    rw[HNUM.out]
    skip
    skip
    congr 1
    first
     | rw[or16 _ _ hlt hc0]
     | (rw[←or16 _ _ hlt hc0];congr 1;omega)
     | (simp;rw[or16 _ _ hlt hc0])
     | trace_state
   ·have hkn':k=2:=by omega
    subst hkn';have HE:Hid (xs.take 2=xs):=(show _=_ from List.take_of_length_le (by rw[HL.out.2];exact Nat.le_refl _))
    go_wp2
    go_ret
    refine⟨HT.out,?_,HD.out⟩;rw[HE.out];rfl
 ·refine Calls.mono (R:=λe w'=>zm (λk=>k=rb) w w'∧(e = .returned (.int .u16 0)∧Rdr B w' rb all at_ true)) ?_ (λe w' h=>by unfold us;rw[if_neg hok];exact h)
  have HC2:Hid (Calls Tryz.prog 214 #[.pointer (some ⟨rb,0,none⟩),.int .i64 2] w λe w'=>zm (λk=>k=rb) w w'∧(e = .returned (.slice none 0 0)∧Rdr B w' rb all at_ true)):=(HC.out.mono λe w' h=>by unfold qs at h;rw[if_neg hok] at h;exact h)
  clear HC hok hl
  go_enter Tryz.func213,Tryz.ntmps213
  go_wp2_with (first
   | (go_at_call 247;refine(zk2 _ _).mono ?_;rintro e w3 ⟨rfl,h5⟩;obtain rfl:w=w3:=h5.symm)
   | (go_at_call 214;refine HC2.out.mono ?_;rintro e w1 ⟨ht,rfl,hd⟩;have HT:=zd ht;have HD:=zd hd;clear ht hd))
  go_loopw [2,10] (λxv i wr=>w1=wr∧xv = .int .u16 0∧i = .int .i64 0) (λ_ i _=>0)
  case atStart=>exact⟨rfl,rfl,rfl⟩
  case round=>
   obtain⟨rfl,rfl,rfl⟩:=hrel;go_wp2
   go_ret
   exact⟨HT.out,rfl,HD.out⟩
set_option maxRecDepth 100000 in
theorem zpu (h:Rdr B w rb all at_ bad) (hl:BL all):Calls Tryz.prog 166 #[.pointer (some ⟨rb,0,none⟩)] w (us B w rb all at_ bad 2 .u16):=by
 have HC:=zd (get_u16 h hl);clear h
 go_enter Tryz.func166,Tryz.ntmps166
 go_wp2_with (go_at_call 213;refine HC.out.mono ?_;intro e w1 hp;obtain⟨vv,rfl⟩:∃v,e = .returned v:=(by unfold us at hp;obtain⟨_,hp⟩:=hp;split at hp;exact⟨_,hp.1⟩;exact⟨_,hp.1⟩);have HP:=zd hp;clear hp)
 go_ret
 exact HP.out
set_option maxRecDepth 100000 in
theorem get_u64 (h:Rdr B w rb all at_ bad) (hl:BL all):Calls Tryz.prog 212 #[.pointer (some ⟨rb,0,none⟩)] w (us B w rb all at_ bad 8 .u64):=by
 have HC:=zd (zcy h 8 (by omega))
 clear h
 by_cases hok:bad=false∧8≤all.length-at_
 ·refine Calls.mono (R:=λe w'=>zm (λk=>k=rb) w w'∧(e = .returned (.int .u64 (num ((all.drop at_).take 8)))∧Rdr B w' rb all (at_+8) false)) ?_ (λe w' h=>by unfold us;rw[if_pos hok];exact h)
  have HC2:Hid (Calls Tryz.prog 214 #[.pointer (some ⟨rb,0,none⟩),.int .i64 8] w λe w'=>zm (λk=>k=rb) w w'∧((∃v,e = .returned v∧Un B w' v ((all.drop at_).take 8))∧Rdr B w' rb all (at_+8) false)):=(HC.out.mono λe w' h=>by unfold qs at h;rw[if_pos hok] at h;exact h)
  have HL:Hid (BL ((all.drop at_).take 8)∧((all.drop at_).take 8).length=8):=(show _∧_ from ⟨(hl.drop _).take _,by rw[List.length_take,List.length_drop];omega⟩)
  generalize (all.drop at_).take 8=xs at *;clear HC hok hl
  go_enter Tryz.func212,Tryz.ntmps212
  go_wp2_with (first
   | (go_at_call 236;refine(zk3 _ _).mono ?_;rintro e w3 ⟨rfl,h5⟩;obtain rfl:w=w3:=h5.symm)
   | (go_at_call 214;refine HC2.out.mono ?_;rintro e w1 ⟨ht,⟨v,rfl,hv⟩,hd⟩;obtain⟨p,cap,rfl,-,-,hc⟩:=hv.ex;rw[HL.out.2];have HT:=zd ht;have HD:=zd hd;have HCC:=zd hc;clear ht hd hc hv))
  go_loopw [2,10] (λxv i wr=>w1=wr∧∃k:Nat,k≤8∧xv = .int .u64 (num (xs.take k))∧i = .int .i64 k) (λ_ i _=>8-(intOf i).toNat)
  case atStart=>exact⟨rfl,0,by omega,rfl,rfl⟩
  case round=>
   obtain⟨rfl,k,hk,rfl,rfl⟩:=hrel
   by_cases hkn:k<8
   ·have hkl:k<xs.length:=by rw[HL.out.2];exact hkn
    obtain⟨c,hc0,hc1⟩:∃c:Nat,c<256∧xs.getD k 0=c:=by
     have:=HL.out.1 xs[k] (List.getElem_mem _)
     exact⟨xs[k].toNat,by omega,by simp[List.getD,List.getElem?_eq_getElem hkl];omega⟩
    have hnum:num (xs.take (k+1))=num (xs.take k)*256+c:=by rw[Vh hkl,hc1];simp
    have hlt:num (xs.take k)<256 ^ 7:=by
     have h1:=zg4 (HL.out.1.take k);rw[List.length_take] at h1
     exact Nat.lt_of_lt_of_le h1 (Nat.pow_le_pow_right (by decide) (by have:=HL.out.2;omega))
    obtain⟨a,rfl,cell⟩:∃a,p=some a∧w1.cell? (a.add k)=some (.int .u8 c):=by
     rcases HCC.out with h0|⟨a,rfl,-,h1⟩
     ·rw[h0] at hkl;simp at hkl
     ·refine⟨a,rfl,h1 k _ ?_⟩
      rw[zg,List.getElem?_map,List.getElem?_eq_getElem hkl];simp[←hc1,List.getD,List.getElem?_eq_getElem hkl]
    have HNUM:=zd hnum;have HLT:=zd hlt;generalize num (xs.take k)=q at *;clear hnum hc1 hkl;go_wp2;have hlt:=HLT.out;refine⟨⟨trivial,k+1,by omega,?_,by congr 1⟩,by simp[intOf];omega⟩
    rw[HNUM.out]
    skip
    skip
    congr 1
    first
     | rw[zg6 _ _ hlt hc0]
     | (rw[←zg6 _ _ hlt hc0];congr 1;omega)
     | (simp;rw[zg6 _ _ hlt hc0])
     | trace_state
   ·have hkn':k=8:=by omega
    subst hkn';have HE:Hid (xs.take 8=xs):=(show _=_ from List.take_of_length_le (by rw[HL.out.2];exact Nat.le_refl _))
    go_wp2
    go_ret
    refine⟨HT.out,?_,HD.out⟩;rw[HE.out];rfl
 ·refine Calls.mono (R:=λe w'=>zm (λk=>k=rb) w w'∧(e = .returned (.int .u64 0)∧Rdr B w' rb all at_ true)) ?_ (λe w' h=>by unfold us;rw[if_neg hok];exact h)
  have HC2:Hid (Calls Tryz.prog 214 #[.pointer (some ⟨rb,0,none⟩),.int .i64 8] w λe w'=>zm (λk=>k=rb) w w'∧(e = .returned (.slice none 0 0)∧Rdr B w' rb all at_ true)):=(HC.out.mono λe w' h=>by unfold qs at h;rw[if_neg hok] at h;exact h)
  clear HC hok hl
  go_enter Tryz.func212,Tryz.ntmps212
  go_wp2_with (first
   | (go_at_call 236;refine(zk3 _ _).mono ?_;rintro e w3 ⟨rfl,h5⟩;obtain rfl:w=w3:=h5.symm)
   | (go_at_call 214;refine HC2.out.mono ?_;rintro e w1 ⟨ht,rfl,hd⟩;have HT:=zd ht;have HD:=zd hd;clear ht hd))
  go_loopw [2,10] (λxv i wr=>w1=wr∧xv = .int .u64 0∧i = .int .i64 0) (λ_ i _=>0)
  case atStart=>exact⟨rfl,rfl,rfl⟩
  case round=>
   obtain⟨rfl,rfl,rfl⟩:=hrel;go_wp2
   go_ret
   exact⟨HT.out,rfl,HD.out⟩
set_option maxRecDepth 100000 in
theorem rLong (h:Rdr B w rb all at_ bad) (hl:BL all):Calls Tryz.prog 165 #[.pointer (some ⟨rb,0,none⟩)] w (us B w rb all at_ bad 8 .u64):=by
 have HC:=zd (get_u64 h hl);clear h
 go_enter Tryz.func165,Tryz.ntmps165
 go_wp2_with (go_at_call 212;refine HC.out.mono ?_;intro e w1 hp;obtain⟨vv,rfl⟩:∃v,e = .returned v:=(by unfold us at hp;obtain⟨_,hp⟩:=hp;split at hp;exact⟨_,hp.1⟩;exact⟨_,hp.1⟩);have HP:=zd hp;clear hp)
 go_ret
 exact HP.out
end
end Go.Proofs.YtbcbhlfjgobejaaGreat
