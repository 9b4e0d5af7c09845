/- The check of bytes, half a byte at a time, is the one bit by bit: plain laws, no program. Conditions: none, or as the theorems say. -/
import Derived.WalkKit
import Derived.Test.YtbcbhlfjgobejaaGreatS3
set_option linter.unusedSimpArgs false
set_option linter.unusedVariables false
namespace Go.Proofs.YtbcbhlfjgobejaaGreat
set_option maxHeartbeats 200000000
def Uq:BitVec 32:=0x1EDC6F41#32
def s1 (v:BitVec 32):BitVec 32:=(v <<< 1) ^^^ (if v.msb=true then Uq else 0#32)
theorem zp3 (a b:BitVec 32):s1 (a ^^^ b)=s1 a ^^^ s1 b:=by
 unfold s1;rw[BitVec.msb_xor,BitVec.shiftLeft_xor_distrib]
 apply BitVec.eq_of_getLsbD_eq
 intro i hi
 cases a.msb <;> cases b.msb <;> simp only[BitVec.getLsbD_xor,Bool.xor_self,Bool.xor_true,Bool.xor_false,Bool.not_false,if_true,if_false,Bool.false_eq_true,BitVec.getLsbD_zero] <;> cases(a <<< 1).getLsbD i <;> cases(b <<< 1).getLsbD i <;> cases Uq.getLsbD i <;> rfl
def s4 (v:BitVec 32):BitVec 32:=s1 (s1 (s1 (s1 v)))
theorem zkx (a b:BitVec 32):s4 (a ^^^ b)=s4 a ^^^ s4 b:=by simp only[s4,zp3]
def Xy (v:BitVec 32):BitVec 32:=
 (v <<< 4) ^^^ (if v.getLsbD 28=true then Uq else 0#32) ^^^ (if v.getLsbD 29=true then Uq <<< 1 else 0#32) ^^^ (if v.getLsbD 30=true then Uq <<< 2 else 0#32) ^^^ (if v.getLsbD 31=true then Uq <<< 3 else 0#32)
theorem if_xor (p q:Bool) (x:BitVec 32):(if (p ^^ q)=true then x else 0#32)=(if p=true then x else 0#32) ^^^ (if q=true then x else 0#32):=by cases p <;> cases q <;> simp
theorem xor5 (a b c d e a' b' c' d' e':BitVec 32):(a ^^^ a') ^^^ (b ^^^ b') ^^^ (c ^^^ c') ^^^ (d ^^^ d') ^^^ (e ^^^ e')=(a ^^^ b ^^^ c ^^^ d ^^^ e) ^^^ (a' ^^^ b' ^^^ c' ^^^ d' ^^^ e'):=by
 apply BitVec.eq_of_getLsbD_eq
 intro i hi;simp only[BitVec.getLsbD_xor]
 cases a.getLsbD i <;> cases b.getLsbD i <;> cases c.getLsbD i <;> cases d.getLsbD i <;> cases e.getLsbD i <;> cases a'.getLsbD i <;> cases b'.getLsbD i <;> cases c'.getLsbD i <;> cases d'.getLsbD i <;> cases e'.getLsbD i <;> rfl
theorem zpp (a b:BitVec 32):Xy (a ^^^ b)=Xy a ^^^ Xy b:=by
 unfold Xy;simp only[BitVec.getLsbD_xor,BitVec.shiftLeft_xor_distrib,if_xor]
 exact xor5 _ _ _ _ _ _ _ _ _ _
theorem over_hi:∀h:BitVec 4,Xy (h.setWidth 32 <<< 28)=s4 (h.setWidth 32 <<< 28):=by decide +kernel
theorem zhe {v:BitVec 32} (h:v.msb=false):s1 v=v <<< 1:=by unfold s1;rw[h];simp
theorem zcz (l:BitVec 28) (k:Nat) (hk:k<4) (i:Nat) (hi:28+k≤i):((l.setWidth 32) <<< k).getLsbD i=false:=by
 rw[BitVec.getLsbD_shiftLeft];simp only[BitVec.getLsbD_setWidth];rw[BitVec.getLsbD_of_ge l (i-k) (by omega)]
 simp
theorem over_lo (l:BitVec 28):Xy (l.setWidth 32)=s4 (l.setWidth 32):=by
 have b0:=λi h=>zcz l 0 (by omega) i h
 simp only[BitVec.shiftLeft_zero] at b0;have m0:(l.setWidth 32).msb=false:=by rw[BitVec.msb_eq_getLsbD_last];exact b0 31 (by omega)
 have m1:((l.setWidth 32) <<< 1).msb=false:=by rw[BitVec.msb_eq_getLsbD_last];exact zcz l 1 (by omega) 31 (by omega)
 have m2:((l.setWidth 32) <<< 2).msb=false:=by rw[BitVec.msb_eq_getLsbD_last];exact zcz l 2 (by omega) 31 (by omega)
 have m3:((l.setWidth 32) <<< 3).msb=false:=by rw[BitVec.msb_eq_getLsbD_last];exact zcz l 3 (by omega) 31 (by omega)
 unfold Xy s4;rw[b0 28 (by omega),b0 29 (by omega),b0 30 (by omega),b0 31 (by omega),zhe m0]
 have e2:(l.setWidth 32) <<< 1 <<< 1=(l.setWidth 32) <<< 2:=by rw[←BitVec.shiftLeft_add]
 have e3:(l.setWidth 32) <<< 2 <<< 1=(l.setWidth 32) <<< 3:=by rw[←BitVec.shiftLeft_add]
 have e4:(l.setWidth 32) <<< 3 <<< 1=(l.setWidth 32) <<< 4:=by rw[←BitVec.shiftLeft_add]
 rw[zhe m1,e2,zhe m2,e3,zhe m3,e4];simp
theorem zp8 (v:BitVec 32):((v >>> 28).setWidth 4).setWidth 32 <<< 28 ^^^ (v.setWidth 28).setWidth 32=v:=by
 apply BitVec.eq_of_getLsbD_eq
 intro i hi;rw[BitVec.getLsbD_xor,BitVec.getLsbD_shiftLeft];simp only[BitVec.getLsbD_setWidth,BitVec.getLsbD_ushiftRight]
 rcases Nat.lt_or_ge i 28 with h|h
 ·simp[h,hi]
 ·have e1:i-28<4:=by omega
  have e2:28+(i-28)=i:=by omega
  have e3:i-28<32:=by omega
  simp[hi,e1,e2,e3,show ¬i<28 by omega]
theorem zlv (v:BitVec 32):Xy v=s4 v:=by
 have h:=zp8 v;rw[←h,zpp,zkx,over_hi,over_lo]
def zcc (v:BitVec 32) (r:BitVec 8):BitVec 32:=Xy (Xy (v ^^^ (r.setWidth 32 <<< 24)))
def Zu (v:BitVec 32) (b:Bool):BitVec 32:=(v <<< 1) ^^^ (if (v.msb != b)=true then Uq else 0#32)
theorem zhp (v:BitVec 32) (b:Bool):Zu v b=s1 v ^^^ (if b=true then Uq else 0#32):=by
 unfold Zu s1
 cases v.msb <;> cases b <;> simp[BitVec.xor_assoc]
def zhq (v:BitVec 32) (c:BitVec 8):BitVec 32:=Zu (Zu (Zu (Zu (Zu (Zu (Zu (Zu v (c.getLsbD 0)) (c.getLsbD 1)) (c.getLsbD 2)) (c.getLsbD 3)) (c.getLsbD 4)) (c.getLsbD 5)) (c.getLsbD 6)) (c.getLsbD 7)
theorem zj1:∀c:BitVec 8,zhq 0#32 c=s4 (s4 (c.reverse.setWidth 32 <<< 24)):=by decide +kernel
theorem zmd (v w:BitVec 32) (b:Bool):Zu (v ^^^ w) b=s1 v ^^^ Zu w b:=by rw[zhp,zhp,zp3,BitVec.xor_assoc]
theorem bits8_s (v:BitVec 32) (c:BitVec 8):zhq v c=s4 (s4 v) ^^^ zhq 0#32 c:=by
 have h:v=v ^^^ 0#32:=by simp
 conv=>lhs;rw[h]
 unfold zhq;simp only[zmd]
 rfl
theorem zmn (v:BitVec 32) (c:BitVec 8):zcc v c.reverse=zhq v c:=by
 unfold zcc;rw[zlv,zlv,zkx,zkx,bits8_s,zj1]
open Go.RowKit Go.Sf
def vr (x:BitVec 32):Value:=.int .u32 (x.toNat:Int)
def u8V (x:BitVec 8):Value:=.int .u8 (x.toNat:Int)
theorem Zd (x:BitVec 32):BitVec.ofInt 32 (x.toNat:Int)=x:=by simp
theorem za4 (x:BitVec 32):IntKind.u32.wrap (x.toNat:Int)=x.toNat:=by
 rw[IntKind.wrap_u32];have:=x.isLt;omega
@[go_sem] theorem u32_shr (t:TypeId) (x:BitVec 32) (yk:IntKind) (n:Int) (h:0≤n) (h2:n<32):binOp .shr t (vr x) (.int yk n)=pure (vr (x >>> n.toNat)):=by
 unfold vr;rw[binOp_shr,shift_shr_any _ _ _ _ h];have e:min n.toNat IntKind.u32.bits=n.toNat:=by simp[IntKind.bits];omega
 rw[e,BitVec.toNat_ushiftRight,Nat.shiftRight_eq_div_pow];simp
@[go_sem] theorem u32_shl (t:TypeId) (x:BitVec 32) (yk:IntKind) (n:Int) (h:0≤n) (h2:n<32):binOp .shl t (vr x) (.int yk n)=pure (vr (x <<< n.toNat)):=by
 unfold vr;rw[binOp_shl,shift_shl_any _ _ _ _ h];have e:min n.toNat IntKind.u32.bits=n.toNat:=by simp[IntKind.bits];omega
 rw[e,BitVec.toNat_shiftLeft,Nat.shiftLeft_eq,IntKind.wrap_u32];simp
@[go_sem] theorem u32_and (t:TypeId) (x:BitVec 32) (n:Int):binOp .and t (vr x) (.int .u32 n)=pure (vr (x &&& BitVec.ofInt 32 n)):=by
 unfold vr;rw[binOp_and];have h:Op.intBits .and .u32 (x.toNat:Int) n=pure (.int .u32 (IntKind.u32.wrap ((BitVec.ofInt 32 (x.toNat:Int) &&& BitVec.ofInt 32 n).toNat:Int))):=rfl;rw[h,Zd,za4]
theorem zjs (op:BinOp) (t:TypeId) (x y r:BitVec 32) (hop:op = .or∧r=x ||| y∨op = .xor∧r=x ^^^ y):binOp op t (vr x) (vr y)=pure (vr r):=by
 unfold vr
 rcases hop with ⟨rfl,rfl⟩|⟨rfl,rfl⟩
 ·rw[binOp_or]
  have h:Op.intBits .or .u32 (x.toNat:Int) (y.toNat:Int)=pure (.int .u32 (IntKind.u32.wrap ((BitVec.ofInt 32 (x.toNat:Int) ||| BitVec.ofInt 32 (y.toNat:Int)).toNat:Int))):=rfl
  rw[h,Zd,Zd,za4]
 ·rw[binOp_xor]
  have h:Op.intBits .xor .u32 (x.toNat:Int) (y.toNat:Int)=pure (.int .u32 (IntKind.u32.wrap ((BitVec.ofInt 32 (x.toNat:Int) ^^^ BitVec.ofInt 32 (y.toNat:Int)).toNat:Int))):=rfl;rw[h,Zd,Zd,za4]
@[go_sem] theorem u32_or (t:TypeId) (x y:BitVec 32):binOp .or t (vr x) (vr y)=pure (vr (x ||| y)):=zjs _ _ _ _ _ (Or.inl ⟨rfl,rfl⟩)
@[go_sem] theorem u32_xor (t:TypeId) (x y:BitVec 32):binOp .xor t (vr x) (vr y)=pure (vr (x ^^^ y)):=zjs _ _ _ _ _ (Or.inr ⟨rfl,rfl⟩)
@[go_sem] theorem u32_xorc (t:TypeId) (x:BitVec 32) (n:Int):binOp .xor t (vr x) (.int .u32 n)=pure (vr (x ^^^ BitVec.ofInt 32 n)):=by
 unfold vr;rw[binOp_xor];have h:Op.intBits .xor .u32 (x.toNat:Int) n=pure (.int .u32 (IntKind.u32.wrap ((BitVec.ofInt 32 (x.toNat:Int) ^^^ BitVec.ofInt 32 n).toNat:Int))):=rfl;rw[h,Zd,za4]
@[go_sem] theorem u32_eql (t:TypeId) (x:BitVec 32) (n:Int) (h:0≤n) (h2:n<4294967296):binOp .eql t (vr x) (.int .u32 n)=pure (.bool (x == BitVec.ofInt 32 n)):=by
 unfold vr;rw[binOp_eql]
 congr 2
 rw[Bool.eq_iff_iff,beq_iff_eq,beq_iff_eq]
 constructor
 ·intro h;rw[←h,Zd]
 ·rintro rfl
  rw[BitVec.toNat_ofInt];omega
@[go_sem] theorem u32_guard (t:TypeId) (x y:Operand) (a:BitVec 32) (n:Int):eqGuard .eql t x y (vr a) (.int .u32 n)=pure ():=rfl
@[go_sem] theorem u32_not (x:BitVec 32):Op.unary .xor (vr x)=pure (vr (~~~ x)):=by
 unfold vr;rw[unary_xor];have h:Op.intBits .xor .u32 (if IntKind.u32.signed then -1 else IntKind.u32.max) (x.toNat:Int)=pure (.int .u32 (IntKind.u32.wrap ((BitVec.ofInt 32 IntKind.u32.max ^^^ BitVec.ofInt 32 (x.toNat:Int)).toNat:Int))):=rfl
 have e:BitVec.ofInt 32 IntKind.u32.max=BitVec.allOnes 32:=by decide
 rw[h,Zd,za4,e,BitVec.allOnes_xor]
@[go_sem] theorem conv_u8 (x:BitVec 8) (w:World):(convert 5 172 (u8V x)).run Tryz.prog w = .ok (vr (x.setWidth 32)) w:=by
 have h:(convert 5 172 (u8V x)).run Tryz.prog w = .ok (.int .u32 (IntKind.u32.wrap (x.toNat:Int))) w:=by
  unfold u8V
  kernel_rfl
 rw[h];unfold vr;rw[IntKind.wrap_u32,BitVec.toNat_setWidth];have:=x.isLt
 congr 2
theorem zju (w:World) {ops:Array Oper} {rest:List Oper} {o:Oper} {a:Act} {Q:Exit→Act→World→Prop} (hgd:o.guard=none) (s:ByteArray) (y:Operand) (hop:o.op=Op.index 9 (.const (.string s)) y) (hs:∀c:BitVec 8,(s.data.toList[c.toNat]?).map (·.toBitVec)=some c.reverse)
 (c:BitVec 8) (hy:a.eval y=u8V c) (h:wpList Tryz.prog ops Q rest (a.put o.dst (u8V c.reverse)) w):wpList Tryz.prog ops Q (o :: rest) a w:=by
 have hr:(Instr.index 9 (.string s) (u8V c)).run Tryz.prog w = .ok (u8V c.reverse) w:=by
  have h1:=hs c
  cases e:s.data.toList[c.toNat]? with
  | none=>rw[e] at h1;cases h1
  | some b=>
   rw[e] at h1;have h2:b.toBitVec=c.reverse:=by simpa using h1
   have h3:s.data[c.toNat]? = some b:=by rw[←e];simp
   have h4:s[c.toNat]? = some b:=by
    obtain⟨h5,h6⟩:=Array.getElem?_eq_some_iff.1 h3;have h7:c.toNat<s.size:=h5;rw[getElem?_pos s c.toNat h7]
    exact congrArg some h6
   unfold u8V;have h5:(b.toNat:Int)=(c.reverse.toNat:Int):=by rw[←h2];rfl
   have hx:(asIntOf (.int .u8 (c.toNat:Int))).run Tryz.prog w = .ok (.u8,(c.toNat:Int)) w:=rfl;simp only[Instr.index,Sem.run_bind,hx,Result.andThen,run_underlying Tryz.underlying9];rw[if_pos (by omega)]
   simp only[Int.toNat_natCast,h4,Sem.run_pure,h5]
 refine wpList_plain hgd λK hK=>?_
 unfold Oper.wp;simp only[execOp,hop,hy];have e:a.eval (.const (.string s)) = .string s:=rfl;rw[e];simp[hr,Result.andThen,Oper.upon]
 exact hK _ _ h
set_option maxRecDepth 100000 in
theorem zpx (c:BitVec 8) (W:World):Calls Tryz.prog 244 #[u8V c] W λe w'=>e = .returned (u8V c.reverse)∧w'=W:=by
 go_enter Tryz.func244,Tryz.ntmps244
 go_wp2_with (refine zju _ rfl _ _ rfl (by decide +kernel) c rfl ?_)
 go_ret
 exact⟨rfl,rfl⟩
def zf2 (x:BitVec 32):BitVec 32:=
 let a:=(x >>> 1 &&& 1431655765#32) ||| ((x &&& 1431655765#32) <<< 1)
 let b:=(a >>> 2 &&& 858993459#32) ||| ((a &&& 858993459#32) <<< 2)
 let c:=(b >>> 4 &&& 252645135#32) ||| ((b &&& 252645135#32) <<< 4)
 let d:=(c >>> 8 &&& 16711935#32) ||| ((c &&& 16711935#32) <<< 8)
 (d >>> 16) ||| (d <<< 16)
set_option maxRecDepth 100000 in
theorem znd (x:BitVec 32) (W:World):Calls Tryz.prog 210 #[vr x] W λe w'=>e = .returned (vr (zf2 x))∧w'=W:=by
 go_enter Tryz.func210,Tryz.ntmps210
 go_wp2
 go_ret
 exact⟨rfl,rfl⟩
def ovk (x:BitVec 32):Nat→BitVec 32
 | 0=>x <<< 4
 | k+1=>ovk x k ^^^ (if x.getLsbD (28+k)=true then Uq <<< k else 0#32)
theorem ovk_all (x:BitVec 32):ovk x 4=Xy x:=by simp[ovk,Xy]
theorem bit_of (x:BitVec 32) (k:Nat) (hk:k<4):(x >>> (28+k) &&& 1#32 == 1#32)=x.getLsbD (28+k):=by
 rw[BitVec.shiftRight_add];have e:x.getLsbD (28+k)=(x >>> 28 >>> k &&& 1#32).getLsbD 0:=by simp
 have h:∀y:BitVec 32,(y &&& 1#32 == 1#32)=(y &&& 1#32).getLsbD 0:=λy=>by
  rw[Bool.eq_iff_iff,beq_iff_eq]
  constructor
  ·intro h;rw[h];decide
  ·intro h
   apply BitVec.eq_of_getLsbD_eq
   intro i hi;rw[BitVec.getLsbD_and] at h ⊢
   rcases Nat.eq_zero_or_pos i with h0|h0
   ·subst h0;simp_all
   ·have:(1#32).getLsbD i=false:=by rw[BitVec.getLsbD_one];simp;omega
    rw[this];simp
 rw[h,e]
set_option maxRecDepth 100000 in
theorem ze0 (W:World):Calls Tryz.prog 272 #[] W λe w'=>e = .returned (.agg #[vr Uq,vr (Uq <<< 1),vr (Uq <<< 2),vr (Uq <<< 3)])∧W.grownBy w' none:=by
 go_enter Tryz.func272,Tryz.ntmps272
 go_wp2;refine bodyPost_ret (results_cell_row rfl _ _ W.heap.size 353 #[.int .u32 517762881,.int .u32 1035525762,.int .u32 2071051524,.int .u32 4142103048] (0,0) (.array 4 172) rfl ?_ (by kernel_rfl) rfl (by kernel_rfl)) rfl ?_
 ·exact heap_alloc_new _ _
 refine⟨rfl,?_⟩
 repeat (first|exact zi _|refine yi ?_ (Nat.le_refl _) _|refine zp ?_ _)
@[go_sem] theorem idx4_0 (a b c d:Value) (w:World):(Instr.index 353 (.agg #[a,b,c,d]) (.int .i64 0)).run Tryz.prog w = .ok a w:=by kernel_rfl
@[go_sem] theorem idx4_1 (a b c d:Value) (w:World):(Instr.index 353 (.agg #[a,b,c,d]) (.int .i64 1)).run Tryz.prog w = .ok b w:=by kernel_rfl
@[go_sem] theorem idx4_2 (a b c d:Value) (w:World):(Instr.index 353 (.agg #[a,b,c,d]) (.int .i64 2)).run Tryz.prog w = .ok c w:=by kernel_rfl
@[go_sem] theorem idx4_3 (a b c d:Value) (w:World):(Instr.index 353 (.agg #[a,b,c,d]) (.int .i64 3)).run Tryz.prog w = .ok d w:=by kernel_rfl
set_option maxRecDepth 100000 in
theorem ziq (x:BitVec 32) (W:World):Calls Tryz.prog 245 #[vr x] W λe w'=>e = .returned (vr (Xy x))∧W.grownBy w' none:=by
 go_enter Tryz.func245,Tryz.ntmps245
 go_wp2_with (go_at_call 272;refine(ze0 _).mono ?_;rintro e w1 ⟨rfl,hg⟩;have HG:=zd hg;clear hg)
 go_loopw [0,11] (λv i wr=>w1=wr∧∃k:Nat,k≤4∧v=vr (ovk x k)∧i = .int .i64 k) (λ_ i _=>4-(intOf i).toNat)
 case atStart=>exact⟨rfl,0,by omega,rfl,rfl⟩
 case round=>
  obtain⟨rfl,k,hk,rfl,rfl⟩:=hrel;have hb:=bit_of x k;have hs:ovk x (k+1)=ovk x k ^^^ (if x.getLsbD (28+k)=true then Uq <<< k else 0#32):=rfl
  have hstep:∀j,j=k+1→(x.getLsbD (28+k)=false→ovk x j=ovk x k)∧(x.getLsbD (28+k)=true→ovk x j=ovk x k ^^^ (Uq <<< k)):=λj hj=>by
   subst hj;rw[hs]
   constructor <;> intro h <;> simp[h]
  clear hs;have ho:=ovk_all x;generalize hv:ovk x k=v at *
  rcases(show k=0∨k=1∨k=2∨k=3∨k=4 by omega) with rfl|rfl|rfl|rfl|rfl
  ·have h0:=hb (by omega)
   cases hx:x.getLsbD (28+0)
   ·rw[hx] at h0
    have h1:(x >>> 28 &&& 1#32 == 1#32)=false:=h0;have HV:=zd ((hstep 1 rfl).1 hx);clear hb h0 hx hstep;go_wp2;refine⟨⟨trivial,1,by omega,by rw[HV.out],rfl⟩,by simp[intOf]⟩
   ·rw[hx] at h0
    have h1:(x >>> 28 &&& 1#32 == 1#32)=true:=h0;have HV:=zd ((hstep 1 rfl).2 hx);clear hb h0 hx hstep;go_wp2;refine⟨⟨trivial,1,by omega,by rw[HV.out];try simp,rfl⟩,by simp[intOf]⟩
  ·have h0:=hb (by omega)
   cases hx:x.getLsbD (28+1)
   ·rw[hx] at h0
    have h1:(x >>> 29 &&& 1#32 == 1#32)=false:=h0;have HV:=zd ((hstep 2 rfl).1 hx);clear hb h0 hx hstep;go_wp2;refine⟨⟨trivial,2,by omega,by rw[HV.out],rfl⟩,by simp[intOf]⟩
   ·rw[hx] at h0
    have h1:(x >>> 29 &&& 1#32 == 1#32)=true:=h0;have HV:=zd ((hstep 2 rfl).2 hx);clear hb h0 hx hstep;go_wp2;refine⟨⟨trivial,2,by omega,by rw[HV.out];try simp,rfl⟩,by simp[intOf]⟩
  ·have h0:=hb (by omega)
   cases hx:x.getLsbD (28+2)
   ·rw[hx] at h0
    have h1:(x >>> 30 &&& 1#32 == 1#32)=false:=h0;have HV:=zd ((hstep 3 rfl).1 hx);clear hb h0 hx hstep;go_wp2;refine⟨⟨trivial,3,by omega,by rw[HV.out],rfl⟩,by simp[intOf]⟩
   ·rw[hx] at h0
    have h1:(x >>> 30 &&& 1#32 == 1#32)=true:=h0;have HV:=zd ((hstep 3 rfl).2 hx);clear hb h0 hx hstep;go_wp2;refine⟨⟨trivial,3,by omega,by rw[HV.out];try simp,rfl⟩,by simp[intOf]⟩
  ·have h0:=hb (by omega)
   cases hx:x.getLsbD (28+3)
   ·rw[hx] at h0
    have h1:(x >>> 31 &&& 1#32 == 1#32)=false:=h0;have HV:=zd ((hstep 4 rfl).1 hx);clear hb h0 hx hstep;go_wp2;refine⟨⟨trivial,4,by omega,by rw[HV.out],rfl⟩,by simp[intOf]⟩
   ·rw[hx] at h0
    have h1:(x >>> 31 &&& 1#32 == 1#32)=true:=h0;have HV:=zd ((hstep 4 rfl).2 hx);clear hb h0 hx hstep;go_wp2;refine⟨⟨trivial,4,by omega,by rw[HV.out];try simp,rfl⟩,by simp[intOf]⟩
  ·clear hb hstep
   go_wp2
   go_ret
   rw[←hv,ho]
   exact⟨rfl,HG.out⟩
set_option maxRecDepth 100000 in
theorem zo2 (x:BitVec 32) (c:BitVec 8) (W:World):Calls Tryz.prog 209 #[vr x,u8V c] W λe w'=>e = .returned (vr (zcc x c.reverse))∧W.grownBy w' none:=by
 go_enter Tryz.func209,Tryz.ntmps209
 go_wp2_with (go_at_call 244;refine(zpx _ _).mono ?_;rintro e w1 ⟨rfl,h5⟩;obtain rfl:W=w1:=h5.symm)
 go_loopw [0,11] (λv i wr=>W.grownBy wr none∧((i = .int .i64 0∧v=vr (x ^^^ c.reverse.setWidth 32 <<< 24))∨(i = .int .i64 1∧v=vr (Xy (x ^^^ c.reverse.setWidth 32 <<< 24)))∨(i = .int .i64 2∧v=vr (zcc x c.reverse)))) (λ_ i _=>2-(intOf i).toNat)
 case atStart=>exact⟨zi _,Or.inl ⟨rfl,rfl⟩⟩
 case round=>
  obtain⟨hg,⟨rfl,rfl⟩|⟨rfl,rfl⟩|⟨rfl,rfl⟩⟩:=hrel
  ·have HG:=zd hg
   clear hg
   go_wp2_with (go_at_call 245;refine(ziq _ _).mono ?_;rintro e w1 ⟨rfl,hg⟩;have HG2:=zd (zh HG.out hg);clear hg)
   refine⟨⟨HG2.out,Or.inr (Or.inl ⟨rfl,rfl⟩)⟩,by simp[intOf]⟩
  ·have HG:=zd hg
   clear hg
   go_wp2_with (go_at_call 245;refine(ziq _ _).mono ?_;rintro e w1 ⟨rfl,hg⟩;have HG2:=zd (zh HG.out hg);clear hg)
   refine⟨⟨HG2.out,Or.inr (Or.inr ⟨rfl,rfl⟩)⟩,by simp[intOf]⟩
  ·have HG:=zd hg
   clear hg;go_wp2
   go_ret
   exact⟨rfl,HG.out⟩
def Vi (l:List Int):BitVec 32:=l.foldl (λv b=>zcc v (BitVec.ofInt 8 b).reverse) 0xFFFFFFFF#32
def zo (l:List Int):Nat:=(zf2 (~~~ (Vi l))).toNat
theorem zle (l:List Int):zo l<256 ^ 4:=(zf2 (~~~ (Vi l))).isLt
theorem zf1 (l:List Int) (b:Int):Vi (l ++ [b])=zcc (Vi l) (BitVec.ofInt 8 b).reverse:=by simp[Vi]
theorem zqc {b:Int} (h0:0≤b) (h1:b<256):Value.int .u8 b=u8V (BitVec.ofInt 8 b):=by
 unfold u8V
 congr 1
 rw[BitVec.toNat_ofInt];omega
set_option maxRecDepth 100000 in
theorem sum_any {W:World} {v:Value} {l:List Int} (h:zx W v l) (hb:BL l) (hl:l.length≤1000000) :
  Calls Tryz.prog 161 #[v] W λe w'=>e = .returned (.int .u32 (zo l))∧W.grownBy w' none:=by
 have HR:Hid (∀W',W.grownBy W' none→zx W' v l):=(λW' hg=>h.grown hg (by simp))
 obtain⟨p,cap,rfl,-⟩:=h.ex;have HB:=zd hb;obtain⟨n,hn⟩:∃n,n=l.length:=⟨_,rfl⟩;rw[←hn];have HN:=zd hn;rw[←hn] at HR hl;clear h hb hn
 go_enter Tryz.func161,Tryz.ntmps161
 go_wp2
 go_loopw [3,8] (λr i wr=>W.grownBy wr none∧∃k:Nat,k≤n∧r=vr (Vi (l.take k))∧i = .int .i64 k) (λ_ i _=>n-(intOf i).toNat)
 case atStart=>exact⟨zi _,0,by omega,rfl,rfl⟩
 case round=>
  obtain⟨hg,k,hk,rfl,rfl⟩:=hrel
  by_cases hkn:k<n
  ·have hkl:k<l.length:=by rw[←HN.out];exact hkn
   have hr:=HR.out _ hg;obtain⟨p',cap',e,hc⟩:=hr.ex;have hcell:∃a,p=some a∧wr.cell? (a.add k)=some (u8V (BitVec.ofInt 8 l[k])):=by
    injection e with e1 e2 e3
    subst e1
    rcases hc with h0|⟨a,rfl,h1⟩
    ·rw[h0] at hkl;simp at hkl
    ·refine⟨a,rfl,h1 k _ ?_⟩
     have hbk:=HB.out l[k] (List.getElem_mem _);rw[zg,List.getElem?_map,List.getElem?_eq_getElem hkl,Option.map_some,zqc hbk.1 hbk.2]
   obtain⟨a,rfl,cell⟩:=hcell;have HS:Hid (Vi (l.take (k+1))=zcc (Vi (l.take k)) (BitVec.ofInt 8 l[k]).reverse):=(show _=_ from by rw[List.take_succ_eq_append_getElem hkl,zf1])
   have HG:=zd hg;generalize BitVec.ofInt 8 l[k]=c at *;clear hg hr e hc
   go_wp2_with (go_at_call 209;refine(zo2 _ _ _).mono ?_;rintro e w1 ⟨rfl,hg⟩;have HG2:=zd (zh HG.out hg);clear hg)
   refine⟨⟨HG2.out,k+1,by omega,by rw[HS.out],rfl⟩,by simp[intOf];omega⟩
  ·have hkn':k=n:=by omega
   subst hkn';have HE:Hid (l.take k=l):=(show _=_ from List.take_of_length_le (by rw[←HN.out];exact Nat.le_refl _))
   have HG:=zd hg;clear hg
   go_wp2_with (go_at_call 210;refine(znd _ _).mono ?_;rintro e w1 ⟨rfl,h5⟩;obtain rfl:wr=w1:=h5.symm)
   go_ret
   refine⟨?_,HG.out⟩;rw[HE.out]
   rfl
end Go.Proofs.YtbcbhlfjgobejaaGreat
