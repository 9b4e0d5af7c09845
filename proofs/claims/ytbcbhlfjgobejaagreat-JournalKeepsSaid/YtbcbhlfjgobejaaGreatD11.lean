/- The check of bytes, half a byte at a time, is the one bit by bit: plain laws, no program. crc.Sum computes one function of the bytes: the walks. Conditions: bytes in memory. fields.get at four sizes; fields.Reader's Byte, Short, Word, Long: the walks. Conditions: bytes that lie in memory. -/
import Derived.WalkKit
import Derived.Test.YtbcbhlfjgobejaaGreatD3
import Derived.Test.YtbcbhlfjgobejaaGreatD5
set_option linter.unusedSimpArgs false
set_option linter.unusedVariables false
namespace Go.Proofs.YtbcbhlfjgobejaaGreat
def crcD:BitVec 32:=0x1EDC6F41#32
def s1 (v:BitVec 32):BitVec 32:=(v <<< 1) ^^^ (if v.msb=true then crcD else 0#32)
def s4 (v:BitVec 32):BitVec 32:=s1 (s1 (s1 (s1 v)))
def overB (v:BitVec 32):BitVec 32:=
 (v <<< 4) ^^^ (if v.getLsbD 28=true then crcD else 0#32) ^^^ (if v.getLsbD 29=true then crcD <<< 1 else 0#32) ^^^ (if v.getLsbD 30=true then crcD <<< 2 else 0#32) ^^^ (if v.getLsbD 31=true then crcD <<< 3 else 0#32)
def intoB (v:BitVec 32) (r:BitVec 8):BitVec 32:=overB (overB (v ^^^ (r.setWidth 32 <<< 24)))
open Go.RowKit Go.Sf
def u32V (x:BitVec 32):Value:=.int .u32 (x.toNat:Int)
def u8V (x:BitVec 8):Value:=.int .u8 (x.toNat:Int)
theorem ofInt_nat (x:BitVec 32):BitVec.ofInt 32 (x.toNat:Int)=x:=by simp
theorem wrapU32 (x:BitVec 32):IntKind.u32.wrap (x.toNat:Int)=x.toNat:=by
 rw[IntKind.wrap_u32]
 have:=x.isLt
 omega
@[go_sem] theorem u32_shr (t:TypeId) (x:BitVec 32) (yk:IntKind) (n:Int) (h:0≤n) (h2:n<32):binOp .shr t (u32V x) (.int yk n)=pure (u32V (x >>> n.toNat)):=by
 unfold u32V
 rw[binOp_shr,shift_shr_any _ _ _ _ h]
 have e:min n.toNat IntKind.u32.bits=n.toNat:=by simp[IntKind.bits];omega
 rw[e,BitVec.toNat_ushiftRight,Nat.shiftRight_eq_div_pow]
 simp
@[go_sem] theorem u32_shl (t:TypeId) (x:BitVec 32) (yk:IntKind) (n:Int) (h:0≤n) (h2:n<32):binOp .shl t (u32V x) (.int yk n)=pure (u32V (x <<< n.toNat)):=by
 unfold u32V
 rw[binOp_shl,shift_shl_any _ _ _ _ h]
 have e:min n.toNat IntKind.u32.bits=n.toNat:=by simp[IntKind.bits];omega
 rw[e,BitVec.toNat_shiftLeft,Nat.shiftLeft_eq,IntKind.wrap_u32]
 simp
@[go_sem] theorem u32_and (t:TypeId) (x:BitVec 32) (n:Int):binOp .and t (u32V x) (.int .u32 n)=pure (u32V (x &&& BitVec.ofInt 32 n)):=by
 unfold u32V
 rw[binOp_and]
 have h:Op.intBits .and .u32 (x.toNat:Int) n=pure (.int .u32 (IntKind.u32.wrap ((BitVec.ofInt 32 (x.toNat:Int) &&& BitVec.ofInt 32 n).toNat:Int))):=rfl
 rw[h,ofInt_nat,wrapU32]
theorem u32_bits (op:BinOp) (t:TypeId) (x y r:BitVec 32) (hop:op = .or∧r=x ||| y∨op = .xor∧r=x ^^^ y):binOp op t (u32V x) (u32V y)=pure (u32V r):=by
 unfold u32V
 rcases hop with ⟨rfl,rfl⟩|⟨rfl,rfl⟩
 ·rw[binOp_or]
  have h:Op.intBits .or .u32 (x.toNat:Int) (y.toNat:Int)=pure (.int .u32 (IntKind.u32.wrap ((BitVec.ofInt 32 (x.toNat:Int) ||| BitVec.ofInt 32 (y.toNat:Int)).toNat:Int))):=rfl
  rw[h,ofInt_nat,ofInt_nat,wrapU32]
 ·rw[binOp_xor]
  have h:Op.intBits .xor .u32 (x.toNat:Int) (y.toNat:Int)=pure (.int .u32 (IntKind.u32.wrap ((BitVec.ofInt 32 (x.toNat:Int) ^^^ BitVec.ofInt 32 (y.toNat:Int)).toNat:Int))):=rfl
  rw[h,ofInt_nat,ofInt_nat,wrapU32]
@[go_sem] theorem u32_or (t:TypeId) (x y:BitVec 32):binOp .or t (u32V x) (u32V y)=pure (u32V (x ||| y)):=u32_bits _ _ _ _ _ (Or.inl ⟨rfl,rfl⟩)
@[go_sem] theorem u32_xor (t:TypeId) (x y:BitVec 32):binOp .xor t (u32V x) (u32V y)=pure (u32V (x ^^^ y)):=u32_bits _ _ _ _ _ (Or.inr ⟨rfl,rfl⟩)
@[go_sem] theorem u32_xorc (t:TypeId) (x:BitVec 32) (n:Int):binOp .xor t (u32V x) (.int .u32 n)=pure (u32V (x ^^^ BitVec.ofInt 32 n)):=by
 unfold u32V
 rw[binOp_xor]
 have h:Op.intBits .xor .u32 (x.toNat:Int) n=pure (.int .u32 (IntKind.u32.wrap ((BitVec.ofInt 32 (x.toNat:Int) ^^^ BitVec.ofInt 32 n).toNat:Int))):=rfl
 rw[h,ofInt_nat,wrapU32]
@[go_sem] theorem u32_eql (t:TypeId) (x:BitVec 32) (n:Int) (h:0≤n) (h2:n<4294967296):binOp .eql t (u32V x) (.int .u32 n)=pure (.bool (x == BitVec.ofInt 32 n)):=by
 unfold u32V
 rw[binOp_eql]
 congr 2
 rw[Bool.eq_iff_iff,beq_iff_eq,beq_iff_eq]
 constructor
 ·intro h;rw[←h,ofInt_nat]
 ·rintro rfl
  rw[BitVec.toNat_ofInt]
  omega
@[go_sem] theorem u32_guard (t:TypeId) (x y:Operand) (a:BitVec 32) (n:Int):eqGuard .eql t x y (u32V a) (.int .u32 n)=pure ():=rfl
@[go_sem] theorem u32_not (x:BitVec 32):Op.unary .xor (u32V x)=pure (u32V (~~~ x)):=by
 unfold u32V
 rw[unary_xor]
 have h:Op.intBits .xor .u32 (if IntKind.u32.signed then -1 else IntKind.u32.max) (x.toNat:Int)=pure (.int .u32 (IntKind.u32.wrap ((BitVec.ofInt 32 IntKind.u32.max ^^^ BitVec.ofInt 32 (x.toNat:Int)).toNat:Int))):=rfl
 have e:BitVec.ofInt 32 IntKind.u32.max=BitVec.allOnes 32:=by decide
 rw[h,ofInt_nat,wrapU32,e,BitVec.allOnes_xor]
@[go_sem] theorem conv_u8 (x:BitVec 8) (w:World):(convert 5 172 (u8V x)).run Tryz.prog w = .ok (u32V (x.setWidth 32)) w:=by
 have h:(convert 5 172 (u8V x)).run Tryz.prog w = .ok (.int .u32 (IntKind.u32.wrap (x.toNat:Int))) w:=by
  unfold u8V
  kernel_rfl
 rw[h]
 unfold u32V
 rw[IntKind.wrap_u32,BitVec.toNat_setWidth]
 have:=x.isLt
 congr 2
theorem wpList_idx8 (w:World) {ops:Array Oper} {rest:List Oper} {o:Oper} {a:Act} {Q:Exit→Act→World→Prop} (hgd:o.guard=none) (s:ByteArray) (y:Operand) (hop:o.op=Op.index 9 (.const (.string s)) y) (hs:∀c:BitVec 8,(s.data.toList[c.toNat]?).map (·.toBitVec)=some c.reverse)
  (c:BitVec 8) (hy:a.eval y=u8V c) (h:wpList Tryz.prog ops Q rest (a.put o.dst (u8V c.reverse)) w):wpList Tryz.prog ops Q (o :: rest) a w:=by
 have hr:(Instr.index 9 (.string s) (u8V c)).run Tryz.prog w = .ok (u8V c.reverse) w:=by
  have h1:=hs c
  cases e:s.data.toList[c.toNat]? with
  | none=>rw[e] at h1;cases h1
  | some b=>
   rw[e] at h1
   have h2:b.toBitVec=c.reverse:=by simpa using h1
   have h3:s.data[c.toNat]? = some b:=by rw[←e];simp
   have h4:s[c.toNat]? = some b:=by
    obtain⟨h5,h6⟩:=Array.getElem?_eq_some_iff.1 h3
    have h7:c.toNat<s.size:=h5
    rw[getElem?_pos s c.toNat h7]
    exact congrArg some h6
   unfold u8V
   have h5:(b.toNat:Int)=(c.reverse.toNat:Int):=by rw[←h2];rfl
   have hx:(asIntOf (.int .u8 (c.toNat:Int))).run Tryz.prog w = .ok (.u8,(c.toNat:Int)) w:=rfl
   simp only[Instr.index,Sem.run_bind,hx,Result.andThen,run_underlying Tryz.underlying9]
   rw[if_pos (by omega)]
   simp only[Int.toNat_natCast,h4,Sem.run_pure,h5]
 refine wpList_plain hgd fun K hK=>?_
 unfold Oper.wp
 simp only[execOp,hop,hy]
 have e:a.eval (.const (.string s)) = .string s:=rfl
 rw[e]
 simp[hr,Result.andThen,Oper.upon]
 exact hK _ _ h
set_option maxRecDepth 100000 in
theorem rev8_any (c:BitVec 8) (W:World):Calls Tryz.prog 244 #[u8V c] W fun e w'=>e = .returned (u8V c.reverse)∧w'=W:=by
 go_enter Tryz.func244,Tryz.ntmps244
 go_wp2_with (refine wpList_idx8 _ rfl _ _ rfl (by decide +kernel) c rfl ?_)
 go_ret
 exact⟨rfl,rfl⟩
def rev32 (x:BitVec 32):BitVec 32:=
 let a:=(x >>> 1 &&& 1431655765#32) ||| ((x &&& 1431655765#32) <<< 1)
 let b:=(a >>> 2 &&& 858993459#32) ||| ((a &&& 858993459#32) <<< 2)
 let c:=(b >>> 4 &&& 252645135#32) ||| ((b &&& 252645135#32) <<< 4)
 let d:=(c >>> 8 &&& 16711935#32) ||| ((c &&& 16711935#32) <<< 8)
 (d >>> 16) ||| (d <<< 16)
set_option maxRecDepth 100000 in
theorem rev32_any (x:BitVec 32) (W:World):Calls Tryz.prog 210 #[u32V x] W fun e w'=>e = .returned (u32V (rev32 x))∧w'=W:=by
 go_enter Tryz.func210,Tryz.ntmps210
 go_wp2
 go_ret
 exact⟨rfl,rfl⟩
def ovk (x:BitVec 32):Nat→BitVec 32
 | 0=>x <<< 4
 | k+1=>ovk x k ^^^ (if x.getLsbD (28+k)=true then crcD <<< k else 0#32)
theorem ovk_all (x:BitVec 32):ovk x 4=overB x:=by simp[ovk,overB]
theorem bit_of (x:BitVec 32) (k:Nat) (hk:k<4):(x >>> (28+k) &&& 1#32 == 1#32)=x.getLsbD (28+k):=by
 rw[BitVec.shiftRight_add]
 have e:x.getLsbD (28+k)=(x >>> 28 >>> k &&& 1#32).getLsbD 0:=by simp
 have h:∀y:BitVec 32,(y &&& 1#32 == 1#32)=(y &&& 1#32).getLsbD 0:=fun y=>by
  rw[Bool.eq_iff_iff,beq_iff_eq]
  constructor
  ·intro h;rw[h];decide
  ·intro h
   apply BitVec.eq_of_getLsbD_eq
   intro i hi
   rw[BitVec.getLsbD_and] at h ⊢
   rcases Nat.eq_zero_or_pos i with h0|h0
   ·subst h0;simp_all
   ·have:(1#32).getLsbD i=false:=by rw[BitVec.getLsbD_one];simp;omega
    rw[this];simp
 rw[h,e]
set_option maxRecDepth 100000 in
theorem multiples_any (W:World):Calls Tryz.prog 272 #[] W fun e w'=>e = .returned (.agg #[u32V crcD,u32V (crcD <<< 1),u32V (crcD <<< 2),u32V (crcD <<< 3)])∧W.grownBy w' none:=by
 go_enter Tryz.func272,Tryz.ntmps272
 go_wp2
 refine bodyPost_ret (results_cell_row rfl _ _ W.heap.size 353 #[.int .u32 517762881,.int .u32 1035525762,.int .u32 2071051524,.int .u32 4142103048] (0,0) (.array 4 172) rfl ?_ (by kernel_rfl) rfl (by kernel_rfl)) rfl ?_
 ·exact heap_alloc_new _ _
 refine⟨rfl,?_⟩
 repeat (first|exact grown_refl _|refine grown_setCell ?_ (Nat.le_refl _) _|refine grown_alloc ?_ _)
@[go_sem] theorem idx4_0 (a b c d:Value) (w:World):(Instr.index 353 (.agg #[a,b,c,d]) (.int .i64 0)).run Tryz.prog w = .ok a w:=by kernel_rfl
@[go_sem] theorem idx4_1 (a b c d:Value) (w:World):(Instr.index 353 (.agg #[a,b,c,d]) (.int .i64 1)).run Tryz.prog w = .ok b w:=by kernel_rfl
@[go_sem] theorem idx4_2 (a b c d:Value) (w:World):(Instr.index 353 (.agg #[a,b,c,d]) (.int .i64 2)).run Tryz.prog w = .ok c w:=by kernel_rfl
@[go_sem] theorem idx4_3 (a b c d:Value) (w:World):(Instr.index 353 (.agg #[a,b,c,d]) (.int .i64 3)).run Tryz.prog w = .ok d w:=by kernel_rfl
set_option maxHeartbeats 2000000 in
set_option maxRecDepth 100000 in
theorem over_any (x:BitVec 32) (W:World):Calls Tryz.prog 245 #[u32V x] W fun e w'=>e = .returned (u32V (overB x))∧W.grownBy w' none:=by
 go_enter Tryz.func245,Tryz.ntmps245
 go_wp2_with (go_at_call 272;refine(multiples_any _).mono ?_;rintro e w1 ⟨rfl,hg⟩;have HG:=Lib.hid hg;clear hg)
 go_loopw [0,11] (fun v i wr=>w1=wr∧∃k:Nat,k≤4∧v=u32V (ovk x k)∧i = .int .i64 k) (fun _ i _=>4-(intOf i).toNat)
 case atStart=>exact⟨rfl,0,by omega,rfl,rfl⟩
 case round=>
  obtain⟨rfl,k,hk,rfl,rfl⟩:=hrel
  have hb:=bit_of x k
  have hs:ovk x (k+1)=ovk x k ^^^ (if x.getLsbD (28+k)=true then crcD <<< k else 0#32):=rfl
  have hstep:∀j,j=k+1→(x.getLsbD (28+k)=false→ovk x j=ovk x k)∧(x.getLsbD (28+k)=true→ovk x j=ovk x k ^^^ (crcD <<< k)):=fun j hj=>by
   subst hj
   rw[hs]
   constructor <;> intro h <;> simp[h]
  clear hs
  have ho:=ovk_all x
  generalize hv:ovk x k=v at *
  rcases(show k=0∨k=1∨k=2∨k=3∨k=4 by omega) with rfl|rfl|rfl|rfl|rfl
  ·have h0:=hb (by omega)
   cases hx:x.getLsbD (28+0)
   ·rw[hx] at h0
    have h1:(x >>> 28 &&& 1#32 == 1#32)=false:=h0
    have HV:=Lib.hid ((hstep 1 rfl).1 hx)
    clear hb h0 hx hstep
    go_wp2
    refine⟨⟨trivial,1,by omega,by rw[HV.out],rfl⟩,by simp[intOf]⟩
   ·rw[hx] at h0
    have h1:(x >>> 28 &&& 1#32 == 1#32)=true:=h0
    have HV:=Lib.hid ((hstep 1 rfl).2 hx)
    clear hb h0 hx hstep
    go_wp2
    refine⟨⟨trivial,1,by omega,by rw[HV.out];try simp,rfl⟩,by simp[intOf]⟩
  ·have h0:=hb (by omega)
   cases hx:x.getLsbD (28+1)
   ·rw[hx] at h0
    have h1:(x >>> 29 &&& 1#32 == 1#32)=false:=h0
    have HV:=Lib.hid ((hstep 2 rfl).1 hx)
    clear hb h0 hx hstep
    go_wp2
    refine⟨⟨trivial,2,by omega,by rw[HV.out],rfl⟩,by simp[intOf]⟩
   ·rw[hx] at h0
    have h1:(x >>> 29 &&& 1#32 == 1#32)=true:=h0
    have HV:=Lib.hid ((hstep 2 rfl).2 hx)
    clear hb h0 hx hstep
    go_wp2
    refine⟨⟨trivial,2,by omega,by rw[HV.out];try simp,rfl⟩,by simp[intOf]⟩
  ·have h0:=hb (by omega)
   cases hx:x.getLsbD (28+2)
   ·rw[hx] at h0
    have h1:(x >>> 30 &&& 1#32 == 1#32)=false:=h0
    have HV:=Lib.hid ((hstep 3 rfl).1 hx)
    clear hb h0 hx hstep
    go_wp2
    refine⟨⟨trivial,3,by omega,by rw[HV.out],rfl⟩,by simp[intOf]⟩
   ·rw[hx] at h0
    have h1:(x >>> 30 &&& 1#32 == 1#32)=true:=h0
    have HV:=Lib.hid ((hstep 3 rfl).2 hx)
    clear hb h0 hx hstep
    go_wp2
    refine⟨⟨trivial,3,by omega,by rw[HV.out];try simp,rfl⟩,by simp[intOf]⟩
  ·have h0:=hb (by omega)
   cases hx:x.getLsbD (28+3)
   ·rw[hx] at h0
    have h1:(x >>> 31 &&& 1#32 == 1#32)=false:=h0
    have HV:=Lib.hid ((hstep 4 rfl).1 hx)
    clear hb h0 hx hstep
    go_wp2
    refine⟨⟨trivial,4,by omega,by rw[HV.out],rfl⟩,by simp[intOf]⟩
   ·rw[hx] at h0
    have h1:(x >>> 31 &&& 1#32 == 1#32)=true:=h0
    have HV:=Lib.hid ((hstep 4 rfl).2 hx)
    clear hb h0 hx hstep
    go_wp2
    refine⟨⟨trivial,4,by omega,by rw[HV.out];try simp,rfl⟩,by simp[intOf]⟩
  ·clear hb hstep
   go_wp2
   go_ret
   rw[←hv,ho]
   exact⟨rfl,HG.out⟩
set_option maxRecDepth 100000 in
theorem into_any (x:BitVec 32) (c:BitVec 8) (W:World):Calls Tryz.prog 209 #[u32V x,u8V c] W fun e w'=>e = .returned (u32V (intoB x c.reverse))∧W.grownBy w' none:=by
 go_enter Tryz.func209,Tryz.ntmps209
 go_wp2_with (go_at_call 244;refine(rev8_any _ _).mono ?_;rintro e w1 ⟨rfl,h5⟩;obtain rfl:W=w1:=h5.symm)
 go_loopw [0,11] (fun v i wr=>W.grownBy wr none∧((i = .int .i64 0∧v=u32V (x ^^^ c.reverse.setWidth 32 <<< 24))∨(i = .int .i64 1∧v=u32V (overB (x ^^^ c.reverse.setWidth 32 <<< 24)))∨(i = .int .i64 2∧v=u32V (intoB x c.reverse)))) (fun _ i _=>2-(intOf i).toNat)
 case atStart=>exact⟨grown_refl _,Or.inl ⟨rfl,rfl⟩⟩
 case round=>
  obtain⟨hg,⟨rfl,rfl⟩|⟨rfl,rfl⟩|⟨rfl,rfl⟩⟩:=hrel
  ·have HG:=Lib.hid hg
   clear hg
   go_wp2_with (go_at_call 245;refine(over_any _ _).mono ?_;rintro e w1 ⟨rfl,hg⟩;have HG2:=Lib.hid (grown_trans HG.out hg);clear hg)
   refine⟨⟨HG2.out,Or.inr (Or.inl ⟨rfl,rfl⟩)⟩,by simp[intOf]⟩
  ·have HG:=Lib.hid hg
   clear hg
   go_wp2_with (go_at_call 245;refine(over_any _ _).mono ?_;rintro e w1 ⟨rfl,hg⟩;have HG2:=Lib.hid (grown_trans HG.out hg);clear hg)
   refine⟨⟨HG2.out,Or.inr (Or.inr ⟨rfl,rfl⟩)⟩,by simp[intOf]⟩
  ·have HG:=Lib.hid hg
   clear hg
   go_wp2
   go_ret
   exact⟨rfl,HG.out⟩
def regB (l:List Int):BitVec 32:=l.foldl (fun v b=>intoB v (BitVec.ofInt 8 b).reverse) 0xFFFFFFFF#32
def crcB (l:List Int):Nat:=(rev32 (~~~ (regB l))).toNat
theorem crcB_lt (l:List Int):crcB l<256 ^ 4:=(rev32 (~~~ (regB l))).isLt
theorem regB_snoc (l:List Int) (b:Int):regB (l ++ [b])=intoB (regB l) (BitVec.ofInt 8 b).reverse:=by simp[regB]
theorem u8V_of {b:Int} (h0:0≤b) (h1:b<256):Value.int .u8 b=u8V (BitVec.ofInt 8 b):=by
 unfold u8V
 congr 1
 rw[BitVec.toNat_ofInt]
 omega
set_option maxHeartbeats 2000000 in
set_option maxRecDepth 100000 in
theorem sum_any {W:World} {v:Value} {l:List Int} (h:RawRow W v l) (hb:BL l) (hl:l.length≤1000000) :
  Calls Tryz.prog 161 #[v] W fun e w'=>e = .returned (.int .u32 (crcB l))∧W.grownBy w' none:=by
 have HR:Hid (∀W',W.grownBy W' none→RawRow W' v l):=(fun W' hg=>h.grown hg (by simp))
 obtain⟨p,cap,rfl,-⟩:=h.ex
 have HB:=Lib.hid hb
 obtain⟨n,hn⟩:∃n,n=l.length:=⟨_,rfl⟩
 rw[←hn]
 have HN:=Lib.hid hn
 rw[←hn] at HR hl
 clear h hb hn
 go_enter Tryz.func161,Tryz.ntmps161
 go_wp2
 go_loopw [3,8] (fun r i wr=>W.grownBy wr none∧∃k:Nat,k≤n∧r=u32V (regB (l.take k))∧i = .int .i64 k) (fun _ i _=>n-(intOf i).toNat)
 case atStart=>exact⟨grown_refl _,0,by omega,rfl,rfl⟩
 case round=>
  obtain⟨hg,k,hk,rfl,rfl⟩:=hrel
  by_cases hkn:k<n
  ·have hkl:k<l.length:=by rw[←HN.out];exact hkn
   have hr:=HR.out _ hg
   obtain⟨p',cap',e,hc⟩:=hr.ex
   have hcell:∃a,p=some a∧wr.cell? (a.add k)=some (u8V (BitVec.ofInt 8 l[k])):=by
    injection e with e1 e2 e3
    subst e1
    rcases hc with h0|⟨a,rfl,h1⟩
    ·rw[h0] at hkl;simp at hkl
    ·refine⟨a,rfl,h1 k _ ?_⟩
     have hbk:=HB.out l[k] (List.getElem_mem _)
     rw[bytesV,List.getElem?_map,List.getElem?_eq_getElem hkl,Option.map_some,u8V_of hbk.1 hbk.2]
   obtain⟨a,rfl,cell⟩:=hcell
   have HS:Hid (regB (l.take (k+1))=intoB (regB (l.take k)) (BitVec.ofInt 8 l[k]).reverse):=(show _=_ from by rw[List.take_succ_eq_append_getElem hkl,regB_snoc])
   have HG:=Lib.hid hg
   generalize BitVec.ofInt 8 l[k]=c at *
   clear hg hr e hc
   go_wp2_with (go_at_call 209;refine(into_any _ _ _).mono ?_;rintro e w1 ⟨rfl,hg⟩;have HG2:=Lib.hid (grown_trans HG.out hg);clear hg)
   refine⟨⟨HG2.out,k+1,by omega,by rw[HS.out],rfl⟩,by simp[intOf];omega⟩
  ·have hkn':k=n:=by omega
   subst hkn'
   have HE:Hid (l.take k=l):=(show _=_ from List.take_of_length_le (by rw[←HN.out];exact Nat.le_refl _))
   have HG:=Lib.hid hg
   clear hg
   go_wp2_with (go_at_call 210;refine(rev32_any _ _).mono ?_;rintro e w1 ⟨rfl,h5⟩;obtain rfl:wr=w1:=h5.symm)
   go_ret
   refine⟨?_,HG.out⟩
   rw[HE.out]
   rfl
theorem num_take_succ {l:List Int} {k:Nat} (hk:k<l.length):num (l.take (k+1))=num (l.take k)*256+(l.getD k 0).toNat:=by
 rw[List.take_succ_eq_append_getElem hk,num_snoc]
 congr 1
 simp[List.getD,List.getElem?_eq_getElem hk]
theorem num_lt {l:List Int} (h:BL l):num l<256 ^ l.length:=(be_num _ l rfl h).2
theorem wraps64 (n:Int) (h0:0≤n) (h1:n<2 ^ 64):IntKind.u64.wrap n=n:=by simp[IntKind.wrap,IntKind.bits,IntKind.signed];omega
theorem or_byte (x c:Nat) (hx:x<256 ^ 7) (hc:c<256):bits BinOp.or IntKind.u64 ((x:Int)*256) c=((x*256+c:Nat):Int):=by
 rw[bits_join .u64 64 (by decide) wraps64 8 _ _ (by omega) (by omega) (by omega) (by omega) (by omega) (by omega)]
 omega
theorem s64_wrap (x:Nat) (hx:x<256 ^ 8):wrap64 (x:Int)=s64 x:=by
 unfold wrap64 s64
 split <;> omega
theorem or_nat (i a c:Nat) (hc:c<2 ^ i):a*2 ^ i ||| c=a*2 ^ i+c:=by
 rw[Nat.mul_comm]
 exact(Nat.two_pow_add_eq_or_of_lt hc a).symm
theorem or8 (c:Nat) (hc:c<256):bits BinOp.or IntKind.u8 0 (c:Int)=(c:Int):=by
 have:=u8_or_nat 0 c (by omega) hc
 simpa using this
theorem or16 (x c:Nat) (hx:x<256) (hc:c<256):bits BinOp.or IntKind.u16 ((x:Int)*256) c=((x*256+c:Nat):Int):=by
 have h:=u16_or_nat (x*256) c (by omega) (by omega)
 rw[or_nat 8 x c hc] at h
 rw[←h];congr 1
section
variable {B : Nat} {w w' : World} {rb at_ : Nat} {all : List Int} {bad : Bool}
def GetPost (B:Nat) (w:World) (rb:Nat) (all:List Int) (at_:Nat) (bad:Bool) (k:Nat) (kd:IntKind) (e:Ending) (w':World):Prop:=
 Turn (fun k=>k=rb) w w'∧if bad=false∧k≤all.length-at_ then e = .returned (.int kd (num ((all.drop at_).take k)))∧Rdr B w' rb all (at_+k) false else e = .returned (.int kd 0)∧Rdr B w' rb all at_ true
set_option maxHeartbeats 2000000 in
set_option maxRecDepth 100000 in
theorem get_u8 (h:Rdr B w rb all at_ bad) (hl:BL all):Calls Tryz.prog 211 #[.pointer (some ⟨rb,0,none⟩)] w (GetPost B w rb all at_ bad 1 .u8):=by
 have HC:=Lib.hid (cut_any h 1 (by omega))
 clear h
 by_cases hok:bad=false∧1≤all.length-at_
 ·refine Calls.mono (R:=fun e w'=>Turn (fun k=>k=rb) w w'∧(e = .returned (.int .u8 (num ((all.drop at_).take 1)))∧Rdr B w' rb all (at_+1) false)) ?_ (fun e w' h=>by unfold GetPost;rw[if_pos hok];exact h)
  have HC2:Hid (Calls Tryz.prog 214 #[.pointer (some ⟨rb,0,none⟩),.int .i64 1] w fun e w'=>Turn (fun k=>k=rb) w w'∧((∃v,e = .returned v∧BRow B w' v ((all.drop at_).take 1))∧Rdr B w' rb all (at_+1) false)):=(HC.out.mono fun e w' h=>by unfold CutPost at h;rw[if_pos hok] at h;exact h)
  have HL:Hid (BL ((all.drop at_).take 1)∧((all.drop at_).take 1).length=1):=(show _∧_ from ⟨(hl.drop _).take _,by rw[List.length_take,List.length_drop];omega⟩)
  generalize (all.drop at_).take 1=xs at *
  clear HC hok hl
  go_enter Tryz.func211,Tryz.ntmps211
  go_wp2_with (first
   | (go_at_call 241;refine(size8 _ _).mono ?_;rintro e w3 ⟨rfl,h5⟩;obtain rfl:w=w3:=h5.symm)
   | (go_at_call 214;refine HC2.out.mono ?_;rintro e w1 ⟨ht,⟨v,rfl,hv⟩,hd⟩;obtain⟨p,cap,rfl,-,-,hc⟩:=hv.ex;rw[HL.out.2];have HT:=Lib.hid ht;have HD:=Lib.hid hd;have HCC:=Lib.hid hc;clear ht hd hc hv))
  go_loopw [2,10] (fun xv i wr=>w1=wr∧∃k:Nat,k≤1∧xv = .int .u8 (num (xs.take k))∧i = .int .i64 k) (fun _ i _=>1-(intOf i).toNat)
  case atStart=>exact⟨rfl,0,by omega,rfl,rfl⟩
  case round=>
   obtain⟨rfl,k,hk,rfl,rfl⟩:=hrel
   by_cases hkn:k<1
   ·have hkl:k<xs.length:=by rw[HL.out.2];exact hkn
    obtain⟨c,hc0,hc1⟩:∃c:Nat,c<256∧xs.getD k 0=c:=by
     have:=HL.out.1 xs[k] (List.getElem_mem _)
     exact⟨xs[k].toNat,by omega,by simp[List.getD,List.getElem?_eq_getElem hkl];omega⟩
    have hnum:num (xs.take (k+1))=num (xs.take k)*256+c:=by rw[num_take_succ hkl,hc1];simp
    have hlt:num (xs.take k)<256 ^ 0:=by
     have h1:=num_lt (HL.out.1.take k)
     rw[List.length_take] at h1
     exact Nat.lt_of_lt_of_le h1 (Nat.pow_le_pow_right (by decide) (by have:=HL.out.2;omega))
    obtain⟨a,rfl,cell⟩:∃a,p=some a∧w1.cell? (a.add k)=some (.int .u8 c):=by
     rcases HCC.out with h0|⟨a,rfl,-,h1⟩
     ·rw[h0] at hkl;simp at hkl
     ·refine⟨a,rfl,h1 k _ ?_⟩
      rw[bytesV,List.getElem?_map,List.getElem?_eq_getElem hkl]
      simp[←hc1,List.getD,List.getElem?_eq_getElem hkl]
    have HNUM:=Lib.hid hnum
    have HLT:=Lib.hid hlt
    generalize num (xs.take k)=q at *
    clear hnum hc1 hkl
    go_wp2
    have hlt:=HLT.out
    refine⟨⟨trivial,k+1,by omega,?_,by congr 1⟩,by simp[intOf];omega⟩
    rw[HNUM.out]
    have hq:q=0:=by omega
    subst hq
    congr 1
    first
     | rw[or8 _ hc0]
     | (rw[←or8 _ hc0];congr 1;omega)
     | (simp;rw[or8 _ hc0])
     | trace_state
   ·have hkn':k=1:=by omega
    subst hkn'
    have HE:Hid (xs.take 1=xs):=(show _=_ from List.take_of_length_le (by rw[HL.out.2];exact Nat.le_refl _))
    go_wp2
    go_ret
    refine⟨HT.out,?_,HD.out⟩
    rw[HE.out];rfl
 ·refine Calls.mono (R:=fun e w'=>Turn (fun k=>k=rb) w w'∧(e = .returned (.int .u8 0)∧Rdr B w' rb all at_ true)) ?_ (fun e w' h=>by unfold GetPost;rw[if_neg hok];exact h)
  have HC2:Hid (Calls Tryz.prog 214 #[.pointer (some ⟨rb,0,none⟩),.int .i64 1] w fun e w'=>Turn (fun k=>k=rb) w w'∧(e = .returned (.slice none 0 0)∧Rdr B w' rb all at_ true)):=(HC.out.mono fun e w' h=>by unfold CutPost at h;rw[if_neg hok] at h;exact h)
  clear HC hok hl
  go_enter Tryz.func211,Tryz.ntmps211
  go_wp2_with (first
   | (go_at_call 241;refine(size8 _ _).mono ?_;rintro e w3 ⟨rfl,h5⟩;obtain rfl:w=w3:=h5.symm)
   | (go_at_call 214;refine HC2.out.mono ?_;rintro e w1 ⟨ht,rfl,hd⟩;have HT:=Lib.hid ht;have HD:=Lib.hid hd;clear ht hd))
  go_loopw [2,10] (fun xv i wr=>w1=wr∧xv = .int .u8 0∧i = .int .i64 0) (fun _ i _=>0)
  case atStart=>exact⟨rfl,rfl,rfl⟩
  case round=>
   obtain⟨rfl,rfl,rfl⟩:=hrel
   go_wp2
   go_ret
   exact⟨HT.out,rfl,HD.out⟩
set_option maxRecDepth 100000 in
theorem rByte (h:Rdr B w rb all at_ bad) (hl:BL all):Calls Tryz.prog 164 #[.pointer (some ⟨rb,0,none⟩)] w (GetPost B w rb all at_ bad 1 .u8):=by
 have HC:=Lib.hid (get_u8 h hl)
 clear h
 go_enter Tryz.func164,Tryz.ntmps164
 go_wp2_with (go_at_call 211;refine HC.out.mono ?_;intro e w1 hp;obtain⟨vv,rfl⟩:∃v,e = .returned v:=(by unfold GetPost at hp;obtain⟨_,hp⟩:=hp;split at hp;exact⟨_,hp.1⟩;exact⟨_,hp.1⟩);have HP:=Lib.hid hp;clear hp)
 go_ret
 exact HP.out
set_option maxHeartbeats 2000000 in
set_option maxRecDepth 100000 in
theorem get_u16 (h:Rdr B w rb all at_ bad) (hl:BL all):Calls Tryz.prog 213 #[.pointer (some ⟨rb,0,none⟩)] w (GetPost B w rb all at_ bad 2 .u16):=by
 have HC:=Lib.hid (cut_any h 2 (by omega))
 clear h
 by_cases hok:bad=false∧2≤all.length-at_
 ·refine Calls.mono (R:=fun e w'=>Turn (fun k=>k=rb) w w'∧(e = .returned (.int .u16 (num ((all.drop at_).take 2)))∧Rdr B w' rb all (at_+2) false)) ?_ (fun e w' h=>by unfold GetPost;rw[if_pos hok];exact h)
  have HC2:Hid (Calls Tryz.prog 214 #[.pointer (some ⟨rb,0,none⟩),.int .i64 2] w fun e w'=>Turn (fun k=>k=rb) w w'∧((∃v,e = .returned v∧BRow B w' v ((all.drop at_).take 2))∧Rdr B w' rb all (at_+2) false)):=(HC.out.mono fun e w' h=>by unfold CutPost at h;rw[if_pos hok] at h;exact h)
  have HL:Hid (BL ((all.drop at_).take 2)∧((all.drop at_).take 2).length=2):=(show _∧_ from ⟨(hl.drop _).take _,by rw[List.length_take,List.length_drop];omega⟩)
  generalize (all.drop at_).take 2=xs at *
  clear HC hok hl
  go_enter Tryz.func213,Tryz.ntmps213
  go_wp2_with (first
   | (go_at_call 247;refine(size16 _ _).mono ?_;rintro e w3 ⟨rfl,h5⟩;obtain rfl:w=w3:=h5.symm)
   | (go_at_call 214;refine HC2.out.mono ?_;rintro e w1 ⟨ht,⟨v,rfl,hv⟩,hd⟩;obtain⟨p,cap,rfl,-,-,hc⟩:=hv.ex;rw[HL.out.2];have HT:=Lib.hid ht;have HD:=Lib.hid hd;have HCC:=Lib.hid hc;clear ht hd hc hv))
  go_loopw [2,10] (fun xv i wr=>w1=wr∧∃k:Nat,k≤2∧xv = .int .u16 (num (xs.take k))∧i = .int .i64 k) (fun _ i _=>2-(intOf i).toNat)
  case atStart=>exact⟨rfl,0,by omega,rfl,rfl⟩
  case round=>
   obtain⟨rfl,k,hk,rfl,rfl⟩:=hrel
   by_cases hkn:k<2
   ·have hkl:k<xs.length:=by rw[HL.out.2];exact hkn
    obtain⟨c,hc0,hc1⟩:∃c:Nat,c<256∧xs.getD k 0=c:=by
     have:=HL.out.1 xs[k] (List.getElem_mem _)
     exact⟨xs[k].toNat,by omega,by simp[List.getD,List.getElem?_eq_getElem hkl];omega⟩
    have hnum:num (xs.take (k+1))=num (xs.take k)*256+c:=by rw[num_take_succ hkl,hc1];simp
    have hlt:num (xs.take k)<256 ^ 1:=by
     have h1:=num_lt (HL.out.1.take k)
     rw[List.length_take] at h1
     exact Nat.lt_of_lt_of_le h1 (Nat.pow_le_pow_right (by decide) (by have:=HL.out.2;omega))
    obtain⟨a,rfl,cell⟩:∃a,p=some a∧w1.cell? (a.add k)=some (.int .u8 c):=by
     rcases HCC.out with h0|⟨a,rfl,-,h1⟩
     ·rw[h0] at hkl;simp at hkl
     ·refine⟨a,rfl,h1 k _ ?_⟩
      rw[bytesV,List.getElem?_map,List.getElem?_eq_getElem hkl]
      simp[←hc1,List.getD,List.getElem?_eq_getElem hkl]
    have HNUM:=Lib.hid hnum
    have HLT:=Lib.hid hlt
    generalize num (xs.take k)=q at *
    clear hnum hc1 hkl
    go_wp2
    have hlt:=HLT.out
    refine⟨⟨trivial,k+1,by omega,?_,by congr 1⟩,by simp[intOf];omega⟩
    rw[HNUM.out]
    skip
    skip
    congr 1
    first
     | rw[or16 _ _ hlt hc0]
     | (rw[←or16 _ _ hlt hc0];congr 1;omega)
     | (simp;rw[or16 _ _ hlt hc0])
     | trace_state
   ·have hkn':k=2:=by omega
    subst hkn'
    have HE:Hid (xs.take 2=xs):=(show _=_ from List.take_of_length_le (by rw[HL.out.2];exact Nat.le_refl _))
    go_wp2
    go_ret
    refine⟨HT.out,?_,HD.out⟩
    rw[HE.out];rfl
 ·refine Calls.mono (R:=fun e w'=>Turn (fun k=>k=rb) w w'∧(e = .returned (.int .u16 0)∧Rdr B w' rb all at_ true)) ?_ (fun e w' h=>by unfold GetPost;rw[if_neg hok];exact h)
  have HC2:Hid (Calls Tryz.prog 214 #[.pointer (some ⟨rb,0,none⟩),.int .i64 2] w fun e w'=>Turn (fun k=>k=rb) w w'∧(e = .returned (.slice none 0 0)∧Rdr B w' rb all at_ true)):=(HC.out.mono fun e w' h=>by unfold CutPost at h;rw[if_neg hok] at h;exact h)
  clear HC hok hl
  go_enter Tryz.func213,Tryz.ntmps213
  go_wp2_with (first
   | (go_at_call 247;refine(size16 _ _).mono ?_;rintro e w3 ⟨rfl,h5⟩;obtain rfl:w=w3:=h5.symm)
   | (go_at_call 214;refine HC2.out.mono ?_;rintro e w1 ⟨ht,rfl,hd⟩;have HT:=Lib.hid ht;have HD:=Lib.hid hd;clear ht hd))
  go_loopw [2,10] (fun xv i wr=>w1=wr∧xv = .int .u16 0∧i = .int .i64 0) (fun _ i _=>0)
  case atStart=>exact⟨rfl,rfl,rfl⟩
  case round=>
   obtain⟨rfl,rfl,rfl⟩:=hrel
   go_wp2
   go_ret
   exact⟨HT.out,rfl,HD.out⟩
set_option maxRecDepth 100000 in
theorem rShort (h:Rdr B w rb all at_ bad) (hl:BL all):Calls Tryz.prog 166 #[.pointer (some ⟨rb,0,none⟩)] w (GetPost B w rb all at_ bad 2 .u16):=by
 have HC:=Lib.hid (get_u16 h hl)
 clear h
 go_enter Tryz.func166,Tryz.ntmps166
 go_wp2_with (go_at_call 213;refine HC.out.mono ?_;intro e w1 hp;obtain⟨vv,rfl⟩:∃v,e = .returned v:=(by unfold GetPost at hp;obtain⟨_,hp⟩:=hp;split at hp;exact⟨_,hp.1⟩;exact⟨_,hp.1⟩);have HP:=Lib.hid hp;clear hp)
 go_ret
 exact HP.out
set_option maxHeartbeats 2000000 in
set_option maxRecDepth 100000 in
theorem get_u64 (h:Rdr B w rb all at_ bad) (hl:BL all):Calls Tryz.prog 212 #[.pointer (some ⟨rb,0,none⟩)] w (GetPost B w rb all at_ bad 8 .u64):=by
 have HC:=Lib.hid (cut_any h 8 (by omega))
 clear h
 by_cases hok:bad=false∧8≤all.length-at_
 ·refine Calls.mono (R:=fun e w'=>Turn (fun k=>k=rb) w w'∧(e = .returned (.int .u64 (num ((all.drop at_).take 8)))∧Rdr B w' rb all (at_+8) false)) ?_ (fun e w' h=>by unfold GetPost;rw[if_pos hok];exact h)
  have HC2:Hid (Calls Tryz.prog 214 #[.pointer (some ⟨rb,0,none⟩),.int .i64 8] w fun e w'=>Turn (fun k=>k=rb) w w'∧((∃v,e = .returned v∧BRow B w' v ((all.drop at_).take 8))∧Rdr B w' rb all (at_+8) false)):=(HC.out.mono fun e w' h=>by unfold CutPost at h;rw[if_pos hok] at h;exact h)
  have HL:Hid (BL ((all.drop at_).take 8)∧((all.drop at_).take 8).length=8):=(show _∧_ from ⟨(hl.drop _).take _,by rw[List.length_take,List.length_drop];omega⟩)
  generalize (all.drop at_).take 8=xs at *
  clear HC hok hl
  go_enter Tryz.func212,Tryz.ntmps212
  go_wp2_with (first
   | (go_at_call 236;refine(size64 _ _).mono ?_;rintro e w3 ⟨rfl,h5⟩;obtain rfl:w=w3:=h5.symm)
   | (go_at_call 214;refine HC2.out.mono ?_;rintro e w1 ⟨ht,⟨v,rfl,hv⟩,hd⟩;obtain⟨p,cap,rfl,-,-,hc⟩:=hv.ex;rw[HL.out.2];have HT:=Lib.hid ht;have HD:=Lib.hid hd;have HCC:=Lib.hid hc;clear ht hd hc hv))
  go_loopw [2,10] (fun xv i wr=>w1=wr∧∃k:Nat,k≤8∧xv = .int .u64 (num (xs.take k))∧i = .int .i64 k) (fun _ i _=>8-(intOf i).toNat)
  case atStart=>exact⟨rfl,0,by omega,rfl,rfl⟩
  case round=>
   obtain⟨rfl,k,hk,rfl,rfl⟩:=hrel
   by_cases hkn:k<8
   ·have hkl:k<xs.length:=by rw[HL.out.2];exact hkn
    obtain⟨c,hc0,hc1⟩:∃c:Nat,c<256∧xs.getD k 0=c:=by
     have:=HL.out.1 xs[k] (List.getElem_mem _)
     exact⟨xs[k].toNat,by omega,by simp[List.getD,List.getElem?_eq_getElem hkl];omega⟩
    have hnum:num (xs.take (k+1))=num (xs.take k)*256+c:=by rw[num_take_succ hkl,hc1];simp
    have hlt:num (xs.take k)<256 ^ 7:=by
     have h1:=num_lt (HL.out.1.take k)
     rw[List.length_take] at h1
     exact Nat.lt_of_lt_of_le h1 (Nat.pow_le_pow_right (by decide) (by have:=HL.out.2;omega))
    obtain⟨a,rfl,cell⟩:∃a,p=some a∧w1.cell? (a.add k)=some (.int .u8 c):=by
     rcases HCC.out with h0|⟨a,rfl,-,h1⟩
     ·rw[h0] at hkl;simp at hkl
     ·refine⟨a,rfl,h1 k _ ?_⟩
      rw[bytesV,List.getElem?_map,List.getElem?_eq_getElem hkl]
      simp[←hc1,List.getD,List.getElem?_eq_getElem hkl]
    have HNUM:=Lib.hid hnum
    have HLT:=Lib.hid hlt
    generalize num (xs.take k)=q at *
    clear hnum hc1 hkl
    go_wp2
    have hlt:=HLT.out
    refine⟨⟨trivial,k+1,by omega,?_,by congr 1⟩,by simp[intOf];omega⟩
    rw[HNUM.out]
    skip
    skip
    congr 1
    first
     | rw[or_byte _ _ hlt hc0]
     | (rw[←or_byte _ _ hlt hc0];congr 1;omega)
     | (simp;rw[or_byte _ _ hlt hc0])
     | trace_state
   ·have hkn':k=8:=by omega
    subst hkn'
    have HE:Hid (xs.take 8=xs):=(show _=_ from List.take_of_length_le (by rw[HL.out.2];exact Nat.le_refl _))
    go_wp2
    go_ret
    refine⟨HT.out,?_,HD.out⟩
    rw[HE.out];rfl
 ·refine Calls.mono (R:=fun e w'=>Turn (fun k=>k=rb) w w'∧(e = .returned (.int .u64 0)∧Rdr B w' rb all at_ true)) ?_ (fun e w' h=>by unfold GetPost;rw[if_neg hok];exact h)
  have HC2:Hid (Calls Tryz.prog 214 #[.pointer (some ⟨rb,0,none⟩),.int .i64 8] w fun e w'=>Turn (fun k=>k=rb) w w'∧(e = .returned (.slice none 0 0)∧Rdr B w' rb all at_ true)):=(HC.out.mono fun e w' h=>by unfold CutPost at h;rw[if_neg hok] at h;exact h)
  clear HC hok hl
  go_enter Tryz.func212,Tryz.ntmps212
  go_wp2_with (first
   | (go_at_call 236;refine(size64 _ _).mono ?_;rintro e w3 ⟨rfl,h5⟩;obtain rfl:w=w3:=h5.symm)
   | (go_at_call 214;refine HC2.out.mono ?_;rintro e w1 ⟨ht,rfl,hd⟩;have HT:=Lib.hid ht;have HD:=Lib.hid hd;clear ht hd))
  go_loopw [2,10] (fun xv i wr=>w1=wr∧xv = .int .u64 0∧i = .int .i64 0) (fun _ i _=>0)
  case atStart=>exact⟨rfl,rfl,rfl⟩
  case round=>
   obtain⟨rfl,rfl,rfl⟩:=hrel
   go_wp2
   go_ret
   exact⟨HT.out,rfl,HD.out⟩
set_option maxRecDepth 100000 in
theorem rLong (h:Rdr B w rb all at_ bad) (hl:BL all):Calls Tryz.prog 165 #[.pointer (some ⟨rb,0,none⟩)] w (GetPost B w rb all at_ bad 8 .u64):=by
 have HC:=Lib.hid (get_u64 h hl)
 clear h
 go_enter Tryz.func165,Tryz.ntmps165
 go_wp2_with (go_at_call 212;refine HC.out.mono ?_;intro e w1 hp;obtain⟨vv,rfl⟩:∃v,e = .returned v:=(by unfold GetPost at hp;obtain⟨_,hp⟩:=hp;split at hp;exact⟨_,hp.1⟩;exact⟨_,hp.1⟩);have HP:=Lib.hid hp;clear hp)
 go_ret
 exact HP.out
end
end Go.Proofs.YtbcbhlfjgobejaaGreat
