/- The check of bytes, half a byte at a time, is the one bit by bit: plain laws, no program. Conditions: none, or as the theorems say. -/
import Derived.WalkKit
import Derived.Test.YtbcbhlfjgobejaaGreatI3
set_option linter.unusedSimpArgs false
set_option linter.unusedVariables false
namespace Go.Proofs.YtbcbhlfjgobejaaGreat
set_option maxHeartbeats 200000000
def za2:BitVec 32:=0x1EDC6F41#32
def s1 (v:BitVec 32):BitVec 32:=(v <<< 1) ^^^ (if v.msb=true then za2 else 0#32)
def s4 (v:BitVec 32):BitVec 32:=s1 (s1 (s1 (s1 v)))
def zdo (v:BitVec 32):BitVec 32:=
 (v <<< 4) ^^^ (if v.getLsbD 28=true then za2 else 0#32) ^^^ (if v.getLsbD 29=true then za2 <<< 1 else 0#32) ^^^ (if v.getLsbD 30=true then za2 <<< 2 else 0#32) ^^^ (if v.getLsbD 31=true then za2 <<< 3 else 0#32)
def zfn (v:BitVec 32) (r:BitVec 8):BitVec 32:=zdo (zdo (v ^^^ (r.setWidth 32 <<< 24)))
open Go.RowKit Go.Sf
def vo (x:BitVec 32):Value:=.int .u32 (x.toNat:Int)
def u8V (x:BitVec 8):Value:=.int .u8 (x.toNat:Int)
theorem jr (x:BitVec 32):BitVec.ofInt 32 (x.toNat:Int)=x:=by simp
theorem Jg (x:BitVec 32):IntKind.u32.wrap (x.toNat:Int)=x.toNat:=by
 rw[IntKind.wrap_u32];have:=x.isLt;omega
@[go_sem] theorem u32_shr (t:TypeId) (x:BitVec 32) (yk:IntKind) (n:Int) (h:0≤n) (h2:n<32):binOp .shr t (vo x) (.int yk n)=pure (vo (x >>> n.toNat)):=by
 unfold vo;rw[binOp_shr,shift_shr_any _ _ _ _ h];have e:min n.toNat IntKind.u32.bits=n.toNat:=by simp[IntKind.bits];omega
 rw[e,BitVec.toNat_ushiftRight,Nat.shiftRight_eq_div_pow];simp
@[go_sem] theorem u32_shl (t:TypeId) (x:BitVec 32) (yk:IntKind) (n:Int) (h:0≤n) (h2:n<32):binOp .shl t (vo x) (.int yk n)=pure (vo (x <<< n.toNat)):=by
 unfold vo;rw[binOp_shl,shift_shl_any _ _ _ _ h];have e:min n.toNat IntKind.u32.bits=n.toNat:=by simp[IntKind.bits];omega
 rw[e,BitVec.toNat_shiftLeft,Nat.shiftLeft_eq,IntKind.wrap_u32];simp
@[go_sem] theorem u32_and (t:TypeId) (x:BitVec 32) (n:Int):binOp .and t (vo x) (.int .u32 n)=pure (vo (x &&& BitVec.ofInt 32 n)):=by
 unfold vo;rw[binOp_and];have h:Op.intBits .and .u32 (x.toNat:Int) n=pure (.int .u32 (IntKind.u32.wrap ((BitVec.ofInt 32 (x.toNat:Int) &&& BitVec.ofInt 32 n).toNat:Int))):=rfl;rw[h,jr,Jg]
theorem zg2 (op:BinOp) (t:TypeId) (x y r:BitVec 32) (hop:op = .or∧r=x ||| y∨op = .xor∧r=x ^^^ y):binOp op t (vo x) (vo y)=pure (vo r):=by
 unfold vo
 rcases hop with ⟨rfl,rfl⟩|⟨rfl,rfl⟩
 ·rw[binOp_or]
  have h:Op.intBits .or .u32 (x.toNat:Int) (y.toNat:Int)=pure (.int .u32 (IntKind.u32.wrap ((BitVec.ofInt 32 (x.toNat:Int) ||| BitVec.ofInt 32 (y.toNat:Int)).toNat:Int))):=rfl
  rw[h,jr,jr,Jg]
 ·rw[binOp_xor]
  have h:Op.intBits .xor .u32 (x.toNat:Int) (y.toNat:Int)=pure (.int .u32 (IntKind.u32.wrap ((BitVec.ofInt 32 (x.toNat:Int) ^^^ BitVec.ofInt 32 (y.toNat:Int)).toNat:Int))):=rfl;rw[h,jr,jr,Jg]
@[go_sem] theorem u32_or (t:TypeId) (x y:BitVec 32):binOp .or t (vo x) (vo y)=pure (vo (x ||| y)):=zg2 _ _ _ _ _ (Or.inl ⟨rfl,rfl⟩)
@[go_sem] theorem u32_xor (t:TypeId) (x y:BitVec 32):binOp .xor t (vo x) (vo y)=pure (vo (x ^^^ y)):=zg2 _ _ _ _ _ (Or.inr ⟨rfl,rfl⟩)
@[go_sem] theorem u32_xorc (t:TypeId) (x:BitVec 32) (n:Int):binOp .xor t (vo x) (.int .u32 n)=pure (vo (x ^^^ BitVec.ofInt 32 n)):=by
 unfold vo;rw[binOp_xor];have h:Op.intBits .xor .u32 (x.toNat:Int) n=pure (.int .u32 (IntKind.u32.wrap ((BitVec.ofInt 32 (x.toNat:Int) ^^^ BitVec.ofInt 32 n).toNat:Int))):=rfl;rw[h,jr,Jg]
@[go_sem] theorem u32_eql (t:TypeId) (x:BitVec 32) (n:Int) (h:0≤n) (h2:n<4294967296):binOp .eql t (vo x) (.int .u32 n)=pure (.bool (x == BitVec.ofInt 32 n)):=by
 unfold vo;rw[binOp_eql]
 congr 2
 rw[Bool.eq_iff_iff,beq_iff_eq,beq_iff_eq]
 constructor
 ·intro h;rw[←h,jr]
 ·rintro rfl
  rw[BitVec.toNat_ofInt];omega
@[go_sem] theorem u32_guard (t:TypeId) (x y:Operand) (a:BitVec 32) (n:Int):eqGuard .eql t x y (vo a) (.int .u32 n)=pure ():=rfl
@[go_sem] theorem u32_not (x:BitVec 32):Op.unary .xor (vo x)=pure (vo (~~~ x)):=by
 unfold vo;rw[unary_xor];have h:Op.intBits .xor .u32 (if IntKind.u32.signed then -1 else IntKind.u32.max) (x.toNat:Int)=pure (.int .u32 (IntKind.u32.wrap ((BitVec.ofInt 32 IntKind.u32.max ^^^ BitVec.ofInt 32 (x.toNat:Int)).toNat:Int))):=rfl
 have e:BitVec.ofInt 32 IntKind.u32.max=BitVec.allOnes 32:=by decide
 rw[h,jr,Jg,e,BitVec.allOnes_xor]
@[go_sem] theorem conv_u8 (x:BitVec 8) (w:World):(convert 5 172 (u8V x)).run Tryz.prog w = .ok (vo (x.setWidth 32)) w:=by
 have h:(convert 5 172 (u8V x)).run Tryz.prog w = .ok (.int .u32 (IntKind.u32.wrap (x.toNat:Int))) w:=by
  unfold u8V
  kernel_rfl
 rw[h];unfold vo;rw[IntKind.wrap_u32,BitVec.toNat_setWidth];have:=x.isLt
 congr 2
theorem zg9 (w:World) {ops:Array Oper} {rest:List Oper} {o:Oper} {a:Act} {Q:Exit→Act→World→Prop} (hgd:o.guard=none) (s:ByteArray) (y:Operand) (hop:o.op=Op.index 9 (.const (.string s)) y) (hs:∀c:BitVec 8,(s.data.toList[c.toNat]?).map (·.toBitVec)=some c.reverse)
  (c:BitVec 8) (hy:a.eval y=u8V c) (h:wpList Tryz.prog ops Q rest (a.put o.dst (u8V c.reverse)) w):wpList Tryz.prog ops Q (o :: rest) a w:=by
 have hr:(Instr.index 9 (.string s) (u8V c)).run Tryz.prog w = .ok (u8V c.reverse) w:=by
  have h1:=hs c
  cases e:s.data.toList[c.toNat]? with
  | none=>rw[e] at h1;cases h1
  | some b=>
   rw[e] at h1;have h2:b.toBitVec=c.reverse:=by simpa using h1
   have h3:s.data[c.toNat]? = some b:=by rw[←e];simp
   have h4:s[c.toNat]? = some b:=by
    obtain⟨h5,h6⟩:=Array.getElem?_eq_some_iff.1 h3;have h7:c.toNat<s.size:=h5;rw[getElem?_pos s c.toNat h7]
    exact congrArg some h6
   unfold u8V;have h5:(b.toNat:Int)=(c.reverse.toNat:Int):=by rw[←h2];rfl
   have hx:(asIntOf (.int .u8 (c.toNat:Int))).run Tryz.prog w = .ok (.u8,(c.toNat:Int)) w:=rfl;simp only[Instr.index,Sem.run_bind,hx,Result.andThen,run_underlying Tryz.underlying9];rw[if_pos (by omega)]
   simp only[Int.toNat_natCast,h4,Sem.run_pure,h5]
 refine wpList_plain hgd fun K hK=>?_
 unfold Oper.wp;simp only[execOp,hop,hy];have e:a.eval (.const (.string s)) = .string s:=rfl;rw[e];simp[hr,Result.andThen,Oper.upon]
 exact hK _ _ h
set_option maxRecDepth 100000 in
theorem zm3 (c:BitVec 8) (W:World):Calls Tryz.prog 244 #[u8V c] W fun e w'=>e = .returned (u8V c.reverse)∧w'=W:=by
 go_enter Tryz.func244,Tryz.ntmps244
 go_wp2_with (refine zg9 _ rfl _ _ rfl (by decide +kernel) c rfl ?_)
 go_ret
 exact⟨rfl,rfl⟩
def rev32 (x:BitVec 32):BitVec 32:=
 let a:=(x >>> 1 &&& 1431655765#32) ||| ((x &&& 1431655765#32) <<< 1)
 let b:=(a >>> 2 &&& 858993459#32) ||| ((a &&& 858993459#32) <<< 2)
 let c:=(b >>> 4 &&& 252645135#32) ||| ((b &&& 252645135#32) <<< 4)
 let d:=(c >>> 8 &&& 16711935#32) ||| ((c &&& 16711935#32) <<< 8)
 (d >>> 16) ||| (d <<< 16)
set_option maxRecDepth 100000 in
theorem zkm (x:BitVec 32) (W:World):Calls Tryz.prog 210 #[vo x] W fun e w'=>e = .returned (vo (rev32 x))∧w'=W:=by
 go_enter Tryz.func210,Tryz.ntmps210
 go_wp2
 go_ret
 exact⟨rfl,rfl⟩
def ovk (x:BitVec 32):Nat→BitVec 32
 | 0=>x <<< 4
 | k+1=>ovk x k ^^^ (if x.getLsbD (28+k)=true then za2 <<< k else 0#32)
theorem ovk_all (x:BitVec 32):ovk x 4=zdo x:=by simp[ovk,zdo]
theorem bit_of (x:BitVec 32) (k:Nat) (hk:k<4):(x >>> (28+k) &&& 1#32 == 1#32)=x.getLsbD (28+k):=by
 rw[BitVec.shiftRight_add];have e:x.getLsbD (28+k)=(x >>> 28 >>> k &&& 1#32).getLsbD 0:=by simp
 have h:∀y:BitVec 32,(y &&& 1#32 == 1#32)=(y &&& 1#32).getLsbD 0:=fun y=>by
  rw[Bool.eq_iff_iff,beq_iff_eq]
  constructor
  ·intro h;rw[h];decide
  ·intro h
   apply BitVec.eq_of_getLsbD_eq
   intro i hi;rw[BitVec.getLsbD_and] at h ⊢
   rcases Nat.eq_zero_or_pos i with h0|h0
   ·subst h0;simp_all
   ·have:(1#32).getLsbD i=false:=by rw[BitVec.getLsbD_one];simp;omega
    rw[this];simp
 rw[h,e]
set_option maxRecDepth 100000 in
theorem zcs (W:World):Calls Tryz.prog 272 #[] W fun e w'=>e = .returned (.agg #[vo za2,vo (za2 <<< 1),vo (za2 <<< 2),vo (za2 <<< 3)])∧W.grownBy w' none:=by
 go_enter Tryz.func272,Tryz.ntmps272
 go_wp2;refine bodyPost_ret (results_cell_row rfl _ _ W.heap.size 353 #[.int .u32 517762881,.int .u32 1035525762,.int .u32 2071051524,.int .u32 4142103048] (0,0) (.array 4 172) rfl ?_ (by kernel_rfl) rfl (by kernel_rfl)) rfl ?_
 ·exact heap_alloc_new _ _
 refine⟨rfl,?_⟩
 repeat (first|exact zm _|refine yp ?_ (Nat.le_refl _) _|refine zu ?_ _)
@[go_sem] theorem idx4_0 (a b c d:Value) (w:World):(Instr.index 353 (.agg #[a,b,c,d]) (.int .i64 0)).run Tryz.prog w = .ok a w:=by kernel_rfl
@[go_sem] theorem idx4_1 (a b c d:Value) (w:World):(Instr.index 353 (.agg #[a,b,c,d]) (.int .i64 1)).run Tryz.prog w = .ok b w:=by kernel_rfl
@[go_sem] theorem idx4_2 (a b c d:Value) (w:World):(Instr.index 353 (.agg #[a,b,c,d]) (.int .i64 2)).run Tryz.prog w = .ok c w:=by kernel_rfl
@[go_sem] theorem idx4_3 (a b c d:Value) (w:World):(Instr.index 353 (.agg #[a,b,c,d]) (.int .i64 3)).run Tryz.prog w = .ok d w:=by kernel_rfl
set_option maxRecDepth 100000 in
theorem zf0 (x:BitVec 32) (W:World):Calls Tryz.prog 245 #[vo x] W fun e w'=>e = .returned (vo (zdo x))∧W.grownBy w' none:=by
 go_enter Tryz.func245,Tryz.ntmps245
 go_wp2_with (go_at_call 272;refine(zcs _).mono ?_;rintro e w1 ⟨rfl,hg⟩;have HG:=zd hg;clear hg)
 go_loopw [0,11] (fun v i wr=>w1=wr∧∃k:Nat,k≤4∧v=vo (ovk x k)∧i = .int .i64 k) (fun _ i _=>4-(intOf i).toNat)
 case atStart=>exact⟨rfl,0,by omega,rfl,rfl⟩
 case round=>
  obtain⟨rfl,k,hk,rfl,rfl⟩:=hrel;have hb:=bit_of x k;have hs:ovk x (k+1)=ovk x k ^^^ (if x.getLsbD (28+k)=true then za2 <<< k else 0#32):=rfl
  have hstep:∀j,j=k+1→(x.getLsbD (28+k)=false→ovk x j=ovk x k)∧(x.getLsbD (28+k)=true→ovk x j=ovk x k ^^^ (za2 <<< k)):=fun j hj=>by
   subst hj;rw[hs]
   constructor <;> intro h <;> simp[h]
  clear hs;have ho:=ovk_all x;generalize hv:ovk x k=v at *
  rcases(show k=0∨k=1∨k=2∨k=3∨k=4 by omega) with rfl|rfl|rfl|rfl|rfl
  ·have h0:=hb (by omega)
   cases hx:x.getLsbD (28+0)
   ·rw[hx] at h0
    have h1:(x >>> 28 &&& 1#32 == 1#32)=false:=h0;have HV:=zd ((hstep 1 rfl).1 hx);clear hb h0 hx hstep;go_wp2;refine⟨⟨trivial,1,by omega,by rw[HV.out],rfl⟩,by simp[intOf]⟩
   ·rw[hx] at h0
    have h1:(x >>> 28 &&& 1#32 == 1#32)=true:=h0;have HV:=zd ((hstep 1 rfl).2 hx);clear hb h0 hx hstep;go_wp2;refine⟨⟨trivial,1,by omega,by rw[HV.out];try simp,rfl⟩,by simp[intOf]⟩
  ·have h0:=hb (by omega)
   cases hx:x.getLsbD (28+1)
   ·rw[hx] at h0
    have h1:(x >>> 29 &&& 1#32 == 1#32)=false:=h0;have HV:=zd ((hstep 2 rfl).1 hx);clear hb h0 hx hstep;go_wp2;refine⟨⟨trivial,2,by omega,by rw[HV.out],rfl⟩,by simp[intOf]⟩
   ·rw[hx] at h0
    have h1:(x >>> 29 &&& 1#32 == 1#32)=true:=h0;have HV:=zd ((hstep 2 rfl).2 hx);clear hb h0 hx hstep;go_wp2;refine⟨⟨trivial,2,by omega,by rw[HV.out];try simp,rfl⟩,by simp[intOf]⟩
  ·have h0:=hb (by omega)
   cases hx:x.getLsbD (28+2)
   ·rw[hx] at h0
    have h1:(x >>> 30 &&& 1#32 == 1#32)=false:=h0;have HV:=zd ((hstep 3 rfl).1 hx);clear hb h0 hx hstep;go_wp2;refine⟨⟨trivial,3,by omega,by rw[HV.out],rfl⟩,by simp[intOf]⟩
   ·rw[hx] at h0
    have h1:(x >>> 30 &&& 1#32 == 1#32)=true:=h0;have HV:=zd ((hstep 3 rfl).2 hx);clear hb h0 hx hstep;go_wp2;refine⟨⟨trivial,3,by omega,by rw[HV.out];try simp,rfl⟩,by simp[intOf]⟩
  ·have h0:=hb (by omega)
   cases hx:x.getLsbD (28+3)
   ·rw[hx] at h0
    have h1:(x >>> 31 &&& 1#32 == 1#32)=false:=h0;have HV:=zd ((hstep 4 rfl).1 hx);clear hb h0 hx hstep;go_wp2;refine⟨⟨trivial,4,by omega,by rw[HV.out],rfl⟩,by simp[intOf]⟩
   ·rw[hx] at h0
    have h1:(x >>> 31 &&& 1#32 == 1#32)=true:=h0;have HV:=zd ((hstep 4 rfl).2 hx);clear hb h0 hx hstep;go_wp2;refine⟨⟨trivial,4,by omega,by rw[HV.out];try simp,rfl⟩,by simp[intOf]⟩
  ·clear hb hstep
   go_wp2
   go_ret
   rw[←hv,ho]
   exact⟨rfl,HG.out⟩
set_option maxRecDepth 100000 in
theorem zl2 (x:BitVec 32) (c:BitVec 8) (W:World):Calls Tryz.prog 209 #[vo x,u8V c] W fun e w'=>e = .returned (vo (zfn x c.reverse))∧W.grownBy w' none:=by
 go_enter Tryz.func209,Tryz.ntmps209
 go_wp2_with (go_at_call 244;refine(zm3 _ _).mono ?_;rintro e w1 ⟨rfl,h5⟩;obtain rfl:W=w1:=h5.symm)
 go_loopw [0,11] (fun v i wr=>W.grownBy wr none∧((i = .int .i64 0∧v=vo (x ^^^ c.reverse.setWidth 32 <<< 24))∨(i = .int .i64 1∧v=vo (zdo (x ^^^ c.reverse.setWidth 32 <<< 24)))∨(i = .int .i64 2∧v=vo (zfn x c.reverse)))) (fun _ i _=>2-(intOf i).toNat)
 case atStart=>exact⟨zm _,Or.inl ⟨rfl,rfl⟩⟩
 case round=>
  obtain⟨hg,⟨rfl,rfl⟩|⟨rfl,rfl⟩|⟨rfl,rfl⟩⟩:=hrel
  ·have HG:=zd hg
   clear hg
   go_wp2_with (go_at_call 245;refine(zf0 _ _).mono ?_;rintro e w1 ⟨rfl,hg⟩;have HG2:=zd (zo HG.out hg);clear hg)
   refine⟨⟨HG2.out,Or.inr (Or.inl ⟨rfl,rfl⟩)⟩,by simp[intOf]⟩
  ·have HG:=zd hg
   clear hg
   go_wp2_with (go_at_call 245;refine(zf0 _ _).mono ?_;rintro e w1 ⟨rfl,hg⟩;have HG2:=zd (zo HG.out hg);clear hg)
   refine⟨⟨HG2.out,Or.inr (Or.inr ⟨rfl,rfl⟩)⟩,by simp[intOf]⟩
  ·have HG:=zd hg
   clear hg;go_wp2
   go_ret
   exact⟨rfl,HG.out⟩
def zgd (l:List Int):BitVec 32:=l.foldl (fun v b=>zfn v (BitVec.ofInt 8 b).reverse) 0xFFFFFFFF#32
def ya (l:List Int):Nat:=(rev32 (~~~ (zgd l))).toNat
theorem zd7 (l:List Int):ya l<256 ^ 4:=(rev32 (~~~ (zgd l))).isLt
theorem zkl (l:List Int) (b:Int):zgd (l ++ [b])=zfn (zgd l) (BitVec.ofInt 8 b).reverse:=by simp[zgd]
theorem u8V_of {b:Int} (h0:0≤b) (h1:b<256):Value.int .u8 b=u8V (BitVec.ofInt 8 b):=by
 unfold u8V
 congr 1
 rw[BitVec.toNat_ofInt];omega
set_option maxRecDepth 100000 in
theorem zbd {W:World} {v:Value} {l:List Int} (h:yc W v l) (hb:BL l) (hl:l.length≤1000000) :
  Calls Tryz.prog 161 #[v] W fun e w'=>e = .returned (.int .u32 (ya l))∧W.grownBy w' none:=by
 have HR:Hid (∀W',W.grownBy W' none→yc W' v l):=(fun W' hg=>h.grown hg (by simp))
 obtain⟨p,cap,rfl,-⟩:=h.ex;have HB:=zd hb;obtain⟨n,hn⟩:∃n,n=l.length:=⟨_,rfl⟩;rw[←hn];have HN:=zd hn;rw[←hn] at HR hl;clear h hb hn
 go_enter Tryz.func161,Tryz.ntmps161
 go_wp2
 go_loopw [3,8] (fun r i wr=>W.grownBy wr none∧∃k:Nat,k≤n∧r=vo (zgd (l.take k))∧i = .int .i64 k) (fun _ i _=>n-(intOf i).toNat)
 case atStart=>exact⟨zm _,0,by omega,rfl,rfl⟩
 case round=>
  obtain⟨hg,k,hk,rfl,rfl⟩:=hrel
  by_cases hkn:k<n
  ·have hkl:k<l.length:=by rw[←HN.out];exact hkn
   have hr:=HR.out _ hg;obtain⟨p',cap',e,hc⟩:=hr.ex;have hcell:∃a,p=some a∧wr.cell? (a.add k)=some (u8V (BitVec.ofInt 8 l[k])):=by
    injection e with e1 e2 e3
    subst e1
    rcases hc with h0|⟨a,rfl,h1⟩
    ·rw[h0] at hkl;simp at hkl
    ·refine⟨a,rfl,h1 k _ ?_⟩
     have hbk:=HB.out l[k] (List.getElem_mem _);rw[zi,List.getElem?_map,List.getElem?_eq_getElem hkl,Option.map_some,u8V_of hbk.1 hbk.2]
   obtain⟨a,rfl,cell⟩:=hcell;have HS:Hid (zgd (l.take (k+1))=zfn (zgd (l.take k)) (BitVec.ofInt 8 l[k]).reverse):=(show _=_ from by rw[List.take_succ_eq_append_getElem hkl,zkl])
   have HG:=zd hg;generalize BitVec.ofInt 8 l[k]=c at *;clear hg hr e hc
   go_wp2_with (go_at_call 209;refine(zl2 _ _ _).mono ?_;rintro e w1 ⟨rfl,hg⟩;have HG2:=zd (zo HG.out hg);clear hg)
   refine⟨⟨HG2.out,k+1,by omega,by rw[HS.out],rfl⟩,by simp[intOf];omega⟩
  ·have hkn':k=n:=by omega
   subst hkn';have HE:Hid (l.take k=l):=(show _=_ from List.take_of_length_le (by rw[←HN.out];exact Nat.le_refl _))
   have HG:=zd hg;clear hg
   go_wp2_with (go_at_call 210;refine(zkm _ _).mono ?_;rintro e w1 ⟨rfl,h5⟩;obtain rfl:wr=w1:=h5.symm)
   go_ret
   refine⟨?_,HG.out⟩;rw[HE.out]
   rfl
end Go.Proofs.YtbcbhlfjgobejaaGreat
