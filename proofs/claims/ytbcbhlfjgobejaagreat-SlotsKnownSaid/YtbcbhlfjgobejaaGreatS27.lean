/- starfishref02.Bytes: the walk. Conditions: none, or as the theorems say. -/
import Derived.Test.YtbcbhlfjgobejaaGreatS26
import Derived.Lib.AppendStr
import Derived.Deep.OwnRows
import Derived.Laws.OwnMore
import Derived.Test.YtbcbhlfjgobejaaGreatS17
set_option linter.unusedSimpArgs false
set_option linter.unusedVariables false
namespace Go.Proofs.YtbcbhlfjgobejaaGreat
set_option maxHeartbeats 200000000
open Go.RowKit Go.Sf
variable {d:Dk} {k:Int} {NL OL b l tail:List Int} {base g m n:Nat} {v v':Value} {W w w':World}
structure zb0 (W:World) (base g n m:Nat) (tail:List Int) (w:World):Prop where
 row:w.ownsRow base 5 1 (.slice (some ⟨g,0,none⟩) n n) n (List.replicate m (.int .u8 0)++zg tail)
 grown:W.grownBy w none
 le:W.heap.size≤g
theorem zb0.step (h:zb0 W base g n (m+1) tail w) (hn:m<n) (x:Int):zb0 W base g n m (x :: tail) (w.setCell ⟨g,m,none⟩ (.int .u8 x)):=by
 have hs:=zv w g m (.int .u8 x);refine⟨?_,⟨hs.os.trans h.grown.os,hs.tape.trans h.grown.tape,hs.output.trans h.grown.output,Nat.le_trans h.grown.size hs.size,λk hk _=>(hs.block k (Nat.lt_of_lt_of_le hk h.grown.size) (λe=>by cases e;have:=h.le;omega)).trans (h.grown.block k hk (by simp))⟩,h.le⟩
 have hr:=zl2 h.row m hn (.int .u8 x);have e1:List.replicate (m+1) (Value.int .u8 0)++zg tail=List.replicate m (Value.int .u8 0)++Value.int .u8 0 :: zg tail:=by
  rw[List.replicate_succ'];simp
 have e2:(List.replicate m (Value.int .u8 0)).length=m:=by simp
 rw[e1] at hr;have e3:=zl4 (List.replicate m (Value.int .u8 0)) (.int .u8 0) (zg tail) (.int .u8 x);rw[e2] at e3;rw[e3] at hr
 exact hr
theorem zb0.facts (h:zb0 W base g n (m+1) tail w) (hn:m<n):(∃u,w.cell? ⟨g,m,none⟩=some u)∧w.frozen? ⟨g,m,none⟩=false:=by
 rcases h.row.2 with ⟨e1,_⟩|⟨b,c,cur,e1,_,hb,r1,r2,r3,r4⟩
 ·cases e1
 ·cases e1
  refine⟨⟨cur[m]'(by omega),?_⟩,?_⟩
  ·simp[World.cell?,hb]
  ·simp[World.frozen?,hb]
theorem zhr (W:World) (k:Nat) (hk:k≤1000):zb0 W W.heap.size W.heap.size k k [] (W.alloc (.cells (madeCells #[.int .u8 0] k) 5)):=by
 have hl:=toList_madeCells_one (.int .u8 0) k;have hs:(madeCells #[Value.int .u8 0] k).size=k:=by rw[←Array.length_toList,hl];simp
 refine⟨⟨by simp[zg],.inr ⟨W.heap.size,k,madeCells #[.int .u8 0] k,rfl,Nat.le_refl _,heap_alloc_new W _,Nat.le_refl _,by unfold maxLen;omega,by rw[hs];omega,?_⟩⟩,ze W _ none,Nat.le_refl _⟩
 rw[hl];simp[zg]
set_option maxRecDepth 100000 in
theorem bytes02 (N k:Nat) (hk0:0<k) (hk:k≤8) (hN:N<256 ^ 8) (W:World) (kk:Int) (hkk:kk=k):Calls Tryz.prog 98 #[.int .u64 N,.int .i64 kk] W λe w'=>
  ∃v,e = .returned v∧zx w' v (be k N)∧W.grownBy w' none:=by
 subst hkk;have hmk:=run_make_row' (P:=Tryz.prog) 32 5 (.int .u8 0) 1 Tryz.underlying32 Yu rfl .i64 .i64 k (by omega) (by omega)
 have HS:Hid (zb0 W W.heap.size W.heap.size k k [] (W.alloc (.cells (madeCells #[.int .u8 0] k) 5))):=zhr W k (by omega)
 go_enter Tryz.func98,Tryz.ntmps98
 go_wp2
 go_loopw [0,6] (λnv i wr=>∃(m nc:Nat) (tail:List Int),m≤k∧nv = .int .u64 nc∧nc<256 ^ 8∧i = .int .i64 ((k:Int)-m+1)∧be k N=be m nc++tail∧tail.length+m=k∧zb0 W W.heap.size W.heap.size k m tail wr) (λ_ i _=>(k:Int).toNat+1-(intOf i).toNat)
 case atStart=>exact⟨k,N,[],Nat.le_refl _,rfl,hN,by congr 1;omega,by simp,by simp,HS.out⟩
 case round=>
  obtain⟨m,nc,tail,hm,rfl,hnc,rfl,hbe,htl,hp⟩:=hrel;have HP:=zd hp;clear hp
  cases m with
  | zero=>
   go_wp2
   go_ret
   have hbt:be k N=tail:=by simpa[be] using hbe
   refine⟨_,rfl,?_,HP.out.grown⟩;have hr:=HP.out.row;rw[hbt];have hl:tail.length=k:=by omega
   refine vw (base:=W.heap.size) ?_;rw[hl];simpa using hr
  | succ m=>
   obtain⟨⟨u,c0⟩,f0⟩:=HP.out.facts (by omega)
   have he:k-(k-(m+1)+1)=m:=by omega
   have hlt:m<k:=by omega
   go_wp2;refine⟨⟨m,nc / 256,((nc%256:Nat):Int) :: tail,by omega,by simp,Nat.lt_of_le_of_lt (Nat.div_le_self _ _) hnc,by congr 1;omega,by rw[hbe,Jd];simp,by simp only[List.length_cons];omega,?_⟩,by simp[intOf];omega⟩
   have hnm:((nc%256:Nat):Int)=(nc:Int)%256:=rfl;rw[hnm]
   exact HP.out.step hlt _
structure BSt (W:World) (v:Value) (l:List Int) (w:World):Prop where
 row:w.ownsRow W.heap.size 5 1 v l.length (zg l)
 grown:W.grownBy w none
theorem BSt.grow (h:BSt W v l w) (hg:w.grownBy w' none):BSt W v l w':=
 ⟨h.row.kept hg (by
  rcases h:v.ownBlock with _|k
  ·exact Or.inl rfl
  ·exact Or.inr (by simp)),zh h.grown hg⟩
theorem BSt.app {m:List Int} (h:BSt W v l w) (ho:w'.ownsRow W.heap.size 5 1 v' (l.length+m.length) (zg l++zg m)) (hg:w.grownBy w' v.ownBlock):BSt W v' (l++m) w':=
 ⟨by rw[List.length_append,←zdd];exact ho,zbk h.grown h.row (Nat.le_refl _) hg⟩
theorem BSt.start (W:World) (x:Int):BSt W (.slice (some ⟨W.heap.size,0,none⟩) 1 1) [x] (W.alloc (.cells #[.int .u8 x] 5)):=
 ⟨⟨rfl,.inr ⟨W.heap.size,1,#[.int .u8 x],rfl,Nat.le_refl _,heap_alloc_new W _,Nat.le_refl _,by unfold maxLen;omega,rfl,rfl⟩⟩,ze W _ none⟩
theorem zly (w:World) (x:Int):zx (w.alloc (.cells #[.int .u8 x] 5)) (.slice (some ⟨w.heap.size,0,none⟩) 1 1) [x]:=
 ⟨_,_,rfl,Or.inr ⟨_,rfl,cell_one_new w (.int .u8 x) _⟩⟩
theorem zjn (s:ByteArray):Lib.strCells s=zg (yz s):=by
 simp[Lib.strCells,zg,yz,List.map_map]
 try rfl
theorem BSt.appS (h:BSt W v l w) (s:ByteArray) (ho:w'.ownsRow W.heap.size 5 1 v' (l.length+s.size) (zg l++Lib.strCells s)) (hg:w.grownBy w' v.ownBlock):BSt W v' (l++yz s) w':=
 h.app (by rw[zjn,←yt] at ho;exact ho) hg
theorem Uw (x:Int) (k:Nat) (hk0:0<k) (hk:k≤8) (h0:0≤x) (h1:x<9223372036854775808) (W:World) (kk:Int) (hkk:kk=k):Calls Tryz.prog 98 #[.int .u64 (x%18446744073709551616),.int .i64 kk] W λe w'=>
  ∃v,e = .returned v∧zx w' v (be k x.toNat)∧W.grownBy w' none:=by
 have hx:(x.toNat:Int)=x%18446744073709551616:=by omega
 have h:=bytes02 x.toNat k hk0 hk (by omega) W kk hkk
 rw[hx] at h
 exact h
@[go_sem] theorem u32_geq31 (t:TypeId) (x:BitVec 32):binOp .geq t (vr x) (.int .u32 2147483648)=pure (.bool x.msb):=by
 unfold vr;rw[binOp_geq]
 congr 2
 rw[BitVec.msb_eq_decide];have e:((x.toNat:Int)≥2147483648)=(2 ^ (32-1)≤x.toNat):=by
  apply propext
  omega
 simp only[e]
@[go_sem] theorem u32_mul2 (t:TypeId) (x:BitVec 32):binOp .mul t (vr x) (.int .u32 2)=pure (vr (x <<< 1)):=by
 unfold vr;rw[binOp_mul];have h:Op.intArith .mul .u32 (x.toNat:Int) 2=pure (.int .u32 (IntKind.u32.wrap ((x.toNat:Int)*2))):=rfl;rw[h,BitVec.toNat_shiftLeft,Nat.shiftLeft_eq,IntKind.wrap_u32];simp
@[go_sem] theorem u32_addc (t:TypeId) (x:BitVec 32) (n:Int):binOp .add t (vr x) (.int .u32 n)=pure (vr (x+BitVec.ofInt 32 n)):=by
 unfold vr;rw[binOp_add];have h:Op.intArith .add .u32 (x.toNat:Int) n=pure (.int .u32 (IntKind.u32.wrap ((x.toNat:Int)+n))):=rfl;rw[h,BitVec.toNat_add,IntKind.wrap_u32,BitVec.toNat_ofInt]
 congr 2
 omega
@[go_sem] theorem u8_shr (t:TypeId) (x:BitVec 8) (yk:IntKind) (n:Int) (h:0≤n) (h2:n<8):binOp .shr t (u8V x) (.int yk n)=pure (u8V (x >>> n.toNat)):=by
 unfold u8V;rw[binOp_shr,shift_shr_any _ _ _ _ h];have e:min n.toNat IntKind.u8.bits=n.toNat:=by simp[IntKind.bits];omega
 rw[e,BitVec.toNat_ushiftRight,Nat.shiftRight_eq_div_pow];simp
@[go_sem] theorem u8_and (t:TypeId) (x:BitVec 8) (n:Int):binOp .and t (u8V x) (.int .u8 n)=pure (u8V (x &&& BitVec.ofInt 8 n)):=by
 unfold u8V;rw[binOp_and];have h:Op.intBits .and .u8 (x.toNat:Int) n=pure (.int .u8 (IntKind.u8.wrap ((BitVec.ofInt 8 (x.toNat:Int) &&& BitVec.ofInt 8 n).toNat:Int))):=rfl;have e:BitVec.ofInt 8 (x.toNat:Int)=x:=by simp
 rw[h,e,IntKind.wrap_u8];have:=(x &&& BitVec.ofInt 8 n).isLt
 congr 2
 omega
@[go_sem] theorem u8_eql (t:TypeId) (x:BitVec 8) (n:Int) (h:0≤n) (h2:n<256):binOp .eql t (u8V x) (.int .u8 n)=pure (.bool (x == BitVec.ofInt 8 n)):=by
 unfold u8V;rw[binOp_eql]
 congr 2
 rw[Bool.eq_iff_iff,beq_iff_eq,beq_iff_eq]
 constructor
 ·intro h;rw[←h];simp
 ·rintro rfl
  rw[BitVec.toNat_ofInt];omega
@[go_sem] theorem u8_guard (t:TypeId) (x y:Operand) (a:BitVec 8) (n:Int):eqGuard .eql t x y (u8V a) (.int .u8 n)=pure ():=rfl
def Uu (v:BitVec 32) (c:BitVec 8):Nat→BitVec 32
 | 0=>v
 | k+1=>Zu (Uu v c k) (c.getLsbD k)
theorem bitsK_8 (v:BitVec 32) (c:BitVec 8):Uu v c 8=zcc v c.reverse:=by rw[zmn];rfl
def Jo (v:BitVec 32):Nat→BitVec 32
 | 0=>0#32
 | k+1=>if v.getLsbD (31-k)=true then Jo v k else Jo v k+1#32 <<< k
theorem zio (v:BitVec 32):∀k,k≤32→∀j,j<32→(Jo v k).getLsbD j=(decide (j<k) && !v.getLsbD (31-j))
 | 0,_,j,_=>by simp[Jo]
 | k+1,hk,j,hj=>by
  have ih:=zio v k (by omega)
  unfold Jo
  by_cases hb:v.getLsbD (31-k)=true
  ·rw[if_pos hb,ih j hj]
   by_cases e:j=k
   ·subst e;simp[hb]
   ·have:decide (j<k+1)=decide (j<k):=by simp;omega
    rw[this]
  ·rw[if_neg hb]
   have hz:Jo v k &&& 1#32 <<< k=0#32:=by
    apply BitVec.eq_of_getLsbD_eq
    intro i hi;rw[BitVec.getLsbD_and,ih i hi,BitVec.getLsbD_shiftLeft,BitVec.getLsbD_one]
    by_cases e:i<k
    ·simp[e]
    ·have:decide (i<k)=false:=by simp;omega
     simp[this]
   rw[BitVec.add_eq_or_of_and_eq_zero _ _ hz,BitVec.getLsbD_or,ih j hj,BitVec.getLsbD_shiftLeft,BitVec.getLsbD_one]
   by_cases e:j=k
   ·subst e;simp[hb,hj]
   ·have:decide (j<k+1)=decide (j<k):=by simp;omega
    rw[this]
    by_cases e2:j<k
    ·simp[e2]
    ·have:(j-k=0)=False:=by simp;omega
     simp[e2,this]
theorem zne (x:BitVec 32) (j:Nat) (hj:j<32):(zf2 x).getLsbD j=x.getLsbD (31-j):=by
 unfold zf2;simp only[BitVec.getLsbD_or,BitVec.getLsbD_and,BitVec.getLsbD_ushiftRight,BitVec.getLsbD_shiftLeft]
 rcases(show j=0∨j=1∨j=2∨j=3∨j=4∨j=5∨j=6∨j=7∨j=8∨j=9∨j=10∨j=11∨j=12∨j=13∨j=14∨j=15∨j=16∨j=17∨j=18∨j=19∨j=20∨j=21∨j=22∨j=23∨j=24∨j=25∨j=26∨j=27∨j=28∨j=29∨j=30∨j=31 by omega) with rfl|rfl|rfl|rfl|rfl|rfl|rfl|rfl|rfl|rfl|rfl|rfl|rfl|rfl|rfl|rfl|rfl|rfl|rfl|rfl|rfl|rfl|rfl|rfl|rfl|rfl|rfl|rfl|rfl|rfl|rfl|rfl
 all_goals simp
theorem zpo (v:BitVec 32):Jo v 32=zf2 (~~~ v):=by
 apply BitVec.eq_of_getLsbD_eq
 intro j hj;have h31:31-j<32:=by omega
 rw[zio v 32 (by omega) j hj,zne _ j hj,BitVec.getLsbD_not]
 simp[hj,h31]
theorem crcD_of:BitVec.ofInt 32 517762881=Uq:=by decide
theorem bit8_of (c:BitVec 8) (k:Nat) (hk:k<8):(c >>> k &&& 1#8 == 1#8)=c.getLsbD k:=by
 rw[Bool.eq_iff_iff,beq_iff_eq]
 constructor
 ·intro h
  have:=congrArg (λz=>BitVec.getLsbD z 0) h
  simpa using this
 ·intro h
  apply BitVec.eq_of_getLsbD_eq
  intro i hi;rw[BitVec.getLsbD_and,BitVec.getLsbD_ushiftRight,BitVec.getLsbD_one]
  rcases Nat.eq_zero_or_pos i with rfl|h0
  ·simp[h]
  ·have:(i=0)=False:=by simp;omega
   simp[this]
theorem zog (v:BitVec 32) (k:Nat) (hk:k<32):(v >>> k &&& 1#32 == 0#32) = !v.getLsbD k:=by
 rw[Bool.eq_iff_iff,beq_iff_eq,Bool.not_eq_true']
 constructor
 ·intro h
  have:=congrArg (λz=>BitVec.getLsbD z 0) h
  simpa using this
 ·intro h
  apply BitVec.eq_of_getLsbD_eq
  intro i hi;rw[BitVec.getLsbD_and,BitVec.getLsbD_ushiftRight,BitVec.getLsbD_one]
  rcases Nat.eq_zero_or_pos i with rfl|h0
  ·simp[h]
  ·have:(i=0)=False:=by simp;omega
   simp[this]
@[go_sem] theorem u32_shr31 (t:TypeId) (x:BitVec 32) (yk:IntKind) (m:Nat) (h:m<32):binOp .shr t (vr x) (.int yk (31-(m:Int)))=pure (vr (x >>> (31-m))):=by
 rw[u32_shr _ _ _ _ (by omega) (by omega)]
 congr 3
 omega
theorem shl_of (i:Nat) (hi:i<32):BitVec.ofInt 32 (2 ^ i%4294967296)=1#32 <<< i:=by
 have:∀i:Fin 32,BitVec.ofInt 32 (2 ^ i.val%4294967296)=1#32 <<< i.val:=by decide
 exact this ⟨i,hi⟩
set_option maxRecDepth 100000 in
theorem zp0 (h:zx W v l) (hb:BL l) (hl:l.length≤1000000) :
  Calls Tryz.prog 99 #[v] W λe w'=>e = .returned (.int .u32 (zo l))∧w'=W:=by
 obtain⟨p,cap,rfl,hc⟩:=h.ex;have HC:=zd hc;have HB:=zd hb;obtain⟨n,hn⟩:∃n,n=l.length:=⟨_,rfl⟩;rw[←hn];have HN:=zd hn;rw[←hn] at hl;clear h hb hn hc
 go_enter Tryz.func99,Tryz.ntmps99
 go_wp2
 go_loopw [3,4] (λr i wr=>W=wr∧∃k:Nat,k≤n∧r=vr (Vi (l.take k))∧i = .int .i64 k) (λ_ i _=>n-(intOf i).toNat)
 case atStart=>exact⟨rfl,0,by omega,rfl,rfl⟩
 case round=>
  obtain⟨rfl,k,hk,rfl,rfl⟩:=hrel
  by_cases hkn:k<n
  ·have hkl:k<l.length:=by rw[←HN.out];exact hkn
   have hcell:∃a,p=some a∧W.cell? (a.add k)=some (u8V (BitVec.ofInt 8 l[k])):=by
    rcases HC.out with h0|⟨a,rfl,h1⟩
    ·rw[h0] at hkl;simp at hkl
    ·refine⟨a,rfl,h1 k _ ?_⟩
     have hbk:=HB.out l[k] (List.getElem_mem _);rw[zg,List.getElem?_map,List.getElem?_eq_getElem hkl,Option.map_some,zqc hbk.1 hbk.2]
   obtain⟨a,rfl,cell⟩:=hcell;have HS:Hid (Vi (l.take (k+1))=Uu (Vi (l.take k)) (BitVec.ofInt 8 l[k]) 8):=(show _=_ from by rw[List.take_succ_eq_append_getElem hkl,zf1,bitsK_8])
   generalize BitVec.ofInt 8 l[k]=c at *;go_wp2
   go_loopw [3,5] (λr j wr=>W=wr∧∃m:Nat,m≤8∧r=vr (Uu (Vi (l.take k)) c m)∧j = .int .i64 m) (λ_ j _=>8-(intOf j).toNat)
   case atStart=>exact⟨rfl,0,by omega,rfl,rfl⟩
   case round=>
    obtain⟨rfl,m,hm,rfl,rfl⟩:=hrel
    by_cases hm8:m<8
    ·have hbit:=bit8_of c m hm8
     have HM:Hid (Uu (Vi (l.take k)) c (m+1)=Zu (Uu (Vi (l.take k)) c m) (c.getLsbD m)):=(show _=_ from rfl)
     have hcd:=crcD_of;generalize hu:Uu (Vi (l.take k)) c m=u at *;generalize c.getLsbD m=q at *
     cases hmb:u.msb <;> cases q
     ·have HM2:Hid (Uu (Vi (l.take k)) c (m+1)=u <<< 1):=(show _=_ from by rw[HM.out];unfold Zu;rw[hmb];simp)
      clear HM hu;go_wp2;refine⟨⟨trivial,m+1,by omega,by rw[HM2.out];try rfl,rfl⟩,by simp[intOf];omega⟩
     ·have HM2:Hid (Uu (Vi (l.take k)) c (m+1)=u <<< 1 ^^^ Uq):=(show _=_ from by rw[HM.out];unfold Zu;rw[hmb];simp)
      clear HM hu;go_wp2;refine⟨⟨trivial,m+1,by omega,by rw[HM2.out];try rfl,rfl⟩,by simp[intOf];omega⟩
     ·have HM2:Hid (Uu (Vi (l.take k)) c (m+1)=u <<< 1 ^^^ Uq):=(show _=_ from by rw[HM.out];unfold Zu;rw[hmb];simp)
      clear HM hu;go_wp2;refine⟨⟨trivial,m+1,by omega,by rw[HM2.out];try rfl,rfl⟩,by simp[intOf];omega⟩
     ·have HM2:Hid (Uu (Vi (l.take k)) c (m+1)=u <<< 1):=(show _=_ from by rw[HM.out];unfold Zu;rw[hmb];simp)
      clear HM hu;go_wp2;refine⟨⟨trivial,m+1,by omega,by rw[HM2.out];try rfl,rfl⟩,by simp[intOf];omega⟩
    ·obtain rfl:m=8:=by omega
     go_wp2;refine⟨⟨trivial,k+1,by omega,by rw[HS.out],rfl⟩,by simp[intOf];omega⟩
  ·obtain rfl:k=n:=by omega
   have HE:Hid (l.take k=l):=(show _=_ from List.take_of_length_le (by rw[←HN.out];exact Nat.le_refl _))
   have HO:Hid (zo l=(Jo (Vi l) 32).toNat):=(show _=_ from by rw[zpo];rfl)
   rw[HE.out];generalize Vi l=v at *;go_wp2
   go_loopw [7,8] (λr j wr=>W=wr∧∃m:Nat,m≤32∧r=vr (Jo v m)∧j = .int .i64 m) (λ_ j _=>32-(intOf j).toNat)
   case atStart=>exact⟨rfl,0,by omega,rfl,rfl⟩
   case round=>
    obtain⟨rfl,m,hm,rfl,rfl⟩:=hrel
    by_cases hm8:m<32
    ·have hbit:=zog v (31-m) (by omega)
     have HM:Hid (Jo v (m+1)=if v.getLsbD (31-m)=true then Jo v m else Jo v m+1#32 <<< m):=(show _=_ from rfl)
     have hsh:=zd (shl_of m hm8);generalize hu:Jo v m=u at *;generalize v.getLsbD (31-m)=q at *
     cases q
     ·have HM2:Hid (Jo v (m+1)=u+1#32 <<< m):=(show _=_ from by rw[HM.out];simp)
      clear HM hu;simp only[Bool.not_false] at hbit;go_wp2;refine⟨⟨trivial,m+1,by omega,by rw[HM2.out,←hsh.out],rfl⟩,by simp[intOf];omega⟩
     ·have HM2:Hid (Jo v (m+1)=u):=(show _=_ from by rw[HM.out];simp)
      clear HM hu;simp only[Bool.not_true] at hbit;go_wp2;refine⟨⟨trivial,m+1,by omega,by rw[HM2.out],rfl⟩,by simp[intOf];omega⟩
    ·obtain rfl:m=32:=by omega
     go_wp2
     go_ret
     exact⟨by rw[HO.out];rfl,rfl⟩
theorem BSt.form (h:BSt W v l w):∃p c,v = .slice p l.length c:=by
 rcases h.row.2 with ⟨rfl,h0⟩|⟨g,c,cur,rfl,_⟩
 ·exact⟨none,0,by rw[h0]⟩
 ·exact⟨_,_,rfl⟩
def lenV:Value→Nat
 | .slice _ n _=>n
 | _=>0
theorem hd_told (k index count:Nat) (s:ByteArray) (hs:s.size≤230):[80]++be 8 (k:Int).toNat++be 2 (index:Int).toNat++be 2 (count:Int).toNat ++ [(s.size:Int)]++yz s=hdP ⟨k,index,count,yz s⟩:=by
 have e:be 1 (yz s).length = [(s.size:Int)]:=by
  rw[yt,Jd];have h0:be 0 (s.size / 256) = []:=rfl;have h1:s.size%256=s.size:=by omega
  rw[h0,h1]
  rfl
 unfold hdP;rw[e];simp
theorem hd_fill {p:Prt} (h:p.b.length≤230) {j:Nat} (hj:(hdP p++List.replicate j 0).length=244):hdP p++List.replicate j 0=uv p:=by
 unfold uv;rw[List.length_append,List.length_replicate] at hj
 congr 2
 omega
theorem zoh {p:Prt} (hb:BL p.b):BL (uv p):=λb h=>Qn (C:=λ_=>0) hb b (by unfold xe;simp[h])
set_option maxRecDepth 100000 in
theorem Xn (k index count:Nat) (s:ByteArray) (hk:k<9223372036854775808) (hi:index<65536) (hc:count<65536) (hs:s.size≤230) (W:World) :
  Calls Tryz.prog 23 #[.int .i64 k,.int .i64 index,.int .i64 count,.string s] W λe w'=>e = .returned (.string (ofB (xe zo ⟨k,index,count,yz s⟩)))∧W.grownBy w' none:=by
 have HF:Hid (k<9223372036854775808∧index<65536∧count<65536∧s.size≤230):=(show _∧_ from ⟨hk,hi,hc,hs⟩)
 have hks:((s.size:Int)%256)=(s.size:Int):=by omega
 clear hk hi hc hs;obtain⟨i0,hi,hz0,hz1,hz2⟩:=info_parts Yu;have P0:=zd (BSt.start W 80)
 go_enter Tryz.func23,Tryz.ntmps23
 go_upto_region 3 with (first
  | (go_at_call 98;have K:=P0.out;refine(Uw _ 8 (by omega) (by omega) (by have:=HF.out;omega) (by have:=HF.out;omega) _ 8 rfl).mono ?_;rintro e w1 ⟨y,rfl,hy,hg⟩;have Q0:=zd (BSt.grow K hg);clear K P0;have Y:=zd hy;clear hy hg;simp only[])
  | (at_builtin;have K:=Q0.out;refine qc _ rfl _ _ 32 5 rfl i0 Tryz.underlying32 hi hz0 hz1 hz2 _ _ _ _ rfl K.row _ _ rfl Y.out (by have:=HF.out;simp[vc,yt] <;> omega) (by have:=K.grown.size;omega) ?_;intro v' w2 ho hg hat;have P1:=zd (BSt.app K ho hg);clear K Q0 Y ho hg hat))
 go_upto_region 4 with (first
  | (go_at_call 98;have K:=P1.out;refine(Uw _ 2 (by omega) (by omega) (by have:=HF.out;omega) (by have:=HF.out;omega) _ 2 rfl).mono ?_;rintro e w1 ⟨y,rfl,hy,hg⟩;have Q1:=zd (BSt.grow K hg);clear K P1;have Y:=zd hy;clear hy hg;simp only[])
  | (at_builtin;have K:=Q1.out;refine qc _ rfl _ _ 32 5 rfl i0 Tryz.underlying32 hi hz0 hz1 hz2 _ _ _ _ rfl K.row _ _ rfl Y.out (by have:=HF.out;simp[vc,yt] <;> omega) (by have:=K.grown.size;omega) ?_;intro v' w2 ho hg hat;have P2:=zd (BSt.app K ho hg);clear K Q1 Y ho hg hat))
 go_upto_region 5 with (first
  | (go_at_call 98;have K:=P2.out;refine(Uw _ 2 (by omega) (by omega) (by have:=HF.out;omega) (by have:=HF.out;omega) _ 2 rfl).mono ?_;rintro e w1 ⟨y,rfl,hy,hg⟩;have Q2:=zd (BSt.grow K hg);clear K P2;have Y:=zd hy;clear hy hg;simp only[])
  | (at_builtin;have K:=Q2.out;refine qc _ rfl _ _ 32 5 rfl i0 Tryz.underlying32 hi hz0 hz1 hz2 _ _ _ _ rfl K.row _ _ rfl Y.out (by have:=HF.out;simp[vc,yt] <;> omega) (by have:=K.grown.size;omega) ?_;intro v' w2 ho hg hat;have P3:=zd (BSt.app K ho hg);clear K Q2 Y ho hg hat))
 go_upto_region 6 with (at_builtin;have K:=BSt.grow P3.out (ze _ (.cells #[.int .u8 (s.size:Int)] 5) none);refine qc _ rfl _ _ 32 5 rfl i0 Tryz.underlying32 hi hz0 hz1 hz2 _ _ _ _ rfl K.row _ _ rfl (zly _ _) (by have:=HF.out;simp[vc,yt] <;> omega) (by have:=K.grown.size;omega) ?_;intro v' w2 ho hg hat;have P4:=zd (BSt.app K ho hg);clear K P3 ho hg hat)
 go_upto_region 7 with (at_builtin;have K:=P4.out;refine Lib.wpList_append_own_string _ rfl _ _ 32 9 rfl _ 5 i0 Tryz.underlying32 Tryz.underlying9 hi hz0 hz1 hz2 _ _ _ rfl K.row _ rfl (by have:=HF.out;unfold maxLen;simp[vc,yt] <;> omega) (by have:=HF.out;simp[vc,yt] <;> omega) (by have:=K.grown.size;omega) ?_;intro v' w2 ho hg hat;have P5:=zd (BSt.appS K s ho hg);clear K P4 ho hg hat)
 have P6:=P5.out;rw[hd_told k index count s HF.out.2.2.2] at P6;have HP6:=zd P6;have HL:Hid ((hdP ⟨k,index,count,yz s⟩).length=14+s.size∧s.size≤230):=(show _∧_ from ⟨by rw[Ua,yt],HF.out.2.2.2⟩)
 have HFI:Hid (∀j,(hdP ⟨k,index,count,yz s⟩++List.replicate j 0).length=244→hdP ⟨k,index,count,yz s⟩++List.replicate j 0=uv ⟨k,index,count,yz s⟩):=(λj hj=>hd_fill (p:=⟨k,index,count,yz s⟩) (by show(yz s).length≤230;rw[yt];exact HF.out.2.2.2) hj)
 have HBL:Hid (BL (uv ⟨k,index,count,yz s⟩)):=(show BL _ from zoh (zc5 s))
 have HBN:Hid ((uv ⟨k,index,count,yz s⟩).length=244):=(show _=_ from zbh (by show(yz s).length≤230;rw[yt];exact HF.out.2.2.2))
 have HE:Hid (xe zo ⟨k,index,count,yz s⟩=uv ⟨k,index,count,yz s⟩++be 4 (zo (uv ⟨k,index,count,yz s⟩))++be 8 (k:Int).toNat):=(show _=_ from rfl)
 clear P5 P6 hks;generalize hdP ⟨k,index,count,yz s⟩=hd at *;generalize uv ⟨k,index,count,yz s⟩=bd at *
 go_loopw [9] (λv wr=>∃j:Nat,(hd++List.replicate j 0).length≤244∧BSt W v (hd++List.replicate j 0) wr) (λv _=>244-lenV v)
 case atStart=>exact⟨0,by have:=HL.out;simp;omega,by simpa using HP6.out⟩
 case round=>
  obtain⟨j,hj,hst⟩:=hrel;clear HP6;obtain⟨p,c,rfl⟩:=hst.form;have R0:=zd hst;clear hst
  by_cases hlt:(hd++List.replicate j 0).length<244
  ·obtain⟨n,hn⟩:∃n,n=(hd++List.replicate j 0).length:=⟨_,rfl⟩
   have HN:=zd hn;have hnl:n<244:=by omega
   rw[←hn];clear hn hj hlt
   go_wp2_with (at_builtin;have K:=BSt.grow R0.out (ze _ (.cells #[.int .u8 0] 5) none);refine qc _ rfl _ _ 32 5 rfl i0 Tryz.underlying32 hi hz0 hz1 hz2 _ _ _ _ (by rw[HN.out];rfl) K.row _ _ rfl (zly _ _) (by have:=HN.out;simp only[List.length_cons,List.length_nil];omega) (by have:=K.grown.size;omega) ?_;intro v' w2 ho hg hat;have R1:=zd (BSt.app K ho hg);clear K R0 ho hg hat)
   have hrep:hd++List.replicate (j+1) 0=hd++List.replicate j 0 ++ [0]:=by rw[List.replicate_succ',List.append_assoc]
   obtain⟨p',c',rfl⟩:=R1.out.form;refine⟨⟨j+1,by rw[hrep,List.length_append,←HN.out];simp;omega,by rw[hrep];exact R1.out⟩,?_⟩
   show 244-(hd++List.replicate j 0 ++ [0]).length<244-n
   rw[List.length_append,←HN.out];simp;omega
  ·have hfi:=HFI.out j (by omega)
   have hst:=R0.out;rw[hfi] at hst;rw[hfi,HBN.out];have R2:=zd hst;have HSU:=zd (zp0 (vw hst.row) HBL.out (by rw[HBN.out];omega))
   have HCL:=zd (zle bd);clear R0 HFI hfi hst hj hlt HL
   go_upto_region 10 with (first
    | (go_at_call 99;have HS2:=HSU.out;rw[HBN.out] at HS2;refine HS2.mono ?_;clear HS2;rintro e w3 ⟨rfl,h5⟩;obtain rfl:wr=w3:=h5.symm)
    | (go_at_call 98;have K:=R2.out;refine(Uw _ 4 (by omega) (by omega) (by have:=HCL.out;omega) (by have:=HCL.out;omega) _ 4 rfl).mono ?_;rintro e w1 ⟨y,rfl,hy,hg⟩;have R3:=zd (BSt.grow K hg);clear K R2;have Y:=zd hy;clear hy hg;simp only[])
    | (at_builtin;have K:=R3.out;refine qc _ rfl _ _ 32 5 rfl i0 Tryz.underlying32 hi hz0 hz1 hz2 _ _ _ _ (by rw[HBN.out];rfl) K.row _ _ rfl Y.out (by have:=HBN.out;simp[vc] <;> omega) (by have:=K.grown.size;omega) ?_;intro v' w2 ho hg hat;have R4:=zd (BSt.app K ho hg);clear K R3 Y ho hg hat))
   go_wp2_with (first
    | (go_at_call 98;have K:=R4.out;refine(Uw _ 8 (by omega) (by omega) (by have:=HF.out;omega) (by have:=HF.out;omega) _ 8 rfl).mono ?_;rintro e w1 ⟨y,rfl,hy,hg⟩;have R5:=zd (BSt.grow K hg);clear K R4;have Y:=zd hy;clear hy hg;simp only[])
    | (at_builtin;have K:=R5.out;refine qc _ rfl _ _ 32 5 rfl i0 Tryz.underlying32 hi hz0 hz1 hz2 _ _ _ _ rfl K.row _ _ rfl Y.out (by have:=HBN.out;simp[vc] <;> omega) (by have:=K.grown.size;omega) ?_;intro v' w2 ho hg hat;have R6:=zd (BSt.app K ho hg);clear K R5 Y ho hg hat))
   have hcv:=uh (vw R6.out.row);rw[hcv];simp only[Result.andThen];rw[Oper.upon_value];go_wp2
   go_ret
   refine⟨?_,R6.out.grown⟩;rw[HE.out];simp
open Go.Sf
theorem Qs (h:n≤230):zk n=1:=by unfold zk;omega
theorem zfb (h:b.length≤230):xy b 0=b:=by
 unfold xy;rw[Nat.zero_mul,List.drop_zero,List.take_of_length_le h]
theorem zg0 (h1:1≤k) (h2:k≤4611686018427387904) (h:b.length≤230):Up ⟨k,0,1,b⟩:=by
 have:=Vn h1 h2 (b:=b) (by omega) (j:=0) (by rw[Qs h];omega)
 rw[Qs h,zfb h] at this
 exact this
theorem zh3 {C:List Int→Nat} (h1:1≤k) (h2:k≤4611686018427387904) (h:b.length≤230) {f:Nat→List Int} (hf:f 0=xe C ⟨k,0,1,b⟩):uw C f 1 [(k,b)] (λq=>if q=k then [0] else []) (k+1):=by
 have g0:=(zdm (C:=C) (f:=λ_=>zr) 1 (λi _=>rfl)).up h1
 have hi0:∀i,i<1→i=0:=λi hi=>by omega
 have hg:∀(j i:Nat),([0]:List Nat)[j]? = some i→j=0∧i=0:=λj i hj=>by
  cases j with
  | zero=>simpa using hj.symm
  | succ j=>simp at hj
 rcases g0.put h2 (b:=b) (by omega) (fr:=[0]) (by rw[Qs h];rfl) (by simp) (by simp) (by simp) (f':=f) (λi hi hn=>absurd (by simp;omega) hn) (λj i hj=>by
  obtain⟨rfl,rfl⟩:=hg j i hj;rw[Qs h,zfb h]
  exact Or.inr (Or.inr hf)) with g|⟨-,g⟩
 ·have hs:saidP C (f 0)=some ⟨k,0,1,b⟩:=by rw[hf];exact Xo (zg0 h1 h2 h)
  obtain⟨j,hj,hno⟩:=g.part 0 (by omega) _ hs (by simp) 1 (Nat.le_refl _)
  obtain rfl:j=0:=by omega
  exact absurd hs (hno 0 (by omega) b)
 ·exact g
theorem zc3 {ks:List zt} (hk:jc d ks) {f:Nat→List Int} {all:List (Int × List Int)} {blk:Int→List Nat} {next:Int} (g:uw zo f d.n all blk next) (hs:∀i,i<d.n→saidP zo (bk d.now i)=saidP zo (f i)):(openS d ks).recs=all.map λq=>(q.1,(q.2,blk q.1)):=by
 have e:=Qx (C:=zo) (N:=d.n) (f:=f) (g:=bk d.now) hs d.n (Nat.le_refl _);have hk1:=hk.1;rw[e] at hk1;unfold openS;rw[Yy,e]
 exact zml g hk1 hk.2
theorem zn4 (hn:d.n=1) {la lb:List Int} (hla:la.length≤230) (hlb:lb.length≤230) (cut:Nat) (hx:bk d.now 0=vq cut (xe zo ⟨8,0,1,lb⟩) (xe zo ⟨7,0,1,la⟩)) {ks:List zt} (hk:jc d ks) :
  (openS d ks).recs = []∨(∃bl,(openS d ks).recs = [(7,(la,bl))])∨(∃bl,(openS d ks).recs = [(8,(lb,bl))]∧vq cut (xe zo ⟨8,0,1,lb⟩) (xe zo ⟨7,0,1,la⟩)=xe zo ⟨8,0,1,lb⟩):=by
 have m7:=zg0 (k:=7) (by omega) (by omega) hla
 have m8:=zg0 (k:=8) (by omega) (by omega) hlb
 have hs:∀i,i<d.n→saidP zo (bk d.now i)=saidP zo ((λ_=>scrub zo (bk d.now 0)) i):=λi hi=>by
  obtain rfl:i=0:=by omega
  exact(Jp _).symm
 rcases zgb (C:=zo) (old:=xe zo ⟨7,0,1,la⟩) (Or.inr ⟨_,Xo m7⟩) m8 (λp hp=>by
  rw[Xo m7] at hp
  cases hp
  show(7:Int)≠8
  decide) cut with e|e|e
 ·right;left
  refine⟨_,(zc3 hk (all:=[(7,la)]) (blk:=λq=>if q=7 then [0] else []) (by
   rw[hn]
   exact zh3 (by omega) (by omega) hla (f:=λ_=>scrub zo (bk d.now 0)) (by show scrub zo (bk d.now 0)=_;rw[hx];exact e)) hs).trans rfl⟩
 ·left
  exact zc3 hk (all:=[]) (blk:=λ_=>[]) (zdm d.n (f:=λ_=>scrub zo (bk d.now 0)) (λi _=>by show scrub zo (bk d.now 0)=_;rw[hx];exact e)) hs
 ·right;right
  refine⟨_,(zc3 hk (all:=[(8,lb)]) (blk:=λq=>if q=8 then [0] else []) (by
   rw[hn]
   exact zh3 (by omega) (by omega) hlb (f:=λ_=>scrub zo (bk d.now 0)) (by show scrub zo (bk d.now 0)=_;rw[hx];exact e)) hs).trans rfl,?_⟩
  have h1:=Jp (C:=zo) (vq cut (xe zo ⟨8,0,1,lb⟩) (xe zo ⟨7,0,1,la⟩));rw[e,Xo m8] at h1
  exact(yr h1.symm).2.symm
theorem xd.opn (h:xd d):∀n,n≤d.n→(opnD d n).2.1=0∧xd (opnD d n).1∧(opnD d n).1.n=d.n
 | 0,_=>⟨rfl,h,rfl⟩
 | n+1,hn=>by
  obtain⟨h1,h2,h3⟩:=xd.opn h n (by omega)
  by_cases hc:(saidP zo (bk d.now n)).isSome=true∨bk d.now n=zr
  ·rw[Za h1 hc]
   exact⟨h1,h2,h3⟩
  ·have hc1:(saidP zo (bk d.now n)).isSome=false:=by
    cases e:(saidP zo (bk d.now n)).isSome
    ·rfl
    ·exact absurd (Or.inl e) hc
   rw[Ub h1 hc1 (λe=>hc (Or.inr e))]
   obtain⟨e1,e2,e3,-⟩:=h2.wrote (i:=n) (b:=[]) (by omega) (by simp)
   exact⟨e1,e2,e3.trans h3⟩
theorem xd.opened (h:xd d):d.opened.2=0:=by
 obtain⟨h1,h2,h3⟩:=xd.opn h d.n (Nat.le_refl _);unfold Dk.opened;rw[if_neg (by simp[h1])]
 split
 ·exact h2.sync.1
 ·rfl
theorem zik {db:Nat} (hg:W.grownBy w none) (hd:vk (λk=>k<W.heap.size) w db d) (hs:xd d) (hl:d.late.length+d.n<1000000) :
  Calls Tryz.prog 18 #[.pointer (some ⟨db,0,none⟩)] w λe w'=>∃st ks,e = .returned (.tuple #[.pointer (some ⟨st,0,none⟩),.int .i64 0])∧jc d ks∧Zp W st (openS d ks) w':=by
 refine(zl5 hd hs.1 hl).mono ?_;rintro e w' ⟨ht,hp⟩
 rcases hp with ⟨h1,_⟩|⟨_,st,ks,rfl,hk,hss⟩
 ·exact absurd hs.opened h1
 ·exact⟨st,ks,rfl,hk,_,db,λk hk=>hk,hss,xa hg (λk hk=>hk) ht⟩
theorem Zp.numbers {st:Nat} {S:Sto} (h:Zp W st S w) (hk:∀r∈S.recs,1≤r.1∧r.1≤4611686018427387904) (hl:S.recs.length≤1000000):Calls Tryz.prog 26 #[.pointer (some ⟨st,0,none⟩)] w λe w'=>w.grownBy w' none∧∃v,e = .returned v∧w'.ownsRow w.heap.size 2 1 v S.recs.length (((S.recs.map (·.1)).mergeSort λx y=>decide (x≤y)).map (Value.int .i64)):=by
 obtain⟨own,db,h1,⟨mb,tb,rv,rb,hs⟩,h3⟩:=h
 exact zek hs hk hl
theorem zlo (cut:Nat) (ho:OL.length=256):(ofB NL).extract 0 cut++(ofB OL).extract cut 256=ofB (vq cut NL OL):=by
 apply ByteArray.ext
 rw[ByteArray.data_append,ByteArray.data_extract,ByteArray.data_extract]
 apply Array.ext'
 rw[Array.toList_append,Array.toList_extract,Array.toList_extract];unfold ofB vq;simp only[List.extract_eq_take_drop,List.map_append,List.drop_zero,List.map_take,List.map_drop,Nat.sub_zero];rw[List.take_of_length_le (l:=List.drop cut _) (by simp;omega)]
theorem mix_BL (cut:Nat) (hn:BL NL) (ho:BL OL):BL (vq cut NL OL):=λb hb=>by
 unfold vq at hb
 rcases List.mem_append.1 hb with h|h
 ·exact hn b (List.mem_of_mem_take h)
 ·exact ho b (List.mem_of_mem_drop h)
structure TnD (ML:List Int) (D1 D2:Dk):Prop where
 w:(Dk.new 1).writeV 0 ML=0∧(Dk.new 1).written 0 ML=D1
 y:D1.syncV=0∧D1.synced=D2
 late:D1.late.length=1
 st:xd D2
 n:D2.n=1
 lt:D2.late = []
 bk:bk D2.now 0=ML
theorem zel (h:xd d):d.synced.now=d.now:=by
 unfold Dk.synced;simp only[h.1,h.step,Bool.false_eq_true,if_false,if_true]
 rfl
theorem tnd {ML:List Int} (h:ML.length=256):∃D1 D2,TnD ML D1 D2:=by
 obtain⟨a1,a2,a3,a4,a5,-⟩:=(Zz 1).wrote (i:=0) (b:=ML) (by decide) (by omega)
 obtain⟨b1,b2,b3,b4⟩:=a2.sync;have e:=zel a2;refine⟨_,_,⟨a1,rfl⟩,⟨b1,rfl⟩,a4,b2,b3.trans a3,b4,?_⟩
 show bk ((Dk.new 1).written ((0:Nat):Int) ML).synced.now 0=ML
 rw[e,a5,je];unfold vf;rw[h];simp
end Go.Proofs.YtbcbhlfjgobejaaGreat
