/- slots.Parts, a part's block: the walks. Conditions: none, or as the theorems say. -/
import Derived.Test.YtbcbhlfjgobejaaGreatI1
import Derived.Test.YtbcbhlfjgobejaaGreatI9
import Derived.Test.YtbcbhlfjgobejaaGreatI10
import Derived.Test.YtbcbhlfjgobejaaGreatI11
set_option linter.unusedSimpArgs false
set_option linter.unusedVariables false
namespace Go.Proofs.YtbcbhlfjgobejaaGreat
set_option maxHeartbeats 200000000
open Go.RowKit Go.Sf
theorem ziu {P:Program} (w:World) {ops:Array Oper} {rest:List Oper} {o:Oper} {a:Act} {Q:Exit→Act→World→Prop} (hgd:o.guard=none) (t t2:TypeId) (x y:Operand) (hop:o.op=Op.binOp .quo t x y t2) (n c q:Int) (hx:a.eval x = .int .i64 n) (hy:a.eval y = .int .i64 c) (hc:c≠0) (hq:IntKind.i64.wrap (n.tdiv c)=q)
  (h:wpList P ops Q rest (a.put o.dst (.int .i64 q)) w):wpList P ops Q (o :: rest) a w:=by
 have hr:(execOp a.eval o).run P w = .ok (.value (.int .i64 q)) w:=by
  unfold execOp;rw[hop]
  change (do eqGuard .quo t x y (a.eval x) (a.eval y);pure (Next.value (←binOp .quo t (a.eval x) (a.eval y))):Sem Next).run P w=_
  rw[hx,hy,eqGuard_quo,binOp_quo];unfold Op.intDiv;rw[if_neg hc,hq]
  rfl
 exact wpList_plain hgd fun K hK=>by simp only[Oper.wp,hr,Oper.upon];exact hK _ _ h
theorem ziv {P:Program} (w:World) {ops:Array Oper} {rest:List Oper} {o:Oper} {a:Act} {Q:Exit→Act→World→Prop} (hgd:o.guard=none) (t t2:TypeId) (x y:Operand) (hop:o.op=Op.binOp .rem t x y t2) (n c q:Int) (hx:a.eval x = .int .i64 n) (hy:a.eval y = .int .i64 c) (hc:c≠0) (hq:n.tmod c=q)
  (h:wpList P ops Q rest (a.put o.dst (.int .i64 q)) w):wpList P ops Q (o :: rest) a w:=by
 have hr:(execOp a.eval o).run P w = .ok (.value (.int .i64 q)) w:=by
  unfold execOp;rw[hop]
  change (do eqGuard .rem t x y (a.eval x) (a.eval y);pure (Next.value (←binOp .rem t (a.eval x) (a.eval y))):Sem Next).run P w=_
  rw[hx,hy,eqGuard_rem,binOp_rem];unfold Op.intDiv;rw[if_neg hc,hq]
  rfl
 exact wpList_plain hgd fun K hK=>by simp only[Oper.wp,hr,Oper.upon];exact hK _ _ h
theorem quo_nat (m c:Nat) (h:m<4611686018427387904):IntKind.i64.wrap ((m:Int).tdiv c)=((m / c:Nat):Int):=by
 have e:((m:Int).tdiv c)=((m / c:Nat):Int):=rfl;have hd:=Nat.div_le_self m c;rw[e,IntKind.wrap_i64];generalize m / c=d at *;omega
theorem rem_nat (m c:Nat):(m:Int).tmod c=((m%c:Nat):Int):=rfl
set_option maxRecDepth 100000 in
theorem zdq (n:Int) (h1:n<4611686018427387904) (W:World):Calls Tryz.prog 15 #[.int .i64 n] W fun e w'=>e = .returned (.int .i64 (if n<0 then 0 else (zt n.toNat:Int)))∧w'=W:=by
 by_cases h0:n<0
 ·go_enter Tryz.func15,Tryz.ntmps15
  go_wp2
  go_ret
  exact⟨by simp,rfl⟩
 ·simp only[h0,if_false]
  obtain⟨m,rfl⟩:∃m:Nat,n=(m:Int):=⟨n.toNat,by omega⟩
  simp only[Int.toNat_natCast];have hq:=quo_nat m 230 (by omega)
  have hr:=rem_nat m 230;have HE:Hid ((m / 230=0→m%230=0→zt m=1)∧(1≤m%230→zt m=m / 230+1)∧(m%230=0→1≤m / 230→zt m=m / 230)):=(show _∧_∧_ from by unfold zt;omega)
  have hql:m / 230<4611686018427387904:=by omega
  have hrl:m%230<230:=Nat.mod_lt _ (by omega)
  generalize m / 230=q at *;generalize m%230=r at *;have HQ:=zd hq;have HR:=zd hr;generalize zt m=pm at *;clear hq hr h1
  go_enter Tryz.func15,Tryz.ntmps15
  go_wp2_with (first
   | (refine ziu _ rfl _ _ _ _ rfl (m:Int) (230:Nat) (q:Int) rfl rfl (by decide) HQ.out ?_)
   | (refine ziv _ rfl _ _ _ _ rfl (m:Int) (230:Nat) (r:Int) rfl rfl (by decide) HR.out ?_))
  all_goals go_ret
  all_goals (refine⟨congrArg (fun z=>Ending.returned (Value.int .i64 z)) ?_,rfl⟩;have:=HE.out;omega)
theorem zq.grown {W W2 w:World} {wb:Nat} (h:zq (fun k=>¬k<wb) W2 w) (hw:W2.heap.size=wb) (hg:W.grownBy W2 none):W.grownBy w none:=
 ⟨h.os.trans hg.os,h.tape.trans hg.tape,h.output.trans hg.output,Nat.le_trans hg.size h.size,fun k hk _=>(h.block k (Nat.lt_of_lt_of_le hk hg.size) (by have:=hg.size;omega)).trans (hg.block k hk (by simp))⟩
set_option maxRecDepth 10000 in
theorem zcp (w:World):(zeroValue 136).run Tryz.prog w = .ok (xz zz) w:=by kernel_rfl
theorem zi6:(Tryz.prog.info? 136).map (·.size)=some 256:=by kernel_rfl
theorem ju {x:List Int} (h:x.length=256):(Tryz.prog.info? 136).map (·.size)=some (zi x).toArray.size:=by rw[List.size_toArray,zr,h];exact zi6
theorem zk3 {h:List Int} (hl:h.length≤256):splice (zi zz) 0 (zi h)=zi (jg h):=by
 have e:(zi zz).drop h.length=zi (List.replicate (256-h.length) 0):=by
  unfold zi;rw[←List.map_drop]
  congr 1
  exact List.drop_replicate
 unfold splice jg;rw[zr,Nat.zero_add,e,List.take_zero,List.nil_append];simp[zi]
theorem zc4 {p:Prt} (h:p.b.length≤230):(jg (hdP p)).take 244=jc p:=by
 have hl:=Uc p;unfold jg jc;rw[List.take_append,List.take_of_length_le (by omega),List.take_replicate,Nat.min_eq_left (by omega)]
theorem zil {p:Prt} (h:p.b.length≤230):splice (zi (jg (hdP p))) 244 (zi (be 4 (ya (jc p))++be 8 p.k.toNat))=zi (vp ya p):=by
 have hl:=Uc p;unfold splice;have e1:(zi (jg (hdP p))).take 244=zi (jc p):=by rw[←zc4 h];simp[zi]
 have e2:(zi (jg (hdP p))).drop (244+(zi (be 4 (ya (jc p))++be 8 p.k.toNat)).length) = []:=by
  rw[List.drop_eq_nil_of_le];rw[zr,zr,zb6 (by omega)]
  simp[yo]
 rw[e1,e2];simp[vp,zi]
theorem zac {w:World} {b:Nat} {x:List Int} {T:TypeId} {fr:Nat × Nat} (h:w.heap[b]? = some (.cells (zi x).toArray T fr)) (n:Nat) (cap:Nat) (hn:n≤x.length):yc w (.slice (some ⟨b,0,none⟩) n cap) (x.take n):=by
 refine⟨some ⟨b,0,none⟩,cap,by rw[List.length_take,Nat.min_eq_left hn],Or.inr ⟨_,rfl,fun j u hu=>?_⟩⟩
 rw[Addr.add_mid,Nat.zero_add,cell_of_row w b j _ T fr h];rw[zi,List.map_take] at hu;simpa[zi] using Jd hu
theorem zds {w:World} {base n:Nat} {v:Value} {l:List Int} (h:w.ownsRow base 5 1 v n (zi l)) (hn:n=l.length):∃p cap,v = .slice p n cap∧(0<n→∃ad,p=some ad∧∀j u,(zi l)[j]? = some u→w.cell? (ad.add j)=some u):=by
 subst hn;obtain⟨p,cap,e,hc⟩:=(qg h).ex;refine⟨p,cap,e,fun h0=>?_⟩
 rcases hc with h1|⟨a,h1,h2⟩
 ·rw[h1] at h0;simp at h0
 ·exact⟨a,h1,h2⟩
set_option maxRecDepth 100000 in
theorem zmy {W:World} (p:Prt) {v:Value} (hk0:0≤p.k) (hk1:p.k<9223372036854775808) (hi:p.index<65536) (hc:p.count<65536) (hl:p.b.length≤230) (hb:BL p.b) (hv:yc W v p.b) :
  Calls Tryz.prog 95 #[.agg #[.int .i64 p.k,.int .i64 p.index,.int .i64 p.count,v]] W fun e w'=>e = .returned (xz (vp ya p))∧W.grownBy w' none:=by
 have HH:=zd (Uc p);have HHD:Hid (hdP p = []++be 1 80++be 8 p.k.toNat++be 2 p.index++be 2 p.count++be 1 p.b.length++p.b):=(show _=_ from by simp[hdP,be])
 have HSP1:=zd (zk3 (h:=hdP p) (by rw[Uc];omega))
 have HSP2:=zd (zil hl);have HBT:=zd (zc4 hl);have HV:Hid (∀W',W.grownBy W' none→yc W' v p.b):=(fun W' hg=>hv.grown hg (by simp))
 have HBL:=zd hb;have HBB:Hid (BL (jc p)):=(show BL _ from by
  unfold jc hdP;refine BL.app (BL.app (BL.app (BL.app (BL.app (BL.app (fun b h=>by simp at h;omega) (Zm _ _)) (Zm _ _)) (Zm _ _)) (Zm _ _)) hb) (fun b h=>?_)
  obtain⟨_,rfl⟩:=List.mem_replicate.1 h;omega)
 have HPL:Hid ((jg (hdP p)).length=256):=(show _=_ from zb6 (by rw[Uc];omega))
 have HEL:Hid ((vp ya p).length=256):=(show _=_ from Xb hl)
 obtain⟨kn,hkn⟩:∃kn:Nat,p.k=(kn:Int):=⟨p.k.toNat,by omega⟩
 have hkn2:p.k.toNat=kn:=by omega
 rw[hkn2] at HHD HSP2;rw[hkn] at hk0 hk1 ⊢;clear hkn2 hkn;obtain⟨pb,cb,rfl,-⟩:=hv.ex;clear hv hb;obtain⟨index,hix⟩:∃i,i=p.index:=⟨_,rfl⟩;obtain⟨count,hct⟩:∃i,i=p.count:=⟨_,rfl⟩;obtain⟨bl,hbl⟩:∃i,i=p.b.length:=⟨_,rfl⟩;rw[←hix,←hct,←hbl] at HHD;rw[←hbl] at HV HH hl ⊢;rw[←hix] at hi ⊢;rw[←hct] at hc ⊢;have HBLN:=zd hbl;clear hix hct hbl;generalize hX1:vp ya p=X1 at *;generalize hX2:jc p=X2 at *;generalize hX3:hdP p=X3 at *;generalize hX4:p.b=X4 at *;clear hX1 hX2 hX3 hX4;have m1:(kn:Int)%18446744073709551616=kn:=by omega
 have m2:(index:Int)%65536=index:=by omega
 have m3:(count:Int)%65536=count:=by omega
 have m4:(bl:Int)%256=bl:=by omega
 go_enter Tryz.func95,Tryz.ntmps95
 go_upto_region 2 with (first|(refine ui rfl 136 rfl (xz zz) zcp (zi zz).toArray rfl ?_))
 have hg0:W.grownBy ((W.alloc (.cells #[.int .i64 kn,.int .i64 index,.int .i64 count,.slice pb bl cb] 138)).alloc (.cells (zi zz).toArray 136)) none:=zu (zg _ _ _) _;have b1:((W.alloc (.cells #[.int .i64 kn,.int .i64 index,.int .i64 count,.slice pb bl cb] 138)).alloc (.cells (zi zz).toArray 136)).heap[W.heap.size]? = some (.cells #[.int .i64 kn,.int .i64 index,.int .i64 count,.slice pb bl cb] 138 (0,0)):=((zg _ _ none).block _ (by simp) (by simp)).trans (heap_alloc_new _ _)
 have b2:((W.alloc (.cells #[.int .i64 kn,.int .i64 index,.int .i64 count,.slice pb bl cb] 138)).alloc (.cells (zi zz).toArray 136)).heap[W.heap.size+1]? = some (.cells (zi zz).toArray 136 (0,0)):=by
  have:=heap_alloc_new (W.alloc (.cells #[.int .i64 kn,.int .i64 index,.int .i64 count,.slice pb bl cb] 138)) (.cells (zi zz).toArray 136)
  rwa [show(W.alloc (.cells #[.int .i64 kn,.int .i64 index,.int .i64 count,.slice pb bl cb] 138)).heap.size=W.heap.size+1 by simp] at this
 have hz2:W.heap.size+1+1=((W.alloc (.cells #[.int .i64 kn,.int .i64 index,.int .i64 count,.slice pb bl cb] 138)).alloc (.cells (zi zz).toArray 136)).heap.size:=by simp
 have HG0:=zd hg0;have HB1:=zd b1;have HB2:=zd b2;rw[hz2];have hz3:=hz2.symm;clear hg0 b1 b2 hz2;generalize (W.alloc (.cells #[.int .i64 kn,.int .i64 index,.int .i64 count,.slice pb bl cb] 138)).alloc (.cells (zi zz).toArray 136)=W2 at *;have HZ3:=zd hz3;have HW0:=zd (WS.start W2 W2 (zm _));have HT0:Hid (zq (fun k=>¬k<W2.heap.size) W2 (W2.alloc (.cells #[.slice none 0 0] 231))):=(show zq _ _ _ from vc (zg _ _ _) (zq.refl _ _))
 clear hz3;generalize hwb0:W2.heap.size=wb at *;have HWB:=zd hwb0;clear hwb0;generalize W2.alloc (.cells #[.slice none 0 0] 231)=V0 at *
 go_upto_region 3 with (go_at_call 158;refine(HW0.out.byteN (by simp) 80 (by omega)).mono ?_;rintro e w1 ⟨rfl,hw,ht⟩;have HW1:=zd hw;have HT1:=zd (HT0.out.trans ht);have y1:=(HT1.out.block W.heap.size (by have:=HZ3.out;have:=HWB.out;omega) (by have:=HZ3.out;omega)).trans HB1.out;have d0:w1.cell? ⟨W.heap.size,0,none⟩=some (.int .i64 kn):=(zh y1 0).trans rfl;have d1:w1.cell? ⟨W.heap.size,1,none⟩=some (.int .i64 index):=(zh y1 1).trans rfl;have d2:w1.cell? ⟨W.heap.size,2,none⟩=some (.int .i64 count):=(zh y1 2).trans rfl;have d3:w1.cell? ⟨W.heap.size,3,none⟩=some (.slice pb bl cb):=(zh y1 3).trans rfl;clear hw ht y1)
 go_upto_region 4 with (go_at_call 132;refine(HW1.out.longN (by simp[yo]) kn (by omega)).mono ?_;rintro e w2 ⟨rfl,hw,ht⟩;have HW2:=zd hw;have HT2:=zd (HT1.out.trans ht);have y1:=(HT2.out.block W.heap.size (by have:=HZ3.out;have:=HWB.out;omega) (by have:=HZ3.out;omega)).trans HB1.out;have d0:w2.cell? ⟨W.heap.size,0,none⟩=some (.int .i64 kn):=(zh y1 0).trans rfl;have d1:w2.cell? ⟨W.heap.size,1,none⟩=some (.int .i64 index):=(zh y1 1).trans rfl;have d2:w2.cell? ⟨W.heap.size,2,none⟩=some (.int .i64 count):=(zh y1 2).trans rfl;have d3:w2.cell? ⟨W.heap.size,3,none⟩=some (.slice pb bl cb):=(zh y1 3).trans rfl;clear hw ht y1)
 go_upto_region 5 with (go_at_call 175;refine(HW2.out.shortN (by simp[yo]) index hi).mono ?_;rintro e w3 ⟨rfl,hw,ht⟩;have HW3:=zd hw;have HT3:=zd (HT2.out.trans ht);have y1:=(HT3.out.block W.heap.size (by have:=HZ3.out;have:=HWB.out;omega) (by have:=HZ3.out;omega)).trans HB1.out;have d0:w3.cell? ⟨W.heap.size,0,none⟩=some (.int .i64 kn):=(zh y1 0).trans rfl;have d1:w3.cell? ⟨W.heap.size,1,none⟩=some (.int .i64 index):=(zh y1 1).trans rfl;have d2:w3.cell? ⟨W.heap.size,2,none⟩=some (.int .i64 count):=(zh y1 2).trans rfl;have d3:w3.cell? ⟨W.heap.size,3,none⟩=some (.slice pb bl cb):=(zh y1 3).trans rfl;clear hw ht y1)
 go_upto_region 6 with (go_at_call 175;refine(HW3.out.shortN (by simp[yo]) count hc).mono ?_;rintro e w4 ⟨rfl,hw,ht⟩;have HW4:=zd hw;have HT4:=zd (HT3.out.trans ht);have y1:=(HT4.out.block W.heap.size (by have:=HZ3.out;have:=HWB.out;omega) (by have:=HZ3.out;omega)).trans HB1.out;have d0:w4.cell? ⟨W.heap.size,0,none⟩=some (.int .i64 kn):=(zh y1 0).trans rfl;have d1:w4.cell? ⟨W.heap.size,1,none⟩=some (.int .i64 index):=(zh y1 1).trans rfl;have d2:w4.cell? ⟨W.heap.size,2,none⟩=some (.int .i64 count):=(zh y1 2).trans rfl;have d3:w4.cell? ⟨W.heap.size,3,none⟩=some (.slice pb bl cb):=(zh y1 3).trans rfl;clear hw ht y1)
 go_upto_region 7 with (go_at_call 158;refine(HW4.out.byteN (by simp[yo]) bl (by omega)).mono ?_;rintro e w5 ⟨rfl,hw,ht⟩;have HW5:=zd hw;have HT5:=zd (HT4.out.trans ht);have y1:=(HT5.out.block W.heap.size (by have:=HZ3.out;have:=HWB.out;omega) (by have:=HZ3.out;omega)).trans HB1.out;have d0:w5.cell? ⟨W.heap.size,0,none⟩=some (.int .i64 kn):=(zh y1 0).trans rfl;have d1:w5.cell? ⟨W.heap.size,1,none⟩=some (.int .i64 index):=(zh y1 1).trans rfl;have d2:w5.cell? ⟨W.heap.size,2,none⟩=some (.int .i64 count):=(zh y1 2).trans rfl;have d3:w5.cell? ⟨W.heap.size,3,none⟩=some (.slice pb bl cb):=(zh y1 3).trans rfl;clear hw ht y1)
 go_upto_region 8 with (go_at_call 159;refine(HW5.out.rawN (HV.out _ (HT5.out.grown HWB.out HG0.out)) (by have:=HBLN.out;simp[yo];omega)).mono ?_;rintro e w6 ⟨rfl,hw,ht⟩;have HW6:=zd hw;have HT6:=zd (HT5.out.trans ht);have y1:=(HT6.out.block W.heap.size (by have:=HZ3.out;have:=HWB.out;omega) (by have:=HZ3.out;omega)).trans HB1.out;have d0:w6.cell? ⟨W.heap.size,0,none⟩=some (.int .i64 kn):=(zh y1 0).trans rfl;have d1:w6.cell? ⟨W.heap.size,1,none⟩=some (.int .i64 index):=(zh y1 1).trans rfl;have d2:w6.cell? ⟨W.heap.size,2,none⟩=some (.int .i64 count):=(zh y1 2).trans rfl;have d3:w6.cell? ⟨W.heap.size,3,none⟩=some (.slice pb bl cb):=(zh y1 3).trans rfl;clear hw ht y1)
 have hw7:=HW6.out;rw[←HHD.out] at hw7;have HW7:=zd hw7;have HB7:=zd ((HT6.out.block (W.heap.size+1) (by have:=HZ3.out;have:=HWB.out;omega) (by have:=HZ3.out;omega)).trans HB2.out)
 have HB7p:=zd ((HT6.out.block W.heap.size (by have:=HZ3.out;have:=HWB.out;omega) (by have:=HZ3.out;omega)).trans HB1.out)
 have HG7:=zd (HT6.out.grown HWB.out HG0.out);clear hw7 d0 d1 d2 d3;refine wp_region_held_drew (S:=fun w':World=>True) (by kernel_rfl) trivial (fun hHeld=>?_)
 refine tk (i:=0) (oi:=⟨some 26,Op.slice 136 (Operand.tmp 2) none none none,_,_,_,none⟩) (v:=?_) rfl hHeld ?_ ?_;rotate_left
 ·rintro w -;go_simp;try with_reducible rfl
 (try simp only[Act.put,za,zb,zc])
 refine wpAnyH_ready (rs:=[1]) (by kernel_rfl) (by simp) ?_
 refine AllReadyH.cons (o:=⟨some 27,Op.call { callee:=Callee.value (Operand.func 134),args:=#[Operand.tmp 3],argTypes:=#[231] },_,_,_,none⟩) rfl (fun K hK=>?_) AllReadyH.nil
 go_simp
 go_at_call 134
 refine((HW7.out.keep (zl (zm _))).outN (by rw[HH.out];omega)).mono ?_
 rintro e a1 ⟨v1,rfl,ho,hg⟩;obtain⟨p1,c1,rfl,hc⟩:=zds ho rfl;have HGa:=zd hg;have HCa:=zd hc;have hba:=(hg.block (W.heap.size+1) (Array.getElem?_eq_some_iff.1 HB7.out).1 (by simp)).trans HB7.out
 have HBa:=zd hba;clear ho hg hc hba;refine hK.out _ _ trivial (fun hHeld=>?_)
 clear hK K
 (try simp only[Act.put,za,zb,zc])
 refine wpAnyH_ready (rs:=[2]) (by kernel_rfl) (by simp) ?_
 refine AllReadyH.cons (o:=⟨some 28,Op.call { callee:=Callee.builtin Builtin.copy,args:=#[Operand.tmp 26,Operand.tmp 27],argTypes:=#[32,32] },_,_,_,none⟩) rfl (fun K hK=>?_) AllReadyH.nil
 refine step_copy_splice rfl _ _ 32 32 rfl 5 Tryz.underlying32 (by kernel_rfl) (some ⟨W.heap.size+1,0,none⟩) p1 256 256 (X3).length c1 rfl rfl (W.heap.size+1) 0 (zi zz) 136 HBa.out (zi (X3)) (by rw[zr];exact(Nat.min_eq_left (by rw[HH.out];omega)).symm) (fun h0=>⟨rfl,HCa.out (by rw[zr] at h0;exact h0)⟩) (by rw[zr,zr,xq,HH.out];omega) (xe _) (W.heap.size+1) a1 (Below.refl _ _) (Nat.le_refl _) ?_
 intro a2 hqa hbela;refine hK.out _ _ trivial (fun hHeld=>?_)
 clear hK K
 (try simp only[Act.put,za,zb,zc])
 refine wpAnyH_done (by kernel_rfl) ?_ _
 have hga:W.grownBy a2 none:=⟨hbela.os.trans (HGa.out.os.trans HG7.out.os),hbela.tape.trans (HGa.out.tape.trans HG7.out.tape),hbela.output.trans (HGa.out.output.trans HG7.out.output),Nat.le_trans HG7.out.size (Nat.le_trans HGa.out.size hbela.size),fun k hk _=>(hbela.block k (by omega)).trans ((HGa.out.block k (Nat.lt_of_lt_of_le hk HG7.out.size) (by simp)).trans (HG7.out.block k hk (by simp)))⟩
 have pa:a2.heap[W.heap.size]? = some (.cells #[.int .i64 kn,.int .i64 index,.int .i64 count,.slice pb bl cb] 138 (0,0)):=(hbela.block W.heap.size (by omega)).trans ((HGa.out.block W.heap.size (Array.getElem?_eq_some_iff.1 HB7p.out).1 (by simp)).trans HB7p.out)
 have ba:a2.heap[W.heap.size+1]? = some (.cells (zi (jg X3)).toArray 136 (0,0)):=by rw[←HSP1.out];exact hqa.out
 have HGA:=zd hga;have HPA:=zd pa;have HBA:=zd ba;have hla:W.heap.size+1<a2.heap.size:=(Array.getElem?_eq_some_iff.1 ba).1;clear hga pa ba hqa hbela
 go_upto_region 10 with fail
 have HWx0:=zd (WS.start a2 a2 (zm _));have HTx0:Hid (zq (fun k=>¬k<a2.heap.size) a2 (a2.alloc (.cells #[.slice none 0 0] 231))):=(show zq _ _ _ from vc (zg _ _ _) (zq.refl _ _))
 have HBx0:Hid ((a2.alloc (.cells #[.slice none 0 0] 231)).heap[W.heap.size+1]? = some (.cells (zi (jg X3)).toArray 136 (0,0))):=(show _=_ from ((zg a2 _ none).block _ hla (by simp)).trans HBA.out)
 have HSUM:Hid (Calls Tryz.prog 161 #[.slice (some ⟨W.heap.size+1,0,none⟩) 244 256] (a2.alloc (.cells #[.slice none 0 0] 231)) fun e w'=>e = .returned (.int .u32 (ya X2))∧(a2.alloc (.cells #[.slice none 0 0] 231)).grownBy w' none):=(show Calls _ _ _ _ _ from by
  have hr:=zac HBx0.out 244 256 (by rw[HPL.out];omega)
  rw[HBT.out] at hr
  exact zbd hr HBB.out (by rw[←HBT.out,List.length_take];omega))
 generalize hwc:a2.heap.size=wc at *;have HWC:=zd hwc;clear hwc;generalize a2.alloc (.cells #[.slice none 0 0] 231)=U0 at *;have hcr:=zd7 X2;generalize hcv:ya X2=cv at *;clear hcv
 go_upto_region 11 with (first
  | (go_at_call 161;refine HSUM.out.mono ?_;rintro e u1 ⟨rfl,hg⟩;have HWx1:=zd (HWx0.out.keep hg);have HTx1:=zd (HTx0.out.trans (vc hg (zq.refl _ _)));clear hg)
  | (go_at_call 160;refine(HWx1.out.wordN (by simp) cv hcr).mono ?_;rintro e u2 ⟨rfl,hw,ht⟩;have HWx2:=zd hw;have HTx2:=zd (HTx1.out.trans ht);have y2:=(HTx2.out.block W.heap.size (by have:=HWC.out;omega) (by omega)).trans HPA.out;have d0:u2.cell? ⟨W.heap.size,0,none⟩=some (.int .i64 kn):=(zh y2 0).trans rfl;clear hw ht y2))
 go_upto_region 12 with (go_at_call 132;refine(HWx2.out.longN (by simp[yo]) kn (by omega)).mono ?_;rintro e u3 ⟨rfl,hw,ht⟩;have HWx3:=zd hw;have HTx3:=zd (HTx2.out.trans ht);clear hw ht)
 have hlx:([]++be 4 cv++be 8 kn).length=12:=by simp[yo]
 have HLX:=zd hlx;have HBx3:=zd ((HTx3.out.block (W.heap.size+1) (by have:=HWC.out;omega) (by omega)).trans HBA.out)
 have HGx3:=zd (HTx3.out.grown HWC.out HGA.out);clear hlx d0;refine wp_region_held_drew (S:=fun w':World=>True) (by kernel_rfl) trivial (fun hHeld=>?_)
 refine tk (i:=0) (oi:=⟨some 36,Op.slice 136 (Operand.tmp 2) (some (Operand.const (Value.int IntKind.i64 244))) none none,_,_,_,none⟩) (v:=?_) rfl hHeld ?_ ?_;rotate_left
 ·rintro w -;go_simp;try with_reducible rfl
 (try simp only[Act.put,za,zb,zc])
 refine wpAnyH_ready (rs:=[1]) (by kernel_rfl) (by simp) ?_
 refine AllReadyH.cons (o:=⟨some 37,Op.call { callee:=Callee.value (Operand.func 134),args:=#[Operand.tmp 4],argTypes:=#[231] },_,_,_,none⟩) rfl (fun K hK=>?_) AllReadyH.nil
 go_simp
 go_at_call 134
 refine((HWx3.out.keep (zl (zm _))).outN (by rw[HLX.out];omega)).mono ?_
 rintro e z1 ⟨v1,rfl,ho,hg⟩;obtain⟨p1,c1,rfl,hc⟩:=zds ho rfl;have HGz:=zd hg;have HCz:=zd hc;have hbz:=(hg.block (W.heap.size+1) (Array.getElem?_eq_some_iff.1 HBx3.out).1 (by simp)).trans HBx3.out
 have HBz:=zd hbz;clear ho hg hc hbz;refine hK.out _ _ trivial (fun hHeld=>?_)
 clear hK K
 (try simp only[Act.put,za,zb,zc])
 refine wpAnyH_ready (rs:=[2]) (by kernel_rfl) (by simp) ?_
 refine AllReadyH.cons (o:=⟨some 38,Op.call { callee:=Callee.builtin Builtin.copy,args:=#[Operand.tmp 36,Operand.tmp 37],argTypes:=#[32,32] },_,_,_,none⟩) rfl (fun K hK=>?_) AllReadyH.nil
 refine step_copy_splice rfl _ _ 32 32 rfl 5 Tryz.underlying32 (by kernel_rfl) (some ⟨W.heap.size+1,244,none⟩) p1 12 12 ([]++be 4 cv++be 8 kn).length c1 rfl rfl (W.heap.size+1) 244 (zi (jg X3)) 136 HBz.out (zi ([]++be 4 cv++be 8 kn)) (by rw[zr];exact(Nat.min_eq_left (by rw[HLX.out];omega)).symm) (fun h0=>⟨rfl,HCz.out (by rw[zr] at h0;exact h0)⟩) (by rw[zr,zr,HPL.out,HLX.out];omega) (xe _) (W.heap.size+1) z1 (Below.refl _ _) (Nat.le_refl _) ?_
 intro z2 hqz hbelz;refine hK.out _ _ trivial (fun hHeld=>?_)
 clear hK K
 (try simp only[Act.put,za,zb,zc])
 refine wpAnyH_done (by kernel_rfl) ?_ _
 have hgz:W.grownBy z2 none:=⟨hbelz.os.trans (HGz.out.os.trans HGx3.out.os),hbelz.tape.trans (HGz.out.tape.trans HGx3.out.tape),hbelz.output.trans (HGz.out.output.trans HGx3.out.output),Nat.le_trans HGx3.out.size (Nat.le_trans HGz.out.size hbelz.size),fun k hk _=>(hbelz.block k (by omega)).trans ((HGz.out.block k (Nat.lt_of_lt_of_le hk HGx3.out.size) (by simp)).trans (HGx3.out.block k hk (by simp)))⟩
 have bz:z2.heap[W.heap.size+1]? = some (.cells (zi X1).toArray 136 (0,0)):=by rw[←HSP2.out];exact hqz.out
 have HGZ:=zd hgz;have HBZ:=zd bz;clear hgz bz hqz hbelz
 go_wp2_with (first
  | (refine wpList_load_row rfl 136 _ rfl (W.heap.size+1) rfl 136 (zi X1).toArray (0,0) _ HBZ.out Tryz.underlying136 rfl (ju HEL.out) ?_)
  | (refine wpList_store_row rfl 136 _ _ rfl (W.heap.size+1) (zi X1).toArray rfl rfl 136 (zi X1).toArray HBZ.out (ju HEL.out) rfl (blkA _) ?_;rw[setRow_self _ _ _ _ _ HBZ.out]))
 refine bodyPost_ret (results_cell_row rfl _ _ (W.heap.size+1) 136 (zi X1).toArray (0,0) _ rfl HBZ.out Tryz.underlying136 rfl (ju HEL.out)) rfl ?_
 exact⟨rfl,HGZ.out⟩
end Go.Proofs.YtbcbhlfjgobejaaGreat
