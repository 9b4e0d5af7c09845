/- slots.Parts, a part's block: the walks. Conditions: none, or as the theorems say. -/
import Derived.Test.YtbcbhlfjgobejaaGreatS1
import Derived.Test.YtbcbhlfjgobejaaGreatS9
import Derived.Test.YtbcbhlfjgobejaaGreatS10
import Derived.Test.YtbcbhlfjgobejaaGreatS11
import Derived.BigQuiet
set_option linter.unusedSimpArgs false
set_option linter.unusedVariables false
namespace Go.Proofs.YtbcbhlfjgobejaaGreat
set_option maxHeartbeats 200000000
open Go.RowKit Go.Sf
variable {a:Act} {ops:Array Oper} {Q:Exit→Act→World→Prop} {x:List Int} {P:Program} {v:Value} {W w:World}
theorem Ui (w:World) {rest:List Oper} {o:Oper} (hgd:o.guard=none) (t t2:TypeId) (x y:Operand) (hop:o.op=Op.binOp .quo t x y t2) (n c q:Int) (hx:a.eval x = .int .i64 n) (hy:a.eval y = .int .i64 c) (hc:c≠0) (hq:IntKind.i64.wrap (n.tdiv c)=q)
 (h:wpList P ops Q rest (a.put o.dst (.int .i64 q)) w):wpList P ops Q (o :: rest) a w:=by
 have hr:(execOp a.eval o).run P w = .ok (.value (.int .i64 q)) w:=by
  unfold execOp;rw[hop]
  change (do eqGuard .quo t x y (a.eval x) (a.eval y);pure (Next.value (←binOp .quo t (a.eval x) (a.eval y))):Sem Next).run P w=_
  rw[hx,hy,eqGuard_quo,binOp_quo];unfold Op.intDiv;rw[if_neg hc,hq]
  rfl
 exact wpList_plain hgd λK hK=>by simp only[Oper.wp,hr,Oper.upon];exact hK _ _ h
theorem Xq (w:World) {rest:List Oper} {o:Oper} (hgd:o.guard=none) (t t2:TypeId) (x y:Operand) (hop:o.op=Op.binOp .rem t x y t2) (n c q:Int) (hx:a.eval x = .int .i64 n) (hy:a.eval y = .int .i64 c) (hc:c≠0) (hq:n.tmod c=q)
 (h:wpList P ops Q rest (a.put o.dst (.int .i64 q)) w):wpList P ops Q (o :: rest) a w:=by
 have hr:(execOp a.eval o).run P w = .ok (.value (.int .i64 q)) w:=by
  unfold execOp;rw[hop]
  change (do eqGuard .rem t x y (a.eval x) (a.eval y);pure (Next.value (←binOp .rem t (a.eval x) (a.eval y))):Sem Next).run P w=_
  rw[hx,hy,eqGuard_rem,binOp_rem];unfold Op.intDiv;rw[if_neg hc,hq]
  rfl
 exact wpList_plain hgd λK hK=>by simp only[Oper.wp,hr,Oper.upon];exact hK _ _ h
theorem quo_nat (m c:Nat) (h:m<4611686018427387904):IntKind.i64.wrap ((m:Int).tdiv c)=((m / c:Nat):Int):=by
 have e:((m:Int).tdiv c)=((m / c:Nat):Int):=rfl;have hd:=Nat.div_le_self m c;rw[e,IntKind.wrap_i64];generalize m / c=d at *;omega
theorem zhb (m c:Nat):(m:Int).tmod c=((m%c:Nat):Int):=rfl
set_option maxRecDepth 100000 in
theorem zfv (n:Int) (h1:n<4611686018427387904) (W:World):Calls Tryz.prog 15 #[.int .i64 n] W λe w'=>e = .returned (.int .i64 (if n<0 then 0 else (zk n.toNat:Int)))∧w'=W:=by
 by_cases h0:n<0
 ·go_enter Tryz.func15,Tryz.ntmps15
  go_wp2
  go_ret
  exact⟨by simp,rfl⟩
 ·simp only[h0,if_false]
  obtain⟨m,rfl⟩:∃m:Nat,n=(m:Int):=⟨n.toNat,by omega⟩
  simp only[Int.toNat_natCast];have hq:=quo_nat m 230 (by omega)
  have hr:=zhb m 230;have HE:Hid ((m / 230=0→m%230=0→zk m=1)∧(1≤m%230→zk m=m / 230+1)∧(m%230=0→1≤m / 230→zk m=m / 230)):=(show _∧_∧_ from by unfold zk;omega)
  have hql:m / 230<4611686018427387904:=by omega
  have hrl:m%230<230:=Nat.mod_lt _ (by omega)
  generalize m / 230=q at *;generalize m%230=r at *;have HQ:=zd hq;have HR:=zd hr;generalize zk m=pm at *;clear hq hr h1
  go_enter Tryz.func15,Tryz.ntmps15
  go_wp2_with (first
   | (refine Ui _ rfl _ _ _ _ rfl (m:Int) (230:Nat) (q:Int) rfl rfl (by decide) HQ.out ?_)
   | (refine Xq _ rfl _ _ _ _ rfl (m:Int) (230:Nat) (r:Int) rfl rfl (by decide) HR.out ?_))
  all_goals go_ret
  all_goals (refine⟨congrArg (λz=>Ending.returned (Value.int .i64 z)) ?_,rfl⟩;have:=HE.out;omega)
theorem zm.grown {W2:World} {wb:Nat} (h:zm (λk=>¬k<wb) W2 w) (hw:W2.heap.size=wb) (hg:W.grownBy W2 none):W.grownBy w none:=
 ⟨h.os.trans hg.os,h.tape.trans hg.tape,h.output.trans hg.output,Nat.le_trans hg.size h.size,λk hk _=>(h.block k (Nat.lt_of_lt_of_le hk hg.size) (by have:=hg.size;omega)).trans (hg.block k hk (by simp))⟩
set_option maxRecDepth 10000 in
theorem zew (w:World):(zeroValue 136).run Tryz.prog w = .ok (vm zr) w:=by kernel_rfl
theorem zlh:(Tryz.prog.info? 136).map (·.size)=some 256:=by kernel_rfl
theorem Zi (h:x.length=256):(Tryz.prog.info? 136).map (·.size)=some (zg x).toArray.size:=by rw[List.size_toArray,zu,h];exact zlh
theorem znu {h:List Int} (hl:h.length≤256):splice (zg zr) 0 (zg h)=zg (vf h):=by
 have e:(zg zr).drop h.length=zg (List.replicate (256-h.length) 0):=by
  unfold zg;rw[←List.map_drop]
  congr 1
  exact List.drop_replicate
 unfold splice vf;rw[zu,Nat.zero_add,e,List.take_zero,List.nil_append];simp[zg]
theorem ze8 {p:Prt} (h:p.b.length≤230):(vf (hdP p)).take 244=uv p:=by
 have hl:=Ua p;unfold vf uv;rw[List.take_append,List.take_of_length_le (by omega),List.take_replicate,Nat.min_eq_left (by omega)]
theorem zk7 {p:Prt} (h:p.b.length≤230):splice (zg (vf (hdP p))) 244 (zg (be 4 (zo (uv p))++be 8 p.k.toNat))=zg (xe zo p):=by
 have hl:=Ua p;unfold splice;have e1:(zg (vf (hdP p))).take 244=zg (uv p):=by rw[←ze8 h];simp[zg]
 have e2:(zg (vf (hdP p))).drop (244+(zg (be 4 (zo (uv p))++be 8 p.k.toNat)).length) = []:=by
  rw[List.drop_eq_nil_of_le];rw[zu,zu,zar (by omega)]
  simp[vc]
 rw[e1,e2];simp[xe,zg]
theorem zbr {b:Nat} {T:TypeId} {fr:Nat × Nat} (h:w.heap[b]? = some (.cells (zg x).toArray T fr)) (n:Nat) (cap:Nat) (hn:n≤x.length):zx w (.slice (some ⟨b,0,none⟩) n cap) (x.take n):=by
 refine⟨some ⟨b,0,none⟩,cap,by rw[List.length_take,Nat.min_eq_left hn],Or.inr ⟨_,rfl,λj u hu=>?_⟩⟩
 rw[Addr.add_mid,Nat.zero_add,cell_of_row w b j _ T fr h];rw[zg,List.map_take] at hu;simpa[zg] using za0 hu
theorem zf3 {base n:Nat} {l:List Int} (h:w.ownsRow base 5 1 v n (zg l)) (hn:n=l.length):∃p cap,v = .slice p n cap∧(0<n→∃ad,p=some ad∧∀j u,(zg l)[j]? = some u→w.cell? (ad.add j)=some u):=by
 subst hn;obtain⟨p,cap,e,hc⟩:=(vw h).ex;refine⟨p,cap,e,λh0=>?_⟩
 rcases hc with h1|⟨a,h1,h2⟩
 ·rw[h1] at h0;simp at h0
 ·exact⟨a,h1,h2⟩
set_option maxRecDepth 100000 in
theorem zps (p:Prt) (hk0:0≤p.k) (hk1:p.k<9223372036854775808) (hi:p.index<65536) (hc:p.count<65536) (hl:p.b.length≤230) (hb:BL p.b) (hv:zx W v p.b) :
  Calls Tryz.prog 95 #[.agg #[.int .i64 p.k,.int .i64 p.index,.int .i64 p.count,v]] W λe w'=>e = .returned (vm (xe zo p))∧W.grownBy w' none:=by
 have HH:=zd (Ua p);have HHD:Hid (hdP p = []++be 1 80++be 8 p.k.toNat++be 2 p.index++be 2 p.count++be 1 p.b.length++p.b):=(show _=_ from by simp[hdP,be])
 have HSP1:=zd (znu (h:=hdP p) (by rw[Ua];omega))
 have HSP2:=zd (zk7 hl);have HBT:=zd (ze8 hl);have HV:Hid (∀W',W.grownBy W' none→zx W' v p.b):=(λW' hg=>hv.grown hg (by simp))
 have HBL:=zd hb;have HBB:Hid (BL (uv p)):=(show BL _ from by
  unfold uv hdP;refine BL.app (BL.app (BL.app (BL.app (BL.app (BL.app (λb h=>by simp at h;omega) (Ut _ _)) (Ut _ _)) (Ut _ _)) (Ut _ _)) hb) (λb h=>?_)
  obtain⟨_,rfl⟩:=List.mem_replicate.1 h;omega)
 have HPL:Hid ((vf (hdP p)).length=256):=(show _=_ from zar (by rw[Ua];omega))
 have HEL:Hid ((xe zo p).length=256):=(show _=_ from js hl)
 obtain⟨kn,hkn⟩:∃kn:Nat,p.k=(kn:Int):=⟨p.k.toNat,by omega⟩
 have hkn2:p.k.toNat=kn:=by omega
 rw[hkn2] at HHD HSP2;rw[hkn] at hk0 hk1 ⊢;clear hkn2 hkn;obtain⟨pb,cb,rfl,-⟩:=hv.ex;clear hv hb;obtain⟨index,hix⟩:∃i,i=p.index:=⟨_,rfl⟩;obtain⟨count,hct⟩:∃i,i=p.count:=⟨_,rfl⟩;obtain⟨bl,hbl⟩:∃i,i=p.b.length:=⟨_,rfl⟩;rw[←hix,←hct,←hbl] at HHD;rw[←hbl] at HV HH hl ⊢;rw[←hix] at hi ⊢;rw[←hct] at hc ⊢;have HBLN:=zd hbl;clear hix hct hbl;generalize hX1:xe zo p=X1 at *;generalize hX2:uv p=X2 at *;generalize hX3:hdP p=X3 at *;generalize hX4:p.b=X4 at *;clear hX1 hX2 hX3 hX4;have m1:(kn:Int)%18446744073709551616=kn:=by omega
 have m2:(index:Int)%65536=index:=by omega
 have m3:(count:Int)%65536=count:=by omega
 have m4:(bl:Int)%256=bl:=by omega
 go_enter Tryz.func95,Tryz.ntmps95
 go_upto_region 2 with (first|(refine un rfl 136 rfl (vm zr) zew (zg zr).toArray rfl ?_))
 have hg0:W.grownBy ((W.alloc (.cells #[.int .i64 kn,.int .i64 index,.int .i64 count,.slice pb bl cb] 138)).alloc (.cells (zg zr).toArray 136)) none:=zp (ze _ _ _) _;have b1:((W.alloc (.cells #[.int .i64 kn,.int .i64 index,.int .i64 count,.slice pb bl cb] 138)).alloc (.cells (zg zr).toArray 136)).heap[W.heap.size]? = some (.cells #[.int .i64 kn,.int .i64 index,.int .i64 count,.slice pb bl cb] 138 (0,0)):=((ze _ _ none).block _ (by simp) (by simp)).trans (heap_alloc_new _ _)
 have b2:((W.alloc (.cells #[.int .i64 kn,.int .i64 index,.int .i64 count,.slice pb bl cb] 138)).alloc (.cells (zg zr).toArray 136)).heap[W.heap.size+1]? = some (.cells (zg zr).toArray 136 (0,0)):=by
  have:=heap_alloc_new (W.alloc (.cells #[.int .i64 kn,.int .i64 index,.int .i64 count,.slice pb bl cb] 138)) (.cells (zg zr).toArray 136)
  rwa [show(W.alloc (.cells #[.int .i64 kn,.int .i64 index,.int .i64 count,.slice pb bl cb] 138)).heap.size=W.heap.size+1 by simp] at this
 have hz2:W.heap.size+1+1=((W.alloc (.cells #[.int .i64 kn,.int .i64 index,.int .i64 count,.slice pb bl cb] 138)).alloc (.cells (zg zr).toArray 136)).heap.size:=by simp
 have HG0:=zd hg0;have HB1:=zd b1;have HB2:=zd b2;rw[hz2];have hz3:=hz2.symm;clear hg0 b1 b2 hz2;generalize (W.alloc (.cells #[.int .i64 kn,.int .i64 index,.int .i64 count,.slice pb bl cb] 138)).alloc (.cells (zg zr).toArray 136)=W2 at *;have HZ3:=zd hz3;have HW0:=zd (WS.start W2 W2 (zi _));have HT0:Hid (zm (λk=>¬k<W2.heap.size) W2 (W2.alloc (.cells #[.slice none 0 0] 231))):=(show zm _ _ _ from vo (ze _ _ _) (zm.refl _ _))
 clear hz3;generalize hwb0:W2.heap.size=wb at *;have HWB:=zd hwb0;clear hwb0;generalize W2.alloc (.cells #[.slice none 0 0] 231)=V0 at *
 go_upto_region 3 with (go_at_call 158;refine(HW0.out.byteN (by simp) 80 (by omega)).mono ?_;rintro e w1 ⟨rfl,hw,ht⟩;have HW1:=zd hw;have HT1:=zd (HT0.out.trans ht);have y1:=(HT1.out.block W.heap.size (by have:=HZ3.out;have:=HWB.out;omega) (by have:=HZ3.out;omega)).trans HB1.out;have d0:w1.cell? ⟨W.heap.size,0,none⟩=some (.int .i64 kn):=(zf y1 0).trans rfl;have d1:w1.cell? ⟨W.heap.size,1,none⟩=some (.int .i64 index):=(zf y1 1).trans rfl;have d2:w1.cell? ⟨W.heap.size,2,none⟩=some (.int .i64 count):=(zf y1 2).trans rfl;have d3:w1.cell? ⟨W.heap.size,3,none⟩=some (.slice pb bl cb):=(zf y1 3).trans rfl;clear hw ht y1)
 go_upto_region 4 with (go_at_call 132;refine(HW1.out.longN (by simp[vc]) kn (by omega)).mono ?_;rintro e w2 ⟨rfl,hw,ht⟩;have HW2:=zd hw;have HT2:=zd (HT1.out.trans ht);have y1:=(HT2.out.block W.heap.size (by have:=HZ3.out;have:=HWB.out;omega) (by have:=HZ3.out;omega)).trans HB1.out;have d0:w2.cell? ⟨W.heap.size,0,none⟩=some (.int .i64 kn):=(zf y1 0).trans rfl;have d1:w2.cell? ⟨W.heap.size,1,none⟩=some (.int .i64 index):=(zf y1 1).trans rfl;have d2:w2.cell? ⟨W.heap.size,2,none⟩=some (.int .i64 count):=(zf y1 2).trans rfl;have d3:w2.cell? ⟨W.heap.size,3,none⟩=some (.slice pb bl cb):=(zf y1 3).trans rfl;clear hw ht y1)
 go_upto_region 5 with (go_at_call 175;refine(HW2.out.shortN (by simp[vc]) index hi).mono ?_;rintro e w3 ⟨rfl,hw,ht⟩;have HW3:=zd hw;have HT3:=zd (HT2.out.trans ht);have y1:=(HT3.out.block W.heap.size (by have:=HZ3.out;have:=HWB.out;omega) (by have:=HZ3.out;omega)).trans HB1.out;have d0:w3.cell? ⟨W.heap.size,0,none⟩=some (.int .i64 kn):=(zf y1 0).trans rfl;have d1:w3.cell? ⟨W.heap.size,1,none⟩=some (.int .i64 index):=(zf y1 1).trans rfl;have d2:w3.cell? ⟨W.heap.size,2,none⟩=some (.int .i64 count):=(zf y1 2).trans rfl;have d3:w3.cell? ⟨W.heap.size,3,none⟩=some (.slice pb bl cb):=(zf y1 3).trans rfl;clear hw ht y1)
 go_upto_region 6 with (go_at_call 175;refine(HW3.out.shortN (by simp[vc]) count hc).mono ?_;rintro e w4 ⟨rfl,hw,ht⟩;have HW4:=zd hw;have HT4:=zd (HT3.out.trans ht);have y1:=(HT4.out.block W.heap.size (by have:=HZ3.out;have:=HWB.out;omega) (by have:=HZ3.out;omega)).trans HB1.out;have d0:w4.cell? ⟨W.heap.size,0,none⟩=some (.int .i64 kn):=(zf y1 0).trans rfl;have d1:w4.cell? ⟨W.heap.size,1,none⟩=some (.int .i64 index):=(zf y1 1).trans rfl;have d2:w4.cell? ⟨W.heap.size,2,none⟩=some (.int .i64 count):=(zf y1 2).trans rfl;have d3:w4.cell? ⟨W.heap.size,3,none⟩=some (.slice pb bl cb):=(zf y1 3).trans rfl;clear hw ht y1)
 go_upto_region 7 with (go_at_call 158;refine(HW4.out.byteN (by simp[vc]) bl (by omega)).mono ?_;rintro e w5 ⟨rfl,hw,ht⟩;have HW5:=zd hw;have HT5:=zd (HT4.out.trans ht);have y1:=(HT5.out.block W.heap.size (by have:=HZ3.out;have:=HWB.out;omega) (by have:=HZ3.out;omega)).trans HB1.out;have d0:w5.cell? ⟨W.heap.size,0,none⟩=some (.int .i64 kn):=(zf y1 0).trans rfl;have d1:w5.cell? ⟨W.heap.size,1,none⟩=some (.int .i64 index):=(zf y1 1).trans rfl;have d2:w5.cell? ⟨W.heap.size,2,none⟩=some (.int .i64 count):=(zf y1 2).trans rfl;have d3:w5.cell? ⟨W.heap.size,3,none⟩=some (.slice pb bl cb):=(zf y1 3).trans rfl;clear hw ht y1)
 go_upto_region 8 with (go_at_call 159;refine(HW5.out.rawN (HV.out _ (HT5.out.grown HWB.out HG0.out)) (by have:=HBLN.out;simp[vc];omega)).mono ?_;rintro e w6 ⟨rfl,hw,ht⟩;have HW6:=zd hw;have HT6:=zd (HT5.out.trans ht);have y1:=(HT6.out.block W.heap.size (by have:=HZ3.out;have:=HWB.out;omega) (by have:=HZ3.out;omega)).trans HB1.out;have d0:w6.cell? ⟨W.heap.size,0,none⟩=some (.int .i64 kn):=(zf y1 0).trans rfl;have d1:w6.cell? ⟨W.heap.size,1,none⟩=some (.int .i64 index):=(zf y1 1).trans rfl;have d2:w6.cell? ⟨W.heap.size,2,none⟩=some (.int .i64 count):=(zf y1 2).trans rfl;have d3:w6.cell? ⟨W.heap.size,3,none⟩=some (.slice pb bl cb):=(zf y1 3).trans rfl;clear hw ht y1)
 have hw7:=HW6.out;rw[←HHD.out] at hw7;have HW7:=zd hw7;have HB7:=zd ((HT6.out.block (W.heap.size+1) (by have:=HZ3.out;have:=HWB.out;omega) (by have:=HZ3.out;omega)).trans HB2.out)
 have HB7p:=zd ((HT6.out.block W.heap.size (by have:=HZ3.out;have:=HWB.out;omega) (by have:=HZ3.out;omega)).trans HB1.out)
 have HG7:=zd (HT6.out.grown HWB.out HG0.out);clear hw7 d0 d1 d2 d3;refine qH (S:=λw':World=>True) trivial (λhHeld=>?_)
 refine qT 0 ?_;refine qO 1 λK hK=>?_
 go_simp
 go_at_call 134
 refine((HW7.out.keep (zj (zi _))).outN (by rw[HH.out];omega)).mono ?_
 rintro e a1 ⟨v1,rfl,ho,hg⟩;obtain⟨p1,c1,rfl,hc⟩:=zf3 ho rfl;have HGa:=zd hg;have HCa:=zd hc;have hba:=(hg.block (W.heap.size+1) (Array.getElem?_eq_some_iff.1 HB7.out).1 (by simp)).trans HB7.out
 have HBa:=zd hba;clear ho hg hc hba;refine hK.out _ _ trivial (λhHeld=>?_)
 clear hK K;refine qO 2 λK hK=>?_
 refine step_copy_splice rfl _ _ 32 32 rfl 5 Tryz.underlying32 (by kernel_rfl) (some ⟨W.heap.size+1,0,none⟩) p1 256 256 (X3).length c1 rfl rfl (W.heap.size+1) 0 (zg zr) 136 HBa.out (zg (X3)) (by rw[zu];exact(Nat.min_eq_left (by rw[HH.out];omega)).symm) (λh0=>⟨rfl,HCa.out (by rw[zu] at h0;exact h0)⟩) (by rw[zu,zu,xt,HH.out];omega) (qt _) (W.heap.size+1) a1 (Below.refl _ _) (Nat.le_refl _) ?_
 intro a2 hqa hbela;refine hK.out _ _ trivial (λhHeld=>?_)
 clear hK K;refine qD ?_;have hga:W.grownBy a2 none:=⟨hbela.os.trans (HGa.out.os.trans HG7.out.os),hbela.tape.trans (HGa.out.tape.trans HG7.out.tape),hbela.output.trans (HGa.out.output.trans HG7.out.output),Nat.le_trans HG7.out.size (Nat.le_trans HGa.out.size hbela.size),λk hk _=>(hbela.block k (by omega)).trans ((HGa.out.block k (Nat.lt_of_lt_of_le hk HG7.out.size) (by simp)).trans (HG7.out.block k hk (by simp)))⟩
 have pa:a2.heap[W.heap.size]? = some (.cells #[.int .i64 kn,.int .i64 index,.int .i64 count,.slice pb bl cb] 138 (0,0)):=(hbela.block W.heap.size (by omega)).trans ((HGa.out.block W.heap.size (Array.getElem?_eq_some_iff.1 HB7p.out).1 (by simp)).trans HB7p.out)
 have ba:a2.heap[W.heap.size+1]? = some (.cells (zg (vf X3)).toArray 136 (0,0)):=by rw[←HSP1.out];exact hqa.out
 have HGA:=zd hga;have HPA:=zd pa;have HBA:=zd ba;have hla:W.heap.size+1<a2.heap.size:=(Array.getElem?_eq_some_iff.1 ba).1;clear hga pa ba hqa hbela
 go_upto_region 10 with fail
 have HWx0:=zd (WS.start a2 a2 (zi _));have HTx0:Hid (zm (λk=>¬k<a2.heap.size) a2 (a2.alloc (.cells #[.slice none 0 0] 231))):=(show zm _ _ _ from vo (ze _ _ _) (zm.refl _ _))
 have HBx0:Hid ((a2.alloc (.cells #[.slice none 0 0] 231)).heap[W.heap.size+1]? = some (.cells (zg (vf X3)).toArray 136 (0,0))):=(show _=_ from ((ze a2 _ none).block _ hla (by simp)).trans HBA.out)
 have HSUM:Hid (Calls Tryz.prog 161 #[.slice (some ⟨W.heap.size+1,0,none⟩) 244 256] (a2.alloc (.cells #[.slice none 0 0] 231)) λe w'=>e = .returned (.int .u32 (zo X2))∧(a2.alloc (.cells #[.slice none 0 0] 231)).grownBy w' none):=(show Calls _ _ _ _ _ from by
  have hr:=zbr HBx0.out 244 256 (by rw[HPL.out];omega)
  rw[HBT.out] at hr
  exact sum_any hr HBB.out (by rw[←HBT.out,List.length_take];omega))
 generalize hwc:a2.heap.size=wc at *;have HWC:=zd hwc;clear hwc;generalize a2.alloc (.cells #[.slice none 0 0] 231)=U0 at *;have hcr:=zle X2;generalize hcv:zo X2=cv at *;clear hcv
 go_upto_region 11 with (first
  | (go_at_call 161;refine HSUM.out.mono ?_;rintro e u1 ⟨rfl,hg⟩;have HWx1:=zd (HWx0.out.keep hg);have HTx1:=zd (HTx0.out.trans (vo hg (zm.refl _ _)));clear hg)
  | (go_at_call 160;refine(HWx1.out.wordN (by simp) cv hcr).mono ?_;rintro e u2 ⟨rfl,hw,ht⟩;have HWx2:=zd hw;have HTx2:=zd (HTx1.out.trans ht);have y2:=(HTx2.out.block W.heap.size (by have:=HWC.out;omega) (by omega)).trans HPA.out;have d0:u2.cell? ⟨W.heap.size,0,none⟩=some (.int .i64 kn):=(zf y2 0).trans rfl;clear hw ht y2))
 go_upto_region 12 with (go_at_call 132;refine(HWx2.out.longN (by simp[vc]) kn (by omega)).mono ?_;rintro e u3 ⟨rfl,hw,ht⟩;have HWx3:=zd hw;have HTx3:=zd (HTx2.out.trans ht);clear hw ht)
 have hlx:([]++be 4 cv++be 8 kn).length=12:=by simp[vc]
 have HLX:=zd hlx;have HBx3:=zd ((HTx3.out.block (W.heap.size+1) (by have:=HWC.out;omega) (by omega)).trans HBA.out)
 have HGx3:=zd (HTx3.out.grown HWC.out HGA.out);clear hlx d0;refine qH (S:=λw':World=>True) trivial (λhHeld=>?_)
 refine qT 0 ?_;refine qO 1 λK hK=>?_
 go_simp
 go_at_call 134
 refine((HWx3.out.keep (zj (zi _))).outN (by rw[HLX.out];omega)).mono ?_
 rintro e z1 ⟨v1,rfl,ho,hg⟩;obtain⟨p1,c1,rfl,hc⟩:=zf3 ho rfl;have HGz:=zd hg;have HCz:=zd hc;have hbz:=(hg.block (W.heap.size+1) (Array.getElem?_eq_some_iff.1 HBx3.out).1 (by simp)).trans HBx3.out
 have HBz:=zd hbz;clear ho hg hc hbz;refine hK.out _ _ trivial (λhHeld=>?_)
 clear hK K;refine qO 2 λK hK=>?_
 refine step_copy_splice rfl _ _ 32 32 rfl 5 Tryz.underlying32 (by kernel_rfl) (some ⟨W.heap.size+1,244,none⟩) p1 12 12 ([]++be 4 cv++be 8 kn).length c1 rfl rfl (W.heap.size+1) 244 (zg (vf X3)) 136 HBz.out (zg ([]++be 4 cv++be 8 kn)) (by rw[zu];exact(Nat.min_eq_left (by rw[HLX.out];omega)).symm) (λh0=>⟨rfl,HCz.out (by rw[zu] at h0;exact h0)⟩) (by rw[zu,zu,HPL.out,HLX.out];omega) (qt _) (W.heap.size+1) z1 (Below.refl _ _) (Nat.le_refl _) ?_
 intro z2 hqz hbelz;refine hK.out _ _ trivial (λhHeld=>?_)
 clear hK K;refine qD ?_;have hgz:W.grownBy z2 none:=⟨hbelz.os.trans (HGz.out.os.trans HGx3.out.os),hbelz.tape.trans (HGz.out.tape.trans HGx3.out.tape),hbelz.output.trans (HGz.out.output.trans HGx3.out.output),Nat.le_trans HGx3.out.size (Nat.le_trans HGz.out.size hbelz.size),λk hk _=>(hbelz.block k (by omega)).trans ((HGz.out.block k (Nat.lt_of_lt_of_le hk HGx3.out.size) (by simp)).trans (HGx3.out.block k hk (by simp)))⟩
 have bz:z2.heap[W.heap.size+1]? = some (.cells (zg X1).toArray 136 (0,0)):=by rw[←HSP2.out];exact hqz.out
 have HGZ:=zd hgz;have HBZ:=zd bz;clear hgz bz hqz hbelz
 go_wp2_with (first
  | (refine wpList_load_row rfl 136 _ rfl (W.heap.size+1) rfl 136 (zg X1).toArray (0,0) _ HBZ.out Tryz.underlying136 rfl (Zi HEL.out) ?_)
  | (refine wpList_store_row rfl 136 _ _ rfl (W.heap.size+1) (zg X1).toArray rfl rfl 136 (zg X1).toArray HBZ.out (Zi HEL.out) rfl (blkA _) ?_;rw[setRow_self _ _ _ _ _ HBZ.out]))
 refine bodyPost_ret (results_cell_row rfl _ _ (W.heap.size+1) 136 (zg X1).toArray (0,0) _ rfl HBZ.out Tryz.underlying136 rfl (Zi HEL.out)) rfl ?_
 exact⟨rfl,HGZ.out⟩
def Yv (k:Int) (index count bl:Nat):Bool:=
 if k<1 then false else if 4611686018427387904<k then false else if count<1 then false else if 570<count then false else if count≤index then false else if 230<bl then false
 else if index+1=count then decide (index*230+bl≤131072∧zk (index*230+bl)=count) else decide (bl=230)
theorem zid (p:Prt):Yv p.k p.index p.count p.b.length=true↔Up p:=by
 unfold Yv
 constructor
 ·intro h
  repeat' split at h
  all_goals first|(cases h;done)|skip
  ·rename_i h1 h2 h3 h4 h5 h6 h7
   have h8:=of_decide_eq_true h
   exact⟨by omega,by omega,by omega,by omega,by omega,by omega,λe=>absurd h7 e,λ_=>h8⟩
  ·rename_i h1 h2 h3 h4 h5 h6 h7
   have h8:=of_decide_eq_true h
   exact⟨by omega,by omega,by omega,by omega,by omega,by omega,λ_=>h8,λe=>absurd e h7⟩
 ·intro h
  have h1:=h.k1;have h2:=h.k2;have h3:=h.c1;have h4:=h.c2;have h5:=h.i1;have h6:=h.l1;rw[if_neg (by omega),if_neg (by omega),if_neg (by omega),if_neg (by omega),if_neg (by omega),if_neg (by omega)]
  by_cases h7:p.index+1=p.count
  ·rw[if_pos h7];exact decide_eq_true (h.last h7)
  ·rw[if_neg h7];exact decide_eq_true (h.full h7)
theorem zpr (W:World):Calls Tryz.prog 15 #[.int .i64 131072] W λe w'=>e = .returned (.int .i64 570)∧W.grownBy w' none:=
 (zfv 131072 (by omega) W).mono λe w' ⟨h1,h2⟩=>⟨by rw[h1];rfl,by subst h2;exact zi _⟩
theorem zit (n:Nat) (hn:n<4611686018427387904) (W:World):Calls Tryz.prog 15 #[.int .i64 n] W λe w'=>e = .returned (.int .i64 (zk n))∧w'=W:=
 (zfv n (by omega) W).mono λe w' ⟨h1,h2⟩=>⟨by rw[h1,if_neg (by omega),Int.toNat_natCast],h2⟩
set_option maxRecDepth 100000 in
theorem pmay (k:Int) (index count bl:Nat) (pb:Option Addr) (cb:Nat) (hk0 : -9223372036854775808≤k) (hk1:k<9223372036854775808) (hi:index<65536) (hc:count<65536) (hl:bl<65536) :
  Calls Tryz.prog 168 #[.agg #[.int .i64 k,.int .i64 index,.int .i64 count,.slice pb bl cb]] W λe w'=>e = .returned (.bool (Yv k index count bl))∧W.grownBy w' none:=by
 have HP:Hid (∀W,Calls Tryz.prog 15 #[.int .i64 131072] W λe w'=>e = .returned (.int .i64 570)∧W.grownBy w' none):=(λW=>zpr W)
 have hw0:W.heap.size<(W.alloc (.cells #[.int .i64 k,.int .i64 index,.int .i64 count,.slice pb bl cb] 138)).heap.size:=by simp
 have HG:Hid (W.grownBy (W.alloc (.cells #[.int .i64 k,.int .i64 index,.int .i64 count,.slice pb bl cb] 138)) none):=(ze _ _ _);have hb:=heap_alloc_new W (.cells #[.int .i64 k,.int .i64 index,.int .i64 count,.slice pb bl cb] 138);have d0:=(zf hb 0).trans (show _=some (Value.int .i64 k) from rfl)
 have d1:=(zf hb 1).trans (show _=some (Value.int .i64 index) from rfl)
 have d2:=(zf hb 2).trans (show _=some (Value.int .i64 count) from rfl)
 have d3:=(zf hb 3).trans (show _=some (Value.slice pb bl cb) from rfl)
 clear hb
 by_cases hA:k<1
 ·have hres:Yv k index count bl=false:=by unfold Yv;repeat (first|rfl|rw[if_pos (by omega)]|rw[if_neg (by omega)])
  rw[hres];clear hres
  go_enter Tryz.func168,Tryz.ntmps168
  go_upto_region 2 with fail
  generalize W.alloc (.cells #[.int .i64 k,.int .i64 index,.int .i64 count,.slice pb bl cb] 138)=W1 at *;refine ya (by kernel_rfl) (by kernel_rfl) ?_
  repeat (any_goals (first|go_big_quiet_step ((go_at_call 15;exact yw (HP.out _)))|quiet_step ((go_at_call 15;exact yw (HP.out _)))))
  refine wpQuiet_nil ?_;intro _ hw';obtain⟨x,hw''⟩:=hw';subst hw'';go_wp2
  go_ret
  exact⟨rfl,vu HG.out _⟩
 ·skip
  by_cases hB:4611686018427387904<k
  ·have hres:Yv k index count bl=false:=by unfold Yv;repeat (first|rfl|rw[if_pos (by omega)]|rw[if_neg (by omega)])
   rw[hres];clear hres
   go_enter Tryz.func168,Tryz.ntmps168
   go_upto_region 2 with fail
   generalize W.alloc (.cells #[.int .i64 k,.int .i64 index,.int .i64 count,.slice pb bl cb] 138)=W1 at *;refine ya (by kernel_rfl) (by kernel_rfl) ?_
   repeat (any_goals (first|go_big_quiet_step ((go_at_call 15;exact yw (HP.out _)))|quiet_step ((go_at_call 15;exact yw (HP.out _)))))
   refine wpQuiet_nil ?_;intro _ hw';obtain⟨x,hw''⟩:=hw';subst hw'';go_wp2
   go_ret
   exact⟨rfl,vu HG.out _⟩
  ·skip
   by_cases hC:(count:Int)<1
   ·have hres:Yv k index count bl=false:=by unfold Yv;repeat (first|rfl|rw[if_pos (by omega)]|rw[if_neg (by omega)])
    rw[hres];clear hres
    go_enter Tryz.func168,Tryz.ntmps168
    go_upto_region 2 with fail
    generalize W.alloc (.cells #[.int .i64 k,.int .i64 index,.int .i64 count,.slice pb bl cb] 138)=W1 at *;refine ya (by kernel_rfl) (by kernel_rfl) ?_
    repeat (any_goals (first|go_big_quiet_step ((go_at_call 15;exact yw (HP.out _)))|quiet_step ((go_at_call 15;exact yw (HP.out _)))))
    refine wpQuiet_nil ?_;intro _ hw';obtain⟨x,hw''⟩:=hw';subst hw'';go_wp2
    go_ret
    exact⟨rfl,vu HG.out _⟩
   ·skip
    by_cases hD:570<(count:Int)
    ·have hres:Yv k index count bl=false:=by unfold Yv;repeat (first|rfl|rw[if_pos (by omega)]|rw[if_neg (by omega)])
     rw[hres];clear hres
     go_enter Tryz.func168,Tryz.ntmps168
     go_upto_region 2 with fail
     generalize W.alloc (.cells #[.int .i64 k,.int .i64 index,.int .i64 count,.slice pb bl cb] 138)=W1 at *;refine ya (by kernel_rfl) (by kernel_rfl) ?_
     repeat (any_goals (first|go_big_quiet_step ((go_at_call 15;exact yw (HP.out _)))|quiet_step ((go_at_call 15;exact yw (HP.out _)))))
     refine wpQuiet_nil ?_;intro _ hw';obtain⟨x,hw''⟩:=hw';subst hw'';go_wp2
     go_ret
     exact⟨rfl,vu HG.out _⟩
    ·skip
     by_cases hE:(count:Int)≤index
     ·have hres:Yv k index count bl=false:=by unfold Yv;repeat (first|rfl|rw[if_pos (by omega)]|rw[if_neg (by omega)])
      rw[hres];clear hres
      go_enter Tryz.func168,Tryz.ntmps168
      go_upto_region 2 with fail
      generalize W.alloc (.cells #[.int .i64 k,.int .i64 index,.int .i64 count,.slice pb bl cb] 138)=W1 at *;refine ya (by kernel_rfl) (by kernel_rfl) ?_
      repeat (any_goals (first|go_big_quiet_step ((go_at_call 15;exact yw (HP.out _)))|quiet_step ((go_at_call 15;exact yw (HP.out _)))))
      refine wpQuiet_nil ?_;intro _ hw';obtain⟨x,hw''⟩:=hw';subst hw'';go_wp2
      go_ret
      exact⟨rfl,vu HG.out _⟩
     ·skip
      by_cases hF:230<(bl:Int)
      ·have hres:Yv k index count bl=false:=by unfold Yv;repeat (first|rfl|rw[if_pos (by omega)]|rw[if_neg (by omega)])
       rw[hres];clear hres
       go_enter Tryz.func168,Tryz.ntmps168
       go_upto_region 2 with fail
       generalize W.alloc (.cells #[.int .i64 k,.int .i64 index,.int .i64 count,.slice pb bl cb] 138)=W1 at *;refine ya (by kernel_rfl) (by kernel_rfl) ?_
       repeat (any_goals (first|go_big_quiet_step ((go_at_call 15;exact yw (HP.out _)))|quiet_step ((go_at_call 15;exact yw (HP.out _)))))
       refine wpQuiet_nil ?_;intro _ hw';obtain⟨x,hw''⟩:=hw';subst hw'';go_wp2
       go_ret
       exact⟨rfl,vu HG.out _⟩
      ·skip
       by_cases hL:(index:Int)+1=count
       ·by_cases hN:(index:Int)*230+bl≤131072
        ·have hres:Yv k index count bl=decide (zk (index*230+bl)=count):=by
          unfold Yv;rw[if_neg (by omega),if_neg (by omega),if_neg (by omega),if_neg (by omega),if_neg (by omega),if_neg (by omega),if_pos (by omega)]
          simp only[show index*230+bl≤131072 from by omega,true_and]
         have HP7:Hid (∀W,Calls Tryz.prog 15 #[.int .i64 ((index:Int)*230+bl)] W λe w'=>e = .returned (.int .i64 (zk (index*230+bl)))∧W.grownBy w' none):=(λW=>by
          have h:=zit (index*230+bl) (by omega) W
          have e:((index*230+bl:Nat):Int)=(index:Int)*230+bl:=by omega
          rw[e] at h
          exact h.mono λe w' ⟨h1,h2⟩=>⟨h1,by subst h2;exact zi _⟩)
         rw[hres];clear hres;generalize zk (index*230+bl)=pn at *
         skip
         go_enter Tryz.func168,Tryz.ntmps168
         go_upto_region 2 with fail
         generalize W.alloc (.cells #[.int .i64 k,.int .i64 index,.int .i64 count,.slice pb bl cb] 138)=W1 at *;refine ya (by kernel_rfl) (by kernel_rfl) ?_
         repeat (any_goals (first|go_big_quiet_step ((go_at_call 15;exact yw (HP.out _)))|quiet_step ((go_at_call 15;exact yw (HP.out _)))))
         refine wpQuiet_nil ?_;intro _ hw';obtain⟨x,hw''⟩:=hw';subst hw'';generalize hW2:ext W1 x=W2 at *;have hz0:∀i,W2.cell? ⟨W.heap.size,i,none⟩=W1.cell? ⟨W.heap.size,i,none⟩:=λi=>by rw[←hW2];exact zde _ _ _ hw0
         have HG2:Hid (W.grownBy W2 none):=(show World.grownBy _ _ _ from by rw[←hW2];exact vu HG.out _)
         have hw2:W.heap.size<W2.heap.size:=by rw[←hW2];simp[ext];omega
         clear hW2;have q0:=(hz0 0).trans d0;have q1:=(hz0 1).trans d1;have q2:=(hz0 2).trans d2;have q3:=(hz0 3).trans d3;clear hz0 d0 d1 d2 d3 HG hw0
         go_upto_region 7 with fail
         refine ya (by kernel_rfl) (by kernel_rfl) ?_
         repeat (any_goals (first|go_big_quiet_step ((go_at_call 15;exact yw (HP7.out _)))|quiet_step ((go_at_call 15;exact yw (HP7.out _)))))
         refine wpQuiet_nil ?_;intro _ hw';obtain⟨x2,hw''⟩:=hw';subst hw'';go_wp2
         go_ret
         refine⟨congrArg (λz=>Ending.returned (Value.bool z)) ?_,vu HG2.out _⟩
         first|rfl|(rw[Bool.eq_iff_iff];simp <;> omega)
        ·have hres:Yv k index count bl=false:=by
          unfold Yv;rw[if_neg (by omega),if_neg (by omega),if_neg (by omega),if_neg (by omega),if_neg (by omega),if_neg (by omega),if_pos (by omega)]
          exact decide_eq_false (λh=>hN (by omega))
         rw[hres];clear hres
         skip
         go_enter Tryz.func168,Tryz.ntmps168
         go_upto_region 2 with fail
         generalize W.alloc (.cells #[.int .i64 k,.int .i64 index,.int .i64 count,.slice pb bl cb] 138)=W1 at *;refine ya (by kernel_rfl) (by kernel_rfl) ?_
         repeat (any_goals (first|go_big_quiet_step ((go_at_call 15;exact yw (HP.out _)))|quiet_step ((go_at_call 15;exact yw (HP.out _)))))
         refine wpQuiet_nil ?_;intro _ hw';obtain⟨x,hw''⟩:=hw';subst hw'';generalize hW2:ext W1 x=W2 at *;have hz0:∀i,W2.cell? ⟨W.heap.size,i,none⟩=W1.cell? ⟨W.heap.size,i,none⟩:=λi=>by rw[←hW2];exact zde _ _ _ hw0
         have HG2:Hid (W.grownBy W2 none):=(show World.grownBy _ _ _ from by rw[←hW2];exact vu HG.out _)
         have hw2:W.heap.size<W2.heap.size:=by rw[←hW2];simp[ext];omega
         clear hW2;have q0:=(hz0 0).trans d0;have q1:=(hz0 1).trans d1;have q2:=(hz0 2).trans d2;have q3:=(hz0 3).trans d3;clear hz0 d0 d1 d2 d3 HG hw0
         go_upto_region 7 with fail
         refine ya (by kernel_rfl) (by kernel_rfl) ?_
         repeat (any_goals (first|go_big_quiet_step ((go_at_call 15;exact yw (HP.out _)))|quiet_step ((go_at_call 15;exact yw (HP.out _)))))
         refine wpQuiet_nil ?_;intro _ hw';obtain⟨x2,hw''⟩:=hw';subst hw'';go_wp2
         go_ret
         exact⟨rfl,vu HG2.out _⟩
       ·have hres:Yv k index count bl=decide (bl=230):=by
         unfold Yv;rw[if_neg (by omega),if_neg (by omega),if_neg (by omega),if_neg (by omega),if_neg (by omega),if_neg (by omega),if_neg (by omega)]
        rw[hres];have hLb:((index:Int)+1 == count)=false:=beq_eq_false_iff_ne.2 hL;clear hres
        skip
        go_enter Tryz.func168,Tryz.ntmps168
        go_upto_region 2 with fail
        generalize W.alloc (.cells #[.int .i64 k,.int .i64 index,.int .i64 count,.slice pb bl cb] 138)=W1 at *;refine ya (by kernel_rfl) (by kernel_rfl) ?_
        repeat (any_goals (first|go_big_quiet_step ((go_at_call 15;exact yw (HP.out _)))|quiet_step ((go_at_call 15;exact yw (HP.out _)))))
        refine wpQuiet_nil ?_;intro _ hw';obtain⟨x,hw''⟩:=hw';subst hw'';generalize hW2:ext W1 x=W2 at *;have hz0:∀i,W2.cell? ⟨W.heap.size,i,none⟩=W1.cell? ⟨W.heap.size,i,none⟩:=λi=>by rw[←hW2];exact zde _ _ _ hw0
        have HG2:Hid (W.grownBy W2 none):=(show World.grownBy _ _ _ from by rw[←hW2];exact vu HG.out _)
        clear hW2;have q0:=(hz0 0).trans d0;have q1:=(hz0 1).trans d1;have q2:=(hz0 2).trans d2;have q3:=(hz0 3).trans d3;clear hz0 d0 d1 d2 d3 HG hw0;go_wp2
        go_ret
        refine⟨congrArg (λz=>Ending.returned (Value.bool z)) ?_,HG2.out⟩
        first|rfl|(rw[Bool.eq_iff_iff];simp <;> omega)
end Go.Proofs.YtbcbhlfjgobejaaGreat
