/- The vault's Get: the walk. Conditions: none, or as the theorems say. -/
import Derived.Test.YtbcbhlfjgobejaaGreatI1
import Derived.Test.YtbcbhlfjgobejaaGreatI33
set_option linter.unusedSimpArgs false
set_option linter.unusedVariables false
namespace Go.Proofs.YtbcbhlfjgobejaaGreat
set_option maxHeartbeats 200000000
open Go.RowKit Go.Sf Go.Shelf
attribute [local go_sem] Oper.semAt_some
def noKp:KpM:=⟨none,0,none,0,⟨[],0,0,[]⟩,0⟩
theorem zmn:uw noKp=qc:=rfl
def jv (km:List (VID × KpM)) (i:VID):KpM:=(zw km i).getD noKp
def noSh:ShM × Int:=(⟨[],0,0,[]⟩,0)
def Vlt.look (V:Vlt) (i:VID):ShM × Int:=(zw V.sh i).getD noSh
theorem look_kp {W:World} {mb:Nat} {km:List (VID × KpM)} (h:yg W mb yu uw km) (i:VID):(Instr.lookup 221 (.map (some mb)) (yu i) true).run Tryz.prog W = .ok (.tuple #[uw (jv km i),.bool (zw km i).isSome]) W:=by
 rw[h.lookup keID Tryz.underlying221 (Zh W) i true,←zmn,if_pos rfl];unfold jv
 cases zw km i <;> rfl
theorem jq {o:Oper} {a:Act} {w:World} {mb:Nat} {km:List (VID × KpM)} {i:VID} (x y:Operand) (hop:o.op=Op.lookup 221 x y true) (hx:a.eval x = .map (some mb)) (hy:a.eval y=yu i) {v:Value} (hv:Value.tuple #[uw (jv km i),.bool (zw km i).isSome]=v) (h:yg w mb yu uw km):(execOp a.eval o).run Tryz.prog w = .ok (.value v) w:=
 qe x y true hop hx hy (by rw[←hv];exact look_kp h i)
section
variable {own own' : Nat → Prop} {W : World} {vb st db mb : Nat} {km : List (VID × KpM)} {vk : Nat → Prop} {V : Vlt}
theorem zj8 {α β:Type} (f:α→β) (m:List (VID × α)) (k:VID):zw (m.map fun r=>(r.1,f r.2)) k=(zw m k).map f:=by
 induction m with
 | nil=>rfl
 | cons p r ih=>
  obtain⟨a,b⟩:=p;simp only[List.map_cons,zw]
  split
  ·rfl
  ·exact ih
theorem VAt.look (h:VAt own W vb st db mb km vk V) (i:VID):V.look i=((jv km i).s,(jv km i).k)∧(zw V.sh i).isSome=(zw km i).isSome:=by
 have e:=zj8 (fun (p:KpM)=>(p.s,p.k)) km i
 unfold Vlt.look jv;rw[h.she];rw[e]
 cases zw km i <;> exact⟨rfl,rfl⟩
structure KpIn (P:Nat→Prop) (W:World) (x:KpM):Prop where
 key:ye P W (.slice x.pk x.s.key.length x.ck) (zi x.s.key)
 row:ye P W (.slice x.pr x.s.row.length x.cr) (zi x.s.row)
 lk:x.s.key.length≤64
 lr:x.s.row.length≤65536
 bl:BL x.s.key∧BL x.s.row
theorem Qu {P:Nat→Prop} {p:Option Addr} {n c:Nat} {l:List Int} (h:ye P W (.slice p n c) (zi l)):yc W (.slice p n c) l∧(Value.slice p n c = .slice none 0 0→l = []):=by
 refine⟨h.raw,fun e=>?_⟩
 obtain⟨p',cap,e1,_,_,e2⟩:=h.ex
 rcases e2 with e2|⟨a,e2,_⟩
 ·simpa[zi] using e2
 ·rw[e1,e2] at e;cases e
theorem VAt.kp (h:VAt own W vb st db mb km vk V) (i:VID):KpIn (fun k=>vk k∧k≠vb∧k≠mb) W (jv km i):=by
 unfold jv
 cases hg:zw km i with
 | none=>exact⟨zgg _ _,zgg _ _,by decide,by decide,⟨fun x hx=>by simp[noKp] at hx,fun x hx=>by simp[noKp] at hx⟩⟩
 | some x=>
  have:=h.rows _ (uo hg)
  exact⟨this.key,this.row,this.may.k2,this.may.r,this.bl⟩
def ze2 (W:World) (s:ShM) (is:Bool) (e:Ending) (w':World):Prop:=
 ∃qk dk qr dr,e = .returned (.tuple #[shV qk dk qr dr s,.bool is])∧W.grownBy w' none∧ye (fun k=>W.heap.size≤k∧k<w'.heap.size) w' (.slice qk s.key.length dk) (zi s.key)∧ye (fun k=>W.heap.size≤k∧k<w'.heap.size) w' (.slice qr s.row.length dr) (zi s.row)
set_option maxRecDepth 100000 in
theorem vget (h:VAt own W vb st db mb km vk V) (i:VID):Calls Tryz.prog 75 #[.pointer (some ⟨vb,0,none⟩),yu i] W (ze2 W (V.look i).1 (zw V.sh i).isSome):=by
 have hl:=h.look i;rw[hl.1,hl.2];have HM:=zd h.mp;have hkp:=h.kp i;obtain⟨c0,-,-,c3,-,-⟩:=h.cells;have hvb:=h.vlt h.vvb;have hmb:=h.vlt h.vmb;have HIF:Hid (∃x,zw km i=x):=zd ⟨_,rfl⟩;generalize hkx:jv km i=X at *;have HKX:=zd hkx;clear hkx hl h HIF;obtain⟨pk,ck,pr,cr,s,k⟩:=X;have hlt:∀k,(vk k∧k≠vb∧k≠mb)→True:=fun _ _=>trivial
 have HCL:Hid (∀w,W.grownBy w none→Calls Tryz.prog 137 #[.agg #[.slice pk s.key.length ck,.int .i64 s.znm,.int .i64 s.node,.slice pr s.row.length cr]] w fun e w'=>∃qk dk qr dr,e = .returned (.agg #[.slice qk s.key.length dk,.int .i64 s.znm,.int .i64 s.node,.slice qr s.row.length dr])∧w.grownBy w' none∧ye (fun k=>w.heap.size≤k∧k<w'.heap.size) w' (.slice qk s.key.length dk) (zi s.key)∧ye (fun k=>w.heap.size≤k∧k<w'.heap.size) w' (.slice qr s.row.length dr) (zi s.row)):=zd fun w hg=>by
  have k1:=Qu hkp.key;have k2:=Qu hkp.row
  exact zci (k1.1.grown hg (by simp)) (k2.1.grown hg (by simp)) k1.2 k2.2 (by have:=hkp.lk;simp only at this;omega) (by have:=hkp.lr;simp only at this;omega)
 have HLL:Hid (s.key.length≤64∧s.row.length≤65536):=zd ⟨hkp.lk,hkp.lr⟩;clear hkp hlt;obtain⟨key,znm,node,row⟩:=s;unfold ze2 shV;simp only at HCL HLL ⊢;obtain⟨ik,iv⟩:=i;have HI:Hid (yu ⟨ik,iv⟩ = .agg #[.string ik,.int .i64 iv]):=zd rfl;rw[HI.out];generalize hIS:(zw km ⟨ik,iv⟩).isSome=is at *;have HIS:=zd hIS;clear hIS;generalize hla:key.length=la at *;generalize hma:row.length=ma at *;have HLA:=zd hla;have HMA:=zd hma;clear hla hma;have HVV:Hid (Value.tuple #[uw (jv km ⟨ik,iv⟩),.bool (zw km ⟨ik,iv⟩).isSome] = .tuple #[.agg #[.slice pk la ck,.int .i64 znm,.int .i64 node,.slice pr ma cr,.int .i64 k],.bool is]):=zd (by rw[HKX.out,HIS.out,←HLA.out,←HMA.out];rfl)
 go_enter Tryz.func75,Tryz.ntmps75
 go_upto_region 3 with fail
 have hga:=(zg W (.cells #[.string ik,.int .i64 iv] 109) none).trans (zg (W.alloc (.cells #[.string ik,.int .i64 iv] 109)) (.cells #[.slice none 0 0,.int .i64 0,.int .i64 0,.slice none 0 0] 97) none);have ha1:=((zg (W.alloc (.cells #[.string ik,.int .i64 iv] 109)) (.cells #[.slice none 0 0,.int .i64 0,.int .i64 0,.slice none 0 0] 97) none).block W.heap.size (by simp) (by simp)).trans (heap_alloc_new W (.cells #[.string ik,.int .i64 iv] 109))
 have hb1:=heap_alloc_new (W.alloc (.cells #[.string ik,.int .i64 iv] 109)) (.cells #[.slice none 0 0,.int .i64 0,.int .i64 0,.slice none 0 0] 97);rw[show(W.alloc (.cells #[.string ik,.int .i64 iv] 109)).heap.size=W.heap.size+1 by simp] at hb1
 have HGA:=zd hga;have HB1:=zd hb1;have a0:=(zh ha1 0).trans (show _=some (Value.string ik) from rfl)
 have a1:=(zh ha1 1).trans (show _=some (Value.int .i64 iv) from rfl)
 replace c3:=hga.cell c3 (by simp)
 clear hga ha1 hb1 c0;generalize hb2:W.heap.size+1=b2 at *;generalize hb1:W.heap.size=b1 at *;have HBB:Hid (W.heap.size=b1∧b1+1=b2):=zd ⟨hb1,hb2⟩;have HMM:=zd (HM.out.kept HGA.out (by simp))
 clear hb1 hb2 HM;generalize (W.alloc (.cells #[.string ik,.int .i64 iv] 109)).alloc (.cells #[.slice none 0 0,.int .i64 0,.int .i64 0,.slice none 0 0] 97)=W1 at *;refine wp_region_held_drew (S:=fun w=>w.cell? ⟨vb,3,none⟩=some (.map (some mb))∧w.cell? ⟨b1,0,none⟩=some (.string ik)∧w.cell? ⟨b1,1,none⟩=some (.int .i64 iv)∧yg w mb yu uw km) (by kernel_rfl) ⟨c3,a0,a1,HMM.out⟩ (fun hHeld=>?_)
 refine tk (i:=0) (oi:=⟨some 12,Op.move (Operand.tmp 0),_,_,_,none⟩) (v:=?_) rfl hHeld ?_ ?_;rotate_left
 ·rintro w ⟨s1,s2,s3,s4⟩;go_simp;try with_reducible rfl
 (try simp only[Act.put,za,zb,zc])
 refine tk (i:=1) (oi:=⟨some 13,Op.nilCheck (Operand.tmp 12),_,_,_,none⟩) (v:=?_) rfl hHeld ?_ ?_;rotate_left
 ·rintro w ⟨s1,s2,s3,s4⟩;go_simp;try with_reducible rfl
 (try simp only[Act.put,za,zb,zc])
 refine tk (i:=2) (oi:=⟨some 14,Op.fieldAddr 224 (Operand.tmp 13) 3,_,_,_,none⟩) (v:=?_) rfl hHeld ?_ ?_;rotate_left
 ·rintro w ⟨s1,s2,s3,s4⟩;go_simp;try with_reducible rfl
 (try simp only[Act.put,za,zb,zc])
 refine tk (i:=3) (oi:=⟨some 15,Op.load 221 (Operand.tmp 14),_,_,_,none⟩) (v:=?_) rfl hHeld ?_ ?_;rotate_left
 ·rintro w ⟨s1,s2,s3,s4⟩;go_simp;try with_reducible rfl
 (try simp only[Act.put,za,zb,zc])
 refine tk (i:=4) (oi:=⟨some 16,Op.load 109 (Operand.tmp 3),_,_,_,none⟩) (v:=?_) rfl hHeld ?_ ?_;rotate_left
 ·rintro w ⟨s1,s2,s3,s4⟩;go_simp;try with_reducible rfl
 (try simp only[Act.put,za,zb,zc])
 refine wpAnyH_take (i:=5) (oi:=⟨some 17,Op.lookup 221 (Operand.tmp 15) (Operand.tmp 16) true,_,_,_,none⟩) (v:=.tuple #[.agg #[.slice pk la ck,.int .i64 znm,.int .i64 node,.slice pr ma cr,.int .i64 k],.bool is]) rfl (by kernel_rfl) (by kernel_rfl) (by kernel_rfl) (fun _ _ _ h=>h) (Or.inl ⟨by rfl,fun w hSw=>jq (i:=⟨ik,iv⟩) _ _ (by rfl) (by rfl) (by rfl) HVV.out hSw.2.2.2⟩) hHeld ?_
 (try simp only[Act.put,za,zb,zc])
 refine tk (i:=6) (oi:=⟨some 11,Op.move (Operand.tmp 17),_,_,_,none⟩) (v:=?_) rfl hHeld ?_ ?_;rotate_left
 ·rintro w -;go_simp;try with_reducible rfl
 (try simp only[Act.put,za,zb,zc])
 refine tk (i:=7) (oi:=⟨some 18,Op.extract (Operand.tmp 11) 0,_,_,_,none⟩) (v:=?_) rfl hHeld ?_ ?_;rotate_left
 ·rintro w -;go_simp;try with_reducible rfl
 (try simp only[Act.put,za,zb,zc])
 refine tk (i:=8) (oi:=⟨some 19,Op.extract (Operand.tmp 11) 1,_,_,_,none⟩) (v:=?_) rfl hHeld ?_ ?_;rotate_left
 ·rintro w -;go_simp;try with_reducible rfl
 (try simp only[Act.put,za,zb,zc])
 have hg5:=zg W1.drew (.cells qc.cells 226) none;have hg6:=zg W1.drew (.cells #[.slice pk la ck,.int .i64 znm,.int .i64 node,.slice pr ma cr,.int .i64 k] 226) none;refine wpAnyH_ready (rs:=[9]) (by kernel_rfl) (by simp) ?_
 refine AllReadyH.cons (o:=⟨some 6,Op.alloc 226,_,_,_,none⟩) rfl (fun K hK=>?_) AllReadyH.nil
 refine xw rfl (ve 226 rfl Zh) ?_;refine hK.out _ _ ⟨hg5.cell hHeld.1 (by simp),hg5.cell hHeld.2.1 (by simp),hg5.cell hHeld.2.2.1 (by simp),hHeld.2.2.2.kept hg5 (by simp)⟩ (fun hHeld=>?_)
 clear hK K
 (try simp only[Act.put,za,zb,zc])
 refine wpAnyH_ready (rs:=[10]) (by kernel_rfl) (by simp) ?_
 refine AllReadyH.cons (o:=⟨none,Op.store 226 (Operand.tmp 6) (Operand.tmp 18),_,_,_,none⟩) rfl (fun K hK=>?_) AllReadyH.nil
 refine xc rfl (qi 226 _ _ rfl _ #[.slice pk la ck,.int .i64 znm,.int .i64 node,.slice pr ma cr,.int .i64 k] _ rfl rfl (by kernel_rfl) rfl (by simp[Value.oneCell'])) ?_
 refine hK.out _ _ ⟨hg6.cell c3 (by simp),hg6.cell a0 (by simp),hg6.cell a1 (by simp),yg.kept (HMM.out.kept (zl (zm _)) (by simp)) hg6 (by simp)⟩ (fun hHeld=>?_)
 clear hK K
 (try simp only[Act.put,za,zb,zc])
 refine tk (i:=11) (oi:=⟨some 7,Op.assign (Operand.tmp 19),_,_,_,none⟩) (v:=?_) rfl hHeld ?_ ?_;rotate_left
 ·rintro w -;go_simp;try with_reducible rfl
 (try simp only[Act.put,za,zb,zc])
 refine wpAnyH_done (by kernel_rfl) ?_ _
 have d5:=heap_alloc_new W1.drew (.cells #[.slice pk la ck,.int .i64 znm,.int .i64 node,.slice pr ma cr,.int .i64 k] 226);have HB2:Hid ((W1.drew.alloc (.cells #[.slice pk la ck,.int .i64 znm,.int .i64 node,.slice pr ma cr,.int .i64 k] 226)).heap[b2]? = some (.cells #[.slice none 0 0,.int .i64 0,.int .i64 0,.slice none 0 0] 97 (0,0))):=zd ((hg6.block b2 (Array.getElem?_eq_some_iff.1 HB1.out).1 (by simp)).trans HB1.out)
 have HG6:=zd (zu (zl HGA.out) (.cells #[.slice pk la ck,.int .i64 znm,.int .i64 node,.slice pr ma cr,.int .i64 k] 226));have d0:=(zh d5 0).trans (show _=some (Value.slice pk la ck) from rfl)
 have d1:=(zh d5 1).trans (show _=some (Value.int .i64 znm) from rfl)
 have d2:=(zh d5 2).trans (show _=some (Value.int .i64 node) from rfl)
 have d3:=(zh d5 3).trans (show _=some (Value.slice pr ma cr) from rfl)
 clear hg5 hg6 d5 hHeld HB1 c3 a0 a1 HMM;generalize hbb:W1.drew.heap.size=bb at *;clear hbb;generalize W1.drew.alloc (.cells #[.slice pk la ck,.int .i64 znm,.int .i64 node,.slice pr ma cr,.int .i64 k] 226)=w6 at *
 go_upto_region 4 with fail
 go_wp2_with (go_at_call 137;refine(HCL.out w6 HG6.out).mono ?_;rintro e w7 ⟨qk,dk,qr,dr,rfl,hg,hk,hr⟩;have HB7:=zd ((hg.block b2 (Array.getElem?_eq_some_iff.1 HB2.out).1 (by simp)).trans HB2.out);have HG7:=zd hg;have HK7:=zd hk;have HR7:=zd hr;obtain⟨x0,x1,x2,x3,xf⟩:=yx HB7.out;clear hg hk hr)
 have hfin:=set4 HB7.out (.slice qk la dk) (.int .i64 znm) (.int .i64 node) (.slice qr ma dr);refine bodyPost_ret (vm rfl _ _ b2 97 #[.slice qk la dk,.int .i64 znm,.int .i64 node,.slice qr ma dr] (0,0) _ rfl hfin rfl Tryz.underlying97 (by kernel_rfl)) rfl ?_
 have hw2:W.heap.size≤b2:=by have:=HBB.out;omega
 have hz6:W.heap.size≤w6.heap.size:=HG6.out.size;have hb6:b2<w6.heap.size:=(Array.getElem?_eq_some_iff.1 HB2.out).1;refine⟨qk,dk,qr,dr,rfl,Ze (HG6.out.trans HG7.out) hw2,?_,?_⟩
 ·refine(ye.turn HK7.out fun k hk=>?_).mono fun k hk=>⟨by omega,by show k<(Zv w7 b2 (.slice qk la dk) (.int .i64 znm) (.int .i64 node) (.slice qr ma dr)).heap.size;rw[Jb];exact hk.2⟩
  exact(Yw w7 b2 _ _ _ _).block k hk.2 (fun e=>by have:=Option.some.inj e;omega)
 ·refine(ye.turn HR7.out fun k hk=>?_).mono fun k hk=>⟨by omega,by show k<(Zv w7 b2 (.slice qk la dk) (.int .i64 znm) (.int .i64 node) (.slice qr ma dr)).heap.size;rw[Jb];exact hk.2⟩
  exact(Yw w7 b2 _ _ _ _).block k hk.2 (fun e=>by have:=Option.some.inj e;omega)
end
attribute [local go_sem] Oper.semAt_some
def Vlt.less (V:Vlt) (i:VID):Vlt:={ V with sh:=qn V.sh i }
def Vlt.drop (V:Vlt) (i:VID):Vlt × Int:=
 if V.broken≠0 then (V,V.broken)
 else if (zw V.sh i).isSome=false then (V,5)
 else if (V.rem (V.look i).2).2≠0 then V.rem (V.look i).2
 else ((V.rem (V.look i).2).1.less i,0)
theorem zj6 {α β:Type} (f:VID × α→VID × β) (hf:∀p,(f p).1=p.1) (m:List (VID × α)) (k:VID):qn (m.map f) k=(qn m k).map f:=by
 unfold qn
 induction m with
 | nil=>rfl
 | cons p r ih=>
  by_cases h:p.1=k
  ·simp only[List.map_cons,List.filter_cons,hf,h]
   simpa using ih
  ·simp only[List.map_cons,List.filter_cons,hf]
   simp only[ne_eq,h,not_false_eq_true,decide_true,if_true,List.map_cons,List.cons.injEq,true_and]
   exact ih
theorem drop_a {V:Vlt} (h:V.broken≠0) (i:VID):V.drop i=(V,V.broken):=by unfold Vlt.drop;rw[if_pos h]
theorem drop_b {V:Vlt} (h:V.broken=0) {i:VID} (hn:(zw V.sh i).isSome=false):V.drop i=(V,5):=by unfold Vlt.drop;rw[if_neg (by simp[h]),if_pos hn]
theorem drop_c {V:Vlt} (h:V.broken=0) {i:VID} (hn:(zw V.sh i).isSome=true) {k r:Int} {V3:Vlt} (hr:V.rem (V.look i).2=(V3,r)) (h0:r≠0):V.drop i=(V3,r):=by unfold Vlt.drop;rw[if_neg (by simp[h]),if_neg (by simp[hn]),hr,if_pos h0]
theorem drop_d {V:Vlt} (h:V.broken=0) {i:VID} (hn:(zw V.sh i).isSome=true) {V3:Vlt} (hr:V.rem (V.look i).2=(V3,0)):V.drop i=(V3.less i,0):=by unfold Vlt.drop;rw[if_neg (by simp[h]),if_neg (by simp[hn]),hr,if_neg (by simp)]
section
variable {own own' : Nat → Prop} {W : World} {vb st db mb : Nat} {km : List (VID × KpM)} {vk : Nat → Prop} {V : Vlt}
theorem VAt.gone (h:VAt own W vb st db mb km vk V) (i:VID) {w':World} (hm:yg w' mb yu uw (qn km i)) (hg:W.grownBy w' (some mb)) (hz:w'.heap.size=W.heap.size):(∃km' vk',VAt own w' vb st db mb km' vk' (V.less i))∧zq (fun k=>¬own k) W w':=by
 have h1:=h.map (V':=V.less i) (zm W) hg hz hm (fun p hp=>Or.inl ((List.mem_filter.1 hp).1)) (by
  show qn V.sh i=_
  rw[h.she]
  exact zj6 (fun p=>(p.1,(p.2.s,p.2.k))) (fun _=>rfl) km i) rfl ⟨rfl,rfl,rfl⟩
 exact⟨⟨_,_,h1.1⟩,h1.2⟩
set_option maxRecDepth 100000 in
theorem vdrop (h:VAt own W vb st db mb km vk V) (i:VID) (hf:V.S.d.late.length<1000000):Calls Tryz.prog 69 #[.pointer (some ⟨vb,0,none⟩),yu i] W (VPost own W vb st db mb (V.drop i)):=by
 have HB:Hid (∀w,W.grownBy w none→Calls Tryz.prog 79 #[.pointer (some ⟨vb,0,none⟩)] w fun e w'=>e = .returned (.int .i64 V.broken)∧w'=w):=zd fun w hg=>zew (h.grown hg)
 have H:=zd h;have hl:=h.look i;have HM:=zd h.mp;obtain⟨c0,-,-,c3,-,-⟩:=h.cells;have HDA:=zd fun hb=>drop_a (V:=V) hb i
 have HDB:=zd fun hb hn=>drop_b (V:=V) (i:=i) hb hn
 have HDC:=zd fun hb hn (k:Int) V3 r hr h0=>drop_c (V:=V) (i:=i) hb hn (k:=k) (r:=r) (V3:=V3) hr h0
 have HDD:=zd fun hb hn V3 hr=>drop_d (V:=V) (i:=i) hb hn (V3:=V3) hr
 have HOT:Hid (∀w',W.grownBy w' none→VAt (fun k=>own k∨(W.heap.size≤k∧k<w'.heap.size)) w' vb st db mb km vk V):=zd fun w' hg=>H.out.oth ⟨hg.os,hg.tape,hg.output,hg.size,fun k hk _=>hg.block k hk (by simp)⟩ (fun k hk=>hk.imp id And.left) (fun k hk=>hk.elim (fun e=>Nat.lt_of_lt_of_le (H.out.olt e) hg.size) And.right)
 have HLK:=zd (show(V.look i).2=(jv km i).k∧(zw V.sh i).isSome=(zw km i).isSome from ⟨by rw[hl.1],hl.2⟩)
 have HRM:Hid (∀k,V.rem k=(({ V with S:=(V.S.rem k).1 }:Vlt).met (V.S.rem k).2,(V.S.rem k).2)):=zd fun _=>rfl
 have HF:=zd hf;generalize V.drop i=VD at *
 by_cases hb0:V.broken=0
 ·rw[hb0] at HB
  generalize hkx:jv km i=X at *;have HKX:=zd hkx;clear hkx hl h hf;obtain⟨pk,ck,pr,cr,s,k⟩:=X;obtain⟨key,znm,node,row⟩:=s;simp only at HLK;obtain⟨ik,iv⟩:=i;have HI:Hid (yu ⟨ik,iv⟩ = .agg #[.string ik,.int .i64 iv]):=zd rfl;rw[HI.out];generalize hIS:(zw km ⟨ik,iv⟩).isSome=is at *;have HIS:=zd hIS;clear hIS;generalize hla:key.length=la at *;generalize hma:row.length=ma at *;have HLA:=zd hla;have HMA:=zd hma;clear hla hma;have HVV:Hid (Value.tuple #[uw (jv km ⟨ik,iv⟩),.bool (zw km ⟨ik,iv⟩).isSome] = .tuple #[.agg #[.slice pk la ck,.int .i64 znm,.int .i64 node,.slice pr ma cr,.int .i64 k],.bool is]):=zd (by rw[HKX.out,HIS.out,←HLA.out,←HMA.out];rfl)
  go_enter Tryz.func69,Tryz.ntmps69
  go_upto_region 1 with fail
  have hga:=zg W (.cells #[.string ik,.int .i64 iv] 109) none;have ha1:=heap_alloc_new W (.cells #[.string ik,.int .i64 iv] 109);have HGA:=zd hga;have a0:=(zh ha1 0).trans (show _=some (Value.string ik) from rfl)
  have a1:=(zh ha1 1).trans (show _=some (Value.int .i64 iv) from rfl)
  replace c3:=hga.cell c3 (by simp)
  clear hga ha1 c0;generalize hb1:W.heap.size=b1 at *;have HBB:=zd hb1;have HMM:=zd (HM.out.kept HGA.out (by simp))
  clear hb1 HM;generalize W.alloc (.cells #[.string ik,.int .i64 iv] 109)=W1 at *
  go_upto_region 4 with (go_at_call 79;refine(HB.out W1 HGA.out).mono ?_;rintro e w9 ⟨rfl,h5⟩;obtain rfl:W1=w9:=h5.symm)
  refine wp_region_held_drew (S:=fun w=>w.cell? ⟨vb,3,none⟩=some (.map (some mb))∧w.cell? ⟨b1,0,none⟩=some (.string ik)∧w.cell? ⟨b1,1,none⟩=some (.int .i64 iv)∧yg w mb yu uw km) (by kernel_rfl) ⟨c3,a0,a1,HMM.out⟩ (fun hHeld=>?_)
  refine tk (i:=0) (oi:=⟨some 15,Op.move (Operand.tmp 0),_,_,_,none⟩) (v:=?_) rfl hHeld ?_ ?_;rotate_left
  ·rintro w ⟨s1,s2,s3,s4⟩;go_simp;try with_reducible rfl
  (try simp only[Act.put,za,zb,zc])
  refine tk (i:=1) (oi:=⟨some 16,Op.nilCheck (Operand.tmp 15),_,_,_,none⟩) (v:=?_) rfl hHeld ?_ ?_;rotate_left
  ·rintro w ⟨s1,s2,s3,s4⟩;go_simp;try with_reducible rfl
  (try simp only[Act.put,za,zb,zc])
  refine tk (i:=2) (oi:=⟨some 17,Op.fieldAddr 224 (Operand.tmp 16) 3,_,_,_,none⟩) (v:=?_) rfl hHeld ?_ ?_;rotate_left
  ·rintro w ⟨s1,s2,s3,s4⟩;go_simp;try with_reducible rfl
  (try simp only[Act.put,za,zb,zc])
  refine tk (i:=3) (oi:=⟨some 18,Op.load 221 (Operand.tmp 17),_,_,_,none⟩) (v:=?_) rfl hHeld ?_ ?_;rotate_left
  ·rintro w ⟨s1,s2,s3,s4⟩;go_simp;try with_reducible rfl
  (try simp only[Act.put,za,zb,zc])
  refine tk (i:=4) (oi:=⟨some 19,Op.load 109 (Operand.tmp 3),_,_,_,none⟩) (v:=?_) rfl hHeld ?_ ?_;rotate_left
  ·rintro w ⟨s1,s2,s3,s4⟩;go_simp;try with_reducible rfl
  (try simp only[Act.put,za,zb,zc])
  refine wpAnyH_take (i:=5) (oi:=⟨some 20,Op.lookup 221 (Operand.tmp 18) (Operand.tmp 19) true,_,_,_,none⟩) (v:=.tuple #[.agg #[.slice pk la ck,.int .i64 znm,.int .i64 node,.slice pr ma cr,.int .i64 k],.bool is]) rfl (by kernel_rfl) (by kernel_rfl) (by kernel_rfl) (fun _ _ _ h=>h) (Or.inl ⟨by rfl,fun w hSw=>jq (i:=⟨ik,iv⟩) _ _ (by rfl) (by rfl) (by rfl) HVV.out hSw.2.2.2⟩) hHeld ?_
  (try simp only[Act.put,za,zb,zc])
  refine tk (i:=6) (oi:=⟨some 14,Op.move (Operand.tmp 20),_,_,_,none⟩) (v:=?_) rfl hHeld ?_ ?_;rotate_left
  ·rintro w -;go_simp;try with_reducible rfl
  (try simp only[Act.put,za,zb,zc])
  refine tk (i:=7) (oi:=⟨some 21,Op.extract (Operand.tmp 14) 0,_,_,_,none⟩) (v:=?_) rfl hHeld ?_ ?_;rotate_left
  ·rintro w -;go_simp;try with_reducible rfl
  (try simp only[Act.put,za,zb,zc])
  refine tk (i:=8) (oi:=⟨some 22,Op.extract (Operand.tmp 14) 1,_,_,_,none⟩) (v:=?_) rfl hHeld ?_ ?_;rotate_left
  ·rintro w -;go_simp;try with_reducible rfl
  (try simp only[Act.put,za,zb,zc])
  have hg5:=zg W1.drew (.cells qc.cells 226) none;have hg6:=zg W1.drew (.cells #[.slice pk la ck,.int .i64 znm,.int .i64 node,.slice pr ma cr,.int .i64 k] 226) none;refine wpAnyH_ready (rs:=[9]) (by kernel_rfl) (by simp) ?_
  refine AllReadyH.cons (o:=⟨some 6,Op.alloc 226,_,_,_,none⟩) rfl (fun K hK=>?_) AllReadyH.nil
  refine xw rfl (ve 226 rfl Zh) ?_;refine hK.out _ _ ⟨hg5.cell hHeld.1 (by simp),hg5.cell hHeld.2.1 (by simp),hg5.cell hHeld.2.2.1 (by simp),hHeld.2.2.2.kept hg5 (by simp)⟩ (fun hHeld=>?_)
  clear hK K
  (try simp only[Act.put,za,zb,zc])
  refine wpAnyH_ready (rs:=[10]) (by kernel_rfl) (by simp) ?_
  refine AllReadyH.cons (o:=⟨none,Op.store 226 (Operand.tmp 6) (Operand.tmp 21),_,_,_,none⟩) rfl (fun K hK=>?_) AllReadyH.nil
  refine xc rfl (qi 226 _ _ rfl _ #[.slice pk la ck,.int .i64 znm,.int .i64 node,.slice pr ma cr,.int .i64 k] _ rfl rfl (by kernel_rfl) rfl (by simp[Value.oneCell'])) ?_
  refine hK.out _ _ ⟨hg6.cell c3 (by simp),hg6.cell a0 (by simp),hg6.cell a1 (by simp),yg.kept (HMM.out.kept (zl (zm _)) (by simp)) hg6 (by simp)⟩ (fun hHeld=>?_)
  clear hK K
  (try simp only[Act.put,za,zb,zc])
  refine tk (i:=11) (oi:=⟨some 7,Op.assign (Operand.tmp 22),_,_,_,none⟩) (v:=?_) rfl hHeld ?_ ?_;rotate_left
  ·rintro w -;go_simp;try with_reducible rfl
  (try simp only[Act.put,za,zb,zc])
  refine wpAnyH_done (by kernel_rfl) ?_ _
  have d5:=heap_alloc_new W1.drew (.cells #[.slice pk la ck,.int .i64 znm,.int .i64 node,.slice pr ma cr,.int .i64 k] 226);have HG6:=zd (zu (zl HGA.out) (.cells #[.slice pk la ck,.int .i64 znm,.int .i64 node,.slice pr ma cr,.int .i64 k] 226));have d4:=(zh d5 4).trans (show _=some (Value.int .i64 k) from rfl)
  have e0:=hg6.cell a0 (by simp)
  have e1:=hg6.cell a1 (by simp)
  have hbs:W1.heap.size=W1.drew.heap.size:=rfl;have hb1w:b1<W1.heap.size:=xg a0;clear hg5 hg6 d5 hHeld c3 a0 a1 HMM;generalize hbb:W1.drew.heap.size=bb at *;have HBB2:Hid (b1<bb):=zd (by omega)
  clear hbb hbs hb1w;generalize W1.drew.alloc (.cells #[.slice pk la ck,.int .i64 znm,.int .i64 node,.slice pr ma cr,.int .i64 k] 226)=w6 at *
  cases is with
  | false=>
   have HP:=zd (HDB.out hb0 (HLK.out.2));go_wp2
   go_ret
   exact⟨by rw[HP.out];rfl,⟨_,_,by rw[HP.out];exact H.out.grown HG6.out⟩,yl HG6.out⟩
  | true=>
   have HGD:=zd (zl HG6.out);replace e0:w6.drew.cell? ⟨b1,0,none⟩=some (.string ik):=e0;replace e1:w6.drew.cell? ⟨b1,1,none⟩=some (.int .i64 iv):=e1;replace d4:w6.drew.cell? ⟨bb,4,none⟩=some (.int .i64 k):=d4;have hv6:=HOT.out w6.drew HGD.out;have HRV:=zd (zbe hv6 k HF.out);obtain⟨c0,-⟩:=hv6.cells;have hbl:=xg e0;have hdl:=xg d4;have HBT:Hid (∀w',zq (fun k=>¬(own k∨(b1≤k∧k<w6.drew.heap.size))) w6.drew w'→w'.cell? ⟨b1,0,none⟩=some (.string ik)∧w'.cell? ⟨b1,1,none⟩=some (.int .i64 iv)∧w'.cell? ⟨bb,4,none⟩=some (.int .i64 k)):=zd fun w' ht=>by
    have q1:=ht.block b1 hbl (fun e=>e (Or.inr ⟨Nat.le_refl _,hbl⟩))
    have q2:=ht.block bb hdl (fun e=>e (Or.inr ⟨by have:=HBB2.out;omega,hdl⟩))
    refine⟨?_,?_,?_⟩
    ·rw[←e0];simp only[World.cell?,q1]
    ·rw[←e1];simp only[World.cell?,q1]
    ·rw[←d4];simp only[World.cell?,q2]
   have HR:=HRM.out k;rw[←HLK.out.1] at HR;have HC:=HDC.out hb0 HLK.out.2 k;have HD:=HDD.out hb0 HLK.out.2;rw[HR] at HC HD;rw[HLK.out.1] at HC HD;have HCC:=zd HC;have HDX:=zd HD;clear hv6 HDA HDB HDC HDD HRM HR HC HD HB hbl hdl;generalize hV3:({ V with S:=(V.S.rem k).1 }:Vlt)=V3 at *
   clear hV3;generalize (V.S.rem k).2=r3 at *;replace d4:w6.cell? ⟨bb,4,none⟩=some (.int .i64 k):=d4;replace c0:w6.cell? ⟨vb,0,none⟩=some (.pointer (some ⟨st,0,none⟩)):=c0;clear e0 e1
   go_upto_region 7 with fail
   refine wp_region_held_drew (S:=fun w=>w.cell? ⟨vb,0,none⟩=some (.pointer (some ⟨st,0,none⟩))∧w.cell? ⟨bb,4,none⟩=some (.int .i64 k)) (by kernel_rfl) ⟨c0,d4⟩ (fun hHeld=>?_)
   refine tk (i:=0) (oi:=⟨some 25,Op.move (Operand.tmp 0),_,_,_,none⟩) (v:=?_) rfl hHeld ?_ ?_;rotate_left
   ·rintro w ⟨s1,s2⟩;go_simp;try with_reducible rfl
   (try simp only[Act.put,za,zb,zc])
   refine tk (i:=1) (oi:=⟨some 26,Op.move (Operand.tmp 0),_,_,_,none⟩) (v:=?_) rfl hHeld ?_ ?_;rotate_left
   ·rintro w ⟨s1,s2⟩;go_simp;try with_reducible rfl
   (try simp only[Act.put,za,zb,zc])
   refine tk (i:=2) (oi:=⟨some 27,Op.nilCheck (Operand.tmp 26),_,_,_,none⟩) (v:=?_) rfl hHeld ?_ ?_;rotate_left
   ·rintro w ⟨s1,s2⟩;go_simp;try with_reducible rfl
   (try simp only[Act.put,za,zb,zc])
   refine tk (i:=3) (oi:=⟨some 28,Op.fieldAddr 224 (Operand.tmp 27) 0,_,_,_,none⟩) (v:=?_) rfl hHeld ?_ ?_;rotate_left
   ·rintro w ⟨s1,s2⟩;go_simp;try with_reducible rfl
   (try simp only[Act.put,za,zb,zc])
   refine tk (i:=4) (oi:=⟨some 29,Op.load 24 (Operand.tmp 28),_,_,_,none⟩) (v:=?_) rfl hHeld ?_ ?_;rotate_left
   ·rintro w ⟨s1,s2⟩;go_simp;try with_reducible rfl
   (try simp only[Act.put,za,zb,zc])
   refine tk (i:=5) (oi:=⟨some 30,Op.fieldAddr 226 (Operand.tmp 6) 1,_,_,_,none⟩) (v:=?_) rfl hHeld ?_ ?_;rotate_left
   ·rintro w ⟨s1,s2⟩;go_simp;try with_reducible rfl
   (try simp only[Act.put,za,zb,zc])
   refine tk (i:=6) (oi:=⟨some 31,Op.load 2 (Operand.tmp 30),_,_,_,none⟩) (v:=?_) rfl hHeld ?_ ?_;rotate_left
   ·rintro w ⟨s1,s2⟩;go_simp;try with_reducible rfl
   (try simp only[Act.put,za,zb,zc])
   generalize w6.drew=x6 at *;refine wpAnyH_ready (rs:=[7]) (by kernel_rfl) (by simp) ?_
   refine AllReadyH.cons (o:=⟨some 32,Op.call { callee:=Callee.value (Operand.func 30),args:=#[Operand.tmp 29,Operand.tmp 31],argTypes:=#[24,2] },_,_,_,none⟩) rfl (fun K hK=>?_) AllReadyH.nil
   go_simp
   go_at_call 30
   refine HRV.out.mono ?_;rintro e w7 ⟨rfl,hv7,ht7⟩;have HV7:=zd hv7;have HT7:=zd ht7;obtain⟨c7,-⟩:=hv7.cells;have g4:=(HBT.out w7 ht7).2.2;clear hv7 ht7;refine hK.out _ _ ⟨c7,g4⟩ (fun hHeld=>?_)
   clear hK K
   (try simp only[Act.put,za,zb,zc])
   refine wpAnyH_ready (rs:=[8]) (by kernel_rfl) (by simp) ?_
   refine AllReadyH.cons (o:=⟨some 33,Op.call { callee:=Callee.value (Operand.func 135),args:=#[Operand.tmp 25,Operand.tmp 32],argTypes:=#[92,25] },_,_,_,none⟩) rfl (fun K hK=>?_) AllReadyH.nil
   go_simp
   go_at_call 135
   refine(vmet HV7.out r3).mono ?_;rintro e w8 ⟨rfl,hv8,ht8⟩;have HV8:=zd hv8;have HT8:=zd (HT7.out.trans ht8);obtain⟨c8,-,-,c8m,-,-⟩:=hv8.cells;obtain⟨f0,f1,g8⟩:=(HBT.out w8 HT8.out);clear hv8 ht8;refine hK.out _ _ ⟨c8,g8⟩ (fun hHeld=>?_)
   clear hK K
   (try simp only[Act.put,za,zb,zc])
   refine tk (i:=9) (oi:=⟨some 8,Op.assign (Operand.tmp 33),_,_,_,none⟩) (v:=?_) rfl hHeld ?_ ?_;rotate_left
   ·rintro w -;go_simp;try with_reducible rfl
   (try simp only[Act.put,za,zb,zc])
   refine wpAnyH_done (by kernel_rfl) ?_ _
   clear hHeld c0 d4 g4 c7 c8 g8
   by_cases hr:r3=0
   ·subst hr
    have HP:=zd (HDX.out _ rfl);clear HCC HDX
    go_upto_region 9 with fail
    go_still_tail 5,(by kernel_rfl)
    go_wp2_with (at_delete;refine Vw (ek:=yu) (ev:=uw) _ rfl _ _ 221 109 rfl keID Tryz.underlying221 mb km rfl ((zj5 _).2 HV8.out.mp) ⟨ik,iv⟩ rfl ?_;intro w9 hm9 hg9 hs9)
    go_ret
    have hv9:=(HV8.out.grown (zl (zm _))).gone ⟨ik,iv⟩ hm9 hg9 hs9;obtain⟨⟨km',vk',hv9⟩,ht9⟩:=hv9;refine⟨by rw[HP.out];rfl,⟨km',vk',by rw[HP.out];exact hv9.less fun k hk=>Or.inl hk⟩,(yl HGD.out).trans ((HT8.out.trans ((yl (zl (zm _))).trans ht9)).mono fun k hk e=>hk (Or.inl e))⟩
   ·have HP:=zd (HCC.out _ _ rfl hr)
    have hb:(r3 == 0)=false:=by simp[hr]
    clear HCC HDX;go_wp2
    go_ret
    exact⟨by rw[HP.out];rfl,⟨_,_,by rw[HP.out];exact HV8.out.less fun k hk=>Or.inl hk⟩,(yl HGD.out).trans (HT8.out.mono fun k hk e=>hk (Or.inl e))⟩
 ·have HP:=zd (HDA.out hb0)
  have hb1:(V.broken != 0)=true:=by simp[hb0]
  obtain⟨ik,iv⟩:=i;have HI:Hid (yu ⟨ik,iv⟩ = .agg #[.string ik,.int .i64 iv]):=zd rfl;rw[HI.out];clear h hf hl HLK;generalize V.broken=br at *
  go_enter Tryz.func69,Tryz.ntmps69
  have HGA:=zd (zg W (.cells #[.string ik,.int .i64 iv] 109) none)
  go_upto_region 1 with fail
  generalize W.alloc (.cells #[.string ik,.int .i64 iv] 109)=W1 at *
  go_wp2_with (go_at_call 79;refine(HB.out W1 HGA.out).mono ?_;rintro e w9 ⟨rfl,h5⟩;obtain rfl:W1=w9:=h5.symm)
  go_ret
  exact⟨by rw[HP.out];rfl,⟨_,_,by rw[HP.out];exact H.out.grown HGA.out⟩,yl HGA.out⟩
end
attribute [local go_sem] Oper.semAt_some
instance:DecidableEq ShM:=fun a b=>decidable_of_iff _ (zjh a b).symm
def Vlt.keep (V:Vlt) (i:VID) (s:ShM) (k:Int):Vlt:={ V with sh:=yj V.sh i (s,k) }
def Vlt.putS (V:Vlt) (s:ShM):Vlt × Int:=
 if V.broken≠0 then (V,V.broken)
 else if Xf s.key.length s.znm s.node s.row.length=false then (V,2)
 else if V.life=0 then (V,4)
 else if (zw V.sh (idS s)).isSome=true∧(V.look (idS s)).1=s then (V,0)
 else if (V.S.put (83 :: vh s)).2.2≠0 then (V.put 83 (vh s),(V.S.put (83 :: vh s)).2.2)
 else if (zw V.sh (idS s)).isSome=true then ((V.put 83 (vh s)).keep (idS s) s (V.S.put (83 :: vh s)).2.1).rem (V.look (idS s)).2
 else ((V.put 83 (vh s)).keep (idS s) s (V.S.put (83 :: vh s)).2.1,0)
section
variable {V : Vlt} {s : ShM}
theorem putS_a (h:V.broken≠0) (s:ShM):V.putS s=(V,V.broken):=by unfold Vlt.putS;rw[if_pos h]
theorem zmz (h:V.broken=0) (hm:Xf s.key.length s.znm s.node s.row.length=false):V.putS s=(V,2):=by unfold Vlt.putS;rw[if_neg (by simp[h]),if_pos hm]
theorem zh3 (h:V.broken=0) (hm:Xf s.key.length s.znm s.node s.row.length=true) (hl:V.life=0):V.putS s=(V,4):=by unfold Vlt.putS;rw[if_neg (by simp[h]),if_neg (by simp[hm]),if_pos hl]
theorem zer (h:V.broken=0) (hm:Xf s.key.length s.znm s.node s.row.length=true) (hl:¬V.life=0) (hs:(zw V.sh (idS s)).isSome=true∧(V.look (idS s)).1=s):V.putS s=(V,0):=by unfold Vlt.putS;rw[if_neg (by simp[h]),if_neg (by simp[hm]),if_neg hl,if_pos hs]
theorem zh4 (h:V.broken=0) (hm:Xf s.key.length s.znm s.node s.row.length=true) (hl:¬V.life=0) (hs:¬((zw V.sh (idS s)).isSome=true∧(V.look (idS s)).1=s)) {r1 r2:Int} {S2:Sto} (hp:V.S.put (83 :: vh s)=(S2,r1,r2)) (hr:r2≠0):V.putS s=(V.put 83 (vh s),r2):=by unfold Vlt.putS;rw[if_neg (by simp[h]),if_neg (by simp[hm]),if_neg hl,if_neg hs,hp,if_pos hr]
theorem zh5 (h:V.broken=0) (hm:Xf s.key.length s.znm s.node s.row.length=true) (hl:¬V.life=0) (hs:¬((zw V.sh (idS s)).isSome=true∧(V.look (idS s)).1=s)) {r1:Int} {S2:Sto} (hp:V.S.put (83 :: vh s)=(S2,r1,0)) (hi:(zw V.sh (idS s)).isSome=true):V.putS s=((V.put 83 (vh s)).keep (idS s) s r1).rem (V.look (idS s)).2:=by unfold Vlt.putS;rw[if_neg (by simp[h]),if_neg (by simp[hm]),if_neg hl,if_neg hs,hp,if_neg (by simp),if_pos hi]
theorem zh6 (h:V.broken=0) (hm:Xf s.key.length s.znm s.node s.row.length=true) (hl:¬V.life=0) {r1:Int} {S2:Sto} (hp:V.S.put (83 :: vh s)=(S2,r1,0)) (hi:(zw V.sh (idS s)).isSome=false):V.putS s=((V.put 83 (vh s)).keep (idS s) s r1,0):=by unfold Vlt.putS;rw[if_neg (by simp[h]),if_neg (by simp[hm]),if_neg hl,if_neg (by simp[hi]),hp,if_neg (by simp),if_neg (by simp[hi])]
end
theorem zdl {α β:Type} (f:VID × α→VID × β) (hf:∀p,(f p).1=p.1) (m:List (VID × α)) (k:VID) (v:α):yj (m.map f) k (f (k,v)).2=(yj m k v).map f:=by
 induction m with
 | nil=>
  simp only[List.map_nil,yj,List.map_cons];rw[show f (k,v)=((f (k,v)).1,(f (k,v)).2) from rfl,hf]
 | cons p r ih=>
  obtain⟨a,b⟩:=p;have h1:=hf (a,b);rw[List.map_cons,show f (a,b)=(a,(f (a,b)).2) from Prod.ext h1 rfl]
  simp only[yj]
  split
  ·rename_i e
   subst e;rw[List.map_cons,show f (a,v)=(a,(f (a,v)).2) from Prod.ext (hf (a,v)) rfl]
  ·rw[List.map_cons,ih,show f (a,b)=(a,(f (a,b)).2) from Prod.ext h1 rfl]
theorem Jy {K V:Type} [DecidableEq K] {m:List (K × V)} {k:K} {v:V} {p:K × V} (h:p∈yj m k v):p∈m∨p=(k,v):=by
 induction m with
 | nil=>simp only[yj,List.mem_cons,List.not_mem_nil,or_false] at h;exact Or.inr h
 | cons q r ih=>
  obtain⟨a,b⟩:=q;simp only[yj] at h
  split at h
  ·rename_i e
   rcases List.mem_cons.1 h with e2|e2
   ·exact Or.inr e2
   ·exact Or.inl (List.mem_cons_of_mem _ e2)
  ·rcases List.mem_cons.1 h with e2|e2
   ·exact Or.inl (e2 ▸ List.mem_cons_self)
   ·exact(ih e2).imp (List.mem_cons_of_mem _) id
theorem qy (w:World) (g:Nat) (cs:Array Value):w.grownBy (w.setRow g cs) (some g):=
 ⟨rfl,rfl,rfl,by simp[World.setRow],fun k hk e=>by
  simp only[World.setRow,Array.getElem?_modify];rw[if_neg fun e2=>e (by rw[e2])]⟩
structure Lkd (W:World) (b1 bb:Nat) (sc kc:Array Value) (w:World):Prop where
 gr:W.grownBy w none
 hb1:w.heap[b1]? = some (.cells sc 97 (0,0))
 hbb:w.heap[bb]? = some (.cells kc 226 (0,0))
 ge:W.heap.size≤bb
section
variable {own own' : Nat → Prop} {W : World} {vb st db mb : Nat} {km : List (VID × KpM)} {vk : Nat → Prop} {V : Vlt}
theorem VAt.keep (h:VAt own W vb st db mb km vk V) {w1 w':World} (hg:W.grownBy w1 none) {i:VID} {x:KpM} (hx:Jl (fun k=>W.heap.size≤k∧k<w1.heap.size) w1 x) (hm:yg w' mb yu uw (yj km i x)) (hg2:w1.grownBy w' (some mb)) (hz:w'.heap.size=w1.heap.size):(∃km' vk',VAt own w' vb st db mb km' vk' (V.keep i x.s x.k))∧zq (fun k=>¬own k) W w':=by
 have h1:=h.map (V':=V.keep i x.s x.k) hg hg2 hz hm (fun p hp=>by
  rcases Jy hp with e|e
  ·exact Or.inl e
  ·exact Or.inr (by rw[e];exact hx)) (by
  show yj V.sh i (x.s,x.k)=_
  rw[h.she]
  exact zdl (fun p=>(p.1,(p.2.s,p.2.k))) (fun _=>rfl) km i x) rfl ⟨rfl,rfl,rfl⟩
 exact⟨⟨_,_,h1.1⟩,h1.2⟩
end
end Go.Proofs.YtbcbhlfjgobejaaGreat
