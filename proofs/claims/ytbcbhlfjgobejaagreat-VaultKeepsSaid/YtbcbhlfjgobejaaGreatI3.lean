/- slices.Concat of two rows of bytes, slices.Clone; fields.Writer's Raw, Out: the walks. Conditions: none, or as the theorems say. -/
import Derived.Test.YtbcbhlfjgobejaaGreatI2
import Derived.Maps.AppendAt
import Derived.Lib.ConvBytes
import Derived.Deep.DeepCutAuto
import Derived.Deep.RegionLaw
set_option linter.unusedSimpArgs false
set_option linter.unusedVariables false
namespace Go.Proofs.YtbcbhlfjgobejaaGreat
set_option maxHeartbeats 200000000
open Go.RowKit Go.Sf
structure yc (W:World) (v:Value) (l:List Int):Prop where
 ex:∃p cap,v = .slice p l.length cap∧(l = []∨∃a,p=some a∧∀j u,(zi l)[j]? = some u→W.cell? (a.add j)=some u)
theorem za3 {P:Program} (w:World) (base:Nat) (t ty e:TypeId) (i:TypeInfo) (ht:P.underlying t=some (.slice e)) (hi:P.info? e=some i) (v:Value) (n:Nat) (xs:List Value) (hown:w.ownsRow base e 1 v n xs) (cx:Nat) :
  (Builtin.append_ #[t,t] ty #[v,.slice none 0 cx]).run P w = .ok v w:=by
 rcases hown.2 with ⟨rfl,rfl⟩|⟨g,cap,cur,rfl,hbg,hg,hnc,hcm,hcs,htake⟩
 ·simp[Builtin.append_,run_underlying ht,sizeOf,typeInfo,hi,Builtin.lenOf,Builtin.firstCells]
 ·simp[Builtin.append_,run_underlying ht,sizeOf,typeInfo,hi,Builtin.lenOf,Builtin.firstCells,hnc,storeCells]
theorem Xv {P:Program} (w:World) {ops:Array Oper} {rest:List Oper} {o:Oper} {a:Act} {Q:Exit→Act→World→Prop} (hgd:o.guard=none) (s x:Operand) (t e:TypeId) (hop:o.op = .call { callee:=.builtin .append,args:=#[s,x],argTypes:=#[t,t] })
  (i:TypeInfo) (ht:P.underlying t=some (.slice e)) (hi:P.info? e=some i) (hz:i.zero=some (.int .u8 0)) (hsize:i.size=1) (hby:i.bytes=1)
  (base:Nat) (v:Value) (n:Nat) (xs:List Value) (hs:a.eval s=v) (hown:w.ownsRow base e 1 v n xs) (y:Value) (l:List Int) (hx:a.eval x=y) (hy:yc w y l) (hk:n+l.length≤1000000000) (hbase:base≤w.heap.size)
  (h:∀v' w',w'.ownsRow base e 1 v' (n+l.length) (xs++zi l)→w.grownBy w' v.ownBlock→(v'.ownBlock=v.ownBlock∨v'.ownBlock=some w.heap.size)→wpList P ops Q rest (a.put o.dst v') w') :
  wpList P ops Q (o :: rest) a w:=by
 obtain⟨p,cap,rfl,hc⟩:=hy.ex
 cases p with
 | none=>
  have hl:l = []:=by
   rcases hc with h0|⟨a,ha,_⟩
   ·exact h0
   ·cases ha
  subst hl;have hr:=za3 (P:=P) w base t o.type e i ht hi v n xs hown cap
  exact Go.Lib.wpList_append_run w hgd s x t t hop v _ hs hx _ _ hr (h v w (by simpa[zi] using hown) ⟨rfl,rfl,rfl,Nat.le_refl _,fun _ _ _=>rfl⟩ (Or.inl rfl))
 | some ad=>
  have hc':∀j u,(zi l)[j]? = some u→w.cell? (ad.add j)=some u:=by
   rcases hc with h0|⟨a,ha,hc⟩
   ·subst h0;intro j u hu;simp[zi] at hu
   ·cases ha;exact hc
  obtain⟨v',w',hr,h1,h2,h3,h4⟩:=run_append_own_at (P:=P) w base t o.type e i (.int .u8 0) 1 1 ht hi hz hsize hby rfl (by decide) v n xs hown ad l.length cap (zi l) (by simp[zi]) hc' (fun u hu=>by simp[zi] at hu;obtain⟨b,_,rfl⟩:=hu;rfl) (by unfold maxLen;omega) (by omega) hbase
  exact Go.Lib.wpList_append_run w hgd s x t t hop v _ hs hx _ _ hr (h v' w' h1 h2 h4)
theorem yc.grown {W W':World} {v:Value} {l:List Int} (h:yc W v l) {r:Option Nat} (hg:W.grownBy W' r) (hr:∀b p n c,r=some b→v = .slice (some p) n c→p.block≠b):yc W' v l:=by
 obtain⟨p,cap,rfl,hc⟩:=h.ex;refine⟨p,cap,rfl,?_⟩
 rcases hc with h0|⟨a,rfl,hc⟩
 ·exact Or.inl h0
 ·refine Or.inr ⟨a,rfl,fun j u hu=>?_⟩
  have hb:(a.add j).block=a.block:=by unfold Addr.add;split <;> rfl
  have hcc:=hc j u hu;refine hg.cell hcc (fun e=>hr a.block a _ _ (by rw[←e,hb]) rfl rfl)
theorem yc.nil {W:World} {v:Value} {l:List Int} (h:yc W v l) (e:v = .slice none 0 0):l = []:=by
 obtain⟨p,cap,rfl,hc⟩:=h.ex
 injection e with _ e2 _
 exact List.eq_nil_of_length_eq_zero e2
@[go_sem] theorem znj (n c:Nat) (w:World):(binOp BinOp.eql 32 (.slice none n c) (.slice none 0 0)).run Tryz.prog w = .ok (.bool true) w:=by kernel_rfl
@[go_sem] theorem znk (a:Addr) (n c:Nat) (w:World):(binOp BinOp.eql 32 (.slice (some a) n c) (.slice none 0 0)).run Tryz.prog w = .ok (.bool false) w:=by kernel_rfl
theorem qg {W:World} {base:Nat} {v:Value} {l:List Int} (h:W.ownsRow base 5 1 v l.length (zi l)):yc W v l:=by
 rcases h.2 with ⟨e1,h0⟩|⟨b,c,cur,e1,_⟩
 ·have:l = []:=List.eq_nil_of_length_eq_zero h0
  subst this
  exact⟨none,0,by rw[e1];rfl,Or.inl rfl⟩
 ·exact⟨_,_,e1,Or.inr ⟨_,rfl,h.cells (g:=b) (by rw[e1];rfl)⟩⟩
set_option maxRecDepth 100000 in
theorem jp {W:World} {v:Value} {l:List Int} (h:yc W v l) (hl:l.length≤100000000) (hnil:v = .slice none 0 0→l = []) :
  Calls Tryz.prog 97 #[v] W fun e w'=>∃v',e = .returned v'∧w'.ownsRow W.heap.size 5 1 v' l.length (zi l)∧W.grownBy w' none:=by
 obtain⟨i0,hi,hz0,hz1,hz2⟩:=info_parts qf;obtain⟨p,cap,rfl,hc⟩:=h.ex
 cases p with
 | none=>
  have h0:l = []:=by
   rcases hc with h0|⟨a,ha,_⟩
   ·exact h0
   ·cases ha
  subst h0;clear hc h
  go_enter Tryz.func97,Tryz.ntmps97
  go_wp2
  go_ret
  exact⟨_,rfl,World.ownsRow_nil _ _ _ _,zm _⟩
 | some ad=>
  have H:=zd h;have HR:Hid (∀W',W.grownBy W' none→yc W' (.slice (some ad) l.length cap) l):=(fun W' hg=>h.grown hg (by simp))
  clear hc h
  go_enter Tryz.func97,Tryz.ntmps97
  go_wp2_with (at_builtin;refine Xv _ rfl _ _ 32 5 rfl i0 Tryz.underlying32 hi hz0 hz1 hz2 W.heap.size _ 0 [] rfl ?r0 _ l rfl (HR.out _ ?r1) (by omega) ?r2 ?_)
  case r0=>exact World.ownsRow_made W #[] 0 (Nat.le_refl _) (by unfold maxLen;omega) rfl
  case r1=>exact zu (zm _) _
  case r2=>simp
  intro v' w1 ho hg hat;have HO:=zd ho;have HG:=zd (show W.grownBy w1 none from ⟨hg.os,hg.tape,hg.output,Nat.le_trans (by simp) hg.size,fun k hk _=>(hg.block k (by simp;omega) (by simp[Value.ownBlock];omega)).trans ((zg W _ none).block k hk (by simp))⟩)
  clear ho hg hat;go_wp2
  go_ret
  exact⟨_,rfl,by simpa using HO.out,HG.out⟩
set_option maxRecDepth 100000 in
theorem out_any {W:World} {wb base:Nat} {v:Value} {l:List Int} (h:Yi W wb base v l) (hl:l.length≤100000000) :
  Calls Tryz.prog 134 #[.pointer (some ⟨wb,0,none⟩)] W fun e w'=>∃v',e = .returned v'∧w'.ownsRow W.heap.size 5 1 v' l.length (zi l)∧W.grownBy w' none:=by
 have c0:W.cell? ⟨wb,0,none⟩=some v:=by simp[World.cell?,h.box]
 have hr:yc W v l:=qg h.row;have HC:=zd (jp hr hl (fun e=>hr.nil e))
 clear h hr
 go_enter Tryz.func134,Tryz.ntmps134
 go_wp2_with (go_at_call 97;refine HC.out.mono ?_;rintro e w' ⟨v',rfl,h1,h2⟩;have HQ:=zd (And.intro h1 h2);clear h1 h2)
 go_ret
 exact⟨v',rfl,HQ.out.1,HQ.out.2⟩
theorem zdf {W w1 w2:World} {base n:Nat} {e:TypeId} {v:Value} {xs:List Value} (h:W.grownBy w1 none) (hr:w1.ownsRow base e 1 v n xs) (hb:W.heap.size≤base) (h2:w1.grownBy w2 v.ownBlock):W.grownBy w2 none:=
 ⟨h2.os.trans h.os,h2.tape.trans h.tape,h2.output.trans h.output,Nat.le_trans h.size h2.size,fun k hk _=>
  (h2.block k (Nat.lt_of_lt_of_le hk h.size) (fun e=>by have:=(hr.lt k e.symm).1;omega)).trans (h.block k hk (by simp))⟩
set_option maxRecDepth 100000 in
theorem zhn {W:World} {r:Nat} {v0 v1:Value} {l0 l1:List Int} (h0:yc W v0 l0) (h1:yc W v1 l1) (c0:W.cell? ⟨r,0,none⟩=some v0) (c1:W.cell? ⟨r,1,none⟩=some v1) (hl:l0.length+l1.length≤100000000) :
  Calls Tryz.prog 207 #[.slice (some ⟨r,0,none⟩) 2 2] W fun e w'=>∃v',e = .returned v'∧w'.ownsRow W.heap.size 5 1 v' (l0.length+l1.length) (zi l0++zi l1)∧W.grownBy w' none:=by
 obtain⟨i0,hi,hz0,hz1,hz2⟩:=info_parts qf;have H0:Hid (∀W',W.grownBy W' none→yc W' v0 l0):=(fun W' hg=>h0.grown hg (by simp))
 have H1:Hid (∀W',W.grownBy W' none→yc W' v1 l1):=(fun W' hg=>h1.grown hg (by simp))
 obtain⟨p0,k0,rfl,-⟩:=h0.ex;obtain⟨p1,k1,rfl,-⟩:=h1.ex;have hrl:r<W.heap.size:=World.block_lt_of_cell? W _ c0;have HC:Hid (∀W',W.grownBy W' none→W'.cell? ⟨r,0,none⟩=some (.slice p0 l0.length k0)∧W'.cell? ⟨r,1,none⟩=some (.slice p1 l1.length k1)):=(fun W' hg=>⟨hg.cell c0 (by simp),hg.cell c1 (by simp)⟩)
 clear h0 h1;generalize hn0:l0.length=n0 at *;generalize hn1:l1.length=n1 at *;have HN:Hid (l0.length=n0∧l1.length=n1):=(show _∧_ from ⟨hn0,hn1⟩)
 clear hn0 hn1
 go_enter Tryz.func207,Tryz.ntmps207
 go_wp2
 go_loopw [3,11] (fun sz i wr=>W=wr∧((i = .int .i64 0∧sz = .int .i64 0)∨(i = .int .i64 1∧sz = .int .i64 n0)∨(i = .int .i64 2∧sz = .int .i64 ((n0+n1:Nat):Int)))) (fun _ i _=>2-(intOf i).toNat)
 case atStart=>exact⟨rfl,Or.inl ⟨rfl,rfl⟩⟩
 case round=>
  obtain⟨rfl,⟨rfl,rfl⟩|⟨rfl,rfl⟩|⟨rfl,rfl⟩⟩:=hrel
  ·go_wp2
   go_roundw
   case rel=>simp
   case measure=>simp[intOf]
  ·go_wp2
   go_roundw
   case rel=>simp
   case measure=>simp[intOf]
  ·go_wp2_with (go_at_call 242;refine(zlz (n0+n1) (by omega) W).mono ?_;rintro e w1 ⟨vg,rfl,hr,hg,-⟩;have HR:=zd hr;have HG:=zd hg;clear hr hg c0 c1)
   go_loopw [6,27] (fun v i wz=>W.grownBy wz none∧((i = .int .i64 0∧wz.ownsRow W.heap.size 5 1 v 0 [])∨(i = .int .i64 1∧wz.ownsRow W.heap.size 5 1 v n0 (zi l0))∨(i = .int .i64 2∧wz.ownsRow W.heap.size 5 1 v (n0+n1) (zi l0++zi l1)))) (fun _ i _=>2-(intOf i).toNat)
   case atStart=>exact⟨HG.out,Or.inl ⟨rfl,HR.out⟩⟩
   case round=>
    obtain⟨hgr,⟨rfl,ho⟩|⟨rfl,ho⟩|⟨rfl,ho⟩⟩:=hrel
    ·obtain⟨c0,c1⟩:=HC.out wr hgr
     have HGR:=zd hgr;have HO:=zd ho;clear hgr ho
     go_wp2_with (at_builtin;refine Xv _ rfl _ _ 32 5 rfl i0 Tryz.underlying32 hi hz0 hz1 hz2 W.heap.size _ 0 [] rfl HO.out _ l0 rfl (H0.out _ HGR.out) (by have:=HN.out;omega) HGR.out.size ?_;intro v2 w2 ho2 hg2 _;have HO2:=zd ho2;have HG2:=zd (zdf HGR.out HO.out (Nat.le_refl _) hg2);clear ho2 hg2)
     go_roundw
     case rel=>exact⟨HG2.out,Or.inr (Or.inl ⟨rfl,by simpa[HN.out.1] using HO2.out⟩)⟩
     case measure=>simp[intOf]
    ·obtain⟨c0,c1⟩:=HC.out wr hgr
     have HGR:=zd hgr;have HO:=zd ho;clear hgr ho
     go_wp2_with (at_builtin;refine Xv _ rfl _ _ 32 5 rfl i0 Tryz.underlying32 hi hz0 hz1 hz2 W.heap.size _ n0 (zi l0) rfl HO.out _ l1 rfl (H1.out _ HGR.out) (by have:=HN.out;omega) HGR.out.size ?_;intro v2 w2 ho2 hg2 _;have HO2:=zd ho2;have HG2:=zd (zdf HGR.out HO.out (Nat.le_refl _) hg2);clear ho2 hg2)
     go_roundw
     case rel=>exact⟨HG2.out,Or.inr (Or.inr ⟨rfl,by simpa[HN.out.2] using HO2.out⟩)⟩
     case measure=>simp[intOf]
    ·have HGR:=zd hgr
     have HO:=zd ho;clear hgr ho;go_wp2
     go_ret
     exact⟨_,rfl,HO.out,HGR.out⟩
theorem Ye {W:World} {base b2 n:Nat} {e:TypeId} {v:Value} {xs:List Value} (h:W.ownsRow base e 1 v n xs) (hb:b2≤base):W.ownsRow b2 e 1 v n xs:=by
 refine⟨h.1,?_⟩
 rcases h.2 with h0|⟨g,cap,cur,e1,hbg,r⟩
 ·exact Or.inl h0
 ·exact Or.inr ⟨g,cap,cur,e1,Nat.le_trans hb hbg,r⟩
theorem set_box {W w1:World} {wb base n:Nat} {v':Value} {v:Value} {l m:List Int} (h:Yi W wb base v l) (hb:base≤wb) (hg:W.grownBy w1 none) (hr:w1.ownsRow W.heap.size 5 1 v' n (zi (l++m))) (hn:n=(l++m).length) :
  ze4 W wb base v (l++m) (.returned (.tuple #[])) (w1.setCell ⟨wb,0,none⟩ v'):=by
 subst hn;have hwb:wb<W.heap.size:=by
  have hx:=h.box
  rcases Nat.lt_or_ge wb W.heap.size with h'|h'
  ·exact h'
  ·rw[Array.getElem?_eq_none h'] at hx;cases hx
 have hx:w1.heap[wb]? = some (.cells #[v] 231 (0,0)):=(hg.block wb hwb (by simp)).trans h.box
 have hs:=yb w1 wb 0 v';have hne:v'.ownBlock≠some wb:=fun e=>by have:=(hr.lt wb e).1;omega
 refine⟨rfl,v',⟨by simp[World.setCell,Array.getElem?_modify,hx],Ye (hr.kept hs (Or.inr hne)) (by omega)⟩,⟨hs.os.trans hg.os,hs.tape.trans hg.tape,hs.output.trans hg.output,Nat.le_trans hg.size hs.size,fun q hq hn=>(hs.block q (Nat.lt_of_lt_of_le hq hg.size) (fun e=>hn (Or.inl (by cases e;rfl)))).trans (hg.block q hq (by simp))⟩,Or.inr (fun g e=>(hr.lt g e).1)⟩
theorem zhi (l m:List Int):zi l++zi m=zi (l++m):=by simp[zi]
set_option maxRecDepth 100000 in
theorem raw_any {W:World} {wb base:Nat} {v y:Value} {l m:List Int} (h:Yi W wb base v l) (hb:base≤wb) (hy:yc W y m) (hl:l.length+m.length≤100000000) :
  Calls Tryz.prog 159 #[.pointer (some ⟨wb,0,none⟩),y] W fun e w'=>ze4 W wb base v (l++m) e w':=by
 obtain⟨p,cp,rfl⟩:=qw h.row;obtain⟨p1,c1,rfl,-⟩:=hy.ex;have c0:W.cell? ⟨wb,0,none⟩=some (.slice p l.length cp):=by simp[World.cell?,h.box]
 have h0:=h.box;have hwb:wb<W.heap.size:=World.block_lt_of_cell? W _ c0;have hr:yc W (.slice p l.length cp) l:=qg h.row;have HC:Hid (∀(W':World) (r:Nat),W.grownBy W' none→W'.cell? ⟨r,0,none⟩=some (.slice p l.length cp)→W'.cell? ⟨r,1,none⟩=some (.slice p1 m.length c1)→Calls Tryz.prog 207 #[.slice (some ⟨r,0,none⟩) 2 2] W' fun e w'=>∃v',e = .returned v'∧w'.ownsRow W'.heap.size 5 1 v' (l.length+m.length) (zi l++zi m)∧W'.grownBy w' none):=
  (fun W' r hg c0 c1=>zhn (hr.grown hg (by simp)) (hy.grown hg (by simp)) c0 c1 hl)
 have HS:Hid (∀w1 v',W.grownBy w1 none→w1.ownsRow W.heap.size 5 1 v' (l.length+m.length) (zi l++zi m)→ze4 W wb base (.slice p l.length cp) (l++m) (.returned (.tuple #[])) (w1.setCell ⟨wb,0,none⟩ v')):=
  (fun w1 v' hg hr=>set_box h hb hg (by rw[←zhi];exact hr) (by simp))
 clear h hr hy;generalize l.length=n0 at *;generalize m.length=n1 at *
 go_enter Tryz.func159,Tryz.ntmps159
 go_wp2_with (go_at_call 207;refine(HC.out _ W.heap.size (zu (zm _) _) (by simp) (by simp)).mono ?_;rintro e w' ⟨v',rfl,h1,h2⟩;obtain⟨q,cq,rfl⟩:=qw h1;have hx:=((zo (zu (zm W) _) h2).block wb hwb (by simp)).trans h0;have d0:w'.cell? ⟨wb,0,none⟩=some (.slice p n0 cp):=(by simp[World.cell?,hx]);have y0:w'.frozen? ⟨wb,0,none⟩=false:=(by simp[World.frozen?,hx]);have HQ:=zd (HS.out w' _ (zo (zu (zm _) _) h2) (Ye h1 (by simp)));clear h1 h2)
 first|go_end0|refine bodyPost_ret (results_none rfl _ _ _) rfl ?_
 exact HQ.out
theorem zga (W:World) (s:ByteArray):yc (Lib.bytesWorld W 5 s) (.slice (some ⟨W.heap.size,0,none⟩) s.size (grownCap W s.size 0 5)) (zcg s):=by
 have hs:(zcg s).length=s.size:=by rw[zcg,List.length_map];rfl
 refine⟨_,_,by rw[hs],Or.inr ⟨_,rfl,fun j u hu=>?_⟩⟩
 have hj:j<s.size:=by
  rcases Nat.lt_or_ge j s.size with h|h
  ·exact h
  ·rw[List.getElem?_eq_none (by rw[zi,List.length_map,hs];exact h)] at hu;cases hu
 have hc:=Lib.bytesWorld_cell W 5 s j hj;have e1:(⟨W.heap.size,0,none⟩:Addr).add j=⟨W.heap.size,j,none⟩:=by rw[Addr.add_lit];simp only[Nat.zero_add]
 rw[e1,hc];have hj2:j<s.data.size:=hj;simp only[zi,zcg,List.getElem?_map,Array.getElem?_toList,Array.getElem?_eq_getElem hj2,Option.map_some,Option.some.injEq] at hu;rw[←hu];simp[List.getD,Array.getElem?_eq_getElem hj2]
theorem zfi (W:World) (e:TypeId) (s:ByteArray):W.grownBy (Lib.bytesWorld W e s) none:=
 ⟨rfl,rfl,rfl,by rw[Lib.bytesWorld_size];omega,fun k hk _=>Lib.bytesWorld_at_old W e s k hk⟩
@[go_sem] theorem as32_8 (v:Value) (w:World):(Instr.typeAssert (.iface 172 v) 20 5 true).run Tryz.prog w = .ok (.tuple #[.int .u8 0,.bool false]) w:=by kernel_rfl
@[go_sem] theorem as32_16 (v:Value) (w:World):(Instr.typeAssert (.iface 172 v) 20 72 true).run Tryz.prog w = .ok (.tuple #[.int .u16 0,.bool false]) w:=by kernel_rfl
@[go_sem] theorem as32_32 (v:Value) (w:World):(Instr.typeAssert (.iface 172 v) 20 172 true).run Tryz.prog w = .ok (.tuple #[v,.bool true]) w:=by kernel_rfl
set_option maxRecDepth 100000 in
theorem zih (n:Int) (W:World):Calls Tryz.prog 243 #[.int .u32 n] W fun e w'=>e = .returned (.int .i64 4)∧w'=W:=by
 go_enter Tryz.func243,Tryz.ntmps243
 go_wp2
 go_ret
 exact⟨rfl,rfl⟩
set_option maxRecDepth 100000 in
theorem put32 {W:World} {wb base:Nat} {v:Value} {l:List Int} (h:Yi W wb base v l) (hb:base≤wb) (hl:l.length≤100000000) (N:Nat) (hN:N<256 ^ 4):Calls Tryz.prog 208 #[.pointer (some ⟨wb,0,none⟩),.int .u32 N] W fun e w'=>e = .returned (.tuple #[])∧∃v',Yi w' wb base v' (l++be 4 N)∧zq (fun k=>k=wb∨v.ownBlock=some k) W w'∧(v.ownBlock=v'.ownBlock∨∀g,v'.ownBlock=some g→W.heap.size≤g):=by
 obtain⟨i0,hi,hz0,hz1,hz2⟩:=info_parts qf;obtain⟨p,cap,rfl⟩:=qw h.row;have c0:W.cell? ⟨wb,0,none⟩=some (.slice p l.length cap):=by simp[World.cell?,h.box]
 have f0:W.frozen? ⟨wb,0,none⟩=false:=by simp[World.frozen?,h.box]
 have hwb:wb<W.heap.size:=(Array.getElem?_eq_some_iff.1 h.box).1;have H:=zd h;clear h
 go_enter Tryz.func208,Tryz.ntmps208
 go_upto_region 2 with fail
 go_cut [] (fun wx=>∃g cap2,Qg wx wb base g cap2 (l.length+4) (zi l++List.replicate 4 (.int .u8 0))∧zq (fun q=>q=wb∨Value.ownBlock (.slice p l.length cap)=some q) W wx∧(Value.ownBlock (.slice p l.length cap)=some g∨W.heap.size≤g))
 case first=>
  go_region_law (first
   | (go_simp;go_at_call 243;refine(zih _ _).mono ?_;rintro e w3 ⟨rfl,rfl⟩)
   | (refine Xt rfl _ _ 32 3 5 rfl i0 .i64 .i64 Tryz.underlying32 Tryz.underlying3 hi hz0 hz1 hz2 base _ l.length (zi l) rfl H.out.row 4 rfl (by omega) (by omega) (by show base≤W.heap.size;omega) ?_;intro g cap2 w1 ho hg hat;have hx1:w1.heap[wb]? = some (.cells #[.slice p l.length cap] 231 (0,0)):=(hg.block wb hwb (fun e=>H.out.ne e.symm)).trans H.out.box;have d0:w1.cell? ⟨wb,0,none⟩=some (.slice p l.length cap):=(by simp[World.cell?,hx1]);have y0:w1.frozen? ⟨wb,0,none⟩=false:=(by simp[World.frozen?,hx1]);have HO:=zd ho;have HGR:=zd hg;have HAT:=zd hat;have HX:=zd hx1;clear ho hg hat hx1))
  all_goals
   go_wp2_with fail
   go_meet
   exact⟨g,cap2,za8 hwb H.out.ne HX.out HO.out HGR.out HAT.out⟩
 case rest=>
  obtain⟨g,cap2,hp,ht,hat⟩:=hcut;have HTN:=zd ht;have HAT:=zd hat;have d0:=hp.c0;clear ht hat c0 f0;have hlen:l.length+4≤1000000000:=by omega
  go_wp2
  go_loopw [1,5] (fun nv i wr=>∃(m nc:Nat) (tail:List Int),m≤4∧nv = .int .u32 nc∧nc<256 ^ 4∧i = .int .i64 ((l.length:Int)+m-1)∧be 4 N=be m nc++tail∧tail.length+m=4∧Qg wr wb base g cap2 (l.length+4) (zi l++List.replicate m (.int .u8 0)++zi tail)∧zq (fun q=>q=wb∨Value.ownBlock (.slice p l.length cap)=some q∨W.heap.size≤q) W wr) (fun _ i _=>(intOf i+1-(l.length:Int)).toNat)
  case atStart=>exact⟨4,N,[],by omega,rfl,hN,by congr 1 <;> omega,by simp,by simp,by simpa[zi] using hp,HTN.out.mono (fun q h=>by rcases h with h|h;exact Or.inl h;exact Or.inr (Or.inl h))⟩
  case round=>
   obtain⟨m,nc,tail,hm,rfl,hnc,rfl,hbe,htl,hp,ht⟩:=hrel;have e0:=hp.c0;have HP:=zd hp;have HT:=zd ht;clear hp ht d0
   cases m with
   | zero=>
    go_wp2
    first|go_end0|refine bodyPost_ret (results_none rfl _ _ _) rfl ?_
    have hbt:be 4 N=tail:=by simpa[be] using hbe
    have hln:(l++be 4 N).length=l.length+4:=by simp[yo]
    refine⟨rfl,_,⟨HP.out.box,?_⟩,HT.out.old,?_⟩
    ·rw[hln,hbt]
     have:=HP.out.row;simpa[zi] using this
    ·rcases HAT.out with h|h
     ·exact Or.inl h
     ·exact Or.inr (fun q hq=>by simp[Value.ownBlock] at hq;omega)
   | succ m=>
    have hsel:=HP.out.row;obtain⟨cell0,hz⟩:∃u,wr.cell? ⟨g,l.length+m,none⟩=some u:=by
     rcases hsel.2 with ⟨e1,_⟩|⟨b,c,cur,e1,_,hb,r1,r2,r3,r4⟩
     ·cases e1
     ·cases e1
      refine⟨cur[l.length+m]'(by omega),?_⟩
      simp[World.cell?,hb]
    have hfz:wr.frozen? ⟨g,l.length+m,none⟩=false:=by
     rcases hsel.2 with ⟨e1,_⟩|⟨b,c,cur,e1,_,hb,r1,r2,r3,r4⟩
     ·cases e1
     ·cases e1
      simp[World.frozen?,hb]
    clear hsel;go_wp2
    go_roundw
    case rel=>
     refine⟨m,nc / 256,((nc%256:Nat):Int) :: tail,by omega,by simp,Nat.lt_of_le_of_lt (Nat.div_le_self _ _) hnc,by congr 1;omega,by rw[hbe,zag];simp,by simp only[List.length_cons];omega,?_,HT.out.set _ (by rcases HAT.out with h|h;exact Or.inr (Or.inl h);exact Or.inr (Or.inr h))⟩
     have hnm:((nc%256:Nat):Int)=(nc:Int)%256:=rfl;rw[hnm]
     exact HP.out.step (by omega) _
    case measure=>simp[intOf];omega
section
variable {W : World} {wb base : Nat} {v : Value} {l : List Int}
set_option maxRecDepth 100000 in
theorem zng (h:Yi W wb base v l) (hb:base≤wb) (hl:l.length≤100000000) (N:Nat) (hN:N<256 ^ 4):Calls Tryz.prog 160 #[.pointer (some ⟨wb,0,none⟩),.int .u32 N] W fun e w'=>ze4 W wb base v (l++be 4 N) e w':=by
 have H:=zd h;clear h
 go_enter Tryz.func160,Tryz.ntmps160
 go_wp2_with (go_at_call 208;refine(put32 H.out hb hl N hN).mono ?_;rintro e w' ⟨rfl,hq⟩;have HQ:=zd hq;clear hq)
 first|go_end0|refine bodyPost_ret (results_none rfl _ _ _) rfl ?_
 exact⟨rfl,HQ.out⟩
end
theorem Yi.kept {W W':World} {wb base:Nat} {v:Value} {l:List Int} (h:Yi W wb base v l) (hg:W.grownBy W' none):Yi W' wb base v l:=
 ⟨(hg.block wb (Array.getElem?_eq_some_iff.1 h.box).1 (by simp)).trans h.box,h.row.kept hg (by
  rcases h:v.ownBlock with _|k
  ·exact Or.inl rfl
  ·exact Or.inr (by simp))⟩
theorem vc {bs:Nat→Prop} {a b c:World} (h:a.grownBy b none) (g:zq bs b c):zq bs a c:=
 ⟨g.os.trans h.os,g.tape.trans h.tape,g.output.trans h.output,Nat.le_trans h.size g.size,fun k hk hn=>(g.block k (Nat.lt_of_lt_of_le hk h.size) hn).trans (h.block k hk (by simp))⟩
structure WS (own:Nat→Prop) (wb:Nat) (l:List Int) (w:World):Prop where
 ex:∃v,Yi w wb wb v l∧∀g,v.ownBlock=some g→¬own g
 nw:¬own wb
 lt:∀g,own g→g<w.heap.size
def zcz (own:Nat→Prop) (wb:Nat) (l:List Int) (w:World) (e:Ending) (w':World):Prop:=e = .returned (.tuple #[])∧WS own wb l w'∧zq (fun k=>¬own k) w w'
section
variable {own : Nat → Prop} {w w' : World} {wb : Nat} {l l' : List Int}
theorem WS.keep (h:WS own wb l w) (hg:w.grownBy w' none):WS own wb l w':=by
 obtain⟨v,h1,h2⟩:=h.ex
 exact⟨⟨v,h1.kept hg,h2⟩,h.nw,fun g hg2=>Nat.lt_of_lt_of_le (h.lt g hg2) hg.size⟩
theorem Ji {v:Value} (h1:Yi w wb wb v l) (h2:∀g,v.ownBlock=some g→¬own g) (h:WS own wb l w) {e:Ending} (hp:ze4 w wb wb v l' e w'):zcz own wb l' w e w':=by
 obtain⟨rfl,v',hw,ht,hv⟩:=hp;refine⟨rfl,⟨⟨v',hw,fun g hg ho=>?_⟩,h.nw,fun g ho=>Nat.lt_of_lt_of_le (h.lt g ho) ht.size⟩,ht.mono fun k hk ho=>?_⟩
 ·rcases hv with e|e
  ·exact h2 g (e.trans hg) ho
  ·have:=e g hg;have:=h.lt g ho;omega
 ·rcases hk with rfl|hk
  ·exact h.nw ho
  ·exact h2 k hk ho
theorem WS.shortN (h:WS own wb l w) (hl:l.length≤100000) (x:Nat) (hx:x<65536):Calls Tryz.prog 175 #[.pointer (some ⟨wb,0,none⟩),.int .u16 x] w (zcz own wb (l++be 2 x) w):=by
 obtain⟨v,h1,h2⟩:=h.ex
 exact(zkz h1 (Nat.le_refl _) (by omega) x (by omega)).mono fun e w' hp=>Ji h1 h2 h hp
theorem WS.wordN (h:WS own wb l w) (hl:l.length≤100000) (x:Nat) (hx:x<4294967296):Calls Tryz.prog 160 #[.pointer (some ⟨wb,0,none⟩),.int .u32 x] w (zcz own wb (l++be 4 x) w):=by
 obtain⟨v,h1,h2⟩:=h.ex
 exact(zng h1 (Nat.le_refl _) (by omega) x (by omega)).mono fun e w' hp=>Ji h1 h2 h hp
theorem WS.longN (h:WS own wb l w) (hl:l.length≤100000) (x:Nat) (hx:x<18446744073709551616):Calls Tryz.prog 132 #[.pointer (some ⟨wb,0,none⟩),.int .u64 x] w (zcz own wb (l++be 8 x) w):=by
 obtain⟨v,h1,h2⟩:=h.ex
 exact(zl7 h1 (Nat.le_refl _) (by omega) x (by omega)).mono fun e w' hp=>Ji h1 h2 h hp
theorem WS.byteN (h:WS own wb l w) (hl:l.length≤100000) (x:Nat) (hx:x<256):Calls Tryz.prog 158 #[.pointer (some ⟨wb,0,none⟩),.int .u8 x] w (zcz own wb (l++be 1 x) w):=by
 obtain⟨v,h1,h2⟩:=h.ex
 exact(zln h1 (Nat.le_refl _) (by omega) x hx).mono fun e w' hp=>Ji h1 h2 h hp
theorem WS.rawN (h:WS own wb l w) {y:Value} {m:List Int} (hy:yc w y m) (hl:l.length+m.length≤1000000):Calls Tryz.prog 159 #[.pointer (some ⟨wb,0,none⟩),y] w (zcz own wb (l++m) w):=by
 obtain⟨v,h1,h2⟩:=h.ex
 exact(raw_any h1 (Nat.le_refl _) hy (by omega)).mono fun e w' hp=>Ji h1 h2 h hp
theorem WS.outN (h:WS own wb l w) (hl:l.length≤1000000):Calls Tryz.prog 134 #[.pointer (some ⟨wb,0,none⟩)] w fun e w'=>∃v',e = .returned v'∧w'.ownsRow w.heap.size 5 1 v' l.length (zi l)∧w.grownBy w' none:=by
 obtain⟨v,h1,h2⟩:=h.ex
 exact out_any h1 (by omega)
theorem WS.start (W w:World) (hg:W.grownBy w none):WS (fun k=>k<W.heap.size) w.heap.size [] (w.alloc (.cells #[.slice none 0 0] 231)):=by
 have hx:=hg.size
 exact⟨⟨.slice none 0 0,⟨heap_alloc_new _ _,World.ownsRow_nil _ _ _ _⟩,fun g hg=>by simp[Value.ownBlock] at hg⟩,by omega,fun g hg2=>by simp;omega⟩
end
structure Prt where
 k:Int
 index:Nat
 count:Nat
 b:List Int
def zt (n:Nat):Nat:=max 1 (n / 230+min 1 (n%230))
structure Jm (p:Prt):Prop where
 k1:1≤p.k
 k2:p.k≤4611686018427387904
 c1:1≤p.count
 c2:p.count≤570
 i1:p.index<p.count
 l1:p.b.length≤230
 full:p.index+1≠p.count→p.b.length=230
 last:p.index+1=p.count→p.index*230+p.b.length≤131072∧zt (p.index*230+p.b.length)=p.count
def hdP (p:Prt):List Int:=[80]++be 8 p.k.toNat++be 2 p.index++be 2 p.count++be 1 p.b.length++p.b
def jc (p:Prt):List Int:=hdP p++List.replicate (244-(hdP p).length) 0
section
variable (C : List Int → Nat)
def vp (p:Prt):List Int:=jc p++be 4 (C (jc p))++be 8 p.k.toNat
variable {C : List Int → Nat}
theorem Uc (p:Prt):(hdP p).length=14+p.b.length:=by simp[hdP,yo];omega
theorem zc2 {p:Prt} (h:p.b.length≤230):(jc p).length=244:=by simp[jc,Uc];omega
theorem Xb {p:Prt} (h:p.b.length≤230):(vp C p).length=256:=by simp[vp,zc2 h,yo]
theorem encP_BL {p:Prt} (hb:BL p.b):BL (vp C p):=by
 unfold vp jc hdP;refine BL.app (BL.app (BL.app ?_ ?_) (Zm _ _)) (Zm _ _)
 ·exact BL.app (BL.app (BL.app (BL.app (BL.app (fun b h=>by simp at h;omega) (Zm _ _)) (Zm _ _)) (Zm _ _)) (Zm _ _)) hb
 ·intro b h
  obtain⟨_,rfl⟩:=List.mem_replicate.1 h;omega
def yh (x:List Int):Prt:=⟨s64 (num ((x.drop 1).take 8)),num ((x.drop 9).take 2),num ((x.drop 11).take 2),if num ((x.drop 13).take 1)≤242 then (x.drop 14).take (num ((x.drop 13).take 1)) else []⟩
theorem s64_k {k:Int} (h1:0≤k) (h2:k≤4611686018427387904):s64 k.toNat=k:=by
 unfold s64;rw[if_pos (by omega)]
 omega
theorem Xm (p:Prt):vp C p = [80]++(be 8 p.k.toNat++(be 2 p.index++(be 2 p.count++(be 1 p.b.length++(p.b++(List.replicate (244-(hdP p).length) 0++be 4 (C (jc p))++be 8 p.k.toNat)))))):=by
 simp[vp,jc,hdP,List.append_assoc]
theorem zke {p:Prt} (h:Jm p):yh (vp C p)=p:=by
 have hi:=h.i1;have hc:=h.c2;have hl:=h.l1;have h1:=h.k1;have h2:=h.k2;have e:=Xm (C:=C) p;have d1:(vp C p).drop 1=be 8 p.k.toNat++(be 2 p.index++(be 2 p.count++(be 1 p.b.length++(p.b++(List.replicate (244-(hdP p).length) 0++be 4 (C (jc p))++be 8 p.k.toNat))))):=by rw[e];rfl
 have d9:(vp C p).drop 9=be 2 p.index++(be 2 p.count++(be 1 p.b.length++(p.b++(List.replicate (244-(hdP p).length) 0++be 4 (C (jc p))++be 8 p.k.toNat)))):=by
  have:(vp C p).drop 9=((vp C p).drop 1).drop 8:=by rw[List.drop_drop]
  rw[this,d1,List.drop_left' (yo _ _)]
 have d11:(vp C p).drop 11=be 2 p.count++(be 1 p.b.length++(p.b++(List.replicate (244-(hdP p).length) 0++be 4 (C (jc p))++be 8 p.k.toNat))):=by
  have:(vp C p).drop 11=((vp C p).drop 9).drop 2:=by rw[List.drop_drop]
  rw[this,d9,List.drop_left' (yo _ _)]
 have d13:(vp C p).drop 13=be 1 p.b.length++(p.b++(List.replicate (244-(hdP p).length) 0++be 4 (C (jc p))++be 8 p.k.toNat)):=by
  have:(vp C p).drop 13=((vp C p).drop 11).drop 2:=by rw[List.drop_drop]
  rw[this,d11,List.drop_left' (yo _ _)]
 have d14:(vp C p).drop 14=p.b++(List.replicate (244-(hdP p).length) 0++be 4 (C (jc p))++be 8 p.k.toNat):=by
  have:(vp C p).drop 14=((vp C p).drop 13).drop 1:=by rw[List.drop_drop]
  rw[this,d13,List.drop_left' (yo _ _)]
 have n13:num (((vp C p).drop 13).take 1)=p.b.length:=by rw[d13,List.take_left' (yo _ _),Yy _ _ (by omega)]
 unfold yh;rw[n13,d1,d9,d11,d14,List.take_left' (yo _ _),List.take_left' (yo _ _),List.take_left' (yo _ _),Yy _ _ (by omega),Yy _ _ (by omega),Yy _ _ (by omega),s64_k (by omega) h2,if_pos (by omega),List.take_left' rfl]
variable (C)
open Classical in
noncomputable def saidP (x:List Int):Option Prt:=if Jm (yh x)∧vp C (yh x)=x then some (yh x) else none
variable {C}
theorem zgl {p:Prt} (h:Jm p):saidP C (vp C p)=some p:=by
 unfold saidP;rw[zke h,if_pos ⟨h,rfl⟩]
theorem vw {x:List Int} {p:Prt} (h:saidP C x=some p):Jm p∧vp C p=x:=by
 unfold saidP at h
 split at h
 ·rename_i h1
  cases h
  exact h1
 ·cases h
theorem qs {x:List Int} (h:x.head?≠some 80):saidP C x=none:=by
 cases e:saidP C x with
 | none=>rfl
 | some p=>
  obtain⟨_,h2⟩:=vw e;rw[←h2,Xm] at h
  exact absurd rfl h
structure Yu (y:List Int) (h:Int) (K:List Int):Prop where
 len:y.length=256
 hd:y.take 9=h :: K
 tl:y.drop 248=K
 kl:K.length=8
theorem Zd {p:Prt} (h:p.b.length≤230):Yu (vp C p) 80 (be 8 p.k.toNat) where
 len:=Xb h
 hd:=by
  rw[Xm];simp only[List.cons_append,List.nil_append,List.take_succ_cons];rw[List.take_left' (yo _ _)]
 tl:=by
  unfold vp;rw[List.drop_left' (by simp[zc2 h,yo])]
 kl:=yo _ _
def zz:List Int:=List.replicate 256 0
theorem zhq (n:Nat):∀m,m=n+256→n=0→Yu (List.replicate m (0:Int)) 0 (List.replicate 8 0):=fun m hm h0=>by
 subst h0
 exact⟨by rw[List.length_replicate,hm],by rw[List.take_replicate,hm];rfl,by rw[List.drop_replicate,hm],by rw[List.length_replicate]⟩
theorem zam:Yu zz 0 (List.replicate 8 0):=zhq 0 256 rfl rfl
def uu (c:Nat) (z y:List Int):List Int:=z.take c++y.drop c
theorem zmi (z y:List Int):uu 0 z y=y:=by simp[uu]
theorem mix_all {z y:List Int} (h:z.length=y.length) {c:Nat} (hc:y.length≤c):uu c z y=z:=by
 simp[uu,List.take_of_length_le (show z.length≤c by omega),List.drop_of_length_le hc]
theorem mix_len {z y:List Int} (h:z.length=y.length) (c:Nat):(uu c z y).length=y.length:=by
 simp[uu];omega
theorem torn {y z x:List Int} {hy hz:Int} {Ky Kz Kr:List Int} (fy:Yu y hy Ky) (fz:Yu z hz Kz) (fx:Yu x 80 Kr) (c:Nat) (e:x=uu c z y) (hy0:hy=80∨Ky≠Kr) (hne:Ky≠Kz):x=y∨x=z:=by
 rcases Nat.lt_or_ge 248 c with hc|hc
 ·-- the number at the head is the new one's
  right
  have h9:x.take 9=z.take 9:=by
   rw[e,uu,List.take_append_of_le_length (by simp[fz.len];omega),List.take_take,Nat.min_eq_left (by omega)]
  rw[fx.hd,fz.hd] at h9
  injection h9 with h1 h2
  rcases Nat.lt_or_ge 256 c with hc2|hc2
  ·rw[e,mix_all (by rw[fz.len,fy.len]) (by rw[fy.len];omega)]
  ·have ht:x.drop 248=(z.take c).drop 248++y.drop c:=by
    rw[e,uu,List.drop_append_of_le_length (by simp[fz.len];omega)]
   rw[fx.tl,h2,←fz.tl,List.drop_take] at ht;have ht2:(z.drop 248).drop (c-248)=y.drop c:=by
    have:=congrArg (List.drop (c-248)) ht;rw[List.drop_append_of_le_length (by simp[fz.len];omega)] at this
    rw[this,List.drop_of_length_le (by simp[fz.len];omega),List.nil_append]
   rw[List.drop_drop] at ht2;rw[e,uu,←ht2,show 248+(c-248)=c by omega,List.take_append_drop]
 ·left
  -- the number at the end is the old one's
  have ht:x.drop 248=y.drop 248:=by
   rw[e,uu,List.drop_append];simp only[List.length_take,fz.len];rw[List.drop_of_length_le (by simp[fz.len];omega),List.nil_append,List.drop_drop]
   congr 1;omega
  rw[fx.tl,fy.tl] at ht
  rcases Nat.eq_zero_or_pos c with h0|h0
  ·rw[e,h0,zmi]
  ·have hy8:hy=80:=hy0.resolve_right (fun h=>h ht.symm)
   rcases Nat.lt_or_ge c 9 with h9|h9
   ·have hx9:x.take 9=z.take c++(y.take 9).drop c:=by
     rw[e,uu,List.take_append,List.take_take,Nat.min_eq_right (by omega),List.length_take,fz.len,Nat.min_eq_left (by omega),List.drop_take]
    have hxc:x.take c=y.take c:=by
     have h1:(x.take 9).take c=(y.take 9).take c:=by rw[fx.hd,fy.hd,ht,hy8]
     rwa [List.take_take,List.take_take,Nat.min_eq_left (by omega)] at h1
    have hxz:x.take c=z.take c:=by rw[e,uu,List.take_append_of_le_length (by simp[fz.len];omega),List.take_take,Nat.min_self]
    rw[e,uu,←hxz,hxc,List.take_append_drop]
   ·have h9':x.take 9=z.take 9:=by
     rw[e,uu,List.take_append_of_le_length (by simp[fz.len];omega),List.take_take,Nat.min_eq_left (by omega)]
    rw[fx.hd,fz.hd] at h9'
    injection h9' with h1 h2
    exact absurd (ht.symm.trans h2) hne
end
end Go.Proofs.YtbcbhlfjgobejaaGreat
