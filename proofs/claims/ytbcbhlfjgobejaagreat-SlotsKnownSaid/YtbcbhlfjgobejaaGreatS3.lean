/- fields.Writer's Byte, Short, Long; slices.Grow of nothing: the walks. Conditions: none, or as the theorems say. -/
import Derived.Test.YtbcbhlfjgobejaaGreatS2
import Derived.Maps.AppendAt
import Derived.Lib.ConvBytes
import Derived.Deep.DeepCutAuto
import Derived.Deep.RegionLaw
set_option linter.unusedSimpArgs false
set_option linter.unusedVariables false
namespace Go.Proofs.YtbcbhlfjgobejaaGreat
set_option maxHeartbeats 200000000
open Go.RowKit Go.Sf
variable {a:Act} {ops:Array Oper} {Q:Exit→Act→World→Prop} {l m:List Int} {xs:List Value} {base n wb:Nat} {P:Program} {e:TypeId} {v y:Value} {W W' w1:World}
def zhl (W:World) (wb base:Nat) (v:Value) (l:List Int) (e:Ending) (w':World):Prop:=
 e = .returned (.tuple #[])∧∃v',Xi w' wb base v' l∧zm (λk=>k=wb∨v.ownBlock=some k) W w'∧(v.ownBlock=v'.ownBlock∨∀g,v'.ownBlock=some g→W.heap.size≤g)
section
variable {W : World} {wb base : Nat} {v : Value} {l : List Int}
set_option maxRecDepth 100000 in
theorem zok (h:Xi W wb base v l) (hb:base≤wb) (hl:l.length≤100000000) (N:Nat) (hN:N<256):Calls Tryz.prog 158 #[.pointer (some ⟨wb,0,none⟩),.int .u8 N] W λe w'=>zhl W wb base v (l++be 1 N) e w':=by
 have H:=zd h;clear h
 go_enter Tryz.func158,Tryz.ntmps158
 go_wp2_with (go_at_call 206;refine(put8 H.out hb hl N hN).mono ?_;rintro e w' ⟨rfl,hq⟩;have HQ:=zd hq;clear hq)
 first|go_end0|refine bodyPost_ret (results_none rfl _ _ _) rfl ?_
 exact⟨rfl,HQ.out⟩
set_option maxRecDepth 100000 in
theorem zns (h:Xi W wb base v l) (hb:base≤wb) (hl:l.length≤100000000) (N:Nat) (hN:N<256 ^ 2):Calls Tryz.prog 175 #[.pointer (some ⟨wb,0,none⟩),.int .u16 N] W λe w'=>zhl W wb base v (l++be 2 N) e w':=by
 have H:=zd h;clear h
 go_enter Tryz.func175,Tryz.ntmps175
 go_wp2_with (go_at_call 218;refine(put16 H.out hb hl N hN).mono ?_;rintro e w' ⟨rfl,hq⟩;have HQ:=zd hq;clear hq)
 first|go_end0|refine bodyPost_ret (results_none rfl _ _ _) rfl ?_
 exact⟨rfl,HQ.out⟩
set_option maxRecDepth 100000 in
theorem zo7 (h:Xi W wb base v l) (hb:base≤wb) (hl:l.length≤100000000) (N:Nat) (hN:N<256 ^ 8):Calls Tryz.prog 132 #[.pointer (some ⟨wb,0,none⟩),.int .u64 N] W λe w'=>zhl W wb base v (l++be 8 N) e w':=by
 have H:=zd h;clear h
 go_enter Tryz.func132,Tryz.ntmps132
 go_wp2_with (go_at_call 192;refine(put64 H.out hb hl N hN).mono ?_;rintro e w' ⟨rfl,hq⟩;have HQ:=zd hq;clear hq)
 first|go_end0|refine bodyPost_ret (results_none rfl _ _ _) rfl ?_
 exact⟨rfl,HQ.out⟩
end
theorem znk {g cap:Nat} (h:W.ownsRow base e 1 (.slice (some ⟨g,0,none⟩) n cap) n xs):W.ownsRow base e 1 (.slice (some ⟨g,0,none⟩) 0 cap) 0 []:=by
 refine⟨by simp,?_⟩
 rcases h.2 with ⟨e1,_⟩|⟨b,c,cur,e1,h1,hb,r1,r2,r3,r4⟩
 ·cases e1
 ·cases e1
  exact .inr ⟨g,cap,cur,rfl,h1,hb,Nat.zero_le _,r2,r3,by simp⟩
theorem zhh (w:World) {rest:List Oper} {o:Oper} (hgd:o.guard=none) (s x:Operand) (t tn e:TypeId) (hop:o.op = .call { callee:=.builtin .append,args:=#[s,x],argTypes:=#[t,tn] })
 (i:TypeInfo) (kn kq:IntKind) (ht:P.underlying t=some (.slice e)) (htn:P.underlying tn=some (.int kn)) (hi:P.info? e=some i) (hz:i.zero=some (.int .u8 0)) (hsize:i.size=1) (hby:i.bytes=1)
 (base:Nat) (v:Value) (n:Nat) (xs:List Value) (hs:a.eval s=v) (hown:w.ownsRow base e 1 v n xs) (k:Nat) (hx:a.eval x = .int kq k) (h0:0<k) (hk:n+k≤1000000000) (hbase:base≤w.heap.size)
 (h:∀g cap w',w'.ownsRow base e 1 (.slice (some ⟨g,0,none⟩) (n+k) cap) (n+k) (xs++List.replicate k (.int .u8 0))→w.grownBy w' v.ownBlock→(v.ownBlock=some g∨g=w.heap.size)→wpList P ops Q rest (a.put o.dst (.slice (some ⟨g,0,none⟩) (n+k) cap)) w') :
  wpList P ops Q (o :: rest) a w:=by
 obtain⟨g,cap,w',hr,h1,h2,h3⟩:=Jh (P:=P) w base t tn o.type e i kn kq ht htn hi hz hsize hby v n xs hown k h0 hk hbase
 exact Go.Lib.wpList_append_run w hgd s x t tn hop v (.int kq k) hs hx _ _ hr (h g cap w' h1 h2 h3)
set_option maxRecDepth 100000 in
theorem zo0 (n:Nat) (hn:n≤1000000000) (W:World):Calls Tryz.prog 242 #[.slice none 0 0,.int .i64 n] W λe w'=>∃v,e = .returned v∧w'.ownsRow W.heap.size 5 1 v 0 []∧W.grownBy w' none∧(n=0→v = .slice none 0 0):=by
 obtain⟨i0,hi,hz0,hz1,hz2⟩:=info_parts Yu
 rcases Nat.eq_zero_or_pos n with h0|h0
 ·subst h0
  go_enter Tryz.func242,Tryz.ntmps242
  go_wp2
  go_ret
  exact⟨_,rfl,World.ownsRow_nil _ _ _ _,zi _,λ_=>rfl⟩
 ·go_enter Tryz.func242,Tryz.ntmps242
  go_wp2_with (at_builtin;refine zhh _ rfl _ _ 32 3 5 rfl i0 .i64 .i64 Tryz.underlying32 Tryz.underlying3 hi hz0 hz1 hz2 W.heap.size _ 0 [] rfl (World.ownsRow_nil _ _ _ _) n rfl h0 (by omega) (by simp) ?_;intro g cap w1 ho hg hat;have HO:=zd ho;have HG:=zd hg;clear ho hg hat)
  go_ret
  exact⟨_,rfl,znk HO.out,HG.out,λh=>by omega⟩
structure zx (W:World) (v:Value) (l:List Int):Prop where
 ex:∃p cap,v = .slice p l.length cap∧(l = []∨∃a,p=some a∧∀j u,(zg l)[j]? = some u→W.cell? (a.add j)=some u)
theorem zct (w:World) (base:Nat) (t ty e:TypeId) (i:TypeInfo) (ht:P.underlying t=some (.slice e)) (hi:P.info? e=some i) (v:Value) (n:Nat) (xs:List Value) (hown:w.ownsRow base e 1 v n xs) (cx:Nat) :
  (Builtin.append_ #[t,t] ty #[v,.slice none 0 cx]).run P w = .ok v w:=by
 rcases hown.2 with ⟨rfl,rfl⟩|⟨g,cap,cur,rfl,hbg,hg,hnc,hcm,hcs,htake⟩
 ·simp[Builtin.append_,run_underlying ht,sizeOf,typeInfo,hi,Builtin.lenOf,Builtin.firstCells]
 ·simp[Builtin.append_,run_underlying ht,sizeOf,typeInfo,hi,Builtin.lenOf,Builtin.firstCells,hnc,storeCells]
theorem qc (w:World) {rest:List Oper} {o:Oper} (hgd:o.guard=none) (s x:Operand) (t e:TypeId) (hop:o.op = .call { callee:=.builtin .append,args:=#[s,x],argTypes:=#[t,t] })
 (i:TypeInfo) (ht:P.underlying t=some (.slice e)) (hi:P.info? e=some i) (hz:i.zero=some (.int .u8 0)) (hsize:i.size=1) (hby:i.bytes=1)
 (base:Nat) (v:Value) (n:Nat) (xs:List Value) (hs:a.eval s=v) (hown:w.ownsRow base e 1 v n xs) (y:Value) (l:List Int) (hx:a.eval x=y) (hy:zx w y l) (hk:n+l.length≤1000000000) (hbase:base≤w.heap.size)
 (h:∀v' w',w'.ownsRow base e 1 v' (n+l.length) (xs++zg l)→w.grownBy w' v.ownBlock→(v'.ownBlock=v.ownBlock∨v'.ownBlock=some w.heap.size)→wpList P ops Q rest (a.put o.dst v') w') :
  wpList P ops Q (o :: rest) a w:=by
 obtain⟨p,cap,rfl,hc⟩:=hy.ex
 cases p with
 | none=>
  have hl:l = []:=by
   rcases hc with h0|⟨a,ha,_⟩
   ·exact h0
   ·cases ha
  subst hl;have hr:=zct (P:=P) w base t o.type e i ht hi v n xs hown cap
  exact Go.Lib.wpList_append_run w hgd s x t t hop v _ hs hx _ _ hr (h v w (by simpa[zg] using hown) ⟨rfl,rfl,rfl,Nat.le_refl _,λ_ _ _=>rfl⟩ (Or.inl rfl))
 | some ad=>
  have hc':∀j u,(zg l)[j]? = some u→w.cell? (ad.add j)=some u:=by
   rcases hc with h0|⟨a,ha,hc⟩
   ·subst h0;intro j u hu;simp[zg] at hu
   ·cases ha;exact hc
  obtain⟨v',w',hr,h1,h2,h3,h4⟩:=run_append_own_at (P:=P) w base t o.type e i (.int .u8 0) 1 1 ht hi hz hsize hby rfl (by decide) v n xs hown ad l.length cap (zg l) (by simp[zg]) hc' (λu hu=>by simp[zg] at hu;obtain⟨b,_,rfl⟩:=hu;rfl) (by unfold maxLen;omega) (by omega) hbase
  exact Go.Lib.wpList_append_run w hgd s x t t hop v _ hs hx _ _ hr (h v' w' h1 h2 h4)
theorem zx.grown (h:zx W v l) {r:Option Nat} (hg:W.grownBy W' r) (hr:∀b p n c,r=some b→v = .slice (some p) n c→p.block≠b):zx W' v l:=by
 obtain⟨p,cap,rfl,hc⟩:=h.ex;refine⟨p,cap,rfl,?_⟩
 rcases hc with h0|⟨a,rfl,hc⟩
 ·exact Or.inl h0
 ·refine Or.inr ⟨a,rfl,λj u hu=>?_⟩
  have hb:(a.add j).block=a.block:=by unfold Addr.add;split <;> rfl
  have hcc:=hc j u hu;refine hg.cell hcc (λe=>hr a.block a _ _ (by rw[←e,hb]) rfl rfl)
theorem zx.nil (h:zx W v l) (e:v = .slice none 0 0):l = []:=by
 obtain⟨p,cap,rfl,hc⟩:=h.ex
 injection e with _ e2 _
 exact List.eq_nil_of_length_eq_zero e2
@[go_sem] theorem zqh (n c:Nat) (w:World):(binOp BinOp.eql 32 (.slice none n c) (.slice none 0 0)).run Tryz.prog w = .ok (.bool true) w:=by kernel_rfl
@[go_sem] theorem zqi (a:Addr) (n c:Nat) (w:World):(binOp BinOp.eql 32 (.slice (some a) n c) (.slice none 0 0)).run Tryz.prog w = .ok (.bool false) w:=by kernel_rfl
theorem vw (h:W.ownsRow base 5 1 v l.length (zg l)):zx W v l:=by
 rcases h.2 with ⟨e1,h0⟩|⟨b,c,cur,e1,_⟩
 ·have:l = []:=List.eq_nil_of_length_eq_zero h0
  subst this
  exact⟨none,0,by rw[e1];rfl,Or.inl rfl⟩
 ·exact⟨_,_,e1,Or.inr ⟨_,rfl,h.cells (g:=b) (by rw[e1];rfl)⟩⟩
set_option maxRecDepth 100000 in
theorem Xb (h:zx W v l) (hl:l.length≤100000000) (hnil:v = .slice none 0 0→l = []) :
  Calls Tryz.prog 97 #[v] W λe w'=>∃v',e = .returned v'∧w'.ownsRow W.heap.size 5 1 v' l.length (zg l)∧W.grownBy w' none:=by
 obtain⟨i0,hi,hz0,hz1,hz2⟩:=info_parts Yu;obtain⟨p,cap,rfl,hc⟩:=h.ex
 cases p with
 | none=>
  have h0:l = []:=by
   rcases hc with h0|⟨a,ha,_⟩
   ·exact h0
   ·cases ha
  subst h0;clear hc h
  go_enter Tryz.func97,Tryz.ntmps97
  go_wp2
  go_ret
  exact⟨_,rfl,World.ownsRow_nil _ _ _ _,zi _⟩
 | some ad=>
  have H:=zd h;have HR:Hid (∀W',W.grownBy W' none→zx W' (.slice (some ad) l.length cap) l):=(λW' hg=>h.grown hg (by simp))
  clear hc h
  go_enter Tryz.func97,Tryz.ntmps97
  go_wp2_with (at_builtin;refine qc _ rfl _ _ 32 5 rfl i0 Tryz.underlying32 hi hz0 hz1 hz2 W.heap.size _ 0 [] rfl ?r0 _ l rfl (HR.out _ ?r1) (by omega) ?r2 ?_)
  case r0=>exact World.ownsRow_made W #[] 0 (Nat.le_refl _) (by unfold maxLen;omega) rfl
  case r1=>exact zp (zi _) _
  case r2=>simp
  intro v' w1 ho hg hat;have HO:=zd ho;have HG:=zd (show W.grownBy w1 none from ⟨hg.os,hg.tape,hg.output,Nat.le_trans (by simp) hg.size,λk hk _=>(hg.block k (by simp;omega) (by simp[Value.ownBlock];omega)).trans ((ze W _ none).block k hk (by simp))⟩)
  clear ho hg hat;go_wp2
  go_ret
  exact⟨_,rfl,by simpa using HO.out,HG.out⟩
set_option maxRecDepth 100000 in
theorem out_any (h:Xi W wb base v l) (hl:l.length≤100000000) :
  Calls Tryz.prog 134 #[.pointer (some ⟨wb,0,none⟩)] W λe w'=>∃v',e = .returned v'∧w'.ownsRow W.heap.size 5 1 v' l.length (zg l)∧W.grownBy w' none:=by
 have c0:W.cell? ⟨wb,0,none⟩=some v:=by simp[World.cell?,h.box]
 have hr:zx W v l:=vw h.row;have HC:=zd (Xb hr hl (λe=>hr.nil e))
 clear h hr
 go_enter Tryz.func134,Tryz.ntmps134
 go_wp2_with (go_at_call 97;refine HC.out.mono ?_;rintro e w' ⟨v',rfl,h1,h2⟩;have HQ:=zd (And.intro h1 h2);clear h1 h2)
 go_ret
 exact⟨v',rfl,HQ.out.1,HQ.out.2⟩
theorem zbk {w2:World} (h:W.grownBy w1 none) (hr:w1.ownsRow base e 1 v n xs) (hb:W.heap.size≤base) (h2:w1.grownBy w2 v.ownBlock):W.grownBy w2 none:=
 ⟨h2.os.trans h.os,h2.tape.trans h.tape,h2.output.trans h.output,Nat.le_trans h.size h2.size,λk hk _=>
  (h2.block k (Nat.lt_of_lt_of_le hk h.size) (λe=>by have:=(hr.lt k e.symm).1;omega)).trans (h.block k hk (by simp))⟩
set_option maxRecDepth 100000 in
theorem zj4 {r:Nat} {v0 v1:Value} {l0 l1:List Int} (h0:zx W v0 l0) (h1:zx W v1 l1) (c0:W.cell? ⟨r,0,none⟩=some v0) (c1:W.cell? ⟨r,1,none⟩=some v1) (hl:l0.length+l1.length≤100000000) :
  Calls Tryz.prog 207 #[.slice (some ⟨r,0,none⟩) 2 2] W λe w'=>∃v',e = .returned v'∧w'.ownsRow W.heap.size 5 1 v' (l0.length+l1.length) (zg l0++zg l1)∧W.grownBy w' none:=by
 obtain⟨i0,hi,hz0,hz1,hz2⟩:=info_parts Yu;have H0:Hid (∀W',W.grownBy W' none→zx W' v0 l0):=(λW' hg=>h0.grown hg (by simp))
 have H1:Hid (∀W',W.grownBy W' none→zx W' v1 l1):=(λW' hg=>h1.grown hg (by simp))
 obtain⟨p0,k0,rfl,-⟩:=h0.ex;obtain⟨p1,k1,rfl,-⟩:=h1.ex;have hrl:r<W.heap.size:=World.block_lt_of_cell? W _ c0;have HC:Hid (∀W',W.grownBy W' none→W'.cell? ⟨r,0,none⟩=some (.slice p0 l0.length k0)∧W'.cell? ⟨r,1,none⟩=some (.slice p1 l1.length k1)):=(λW' hg=>⟨hg.cell c0 (by simp),hg.cell c1 (by simp)⟩)
 clear h0 h1;generalize hn0:l0.length=n0 at *;generalize hn1:l1.length=n1 at *;have HN:Hid (l0.length=n0∧l1.length=n1):=(show _∧_ from ⟨hn0,hn1⟩)
 clear hn0 hn1
 go_enter Tryz.func207,Tryz.ntmps207
 go_wp2
 go_loopw [3,11] (λsz i wr=>W=wr∧((i = .int .i64 0∧sz = .int .i64 0)∨(i = .int .i64 1∧sz = .int .i64 n0)∨(i = .int .i64 2∧sz = .int .i64 ((n0+n1:Nat):Int)))) (λ_ i _=>2-(intOf i).toNat)
 case atStart=>exact⟨rfl,Or.inl ⟨rfl,rfl⟩⟩
 case round=>
  obtain⟨rfl,⟨rfl,rfl⟩|⟨rfl,rfl⟩|⟨rfl,rfl⟩⟩:=hrel
  ·go_wp2
   go_roundw
   case rel=>simp
   case measure=>simp[intOf]
  ·go_wp2
   go_roundw
   case rel=>simp
   case measure=>simp[intOf]
  ·go_wp2_with (go_at_call 242;refine(zo0 (n0+n1) (by omega) W).mono ?_;rintro e w1 ⟨vg,rfl,hr,hg,-⟩;have HR:=zd hr;have HG:=zd hg;clear hr hg c0 c1)
   go_loopw [6,27] (λv i wz=>W.grownBy wz none∧((i = .int .i64 0∧wz.ownsRow W.heap.size 5 1 v 0 [])∨(i = .int .i64 1∧wz.ownsRow W.heap.size 5 1 v n0 (zg l0))∨(i = .int .i64 2∧wz.ownsRow W.heap.size 5 1 v (n0+n1) (zg l0++zg l1)))) (λ_ i _=>2-(intOf i).toNat)
   case atStart=>exact⟨HG.out,Or.inl ⟨rfl,HR.out⟩⟩
   case round=>
    obtain⟨hgr,⟨rfl,ho⟩|⟨rfl,ho⟩|⟨rfl,ho⟩⟩:=hrel
    ·obtain⟨c0,c1⟩:=HC.out wr hgr
     have HGR:=zd hgr;have HO:=zd ho;clear hgr ho
     go_wp2_with (at_builtin;refine qc _ rfl _ _ 32 5 rfl i0 Tryz.underlying32 hi hz0 hz1 hz2 W.heap.size _ 0 [] rfl HO.out _ l0 rfl (H0.out _ HGR.out) (by have:=HN.out;omega) HGR.out.size ?_;intro v2 w2 ho2 hg2 _;have HO2:=zd ho2;have HG2:=zd (zbk HGR.out HO.out (Nat.le_refl _) hg2);clear ho2 hg2)
     go_roundw
     case rel=>exact⟨HG2.out,Or.inr (Or.inl ⟨rfl,by simpa[HN.out.1] using HO2.out⟩)⟩
     case measure=>simp[intOf]
    ·obtain⟨c0,c1⟩:=HC.out wr hgr
     have HGR:=zd hgr;have HO:=zd ho;clear hgr ho
     go_wp2_with (at_builtin;refine qc _ rfl _ _ 32 5 rfl i0 Tryz.underlying32 hi hz0 hz1 hz2 W.heap.size _ n0 (zg l0) rfl HO.out _ l1 rfl (H1.out _ HGR.out) (by have:=HN.out;omega) HGR.out.size ?_;intro v2 w2 ho2 hg2 _;have HO2:=zd ho2;have HG2:=zd (zbk HGR.out HO.out (Nat.le_refl _) hg2);clear ho2 hg2)
     go_roundw
     case rel=>exact⟨HG2.out,Or.inr (Or.inr ⟨rfl,by simpa[HN.out.2] using HO2.out⟩)⟩
     case measure=>simp[intOf]
    ·have HGR:=zd hgr
     have HO:=zd ho;clear hgr ho;go_wp2
     go_ret
     exact⟨_,rfl,HO.out,HGR.out⟩
theorem Xf {b2:Nat} (h:W.ownsRow base e 1 v n xs) (hb:b2≤base):W.ownsRow b2 e 1 v n xs:=by
 refine⟨h.1,?_⟩
 rcases h.2 with h0|⟨g,cap,cur,e1,hbg,r⟩
 ·exact Or.inl h0
 ·exact Or.inr ⟨g,cap,cur,e1,Nat.le_trans hb hbg,r⟩
theorem set_box {v':Value} (h:Xi W wb base v l) (hb:base≤wb) (hg:W.grownBy w1 none) (hr:w1.ownsRow W.heap.size 5 1 v' n (zg (l++m))) (hn:n=(l++m).length) :
  zhl W wb base v (l++m) (.returned (.tuple #[])) (w1.setCell ⟨wb,0,none⟩ v'):=by
 subst hn;have hwb:wb<W.heap.size:=by
  have hx:=h.box
  rcases Nat.lt_or_ge wb W.heap.size with h'|h'
  ·exact h'
  ·rw[Array.getElem?_eq_none h'] at hx;cases hx
 have hx:w1.heap[wb]? = some (.cells #[v] 231 (0,0)):=(hg.block wb hwb (by simp)).trans h.box
 have hs:=zv w1 wb 0 v';have hne:v'.ownBlock≠some wb:=λe=>by have:=(hr.lt wb e).1;omega
 refine⟨rfl,v',⟨by simp[World.setCell,Array.getElem?_modify,hx],Xf (hr.kept hs (Or.inr hne)) (by omega)⟩,⟨hs.os.trans hg.os,hs.tape.trans hg.tape,hs.output.trans hg.output,Nat.le_trans hg.size hs.size,λq hq hn=>(hs.block q (Nat.lt_of_lt_of_le hq hg.size) (λe=>hn (Or.inl (by cases e;rfl)))).trans (hg.block q hq (by simp))⟩,Or.inr (λg e=>(hr.lt g e).1)⟩
theorem zdd (l m:List Int):zg l++zg m=zg (l++m):=by simp[zg]
set_option maxRecDepth 100000 in
theorem raw_any (h:Xi W wb base v l) (hb:base≤wb) (hy:zx W y m) (hl:l.length+m.length≤100000000) :
  Calls Tryz.prog 159 #[.pointer (some ⟨wb,0,none⟩),y] W λe w'=>zhl W wb base v (l++m) e w':=by
 obtain⟨p,cp,rfl⟩:=jl h.row;obtain⟨p1,c1,rfl,-⟩:=hy.ex;have c0:W.cell? ⟨wb,0,none⟩=some (.slice p l.length cp):=by simp[World.cell?,h.box]
 have h0:=h.box;have hwb:wb<W.heap.size:=World.block_lt_of_cell? W _ c0;have hr:zx W (.slice p l.length cp) l:=vw h.row;have HC:Hid (∀(W':World) (r:Nat),W.grownBy W' none→W'.cell? ⟨r,0,none⟩=some (.slice p l.length cp)→W'.cell? ⟨r,1,none⟩=some (.slice p1 m.length c1)→Calls Tryz.prog 207 #[.slice (some ⟨r,0,none⟩) 2 2] W' λe w'=>∃v',e = .returned v'∧w'.ownsRow W'.heap.size 5 1 v' (l.length+m.length) (zg l++zg m)∧W'.grownBy w' none):=
  (λW' r hg c0 c1=>zj4 (hr.grown hg (by simp)) (hy.grown hg (by simp)) c0 c1 hl)
 have HS:Hid (∀w1 v',W.grownBy w1 none→w1.ownsRow W.heap.size 5 1 v' (l.length+m.length) (zg l++zg m)→zhl W wb base (.slice p l.length cp) (l++m) (.returned (.tuple #[])) (w1.setCell ⟨wb,0,none⟩ v')):=
  (λw1 v' hg hr=>set_box h hb hg (by rw[←zdd];exact hr) (by simp))
 clear h hr hy;generalize l.length=n0 at *;generalize m.length=n1 at *
 go_enter Tryz.func159,Tryz.ntmps159
 go_wp2_with (go_at_call 207;refine(HC.out _ W.heap.size (zp (zi _) _) (by simp) (by simp)).mono ?_;rintro e w' ⟨v',rfl,h1,h2⟩;obtain⟨q,cq,rfl⟩:=jl h1;have hx:=((zh (zp (zi W) _) h2).block wb hwb (by simp)).trans h0;have d0:w'.cell? ⟨wb,0,none⟩=some (.slice p n0 cp):=(by simp[World.cell?,hx]);have y0:w'.frozen? ⟨wb,0,none⟩=false:=(by simp[World.frozen?,hx]);have HQ:=zd (HS.out w' _ (zh (zp (zi _) _) h2) (Xf h1 (by simp)));clear h1 h2)
 first|go_end0|refine bodyPost_ret (results_none rfl _ _ _) rfl ?_
 exact HQ.out
theorem zci (W:World) (s:ByteArray):zx (Lib.bytesWorld W 5 s) (.slice (some ⟨W.heap.size,0,none⟩) s.size (grownCap W s.size 0 5)) (yz s):=by
 have hs:(yz s).length=s.size:=by rw[yz,List.length_map];rfl
 refine⟨_,_,by rw[hs],Or.inr ⟨_,rfl,λj u hu=>?_⟩⟩
 have hj:j<s.size:=by
  rcases Nat.lt_or_ge j s.size with h|h
  ·exact h
  ·rw[List.getElem?_eq_none (by rw[zg,List.length_map,hs];exact h)] at hu;cases hu
 have hc:=Lib.bytesWorld_cell W 5 s j hj;have e1:(⟨W.heap.size,0,none⟩:Addr).add j=⟨W.heap.size,j,none⟩:=by rw[Addr.add_lit];simp only[Nat.zero_add]
 rw[e1,hc];have hj2:j<s.data.size:=hj;simp only[zg,yz,List.getElem?_map,Array.getElem?_toList,Array.getElem?_eq_getElem hj2,Option.map_some,Option.some.injEq] at hu;rw[←hu];simp[List.getD,Array.getElem?_eq_getElem hj2]
theorem zcb (W:World) (e:TypeId) (s:ByteArray):W.grownBy (Lib.bytesWorld W e s) none:=
 ⟨rfl,rfl,rfl,by rw[Lib.bytesWorld_size];omega,λk hk _=>Lib.bytesWorld_at_old W e s k hk⟩
@[go_sem] theorem as32_8 (v:Value) (w:World):(Instr.typeAssert (.iface 172 v) 20 5 true).run Tryz.prog w = .ok (.tuple #[.int .u8 0,.bool false]) w:=by kernel_rfl
@[go_sem] theorem as32_16 (v:Value) (w:World):(Instr.typeAssert (.iface 172 v) 20 72 true).run Tryz.prog w = .ok (.tuple #[.int .u16 0,.bool false]) w:=by kernel_rfl
@[go_sem] theorem as32_32 (v:Value) (w:World):(Instr.typeAssert (.iface 172 v) 20 172 true).run Tryz.prog w = .ok (.tuple #[v,.bool true]) w:=by kernel_rfl
set_option maxRecDepth 100000 in
theorem size32 (n:Int) (W:World):Calls Tryz.prog 243 #[.int .u32 n] W λe w'=>e = .returned (.int .i64 4)∧w'=W:=by
 go_enter Tryz.func243,Tryz.ntmps243
 go_wp2
 go_ret
 exact⟨rfl,rfl⟩
set_option maxRecDepth 100000 in
theorem put32 (h:Xi W wb base v l) (hb:base≤wb) (hl:l.length≤100000000) (N:Nat) (hN:N<256 ^ 4):Calls Tryz.prog 208 #[.pointer (some ⟨wb,0,none⟩),.int .u32 N] W λe w'=>e = .returned (.tuple #[])∧∃v',Xi w' wb base v' (l++be 4 N)∧zm (λk=>k=wb∨v.ownBlock=some k) W w'∧(v.ownBlock=v'.ownBlock∨∀g,v'.ownBlock=some g→W.heap.size≤g):=by
 obtain⟨i0,hi,hz0,hz1,hz2⟩:=info_parts Yu;obtain⟨p,cap,rfl⟩:=jl h.row;have c0:W.cell? ⟨wb,0,none⟩=some (.slice p l.length cap):=by simp[World.cell?,h.box]
 have f0:W.frozen? ⟨wb,0,none⟩=false:=by simp[World.frozen?,h.box]
 have hwb:wb<W.heap.size:=(Array.getElem?_eq_some_iff.1 h.box).1;have H:=zd h;clear h
 go_enter Tryz.func208,Tryz.ntmps208
 go_upto_region 2 with fail
 go_cut [] (λwx=>∃g cap2,Jt wx wb base g cap2 (l.length+4) (zg l++List.replicate 4 (.int .u8 0))∧zm (λq=>q=wb∨Value.ownBlock (.slice p l.length cap)=some q) W wx∧(Value.ownBlock (.slice p l.length cap)=some g∨W.heap.size≤g))
 case first=>
  go_region_law (first
   | (go_simp;go_at_call 243;refine(size32 _ _).mono ?_;rintro e w3 ⟨rfl,rfl⟩)
   | (refine Uh rfl _ _ 32 3 5 rfl i0 .i64 .i64 Tryz.underlying32 Tryz.underlying3 hi hz0 hz1 hz2 base _ l.length (zg l) rfl H.out.row 4 rfl (by omega) (by omega) (by show base≤W.heap.size;omega) ?_;intro g cap2 w1 ho hg hat;have hx1:w1.heap[wb]? = some (.cells #[.slice p l.length cap] 231 (0,0)):=(hg.block wb hwb (λe=>H.out.ne e.symm)).trans H.out.box;have d0:w1.cell? ⟨wb,0,none⟩=some (.slice p l.length cap):=(by simp[World.cell?,hx1]);have y0:w1.frozen? ⟨wb,0,none⟩=false:=(by simp[World.frozen?,hx1]);have HO:=zd ho;have HGR:=zd hg;have HAT:=zd hat;have HX:=zd hx1;clear ho hg hat hx1))
  all_goals
   go_wp2_with fail
   go_meet
   exact⟨g,cap2,zc1 hwb H.out.ne HX.out HO.out HGR.out HAT.out⟩
 case rest=>
  obtain⟨g,cap2,hp,ht,hat⟩:=hcut;have HTN:=zd ht;have HAT:=zd hat;have d0:=hp.c0;clear ht hat c0 f0;have hlen:l.length+4≤1000000000:=by omega
  go_wp2
  go_loopw [1,5] (λnv i wr=>∃(m nc:Nat) (tail:List Int),m≤4∧nv = .int .u32 nc∧nc<256 ^ 4∧i = .int .i64 ((l.length:Int)+m-1)∧be 4 N=be m nc++tail∧tail.length+m=4∧Jt wr wb base g cap2 (l.length+4) (zg l++List.replicate m (.int .u8 0)++zg tail)∧zm (λq=>q=wb∨Value.ownBlock (.slice p l.length cap)=some q∨W.heap.size≤q) W wr) (λ_ i _=>(intOf i+1-(l.length:Int)).toNat)
  case atStart=>exact⟨4,N,[],by omega,rfl,hN,by congr 1 <;> omega,by simp,by simp,by simpa[zg] using hp,HTN.out.mono (λq h=>by rcases h with h|h;exact Or.inl h;exact Or.inr (Or.inl h))⟩
  case round=>
   obtain⟨m,nc,tail,hm,rfl,hnc,rfl,hbe,htl,hp,ht⟩:=hrel;have e0:=hp.c0;have HP:=zd hp;have HT:=zd ht;clear hp ht d0
   cases m with
   | zero=>
    go_wp2
    first|go_end0|refine bodyPost_ret (results_none rfl _ _ _) rfl ?_
    have hbt:be 4 N=tail:=by simpa[be] using hbe
    have hln:(l++be 4 N).length=l.length+4:=by simp[vc]
    refine⟨rfl,_,⟨HP.out.box,?_⟩,HT.out.old,?_⟩
    ·rw[hln,hbt]
     have:=HP.out.row;simpa[zg] using this
    ·rcases HAT.out with h|h
     ·exact Or.inl h
     ·exact Or.inr (λq hq=>by simp[Value.ownBlock] at hq;omega)
   | succ m=>
    have hsel:=HP.out.row;obtain⟨cell0,hz⟩:∃u,wr.cell? ⟨g,l.length+m,none⟩=some u:=by
     rcases hsel.2 with ⟨e1,_⟩|⟨b,c,cur,e1,_,hb,r1,r2,r3,r4⟩
     ·cases e1
     ·cases e1
      refine⟨cur[l.length+m]'(by omega),?_⟩
      simp[World.cell?,hb]
    have hfz:wr.frozen? ⟨g,l.length+m,none⟩=false:=by
     rcases hsel.2 with ⟨e1,_⟩|⟨b,c,cur,e1,_,hb,r1,r2,r3,r4⟩
     ·cases e1
     ·cases e1
      simp[World.frozen?,hb]
    clear hsel;go_wp2
    go_roundw
    case rel=>
     refine⟨m,nc / 256,((nc%256:Nat):Int) :: tail,by omega,by simp,Nat.lt_of_le_of_lt (Nat.div_le_self _ _) hnc,by congr 1;omega,by rw[hbe,Jd];simp,by simp only[List.length_cons];omega,?_,HT.out.set _ (by rcases HAT.out with h|h;exact Or.inr (Or.inl h);exact Or.inr (Or.inr h))⟩
     have hnm:((nc%256:Nat):Int)=(nc:Int)%256:=rfl;rw[hnm]
     exact HP.out.step (by omega) _
    case measure=>simp[intOf];omega
section
variable {W : World} {wb base : Nat} {v : Value} {l : List Int}
set_option maxRecDepth 100000 in
theorem zqd (h:Xi W wb base v l) (hb:base≤wb) (hl:l.length≤100000000) (N:Nat) (hN:N<256 ^ 4):Calls Tryz.prog 160 #[.pointer (some ⟨wb,0,none⟩),.int .u32 N] W λe w'=>zhl W wb base v (l++be 4 N) e w':=by
 have H:=zd h;clear h
 go_enter Tryz.func160,Tryz.ntmps160
 go_wp2_with (go_at_call 208;refine(put32 H.out hb hl N hN).mono ?_;rintro e w' ⟨rfl,hq⟩;have HQ:=zd hq;clear hq)
 first|go_end0|refine bodyPost_ret (results_none rfl _ _ _) rfl ?_
 exact⟨rfl,HQ.out⟩
end
theorem Uy (W:World) (s:ByteArray):∃y W2,(convert 9 32 (.string s)).run Tryz.prog W = .ok y W2∧W.grownBy W2 none∧zx W2 y (yz s):=
 ⟨_,_,Lib.run_convert_string_bytes (P:=Tryz.prog) W 9 32 5 s (u:=.string) Tryz.underlying9 Tryz.underlying32 Tryz.underlying5,zcb _ _ _,zci W s⟩
theorem Xi.kept (h:Xi W wb base v l) (hg:W.grownBy W' none):Xi W' wb base v l:=
 ⟨(hg.block wb (Array.getElem?_eq_some_iff.1 h.box).1 (by simp)).trans h.box,h.row.kept hg (by
  rcases h:v.ownBlock with _|k
  ·exact Or.inl rfl
  ·exact Or.inr (by simp))⟩
theorem vo {bs:Nat→Prop} {a b c:World} (h:a.grownBy b none) (g:zm bs b c):zm bs a c:=
 ⟨g.os.trans h.os,g.tape.trans h.tape,g.output.trans h.output,Nat.le_trans h.size g.size,λk hk hn=>(g.block k (Nat.lt_of_lt_of_le hk h.size) hn).trans (h.block k hk (by simp))⟩
structure WS (own:Nat→Prop) (wb:Nat) (l:List Int) (w:World):Prop where
 ex:∃v,Xi w wb wb v l∧∀g,v.ownBlock=some g→¬own g
 nw:¬own wb
 lt:∀g,own g→g<w.heap.size
def ze6 (own:Nat→Prop) (wb:Nat) (l:List Int) (w:World) (e:Ending) (w':World):Prop:=e = .returned (.tuple #[])∧WS own wb l w'∧zm (λk=>¬own k) w w'
section
variable {own : Nat → Prop} {w w' : World} {wb : Nat} {l l' : List Int}
theorem WS.keep (h:WS own wb l w) (hg:w.grownBy w' none):WS own wb l w':=by
 obtain⟨v,h1,h2⟩:=h.ex
 exact⟨⟨v,h1.kept hg,h2⟩,h.nw,λg hg2=>Nat.lt_of_lt_of_le (h.lt g hg2) hg.size⟩
theorem za8 (h1:Xi w wb wb v l) (h2:∀g,v.ownBlock=some g→¬own g) (h:WS own wb l w) {e:Ending} (hp:zhl w wb wb v l' e w'):ze6 own wb l' w e w':=by
 obtain⟨rfl,v',hw,ht,hv⟩:=hp;refine⟨rfl,⟨⟨v',hw,λg hg ho=>?_⟩,h.nw,λg ho=>Nat.lt_of_lt_of_le (h.lt g ho) ht.size⟩,ht.mono λk hk ho=>?_⟩
 ·rcases hv with e|e
  ·exact h2 g (e.trans hg) ho
  ·have:=e g hg;have:=h.lt g ho;omega
 ·rcases hk with rfl|hk
  ·exact h.nw ho
  ·exact h2 k hk ho
theorem WS.shortN (h:WS own wb l w) (hl:l.length≤100000) (x:Nat) (hx:x<65536):Calls Tryz.prog 175 #[.pointer (some ⟨wb,0,none⟩),.int .u16 x] w (ze6 own wb (l++be 2 x) w):=by
 obtain⟨v,h1,h2⟩:=h.ex
 exact(zns h1 (Nat.le_refl _) (by omega) x (by omega)).mono λe w' hp=>za8 h1 h2 h hp
theorem WS.wordN (h:WS own wb l w) (hl:l.length≤100000) (x:Nat) (hx:x<4294967296):Calls Tryz.prog 160 #[.pointer (some ⟨wb,0,none⟩),.int .u32 x] w (ze6 own wb (l++be 4 x) w):=by
 obtain⟨v,h1,h2⟩:=h.ex
 exact(zqd h1 (Nat.le_refl _) (by omega) x (by omega)).mono λe w' hp=>za8 h1 h2 h hp
theorem WS.longN (h:WS own wb l w) (hl:l.length≤100000) (x:Nat) (hx:x<18446744073709551616):Calls Tryz.prog 132 #[.pointer (some ⟨wb,0,none⟩),.int .u64 x] w (ze6 own wb (l++be 8 x) w):=by
 obtain⟨v,h1,h2⟩:=h.ex
 exact(zo7 h1 (Nat.le_refl _) (by omega) x (by omega)).mono λe w' hp=>za8 h1 h2 h hp
theorem WS.byteN (h:WS own wb l w) (hl:l.length≤100000) (x:Nat) (hx:x<256):Calls Tryz.prog 158 #[.pointer (some ⟨wb,0,none⟩),.int .u8 x] w (ze6 own wb (l++be 1 x) w):=by
 obtain⟨v,h1,h2⟩:=h.ex
 exact(zok h1 (Nat.le_refl _) (by omega) x hx).mono λe w' hp=>za8 h1 h2 h hp
theorem WS.rawN (h:WS own wb l w) (hy:zx w y m) (hl:l.length+m.length≤1000000):Calls Tryz.prog 159 #[.pointer (some ⟨wb,0,none⟩),y] w (ze6 own wb (l++m) w):=by
 obtain⟨v,h1,h2⟩:=h.ex
 exact(raw_any h1 (Nat.le_refl _) hy (by omega)).mono λe w' hp=>za8 h1 h2 h hp
theorem WS.outN (h:WS own wb l w) (hl:l.length≤1000000):Calls Tryz.prog 134 #[.pointer (some ⟨wb,0,none⟩)] w λe w'=>∃v',e = .returned v'∧w'.ownsRow w.heap.size 5 1 v' l.length (zg l)∧w.grownBy w' none:=by
 obtain⟨v,h1,h2⟩:=h.ex
 exact out_any h1 (by omega)
theorem WS.start (W w:World) (hg:W.grownBy w none):WS (λk=>k<W.heap.size) w.heap.size [] (w.alloc (.cells #[.slice none 0 0] 231)):=by
 have hx:=hg.size
 exact⟨⟨.slice none 0 0,⟨heap_alloc_new _ _,World.ownsRow_nil _ _ _ _⟩,λg hg=>by simp[Value.ownBlock] at hg⟩,by omega,λg hg2=>by simp;omega⟩
end
end Go.Proofs.YtbcbhlfjgobejaaGreat
