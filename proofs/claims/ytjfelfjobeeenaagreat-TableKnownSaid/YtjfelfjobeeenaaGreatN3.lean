/- fields.Writer's Byte, Short, Long; slices.Grow of nothing: the walks. Conditions: none, or as the theorems say. -/
import Derived.Test.YtjfelfjobeeenaaGreatN2
import Derived.Maps.AppendAt
import Derived.Lib.ConvBytes
import Derived.Test.YtjfelfjobeeenaaGreatChecked
import Derived.WalkLawsBesides
import Derived.WalkSpells
import Derived.Deep.RegionWith
import Derived.Outline
namespace Go.Proofs.YtjfelfjobeeenaaGreat
set_option maxHeartbeats 200000000
set_option linter.unusedVariables false
set_option linter.unusedSimpArgs false
open Go.RowKit Go.Sf
def za3 (W:World) (wb base:Nat) (v:Value) (l:List Int) (e:Ending) (w':World):Prop:=
 e = .returned (.tuple #[])∧∃v',Xy w' wb base v' l∧yc (fun k=>k=wb∨v.ownBlock=some k) W w'∧(v.ownBlock=v'.ownBlock∨∀g,v'.ownBlock=some g→W.heap.size≤g)
section
variable {W : World} {wb base : Nat} {v : Value} {l : List Int}
set_option maxRecDepth 100000 in
theorem zgg (h:Xy W wb base v l) (hb:base≤wb) (hl:l.length≤100000000) (N:Nat) (hN:N<256):Calls Tryz.prog 49 #[.pointer (some ⟨wb,0,none⟩),.int .u8 N] W fun e w'=>za3 W wb base v (l++be 1 N) e w':=by
 have H:=za h;clear h
 go_enter Tryz.func49,Tryz.ntmps49
 go_wp2_with (go_at_call 107;refine(put8 H.out hb hl N hN).mono ?_;rintro e w' ⟨rfl,hq⟩;have HQ:=za hq;clear hq)
 first|go_end0|refine bodyPost_ret (results_none rfl _ _ _) rfl ?_
 exact⟨rfl,HQ.out⟩
set_option maxRecDepth 100000 in
theorem zjp (h:Xy W wb base v l) (hb:base≤wb) (hl:l.length≤100000000) (N:Nat) (hN:N<256 ^ 2):Calls Tryz.prog 50 #[.pointer (some ⟨wb,0,none⟩),.int .u16 N] W fun e w'=>za3 W wb base v (l++be 2 N) e w':=by
 have H:=za h;clear h
 go_enter Tryz.func50,Tryz.ntmps50
 go_wp2_with (go_at_call 108;refine(put16 H.out hb hl N hN).mono ?_;rintro e w' ⟨rfl,hq⟩;have HQ:=za hq;clear hq)
 first|go_end0|refine bodyPost_ret (results_none rfl _ _ _) rfl ?_
 exact⟨rfl,HQ.out⟩
set_option maxRecDepth 100000 in
theorem zmf (h:Xy W wb base v l) (hb:base≤wb) (hl:l.length≤100000000) (N:Nat) (hN:N<256 ^ 8):Calls Tryz.prog 51 #[.pointer (some ⟨wb,0,none⟩),.int .u64 N] W fun e w'=>za3 W wb base v (l++be 8 N) e w':=by
 have H:=za h;clear h
 go_enter Tryz.func51,Tryz.ntmps51
 go_wp2_with (go_at_call 109;refine(put64 H.out hb hl N hN).mono ?_;rintro e w' ⟨rfl,hq⟩;have HQ:=za hq;clear hq)
 first|go_end0|refine bodyPost_ret (results_none rfl _ _ _) rfl ?_
 exact⟨rfl,HQ.out⟩
end
theorem zsc {W:World} {base:Nat} {e:TypeId} {g n cap:Nat} {xs:List Value} (h:W.ownsRow base e 1 (.slice (some ⟨g,0,none⟩) n cap) n xs):W.ownsRow base e 1 (.slice (some ⟨g,0,none⟩) 0 cap) 0 []:=by
 refine⟨by simp,?_⟩
 rcases h.2 with ⟨e1,_⟩|⟨b,c,cur,e1,h1,hb,r1,r2,r3,r4⟩
 ·cases e1
 ·cases e1
  exact .inr ⟨g,cap,cur,rfl,h1,hb,Nat.zero_le _,r2,r3,by simp⟩
theorem zle {P:Program} (w:World) {ops:Array Oper} {rest:List Oper} {o:Oper} {a:Act} {Q:Exit→Act→World→Prop} (hgd:o.guard=none) (s x:Operand) (t tn e:TypeId) (hop:o.op = .call { callee:=.builtin .append,args:=#[s,x],argTypes:=#[t,tn] })
  (i:TypeInfo) (kn kq:IntKind) (ht:P.underlying t=some (.slice e)) (htn:P.underlying tn=some (.int kn)) (hi:P.info? e=some i) (hz:i.zero=some (.int .u8 0)) (hsize:i.size=1) (hby:i.bytes=1)
  (base:Nat) (v:Value) (n:Nat) (xs:List Value) (hs:a.eval s=v) (hown:w.ownsRow base e 1 v n xs) (k:Nat) (hx:a.eval x = .int kq k) (h0:0<k) (hk:n+k≤1000000000) (hbase:base≤w.heap.size)
  (h:∀g cap w',w'.ownsRow base e 1 (.slice (some ⟨g,0,none⟩) (n+k) cap) (n+k) (xs++List.replicate k (.int .u8 0))→w.grownBy w' v.ownBlock→(v.ownBlock=some g∨g=w.heap.size)→wpList P ops Q rest (a.put o.dst (.slice (some ⟨g,0,none⟩) (n+k) cap)) w') :
  wpList P ops Q (o :: rest) a w:=by
 obtain⟨g,cap,w',hr,h1,h2,h3⟩:=zci (P:=P) w base t tn o.type e i kn kq ht htn hi hz hsize hby v n xs hown k h0 hk hbase
 exact Go.Lib.wpList_append_run w hgd s x t tn hop v (.int kq k) hs hx _ _ hr (h g cap w' h1 h2 h3)
set_option maxRecDepth 100000 in
theorem ztp (n:Nat) (hn:n≤1000000000) (W:World):Calls Tryz.prog 189 #[.slice none 0 0,.int .i64 n] W fun e w'=>∃v,e = .returned v∧w'.ownsRow W.heap.size 5 1 v 0 []∧W.grownBy w' none∧(n=0→v = .slice none 0 0):=by
 obtain⟨i0,hi,hz0,hz1,hz2⟩:=info_parts Zr
 rcases Nat.eq_zero_or_pos n with h0|h0
 ·subst h0
  go_enter Tryz.func189,Tryz.ntmps189
  go_wp2
  go_ret
  exact⟨_,rfl,World.ownsRow_nil _ _ _ _,zd _,fun _=>rfl⟩
 ·go_enter Tryz.func189,Tryz.ntmps189
  go_wp2_with (at_builtin;refine zle _ rfl _ _ 25 3 5 rfl i0 .i64 .i64 Tryz.underlying25 Tryz.underlying3 hi hz0 hz1 hz2 W.heap.size _ 0 [] rfl (World.ownsRow_nil _ _ _ _) n rfl h0 (by omega) (by simp) ?_;intro g cap w1 ho hg hat;have HO:=za ho;have HG:=za hg;clear ho hg hat)
  go_ret
  exact⟨_,rfl,zsc HO.out,HG.out,fun h=>by omega⟩
structure ji (W:World) (v:Value) (l:List Int):Prop where
 ex:∃p cap,v = .slice p l.length cap∧(l = []∨∃a,p=some a∧∀j u,(zu l)[j]? = some u→W.cell? (a.add j)=some u)
theorem zf3 {P:Program} (w:World) (base:Nat) (t ty e:TypeId) (i:TypeInfo) (ht:P.underlying t=some (.slice e)) (hi:P.info? e=some i) (v:Value) (n:Nat) (xs:List Value) (hown:w.ownsRow base e 1 v n xs) (cx:Nat) :
  (Builtin.append_ #[t,t] ty #[v,.slice none 0 cx]).run P w = .ok v w:=by
 rcases hown.2 with ⟨rfl,rfl⟩|⟨g,cap,cur,rfl,hbg,hg,hnc,hcm,hcs,htake⟩
 ·simp[Builtin.append_,run_underlying ht,sizeOf,typeInfo,hi,Builtin.lenOf,Builtin.firstCells]
 ·simp[Builtin.append_,run_underlying ht,sizeOf,typeInfo,hi,Builtin.lenOf,Builtin.firstCells,hnc,storeCells]
theorem yy {P:Program} (w:World) {ops:Array Oper} {rest:List Oper} {o:Oper} {a:Act} {Q:Exit→Act→World→Prop} (hgd:o.guard=none) (s x:Operand) (t e:TypeId) (hop:o.op = .call { callee:=.builtin .append,args:=#[s,x],argTypes:=#[t,t] })
  (i:TypeInfo) (ht:P.underlying t=some (.slice e)) (hi:P.info? e=some i) (hz:i.zero=some (.int .u8 0)) (hsize:i.size=1) (hby:i.bytes=1)
  (base:Nat) (v:Value) (n:Nat) (xs:List Value) (hs:a.eval s=v) (hown:w.ownsRow base e 1 v n xs) (y:Value) (l:List Int) (hx:a.eval x=y) (hy:ji w y l) (hk:n+l.length≤1000000000) (hbase:base≤w.heap.size)
  (h:∀v' w',w'.ownsRow base e 1 v' (n+l.length) (xs++zu l)→w.grownBy w' v.ownBlock→(v'.ownBlock=v.ownBlock∨v'.ownBlock=some w.heap.size)→wpList P ops Q rest (a.put o.dst v') w') :
  wpList P ops Q (o :: rest) a w:=by
 obtain⟨p,cap,rfl,hc⟩:=hy.ex
 cases p with
 | none=>
  have hl:l = []:=by
   rcases hc with h0|⟨a,ha,_⟩
   ·exact h0
   ·cases ha
  subst hl;have hr:=zf3 (P:=P) w base t o.type e i ht hi v n xs hown cap
  exact Go.Lib.wpList_append_run w hgd s x t t hop v _ hs hx _ _ hr (h v w (by simpa[zu] using hown) ⟨rfl,rfl,rfl,Nat.le_refl _,fun _ _ _=>rfl⟩ (Or.inl rfl))
 | some ad=>
  have hc':∀j u,(zu l)[j]? = some u→w.cell? (ad.add j)=some u:=by
   rcases hc with h0|⟨a,ha,hc⟩
   ·subst h0;intro j u hu;simp[zu] at hu
   ·cases ha;exact hc
  obtain⟨v',w',hr,h1,h2,h3,h4⟩:=run_append_own_at (P:=P) w base t o.type e i (.int .u8 0) 1 1 ht hi hz hsize hby rfl (by decide) v n xs hown ad l.length cap (zu l) (by simp[zu]) hc' (fun u hu=>by simp[zu] at hu;obtain⟨b,_,rfl⟩:=hu;rfl) (by unfold maxLen;omega) (by omega) hbase
  exact Go.Lib.wpList_append_run w hgd s x t t hop v _ hs hx _ _ hr (h v' w' h1 h2 h4)
theorem ji.grown {W W':World} {v:Value} {l:List Int} (h:ji W v l) {r:Option Nat} (hg:W.grownBy W' r) (hr:∀b p n c,r=some b→v = .slice (some p) n c→p.block≠b):ji W' v l:=by
 obtain⟨p,cap,rfl,hc⟩:=h.ex;refine⟨p,cap,rfl,?_⟩
 rcases hc with h0|⟨a,rfl,hc⟩
 ·exact Or.inl h0
 ·refine Or.inr ⟨a,rfl,fun j u hu=>?_⟩
  have hb:(a.add j).block=a.block:=by unfold Addr.add;split <;> rfl
  have hcc:=hc j u hu;refine hg.cell hcc (fun e=>hr a.block a _ _ (by rw[←e,hb]) rfl rfl)
theorem ji.nil {W:World} {v:Value} {l:List Int} (h:ji W v l) (e:v = .slice none 0 0):l = []:=by
 obtain⟨p,cap,rfl,hc⟩:=h.ex
 injection e with _ e2 _
 exact List.eq_nil_of_length_eq_zero e2
@[go_sem] theorem zvt (n c:Nat) (w:World):(binOp BinOp.eql 25 (.slice none n c) (.slice none 0 0)).run Tryz.prog w = .ok (.bool true) w:=by kernel_rfl
@[go_sem] theorem zvu (a:Addr) (n c:Nat) (w:World):(binOp BinOp.eql 25 (.slice (some a) n c) (.slice none 0 0)).run Tryz.prog w = .ok (.bool false) w:=by kernel_rfl
theorem zcv {W:World} {base:Nat} {v:Value} {l:List Int} (h:W.ownsRow base 5 1 v l.length (zu l)):ji W v l:=by
 rcases h.2 with ⟨e1,h0⟩|⟨b,c,cur,e1,_⟩
 ·have:l = []:=List.eq_nil_of_length_eq_zero h0
  subst this
  exact⟨none,0,by rw[e1];rfl,Or.inl rfl⟩
 ·exact⟨_,_,e1,Or.inr ⟨_,rfl,h.cells (g:=b) (by rw[e1];rfl)⟩⟩
set_option maxRecDepth 100000 in
theorem zq0 {W:World} {v:Value} {l:List Int} (h:ji W v l) (hl:l.length≤100000000) (hnil:v = .slice none 0 0→l = []) :
  Calls Tryz.prog 111 #[v] W fun e w'=>∃v',e = .returned v'∧w'.ownsRow W.heap.size 5 1 v' l.length (zu l)∧W.grownBy w' none:=by
 obtain⟨i0,hi,hz0,hz1,hz2⟩:=info_parts Zr;obtain⟨p,cap,rfl,hc⟩:=h.ex
 cases p with
 | none=>
  have h0:l = []:=by
   rcases hc with h0|⟨a,ha,_⟩
   ·exact h0
   ·cases ha
  subst h0;clear hc h
  go_enter Tryz.func111,Tryz.ntmps111
  go_wp2
  go_ret
  exact⟨_,rfl,World.ownsRow_nil _ _ _ _,zd _⟩
 | some ad=>
  have H:=za h;have HR:Hid (∀W',W.grownBy W' none→ji W' (.slice (some ad) l.length cap) l):=(fun W' hg=>h.grown hg (by simp))
  clear hc h
  go_enter Tryz.func111,Tryz.ntmps111
  go_wp2_with (at_builtin;refine yy _ rfl _ _ 25 5 rfl i0 Tryz.underlying25 hi hz0 hz1 hz2 W.heap.size _ 0 [] rfl ?r0 _ l rfl (HR.out _ ?r1) (by omega) ?r2 ?_)
  case r0=>exact World.ownsRow_made W #[] 0 (Nat.le_refl _) (by unfold maxLen;omega) rfl
  case r1=>exact zg (zd _) _
  case r2=>simp
  intro v' w1 ho hg hat;have HO:=za ho;have HG:=za (show W.grownBy w1 none from ⟨hg.os,hg.tape,hg.output,Nat.le_trans (by simp) hg.size,fun k hk _=>(hg.block k (by simp;omega) (by simp[Value.ownBlock];omega)).trans ((zc W _ none).block k hk (by simp))⟩)
  clear ho hg hat;go_wp2
  go_ret
  exact⟨_,rfl,by simpa using HO.out,HG.out⟩
set_option maxRecDepth 100000 in
theorem zqf {W:World} {wb base:Nat} {v:Value} {l:List Int} (h:Xy W wb base v l) (hl:l.length≤100000000) :
  Calls Tryz.prog 53 #[.pointer (some ⟨wb,0,none⟩)] W fun e w'=>∃v',e = .returned v'∧w'.ownsRow W.heap.size 5 1 v' l.length (zu l)∧W.grownBy w' none:=by
 have c0:W.cell? ⟨wb,0,none⟩=some v:=by simp[World.cell?,h.box]
 have hr:ji W v l:=zcv h.row;have HC:=za (zq0 hr hl (fun e=>hr.nil e))
 clear h hr
 go_enter Tryz.func53,Tryz.ntmps53
 go_wp2_with (go_at_call 111;refine HC.out.mono ?_;rintro e w' ⟨v',rfl,h1,h2⟩;have HQ:=za (And.intro h1 h2);clear h1 h2)
 go_ret
 exact⟨v',rfl,HQ.out.1,HQ.out.2⟩
theorem zea {W w1 w2:World} {base n:Nat} {e:TypeId} {v:Value} {xs:List Value} (h:W.grownBy w1 none) (hr:w1.ownsRow base e 1 v n xs) (hb:W.heap.size≤base) (h2:w1.grownBy w2 v.ownBlock):W.grownBy w2 none:=
 ⟨h2.os.trans h.os,h2.tape.trans h.tape,h2.output.trans h.output,Nat.le_trans h.size h2.size,fun k hk _=>
  (h2.block k (Nat.lt_of_lt_of_le hk h.size) (fun e=>by have:=(hr.lt k e.symm).1;omega)).trans (h.block k hk (by simp))⟩
set_option maxRecDepth 100000 in
theorem zoc {W:World} {r:Nat} {v0 v1:Value} {l0 l1:List Int} (h0:ji W v0 l0) (h1:ji W v1 l1) (c0:W.cell? ⟨r,0,none⟩=some v0) (c1:W.cell? ⟨r,1,none⟩=some v1) (hl:l0.length+l1.length≤100000000) :
  Calls Tryz.prog 167 #[.slice (some ⟨r,0,none⟩) 2 2] W fun e w'=>∃v',e = .returned v'∧w'.ownsRow W.heap.size 5 1 v' (l0.length+l1.length) (zu l0++zu l1)∧W.grownBy w' none:=by
 obtain⟨i0,hi,hz0,hz1,hz2⟩:=info_parts Zr;have H0:Hid (∀W',W.grownBy W' none→ji W' v0 l0):=(fun W' hg=>h0.grown hg (by simp))
 have H1:Hid (∀W',W.grownBy W' none→ji W' v1 l1):=(fun W' hg=>h1.grown hg (by simp))
 obtain⟨p0,k0,rfl,-⟩:=h0.ex;obtain⟨p1,k1,rfl,-⟩:=h1.ex;have hrl:r<W.heap.size:=World.block_lt_of_cell? W _ c0;have HC:Hid (∀W',W.grownBy W' none→W'.cell? ⟨r,0,none⟩=some (.slice p0 l0.length k0)∧W'.cell? ⟨r,1,none⟩=some (.slice p1 l1.length k1)):=(fun W' hg=>⟨hg.cell c0 (by simp),hg.cell c1 (by simp)⟩)
 clear h0 h1;generalize hn0:l0.length=n0 at *;generalize hn1:l1.length=n1 at *;have HN:Hid (l0.length=n0∧l1.length=n1):=(show _∧_ from ⟨hn0,hn1⟩)
 clear hn0 hn1
 go_enter Tryz.func167,Tryz.ntmps167
 go_wp2
 go_loopw [3,11] (fun sz i wr=>W=wr∧((i = .int .i64 0∧sz = .int .i64 0)∨(i = .int .i64 1∧sz = .int .i64 n0)∨(i = .int .i64 2∧sz = .int .i64 ((n0+n1:Nat):Int)))) (fun _ i _=>2-(intOf i).toNat)
 case atStart=>exact⟨rfl,Or.inl ⟨rfl,rfl⟩⟩
 case round=>
  obtain⟨rfl,⟨rfl,rfl⟩|⟨rfl,rfl⟩|⟨rfl,rfl⟩⟩:=hrel
  ·go_wp2
   go_roundw
   case rel=>simp
   case measure=>simp[intOf]
  ·go_wp2
   go_roundw
   case rel=>simp
   case measure=>simp[intOf]
  ·go_wp2_with (go_at_call 189;refine(ztp (n0+n1) (by omega) W).mono ?_;rintro e w1 ⟨vg,rfl,hr,hg,-⟩;have HR:=za hr;have HG:=za hg;clear hr hg c0 c1)
   go_loopw [6,27] (fun v i wz=>W.grownBy wz none∧((i = .int .i64 0∧wz.ownsRow W.heap.size 5 1 v 0 [])∨(i = .int .i64 1∧wz.ownsRow W.heap.size 5 1 v n0 (zu l0))∨(i = .int .i64 2∧wz.ownsRow W.heap.size 5 1 v (n0+n1) (zu l0++zu l1)))) (fun _ i _=>2-(intOf i).toNat)
   case atStart=>exact⟨HG.out,Or.inl ⟨rfl,HR.out⟩⟩
   case round=>
    obtain⟨hgr,⟨rfl,ho⟩|⟨rfl,ho⟩|⟨rfl,ho⟩⟩:=hrel
    ·obtain⟨c0,c1⟩:=HC.out wr hgr
     have HGR:=za hgr;have HO:=za ho;clear hgr ho
     go_wp2_with (at_builtin;refine yy _ rfl _ _ 25 5 rfl i0 Tryz.underlying25 hi hz0 hz1 hz2 W.heap.size _ 0 [] rfl HO.out _ l0 rfl (H0.out _ HGR.out) (by have:=HN.out;omega) HGR.out.size ?_;intro v2 w2 ho2 hg2 _;have HO2:=za ho2;have HG2:=za (zea HGR.out HO.out (Nat.le_refl _) hg2);clear ho2 hg2)
     go_roundw
     case rel=>exact⟨HG2.out,Or.inr (Or.inl ⟨rfl,by simpa[HN.out.1] using HO2.out⟩)⟩
     case measure=>simp[intOf]
    ·obtain⟨c0,c1⟩:=HC.out wr hgr
     have HGR:=za hgr;have HO:=za ho;clear hgr ho
     go_wp2_with (at_builtin;refine yy _ rfl _ _ 25 5 rfl i0 Tryz.underlying25 hi hz0 hz1 hz2 W.heap.size _ n0 (zu l0) rfl HO.out _ l1 rfl (H1.out _ HGR.out) (by have:=HN.out;omega) HGR.out.size ?_;intro v2 w2 ho2 hg2 _;have HO2:=za ho2;have HG2:=za (zea HGR.out HO.out (Nat.le_refl _) hg2);clear ho2 hg2)
     go_roundw
     case rel=>exact⟨HG2.out,Or.inr (Or.inr ⟨rfl,by simpa[HN.out.2] using HO2.out⟩)⟩
     case measure=>simp[intOf]
    ·have HGR:=za hgr
     have HO:=za ho;clear hgr ho;go_wp2
     go_ret
     exact⟨_,rfl,HO.out,HGR.out⟩
theorem Vk {W:World} {base b2 n:Nat} {e:TypeId} {v:Value} {xs:List Value} (h:W.ownsRow base e 1 v n xs) (hb:b2≤base):W.ownsRow b2 e 1 v n xs:=by
 refine⟨h.1,?_⟩
 rcases h.2 with h0|⟨g,cap,cur,e1,hbg,r⟩
 ·exact Or.inl h0
 ·exact Or.inr ⟨g,cap,cur,e1,Nat.le_trans hb hbg,r⟩
theorem set_box {W w1:World} {wb base n:Nat} {v':Value} {v:Value} {l m:List Int} (h:Xy W wb base v l) (hb:base≤wb) (hg:W.grownBy w1 none) (hr:w1.ownsRow W.heap.size 5 1 v' n (zu (l++m))) (hn:n=(l++m).length) :
  za3 W wb base v (l++m) (.returned (.tuple #[])) (w1.setCell ⟨wb,0,none⟩ v'):=by
 subst hn;have hwb:wb<W.heap.size:=by
  have hx:=h.box
  rcases Nat.lt_or_ge wb W.heap.size with h'|h'
  ·exact h'
  ·rw[Array.getElem?_eq_none h'] at hx;cases hx
 have hx:w1.heap[wb]? = some (.cells #[v] 96 (0,0)):=(hg.block wb hwb (by simp)).trans h.box
 have hs:=Zm w1 wb 0 v';have hne:v'.ownBlock≠some wb:=fun e=>by have:=(hr.lt wb e).1;omega
 refine⟨rfl,v',⟨by simp[World.setCell,Array.getElem?_modify,hx],Vk (hr.kept hs (Or.inr hne)) (by omega)⟩,⟨hs.os.trans hg.os,hs.tape.trans hg.tape,hs.output.trans hg.output,Nat.le_trans hg.size hs.size,fun q hq hn=>(hs.block q (Nat.lt_of_lt_of_le hq hg.size) (fun e=>hn (Or.inl (by cases e;rfl)))).trans (hg.block q hq (by simp))⟩,Or.inr (fun g e=>(hr.lt g e).1)⟩
def qz (s:ByteArray):List Int:=s.data.toList.map fun b=>(b.toNat:Int)
theorem zgh (l m:List Int):zu l++zu m=zu (l++m):=by simp[zu]
set_option maxRecDepth 100000 in
theorem raw_any {W:World} {wb base:Nat} {v y:Value} {l m:List Int} (h:Xy W wb base v l) (hb:base≤wb) (hy:ji W y m) (hl:l.length+m.length≤100000000) :
  Calls Tryz.prog 110 #[.pointer (some ⟨wb,0,none⟩),y] W fun e w'=>za3 W wb base v (l++m) e w':=by
 obtain⟨p,cp,rfl⟩:=qs h.row;obtain⟨p1,c1,rfl,-⟩:=hy.ex;have c0:W.cell? ⟨wb,0,none⟩=some (.slice p l.length cp):=by simp[World.cell?,h.box]
 have h0:=h.box;have hwb:wb<W.heap.size:=World.block_lt_of_cell? W _ c0;have hr:ji W (.slice p l.length cp) l:=zcv h.row;have HC:Hid (∀(W':World) (r:Nat),W.grownBy W' none→W'.cell? ⟨r,0,none⟩=some (.slice p l.length cp)→W'.cell? ⟨r,1,none⟩=some (.slice p1 m.length c1)→Calls Tryz.prog 167 #[.slice (some ⟨r,0,none⟩) 2 2] W' fun e w'=>∃v',e = .returned v'∧w'.ownsRow W'.heap.size 5 1 v' (l.length+m.length) (zu l++zu m)∧W'.grownBy w' none):=
  (fun W' r hg c0 c1=>zoc (hr.grown hg (by simp)) (hy.grown hg (by simp)) c0 c1 hl)
 have HS:Hid (∀w1 v',W.grownBy w1 none→w1.ownsRow W.heap.size 5 1 v' (l.length+m.length) (zu l++zu m)→za3 W wb base (.slice p l.length cp) (l++m) (.returned (.tuple #[])) (w1.setCell ⟨wb,0,none⟩ v')):=
  (fun w1 v' hg hr=>set_box h hb hg (by rw[←zgh];exact hr) (by simp))
 clear h hr hy;generalize l.length=n0 at *;generalize m.length=n1 at *
 go_enter Tryz.func110,Tryz.ntmps110
 go_wp2_with (go_at_call 167;refine(HC.out _ W.heap.size (zg (zd _) _) (by simp) (by simp)).mono ?_;rintro e w' ⟨v',rfl,h1,h2⟩;obtain⟨q,cq,rfl⟩:=qs h1;have hx:=((ze (zg (zd W) _) h2).block wb hwb (by simp)).trans h0;have d0:w'.cell? ⟨wb,0,none⟩=some (.slice p n0 cp):=(by simp[World.cell?,hx]);have y0:w'.frozen? ⟨wb,0,none⟩=false:=(by simp[World.frozen?,hx]);have HQ:=za (HS.out w' _ (ze (zg (zd _) _) h2) (Vk h1 (by simp)));clear h1 h2)
 first|go_end0|refine bodyPost_ret (results_none rfl _ _ _) rfl ?_
 exact HQ.out
theorem zbi (W:World) (s:ByteArray):ji (Lib.bytesWorld W 5 s) (.slice (some ⟨W.heap.size,0,none⟩) s.size (grownCap W s.size 0 5)) (qz s):=by
 have hs:(qz s).length=s.size:=by rw[qz,List.length_map];rfl
 refine⟨_,_,by rw[hs],Or.inr ⟨_,rfl,fun j u hu=>?_⟩⟩
 have hj:j<s.size:=by
  rcases Nat.lt_or_ge j s.size with h|h
  ·exact h
  ·rw[List.getElem?_eq_none (by rw[zu,List.length_map,hs];exact h)] at hu;cases hu
 have hc:=Lib.bytesWorld_cell W 5 s j hj;have e1:(⟨W.heap.size,0,none⟩:Addr).add j=⟨W.heap.size,j,none⟩:=by rw[Addr.add_lit];simp only[Nat.zero_add]
 rw[e1,hc];have hj2:j<s.data.size:=hj;simp only[zu,qz,List.getElem?_map,Array.getElem?_toList,Array.getElem?_eq_getElem hj2,Option.map_some,Option.some.injEq] at hu;rw[←hu];simp[List.getD,Array.getElem?_eq_getElem hj2]
theorem ze8 (W:World) (e:TypeId) (s:ByteArray):W.grownBy (Lib.bytesWorld W e s) none:=
 ⟨rfl,rfl,rfl,by rw[Lib.bytesWorld_size];omega,fun k hk _=>Lib.bytesWorld_at_old W e s k hk⟩
theorem ztb (W:World) (s:ByteArray):∃y W2,(convert 9 25 (.string s)).run Tryz.prog W = .ok y W2∧W.grownBy W2 none∧ji W2 y (qz s):=
 ⟨_,_,Lib.run_convert_string_bytes (P:=Tryz.prog) W 9 25 5 s (u:=.string) Tryz.underlying9 Tryz.underlying25 Tryz.underlying5,ze8 _ _ _,zbi W s⟩
theorem za3.then {W w1 w2 w3:World} {wb base:Nat} {v v1:Value} {l m:List Int} {e:Ending} (h:Xy W wb base v l) (hw:Xy w1 wb base v1 m) (ht:yc (fun k=>k=wb∨v.ownBlock=some k) W w1) (hv:v.ownBlock=v1.ownBlock∨∀g,v1.ownBlock=some g→W.heap.size≤g) (hg:w1.grownBy w2 none)
  {m2:List Int} (hp:za3 w2 wb base v1 m2 e w3):za3 W wb base v m2 e w3:=by
 obtain⟨rfl,v2,hw2,ht2,hv2⟩:=hp;refine⟨rfl,v2,hw2,⟨ht2.os.trans (hg.os.trans ht.os),ht2.tape.trans (hg.tape.trans ht.tape),ht2.output.trans (hg.output.trans ht.output),Nat.le_trans ht.size (Nat.le_trans hg.size ht2.size),fun k hk hn=>?_⟩,?_⟩
 ·have hk1:k<w1.heap.size:=Nat.lt_of_lt_of_le hk ht.size
  have hk2:k<w2.heap.size:=Nat.lt_of_lt_of_le hk1 hg.size;refine(ht2.block k hk2 ?_).trans ((hg.block k hk1 (by simp)).trans (ht.block k hk hn))
  rintro(e|e)
  ·exact hn (Or.inl e)
  ·rcases hv with h0|h0
   ·exact hn (Or.inr (h0.trans e))
   ·exact absurd hk (Nat.not_lt.2 (h0 k e))
 ·have h3:W.heap.size≤w2.heap.size:=Nat.le_trans ht.size hg.size
  rcases hv2 with h2|h2
  ·rcases hv with h0|h0
   ·exact Or.inl (h0.trans h2)
   ·exact Or.inr (fun g e=>h0 g (h2.trans e))
  ·exact Or.inr (fun g e=>Nat.le_trans h3 (h2 g e))
theorem Xy.kept {W W':World} {wb base:Nat} {v:Value} {l:List Int} (h:Xy W wb base v l) (hg:W.grownBy W' none):Xy W' wb base v l:=
 ⟨(hg.block wb (Array.getElem?_eq_some_iff.1 h.box).1 (by simp)).trans h.box,h.row.kept hg (by
  rcases h:v.ownBlock with _|k
  ·exact Or.inl rfl
  ·exact Or.inr (by simp))⟩
set_option maxRecDepth 100000 in
theorem znz {W:World} {wb base:Nat} {v:Value} {l:List Int} (s:ByteArray) (h:Xy W wb base v l) (hb:base≤wb) (hl:l.length+s.size≤10000000) :
  Calls Tryz.prog 52 #[.pointer (some ⟨wb,0,none⟩),.string s] W fun e w'=>za3 W wb base v (l++be 1 s.size++qz s) e w':=by
 have HB:Hid (Calls Tryz.prog 49 #[.pointer (some ⟨wb,0,none⟩),.int .u8 ((s.size:Int)%256)] W fun e w'=>za3 W wb base v (l++be 1 s.size) e w'):=by
  have e1:((s.size:Int)%256)=((s.size%256:Nat):Int):=by omega
  have e2:be 1 (s.size%256)=be 1 s.size:=by simp[be]
  have hb1:=zgg h hb (by omega) (s.size%256) (by omega)
  rw[e2,←e1] at hb1
  exact hb1
 have H:=za h;clear h
 go_enter Tryz.func52,Tryz.ntmps52
 go_wp2_with (go_at_call 49;refine HB.out.mono ?_;rintro e w1 ⟨rfl,v1,hw,ht,hv⟩;obtain⟨y,w2,hcv,hg,hy⟩:=ztb w1 s;have HP:Hid (∀e w3,za3 w2 wb base v1 (l++be 1 s.size++qz s) e w3→za3 W wb base v (l++be 1 s.size++qz s) e w3):=(fun e w3 h3=>za3.then H.out hw ht hv hg h3);have HR:=za (raw_any (hw.kept hg) hb hy (by rw[List.length_append,yn,qz,List.length_map];show _+s.size≤_;omega));have HV:=za hcv;clear hw ht hv hg hy hcv)
 rw[HV.out];simp only[Result.andThen];rw[Oper.upon_value]
 go_wp2_with (go_at_call 110;refine HR.out.mono ?_;intro e w3 hp;obtain⟨rfl,hq⟩:=HP.out e w3 hp;have HQ:=za hq;clear hq hp)
 first|go_end0|refine bodyPost_ret (results_none rfl _ _ _) rfl ?_
 exact⟨rfl,HQ.out⟩
structure Cmd where
 kind:Int
 node:Int
 zvw:Int
 zvx:Int
 zvy:Int
 zvz:Int
 key:ByteArray
 code:Int
 deriving DecidableEq
def zp (c:Cmd):Value:=.agg #[.int .u8 c.kind,.int .i64 c.node,.int .i64 c.zvw,.int .i64 c.zvx,.int .i64 c.zvy,.int .i64 c.zvz,.string c.key,.int .i64 c.code]
def vj (c:Cmd):Cmd:=
 if c.kind=2 then ⟨2,c.node,0,c.zvx,0,0,⟨#[]⟩,0⟩
 else if c.kind=4∨c.kind=5 then ⟨c.kind,c.node,0,c.zvx,0,c.zvz,c.key,0⟩
 else if c.kind=3∨c.kind=6 then ⟨c.kind,0,c.zvw,0,c.zvy,0,c.key,0⟩
 else if c.kind=7 then ⟨7,0,c.zvw,0,c.zvy,0,⟨#[]⟩,c.code⟩
 else ⟨c.kind,0,0,0,0,0,⟨#[]⟩,0⟩
theorem bare_2 (node zvw zvx zvy zvz code:Int) (key:ByteArray) (w:World) :
  Calls Tryz.prog 106 #[zp ⟨2,node,zvw,zvx,zvy,zvz,key,code⟩] w fun e w'=>e = .returned (zp (vj ⟨2,node,zvw,zvx,zvy,zvz,key,code⟩))∧w.grownBy w' none:=by
 simp only[zp,vj]
 go_enter Tryz.func106,Tryz.ntmps106
 go_wp2
 go_region
 go_wp2
 exact bodyPost_ret (v:=.agg #[.int .u8 2,.int .i64 node,.int .i64 0,.int .i64 zvx,.int .i64 0,.int .i64 0,.string ⟨#[]⟩,.int .i64 0]) (by simp[results,Tryz.results106,go_sem]) rfl ⟨rfl,by repeat (first|exact zd _|exact zc _ _ _|refine zg ?_ _|refine zf ?_)⟩
theorem bare_4 (node zvw zvx zvy zvz code:Int) (key:ByteArray) (w:World) :
  Calls Tryz.prog 106 #[zp ⟨4,node,zvw,zvx,zvy,zvz,key,code⟩] w fun e w'=>e = .returned (zp (vj ⟨4,node,zvw,zvx,zvy,zvz,key,code⟩))∧w.grownBy w' none:=by
 simp only[zp,vj]
 go_enter Tryz.func106,Tryz.ntmps106
 go_wp2
 go_region
 go_wp2
 exact bodyPost_ret (v:=.agg #[.int .u8 4,.int .i64 node,.int .i64 0,.int .i64 zvx,.int .i64 0,.int .i64 zvz,.string key,.int .i64 0]) (by simp[results,Tryz.results106,go_sem]) rfl ⟨rfl,by repeat (first|exact zd _|exact zc _ _ _|refine zg ?_ _|refine zf ?_)⟩
theorem bare_5 (node zvw zvx zvy zvz code:Int) (key:ByteArray) (w:World) :
  Calls Tryz.prog 106 #[zp ⟨5,node,zvw,zvx,zvy,zvz,key,code⟩] w fun e w'=>e = .returned (zp (vj ⟨5,node,zvw,zvx,zvy,zvz,key,code⟩))∧w.grownBy w' none:=by
 simp only[zp,vj]
 go_enter Tryz.func106,Tryz.ntmps106
 go_wp2
 go_region
 go_wp2
 exact bodyPost_ret (v:=.agg #[.int .u8 5,.int .i64 node,.int .i64 0,.int .i64 zvx,.int .i64 0,.int .i64 zvz,.string key,.int .i64 0]) (by simp[results,Tryz.results106,go_sem]) rfl ⟨rfl,by repeat (first|exact zd _|exact zc _ _ _|refine zg ?_ _|refine zf ?_)⟩
theorem bare_3 (node zvw zvx zvy zvz code:Int) (key:ByteArray) (w:World) :
  Calls Tryz.prog 106 #[zp ⟨3,node,zvw,zvx,zvy,zvz,key,code⟩] w fun e w'=>e = .returned (zp (vj ⟨3,node,zvw,zvx,zvy,zvz,key,code⟩))∧w.grownBy w' none:=by
 simp only[zp,vj]
 go_enter Tryz.func106,Tryz.ntmps106
 go_wp2
 go_region
 go_wp2
 exact bodyPost_ret (v:=.agg #[.int .u8 3,.int .i64 0,.int .i64 zvw,.int .i64 0,.int .i64 zvy,.int .i64 0,.string key,.int .i64 0]) (by simp[results,Tryz.results106,go_sem]) rfl ⟨rfl,by repeat (first|exact zd _|exact zc _ _ _|refine zg ?_ _|refine zf ?_)⟩
theorem bare_6 (node zvw zvx zvy zvz code:Int) (key:ByteArray) (w:World) :
  Calls Tryz.prog 106 #[zp ⟨6,node,zvw,zvx,zvy,zvz,key,code⟩] w fun e w'=>e = .returned (zp (vj ⟨6,node,zvw,zvx,zvy,zvz,key,code⟩))∧w.grownBy w' none:=by
 simp only[zp,vj]
 go_enter Tryz.func106,Tryz.ntmps106
 go_wp2
 go_region
 go_wp2
 exact bodyPost_ret (v:=.agg #[.int .u8 6,.int .i64 0,.int .i64 zvw,.int .i64 0,.int .i64 zvy,.int .i64 0,.string key,.int .i64 0]) (by simp[results,Tryz.results106,go_sem]) rfl ⟨rfl,by repeat (first|exact zd _|exact zc _ _ _|refine zg ?_ _|refine zf ?_)⟩
theorem bare_7 (node zvw zvx zvy zvz code:Int) (key:ByteArray) (w:World) :
  Calls Tryz.prog 106 #[zp ⟨7,node,zvw,zvx,zvy,zvz,key,code⟩] w fun e w'=>e = .returned (zp (vj ⟨7,node,zvw,zvx,zvy,zvz,key,code⟩))∧w.grownBy w' none:=by
 simp only[zp,vj]
 go_enter Tryz.func106,Tryz.ntmps106
 go_wp2
 go_region
 go_wp2
 exact bodyPost_ret (v:=.agg #[.int .u8 7,.int .i64 0,.int .i64 zvw,.int .i64 0,.int .i64 zvy,.int .i64 0,.string ⟨#[]⟩,.int .i64 code]) (by simp[results,Tryz.results106,go_sem]) rfl ⟨rfl,by repeat (first|exact zd _|exact zc _ _ _|refine zg ?_ _|refine zf ?_)⟩
theorem bare_1 (node zvw zvx zvy zvz code:Int) (key:ByteArray) (w:World) :
  Calls Tryz.prog 106 #[zp ⟨1,node,zvw,zvx,zvy,zvz,key,code⟩] w fun e w'=>e = .returned (zp (vj ⟨1,node,zvw,zvx,zvy,zvz,key,code⟩))∧w.grownBy w' none:=by
 simp only[zp,vj]
 go_enter Tryz.func106,Tryz.ntmps106
 go_wp2
 exact bodyPost_ret (v:=.agg #[.int .u8 1,.int .i64 0,.int .i64 0,.int .i64 0,.int .i64 0,.int .i64 0,.string ⟨#[]⟩,.int .i64 0]) (by simp[results,Tryz.results106,go_sem]) rfl ⟨rfl,by repeat (first|exact zd _|exact zc _ _ _|refine zg ?_ _|refine zf ?_)⟩
theorem zs1 (c:Cmd) (h1:1≤c.kind) (h7:c.kind≤7) (w:World) :
  Calls Tryz.prog 106 #[zp c] w fun e w'=>e = .returned (zp (vj c))∧w.grownBy w' none:=by
 obtain⟨kind,node,zvw,zvx,zvy,zvz,key,code⟩:=c;simp only at h1 h7;have h:kind=1∨kind=2∨kind=3∨kind=4∨kind=5∨kind=6∨kind=7:=by omega
 rcases h with rfl|rfl|rfl|rfl|rfl|rfl|rfl
 ·exact bare_1 _ _ _ _ _ _ _ _
 ·exact bare_2 _ _ _ _ _ _ _ _
 ·exact bare_3 _ _ _ _ _ _ _ _
 ·exact bare_4 _ _ _ _ _ _ _ _
 ·exact bare_5 _ _ _ _ _ _ _ _
 ·exact bare_6 _ _ _ _ _ _ _ _
 ·exact bare_7 _ _ _ _ _ _ _ _
end Go.Proofs.YtjfelfjobeeenaaGreat
