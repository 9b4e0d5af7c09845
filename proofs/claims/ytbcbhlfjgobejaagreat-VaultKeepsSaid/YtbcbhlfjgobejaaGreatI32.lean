/- vault.idOf, vault.clone: the walks. Conditions: none, or as the theorems say. -/
import Derived.Test.YtbcbhlfjgobejaaGreatI1
import Derived.Test.YtbcbhlfjgobejaaGreatI31
import Derived.Test.YtbcbhlfjgobejaaGreatI28
import Derived.Test.YtbcbhlfjgobejaaGreatI19
import Derived.Test.YtbcbhlfjgobejaaGreatI27
set_option linter.unusedSimpArgs false
set_option linter.unusedVariables false
namespace Go.Proofs.YtbcbhlfjgobejaaGreat
set_option maxHeartbeats 200000000
open Go.RowKit Go.Sf Go.Shelf
attribute [local go_sem] Oper.semAt_some
theorem Zj {fn:Func} {p:Tmp} {ty:TypeId} (h:fn.results = #[.cell p ty]) (tmps:Array Value) (w:World) (g:Nat) (t:TypeId) (cs:Array Value) (fr:Nat × Nat) (d:TypeDesc)
  (hp:tmps.getD p undef = .pointer (some ⟨g,0,none⟩)) (hg:w.heap[g]? = some (.cells cs t fr))
  (hd:(match d with | .struct _ | .array _ _=>true|_=>false)=true) (hu:Tryz.prog.underlying ty=some d) (hi:(Tryz.prog.info? ty).map (·.size)=some cs.size) :
  (results fn tmps).run Tryz.prog w = .ok (.agg cs) w:=by
 have hp':tmps[p]?.getD undef = .pointer (some ⟨g,0,none⟩):=by simpa using hp
 simp[results,h,hp',asAddr,run_loadVar_row w g t ty cs fr d hg hu (by cases d <;> first|rfl|cases hd) hi]
structure VID where
 key:ByteArray
 znm:Int
 deriving DecidableEq
def yu (i:VID):Value:=.agg #[.string i.key,.int .i64 i.znm]
def idS (s:ShM):VID:=⟨ofB s.key,s.znm⟩
set_option maxRecDepth 100000 in
theorem zfk {W:World} {s:ShM} {pk pr:Option Addr} {ck cr:Nat} (hk:yc W (.slice pk s.key.length ck) s.key):Calls Tryz.prog 130 #[shV pk ck pr cr s] W fun e w'=>e = .returned (yu (idS s))∧W.grownBy w' none:=by
 obtain⟨key,znm,node,row⟩:=s;unfold shV yu idS;simp only at hk ⊢;have HK:=zd hk;clear hk;generalize key.length=la at *;generalize row.length=ma at *;obtain⟨A,hA⟩:∃A,A=ofB key:=⟨_,rfl⟩;have HA:=zd hA;rw[←hA];clear hA
 go_enter Tryz.func130,Tryz.ntmps130
 go_upto_region 1 with fail
 have hga:=(zg W (.cells #[.slice pk la ck,.int .i64 znm,.int .i64 node,.slice pr ma cr] 97) none).trans (zg (W.alloc (.cells #[.slice pk la ck,.int .i64 znm,.int .i64 node,.slice pr ma cr] 97)) (.cells #[.string ⟨#[]⟩,.int .i64 0] 109) none);have ha1:=((zg (W.alloc (.cells #[.slice pk la ck,.int .i64 znm,.int .i64 node,.slice pr ma cr] 97)) (.cells #[.string ⟨#[]⟩,.int .i64 0] 109) none).block W.heap.size (by simp) (by simp)).trans (heap_alloc_new W (.cells #[.slice pk la ck,.int .i64 znm,.int .i64 node,.slice pr ma cr] 97))
 have hb1:=heap_alloc_new (W.alloc (.cells #[.slice pk la ck,.int .i64 znm,.int .i64 node,.slice pr ma cr] 97)) (.cells #[.string ⟨#[]⟩,.int .i64 0] 109);rw[show(W.alloc (.cells #[.slice pk la ck,.int .i64 znm,.int .i64 node,.slice pr ma cr] 97)).heap.size=W.heap.size+1 by simp] at hb1
 have HGA:=zd hga;have HB1:=zd hb1;obtain⟨c0,c1,c2,c3,-⟩:=yx ha1;have d0:=(zh hb1 0).trans (show _=some (Value.string ⟨#[]⟩) from rfl)
 have d1:=(zh hb1 1).trans (show _=some (Value.int .i64 0) from rfl)
 have hcv:=Xa (HK.out.grown hga (by simp))
 rw[←HA.out] at hcv;clear hga ha1 hb1;generalize hbs:W.heap.size+1=b2 at *;have HBS:Hid (W.heap.size≤b2):=zd (by omega)
 clear hbs;generalize (W.alloc (.cells #[.slice pk la ck,.int .i64 znm,.int .i64 node,.slice pr ma cr] 97)).alloc (.cells #[.string ⟨#[]⟩,.int .i64 0] 109)=W1 at *;have df:∀i,W1.frozen? ⟨b2,i,none⟩=false:=fun i=>by simp[World.frozen?,HB1.out]
 go_wp2_with fail
 have hfin:((W1.setCell ⟨b2,0,none⟩ (.string A)).setCell ⟨b2,1,none⟩ (.int .i64 znm)).heap[b2]? = some (.cells #[.string A,.int .i64 znm] 109 (0,0)):=by
  simp only[World.setCell,Array.getElem?_modify,HB1.out,if_true,Option.map_some]
  rfl
 refine bodyPost_ret (Zj rfl _ _ b2 109 #[.string A,.int .i64 znm] (0,0) _ rfl hfin rfl Tryz.underlying109 (by kernel_rfl)) rfl ?_
 exact⟨rfl,xi HGA.out ((yb W1 b2 0 (.string A)).trans (yb _ b2 1 (.int .i64 znm))) fun q hq=>by injection hq with hq;have:=HBS.out;omega⟩
theorem zdw {W w:World} {b:Nat} {v0 v1 v2 v3 u:Value} {i:Nat} {T:TypeId} (h:w.heap[b]? = some (.cells #[v0,v1,v2,v3] T (0,0))):(w.setCell ⟨b,i,none⟩ u).heap[b]? = some (.cells ((#[v0,v1,v2,v3]:Array Value).setIfInBounds i u) T (0,0)):=by
 simp only[World.setCell,Array.getElem?_modify,h,if_true,Option.map_some]
 rfl
theorem zdx (w:World) (b i:Nat) (u:Value) {k:Nat} (hk:k≠b):(w.setCell ⟨b,i,none⟩ u).heap[k]? = w.heap[k]?:=by
 simp only[World.setCell,Array.getElem?_modify,if_neg (fun e:b=k=>hk e.symm)]
set_option maxRecDepth 100000 in
theorem zci {W:World} {s:ShM} {pk pr:Option Addr} {ck cr:Nat} (hk:yc W (.slice pk s.key.length ck) s.key) (hr:yc W (.slice pr s.row.length cr) s.row) (nk:Value.slice pk s.key.length ck = .slice none 0 0→s.key = []) (nr:Value.slice pr s.row.length cr = .slice none 0 0→s.row = []) (hl:s.key.length≤1000000) (hl2:s.row.length≤1000000) :
  Calls Tryz.prog 137 #[shV pk ck pr cr s] W fun e w'=>∃qk dk qr dr,e = .returned (shV qk dk qr dr s)∧W.grownBy w' none∧ye (fun k=>W.heap.size≤k∧k<w'.heap.size) w' (.slice qk s.key.length dk) (zi s.key)∧ye (fun k=>W.heap.size≤k∧k<w'.heap.size) w' (.slice qr s.row.length dr) (zi s.row):=by
 obtain⟨key,znm,node,row⟩:=s;unfold shV;simp only at hk hr hl hl2 nk nr ⊢;have HCK:Hid (∀w,W.grownBy w none→Calls Tryz.prog 97 #[.slice pk key.length ck] w fun e w'=>∃q d,e = .returned (.slice q key.length d)∧uv w w' (.slice q key.length d) key∧w.grownBy w' none):=zd fun w hg=>(jp (hk.grown hg (by simp)) (by omega) nk).mono (by
  rintro e w' ⟨v,rfl,h1,h2⟩;obtain⟨q,d,rfl⟩:=Yp (w:=w) (w':=w') h1
  exact⟨q,d,rfl,h1,h2⟩)
 have HCR:Hid (∀w,W.grownBy w none→Calls Tryz.prog 97 #[.slice pr row.length cr] w fun e w'=>∃q d,e = .returned (.slice q row.length d)∧uv w w' (.slice q row.length d) row∧w.grownBy w' none):=zd fun w hg=>(jp (hr.grown hg (by simp)) (by omega) nr).mono (by
  rintro e w' ⟨v,rfl,h1,h2⟩;obtain⟨q,d,rfl⟩:=Yp (w:=w) (w':=w') h1
  exact⟨q,d,rfl,h1,h2⟩)
 have HL:=zd (show key.length≤1000000∧row.length≤1000000 from ⟨hl,hl2⟩)
 clear hk hr nk nr hl hl2;generalize hla:key.length=la at *;generalize hma:row.length=ma at *;have HLA:=zd hla;have HMA:=zd hma;clear hla hma
 go_enter Tryz.func137,Tryz.ntmps137
 go_upto_region 1 with fail
 have hga:=(zg W (.cells #[.slice pk la ck,.int .i64 znm,.int .i64 node,.slice pr ma cr] 97) none).trans (zg (W.alloc (.cells #[.slice pk la ck,.int .i64 znm,.int .i64 node,.slice pr ma cr] 97)) (.cells #[.slice none 0 0,.int .i64 0,.int .i64 0,.slice none 0 0] 97) none);have ha1:=((zg (W.alloc (.cells #[.slice pk la ck,.int .i64 znm,.int .i64 node,.slice pr ma cr] 97)) (.cells #[.slice none 0 0,.int .i64 0,.int .i64 0,.slice none 0 0] 97) none).block W.heap.size (by simp) (by simp)).trans (heap_alloc_new W (.cells #[.slice pk la ck,.int .i64 znm,.int .i64 node,.slice pr ma cr] 97))
 have hb1:=heap_alloc_new (W.alloc (.cells #[.slice pk la ck,.int .i64 znm,.int .i64 node,.slice pr ma cr] 97)) (.cells #[.slice none 0 0,.int .i64 0,.int .i64 0,.slice none 0 0] 97);rw[show(W.alloc (.cells #[.slice pk la ck,.int .i64 znm,.int .i64 node,.slice pr ma cr] 97)).heap.size=W.heap.size+1 by simp] at hb1
 have HGA:Hid (W.grownBy ((W.alloc (.cells #[.slice pk la ck,.int .i64 znm,.int .i64 node,.slice pr ma cr] 97)).alloc (.cells #[.slice none 0 0,.int .i64 0,.int .i64 0,.slice none 0 0] 97)).drew none):=zd (zl hga);have HA1:Hid (((W.alloc (.cells #[.slice pk la ck,.int .i64 znm,.int .i64 node,.slice pr ma cr] 97)).alloc (.cells #[.slice none 0 0,.int .i64 0,.int .i64 0,.slice none 0 0] 97)).drew.heap[W.heap.size]? = some (.cells #[.slice pk la ck,.int .i64 znm,.int .i64 node,.slice pr ma cr] 97 (0,0))):=zd ha1;have HB1:Hid (((W.alloc (.cells #[.slice pk la ck,.int .i64 znm,.int .i64 node,.slice pr ma cr] 97)).alloc (.cells #[.slice none 0 0,.int .i64 0,.int .i64 0,.slice none 0 0] 97)).drew.heap[W.heap.size+1]? = some (.cells #[.slice none 0 0,.int .i64 0,.int .i64 0,.slice none 0 0] 97 (0,0))):=zd hb1;clear hga ha1 hb1;generalize hb2:W.heap.size+1=b2 at *;generalize hb1:W.heap.size=b1 at *;have HBB:Hid (W.heap.size=b1∧b1+1=b2):=zd ⟨hb1,hb2⟩;clear hb1 hb2;generalize (W.alloc (.cells #[.slice pk la ck,.int .i64 znm,.int .i64 node,.slice pr ma cr] 97)).alloc (.cells #[.slice none 0 0,.int .i64 0,.int .i64 0,.slice none 0 0] 97)=W1 at *;refine wp_region_held_drew (S:=fun _=>True) (by kernel_rfl) trivial (fun hHeld=>?_)
 generalize W1.drew=X0 at *;refine tk (i:=0) (oi:=⟨some 3,Op.fieldAddr 97 (Operand.tmp 1) 0,_,_,_,none⟩) (v:=?_) rfl hHeld ?_ ?_;rotate_left
 ·rintro w -;go_simp;try with_reducible rfl
 (try simp only[Act.put,za,zb,zc])
 refine tk (i:=3) (oi:=⟨some 6,Op.fieldAddr 97 (Operand.tmp 1) 3,_,_,_,none⟩) (v:=?_) rfl hHeld ?_ ?_;rotate_left
 ·rintro w -;go_simp;try with_reducible rfl
 (try simp only[Act.put,za,zb,zc])
 refine wpAnyH_ready (rs:=[1,4]) (by kernel_rfl) (by simp) ?_
 refine(AllReadyH.cons (o:=⟨some 4,Op.load 32 (Operand.tmp 3),_,_,_,none⟩) rfl (fun K hK=>?_) (AllReadyH.cons (o:=⟨some 7,Op.load 32 (Operand.tmp 6),_,_,_,none⟩) rfl (fun K hK=>?_) AllReadyH.nil))
 ·obtain⟨c0,-,-,c3,cf⟩:=yx HA1.out
  go_simp
  refine hK.out _ _ trivial (fun hHeld=>?_)
  clear hK K
  (try simp only[Act.put,za,zb,zc])
  refine wpAnyH_ready (rs:=[2,4]) (by kernel_rfl) (by simp) ?_
  refine(AllReadyH.cons (o:=⟨some 5,Op.call { callee:=Callee.value (Operand.func 97),args:=#[Operand.tmp 4],argTypes:=#[32] },_,_,_,none⟩) rfl (fun K hK=>?_) (AllReadyH.cons (o:=⟨some 7,Op.load 32 (Operand.tmp 6),_,_,_,none⟩) rfl (fun K hK=>?_) AllReadyH.nil))
  ·go_simp
   go_at_call 97
   refine(HCK.out X0 HGA.out).mono ?_;rintro e w5 ⟨qk,dk,rfl,hn,hg⟩;have HN5:=zd hn;have HG5:=zd (HGA.out.trans hg);have HA2:=zd ((hg.block b1 (Array.getElem?_eq_some_iff.1 HA1.out).1 (by simp)).trans HA1.out)
   have HB2:=zd ((hg.block b2 (Array.getElem?_eq_some_iff.1 HB1.out).1 (by simp)).trans HB1.out)
   have HZ5:=zd (show W.heap.size≤X0.heap.size∧b2<X0.heap.size from ⟨HGA.out.size,(Array.getElem?_eq_some_iff.1 HB1.out).1⟩)
   clear hn hg;refine hK.out _ _ trivial (fun hHeld=>?_)
   clear hK K
   (try simp only[Act.put,za,zb,zc])
   refine wpAnyH_ready (rs:=[4]) (by kernel_rfl) (by simp) ?_
   refine(AllReadyH.cons (o:=⟨some 7,Op.load 32 (Operand.tmp 6),_,_,_,none⟩) rfl (fun K hK=>?_) AllReadyH.nil)
   obtain⟨c0,-,-,c3,cf⟩:=yx HA2.out
   go_simp
   refine hK.out _ _ trivial (fun hHeld=>?_)
   clear hK K
   (try simp only[Act.put,za,zb,zc])
   refine tk (i:=6) (oi:=⟨some 9,Op.fieldAddr 97 (Operand.tmp 1) 0,_,_,_,none⟩) (v:=?_) rfl hHeld ?_ ?_;rotate_left
   ·rintro w -;go_simp;try with_reducible rfl
   (try simp only[Act.put,za,zb,zc])
   refine wpAnyH_ready (rs:=[5]) (by kernel_rfl) (by simp) ?_
   refine(AllReadyH.cons (o:=⟨some 8,Op.call { callee:=Callee.value (Operand.func 97),args:=#[Operand.tmp 7],argTypes:=#[32] },_,_,_,none⟩) rfl (fun K hK=>?_) AllReadyH.nil)
   go_simp
   go_at_call 97
   refine(HCR.out w5 HG5.out).mono ?_;rintro e w6 ⟨qr,dr,rfl,hn,hg⟩;have HN6:=zd hn;have HG6:=zd (HG5.out.trans hg);have HG56:=zd hg;have HA3:=zd ((hg.block b1 (Array.getElem?_eq_some_iff.1 HA2.out).1 (by simp)).trans HA2.out)
   have HB3:=zd ((hg.block b2 (Array.getElem?_eq_some_iff.1 HB2.out).1 (by simp)).trans HB2.out)
   obtain⟨d0,-,-,d3,df⟩:=yx HA3.out;clear hn hg;refine hK.out _ _ trivial (fun hHeld=>?_)
   clear hK K
   (try simp only[Act.put,za,zb,zc])
   refine wpAnyH_ready (rs:=[7]) (by kernel_rfl) (by simp) ?_
   refine(AllReadyH.cons (o:=⟨none,Op.store 32 (Operand.tmp 9) (Operand.tmp 5),_,_,_,none⟩) rfl (fun K hK=>?_) AllReadyH.nil)
   go_simp
   have HA4:Hid ((w6.setCell ⟨b1,0,none⟩ (.slice qk la dk)).heap[b1]? = some (.cells #[.slice qk la dk,.int .i64 znm,.int .i64 node,.slice pr ma cr] 97 (0,0))):=zd (zdw (W:=w6) HA3.out);obtain⟨x0,x1,x2,x3,xf⟩:=yx HA4.out;refine hK.out _ _ trivial (fun hHeld=>?_)
   clear hK K
   (try simp only[Act.put,za,zb,zc])
   refine tk (i:=8) (oi:=⟨some 10,Op.fieldAddr 97 (Operand.tmp 1) 3,_,_,_,none⟩) (v:=?_) rfl hHeld ?_ ?_;rotate_left
   ·rintro w -;go_simp;try with_reducible rfl
   (try simp only[Act.put,za,zb,zc])
   refine wpAnyH_ready (rs:=[9]) (by kernel_rfl) (by simp) ?_
   refine(AllReadyH.cons (o:=⟨none,Op.store 32 (Operand.tmp 10) (Operand.tmp 8),_,_,_,none⟩) rfl (fun K hK=>?_) AllReadyH.nil)
   go_simp
   have HA5:Hid (((w6.setCell ⟨b1,0,none⟩ (.slice qk la dk)).setCell ⟨b1,3,none⟩ (.slice qr ma dr)).heap[b1]? = some (.cells #[.slice qk la dk,.int .i64 znm,.int .i64 node,.slice qr ma dr] 97 (0,0))):=zd (zdw (W:=w6) HA4.out);have hne:b2≠b1:=by have:=HBB.out;omega
   have HB5:Hid (((w6.setCell ⟨b1,0,none⟩ (.slice qk la dk)).setCell ⟨b1,3,none⟩ (.slice qr ma dr)).heap[b2]? = some (.cells #[.slice none 0 0,.int .i64 0,.int .i64 0,.slice none 0 0] 97 (0,0))):=zd ((zdx _ b1 3 _ hne).trans ((zdx _ b1 0 _ hne).trans HB3.out));have HGW:=zd ((yb w6 b1 0 (.slice qk la dk)).trans (yb _ b1 3 (.slice qr ma dr)));clear d0 d3 df x0 x1 x2 x3 xf;refine hK.out _ _ trivial (fun hHeld=>?_)
   clear hK K
   (try simp only[Act.put,za,zb,zc])
   refine wpAnyH_done (by kernel_rfl) ?_ _
   generalize (w6.setCell ⟨b1,0,none⟩ (.slice qk la dk)).setCell ⟨b1,3,none⟩ (.slice qr ma dr)=w7 at *;obtain⟨y0,y1,y2,y3,yf⟩:=yx HA5.out;obtain⟨z0,z1,z2,z3,zf⟩:=yx HB5.out
   go_wp2_with fail
   have hfin:=set4 HB5.out (.slice qk la dk) (.int .i64 znm) (.int .i64 node) (.slice qr ma dr);refine bodyPost_ret (Zj rfl _ _ b2 97 #[.slice qk la dk,.int .i64 znm,.int .i64 node,.slice qr ma dr] (0,0) _ rfl hfin rfl Tryz.underlying97 (by kernel_rfl)) rfl ?_
   have hw1:W.heap.size≤b1:=by have:=HBB.out;omega
   have hw2:W.heap.size≤b2:=by have:=HBB.out;omega
   have hG7:W.grownBy w7 none:=xi HG6.out HGW.out fun q hq=>by injection hq with hq;omega
   refine⟨qk,dk,qr,dr,rfl,Ze hG7 hw2,?_,?_⟩
   ·have h1:=uv.rowP HN5.out (by have:=HL.out;rw[HLA.out];omega)
    refine(ye.turn h1 fun k hk=>?_).mono fun k hk=>⟨by have:=HZ5.out;omega,by show k<(Zv w7 b2 (.slice qk la dk) (.int .i64 znm) (.int .i64 node) (.slice qr ma dr)).heap.size;rw[Jb];have:=HGW.out.size;have:=HG56.out.size;omega⟩
    have hk2:k≠b1∧k≠b2:=⟨by have:=HBB.out;have:=HZ5.out;omega,by have:=HZ5.out;omega⟩
    have hk3:k<w6.heap.size:=Nat.lt_of_lt_of_le hk.2 HG56.out.size
    exact((Yw w7 b2 _ _ _ _).block k (Nat.lt_of_lt_of_le hk3 HGW.out.size) (fun e=>hk2.2 (Option.some.inj e))).trans ((HGW.out.block k hk3 (fun e=>hk2.1 (Option.some.inj e))).trans (HG56.out.block k hk.2 (by simp)))
   ·have h1:=uv.rowP HN6.out (by have:=HL.out;rw[HMA.out];omega)
    have hz5:b2<w5.heap.size:=(Array.getElem?_eq_some_iff.1 HB2.out).1;refine(ye.turn h1 fun k hk=>?_).mono fun k hk=>⟨Nat.le_trans HG5.out.size hk.1,by show k<(Zv w7 b2 (.slice qk la dk) (.int .i64 znm) (.int .i64 node) (.slice qr ma dr)).heap.size;rw[Jb];exact Nat.lt_of_lt_of_le hk.2 HGW.out.size⟩
    have hk2:k≠b1∧k≠b2:=⟨by have:=HBB.out;omega,by omega⟩
    exact((Yw w7 b2 _ _ _ _).block k (Nat.lt_of_lt_of_le hk.2 HGW.out.size) (fun e=>hk2.2 (Option.some.inj e))).trans (HGW.out.block k hk.2 (fun e=>hk2.1 (Option.some.inj e)))
  ·go_simp
   refine hK.out _ _ trivial (fun hHeld=>?_)
   clear hK K
   (try simp only[Act.put,za,zb,zc])
   refine wpAnyH_ready (rs:=[2]) (by kernel_rfl) (by simp) ?_
   refine(AllReadyH.cons (o:=⟨some 5,Op.call { callee:=Callee.value (Operand.func 97),args:=#[Operand.tmp 4],argTypes:=#[32] },_,_,_,none⟩) rfl (fun K hK=>?_) AllReadyH.nil)
   go_simp
   go_at_call 97
   refine(HCK.out X0 HGA.out).mono ?_;rintro e w5 ⟨qk,dk,rfl,hn,hg⟩;have HN5:=zd hn;have HG5:=zd (HGA.out.trans hg);have HA2:=zd ((hg.block b1 (Array.getElem?_eq_some_iff.1 HA1.out).1 (by simp)).trans HA1.out)
   have HB2:=zd ((hg.block b2 (Array.getElem?_eq_some_iff.1 HB1.out).1 (by simp)).trans HB1.out)
   have HZ5:=zd (show W.heap.size≤X0.heap.size∧b2<X0.heap.size from ⟨HGA.out.size,(Array.getElem?_eq_some_iff.1 HB1.out).1⟩)
   clear hn hg;refine hK.out _ _ trivial (fun hHeld=>?_)
   clear hK K
   (try simp only[Act.put,za,zb,zc])
   refine tk (i:=6) (oi:=⟨some 9,Op.fieldAddr 97 (Operand.tmp 1) 0,_,_,_,none⟩) (v:=?_) rfl hHeld ?_ ?_;rotate_left
   ·rintro w -;go_simp;try with_reducible rfl
   (try simp only[Act.put,za,zb,zc])
   refine wpAnyH_ready (rs:=[5]) (by kernel_rfl) (by simp) ?_
   refine(AllReadyH.cons (o:=⟨some 8,Op.call { callee:=Callee.value (Operand.func 97),args:=#[Operand.tmp 7],argTypes:=#[32] },_,_,_,none⟩) rfl (fun K hK=>?_) AllReadyH.nil)
   go_simp
   go_at_call 97
   refine(HCR.out w5 HG5.out).mono ?_;rintro e w6 ⟨qr,dr,rfl,hn,hg⟩;have HN6:=zd hn;have HG6:=zd (HG5.out.trans hg);have HG56:=zd hg;have HA3:=zd ((hg.block b1 (Array.getElem?_eq_some_iff.1 HA2.out).1 (by simp)).trans HA2.out)
   have HB3:=zd ((hg.block b2 (Array.getElem?_eq_some_iff.1 HB2.out).1 (by simp)).trans HB2.out)
   obtain⟨d0,-,-,d3,df⟩:=yx HA3.out;clear hn hg;refine hK.out _ _ trivial (fun hHeld=>?_)
   clear hK K
   (try simp only[Act.put,za,zb,zc])
   refine wpAnyH_ready (rs:=[7]) (by kernel_rfl) (by simp) ?_
   refine(AllReadyH.cons (o:=⟨none,Op.store 32 (Operand.tmp 9) (Operand.tmp 5),_,_,_,none⟩) rfl (fun K hK=>?_) AllReadyH.nil)
   go_simp
   have HA4:Hid ((w6.setCell ⟨b1,0,none⟩ (.slice qk la dk)).heap[b1]? = some (.cells #[.slice qk la dk,.int .i64 znm,.int .i64 node,.slice pr ma cr] 97 (0,0))):=zd (zdw (W:=w6) HA3.out);obtain⟨x0,x1,x2,x3,xf⟩:=yx HA4.out;refine hK.out _ _ trivial (fun hHeld=>?_)
   clear hK K
   (try simp only[Act.put,za,zb,zc])
   refine tk (i:=8) (oi:=⟨some 10,Op.fieldAddr 97 (Operand.tmp 1) 3,_,_,_,none⟩) (v:=?_) rfl hHeld ?_ ?_;rotate_left
   ·rintro w -;go_simp;try with_reducible rfl
   (try simp only[Act.put,za,zb,zc])
   refine wpAnyH_ready (rs:=[9]) (by kernel_rfl) (by simp) ?_
   refine(AllReadyH.cons (o:=⟨none,Op.store 32 (Operand.tmp 10) (Operand.tmp 8),_,_,_,none⟩) rfl (fun K hK=>?_) AllReadyH.nil)
   go_simp
   have HA5:Hid (((w6.setCell ⟨b1,0,none⟩ (.slice qk la dk)).setCell ⟨b1,3,none⟩ (.slice qr ma dr)).heap[b1]? = some (.cells #[.slice qk la dk,.int .i64 znm,.int .i64 node,.slice qr ma dr] 97 (0,0))):=zd (zdw (W:=w6) HA4.out);have hne:b2≠b1:=by have:=HBB.out;omega
   have HB5:Hid (((w6.setCell ⟨b1,0,none⟩ (.slice qk la dk)).setCell ⟨b1,3,none⟩ (.slice qr ma dr)).heap[b2]? = some (.cells #[.slice none 0 0,.int .i64 0,.int .i64 0,.slice none 0 0] 97 (0,0))):=zd ((zdx _ b1 3 _ hne).trans ((zdx _ b1 0 _ hne).trans HB3.out));have HGW:=zd ((yb w6 b1 0 (.slice qk la dk)).trans (yb _ b1 3 (.slice qr ma dr)));clear d0 d3 df x0 x1 x2 x3 xf;refine hK.out _ _ trivial (fun hHeld=>?_)
   clear hK K
   (try simp only[Act.put,za,zb,zc])
   refine wpAnyH_done (by kernel_rfl) ?_ _
   generalize (w6.setCell ⟨b1,0,none⟩ (.slice qk la dk)).setCell ⟨b1,3,none⟩ (.slice qr ma dr)=w7 at *;obtain⟨y0,y1,y2,y3,yf⟩:=yx HA5.out;obtain⟨z0,z1,z2,z3,zf⟩:=yx HB5.out
   go_wp2_with fail
   have hfin:=set4 HB5.out (.slice qk la dk) (.int .i64 znm) (.int .i64 node) (.slice qr ma dr);refine bodyPost_ret (Zj rfl _ _ b2 97 #[.slice qk la dk,.int .i64 znm,.int .i64 node,.slice qr ma dr] (0,0) _ rfl hfin rfl Tryz.underlying97 (by kernel_rfl)) rfl ?_
   have hw1:W.heap.size≤b1:=by have:=HBB.out;omega
   have hw2:W.heap.size≤b2:=by have:=HBB.out;omega
   have hG7:W.grownBy w7 none:=xi HG6.out HGW.out fun q hq=>by injection hq with hq;omega
   refine⟨qk,dk,qr,dr,rfl,Ze hG7 hw2,?_,?_⟩
   ·have h1:=uv.rowP HN5.out (by have:=HL.out;rw[HLA.out];omega)
    refine(ye.turn h1 fun k hk=>?_).mono fun k hk=>⟨by have:=HZ5.out;omega,by show k<(Zv w7 b2 (.slice qk la dk) (.int .i64 znm) (.int .i64 node) (.slice qr ma dr)).heap.size;rw[Jb];have:=HGW.out.size;have:=HG56.out.size;omega⟩
    have hk2:k≠b1∧k≠b2:=⟨by have:=HBB.out;have:=HZ5.out;omega,by have:=HZ5.out;omega⟩
    have hk3:k<w6.heap.size:=Nat.lt_of_lt_of_le hk.2 HG56.out.size
    exact((Yw w7 b2 _ _ _ _).block k (Nat.lt_of_lt_of_le hk3 HGW.out.size) (fun e=>hk2.2 (Option.some.inj e))).trans ((HGW.out.block k hk3 (fun e=>hk2.1 (Option.some.inj e))).trans (HG56.out.block k hk.2 (by simp)))
   ·have h1:=uv.rowP HN6.out (by have:=HL.out;rw[HMA.out];omega)
    have hz5:b2<w5.heap.size:=(Array.getElem?_eq_some_iff.1 HB2.out).1;refine(ye.turn h1 fun k hk=>?_).mono fun k hk=>⟨Nat.le_trans HG5.out.size hk.1,by show k<(Zv w7 b2 (.slice qk la dk) (.int .i64 znm) (.int .i64 node) (.slice qr ma dr)).heap.size;rw[Jb];exact Nat.lt_of_lt_of_le hk.2 HGW.out.size⟩
    have hk2:k≠b1∧k≠b2:=⟨by have:=HBB.out;omega,by omega⟩
    exact((Yw w7 b2 _ _ _ _).block k (Nat.lt_of_lt_of_le hk.2 HGW.out.size) (fun e=>hk2.2 (Option.some.inj e))).trans (HGW.out.block k hk.2 (fun e=>hk2.1 (Option.some.inj e)))
 ·obtain⟨c0,-,-,c3,cf⟩:=yx HA1.out
  go_simp
  refine hK.out _ _ trivial (fun hHeld=>?_)
  clear hK K
  (try simp only[Act.put,za,zb,zc])
  refine wpAnyH_ready (rs:=[1]) (by kernel_rfl) (by simp) ?_
  refine(AllReadyH.cons (o:=⟨some 4,Op.load 32 (Operand.tmp 3),_,_,_,none⟩) rfl (fun K hK=>?_) AllReadyH.nil)
  go_simp
  refine hK.out _ _ trivial (fun hHeld=>?_)
  clear hK K
  (try simp only[Act.put,za,zb,zc])
  refine wpAnyH_ready (rs:=[2]) (by kernel_rfl) (by simp) ?_
  refine(AllReadyH.cons (o:=⟨some 5,Op.call { callee:=Callee.value (Operand.func 97),args:=#[Operand.tmp 4],argTypes:=#[32] },_,_,_,none⟩) rfl (fun K hK=>?_) AllReadyH.nil)
  go_simp
  go_at_call 97
  refine(HCK.out X0 HGA.out).mono ?_;rintro e w5 ⟨qk,dk,rfl,hn,hg⟩;have HN5:=zd hn;have HG5:=zd (HGA.out.trans hg);have HA2:=zd ((hg.block b1 (Array.getElem?_eq_some_iff.1 HA1.out).1 (by simp)).trans HA1.out)
  have HB2:=zd ((hg.block b2 (Array.getElem?_eq_some_iff.1 HB1.out).1 (by simp)).trans HB1.out)
  have HZ5:=zd (show W.heap.size≤X0.heap.size∧b2<X0.heap.size from ⟨HGA.out.size,(Array.getElem?_eq_some_iff.1 HB1.out).1⟩)
  clear hn hg;refine hK.out _ _ trivial (fun hHeld=>?_)
  clear hK K
  (try simp only[Act.put,za,zb,zc])
  refine tk (i:=6) (oi:=⟨some 9,Op.fieldAddr 97 (Operand.tmp 1) 0,_,_,_,none⟩) (v:=?_) rfl hHeld ?_ ?_;rotate_left
  ·rintro w -;go_simp;try with_reducible rfl
  (try simp only[Act.put,za,zb,zc])
  refine wpAnyH_ready (rs:=[5]) (by kernel_rfl) (by simp) ?_
  refine(AllReadyH.cons (o:=⟨some 8,Op.call { callee:=Callee.value (Operand.func 97),args:=#[Operand.tmp 7],argTypes:=#[32] },_,_,_,none⟩) rfl (fun K hK=>?_) AllReadyH.nil)
  go_simp
  go_at_call 97
  refine(HCR.out w5 HG5.out).mono ?_;rintro e w6 ⟨qr,dr,rfl,hn,hg⟩;have HN6:=zd hn;have HG6:=zd (HG5.out.trans hg);have HG56:=zd hg;have HA3:=zd ((hg.block b1 (Array.getElem?_eq_some_iff.1 HA2.out).1 (by simp)).trans HA2.out)
  have HB3:=zd ((hg.block b2 (Array.getElem?_eq_some_iff.1 HB2.out).1 (by simp)).trans HB2.out)
  obtain⟨d0,-,-,d3,df⟩:=yx HA3.out;clear hn hg;refine hK.out _ _ trivial (fun hHeld=>?_)
  clear hK K
  (try simp only[Act.put,za,zb,zc])
  refine wpAnyH_ready (rs:=[7]) (by kernel_rfl) (by simp) ?_
  refine(AllReadyH.cons (o:=⟨none,Op.store 32 (Operand.tmp 9) (Operand.tmp 5),_,_,_,none⟩) rfl (fun K hK=>?_) AllReadyH.nil)
  go_simp
  have HA4:Hid ((w6.setCell ⟨b1,0,none⟩ (.slice qk la dk)).heap[b1]? = some (.cells #[.slice qk la dk,.int .i64 znm,.int .i64 node,.slice pr ma cr] 97 (0,0))):=zd (zdw (W:=w6) HA3.out);obtain⟨x0,x1,x2,x3,xf⟩:=yx HA4.out;refine hK.out _ _ trivial (fun hHeld=>?_)
  clear hK K
  (try simp only[Act.put,za,zb,zc])
  refine tk (i:=8) (oi:=⟨some 10,Op.fieldAddr 97 (Operand.tmp 1) 3,_,_,_,none⟩) (v:=?_) rfl hHeld ?_ ?_;rotate_left
  ·rintro w -;go_simp;try with_reducible rfl
  (try simp only[Act.put,za,zb,zc])
  refine wpAnyH_ready (rs:=[9]) (by kernel_rfl) (by simp) ?_
  refine(AllReadyH.cons (o:=⟨none,Op.store 32 (Operand.tmp 10) (Operand.tmp 8),_,_,_,none⟩) rfl (fun K hK=>?_) AllReadyH.nil)
  go_simp
  have HA5:Hid (((w6.setCell ⟨b1,0,none⟩ (.slice qk la dk)).setCell ⟨b1,3,none⟩ (.slice qr ma dr)).heap[b1]? = some (.cells #[.slice qk la dk,.int .i64 znm,.int .i64 node,.slice qr ma dr] 97 (0,0))):=zd (zdw (W:=w6) HA4.out);have hne:b2≠b1:=by have:=HBB.out;omega
  have HB5:Hid (((w6.setCell ⟨b1,0,none⟩ (.slice qk la dk)).setCell ⟨b1,3,none⟩ (.slice qr ma dr)).heap[b2]? = some (.cells #[.slice none 0 0,.int .i64 0,.int .i64 0,.slice none 0 0] 97 (0,0))):=zd ((zdx _ b1 3 _ hne).trans ((zdx _ b1 0 _ hne).trans HB3.out));have HGW:=zd ((yb w6 b1 0 (.slice qk la dk)).trans (yb _ b1 3 (.slice qr ma dr)));clear d0 d3 df x0 x1 x2 x3 xf;refine hK.out _ _ trivial (fun hHeld=>?_)
  clear hK K
  (try simp only[Act.put,za,zb,zc])
  refine wpAnyH_done (by kernel_rfl) ?_ _
  generalize (w6.setCell ⟨b1,0,none⟩ (.slice qk la dk)).setCell ⟨b1,3,none⟩ (.slice qr ma dr)=w7 at *;obtain⟨y0,y1,y2,y3,yf⟩:=yx HA5.out;obtain⟨z0,z1,z2,z3,zf⟩:=yx HB5.out
  go_wp2_with fail
  have hfin:=set4 HB5.out (.slice qk la dk) (.int .i64 znm) (.int .i64 node) (.slice qr ma dr);refine bodyPost_ret (Zj rfl _ _ b2 97 #[.slice qk la dk,.int .i64 znm,.int .i64 node,.slice qr ma dr] (0,0) _ rfl hfin rfl Tryz.underlying97 (by kernel_rfl)) rfl ?_
  have hw1:W.heap.size≤b1:=by have:=HBB.out;omega
  have hw2:W.heap.size≤b2:=by have:=HBB.out;omega
  have hG7:W.grownBy w7 none:=xi HG6.out HGW.out fun q hq=>by injection hq with hq;omega
  refine⟨qk,dk,qr,dr,rfl,Ze hG7 hw2,?_,?_⟩
  ·have h1:=uv.rowP HN5.out (by have:=HL.out;rw[HLA.out];omega)
   refine(ye.turn h1 fun k hk=>?_).mono fun k hk=>⟨by have:=HZ5.out;omega,by show k<(Zv w7 b2 (.slice qk la dk) (.int .i64 znm) (.int .i64 node) (.slice qr ma dr)).heap.size;rw[Jb];have:=HGW.out.size;have:=HG56.out.size;omega⟩
   have hk2:k≠b1∧k≠b2:=⟨by have:=HBB.out;have:=HZ5.out;omega,by have:=HZ5.out;omega⟩
   have hk3:k<w6.heap.size:=Nat.lt_of_lt_of_le hk.2 HG56.out.size
   exact((Yw w7 b2 _ _ _ _).block k (Nat.lt_of_lt_of_le hk3 HGW.out.size) (fun e=>hk2.2 (Option.some.inj e))).trans ((HGW.out.block k hk3 (fun e=>hk2.1 (Option.some.inj e))).trans (HG56.out.block k hk.2 (by simp)))
  ·have h1:=uv.rowP HN6.out (by have:=HL.out;rw[HMA.out];omega)
   have hz5:b2<w5.heap.size:=(Array.getElem?_eq_some_iff.1 HB2.out).1;refine(ye.turn h1 fun k hk=>?_).mono fun k hk=>⟨Nat.le_trans HG5.out.size hk.1,by show k<(Zv w7 b2 (.slice qk la dk) (.int .i64 znm) (.int .i64 node) (.slice qr ma dr)).heap.size;rw[Jb];exact Nat.lt_of_lt_of_le hk.2 HGW.out.size⟩
   have hk2:k≠b1∧k≠b2:=⟨by have:=HBB.out;omega,by omega⟩
   exact((Yw w7 b2 _ _ _ _).block k (Nat.lt_of_lt_of_le hk.2 HGW.out.size) (fun e=>hk2.2 (Option.some.inj e))).trans (HGW.out.block k hk.2 (fun e=>hk2.1 (Option.some.inj e)))
structure Jnl where
 S:Sto
 at_:Int
 state:List Int
 entries:List (List Int)
 broken:Int
section
variable {own own' : Nat → Prop} {W W' : World} {db st : Nat} {d : Dk} {S S' : Sto}
theorem vl.othJ (h:vl own W db d) (ht:zq own W W') (h1:∀k,own' k→own k∨W.heap.size≤k) (h2:∀k,own' k→k<W'.heap.size):vl own' W' db d:=by
 obtain⟨sb,nb,lv,h⟩:=h.ex;have hdb:=h.dlt;have hsb:=h.st.lt;have hnb:=h.now.lt
 exact⟨sb,nb,lv,(ht.block db h.dlt h.odb).trans h.box,h.st.same (ht.block sb h.st.lt h.osb),h.now.same (ht.block nb h.now.lt h.onb),uz h.late (fun g hg=>ht.block g (Go.Proofs.YtbcbhlfjgobejaaGreat.own_lt h.late hg) (h.olv g hg)),h.sn,fun e=>(h1 _ e).elim h.odb (fun e=>by omega),fun e=>(h1 _ e).elim h.osb (fun e=>by omega),fun e=>(h1 _ e).elim h.onb (fun e=>by omega),fun g hg2 e=>(h1 _ e).elim (h.olv g hg2) (fun e=>by have:=Go.Proofs.YtbcbhlfjgobejaaGreat.own_lt h.late hg2;omega),h2,h.n,h.w0,h.w1,h.bst,h.bnow,h.blate,h.few⟩
theorem Zc.othJ (h:Zc own W st db S) (ht:zq own W W') (h1:∀k,own' k→own k∨W.heap.size≤k) (h2:∀k,own' k→k<W'.heap.size):Zc own' W' st db S:=by
 obtain⟨mb,tb,rv,rb,hs⟩:=h;have a1:=hs.st_lt;have a2:=hs.mb_lt;have a3:=hs.tb_lt;have a4:=fun k hk=>@SAt.rb_lt _ _ _ _ _ _ _ _ _ hs k hk
 have ho:=hs.others ht;have hz:=ht.size;refine⟨mb,tb,rv,rb,ho.box,ho.recs,ho.rows,ho.tak,hs.disk.othJ (ht.mono fun k hk=>Or.inl hk) (fun k hk=>?_) (fun k hk=>?_),fun k hk=>?_,hs.rbs,hs.ok⟩
 ·rcases hk with e|e
  ·exact(h1 k e).imp Or.inl id
  ·exact Or.inl (Or.inr e)
 ·rcases hk with e|e|e|e|e
  ·exact h2 k e
  ·subst e;omega
  ·subst e;omega
  ·subst e;omega
  ·exact Nat.lt_of_lt_of_le (a4 k e) hz
 ·rcases h1 k hk with e|e
  ·exact hs.away k e
  ·exact⟨by omega,by omega,by omega,fun e2=>by have:=a4 k e2;omega⟩
theorem Zc.own_lt (h:Zc own W st db S) {k:Nat} (hk:own k):k<W.heap.size:=by
 obtain⟨mb,tb,rv,rb,hs⟩:=h
 exact hs.own_lt hk
end
section
variable {own : Nat → Prop} {W W' : World} {jb st db : Nat} {sv ev : Value} {jk : Nat → Prop} {J : Jnl} {S' : Sto}
def Jnl.met (J:Jnl) (e:Int):Jnl:=if e=180 then { J with broken:=180 } else J
end
end Go.Proofs.YtbcbhlfjgobejaaGreat
