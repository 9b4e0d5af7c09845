/- A disk, its late writes, and what the power leaves of them: plain laws, no program. Conditions: none, or as the theorems say. -/
import Derived.Test.YtbcbhlfjgobejaaGreatI4
import Derived.Test.YtbcbhlfjgobejaaGreatI3
import Derived.Deep.MidRow
import Derived.Deep.WholeRow
import Derived.Great.BuildSlice
import Derived.Laws.CopyOwn
import Derived.Laws.Cover3
import Derived.ChangeKeysEq
import Derived.Deep.DeepCutAuto
import Derived.Deep.RegionLaw
import Derived.Laws.Slices
import Derived.Laws.BitsLemmas
import Derived.Laws.BitsAllLaws
set_option linter.unusedSimpArgs false
set_option linter.unusedVariables false
namespace Go.Proofs.YtbcbhlfjgobejaaGreat
set_option maxHeartbeats 200000000
open Go.Sf
structure Dk where
 n:Nat
 st:List (Int × List Int)
 now:List (Int × List Int)
 late:List (Int × List Int)
 steps:Int
 well:Int
 off:Bool
def bk (m:List (Int × List Int)) (i:Nat):List Int:=(zw m (i:Int)).getD zz
def jg (b:List Int):List Int:=b++List.replicate (256-b.length) 0
def Dk.went (d:Dk):Dk:={ d with steps:=d.steps+1,well:=max (-1) (d.well-1) }
def Dk.gone (d:Dk):Dk:={ d with steps:=d.steps+1,well:=-1,off:=true }
def Dk.stepB (d:Dk):Bool:=decide (d.well≠0)
def Dk.lay (d:Dk) (i:Nat) (x:List Int):Dk:={ d with late:=d.late ++ [((i:Int),x)],now:=yj d.now (i:Int) x }
def Dk.write (d:Dk) (i:Nat) (x:List Int):Dk:=if (d.lay i x).stepB=true then (d.lay i x).went else (d.lay i x).gone
def Dk.wrote (d:Dk):Bool:=d.stepB
def Dk.sync (d:Dk):Dk:=if d.stepB=true then { d.went with st:=d.now,late:=[] } else d.gone
def Ys (fates:List Int) (j:Nat):Nat:=match fates[j]? with
 | none=>0
 | some x=>if x=255 then 256 else x.toNat
def qo (fates:List Int):Nat→List (Int × List Int)→List (Int × List Int)→List (Int × List Int)
 | _,[],m=>m
 | j,w :: r,m=>qo fates (j+1) r (yj m w.1 (uu (Ys fates j) w.2 ((zw m w.1).getD zz)))
def Dk.on (d:Dk) (fates:List Int):Dk:=if d.off=true then { d with st:=qo fates 0 d.late d.st,now:=qo fates 0 d.late d.st,late:=[],well:=-1,off:=false } else { d with well:=-1 }
theorem Yn (m:List (Int × List Int)) (i:Nat) (x:List Int):bk (yj m (i:Int) x) i=x:=by simp[bk,xt]
theorem Yb (m:List (Int × List Int)) {i j:Nat} (x:List Int) (h:j≠i):bk (yj m (i:Int) x) j=bk m j:=by
 unfold bk;rw[vq _ _ (by omega)]
def qz (ws:List (Nat × List Int)):List (Int × List Int):=ws.map fun w=>((w.1:Int),w.2)
theorem Yc (fates:List Int) (i:Nat):∀(j:Nat) (ws:List (Nat × List Int)) (m:List (Int × List Int)),(∀w∈ws,w.1≠i)→bk (qo fates j (qz ws) m) i=bk m i
 | j,[],m,_=>rfl
 | j,w :: r,m,h=>by
  show bk (qo fates (j+1) (qz r) (yj m (w.1:Int) _)) i=_
  rw[Yc fates i (j+1) r _ (fun w' hw'=>h w' (List.mem_cons_of_mem _ hw')),Yb _ _ (fun e=>h w (by simp) e.symm)]
theorem Qp (fates:List Int):∀(j:Nat) (ws:List (Nat × List Int)) (m:List (Int × List Int)),(ws.map (·.1)).Nodup→∀t w,ws[t]? = some w→bk (qo fates j (qz ws) m) w.1=uu (Ys fates (j+t)) w.2 (bk m w.1)
 | j,[],m,_,t,w,h=>by simp at h
 | j,w0 :: r,m,hn,0,w,h=>by
  simp at h;subst h;simp only[List.map_cons,List.nodup_cons] at hn
  show bk (qo fates (j+1) (qz r) (yj m (w0.1:Int) _)) w0.1=_
  rw[Yc fates w0.1 (j+1) r _ (fun w' hw' e=>hn.1 (List.mem_map.2 ⟨w',hw',e⟩)),Yn]
  rfl
 | j,w0 :: r,m,hn,t+1,w,h=>by
  simp only[List.getElem?_cons_succ] at h;simp only[List.map_cons,List.nodup_cons] at hn
  show bk (qo fates (j+1) (qz r) (yj m (w0.1:Int) _)) w.1=_
  have hne:w.1≠w0.1:=fun e=>hn.1 (List.mem_map.2 ⟨w,List.mem_of_getElem? h,e⟩)
  rw[Qp fates (j+1) r _ hn.2 t w h,Yb _ _ hne,show j+1+t=j+(t+1) by omega]
section
variable {C : List Int → Nat}
open Classical in
noncomputable def scrub (C:List Int→Nat) (x:List Int):List Int:=if (saidP C x).isSome=true then x else zz
theorem zlh {n a b:Nat} (ha:a<256 ^ n) (hb:b<256 ^ n) (h:be n a=be n b):a=b:=by
 rw[←Yy n a ha,h,Yy n b hb]
theorem zi1:∀n,be n 0=List.replicate n 0
 | 0=>rfl
 | n+1=>by
  rw[zag];simp only[Nat.zero_div,Nat.zero_mod];rw[zi1 n,List.replicate_succ']
  rfl
theorem k_lt {p:Prt} (h:Jm p):p.k.toNat<256 ^ 8:=by have:=h.k2;have:=h.k1;omega
theorem be_k_ne {p q:Prt} (hp:Jm p) (hq:Jm q) (h:p.k≠q.k):be 8 p.k.toNat≠be 8 q.k.toNat:=fun e=>by
 have:=zlh (k_lt hp) (k_lt hq) e;have:=hp.k1;have:=hq.k1;omega
theorem Jn {p:Prt} (hp:Jm p):be 8 p.k.toNat≠List.replicate 8 0:=fun e=>by
 rw[←zi1] at e;have:=zlh (k_lt hp) (by omega) e
 have:=hp.k1;omega
theorem zce:scrub C zz=zz:=by unfold scrub;split <;> rfl
theorem Xs {x:List Int} {p:Prt} (h:saidP C x=some p):scrub C x=x:=by unfold scrub;rw[h];rfl
theorem qt {x:List Int} (h:x=zz∨∃p,saidP C x=some p):scrub C x=x:=by
 rcases h with rfl|⟨p,hp⟩
 ·exact zce
 ·exact Xs hp
theorem zkw {old:List Int} (ho:old=zz∨∃p,saidP C old=some p) {q:Prt} (hq:Jm q) (hk:∀p,saidP C old=some p→p.k≠q.k) (c:Nat) :
  scrub C (uu c (vp C q) old)=old∨scrub C (uu c (vp C q) old)=zz∨scrub C (uu c (vp C q) old)=vp C q:=by
 cases e:saidP C (uu c (vp C q) old) with
 | none=>right;left;unfold scrub;rw[e];rfl
 | some r=>
  rw[Xs e];obtain⟨hr,her⟩:=vw e;have fx:Yu (uu c (vp C q) old) 80 (be 8 r.k.toNat):=her ▸ Zd hr.l1
  rcases ho with rfl|⟨p,hp⟩
  ·rcases torn zam (Zd hq.l1) fx c rfl (Or.inr (fun e=>Jn hr e.symm)) (fun e=>Jn hq e.symm) with h|h
   ·exact Or.inl h
   ·exact Or.inr (Or.inr h)
  ·obtain⟨hm,hep⟩:=vw hp
   have fy:Yu old 80 (be 8 p.k.toNat):=hep ▸ Zd hm.l1
   rcases torn fy (Zd hq.l1) fx c rfl (Or.inl rfl) (be_k_ne hm hq (hk p hp)) with h|h
   ·exact Or.inl h
   ·exact Or.inr (Or.inr h)
theorem zia {old:List Int} (ho:old=zz∨∃p,saidP C old=some p) (c:Nat):scrub C (uu c zz old)=old∨scrub C (uu c zz old)=zz:=by
 cases e:saidP C (uu c zz old) with
 | none=>right;unfold scrub;rw[e];rfl
 | some r=>
  rw[Xs e];obtain⟨hr,her⟩:=vw e;have fx:Yu (uu c zz old) 80 (be 8 r.k.toNat):=her ▸ Zd hr.l1
  rcases ho with rfl|⟨p,hp⟩
  ·have:uu c zz zz=zz:=List.take_append_drop c zz
   exact Or.inl this
  ·obtain⟨hm,hep⟩:=vw hp
   have fy:Yu old 80 (be 8 p.k.toNat):=hep ▸ Zd hm.l1
   exact torn fy zam fx c rfl (Or.inl rfl) (Jn hm)
end
open Go.RowKit Go.Sf
theorem zh {w:World} {b:Nat} {c:Array Value} {t:TypeId} {fr:Nat × Nat} (h:w.heap[b]? = some (.cells c t fr)) (i:Nat):w.cell? ⟨b,i,none⟩=c[i]?:=by
 simp[World.cell?,h]
def xz (x:List Int):Value:=.agg (zi x).toArray
def zp (w:Int × List Int):List Value:=.int .i64 w.1 :: zi w.2
def zcq (w:Int × List Int):Value:=.agg (zp w).toArray
theorem xe (l:List Int):∀v∈zi l,v.oneCell'=true:=fun v hv=>by
 obtain⟨b,_,rfl⟩:=List.mem_map.1 hv
 rfl
theorem zr (l:List Int):(zi l).length=l.length:=by simp[zi]
theorem Zk (w:World):(zeroValue 174).run Tryz.prog w = .ok (xz zz) w:=by kernel_rfl
theorem Jj (w:World):(zeroValue 176).run Tryz.prog w = .ok (zcq (0,zz)) w:=by kernel_rfl
theorem Qm:(Tryz.prog.info? 174).map (·.size)=some 256:=by kernel_rfl
theorem Vn:(Tryz.prog.info? 176).map (·.size)=some 257:=by kernel_rfl
theorem zdg:(Tryz.prog.info? 176).map (fun i=>(i.zero,i.size,i.bytes))=some (some (zcq (0,zz)),257,264):=by kernel_rfl
section
variable {P : Program} {ops : Array Oper} {rest : List Oper} {o : Oper} {a : Act} {w : World} {Q : Exit → Act → World → Prop}
theorem ui (hgd:o.guard=none) (T:TypeId) (hop:o.op=Op.alloc T) (z:Value) (hz:∀w,(zeroValue T).run P w = .ok z w) (cs:Array Value) (hc:z.cells=cs)
  (h:wpList P ops Q rest (a.put o.dst (.pointer (some ⟨w.heap.size,0,none⟩))) (w.alloc (.cells cs T))):wpList P ops Q (o :: rest) a w:=by
 subst hc;refine wpList_plain hgd fun K hK=>?_
 unfold Oper.wp;simp[execOp,hop,Instr.alloc,hz,newVar,newRow,newObj,Result.andThen,go_sem]
 exact hK _ _ h
theorem ub (hgd:o.guard=none) (ty:TypeId) (x y:Operand) (ho:o.op = .store ty x y) (c c':Array Value) (t:TypeId) (hx:a.eval x = .pointer (some ⟨w.heap.size,0,none⟩)) (hy:a.eval y = .agg c') (hi:(P.info? ty).map (·.size)=some c'.size) (hold:c.size=c'.size) (h1:c'.all (·.oneCell')=true)
  (h:wpList P ops Q rest (a.put o.dst undef) (w.alloc (.cells c' t))):wpList P ops Q (o :: rest) a (w.alloc (.cells c t)):=by
 refine wpList_store_row hgd ty x y ho w.heap.size c' hx hy t c (heap_alloc_new _ _) hi hold h1 ?_;rw[World.setRow_alloc_new]
 exact h
end
theorem xq:zz.length=256:=List.length_replicate
theorem uy {x:Int × List Int} (h:x.2.length=256):(zp x).length=257:=by simp[zp,zi,h]
theorem zfq (x:Int × List Int):∀v∈zp x,v.oneCell'=true:=fun v hv=>by
 rcases List.mem_cons.1 hv with rfl|hv
 ·rfl
 ·exact xe _ v hv
theorem zja {x:Int × List Int} (h:x.2.length=256):(Tryz.prog.info? 176).map (·.size)=some (zp x).toArray.size:=by rw[List.size_toArray,uy h];exact Vn
theorem zi9 {x y:Int × List Int} (h:x.2.length=256) (h2:y.2.length=256):(zp x).toArray.size=(zp y).toArray.size:=by rw[List.size_toArray,List.size_toArray,uy h,uy h2]
theorem zi8 (x:Int × List Int):(zp x).toArray.all (·.oneCell')=true:=all_oneCell_toArray (zfq x)
theorem blkI {x:List Int} (h:x.length=256):(Tryz.prog.info? 174).map (·.size)=some (zi x).toArray.size:=by rw[List.size_toArray,zr,h];exact Qm
theorem blkE {x y:List Int} (h:x.length=256) (h2:y.length=256):(zi x).toArray.size=(zi y).toArray.size:=by rw[List.size_toArray,List.size_toArray,zr,zr,h,h2]
theorem blkA (x:List Int):(zi x).toArray.all (·.oneCell')=true:=all_oneCell_toArray (xe x)
theorem zdp (xs:Array Value) (i:Nat) (v:Value) (h:xs[i]? = some v) (w:World):(part 5 xs (i*1)).run Tryz.prog w = .ok v w:=by
 have hu:=Tryz.underlying5;have ha:(isAgg 5).run Tryz.prog w = .ok false w:=by unfold isAgg;rw[Sem.run_bind,run_underlying hu];rfl
 unfold part;simp[ha,h,Result.andThen]
theorem Yv (w:World) (d:Nat):∀(xs ys:List Int) (A:List Int),xs.length=ys.length→∀(B:List Int),A.length=B.length→
  (Op.eqItems (d+1) 5 1 (zi (A++xs)).toArray (zi (B++ys)).toArray (List.range' A.length xs.length)).run Tryz.prog w = .ok (decide (xs=ys)) w
 | [],[],A,_,B,_=>by simp[Op.eqItems]
 | [],_ :: _,_,h,_,_=>by simp at h
 | _ :: _,[],_,h,_,_=>by simp at h
 | x :: xs,y :: ys,A,h,B,hAB=>by
  have e1:(zi (A++x :: xs)).toArray[A.length]? = some (.int .u8 x):=by simp[zi]
  have e2:(zi (B++y :: ys)).toArray[A.length]? = some (.int .u8 y):=by rw[hAB];simp[zi]
  have ih:=Yv w d xs ys (A ++ [x]) (by simpa using h) (B ++ [y]) (by simp[hAB])
  simp only[List.append_assoc,List.cons_append,List.nil_append,List.length_append,List.length_cons,List.length_nil,Nat.zero_add] at ih;rw[List.length_cons,List.range'_succ];simp only[Op.eqItems,Sem.run_bind,zdp _ _ _ e1,zdp _ _ _ e2,Result.andThen_ok,run_equalIn_int w d 5 .u8 .u8 x y Tryz.underlying5]
  by_cases hxy:x=y
  ·subst hxy
   simp only[beq_self_eq_true,Bool.not_true,Bool.false_eq_true,if_false,ih];simp
  ·have:(x == y)=false:=by simpa using hxy
   simp[this,hxy]
theorem zlt {x y:List Int} (hx:x.length=256) (hy:y.length=256) (w:World):(Op.equalIn 10000 174 (xz x) (xz y)).run Tryz.prog w = .ok (decide (x=y)) w:=by
 obtain⟨i,hi⟩:∃i,Tryz.prog.info? 5=some i:=Option.isSome_iff_exists.1 (by kernel_rfl)
 have h:=run_equalIn_array (P:=Tryz.prog) w 9999 (t:=174) (n:=256) (zi x).toArray (zi y).toArray (by kernel_rfl) hi
 have hc:Tryz.prog.cellsOf 5=1:=by kernel_rfl
 rw[hc] at h;have h2:=Yv w 9998 x y [] (by omega) [] rfl
 simp only[List.nil_append,List.length_nil,hx] at h2;rw[List.range_eq_range'] at h
 exact h.trans h2
theorem zmm:Tryz.prog.eqGuardType Tryz.prog.depth 174=false:=by kernel_rfl
@[go_sem] theorem eqlB {x y:List Int} (hx:x.length=256) (hy:y.length=256) (w:World):(binOp .eql 174 (xz x) (xz y)).run Tryz.prog w = .ok (.bool (decide (x=y))) w:=by
 unfold xz;rw[run_eql_struct];have:=zlt hx hy w;unfold xz at this;rw[this]
 rfl
@[go_sem] theorem neqB {x y:List Int} (hx:x.length=256) (hy:y.length=256) (w:World):(binOp .neq 174 (xz x) (xz y)).run Tryz.prog w = .ok (.bool (!decide (x=y))) w:=by
 unfold xz;rw[run_neq_struct];have:=zlt hx hy w;unfold xz at this;rw[this]
 rfl
@[go_sem] theorem guardB (op:BinOp) (x y:Operand) (a b:List Int) (w:World):(eqGuard op 174 x y (xz a) (xz b)).run Tryz.prog w = .ok () w:=run_eqGuard_agg (P:=Tryz.prog) w op _ x y _ _ zmm
structure Xk (B:Nat) (W:World) (v:Value) (l:List Int):Prop where
 ex:∃p cap,v = .slice p l.length cap∧l.length≤cap∧cap≤9223372036854775807∧(l = []∨∃a,p=some a∧a.block<B∧∀j u,(zi l)[j]? = some u→W.cell? (a.add j)=some u)
theorem Xk.raw {B:Nat} {W:World} {v:Value} {l:List Int} (h:Xk B W v l):yc W v l:=by
 obtain⟨p,cap,rfl,h1,h2,h3⟩:=h.ex;refine⟨p,cap,rfl,?_⟩
 rcases h3 with h3|⟨a,rfl,_,h4⟩
 ·exact Or.inl h3
 ·exact Or.inr ⟨a,rfl,h4⟩
theorem Xk.turn {B:Nat} {W W':World} {v:Value} {l:List Int} (h:Xk B W v l) (hs:∀k,k<B→W'.heap[k]? = W.heap[k]?):Xk B W' v l:=by
 obtain⟨p,cap,rfl,h1,h2,h3⟩:=h.ex;refine⟨p,cap,rfl,h1,h2,?_⟩
 rcases h3 with h3|⟨a,rfl,hb,h4⟩
 ·exact Or.inl h3
 ·refine Or.inr ⟨a,rfl,hb,fun j u hu=>?_⟩
  have hbl:(a.add j).block=a.block:=by unfold Addr.add;split <;> rfl
  exact(World.cell?_of_block (hs _ (by rw[hbl];exact hb))).trans (h4 j u hu)
theorem zq.refl (bs:Nat→Prop) (w:World):zq bs w w:=⟨rfl,rfl,rfl,Nat.le_refl _,fun _ _ _=>rfl⟩
theorem zq.trans {bs:Nat→Prop} {a b c:World} (h:zq bs a b) (g:zq bs b c):zq bs a c:=
 ⟨g.os.trans h.os,g.tape.trans h.tape,g.output.trans h.output,Nat.le_trans h.size g.size,fun k hk hn=>(g.block k (Nat.lt_of_lt_of_le hk h.size) hn).trans (h.block k hk hn)⟩
theorem yt (w:World) (b i:Nat) (v:Value):zq (fun k=>k=b) w (w.setCell ⟨b,i,none⟩ v):=by
 have hs:=yb w b i v
 exact⟨hs.os,hs.tape,hs.output,hs.size,fun k hk hn=>hs.block k hk (fun e=>hn (by cases e;rfl))⟩
structure Rdr (B:Nat) (w:World) (rb:Nat) (all:List Int) (at_:Nat) (bad:Bool):Prop where
 le:B≤rb
 len:all.length≤1000000
 pos:at_≤all.length
 ex:∃v,w.heap[rb]? = some (.cells #[v,.int .i64 at_,.bool bad] 306 (0,0))∧Xk B w v all
section
variable {B : Nat} {w w' : World} {rb at_ : Nat} {all : List Int} {bad : Bool}
theorem Rdr.lt (h:Rdr B w rb all at_ bad):rb<w.heap.size:=by
 obtain⟨v,hb,_⟩:=h.ex
 exact(Array.getElem?_eq_some_iff.1 hb).1
theorem Rdr.kept (h:Rdr B w rb all at_ bad) (hg:w.grownBy w' none):Rdr B w' rb all at_ bad:=by
 obtain⟨v,hb,hv⟩:=h.ex;have hl:=h.lt
 exact⟨h.le,h.len,h.pos,v,(hg.block rb hl (by simp)).trans hb,hv.turn fun k hk=>hg.block k (by have:=h.le;omega) (by simp)⟩
set_option maxRecDepth 100000 in
theorem Vy (h:Rdr B w rb all at_ bad):Calls Tryz.prog 223 #[.pointer (some ⟨rb,0,none⟩)] w fun e w'=>e = .returned (.bool bad)∧w'=w:=by
 obtain⟨v,hb,_⟩:=h.ex;have c2:w.cell? ⟨rb,2,none⟩=some (.bool bad):=by simp[World.cell?,hb]
 clear h hb
 go_enter Tryz.func223,Tryz.ntmps223
 go_wp2
 go_ret
 exact⟨rfl,rfl⟩
set_option maxRecDepth 100000 in
theorem Qo (h:Rdr B w rb all at_ bad):Calls Tryz.prog 224 #[.pointer (some ⟨rb,0,none⟩)] w fun e w'=>e = .returned (.int .i64 (if bad then 0 else ((all.length-at_:Nat):Int)))∧w.grownBy w' none:=by
 have HB:=zd (Vy h);obtain⟨v,hb,hv⟩:=h.ex;have hp:=h.pos;have hl:=h.len;obtain⟨p,cap,rfl,-⟩:=hv.ex;have c0:w.cell? ⟨rb,0,none⟩=some (.slice p all.length cap):=by simp[World.cell?,hb]
 have c1:w.cell? ⟨rb,1,none⟩=some (.int .i64 at_):=by simp[World.cell?,hb]
 clear h hb hv;generalize all.length=n at *
 cases bad
 ·go_enter Tryz.func224,Tryz.ntmps224
  go_wp2_with (go_at_call 223;refine HB.out.mono ?_;rintro e w1 ⟨rfl,h5⟩;obtain rfl:w=w1:=h5.symm)
  go_region
  go_wp2
  go_ret
  refine⟨?_,⟨rfl,rfl,rfl,Nat.le_refl _,fun _ _ _=>rfl⟩⟩
  simp;omega
 ·go_enter Tryz.func224,Tryz.ntmps224
  go_wp2_with (go_at_call 223;refine HB.out.mono ?_;rintro e w1 ⟨rfl,h5⟩;obtain rfl:w=w1:=h5.symm)
  go_ret
  exact⟨rfl,zm _⟩
set_option maxRecDepth 100000 in
theorem zlu (h:Rdr B w rb all at_ bad):Calls Tryz.prog 248 #[.pointer (some ⟨rb,0,none⟩)] w fun e w'=>e = .returned (.tuple #[])∧Rdr B w' rb all at_ true∧zq (fun k=>k=rb) w w':=by
 obtain⟨v,hb,hv⟩:=h.ex;have c2:w.cell? ⟨rb,2,none⟩=some (.bool bad):=by simp[World.cell?,hb]
 have y2:w.frozen? ⟨rb,2,none⟩=false:=by simp[World.frozen?,hb]
 have HE:Hid (Rdr B (w.setCell ⟨rb,2,none⟩ (.bool true)) rb all at_ true∧zq (fun k=>k=rb) w (w.setCell ⟨rb,2,none⟩ (.bool true))):=(show _∧_ from
  ⟨⟨h.le,h.len,h.pos,v,by simp[World.setCell,Array.getElem?_modify,hb],hv.turn fun k hk=>Below.heap_setCell _ _ _ k (by have:=h.le;show k≠rb;omega)⟩,yt _ _ _ _⟩)
 clear h hb hv
 go_enter Tryz.func248,Tryz.ntmps248
 go_wp2
 first|go_end0|refine bodyPost_ret (results_none rfl _ _ _) rfl ?_
 exact⟨rfl,HE.out⟩
theorem Xk.mid {p:Option Addr} {cap:Nat} {l:List Int} (h:Xk B w (.slice p l.length cap) l) {a n:Nat} (hn:a+n≤l.length) {q:Option Addr} (hq:n≠0→q=p.map (fun x=>x.add a)):Xk B w (.slice q n n) ((l.drop a).take n):=by
 obtain⟨p',cap',e,h1,h2,h3⟩:=h.ex
 injection e with e1 _ e2
 subst e1 e2;have hl:((l.drop a).take n).length=n:=by rw[List.length_take,List.length_drop];omega
 refine⟨q,n,by rw[hl],by omega,by omega,?_⟩
 rcases Nat.eq_zero_or_pos n with h0|h0
 ·left;subst h0;simp
 ·rcases h3 with h3|⟨x,rfl,hb2,h4⟩
  ·exfalso;rw[h3] at hn;simp at hn;omega
  ·right
   rw[hq (by omega)]
   have hbl:(x.add a).block=x.block:=by unfold Addr.add;split <;> rfl
   refine⟨x.add a,rfl,by rw[hbl];exact hb2,fun j u hu=>?_⟩
   rw[Addr.add_add];refine h4 (a+j) u ?_;rw[zi,List.map_take,List.map_drop] at hu;have hj:j<n:=by
    rcases Nat.lt_or_ge j n with h|h
    ·exact h
    ·rw[List.getElem?_eq_none (by rw[List.length_take];omega)] at hu;cases hu
   rw[List.getElem?_take_of_lt hj,List.getElem?_drop] at hu
   exact hu
def us (B:Nat) (w:World) (rb:Nat) (all:List Int) (at_:Nat) (bad:Bool) (n:Nat) (R:Value→World→List Int→Prop) (z:Value) (e:Ending) (w':World):Prop:=
 zq (fun k=>k=rb) w w'∧if bad=false∧n≤all.length-at_ then (∃v,e = .returned v∧R v w' ((all.drop at_).take n))∧Rdr B w' rb all (at_+n) false else e = .returned z∧Rdr B w' rb all at_ true
set_option maxRecDepth 100000 in
theorem Qj (h:Rdr B w rb all at_ bad) (n:Nat) (hn:n≤4294967296) :
  Calls Tryz.prog 214 #[.pointer (some ⟨rb,0,none⟩),.int .i64 n] w (us B w rb all at_ bad n (fun v w' l=>Xk B w' v l) (.slice none 0 0)):=by
 have hrl:=h.lt;have hB:=h.le;have HL:=zd (Qo h);have HBad:Hid (∀W bd,Rdr B W rb all at_ bd→Calls Tryz.prog 223 #[.pointer (some ⟨rb,0,none⟩)] W fun e w'=>e = .returned (.bool bd)∧w'=W):=(fun W bd h=>Vy h)
 have HF:Hid (∀W,w.grownBy W none→Calls Tryz.prog 248 #[.pointer (some ⟨rb,0,none⟩)] W fun e w'=>e = .returned (.tuple #[])∧Rdr B w' rb all at_ true∧zq (fun k=>k=rb) w w'):=(fun W hg=>(zlu (h.kept hg)).mono fun e w' ⟨h1,h2,h3⟩=>⟨h1,h2,vc hg h3⟩)
 by_cases hok:bad=false∧n≤all.length-at_
 ·obtain⟨rfl,hle⟩:=hok
  obtain⟨v,hb,hv⟩:=h.ex;have hp:=h.pos;have hl:=h.len;have HV:=zd hv;have HH:=zd h;obtain⟨p,cap,rfl,hlc,-⟩:=hv.ex;refine Calls.mono (R:=fun e w'=>zq (fun k=>k=rb) w w'∧((∃v,e = .returned v∧Xk B w' v ((all.drop at_).take n))∧Rdr B w' rb all (at_+n) false)) ?_ (fun e w' h=>by unfold us;rw[if_pos ⟨rfl,hle⟩];exact h)
  have HX:Hid (∀W q,w.grownBy W none→(n≠0→q=p.map (fun x=>x.add at_))→(zq (fun k=>k=rb) w (W.setCell ⟨rb,1,none⟩ (.int .i64 ((at_:Int)+n))).drew∧Xk B (W.setCell ⟨rb,1,none⟩ (.int .i64 ((at_:Int)+n))).drew (.slice q n n) ((all.drop at_).take n)∧Rdr B (W.setCell ⟨rb,1,none⟩ (.int .i64 ((at_:Int)+n))).drew rb all (at_+n) false)):=(fun W q hg hq=>by
   have hv2:Xk B W (.slice p all.length cap) all:=hv.turn fun k hk=>hg.block k (by omega) (by simp)
   have hb2:=(hg.block rb hrl (by simp)).trans hb
   have hv3:Xk B (W.setCell ⟨rb,1,none⟩ (.int .i64 ((at_:Int)+n))).drew (.slice p all.length cap) all:=hv2.turn fun k hk=>Below.heap_setCell _ _ _ k (by show k≠rb;omega)
   have ht:=yt W rb 1 (.int .i64 ((at_:Int)+n));refine⟨vc hg ⟨ht.os,ht.tape,ht.output,ht.size,ht.block⟩,hv3.mid (by omega) hq,⟨hB,hl,by omega,_,?_,hv3⟩⟩
   simp[World.setCell,World.drew,Array.getElem?_modify,hb2])
  clear h hv;have c0:w.cell? ⟨rb,0,none⟩=some (.slice p all.length cap):=by simp[World.cell?,hb]
  have c1:w.cell? ⟨rb,1,none⟩=some (.int .i64 at_):=by simp[World.cell?,hb]
  have y1:w.frozen? ⟨rb,1,none⟩=false:=by simp[World.frozen?,hb]
  have HZ:Hid (∀W:World,w.grownBy W none→W.frozen? ⟨rb,1,none⟩=false):=(fun W hg=>by have hb2:=(hg.block rb hrl (by simp)).trans hb;simp[World.frozen?,hb2])
  clear hb;generalize all.length=L at *;have hlt:decide (((L-at_:Nat):Int)<(n:Int))=false:=by simp;omega
  go_enter Tryz.func214,Tryz.ntmps214
  go_wp2_with (first
   | (go_at_call 224;refine HL.out.mono ?_;rintro e w1 ⟨rfl,hg⟩;have d0:=hg.cell c0 (by simp);have d1:=hg.cell c1 (by simp);have z1:=HZ.out _ hg;have HG:=zd hg;clear hg c0 c1 y1)
   | (go_at_call 223;refine(HBad.out _ _ (HH.out.kept HG.out)).mono ?_;rintro e w2 ⟨rfl,h5⟩;obtain rfl:w1=w2:=h5.symm))
  go_region
  all_goals go_wp2
  ·go_ret
   have hq:=HX.out w1 p HG.out (by omega)
   have h0:n=0:=by omega
   refine⟨hq.1,⟨_,rfl,?_⟩,?_⟩
   ·have:=hq.2.1;rw[h0] at this ⊢;exact this
   ·have:=hq.2.2;rw[h0] at this ⊢;exact this
  ·go_ret
   have hq:=HX.out w1 (p.map (fun x=>x.add at_)) HG.out (fun _=>rfl)
   exact⟨hq.1,⟨_,rfl,hq.2.1⟩,hq.2.2⟩
 ·refine Calls.mono (R:=fun e w'=>zq (fun k=>k=rb) w w'∧(e = .returned (.slice none 0 0)∧Rdr B w' rb all at_ true)) ?_ (fun e w' h=>by unfold us;rw[if_neg hok];exact h)
  have hl:=h.len;have HK:Hid (∀W,w.grownBy W none→Rdr B W rb all at_ bad):=(fun W hg=>h.kept hg)
  clear h;generalize all.length=L at *
  cases bad
  ·have hlt2:L-at_<n:=by simp at hok;omega
   clear hok
   go_enter Tryz.func214,Tryz.ntmps214
   go_wp2_with (first
    | (go_at_call 224;refine HL.out.mono ?_;rintro e w1 ⟨rfl,hg⟩;have HG:=zd hg;clear hg)
    | (go_at_call 248;refine(HF.out _ HG.out).mono ?_;rintro e w2 ⟨rfl,hr,ht⟩;have HR:=zd hr;have HT:=zd ht;clear hr ht)
    | (go_at_call 223;refine(HBad.out _ _ HR.out).mono ?_;rintro e w3 ⟨rfl,h5⟩;obtain rfl:w2=w3:=h5.symm))
   go_ret
   exact⟨HT.out,rfl,HR.out⟩
  ·clear hok
   rcases Nat.eq_zero_or_pos n with h0|h0
   ·subst h0
    go_enter Tryz.func214,Tryz.ntmps214
    go_wp2_with (first
     | (go_at_call 224;refine HL.out.mono ?_;rintro e w1 ⟨rfl,hg⟩;have HG:=zd hg;clear hg)
     | (go_at_call 223;refine(HBad.out _ _ (HK.out _ HG.out)).mono ?_;rintro e w3 ⟨rfl,h5⟩;obtain rfl:w1=w3:=h5.symm))
    go_ret
    exact⟨vc HG.out (zq.refl _ _),rfl,HK.out _ HG.out⟩
   ·go_enter Tryz.func214,Tryz.ntmps214
    go_wp2_with (first
     | (go_at_call 224;refine HL.out.mono ?_;rintro e w1 ⟨rfl,hg⟩;have HG:=zd hg;clear hg)
     | (go_at_call 248;refine(HF.out _ HG.out).mono ?_;rintro e w2 ⟨rfl,hr,ht⟩;have HR:=zd hr;have HT:=zd ht;clear hr ht)
     | (go_at_call 223;refine(HBad.out _ _ HR.out).mono ?_;rintro e w3 ⟨rfl,h5⟩;obtain rfl:w2=w3:=h5.symm))
    go_ret
    exact⟨HT.out,rfl,HR.out⟩
set_option maxRecDepth 100000 in
theorem zc6 (W:World):Calls Tryz.prog 97 #[.slice none 0 0] W fun e w'=>e = .returned (.slice none 0 0)∧w'=W:=by
 go_enter Tryz.func97,Tryz.ntmps97
 go_wp2
 go_ret
 exact⟨rfl,rfl⟩
set_option maxRecDepth 100000 in
theorem zgj (h:Rdr B w rb all at_ bad) (hw:B≤w.heap.size) (n:Nat) (hn:n≤4294967296) :
  Calls Tryz.prog 167 #[.pointer (some ⟨rb,0,none⟩),.int .i64 n] w (us B w rb all at_ bad n (fun v w' l=>w'.ownsRow w.heap.size 5 1 v l.length (zi l)) (.slice none 0 0)):=by
 have HC:=zd (Qj h n hn);have hl:=h.len;clear h
 by_cases hok:bad=false∧n≤all.length-at_
 ·refine Calls.mono (R:=fun e w'=>zq (fun k=>k=rb) w w'∧((∃v,e = .returned v∧w'.ownsRow w.heap.size 5 1 v ((all.drop at_).take n).length (zi ((all.drop at_).take n)))∧Rdr B w' rb all (at_+n) false)) ?_ (fun e w' h=>by unfold us;rw[if_pos hok];exact h)
  have HC2:Hid (Calls Tryz.prog 214 #[.pointer (some ⟨rb,0,none⟩),.int .i64 n] w fun e w'=>zq (fun k=>k=rb) w w'∧((∃v,e = .returned v∧Xk B w' v ((all.drop at_).take n))∧Rdr B w' rb all (at_+n) false)):=(HC.out.mono fun e w' h=>by unfold us at h;rw[if_pos hok] at h;exact h)
  have hl2:((all.drop at_).take n).length≤100000000:=by rw[List.length_take,List.length_drop];omega
  generalize (all.drop at_).take n=xs at *;clear HC hok;have hlw:∀w1:World,zq (fun k=>k=rb) w w1→w.heap.size≤w1.heap.size:=fun w1 h=>h.size
  have HLW:=zd hlw;clear hlw
  go_enter Tryz.func167,Tryz.ntmps167
  go_wp2_with (first
   | (go_at_call 214;refine HC2.out.mono ?_;rintro e w1 ⟨ht,⟨v,rfl,hv⟩,hr⟩;have HT:=zd ht;have HR:=zd hr;have HV:=zd hv;clear ht hr hv)
   | (go_at_call 97;refine(jp HV.out.raw hl2 (fun e=>HV.out.raw.nil e)).mono ?_;rintro e w2 ⟨v2,rfl,ho,hg⟩;have HO:=zd (Ye ho (HLW.out _ HT.out));have HG:=zd hg;clear ho hg))
  go_ret
  exact⟨HT.out.trans (vc HG.out (zq.refl _ _)),⟨_,rfl,HO.out⟩,HR.out.kept HG.out⟩
 ·refine Calls.mono (R:=fun e w'=>zq (fun k=>k=rb) w w'∧(e = .returned (.slice none 0 0)∧Rdr B w' rb all at_ true)) ?_ (fun e w' h=>by unfold us;rw[if_neg hok];exact h)
  have HC2:Hid (Calls Tryz.prog 214 #[.pointer (some ⟨rb,0,none⟩),.int .i64 n] w fun e w'=>zq (fun k=>k=rb) w w'∧(e = .returned (.slice none 0 0)∧Rdr B w' rb all at_ true)):=(HC.out.mono fun e w' h=>by unfold us at h;rw[if_neg hok] at h;exact h)
  clear HC hok
  go_enter Tryz.func167,Tryz.ntmps167
  go_wp2_with (first
   | (go_at_call 214;refine HC2.out.mono ?_;rintro e w1 ⟨ht,rfl,hr⟩;have HT:=zd ht;have HR:=zd hr;clear ht hr)
   | (go_at_call 97;refine(zc6 _).mono ?_;rintro e w2 ⟨rfl,h5⟩;obtain rfl:w1=w2:=h5.symm))
  go_ret
  exact⟨HT.out,rfl,HR.out⟩
set_option maxRecDepth 100000 in
theorem Xi {v:Value} {l:List Int} (h:yc w v l) (hl:l.length≤1000000) (hn:v = .slice none 0 0→l = []) :
  Calls Tryz.prog 163 #[v] w fun e w'=>∃rb,e = .returned (.pointer (some ⟨rb,0,none⟩))∧Rdr rb w' rb l 0 false∧w.grownBy w' none∧w.heap.size≤rb:=by
 have HC:=zd (jp h (by omega) hn)
 clear h hn
 go_enter Tryz.func163,Tryz.ntmps163
 go_wp2_with (go_at_call 97;refine HC.out.mono ?_;rintro e w1 ⟨v1,rfl,ho,hg⟩;obtain⟨p1,c1,rfl⟩:=qw ho;have HO:=zd ho;have HG:=zd hg;clear ho hg)
 go_ret
 refine⟨w1.heap.size,rfl,⟨Nat.le_refl _,hl,Nat.zero_le _,_,heap_alloc_new _ _,?_⟩,zu HG.out _,HG.out.size⟩;have hk:=HO.out.kept (zu (zm w1) (.cells #[.slice p1 l.length c1,.int .i64 0,.bool false] 306)) (by
  rcases h:Value.ownBlock (.slice p1 l.length c1) with _|k
  ·exact Or.inl rfl
  ·exact Or.inr (by simp))
 obtain⟨p,cap,e1,hc⟩:=(qg hk).ex
 injection e1 with e4 _ e6
 subst e4 e6
 rcases HO.out.2 with ⟨e1,h0⟩|⟨b,c,cur,e1,h1,hb,r1,r2,r3,r4⟩
 ·refine⟨p1,c1,rfl,?_,?_,Or.inl (List.eq_nil_of_length_eq_zero h0)⟩ <;> (injection e1 with _ _ e3;omega)
 ·injection e1 with e4 e5 e6
  subst e4 e6;refine⟨_,_,rfl,r1,by unfold maxLen at r2;omega,?_⟩
  rcases hc with hc|⟨a,ha,hc⟩
  ·exact Or.inl hc
  ·refine Or.inr ⟨a,ha,?_,hc⟩
   cases ha
   exact(Array.getElem?_eq_some_iff.1 hb).1
end
end Go.Proofs.YtbcbhlfjgobejaaGreat
