/- Keys of rows: how they lie, how they are told apart, how they are ordered (cmp.Compare, cmp.Or, Open$2): the walks. Conditions: none, or as the theorems say. -/
import Derived.Test.YtbcbhlfjgobejaaGreatI19
import Derived.Test.YtbcbhlfjgobejaaGreatI20
import Derived.Shelf.SlSortCmp.WholeK
import Derived.Deep.RegionHeld3
import Derived.Test.YtbcbhlfjgobejaaGreatI17
import Derived.Test.YtbcbhlfjgobejaaGreatI1
import Derived.OrdersIn
import Derived.OwnWalkIn
import Derived.StillTailTactics
set_option linter.unusedSimpArgs false
set_option linter.unusedVariables false
namespace Go.Proofs.YtbcbhlfjgobejaaGreat
set_option maxHeartbeats 200000000
open Go.RowKit Go.Sf Go.Shelf Go.Sort Go.Lib
def je (k:zx):Value:=.agg #[.int .i64 k.k,.int .i64 (k.count:Int)]
def yz (k:zx):List Value:=[.int .i64 k.k,.int .i64 (k.count:Int)]
def Xz (pb:Nat):Value:=.pointer (some ⟨pb,0,none⟩)
theorem zfe (a b:zx) (h:je a=je b):a=b:=by
 cases a;cases b;simp[je] at h;obtain⟨h1,h2⟩:=h;subst h1;congr 1;omega
theorem checkK (em:Bool) (k:zx) (w:World):(Instr.checkKey em 10000 142 (je k)).run Tryz.prog w = .ok () w:=by
 cases k;kernel_rfl
theorem equalK (a b:zx) (w:World):(Op.equal 142 (je a) (je b)).run Tryz.prog w = .ok (decide (a=b)) w:=by
 obtain⟨k,n⟩:=a;obtain⟨k',n'⟩:=b;have e0:((n:Int) == (n':Int))=decide (n=n'):=by
  by_cases e:n=n'
  ·simp[e]
  ·simp[e];omega
 simp[Op.equal,Op.maxDepth,je,go_sem,e0]
 by_cases e1:k=k' <;> by_cases e2:n=n' <;> simp[e1,e2]
theorem sameK (k:zx):Instr.sameBits 10000 (je k) (je k)=true:=by
 cases k;simp[je,Instr.sameBits]
theorem keK:Qf Tryz.prog 142 je:=zdh (by kernel_rfl) checkK sameK zfe equalK
theorem infoK:(Tryz.prog.info? 142).map (fun i=>(i.zero,i.size,i.bytes))=some (some (.agg #[.int .i64 0,.int .i64 0]),2,16):=by kernel_rfl
def uf (a b:Int):Int:=if a<b then -1 else if b<a then 1 else 0
def ordK (a b:zx):Int:=if uf a.k b.k=0 then uf (a.count:Int) (b.count:Int) else uf a.k b.k
theorem zbk (a b:Int) (W:World):Calls Tryz.prog 91 #[.int .i64 a,.int .i64 b] W fun e w'=>e = .returned (.int .i64 (uf a b))∧w'=W:=by
 by_cases h1:a<b
 ·have hc:uf a b = -1:=by unfold uf;rw[if_pos h1]
  rw[hc]
  go_enter Tryz.func91,Tryz.ntmps91
  go_wp2
  go_ret
  exact⟨rfl,rfl⟩
 ·by_cases h2:b<a
  ·have hc:uf a b=1:=by unfold uf;rw[if_neg h1,if_pos h2]
   rw[hc]
   go_enter Tryz.func91,Tryz.ntmps91
   go_wp2
   go_ret
   exact⟨rfl,rfl⟩
  ·have hc:uf a b=0:=by unfold uf;rw[if_neg h1,if_neg h2]
   rw[hc]
   go_enter Tryz.func91,Tryz.ntmps91
   go_wp2
   go_ret
   exact⟨rfl,rfl⟩
theorem zfd (a b:Int) (W:World):Calls Tryz.prog 92 #[.int .i64 a,.int .i64 b] W fun e w'=>e = .returned (.int .i64 (uf a b))∧w'=W:=by
 by_cases h1:a<b
 ·have hc:uf a b = -1:=by unfold uf;rw[if_pos h1]
  rw[hc]
  go_enter Tryz.func92,Tryz.ntmps92
  go_wp2
  go_ret
  exact⟨rfl,rfl⟩
 ·by_cases h2:b<a
  ·have hc:uf a b=1:=by unfold uf;rw[if_neg h1,if_pos h2]
   rw[hc]
   go_enter Tryz.func92,Tryz.ntmps92
   go_wp2
   go_ret
   exact⟨rfl,rfl⟩
  ·have hc:uf a b=0:=by unfold uf;rw[if_neg h1,if_neg h2]
   rw[hc]
   go_enter Tryz.func92,Tryz.ntmps92
   go_wp2
   go_ret
   exact⟨rfl,rfl⟩
theorem zmu (x y:Int) (g:Nat) (W:World) (h0:W.cell? ⟨g,0,none⟩=some (.int .i64 x)) (h1:W.cell? ⟨g,1,none⟩=some (.int .i64 y)):Calls Tryz.prog 90 #[.slice (some ⟨g,0,none⟩) 2 2] W fun e w'=>e = .returned (.int .i64 (if x=0 then y else x))∧w'=W:=by
 obtain⟨r,hr⟩:∃r,r=if x=0 then y else x:=⟨_,rfl⟩
 rw[←hr]
 go_enter Tryz.func90,Tryz.ntmps90
 go_wp2
 go_loopw [5,8] (fun _ i wr=>wr=W∧(i = .int .i64 0∨(i = .int .i64 1∧x=0)∨(i = .int .i64 2∧x=0∧y=0))) (fun _ i _=>2-(intOf i).toNat)
 case atStart=>exact⟨rfl,Or.inl rfl⟩
 case round=>
  obtain⟨rfl,rfl|⟨rfl,hx⟩|⟨rfl,hx,hy⟩⟩:=hrel
  ·by_cases hx:x=0
   ·subst hx
    go_wp2
    go_roundw
    case rel=>simp
    case measure=>simp[intOf]
   ·rw[if_neg hx] at hr
    subst hr;go_wp2
    go_ret
    exact⟨rfl,rfl⟩
  ·subst hx
   rw[if_pos rfl] at hr;subst hr
   by_cases hy:r=0
   ·subst hy
    go_wp2
    go_roundw
    case rel=>simp
    case measure=>simp[intOf]
   ·go_wp2
    go_ret
    exact⟨rfl,rfl⟩
  ·subst hx;subst hy
   rw[if_pos rfl] at hr;subst hr;go_wp2
   go_ret
   exact⟨rfl,rfl⟩
set_option maxRecDepth 100000 in
theorem zh1 (a b:zx) (W:World):Calls Tryz.prog 89 #[je a,je b] W fun e w'=>e = .returned (.int .i64 (ordK a b))∧∃q os',w'=grow (W.drewN q) os':=by
 obtain⟨ak,av⟩:=a;obtain⟨bk,bv⟩:=b;simp only[je,ordK];have HB:=fun W=>zbk ak bk W
 have HI:=fun W=>zfd (av:Int) (bv:Int) W
 have HO:=fun g W=>zmu (uf ak bk) (uf (av:Int) (bv:Int)) g W
 generalize uf ak bk=x at *;generalize uf (av:Int) (bv:Int)=y at *;generalize (if x=0 then y else x)=r at *
 go_enter Tryz.func89,Tryz.ntmps89
 go_wp2;have c0:((W.alloc (.cells #[.int .i64 ak,.int .i64 (av:Int)] 142)).alloc (.cells #[.int .i64 bk,.int .i64 (bv:Int)] 142)).cell? ⟨W.heap.size,0,none⟩=some (.int .i64 ak):=by simp[go_sem]
 have c1:((W.alloc (.cells #[.int .i64 ak,.int .i64 (av:Int)] 142)).alloc (.cells #[.int .i64 bk,.int .i64 (bv:Int)] 142)).cell? ⟨W.heap.size,1,none⟩=some (.int .i64 (av:Int)):=by simp[go_sem]
 have c2:((W.alloc (.cells #[.int .i64 ak,.int .i64 (av:Int)] 142)).alloc (.cells #[.int .i64 bk,.int .i64 (bv:Int)] 142)).cell? ⟨W.heap.size+1,0,none⟩=some (.int .i64 bk):=by simp[go_sem]
 have c3:((W.alloc (.cells #[.int .i64 ak,.int .i64 (av:Int)] 142)).alloc (.cells #[.int .i64 bk,.int .i64 (bv:Int)] 142)).cell? ⟨W.heap.size+1,1,none⟩=some (.int .i64 (bv:Int)):=by simp[go_sem]
 have hg:(W.alloc (.cells #[.int .i64 ak,.int .i64 (av:Int)] 142)).alloc (.cells #[.int .i64 bk,.int .i64 (bv:Int)] 142)=grow (W.drewN 0) #[.cells #[.int .i64 ak,.int .i64 (av:Int)] 142,.cells #[.int .i64 bk,.int .i64 (bv:Int)] 142]:=by rw[alloc_eq_grow,alloc_eq_grow,grow_grow];rfl
 generalize (W.alloc (.cells #[.int .i64 ak,.int .i64 (av:Int)] 142)).alloc (.cells #[.int .i64 bk,.int .i64 (bv:Int)] 142)=W2 at *;have HG:=zd hg;clear hg
 go_region_held3 (fun w'=>w'.cell? ⟨W.heap.size,0,none⟩=some (.int .i64 ak)∧w'.cell? ⟨W.heap.size,1,none⟩=some (.int .i64 (av:Int))∧w'.cell? ⟨W.heap.size+1,0,none⟩=some (.int .i64 bk)∧w'.cell? ⟨W.heap.size+1,1,none⟩=some (.int .i64 (bv:Int))) (go_keep)
  (first
  | (go_at_call 91;refine(HB _).mono ?_;rintro e w3 ⟨rfl,rfl⟩)
  | (go_at_call 92;refine(HI _).mono ?_;rintro e w3 ⟨rfl,rfl⟩)
  | (go_at_call 90;refine(HO _ _ (by simp[go_sem]) (by simp[go_sem])).mono ?_;rintro e w3 ⟨rfl,rfl⟩))
 all_goals
  go_wp2
  go_ret
  exact⟨rfl,1,_,by rw[HG.out,alloc_eq_grow,grow_grow];rfl⟩
open Go.Sf
open Classical in
noncomputable def opnD (d:Dk):Nat→Dk × Int × Bool
 | 0=>(d,0,false)
 | n+1=>if (opnD d n).2.1≠0 then opnD d n
   else if (saidP ya (bk d.now n)).isSome=true∨bk d.now n=zz then opnD d n
   else ((opnD d n).1.written n [],(opnD d n).1.writeV n [],true)
theorem Uf {d:Dk} {n:Nat} (h:(opnD d n).2.1≠0):opnD d (n+1)=opnD d n:=by
 conv=>lhs;unfold opnD
 rw[if_pos h]
theorem jm {d:Dk} {n:Nat} (h:(opnD d n).2.1=0) (hc:(saidP ya (bk d.now n)).isSome=true∨bk d.now n=zz):opnD d (n+1)=opnD d n:=by
 conv=>lhs;unfold opnD
 rw[if_neg (by simp[h]),if_pos hc]
theorem Yk {d:Dk} {n:Nat} (h:(opnD d n).2.1=0) (h1:(saidP ya (bk d.now n)).isSome=false) (h2:bk d.now n≠zz):opnD d (n+1)=((opnD d n).1.written n [],(opnD d n).1.writeV n [],true):=by
 conv=>lhs;unfold opnD
 rw[if_neg (by simp[h]),if_neg (by simp[h1,h2])]
theorem zdn {d:Dk} {n:Nat} (h:(opnD d n).2.1≠0):∀m,n≤m→opnD d m=opnD d n
 | 0,hm=>by
  obtain rfl:n=0:=by omega
  rfl
 | m+1,hm=>by
  rcases Nat.lt_or_ge m n with h1|h1
  ·obtain rfl:n=m+1:=by omega
   rfl
  ·have ih:=zdn h m h1
   rw[Uf (by rw[ih];exact h),ih]
theorem zf2:jg []=zz:=rfl
structure OpnOk (d:Dk) (n:Nat):Prop where
 nn:(opnD d n).1.n=d.n
 off:(opnD d n).1.off=false
 late:(opnD d n).1.late.length≤d.late.length+n
 rest:∀i,n≤i→bk (opnD d n).1.now i=bk d.now i
 met:∀i,i<n→bk (opnD d n).1.now i=scrub ya (bk d.now i)
 steps:(opnD d n).1.stepB=true∨(opnD d n).1.stepB=false
theorem Jh {d:Dk} {i:Nat} (hoff:d.off=false) (hi:i<d.n):d.mayE i 0=0∧d.writeV i []=(if d.stepB=true then 0 else 180)∧d.written i []=(if d.stepB=true then (d.lay i zz).went else (d.lay i zz).gone):=by
 have hm:d.mayE i 0=0:=by
  unfold Dk.mayE;rw[if_neg (by simp[hoff]),if_neg (by omega),if_neg (by omega)]
 refine⟨hm,?_,?_⟩
 ·unfold Dk.writeV
  simp[hm]
 ·unfold Dk.written
  simp[hm,zf2]
theorem Vr {d:Dk} (hoff:d.off=false):∀n,n≤d.n→(opnD d n).2.1=0→OpnOk d n
 | 0,_,_=>⟨rfl,hoff,by simp[opnD],fun i _=>rfl,fun i hi=>by omega,by cases(opnD d 0).1.stepB <;> simp⟩
 | n+1,hn,h=>by
  have h0:(opnD d n).2.1=0:=by
   apply Classical.byContradiction
   intro hne;rw[Uf hne] at h
   exact hne h
  have ih:=Vr hoff n (by omega) h0
  by_cases hc:(saidP ya (bk d.now n)).isSome=true∨bk d.now n=zz
  ·have e:=jm h0 hc
   refine⟨by rw[e];exact ih.nn,by rw[e];exact ih.off,by rw[e];have:=ih.late;omega,fun i hi=>by rw[e];exact ih.rest i (by omega),fun i hi=>?_,by cases(opnD d (n+1)).1.stepB <;> simp⟩
   rw[e]
   rcases Nat.lt_or_ge i n with h1|h1
   ·exact ih.met i h1
   ·obtain rfl:i=n:=by omega
    rw[ih.rest i (Nat.le_refl _)];refine(qt ?_).symm
    rcases hc with hc|hc
    ·exact Or.inr (Option.isSome_iff_exists.1 hc)
    ·exact Or.inl hc
  ·have hc1:(saidP ya (bk d.now n)).isSome=false:=by
    cases e:(saidP ya (bk d.now n)).isSome
    ·rfl
    ·exact absurd (Or.inl e) hc
   have hc2:bk d.now n≠zz:=fun e=>hc (Or.inr e)
   have e:=Yk h0 hc1 hc2;obtain⟨z1,z2,z3⟩:=Jh ih.off (i:=n) (by rw[ih.nn];omega)
   rw[e] at h;simp only at h;have hs:(opnD d n).1.stepB=true:=by
    rw[z2] at h
    cases hb:(opnD d n).1.stepB
    ·rw[hb] at h;simp at h
    ·rfl
   rw[if_pos hs] at z3;refine⟨?_,?_,?_,fun i hi=>?_,fun i hi=>?_,by cases(opnD d (n+1)).1.stepB <;> simp⟩
   ·rw[e];simp only;rw[z3];exact ih.nn
   ·rw[e];simp only;rw[z3];exact ih.off
   ·rw[e];simp only;rw[z3];have:=ih.late;simp[Dk.went,Dk.lay];omega
   ·rw[e];simp only;rw[z3]
    show bk (yj (opnD d n).1.now (n:Int) zz) i=_
    rw[Yb _ _ (by omega)]
    exact ih.rest i (by omega)
   ·rw[e];simp only;rw[z3]
    show bk (yj (opnD d n).1.now (n:Int) zz) i=_
    rcases Nat.lt_or_ge i n with h1|h1
    ·rw[Yb _ _ (by omega)]
     exact ih.met i h1
    ·obtain rfl:i=n:=by omega
     rw[Yn];unfold scrub;rw[if_neg (by rw[hc1];simp)]
section
variable {C : List Int → Nat} {f : Nat → List Int} {N : Nat}
theorem zey (hf:∀i,i<N→BL (f i)) {K:zx} {r:xm} (hr:zw (scanN C f N).rows K=some r) (hw:r.whole=true):BL (ud r)∧(ud r).length≤131072∧xp r≠[]∧(∀i∈xp r,i<N)∧r.cells.length≤570∧(∀c∈r.cells,c.2.length≤230)∧1≤K.k∧K.k≤4611686018427387904:=by
 have hs:=jy (C:=C) f N;have hro:=hs.row K r hr;obtain⟨c1,c2,c3⟩:=hs.c K r hr;have hall:=(zae hro).1 hw;have hcell:∀j,j<K.count→∃i b,r.cells[j]? = some (i,b)∧i<N∧saidP C (f i)=some ⟨K.k,j,K.count,b⟩:=fun j hj=>by
  obtain⟨⟨i,b⟩,hx⟩:=Option.isSome_iff_exists.1 (hall j hj);obtain⟨h1,h2⟩:=Vl hx
  exact⟨i,b,(hro.yes j hj _ hx).2,h1,h2⟩
 have hmem:∀c∈r.cells,∃j,j<K.count∧r.cells[j]? = some c∧c.1<N∧saidP C (f c.1)=some ⟨K.k,j,K.count,c.2⟩:=fun c hc=>by
  obtain⟨j,hj⟩:=List.getElem?_of_mem hc;have hjl:j<K.count:=by rw[←hro.l1];exact(List.getElem?_eq_some_iff.1 hj).1
  obtain⟨i,b,h1,h2,h3⟩:=hcell j hjl;rw[hj] at h1
  cases h1
  exact⟨j,hjl,hj,h2,h3⟩
 have hlen:∀m,m≤K.count→((r.cells.take m).flatMap (·.2)).length≤m*230∧(m<K.count→((r.cells.take m).flatMap (·.2)).length=m*230)
   ∧(m=K.count→((r.cells.take m).flatMap (·.2)).length≤131072):=fun m=>by
  induction m with
  | zero=>intro _;simp
  | succ m ih=>
   intro hm;obtain⟨g1,g2,g3⟩:=ih (by omega)
   obtain⟨i,b,h1,h2,h3⟩:=hcell m (by omega)
   have hp:=(vw h3).1;have hl:=hp.l1;simp only at hl;have e:((r.cells.take (m+1)).flatMap (·.2)).length=((r.cells.take m).flatMap (·.2)).length+b.length:=by
    obtain⟨q1,q2⟩:=List.getElem?_eq_some_iff.1 h1;rw[List.take_succ_eq_append_getElem q1,q2];simp
   rw[e];have g2:=g2 (by omega)
   refine⟨by omega,fun hlt=>?_,fun heq=>?_⟩
   ·have:=hp.full (by show m+1≠K.count;omega)
    simp only at this;omega
   ·have:=(hp.last (by show m+1=K.count;omega)).1
    simp only at this;omega
 have hfull:(r.cells.take K.count)=r.cells:=List.take_of_length_le (by rw[hro.l1];exact Nat.le_refl _)
 refine⟨fun x hx=>?_,?_,fun e=>?_,fun i hi=>?_,by rw[hro.l1];exact c2,fun c hc=>?_,c3,?_⟩
 ·obtain⟨c,hc,hxc⟩:=List.mem_flatMap.1 hx
  obtain⟨j,hj,_,hN,hsd⟩:=hmem c hc;have he:=(vw hsd).2;have hb:=hf _ hN;rw[←he] at hb;refine hb x ?_;unfold vp jc hdP;simp only[List.mem_append]
  exact Or.inl (Or.inl (Or.inl (Or.inr hxc)))
 ·have:=(hlen K.count (Nat.le_refl _)).2.2 rfl
  rw[hfull] at this
  exact this
 ·have:r.cells.length=0:=by simpa[xp] using e
  rw[hro.l1] at this;omega
 ·obtain⟨c,hc,rfl⟩:=List.mem_map.1 hi
  obtain⟨_,_,_,hN,_⟩:=hmem c hc
  exact hN
 ·obtain⟨_,_,_,_,hsd⟩:=hmem c hc
  exact(vw hsd).1.l1
 ·obtain⟨i,b,_,_,h3⟩:=hcell 0 (by omega)
  exact(vw h3).1.k2
theorem zaq {M:Int} (hM:4611686018427387905≤M) (n:Nat):(scanN C f n).next≤M:=by
 induction n with
 | zero=>show(1:Int)≤M;omega
 | succ n ih=>
  unfold scanN scanStep
  cases e:saidP C (f n) with
  | none=>exact ih
  | some p=>
   have:=(vw e).1.k2
   show max _ _≤M
   omega
end
open Go.RowKit Go.Sf
def inL (x:Nat × Nat × Nat) (k:Nat):Prop:=k=x.1∨k=x.2.1∨k=x.2.2
structure qh (P:Nat→Prop) (base:Nat) (W:World) (mr:Nat) (loc:zx→Nat × Nat × Nat) (rp:Nat→Prop) (rows:List (zx × xm)):Prop where
 map:yg W mr je Xz (rows.map fun q=>(q.1,(loc q.1).1))
 row:∀K r,zw rows K=some r→∃cs,Zq W rp (loc K).1 (loc K).2.1 (loc K).2.2 cs r
 ne:∀K r,zw rows K=some r→(loc K).1≠(loc K).2.1∧(loc K).1≠(loc K).2.2∧(loc K).2.1≠(loc K).2.2
 apart:∀K r K' r',zw rows K=some r→zw rows K'=some r'→K≠K'→∀k,inL (loc K) k→¬inL (loc K') k
 free:∀K r,zw rows K=some r→∀k,inL (loc K) k→¬rp k∧P k∧base≤k
 parts:∀k,rp k→P k∧base≤k
 mine:P mr
 low:mr<base
section
variable {P : Nat → Prop} {base : Nat} {W W' : World} {mr : Nat} {loc : zx → Nat × Nat × Nat} {rp : Nat → Prop} {rows : List (zx × xm)}
theorem qh.nodup (h:qh P base W mr loc rp rows):(rows.map (·.1)).Nodup:=by
 have:=h.map.nodup;simpa[List.map_map,Function.comp_def] using this
theorem qh.turn (h:qh P base W mr loc rp rows) (hs:∀k,P k→(k=mr∨base≤k)→W'.heap[k]? = W.heap[k]?):qh P base W' mr loc rp rows where
 map:=h.map.same (hs mr h.mine (Or.inl rfl))
 row:=fun K r hr=>by
  obtain⟨cs,hc⟩:=h.row K r hr;have keep:∀k,inL (loc K) k→W'.heap[k]? = W.heap[k]?:=fun k hk=>hs k (h.free K r hr k hk).2.1 (Or.inr (h.free K r hr k hk).2.2)
  exact⟨cs,hc.kept (keep _ (Or.inl rfl)) (keep _ (Or.inr (Or.inl rfl))) (keep _ (Or.inr (Or.inr rfl))) (fun k hk=>hs k (h.parts k hk).1 (Or.inr (h.parts k hk).2))⟩
 ne:=h.ne
 apart:=h.apart
 free:=h.free
 parts:=h.parts
 mine:=h.mine
 low:=h.low
theorem qh.more (h:qh P base W mr loc rp rows) {P':Nat→Prop} (hp:∀k,P k→P' k):qh P' base W mr loc rp rows:=
 ⟨h.map,h.row,h.ne,h.apart,fun K r hr k hk=>⟨(h.free K r hr k hk).1,hp k (h.free K r hr k hk).2.1,(h.free K r hr k hk).2.2⟩,fun k hk=>⟨hp k (h.parts k hk).1,(h.parts k hk).2⟩,hp _ h.mine,h.low⟩
theorem qh.lt (h:qh P base W mr loc rp rows) {K:zx} {r:xm} (hr:zw rows K=some r) {k:Nat} (hk:inL (loc K) k):k<W.heap.size:=by
 obtain⟨cs,hc⟩:=h.row K r hr;obtain⟨l1,l2,l3⟩:=hc.lt
 rcases hk with rfl|rfl|rfl <;> assumption
theorem Zq.widen {rp':Nat→Prop} {pb ab tb:Nat} {cs:List (Nat × Value × List Int)} {r:xm} (h:Zq W rp pb ab tb cs r) (hs:∀k,rp k→rp' k):Zq W rp' pb ab tb cs r:=
 ⟨h.box,h.at_,h.there,h.cells,fun c hc=>(h.rows c hc).mono hs,h.len,h.few⟩
theorem qh.part (h:qh P base W mr loc rp rows) {rp':Nat→Prop} (h1:∀k,rp k→rp' k) (h2:∀k,rp' k→rp k∨(W.heap.size≤k∧P k)) (hb:base≤W.heap.size):qh P base W mr loc rp' rows where
 map:=h.map
 row:=fun K r hr=>by
  obtain⟨cs,hc⟩:=h.row K r hr
  exact⟨cs,hc.widen h1⟩
 ne:=h.ne
 apart:=h.apart
 free:=fun K r hr k hk=>⟨fun e=>by
  rcases h2 k e with e|e
  ·exact(h.free K r hr k hk).1 e
  ·have:=h.lt hr hk;omega,(h.free K r hr k hk).2⟩
 parts:=fun k hk=>by
  rcases h2 k hk with e|e
  ·exact h.parts k e
  ·exact⟨e.2,by omega⟩
 mine:=h.mine
 low:=h.low
theorem zl9 {f g:zx→Nat × Nat × Nat} {rows:List (zx × xm)} (h:∀q∈rows,f q.1=g q.1):rows.map (fun q=>(q.1,(f q.1).1))=rows.map (fun q=>(q.1,(g q.1).1)):=
 List.map_congr_left fun q hq=>by rw[h q hq]
theorem qh.add (h:qh P base W mr loc rp rows) {K:zx} (hn:zw rows K=none) {W2:World} {pb ab tb:Nat} {cs:List (Nat × Value × List Int)} {r:xm} (hg:W.grownBy W2 none) (hr:Zq W2 (fun _=>False) pb ab tb cs r)
  (n1:pb≠ab∧pb≠tb∧ab≠tb) (hl:W.heap.size≤pb∧W.heap.size≤ab∧W.heap.size≤tb) (hP:P pb∧P ab∧P tb) (hlt:∀k,rp k→k<W.heap.size) (hb:base≤W.heap.size)
  (hm:yg W' mr je Xz (yj (rows.map fun q=>(q.1,(loc q.1).1)) K pb)) (hg2:W2.grownBy W' (some mr)) (hml:mr<W.heap.size):qh P base W' mr (fun K'=>if K'=K then (pb,ab,tb) else loc K') rp (rows ++ [(K,r)]):=by
 have hne:∀q∈rows,q.1≠K:=qj.1 hn;have hne2:∀q∈rows.map (fun q=>(q.1,(loc q.1).1)),q.1≠K:=fun q hq=>by
  obtain⟨q0,hq0,rfl⟩:=List.mem_map.1 hq
  exact hne q0 hq0
 have hput:rows ++ [(K,r)]=yj rows K r:=(Zn hne r).symm;have hs2:∀k,k<W.heap.size→k≠mr→W'.heap[k]? = W.heap[k]?:=fun k hk hkm=>(hg2.block k (Nat.lt_of_lt_of_le hk hg.size) (fun e=>hkm (by injection e))).trans (hg.block k hk (by simp))
 have hs3:∀k,W.heap.size≤k→k<W2.heap.size→W'.heap[k]? = W2.heap[k]?:=fun k hk hk2=>hg2.block k hk2 (fun e=>by injection e with e;omega)
 obtain⟨l1,l2,l3⟩:=hr.lt;have hK:∀K' r',zw (rows ++ [(K,r)]) K'=some r'→(K'=K∧r'=r)∨(K'≠K∧zw rows K'=some r'):=fun K' r' h'=>by
  rw[hput] at h'
  by_cases e:K'=K
  ·subst e
   rw[xt] at h'
   cases h'
   exact Or.inl ⟨rfl,rfl⟩
  ·rw[vq _ _ e] at h'
   exact Or.inr ⟨e,h'⟩
 refine⟨?_,fun K' r' h'=>?_,fun K' r' h'=>?_,fun K1 r1 K2 r2 h1 h2 h12 k hk=>?_,fun K' r' h' k hk=>?_,h.parts,h.mine,h.low⟩
 ·rw[Zn hne2] at hm
  rw[List.map_append];have:rows.map (fun q=>(q.1,((fun K'=>if K'=K then (pb,ab,tb) else loc K') q.1).1))=rows.map (fun q=>(q.1,(loc q.1).1)):=zl9 (f:=fun K'=>if K'=K then (pb,ab,tb) else loc K') (g:=loc) fun q hq=>if_neg (hne q hq)
  rw[this];simpa using hm
 ·rcases hK K' r' h' with ⟨rfl,rfl⟩|⟨e,h''⟩
  ·simp only[if_true]
   exact⟨cs,(hr.kept (hs3 _ hl.1 l1) (hs3 _ hl.2.1 l2) (hs3 _ hl.2.2 l3) (fun k hk=>hk.elim)).widen (fun k hk=>hk.elim)⟩
  ·simp only[if_neg e]
   obtain⟨cs',hc⟩:=h.row K' r' h'';have hnm:∀k,inL (loc K') k→k≠mr:=fun k hk=>by have:=(h.free K' r' h'' k hk).2.2;have:=h.low;omega
   refine⟨cs',hc.kept (hs2 _ (h.lt h'' (Or.inl rfl)) (hnm _ (Or.inl rfl))) (hs2 _ (h.lt h'' (Or.inr (Or.inl rfl))) (hnm _ (Or.inr (Or.inl rfl)))) (hs2 _ (h.lt h'' (Or.inr (Or.inr rfl))) (hnm _ (Or.inr (Or.inr rfl)))) (fun k hk=>hs2 k (hlt k hk) ?_)⟩
   have:=(h.parts k hk).2;have:=h.low;omega
 ·rcases hK K' r' h' with ⟨rfl,rfl⟩|⟨e,h''⟩
  ·simp only[if_true];exact n1
  ·simp only[if_neg e];exact h.ne K' r' h''
 ·rcases hK K1 r1 h1 with ⟨rfl,rfl⟩|⟨e1,h1'⟩
  ·rcases hK K2 r2 h2 with ⟨rfl,rfl⟩|⟨e2,h2'⟩
   ·exact absurd rfl h12
   ·simp only[if_true] at hk
    simp only[if_neg e2];intro hk2;have:=h.lt h2' hk2
    rcases hk with rfl|rfl|rfl <;> omega
  ·rcases hK K2 r2 h2 with ⟨rfl,rfl⟩|⟨e2,h2'⟩
   ·simp only[if_neg e1] at hk
    simp only[if_true];intro hk2;have:=h.lt h1' hk
    rcases hk2 with rfl|rfl|rfl <;> omega
   ·simp only[if_neg e1] at hk
    simp only[if_neg e2]
    exact h.apart K1 r1 K2 r2 h1' h2' h12 k hk
 ·rcases hK K' r' h' with ⟨rfl,rfl⟩|⟨e,h''⟩
  ·simp only[if_true] at hk
   rcases hk with rfl|rfl|rfl
   ·exact⟨fun e=>by have:=hlt _ e;have:=hl.1;omega,hP.1,by have:=hl.1;omega⟩
   ·exact⟨fun e=>by have:=hlt _ e;have:=hl.2.1;omega,hP.2.1,by have:=hl.2.1;omega⟩
   ·exact⟨fun e=>by have:=hlt _ e;have:=hl.2.2;omega,hP.2.2,by have:=hl.2.2;omega⟩
  ·simp only[if_neg e] at hk
   exact h.free K' r' h'' k hk
theorem map_fst {rows:List (zx × xm)} (hn:(rows.map (·.1)).Nodup) {K:zx} {r:xm} (h:zw rows K=some r) (r':xm) (f:zx→Nat):(yj rows K r').map (fun q=>(q.1,f q.1))=rows.map (fun q=>(q.1,f q.1)):=by
 induction rows with
 | nil=>cases h
 | cons p t ih=>
  simp only[List.map_cons,List.nodup_cons] at hn;unfold yj
  by_cases e:p.1=K
  ·rw[if_pos e];simp[e]
  ·rw[if_neg e]
   unfold zw at h;rw[if_neg e] at h;simp only[List.map_cons];rw[ih hn.2 h]
theorem qh.set (h:qh P base W mr loc rp rows) {K:zx} {r r':xm} (hr:zw rows K=some r) {cs:List (Nat × Value × List Int)} (h':Zq W' rp (loc K).1 (loc K).2.1 (loc K).2.2 cs r') (ht:zq (fun k=>k=(loc K).2.1∨k=(loc K).2.2) W W') (hlt:∀k,rp k→k<W.heap.size) (hml:mr<W.heap.size):qh P base W' mr loc rp (yj rows K r'):=by
 have hnd:=h.nodup;have hfree:=h.free K r hr;have hK:∀K1 r1,zw (yj rows K r') K1=some r1→(K1=K∧r1=r')∨(K1≠K∧zw rows K1=some r1):=fun K1 r1 h1=>by
  by_cases e:K1=K
  ·subst e
   rw[xt] at h1
   cases h1
   exact Or.inl ⟨rfl,rfl⟩
  ·rw[vq _ _ e] at h1
   exact Or.inr ⟨e,h1⟩
 have hget:∀K1 r1,zw (yj rows K r') K1=some r1→∃r0,zw rows K1=some r0:=fun K1 r1 h1=>by
  rcases hK K1 r1 h1 with ⟨rfl,rfl⟩|⟨_,h2⟩
  ·exact⟨r,hr⟩
  ·exact⟨r1,h2⟩
 refine⟨?_,fun K1 r1 h1=>?_,fun K1 r1 h1=>?_,fun K1 r1 K2 r2 h1 h2=>?_,fun K1 r1 h1=>?_,h.parts,h.mine,h.low⟩
 ·rw[map_fst hnd hr r' (fun q=>(loc q).1)]
  refine h.map.same (ht.block mr hml (fun e=>?_))
  have hl:=h.low
  rcases e with e|e
  ·have:=(hfree _ (Or.inr (Or.inl rfl))).2.2;omega
  ·have:=(hfree _ (Or.inr (Or.inr rfl))).2.2;omega
 ·rcases hK K1 r1 h1 with ⟨rfl,rfl⟩|⟨e,h2⟩
  ·exact⟨cs,h'⟩
  ·obtain⟨cs1,hc⟩:=h.row K1 r1 h2
   have hap:=h.apart K1 r1 K r h2 hr e;have keep:∀k,inL (loc K1) k→W'.heap[k]? = W.heap[k]?:=fun k hk=>ht.block k (h.lt h2 hk) (fun e2=>hap k hk (by rcases e2 with e2|e2;exact Or.inr (Or.inl e2);exact Or.inr (Or.inr e2)))
   exact⟨cs1,hc.kept (keep _ (Or.inl rfl)) (keep _ (Or.inr (Or.inl rfl))) (keep _ (Or.inr (Or.inr rfl))) (fun k hk=>ht.block k (hlt k hk) (fun e2=>by
    rcases e2 with e2|e2
    ·exact(hfree k (Or.inr (Or.inl e2))).1 hk
    ·exact(hfree k (Or.inr (Or.inr e2))).1 hk))⟩
 ·obtain⟨r0,h0⟩:=hget K1 r1 h1
  exact h.ne K1 r0 h0
 ·obtain⟨r0,h0⟩:=hget K1 r1 h1
  obtain⟨r0',h0'⟩:=hget K2 r2 h2
  exact h.apart K1 r0 K2 r0' h0 h0'
 ·obtain⟨r0,h0⟩:=hget K1 r1 h1
  exact h.free K1 r0 h0
end
theorem zj9 {K V:Type} [DecidableEq K] (m:List (K × V)) (k:K) (v u:V):yj (yj m k v) k u=yj m k u:=by
 induction m with
 | nil=>simp[yj]
 | cons p t ih=>
  by_cases e:p.1=k
  ·simp[yj,e]
  ·simp[yj,e,ih]
end Go.Proofs.YtbcbhlfjgobejaaGreat
namespace Go.Sf
open Go.RowKit Go
variable {n l : Nat} {P : Program} {ops : Array Oper} {Q : Exit → Act → World → Prop}
def Yq (ops:Array Oper):Bool:=ops.all fun o=>match o.op with | .defer _=>false|_=>true
theorem zby {ops:Array Oper} (h:Yq ops=true) {i:Nat} {o:Oper} (ho:ops[i]? = some o):∀c,o.op≠.defer c:=fun c e=>by
 unfold Yq at h;rw[Array.all_eq_true] at h;obtain⟨hi,hh⟩:=Array.getElem?_eq_some_iff.1 ho;have:=h i hi;rw[hh,e] at this
 cases this
theorem zgi {row:String} {args:Array Value} {w:World} {R:Value→World→Prop} (h:Rows P row args w R):RowsIn (Fence.wide.inRound l) n P row args w R:=
 fun c cs _=>by
  obtain⟨v,w',r,s⟩:=h c cs
  exact⟨v,w',r,stepsIn_wide.2 s⟩
theorem zb4 {o:Oper} {a:Act} {w:World} {K:Act→World→Prop} (hd:∀c,o.op≠.defer c) (h:o.wp P a w K Q):o.wpIn (Fence.wide.inRound l) n P a w K Q:=by
 refine⟨fun _ _=>trivial,?_⟩
 rw[Oper.semAt_plain (Fence.wide.inRound l) a.eval o hd];unfold Oper.wp at h;generalize (execOp a.eval o).run P w=r at *
 cases r with
 | ok x w'=>
  cases x <;> simp only[Oper.upon,Oper.uponIn] at h ⊢
  case value v=>exact h
  case skip=>exact h
  case defer d=>exact h
  case enter f args=>exact⟨fun e=>(by cases e),callsIn_wide.2 h⟩
  case row row args=>exact⟨fun e=>(by cases e),zgi h⟩
 | halt x w'=>cases x <;> simp only[Oper.upon,Oper.uponIn] at h ⊢ <;> exact h
theorem ze0 (hd:Yq ops=true) (hl:¬LetsOut Q) {i:Nat} {K:Act→World→Prop} {a:Act} {w:World} (h:wpOp P ops Q i K a w):wpOpIn (Fence.wide.inRound l) n P ops Q i K a w:=by
 unfold wpOp at h;unfold wpOpIn
 cases ho:ops[i]? with
 | none=>rw[ho] at h;exact h
 | some o=>
  rw[ho] at h;simp only at h ⊢
  split
  ·rename_i hw
   rw[if_pos hw] at h
   rcases h with h|h
   ·exact zb4 (zby hd ho) h
   ·exact absurd h.2 hl
  ·rename_i hw
   rw[if_neg hw] at h
   exact⟨fun _ _=>trivial,h⟩
theorem Ym {md:Region.Mode} (hd:Yq ops=true) (hl:¬LetsOut Q):∀(fuel:Nat) (listed:Array Bool) (a:Act) (w:World),wpAny P md ops Q fuel listed a w→wpAnyIn (Fence.wide.inRound l) n P md ops Q fuel listed a w
 | 0,_,_,_,h=>h
 | fuel+1,listed,a,w,h=>⟨h.1,fun i hi=>ze0 hd hl (wpOp_mono (fun a' w' h'=>Ym hd hl fuel _ a' w' h') (h.2 i hi))⟩
theorem Jf {S:World→Prop} {id:Nat} {a:Act} {w:World} (hm:P.follows .mixedOrders=true) (hd:Yq ops=true) (hl:¬LetsOut Q) (hS:S w.drew)
  (h:S w.drew→wpAnyH P .any ops Q S ops.size (Array.replicate ops.size false) a w.drew):(Code.region id ops true).wpIn (Fence.wide.inRound l) n P Q a w:=
 wpIn_region_any hm (Ym hd hl _ _ _ _ (wpAny_of_held _ _ _ _ (h hS)))
theorem Zg (hd:Yq ops=true) (hl:¬LetsOut Q):∀(rest:List Oper) (a:Act) (w:World),(∀o∈rest,o∈ops)→wpList P ops Q rest a w→wpListIn (Fence.wide.inRound l) n P ops Q rest a w
 | [],_,_,_,h=>h
 | o :: rest,a,w,hm,h=>by
  refine wpListIn_step fun K hK=>?_
  unfold wpList at h;obtain⟨i,hi⟩:=Array.getElem?_of_mem (hm o (by simp))
  have hm':∀o∈rest,o∈ops:=fun o' ho'=>hm o' (List.mem_cons_of_mem _ ho')
  split
  ·rename_i hw
   rw[if_pos hw] at h
   rcases h with h|h
   ·exact zb4 (zby hd hi) (Oper.wp_mono (fun a' w' h'=>hK a' w' (Zg hd hl rest a' w' hm' h')) h)
   ·exact absurd h.2 hl
  ·rename_i hw
   rw[if_neg hw] at h
   exact⟨fun _ _=>trivial,hK _ _ (Zg hd hl rest _ _ hm' h)⟩
theorem uj {id:Nat} {a:Act} {w:World} {ops:List Oper} (hd:Yq ops.toArray=true) (hl:¬LetsOut Q) (h:wpList P ops.toArray Q ops a w):(Code.region id ops.toArray false).wpIn (Fence.wide.inRound l) n P Q a w:=
 wpIn_region_lit (Zg hd hl ops a w (fun o ho=>by simpa using ho) h)
theorem Je {F:Fence} {n:Nat} {o:Oper} {rest:List Oper} {a:Act} {w w':World} {v:Value} (hg:o.guard=none) (hd:∀c,o.op≠.defer c) (hc:∀c,o.op≠.call c) (hr:(execOp a.eval o).run P w = .ok (.value v) w') (h:wpListIn F n P ops Q rest (a.put o.dst v) w'):wpListIn F n P ops Q (o :: rest) a w:=by
 refine wpListIn_plain hg fun K hK=>?_
 unfold Oper.wpIn;refine⟨fun f hf=>?_,?_⟩
 ·unfold Oper.about at hf
  cases ho:o.op <;> rw[ho] at hf <;> first|(cases hf;done)|exact absurd ho (hc _)
 ·rw[Oper.semAt_plain F _ _ hd,hr]
  exact hK _ _ h
theorem jn {id:Nat} {a:Act} {w:World} {ops:List Oper} (m:Nat) (hm:P.follows .mixedOrders=true) (hB:Region.lexTailB .any ops.toArray m=true) (hd:Yq ops.toArray=true) (hl:¬LetsOut Q)
  (h:wpStill P ops.toArray { w with drawn:=w.drawn+1 } (fun a'=>wpList P ops.toArray Q (ops.drop m) a' { w with drawn:=w.drawn+1 }) (ops.take m) a):(Code.region id ops.toArray true).wpIn (Fence.wide.inRound l) n P Q a w:=by
 simp only[Region.lexTailB,Bool.and_eq_true,decide_eq_true_eq] at hB;obtain⟨⟨⟨⟨hsel,hn⟩,hs⟩,hc⟩,hlex⟩:=hB;have hmo:m<ops.length:=by simpa using hn
 have e1:(ops.take m).length=m:=by simp;omega
 have e2:(ops.drop m).length=ops.toArray.size-m:=by simp
 have H:=wpAnyL_lex (md:=.any) (g:=ops.toArray.size-m) hsel hs hc hn (ops.take m) 0 (Array.replicate ops.toArray.size false) a (fun j hj=>by
   rw[e1] at hj;simp[hj]) (by simpa using e1)
  ⟨by simp,fun j oj _ hj=>(by rw[getD_replicate_false] at hj;cases hj),fun t _ ht=>getD_in (by simpa using ht) (getD_replicate_false _ _)⟩ (by rw[e1];exact hlex) h
 have K:=wpAny_of_head (Q':=Q) (g:=ops.toArray.size-m) (fun listed a' hL=>by
  have:=wpAny_of_seq (md:=.any) (Q':=Q) (ops.drop m) m listed a' { w with drawn:=w.drawn+1 } (fun j=>by simp[List.getElem?_drop]) (by rw[e2];exact hL.1) hL.2
  rwa [e2] at this) _ _ _ H
 rw[e1,show m+(ops.toArray.size-m)=ops.toArray.size by omega] at K
 exact wpIn_region_any hm (Ym hd hl _ _ _ _ K)
end Go.Sf
