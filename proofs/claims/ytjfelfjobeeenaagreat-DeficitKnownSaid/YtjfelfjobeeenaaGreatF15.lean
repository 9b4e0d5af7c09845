/- The document's table: what its readers answer: the walks. Conditions: a table that lies in memory. The document's table: Call, Value, Look, Wanted, count: the walks. Conditions: a table that lies in memory. The document's table: Wanted, count, Held: the walks. Conditions: a table that lies in memory. slices.Concat of two rows of bytes, slices.Clone; fields.Writer's Raw, Out: the walks. Conditions: rows in memory, not too many bytes. Rows of structs: appending to one, writing an element: laws at the operation. Conditions: none. -/
import Derived.Test.YtjfelfjobeeenaaGreatF14
import Derived.Maps.AppendAt
import Derived.Deep.RegionLaw
import Derived.StillTailTactics
set_option linter.unusedSimpArgs false
set_option linter.unusedVariables false
namespace Go.Proofs.YtjfelfjobeeenaaGreat
open Go.RowKit Go.Sf Go.Shelf
def firstI {α:Type} (f:α→Bool) (l:List α):Int:=match l.findIdx? f with
 | some k=>k
 | none=>-1
def NoneB {α:Type} (f:α→Bool) (l:List α) (k:Nat):Prop:=∀j,(hj:j<l.length)→j<k→f l[j]=false
section
variable {α : Type} {f : α → Bool} {l : List α} {k : Nat}
theorem noneB_zero:NoneB f l 0:=fun j _ h=>by omega
theorem NoneB.step (h:NoneB f l k) (hk:k<l.length) (hf:f l[k]=false):NoneB f l (k+1):=fun j hj h2=>by
 by_cases e:j=k
 ·subst e;exact hf
 ·exact h j hj (by omega)
theorem firstI_hit (h:NoneB f l k) (hk:k<l.length) (hf:f l[k]=true):firstI f l=k:=by
 have:l.findIdx? f=some k:=by
  rw[List.findIdx?_eq_some_iff_getElem]
  exact⟨hk,hf,fun j hj=>by simp[h j (by omega) hj]⟩
 unfold firstI;rw[this]
theorem firstI_none (h:NoneB f l k) (hk:l.length≤k):firstI f l = -1:=by
 have:l.findIdx? f=none:=by
  rw[List.findIdx?_eq_none_iff]
  intro x hx
  obtain⟨j,hj,rfl⟩:=List.getElem_of_mem hx
  exact h j hj (by omega)
 unfold firstI;rw[this]
end
theorem grown_drewN (w:World) (n:Nat):w.grownBy (w.drewN n) none:=⟨rfl,rfl,rfl,Nat.le_refl _,fun _ _ _=>rfl⟩
theorem eql_id (a b:ID) (w:World):(binOp .eql 59 (.agg #[.string a.key,.int .i64 a.ver]) (.agg #[.string b.key,.int .i64 b.ver])).run Tryz.prog w = .ok (.bool (decide (a=b))) w:=by
 obtain⟨a1,a2⟩:=a
 obtain⟨b1,b2⟩:=b
 simp[go_sem,toList_eq_iff]
 by_cases e1:a1=b1 <;> by_cases e2:a2=b2 <;> simp[e1,e2]
def pendI (R:RTab) (i:ID):Int:=firstI (fun p=>decide (p.1=i)) R.pends
section
variable {W : World} {rb : Nat} {R : RTab} {vL vC vV vP vH : Value}
set_option maxHeartbeats 2000000 in
set_option maxRecDepth 100000 in
theorem rpend_core (h:RMem W rb R vL vC vV vP vH) (i:ID):Calls Tryz.prog 117 #[.pointer (some ⟨rb,0,none⟩),encID i] W fun e w'=>e = .returned (.int .i64 (pendI R i))∧W.grownBy w' none:=by
 unfold pendI
 have HR:=Lib.hid (h.grown (World.grownBy_alloc W (.cells #[.string i.key,.int .i64 i.ver] 59) none))
 have HB:=Lib.hid (heap_alloc_new W (.cells #[.string i.key,.int .i64 i.ver] 59))
 have HG:=Lib.hid (World.grownBy_alloc W (.cells #[.string i.key,.int .i64 i.ver] 59) none)
 clear h
 simp only[encID]
 go_enter Tryz.func117,Tryz.ntmps117
 go_wp2
 generalize W.alloc (.cells #[.string i.key,.int .i64 i.ver] 59)=W2 at *
 go_loopw [5] (fun x wr=>∃k:Nat,k≤R.pends.length∧x = .int .i64 k∧NoneB (fun p:ID × Pend=>decide (p.1=i)) R.pends k∧W2.grownBy wr none) (fun x _=>R.pends.length-(intOf x).toNat)
 case atStart=>exact⟨0,Nat.zero_le _,rfl,noneB_zero,grown_refl _⟩
 case round=>
  obtain⟨k,hk,rfl,hno,hg2⟩:=hrel
  have hR:=HR.out.grown hg2
  obtain⟨p,cap,hv,hcap,hlc⟩:=hR.pends.form
  have c7:=hR.c7
  rw[hv] at c7
  have HNO:=Lib.hid hno
  clear hno
  by_cases hlt:k<R.pends.length
  ·obtain⟨g,cap',hv',hc,hfz⟩:=(hR.pends.at lenP).resolve_left (fun e=>by rw[e] at hlt;simp at hlt)
   rw[hv] at hv'
   injection hv' with hv1 hv2 hv3
   subst hv1
   have e0:wr.cell? ⟨g,k*4,none⟩=some (.string R.pends[k].1.key):=hc k hlt 0 _ rfl
   have e1:wr.cell? ⟨g,k*4+1,none⟩=some (.int .i64 R.pends[k].1.ver):=hc k hlt 1 _ rfl
   have b:=(hg2.block W.heap.size (Array.getElem?_eq_some_iff.1 HB.out).1 (by simp)).trans HB.out
   have b0:wr.cell? ⟨W.heap.size,0,none⟩=some (.string i.key):=(cell_block b 0).trans rfl
   have b1:wr.cell? ⟨W.heap.size,1,none⟩=some (.int .i64 i.ver):=(cell_block b 1).trans rfl
   have HH:=Lib.hid hR
   clear hR hv hv2 hv3 hc hfz b
   have heq:=eql_id R.pends[k].1 i
   by_cases hi:R.pends[k].1=i
   ·have hd:decide (R.pends[k].1=i)=true:=by simpa using hi
    rw[hd] at heq
    have HI:=Lib.hid (And.intro hi hd)
    clear hi hd
    go_wp2
    go_quiet (fail)
    go_wp2
    go_ret
    exact⟨by rw[firstI_hit HNO.out hlt HI.out.2];rfl,grown_trans HG.out (grown_trans hg2 (grown_drewN _ _))⟩
   ·have hd:decide (R.pends[k].1=i)=false:=by simpa using hi
    rw[hd] at heq
    have HI:=Lib.hid (And.intro hi hd)
    clear hi hd
    go_wp2
    go_quiet (fail)
    go_wp2
    go_roundw
    case rel=>exact⟨k+1,by omega,by go_num,HNO.out.step hlt HI.out.2,grown_trans hg2 (grown_drewN _ _)⟩
    case measure=>simp[intOf];omega
  ·have hge:k=R.pends.length:=by omega
   have HK:=Lib.hid hge
   have HH:=Lib.hid hR
   clear hR hv hge
   go_wp2
   go_ret
   exact⟨by rw[firstI_none HNO.out (Nat.le_of_eq HK.out.symm)];rfl,grown_trans HG.out hg2⟩
end
section
variable {K V : Type} [DecidableEq K]
theorem mget_hit {l:List (K × V)} {x:K} {k:Nat} (h:NoneB (fun p:K × V=>decide (p.1=x)) l k) (hk:k<l.length) (hf:l[k].1=x):mget l x=some l[k].2:=by
 induction l generalizing k with
 | nil=>simp at hk
 | cons p r ih=>
  cases k with
  | zero=>
   simp only[List.getElem_cons_zero] at hf ⊢
   simp[mget,hf]
  | succ k=>
   have h0:=h 0 (by simp) (by omega)
   simp only[List.getElem_cons_zero,decide_eq_false_iff_not] at h0
   simp only[mget,if_neg h0,List.getElem_cons_succ]
   exact ih (fun j hj hjk=>by have:=h (j+1) (by simpa using hj) (by omega);simpa using this) (by simpa using hk) (by simpa using hf)
theorem mget_miss {l:List (K × V)} {x:K} {k:Nat} (h:NoneB (fun p:K × V=>decide (p.1=x)) l k) (hk:l.length≤k):mget l x=none:=by
 refine mget_none fun p hp e=>?_
 obtain⟨j,hj,rfl⟩:=List.getElem_of_mem hp
 have:=h j hj (by omega)
 simp[e] at this
end
def encRCall (n:Int) (c:CallT):Value:=.agg #[.int .i64 n,.int .i64 c.req,.int .i64 c.ver,.bool c.done,.int .i64 c.code]
def encRVal (s:ByteArray) (v:Val):Value:=.agg #[.string s,.int .i64 v.ver,.bool v.dead]
section
variable {W : World} {rb : Nat} {R : RTab} {vL vC vV vP vH : Value}
set_option maxHeartbeats 2000000 in
set_option maxRecDepth 100000 in
theorem rcall_core (h:RMem W rb R vL vC vV vP vH) (n:Int):Calls Tryz.prog 146 #[.pointer (some ⟨rb,0,none⟩),.int .i64 n] W fun e w'=>e = .returned (encRCall n (rcallV R n))∧W.grownBy w' none:=by
 have HV:Hid (encRCall n (rcallV R n)=encRCall n ((mget R.calls n).getD ⟨0,0,false,0⟩)):=(show _=_ from rfl)
 generalize encRCall n (rcallV R n)=res at *
 have HR:=Lib.hid (h.grown (World.grownBy_alloc W (.cells #[.int .i64 0,.int .i64 0,.int .i64 0,.bool false,.int .i64 0] 193) none))
 have HB:=Lib.hid (heap_alloc_new W (.cells #[.int .i64 0,.int .i64 0,.int .i64 0,.bool false,.int .i64 0] 193))
 have HG:=Lib.hid (World.grownBy_alloc W (.cells #[.int .i64 0,.int .i64 0,.int .i64 0,.bool false,.int .i64 0] 193) none)
 clear h
 go_enter Tryz.func146,Tryz.ntmps146
 go_wp2
 generalize W.alloc (.cells #[.int .i64 0,.int .i64 0,.int .i64 0,.bool false,.int .i64 0] 193)=W2 at *
 go_loopw [5] (fun x wr=>∃k:Nat,k≤R.calls.length∧x = .int .i64 k∧NoneB (fun p:Int × CallT=>decide (p.1=n)) R.calls k∧W2.grownBy wr none) (fun x _=>R.calls.length-(intOf x).toNat)
 case atStart=>exact⟨0,Nat.zero_le _,rfl,noneB_zero,grown_refl _⟩
 case round=>
  obtain⟨k,hk,rfl,hno,hg2⟩:=hrel
  have hR:=HR.out.grown hg2
  obtain⟨p,cap,hv,hcap,hlc⟩:=hR.calls.form
  have c5:=hR.c5
  rw[hv] at c5
  have HNO:=Lib.hid hno
  have b:=(hg2.block W.heap.size (Array.getElem?_eq_some_iff.1 HB.out).1 (by simp)).trans HB.out
  have b0:∃u,wr.cell? ⟨W.heap.size,0,none⟩=some u:=⟨_,(cell_block b 0).trans rfl⟩
  have b1:∃u,wr.cell? ⟨W.heap.size,1,none⟩=some u:=⟨_,(cell_block b 1).trans rfl⟩
  have b2:∃u,wr.cell? ⟨W.heap.size,2,none⟩=some u:=⟨_,(cell_block b 2).trans rfl⟩
  have b3:∃u,wr.cell? ⟨W.heap.size,3,none⟩=some u:=⟨_,(cell_block b 3).trans rfl⟩
  have b4:∃u,wr.cell? ⟨W.heap.size,4,none⟩=some u:=⟨_,(cell_block b 4).trans rfl⟩
  obtain⟨u0,b0⟩:=b0
  obtain⟨u1,b1⟩:=b1
  obtain⟨u2,b2⟩:=b2
  obtain⟨u3,b3⟩:=b3
  obtain⟨u4',b4⟩:=b4
  have z0:=free_block b 0
  have z1:=free_block b 1
  have z2:=free_block b 2
  have z3:=free_block b 3
  have z4:=free_block b 4
  clear hno b
  by_cases hlt:k<R.calls.length
  ·obtain⟨g,cap',hv',hc,hfz⟩:=(hR.calls.at lenC).resolve_left (fun e=>by rw[e] at hlt;simp at hlt)
   rw[hv] at hv'
   injection hv' with hv1 hv2 hv3
   subst hv1
   have e0:wr.cell? ⟨g,k*5,none⟩=some (.int .i64 R.calls[k].1):=hc k hlt 0 _ rfl
   have e1:wr.cell? ⟨g,k*5+1,none⟩=some (.int .i64 R.calls[k].2.req):=hc k hlt 1 _ rfl
   have e2:wr.cell? ⟨g,k*5+2,none⟩=some (.int .i64 R.calls[k].2.ver):=hc k hlt 2 _ rfl
   have e3:wr.cell? ⟨g,k*5+3,none⟩=some (.bool R.calls[k].2.done):=hc k hlt 3 _ rfl
   have e4:wr.cell? ⟨g,k*5+4,none⟩=some (.int .i64 R.calls[k].2.code):=hc k hlt 4 _ rfl
   have HH:=Lib.hid hR
   clear hR hv hv2 hv3 hc hfz
   by_cases hi:R.calls[k].1=n
   ·have HI:=Lib.hid hi
    have hres:Hid (res=encRCall n R.calls[k].2):=(show res=_ from by rw[HV.out,mget_hit HNO.out hlt hi];rfl)
    clear hi
    have hd:(R.calls[k].1 == n)=true:=by rw[HI.out];simp
    go_wp2
    refine bodyPost_ret (v:=encRCall n R.calls[k].2) (by simp[encRCall,results,Tryz.results146,go_sem, *,HI.out]) rfl ⟨by rw[hres.out],?_⟩
    repeat (refine grown_setCell ?_ (Nat.le_refl _) _)
    exact grown_trans HG.out hg2
   ·have hd:(R.calls[k].1 == n)=false:=by simpa using hi
    have HI:=Lib.hid hi
    clear hi
    go_wp2
    go_roundw
    case rel=>exact⟨k+1,by omega,by go_num,HNO.out.step hlt (by simpa using HI.out),hg2⟩
    case measure=>simp[intOf];omega
  ·have hge:R.calls.length≤k:=by omega
   have hres:Hid (res=encRCall n ⟨0,0,false,0⟩):=(show res=_ from by rw[HV.out,mget_miss HNO.out hge];rfl)
   have HH:=Lib.hid hR
   clear hR hv hge
   go_wp2
   refine bodyPost_ret (v:=encRCall n ⟨0,0,false,0⟩) (by simp[encRCall,results,Tryz.results146,go_sem, *]) rfl ⟨by rw[hres.out],?_⟩
   repeat (refine grown_setCell ?_ (Nat.le_refl _) _)
   exact grown_trans HG.out hg2
set_option maxHeartbeats 2000000 in
set_option maxRecDepth 100000 in
theorem rvalue_core (h:RMem W rb R vL vC vV vP vH) (n:ByteArray):Calls Tryz.prog 120 #[.pointer (some ⟨rb,0,none⟩),.string n] W fun e w'=>e = .returned (encRVal n (rlookV R n))∧W.grownBy w' none:=by
 have HV:Hid (encRVal n (rlookV R n)=encRVal n ((mget R.vals n).getD ⟨0,false⟩)):=(show _=_ from rfl)
 generalize encRVal n (rlookV R n)=res at *
 have HR:=Lib.hid (h.grown (World.grownBy_alloc W (.cells #[.string ⟨#[]⟩,.int .i64 0,.bool false] 202) none))
 have HB:=Lib.hid (heap_alloc_new W (.cells #[.string ⟨#[]⟩,.int .i64 0,.bool false] 202))
 have HG:=Lib.hid (World.grownBy_alloc W (.cells #[.string ⟨#[]⟩,.int .i64 0,.bool false] 202) none)
 clear h
 go_enter Tryz.func120,Tryz.ntmps120
 go_wp2
 generalize W.alloc (.cells #[.string ⟨#[]⟩,.int .i64 0,.bool false] 202)=W2 at *
 go_loopw [5] (fun x wr=>∃k:Nat,k≤R.vals.length∧x = .int .i64 k∧NoneB (fun p:ByteArray × Val=>decide (p.1=n)) R.vals k∧W2.grownBy wr none) (fun x _=>R.vals.length-(intOf x).toNat)
 case atStart=>exact⟨0,Nat.zero_le _,rfl,noneB_zero,grown_refl _⟩
 case round=>
  obtain⟨k,hk,rfl,hno,hg2⟩:=hrel
  have hR:=HR.out.grown hg2
  obtain⟨p,cap,hv,hcap,hlc⟩:=hR.vals.form
  have c6:=hR.c6
  rw[hv] at c6
  have HNO:=Lib.hid hno
  have b:=(hg2.block W.heap.size (Array.getElem?_eq_some_iff.1 HB.out).1 (by simp)).trans HB.out
  have b0:∃u,wr.cell? ⟨W.heap.size,0,none⟩=some u:=⟨_,(cell_block b 0).trans rfl⟩
  have b1:∃u,wr.cell? ⟨W.heap.size,1,none⟩=some u:=⟨_,(cell_block b 1).trans rfl⟩
  have b2:∃u,wr.cell? ⟨W.heap.size,2,none⟩=some u:=⟨_,(cell_block b 2).trans rfl⟩
  obtain⟨u0,b0⟩:=b0
  obtain⟨u1,b1⟩:=b1
  obtain⟨u2,b2⟩:=b2
  have z0:=free_block b 0
  have z1:=free_block b 1
  have z2:=free_block b 2
  clear hno b
  by_cases hlt:k<R.vals.length
  ·obtain⟨g,cap',hv',hc,hfz⟩:=(hR.vals.at lenV).resolve_left (fun e=>by rw[e] at hlt;simp at hlt)
   rw[hv] at hv'
   injection hv' with hv1 hv2 hv3
   subst hv1
   have e0:wr.cell? ⟨g,k*3,none⟩=some (.string R.vals[k].1):=hc k hlt 0 _ rfl
   have e1:wr.cell? ⟨g,k*3+1,none⟩=some (.int .i64 R.vals[k].2.ver):=hc k hlt 1 _ rfl
   have e2:wr.cell? ⟨g,k*3+2,none⟩=some (.bool R.vals[k].2.dead):=hc k hlt 2 _ rfl
   have HH:=Lib.hid hR
   clear hR hv hv2 hv3 hc hfz
   by_cases hi:R.vals[k].1=n
   ·have HI:=Lib.hid hi
    have hres:Hid (res=encRVal n R.vals[k].2):=(show res=_ from by rw[HV.out,mget_hit HNO.out hlt hi];rfl)
    clear hi
    have hd:(R.vals[k].1.toList == n.toList)=true:=by rw[HI.out];simp
    go_wp2
    refine bodyPost_ret (v:=encRVal n R.vals[k].2) (by simp[encRVal,results,Tryz.results120,go_sem, *,HI.out]) rfl ⟨by rw[hres.out],?_⟩
    repeat (refine grown_setCell ?_ (Nat.le_refl _) _)
    exact grown_trans HG.out hg2
   ·have hd:(R.vals[k].1.toList == n.toList)=false:=by rw[toList_eq_iff];simpa using hi
    have HI:=Lib.hid hi
    clear hi
    go_wp2
    go_roundw
    case rel=>exact⟨k+1,by omega,by go_num,HNO.out.step hlt (by simpa using HI.out),hg2⟩
    case measure=>simp[intOf];omega
  ·have hge:R.vals.length≤k:=by omega
   have hres:Hid (res=encRVal n ⟨0,false⟩):=(show res=_ from by rw[HV.out,mget_miss HNO.out hge];rfl)
   have HH:=Lib.hid hR
   clear hR hv hge
   go_wp2
   refine bodyPost_ret (v:=encRVal n ⟨0,false⟩) (by simp[encRVal,results,Tryz.results120,go_sem, *]) rfl ⟨by rw[hres.out],?_⟩
   repeat (refine grown_setCell ?_ (Nat.le_refl _) _)
   exact grown_trans HG.out hg2
theorem rlook_eq (R:RTab) (k:ByteArray):rlook R k=if (rlookV R k).dead=true then 0 else (rlookV R k).ver:=rfl
set_option maxHeartbeats 2000000 in
set_option maxRecDepth 100000 in
theorem rlook_core (h:RMem W rb R vL vC vV vP vH) (k:ByteArray):Calls Tryz.prog 149 #[.pointer (some ⟨rb,0,none⟩),.string k] W fun e w'=>e = .returned (.int .i64 (rlook R k))∧W.grownBy w' none:=by
 have HC:=Lib.hid (fun w (hg:W.grownBy w none)=>rvalue_core (h.grown hg) k)
 clear h
 have hl:=rlook_eq R k
 generalize rlook R k=res at *
 generalize rlookV R k=v at *
 obtain⟨vv,vd⟩:=v
 simp only[encRVal] at HC hl
 cases vd with
 | false=>
  have HL:Hid (res=vv):=(show res=vv from by simpa using hl)
  clear hl
  go_enter Tryz.func149,Tryz.ntmps149
  go_wp2_with (go_at_call 120;refine(HC.out _ (by repeat (first|exact grown_refl _|refine grown_alloc ?_ _|refine grown_drew ?_))).mono ?_;rintro e w1 ⟨rfl,hg⟩;have HG:=Lib.hid hg;clear hg)
  go_ret
  exact⟨by rw[HL.out];rfl,by repeat (first|exact HG.out|exact grown_refl _|refine grown_alloc ?_ _|refine grown_drew ?_)⟩
 | true=>
  have HL:Hid (res=0):=(show res=0 from by simpa using hl)
  clear hl
  go_enter Tryz.func149,Tryz.ntmps149
  go_wp2_with (go_at_call 120;refine(HC.out _ (by repeat (first|exact grown_refl _|refine grown_alloc ?_ _|refine grown_drew ?_))).mono ?_;rintro e w1 ⟨rfl,hg⟩;have HG:=Lib.hid hg;clear hg)
  go_ret
  exact⟨by rw[HL.out];rfl,by repeat (first|exact HG.out|exact grown_refl _|refine grown_alloc ?_ _|refine grown_drew ?_)⟩
end
theorem firstI_some {α:Type} (f:α→Bool) (l:List α):decide (0≤firstI f l)=l.any f:=by
 unfold firstI
 cases h:l.findIdx? f with
 | none=>
  rw[List.findIdx?_eq_none_iff] at h
  have:l.any f=false:=by rw[List.any_eq_false];intro x hx;rw[h x hx];decide
  rw[this];decide
 | some k=>
  obtain⟨hk,hf,_⟩:=List.findIdx?_eq_some_iff_getElem.1 h
  have:l.any f=true:=List.any_eq_true.2 ⟨_,List.getElem_mem hk,hf⟩
  rw[this];simp
theorem mget_any {K V:Type} [DecidableEq K] (l:List (K × V)) (x:K):(mget l x).isSome=l.any fun p=>decide (p.1=x):=by
 induction l with
 | nil=>rfl
 | cons p r ih=>
  simp only[mget,List.any_cons]
  by_cases h:p.1=x
  ·simp[h]
  ·simp only[if_neg h,ih];simp[h]
theorem pendI_B (R:RTab) (i:ID):decide (0≤pendI R i)=rpendB R i:=by
 unfold pendI rpendB
 rw[firstI_some,mget_any]
section
variable {W : World} {rb : Nat} {R : RTab} {vL vC vV vP vH : Value}
set_option maxHeartbeats 2000000 in
set_option maxRecDepth 100000 in
theorem rwanted_core (h:RMem W rb R vL vC vV vP vH) (i:ID):Calls Tryz.prog 115 #[.pointer (some ⟨rb,0,none⟩),encID i] W fun e w'=>e = .returned (.bool (rwanted R i))∧W.grownBy w' none:=by
 obtain⟨k,n⟩:=i
 have HP:Hid (∀W',W.grownBy W' none→Calls Tryz.prog 117 #[.pointer (some ⟨rb,0,none⟩),.agg #[.string k,.int .i64 n]] W' fun e w'=>e = .returned (.int .i64 (pendI R ⟨k,n⟩))∧W'.grownBy w' none):=fun W' hg=>rpend_core (h.grown hg) ⟨k,n⟩
 have HL:Hid (∀W',W.grownBy W' none→Calls Tryz.prog 149 #[.pointer (some ⟨rb,0,none⟩),.string k] W' fun e w'=>e = .returned (.int .i64 (rlook R k))∧W'.grownBy w' none):=fun W' hg=>rlook_core (h.grown hg) k
 clear h
 have hres:rwanted R ⟨k,n⟩=(decide (0≤pendI R ⟨k,n⟩) || (decide (0<n) && decide (rlook R k=n))):=by rw[pendI_B];rfl
 generalize rwanted R ⟨k,n⟩=res at *
 generalize pendI R ⟨k,n⟩=P at *
 generalize rlook R k=L at *
 have HR:=Lib.hid hres
 clear hres
 simp only[encID]
 by_cases hP:0≤P
 ·have hP':decide (0≤P)=true:=by simpa using hP
  go_enter Tryz.func115,Tryz.ntmps115
  go_wp2
  refine wp_region_quiet_ext (by kernel_rfl) (by kernel_rfl) ?_
  repeat (any_goals (first|go_big_quiet_step (((go_at_call 117;exact calls_ext (HP.out _ (by repeat (first|exact grown_refl _|exact World.grownBy_alloc _ _ _|refine grown_ext' ?_ _|refine grown_alloc ?_ _|refine grown_drew ?_))))))|quiet_step (((go_at_call 117;exact calls_ext (HP.out _ (by repeat (first|exact grown_refl _|exact World.grownBy_alloc _ _ _|refine grown_ext' ?_ _|refine grown_alloc ?_ _|refine grown_drew ?_))))))))
  refine wpQuiet_nil ?_
  intro _ hw'
  obtain⟨x,hw''⟩:=hw'
  subst hw''
  go_wp2
  go_ret
  exact⟨by rw[HR.out];simp[hP],by repeat (first|exact grown_refl _|exact World.grownBy_alloc _ _ _|refine grown_ext' ?_ _|refine grown_alloc ?_ _|refine grown_drew ?_)⟩
 ·have hP':decide (0≤P)=false:=by simpa using hP
  by_cases hn:0<n
  ·have hn':decide (0<n)=true:=by simpa using hn
   by_cases he:L=n
   all_goals
    go_enter Tryz.func115,Tryz.ntmps115
    go_wp2
    refine wp_region_quiet_ext (by kernel_rfl) (by kernel_rfl) ?_
    repeat (any_goals (first|go_big_quiet_step (((first|(go_at_call 117;exact calls_ext (HP.out _ (by repeat (first|exact grown_refl _|exact World.grownBy_alloc _ _ _|refine grown_ext' ?_ _|refine grown_alloc ?_ _|refine grown_drew ?_))))|(go_at_call 149;exact calls_ext (HL.out _ (by repeat (first|exact grown_refl _|exact World.grownBy_alloc _ _ _|refine grown_ext' ?_ _|refine grown_alloc ?_ _|refine grown_drew ?_)))))))|quiet_step (((first|(go_at_call 117;exact calls_ext (HP.out _ (by repeat (first|exact grown_refl _|exact World.grownBy_alloc _ _ _|refine grown_ext' ?_ _|refine grown_alloc ?_ _|refine grown_drew ?_))))|(go_at_call 149;exact calls_ext (HL.out _ (by repeat (first|exact grown_refl _|exact World.grownBy_alloc _ _ _|refine grown_ext' ?_ _|refine grown_alloc ?_ _|refine grown_drew ?_)))))))))
    refine wpQuiet_nil ?_
    intro _ hw'
    obtain⟨x,hw''⟩:=hw'
    subst hw''
    go_wp2
    go_ret
    exact⟨by rw[HR.out];simp[hn,he,hP'],by repeat (first|exact grown_refl _|exact World.grownBy_alloc _ _ _|refine grown_ext' ?_ _|refine grown_alloc ?_ _|refine grown_drew ?_)⟩
  ·have hn':decide (0<n)=false:=by simpa using hn
   go_enter Tryz.func115,Tryz.ntmps115
   go_wp2
   refine wp_region_quiet_ext (by kernel_rfl) (by kernel_rfl) ?_
   repeat (any_goals (first|go_big_quiet_step (((go_at_call 117;exact calls_ext (HP.out _ (by repeat (first|exact grown_refl _|exact World.grownBy_alloc _ _ _|refine grown_ext' ?_ _|refine grown_alloc ?_ _|refine grown_drew ?_))))))|quiet_step (((go_at_call 117;exact calls_ext (HP.out _ (by repeat (first|exact grown_refl _|exact World.grownBy_alloc _ _ _|refine grown_ext' ?_ _|refine grown_alloc ?_ _|refine grown_drew ?_))))))))
   refine wpQuiet_nil ?_
   intro _ hw'
   obtain⟨x,hw''⟩:=hw'
   subst hw''
   go_wp2
   go_ret
   exact⟨by rw[HR.out];simp[hn',hP'],by repeat (first|exact grown_refl _|exact World.grownBy_alloc _ _ _|refine grown_ext' ?_ _|refine grown_alloc ?_ _|refine grown_drew ?_)⟩
def cntB {α:Type} (f:α→Bool) (l:List α) (k:Nat):Nat:=((l.take k).filter f).length
theorem cntB_zero {α:Type} (f:α→Bool) (l:List α):cntB f l 0=0:=by simp[cntB]
theorem cntB_step {α:Type} (f:α→Bool) (l:List α) (k:Nat) (hk:k<l.length):cntB f l (k+1)=cntB f l k+if f l[k]=true then 1 else 0:=by
 unfold cntB
 rw[List.take_succ_eq_append_getElem hk,List.filter_append,List.length_append]
 congr 1
 by_cases h:f l[k]=true <;> simp[List.filter_cons,h]
theorem cntB_le {α:Type} (f:α→Bool) (l:List α) (k:Nat):cntB f l k≤k:=by
 unfold cntB
 exact Nat.le_trans (List.length_filter_le _ _) (by rw[List.length_take];omega)
theorem cntB_all {α:Type} (f:α→Bool) (l:List α) (k:Nat) (hk:l.length≤k):cntB f l k=(l.filter f).length:=by
 unfold cntB;rw[List.take_of_length_le hk]
set_option maxHeartbeats 4000000 in
set_option maxRecDepth 100000 in
theorem rcount_core (h:RMem W rb R vL vC vV vP vH) (i:ID) (b:Bool):Calls Tryz.prog 118 #[.pointer (some ⟨rb,0,none⟩),encID i,.bool b] W fun e w'=>e = .returned (.int .i64 (rcount R i b))∧W.grownBy w' none:=by
 have HV:Hid (rcount R i b=(R.holds.filter fun h=>decide (h.id=i) && h.ref == b).length):=(show _=_ from rfl)
 generalize rcount R i b=res at *
 have HR:=Lib.hid (h.grown (World.grownBy_alloc W (.cells #[.string i.key,.int .i64 i.ver] 59) none))
 have HB:=Lib.hid (heap_alloc_new W (.cells #[.string i.key,.int .i64 i.ver] 59))
 have HG:=Lib.hid (World.grownBy_alloc W (.cells #[.string i.key,.int .i64 i.ver] 59) none)
 clear h
 simp only[encID]
 go_enter Tryz.func118,Tryz.ntmps118
 go_wp2
 generalize W.alloc (.cells #[.string i.key,.int .i64 i.ver] 59)=W2 at *
 go_loopw [7,8] (fun c x wr=>∃k:Nat,k≤R.holds.length∧x = .int .i64 k∧c = .int .i64 (cntB (fun h:RHold=>decide (h.id=i) && h.ref == b) R.holds k)∧W2.grownBy wr none) (fun _ x _=>R.holds.length-(intOf x).toNat)
 case atStart=>exact⟨0,Nat.zero_le _,rfl,by rw[cntB_zero];rfl,grown_refl _⟩
 case round=>
  obtain⟨k,hk,rfl,rfl,hg2⟩:=hrel
  have hR:=HR.out.grown hg2
  obtain⟨p,cap,hv,hcap,hlc⟩:=hR.holds.form
  have c8:=hR.c8
  rw[hv] at c8
  have bb:=(hg2.block W.heap.size (Array.getElem?_eq_some_iff.1 HB.out).1 (by simp)).trans HB.out
  have b0:wr.cell? ⟨W.heap.size,0,none⟩=some (.string i.key):=(cell_block bb 0).trans rfl
  have b1:wr.cell? ⟨W.heap.size,1,none⟩=some (.int .i64 i.ver):=(cell_block bb 1).trans rfl
  have hcl:=cntB_le (fun h:RHold=>decide (h.id=i) && h.ref == b) R.holds k
  clear bb
  by_cases hlt:k<R.holds.length
  ·obtain⟨g,cap',hv',hc,hfz⟩:=(hR.holds.at lenH).resolve_left (fun e=>by rw[e] at hlt;simp at hlt)
   rw[hv] at hv'
   injection hv' with hv1 hv2 hv3
   subst hv1
   have e0:wr.cell? ⟨g,k*5,none⟩=some (.string R.holds[k].id.key):=hc k hlt 0 _ rfl
   have e1:wr.cell? ⟨g,k*5+1,none⟩=some (.int .i64 R.holds[k].id.ver):=hc k hlt 1 _ rfl
   have e4:wr.cell? ⟨g,k*5+4,none⟩=some (.bool R.holds[k].ref):=hc k hlt 4 _ rfl
   have hst:=cntB_step (fun h:RHold=>decide (h.id=i) && h.ref == b) R.holds k hlt
   have HH:=Lib.hid hR
   clear hR hv hv2 hv3 hc hfz
   generalize cntB (fun h:RHold=>decide (h.id=i) && h.ref == b) R.holds k=c at *
   have heq:=eql_id R.holds[k].id i
   by_cases hi:R.holds[k].id=i
   ·have hd:decide (R.holds[k].id=i)=true:=by simpa using hi
    rw[hd] at heq
    simp only[hd,Bool.true_and] at hst
    clear hi hd
    cases hb:(R.holds[k].ref == b) with
    | true=>
     have HS:Hid (cntB (fun h:RHold=>decide (h.id=i) && h.ref == b) R.holds (k+1)=c+1):=(show _=_ from by rw[hst,if_pos hb])
     clear hst
     go_wp2
     go_quiet (fail)
     go_wp2
     go_roundw
     case rel=>exact⟨k+1,by omega,by go_num,by rw[HS.out];go_num,grown_trans hg2 (grown_drewN _ _)⟩
     case measure=>simp[intOf];omega
    | false=>
     have HS:Hid (cntB (fun h:RHold=>decide (h.id=i) && h.ref == b) R.holds (k+1)=c):=(show _=_ from by rw[hst,if_neg (by rw[hb];decide)];rfl)
     clear hst
     go_wp2
     go_quiet (fail)
     go_wp2
     go_roundw
     case rel=>exact⟨k+1,by omega,by go_num,by rw[HS.out],grown_trans hg2 (grown_drewN _ _)⟩
     case measure=>simp[intOf];omega
   ·have hd:decide (R.holds[k].id=i)=false:=by simpa using hi
    rw[hd] at heq
    simp only[hd,Bool.false_and] at hst
    have HS:Hid (cntB (fun h:RHold=>decide (h.id=i) && h.ref == b) R.holds (k+1)=c):=(show _=_ from by rw[hst,if_neg (by decide)];rfl)
    clear hi hd hst
    go_wp2
    go_quiet (fail)
    go_wp2
    go_roundw
    case rel=>exact⟨k+1,by omega,by go_num,by rw[HS.out],grown_trans hg2 (grown_drewN _ _)⟩
    case measure=>simp[intOf];omega
  ·have HS:Hid (cntB (fun h:RHold=>decide (h.id=i) && h.ref == b) R.holds k=res):=(show _=_ from by rw[HV.out,cntB_all _ _ _ (by omega)])
   have HH:=Lib.hid hR
   clear hR hv
   go_wp2
   go_ret
   exact⟨by rw[←HS.out];rfl,grown_trans HG.out hg2⟩
end
open Go.RowKit Go.Sf
@[go_sem] theorem eqlBytesNone (n c:Nat) (w:World):(binOp BinOp.eql 25 (.slice none n c) (.slice none 0 0)).run Tryz.prog w = .ok (.bool true) w:=by kernel_rfl
@[go_sem] theorem eqlBytesSome (a:Addr) (n c:Nat) (w:World):(binOp BinOp.eql 25 (.slice (some a) n c) (.slice none 0 0)).run Tryz.prog w = .ok (.bool false) w:=by kernel_rfl
def YRow {α:Type} (W:World) (enc:α→List Value) (y:Value) (m:List α):Prop:=∃p cap,y = .slice p m.length cap∧(m = []∨∃a,p=some a∧∀j u,(m.flatMap enc)[j]? = some u→W.cell? (a.add j)=some u)
def Apped {α:Type} (W:World) (E:TypeId) (sz:Nat) (enc:α→List Value) (v:Value) (l:List α) (v':Value) (w':World):Prop:=
 SRow w' E sz enc v' l∧W.grownBy w' v.ownBlock∧(v'.ownBlock=v.ownBlock∨v'.ownBlock=some W.heap.size)
section
variable {α : Type} {P : Program} {W : World} {E : TypeId} {sz : Nat} {enc : α → List Value} {v y : Value} {l m : List α}
theorem run_sapp (he:∀x,(enc x).length=sz) (h1c:∀x,∀u∈enc x,u.oneCell'=true) (t ty:TypeId) (i:TypeInfo) (z:Value) (bytes:Nat) (ht:P.underlying t=some (.slice E)) (hi:P.info? E=some i) (hz:i.zero=some z)
  (hsize:i.size=sz) (hby:i.bytes=bytes) (hzs:z.cells.size=sz) (hsz:0<sz) (hb:bytes≤1000) (h:SRow W E sz enc v l) (hy:YRow W enc y m) (hl:l.length+m.length≤1000000000) :
  ∃v' w',(Builtin.append_ #[t,t] ty #[v,y]).run P W = .ok v' w'∧Apped W E sz enc v (l++m) v' w':=by
 obtain⟨p,cap,rfl,hc⟩:=hy
 cases p with
 | none=>
  have hm:m = []:=by
   rcases hc with h0|⟨a,ha,_⟩
   ·exact h0
   ·cases ha
  subst hm
  have e0:(Builtin.append_ #[t,t] ty #[v,.slice none 0 cap]).run P W = .ok v W:=by
   rcases h.2 with ⟨rfl,h0⟩|⟨g,c,cur,rfl,_,_,hnc,_⟩
   ·simp[Builtin.append_,run_underlying ht,sizeOf,typeInfo,hi,Builtin.lenOf,Builtin.firstCells,h0]
   ·simp[Builtin.append_,run_underlying ht,sizeOf,typeInfo,hi,Builtin.lenOf,Builtin.firstCells,hnc,storeCells]
  exact⟨v,W,e0,by rw[List.append_nil];exact h,⟨rfl,rfl,rfl,Nat.le_refl _,fun _ _ _=>rfl⟩,Or.inl rfl⟩
 | some a=>
  have hnews:∀j u,(m.flatMap enc)[j]? = some u→W.cell? (a.add j)=some u:=by
   rcases hc with h0|⟨a',ha,hc⟩
   ·subst h0;intro j u hu;simp at hu
   ·cases ha;exact hc
  have hbm:(l.length+m.length)*bytes≤140737488355328:=Nat.le_trans (Nat.mul_le_mul_left _ hb) (by omega)
  obtain⟨v',w',hr,h2,h3,h4,h5⟩:=run_append_own_at (P:=P) W 0 t ty E i z sz bytes ht hi hz hsize hby hzs hsz v l.length (l.flatMap enc) h a m.length cap (m.flatMap enc) (flat_size enc sz he m) hnews (fun u hu=>by
   obtain⟨x,_,hx⟩:=List.mem_flatMap.1 hu
   exact h1c x u hx) (by unfold maxLen;omega) hbm (Nat.zero_le _)
  refine⟨v',w',hr,?_,h3,h5⟩
  unfold SRow
  rw[List.length_append,List.flatMap_append]
  exact h2
theorem wpList_sapp (w:World) {ops:Array Oper} {rest:List Oper} {o:Oper} {a:Act} {Q:Exit→Act→World→Prop} (hgd:o.guard=none) (s x:Operand) (t:TypeId) (hop:o.op = .call { callee:=.builtin .append,args:=#[s,x],argTypes:=#[t,t] })
  (he:∀x,(enc x).length=sz) (h1c:∀x,∀u∈enc x,u.oneCell'=true) (i:TypeInfo) (z:Value) (bytes:Nat) (ht:P.underlying t=some (.slice E)) (hi:P.info? E=some i) (hz:i.zero=some z)
  (hsize:i.size=sz) (hby:i.bytes=bytes) (hzs:z.cells.size=sz) (hsz:0<sz) (hb:bytes≤1000) (hs:a.eval s=v) (h:SRow w E sz enc v l) (hx:a.eval x=y) (hy:YRow w enc y m) (hl:l.length+m.length≤1000000000) (n:Nat) (hn:l.length+m.length=n)
  (hK:∀p' cap' w',Apped w E sz enc v (l++m) (.slice p' n cap') w'→wpList P ops Q rest (a.put o.dst (.slice p' n cap')) w'):wpList P ops Q (o :: rest) a w:=by
 obtain⟨v',w',hr,h1⟩:=run_sapp (P:=P) he h1c t o.type i z bytes ht hi hz hsize hby hzs hsz hb h hy hl
 obtain⟨p',cap',rfl,-,-⟩:=h1.1.form
 rw[List.length_append,hn] at hr h1
 exact Go.Lib.wpList_append_run w hgd s x t t hop v y hs hx _ _ hr (hK p' cap' w' h1)
theorem step_sapp {ops:Array Oper} {o:Oper} {a:Act} {w:World} {K:Act→World→Prop} {Q:Exit→Act→World→Prop} {F:Prop} (hgd:o.guard=none) (s x:Operand) (t:TypeId) (hop:o.op=Op.call { callee:=Callee.builtin Builtin.append,args:=#[s,x],argTypes:=#[t,t] })
  (he:∀x,(enc x).length=sz) (h1c:∀x,∀u∈enc x,u.oneCell'=true) (i:TypeInfo) (z:Value) (bytes:Nat) (ht:P.underlying t=some (.slice E)) (hi:P.info? E=some i) (hz:i.zero=some z)
  (hsize:i.size=sz) (hby:i.bytes=bytes) (hzs:z.cells.size=sz) (hsz:0<sz) (hb:bytes≤1000) (hs:a.eval s=v) (h:SRow w E sz enc v l) (hx:a.eval x=y) (hy:YRow w enc y m) (hl:l.length+m.length≤1000000000) (n:Nat) (hn:l.length+m.length=n)
  (hK:∀p' cap' w',Apped w E sz enc v (l++m) (.slice p' n cap') w'→K (a.put o.dst (.slice p' n cap')) w'):if Region.wanted o (yielded ops a.tmps)=true then Oper.wp P o a w K Q else F:=by
 have hw:Region.wanted o (yielded ops a.tmps)=true:=by simp[Region.wanted,hgd]
 rw[if_pos hw]
 obtain⟨v',w',hr,h1⟩:=run_sapp (P:=P) he h1c t o.type i z bytes ht hi hz hsize hby hzs hsz hb h hy hl
 obtain⟨p',cap',rfl,-,-⟩:=h1.1.form
 rw[List.length_append,hn] at hr h1
 exact Go.Lib.wp_append_run w s x t t hop v y hs hx _ _ hr (hK p' cap' w' h1)
end
def setsL:List Value→Nat→List Value→List Value
 | xs,_,[]=>xs
 | xs,o,a :: r=>setsL (xs.set o a) (o+1) r
theorem setsL_right (A:List Value):∀(news F:List Value) (o:Nat),setsL (A++F) (A.length+o) news=A++setsL F o news
 | [],F,o=>rfl
 | a :: r,F,o=>by
  simp only[setsL]
  rw[List.set_append_right _ _ (by omega)]
  have e:A.length+o-A.length=o:=by omega
  rw[e,Nat.add_assoc]
  exact setsL_right A r _ _
theorem setsL_left:∀(news B A F:List Value),B.length=news.length→setsL (A++B++F) A.length news=A++news++F
 | [],B,A,F,h=>by
  have:B = []:=List.eq_nil_of_length_eq_zero (by simpa using h)
  subst this;simp[setsL]
 | a :: r,[],A,F,h=>by simp at h
 | a :: r,b :: B,A,F,h=>by
  simp only[setsL]
  have e1:(A++b :: B++F).set A.length a=(A ++ [a])++B++F:=by
   rw[List.append_assoc,List.set_append_right _ _ (Nat.le_refl _)]
   simp
  have e2:A.length+1=(A ++ [a]).length:=by simp
  rw[e1,e2,setsL_left r B (A ++ [a]) F (by simpa using h)]
  simp
theorem setsL_flat {α:Type} (enc:α→List Value) (sz:Nat) (he:∀x,(enc x).length=sz) (x:α):∀(l:List α) (k:Nat),k<l.length→setsL (l.flatMap enc) (k*sz) (enc x)=(l.set k x).flatMap enc
 | [],k,h=>by simp at h
 | y :: r,0,h=>by
  simp only[List.flatMap_cons,List.set_cons_zero,Nat.zero_mul]
  have:=setsL_left (enc x) (enc y) [] (r.flatMap enc) (by rw[he,he])
  simpa using this
 | y :: r,k+1,h=>by
  simp only[List.flatMap_cons,List.set_cons_succ]
  have e:(k+1)*sz=(enc y).length+k*sz:=by rw[he,Nat.succ_mul];omega
  rw[e,setsL_right,setsL_flat enc sz he x r k (by simpa using h)]
section
variable {α : Type} {W : World} {E : TypeId} {sz : Nat} {enc : α → List Value} {l : List α} {g n cap : Nat}
theorem own_sets:∀(news:List Value) (W:World) (xs:List Value) (o:Nat),W.ownsRow 0 E sz (.slice (some ⟨g,0,none⟩) n cap) n xs→(news.foldl (fun (p:World × Nat) u=>(p.1.setCell ⟨g,p.2,none⟩ u,p.2+1)) (W,o)).1.ownsRow 0 E sz (.slice (some ⟨g,0,none⟩) n cap) n (setsL xs o news)∧W.grownBy (news.foldl (fun (p:World × Nat) u=>(p.1.setCell ⟨g,p.2,none⟩ u,p.2+1)) (W,o)).1 (some g)
 | [],W,xs,o,h=>⟨h,rfl,rfl,rfl,Nat.le_refl _,fun _ _ _=>rfl⟩
 | a :: r,W,xs,o,h=>by
  obtain⟨h1,h2⟩:=World.ownsRow.stored h o a
  obtain⟨h3,h4⟩:=own_sets r _ _ (o+1) h1
  exact⟨h3,h4.os.trans h2.os,h4.tape.trans h2.tape,h4.output.trans h2.output,Nat.le_trans h2.size h4.size,fun k hk hn=>(h4.block k (Nat.lt_of_lt_of_le hk h2.size) hn).trans (h2.block k hk hn)⟩
theorem SRow.put (he:∀x,(enc x).length=sz) (h:SRow W E sz enc (.slice (some ⟨g,0,none⟩) l.length cap) l) (x:α) (k:Nat) (hk:k<l.length) :
  SRow ((enc x).foldl (fun (p:World × Nat) u=>(p.1.setCell ⟨g,p.2,none⟩ u,p.2+1)) (W,k*sz)).1 E sz enc (.slice (some ⟨g,0,none⟩) l.length cap) (l.set k x)∧W.grownBy ((enc x).foldl (fun (p:World × Nat) u=>(p.1.setCell ⟨g,p.2,none⟩ u,p.2+1)) (W,k*sz)).1 (some g):=by
 obtain⟨h1,h2⟩:=own_sets (enc x) W (l.flatMap enc) (k*sz) h
 rw[setsL_flat enc sz he x l k hk] at h1
 refine⟨?_,h2⟩
 unfold SRow
 rw[List.length_set]
 exact h1
end
theorem oneC:∀x,∀u∈cellsC x,u.oneCell'=true:=fun x u hu=>by
 simp only[cellsC,List.mem_cons,List.not_mem_nil,or_false] at hu
 rcases hu with rfl|rfl|rfl|rfl|rfl <;> rfl
theorem oneV:∀x,∀u∈cellsV x,u.oneCell'=true:=fun x u hu=>by
 simp only[cellsV,List.mem_cons,List.not_mem_nil,or_false] at hu
 rcases hu with rfl|rfl|rfl <;> rfl
theorem oneP:∀x,∀u∈cellsP x,u.oneCell'=true:=fun x u hu=>by
 simp only[cellsP,List.mem_cons,List.not_mem_nil,or_false] at hu
 rcases hu with rfl|rfl|rfl|rfl <;> rfl
theorem oneH:∀x,∀u∈cellsH x,u.oneCell'=true:=fun x u hu=>by
 simp only[cellsH,List.mem_cons,List.not_mem_nil,or_false] at hu
 rcases hu with rfl|rfl|rfl|rfl|rfl <;> rfl
theorem infoC:(Tryz.prog.info? 193).map (fun i=>(i.zero,i.size,i.bytes))=some (some (.agg #[.int .i64 0,.int .i64 0,.int .i64 0,.bool false,.int .i64 0]),5,40):=by kernel_rfl
theorem infoV:(Tryz.prog.info? 202).map (fun i=>(i.zero,i.size,i.bytes))=some (some (.agg #[.string ⟨#[]⟩,.int .i64 0,.bool false]),3,32):=by kernel_rfl
theorem infoP:(Tryz.prog.info? 190).map (fun i=>(i.zero,i.size,i.bytes))=some (some (.agg #[.string ⟨#[]⟩,.int .i64 0,.int .i64 0,.int .i64 0]),4,40):=by kernel_rfl
theorem infoH:(Tryz.prog.info? 197).map (fun i=>(i.zero,i.size,i.bytes))=some (some (.agg #[.string ⟨#[]⟩,.int .i64 0,.int .i64 0,.int .i64 0,.bool false]),5,48):=by kernel_rfl
end Go.Proofs.YtjfelfjobeeenaaGreat
