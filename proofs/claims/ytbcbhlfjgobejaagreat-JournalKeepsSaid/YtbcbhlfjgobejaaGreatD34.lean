/- The journal's Entries: the walk. Conditions: few entries, none long. The journal's Open: what it reads; its steps in memory. Conditions: none. -/
import Derived.Test.YtbcbhlfjgobejaaGreatD33
set_option linter.unusedSimpArgs false
set_option linter.unusedVariables false
namespace Go.Proofs.YtbcbhlfjgobejaaGreat
open Go.RowKit Go.Sf Go.Shelf
attribute [local go_sem] Oper.semAt_some
def OutE (W w:World) (v:Value) (ms:List SlM) (l:List (List Int)):Prop:=
 SRow w 32 1 slE v ms∧(∀g,v.ownBlock=some g→W.heap.size≤g)∧EntOk (fun k=>(W.heap.size≤k∧k<w.heap.size)∧v.ownBlock≠some k) w ms l
section
variable {W w w1 w2 w3 : World} {v v' : Value} {ms : List SlM} {l : List (List Int)} {x : SlM} {b : List Int}
theorem OutE.add (h:OutE W w v ms l) (h0:W.grownBy w none) (hg1:w.grownBy w1 none) (hx:RowP (fun k=>w.heap.size≤k∧k<w1.heap.size) w1 (.slice x.p x.n x.c) (bytesV b)) (hg2:w1.grownBy w2 none) (ha:Apped w2 32 1 slE v (ms ++ [x]) v' w3):OutE W w3 v' (ms ++ [x]) (l ++ [b])∧W.grownBy w3 none:=by
 obtain⟨hr,hb,he⟩:=h
 obtain⟨a1,hg3,ho⟩:=ha
 have hg12:=hg1.trans hg2
 have z0:=h0.size
 have z1:=hg1.size
 have z2:=hg2.size
 have z3:=hg3.size
 have hvl:∀g,v.ownBlock=some g→g<w.heap.size:=fun g hg=>hr.lt hg
 have h3:∀k,k<w2.heap.size→v.ownBlock≠some k→w3.heap[k]? = w2.heap[k]?:=fun k hk e=>hg3.block k hk (fun e2=>e e2.symm)
 have hv':∀k,k<w2.heap.size→v.ownBlock≠some k→v'.ownBlock≠some k:=fun k hk e e2=>by
  rcases ho with e3|e3
  ·exact e (e3.symm.trans e2)
  ·have e4:=e3.symm.trans e2
   injection e4 with e4
   omega
 refine⟨⟨a1,fun g hg=>?_,?_⟩,grown_ownH (h0.trans hg12) hg3 hb⟩
 ·rcases ho with e|e
  ·exact hb g (e.symm.trans hg)
  ·have e2:=e.symm.trans hg
   injection e2 with e2
   omega
 ·refine((he.turn fun k hk=>?_).mono fun k hk=>?_).app (.cons ?_ .nil)
  ·exact(h3 k (by omega) hk.2).trans (hg12.block k hk.1.2 (by simp))
  ·exact⟨⟨hk.1.1,by omega⟩,hv' k (by omega) hk.2⟩
  ·refine(hx.turn fun k hk=>?_).mono fun k hk=>?_
   ·exact(h3 k (by omega) (fun e=>by have:=hvl k e;omega)).trans (hg2.block k hk.2 (by simp))
   ·exact⟨⟨by omega,by omega⟩,hv' k (by omega) fun e=>by have:=hvl k e;omega⟩
end
section
variable {own : Nat → Prop} {W : World} {jb st db : Nat} {sv ev : Value} {es : List SlM} {jk : Nat → Prop} {J : Jnl}
theorem sl_n {P:Nat→Prop} {w:World} {x:SlM} {b:List Int} (h:RowP P w (.slice x.p x.n x.c) (bytesV b)):x.n=b.length:=by
 obtain⟨p,c,e,-⟩:=h.ex
 rw[bytesV_len] at e
 injection e
theorem rowP_void {P:Nat→Prop} {w:World} {v:Value} {b:List Int} (hv:RowP P w v (bytesV b)):v = .slice none 0 0→b = []:=fun e=>by
 obtain⟨p,c,e1,_,_,h2⟩:=hv.ex
 rcases h2 with h2|⟨a,h2,_⟩
 ·simpa[bytesV] using h2
 ·rw[e] at e1;injection e1 with e1;rw[h2] at e1;cases e1
set_option maxHeartbeats 4000000 in
set_option maxRecDepth 100000 in
theorem jentries (h:JAt own W jb st db sv ev es jk J) (hl:∀b∈J.entries,b.length≤10000000) (he:J.entries.length<1000000):Calls Tryz.prog 52 #[.pointer (some ⟨jb,0,none⟩)] W fun e w'=>∃v ms,e = .returned v∧OutE W w' v ms J.entries∧W.grownBy w' none:=by
 have hel:es.length=J.entries.length:=h.ent.len
 obtain⟨p,cap,rfl,hc1,hc2⟩:=h.row.form
 obtain⟨c0,c1,c2,c3,c4,cf⟩:=h.cells
 have HROW:Hid (∀j (hj:j<es.length),∃g,p=some ⟨g,0,none⟩∧g<W.heap.size∧W.cell? ⟨g,j,none⟩=some (.slice es[j].p es[j].n es[j].c)):=(fun j hj=>by
  rcases SRow.at slE_len h.row with e|⟨g,cc,e1,e2,-⟩
  ·rw[e] at hj;simp at hj
  ·injection e1 with e1 _ _
   subst e1
   have:=e2 j hj 0 _ rfl
   rw[Nat.mul_one,Nat.add_zero] at this
   exact⟨g,rfl,cell_lt this,this⟩)
 have HENT:Hid (∀j (hj:j<es.length) (hj2:j<J.entries.length) w',W.grownBy w' none→Calls Tryz.prog 97 #[.slice es[j].p es[j].n es[j].c] w' fun e w1=>∃x:SlM,e = .returned (.slice x.p x.n x.c)∧RowP (fun k=>w'.heap.size≤k∧k<w1.heap.size) w1 (.slice x.p x.n x.c) (bytesV J.entries[j])∧w'.grownBy w1 none):=(fun j hj hj2 w' hg=>by
  have h1:=(h.ent.get j hj hj2).turn (W':=w') fun k hk=>hg.block k (h.jlt hk.1) (by simp)
  have hll:=hl _ (List.getElem_mem hj2)
  refine(clone_any h1.raw (by omega) (rowP_void h1)).mono ?_
  rintro e w1 ⟨v',rfl,hx,hg1⟩
  have hxr:=NewRow.rowP (W:=w') hx (by omega)
  obtain⟨px,cx,rfl,-,-,-⟩:=hxr.ex
  exact⟨⟨px,_,cx⟩,rfl,hxr,hg1⟩)
 obtain⟨i0,z0,by0,hi,hz0,hz1,hz2,hz3,hz4⟩:=infoSl
 obtain⟨n,hn⟩:∃n,n=es.length:=⟨_,rfl⟩
 have HN:=Lib.hid hn
 have HN2:Hid (n=J.entries.length):=Lib.hid (hn.trans hel)
 have hn1:n<1000000:=by omega
 rw[←hn] at c3
 clear h hl he hel hc1 hc2 hn
 go_enter Tryz.func52,Tryz.ntmps52
 go_upto_region 5 with fail
 go_loopw [3,13] (fun l i wr=>∃(j:Nat) (q:Option Addr) (c:Nat) (ms:List SlM),j≤n∧i = .int .i64 j∧l = .slice q j c∧ms.length=j∧W.grownBy wr none∧OutE W wr (.slice q j c) ms (J.entries.take j)) (fun _ i _=>n-(intOf i).toNat)
 case atStart=>exact⟨0,none,0,[],Nat.zero_le _,rfl,rfl,rfl,grown_refl _,⟨⟨rfl,Or.inl ⟨rfl,rfl⟩⟩,fun g hg=>by simp[Value.ownBlock] at hg,.nil⟩⟩
 case round=>
  obtain⟨j,q,c,ms,hj,rfl,rfl,hm,hg,ho⟩:=hrel
  have HM:=Lib.hid hm
  have HG:=Lib.hid hg
  have HO:=Lib.hid ho
  clear hm ho
  by_cases hjn:j<n
  ·have hje:j<es.length:=by rw[←HN.out];exact hjn
   have hjb:j<J.entries.length:=by rw[←HN2.out];exact hjn
   obtain⟨g,rfl,hgl,e0⟩:=HROW.out j hje
   have HC:=Lib.hid (HENT.out j hje hjb wr hg)
   have e1:=hg.cell e0 (by simp)
   have e2:(0:Int)≤(j:Int):=by omega
   have e3:(j:Int)<(n:Int):=by omega
   have HT:Hid (J.entries.take (j+1)=J.entries.take j ++ [J.entries[j]]):=Lib.hid (List.take_succ_eq_append_getElem hjb)
   generalize es[j]=y at *
   obtain⟨py,ny,cy⟩:=y
   simp only at *
   clear e0 hg
   go_wp2_with (first
    | (go_at_call 97;refine HC.out.mono ?_;rintro e w1 ⟨⟨px,nx,cx⟩,rfl,hx,hg1⟩;have HX:=Lib.hid hx;have HG1:=Lib.hid hg1;clear hx hg1)
    | (at_builtin;refine wpList_sapp (E:=32) (sz:=1) (enc:=slE) (v:=.slice q j c) (l:=ms) (m:=[⟨px,nx,cx⟩]) _ rfl _ _ 77 rfl slE_len slE_one i0 z0 by0 Tryz.underlying77 hi hz0 hz1 hz2 hz3 (by decide) hz4 rfl (HO.out.1.grown (HG1.out.trans (World.grownBy_alloc _ _ none)) (by simp)) rfl (one_sl w1 ⟨px,nx,cx⟩) (by rw[HM.out];simp only[List.length_cons,List.length_nil];omega) (j+1) (by rw[HM.out];simp only[List.length_cons,List.length_nil]) ?_;intro q2 c2 w3 hap;have HAP:=Lib.hid hap;clear hap))
   have HA:=OutE.add (x:=⟨px,nx,cx⟩) HO.out HG.out HG1.out HX.out (World.grownBy_alloc w1 _ none) HAP.out
   exact⟨⟨j+1,q2,c2,ms ++ [⟨px,nx,cx⟩],by omega,by simp,rfl,by rw[List.length_append,HM.out];rfl,HA.2,by rw[HT.out];exact HA.1⟩,by simp[intOf];omega⟩
  ·obtain rfl:j=n:=by omega
   go_wp2
   go_ret
   refine⟨_,ms,rfl,?_,HG.out⟩
   have h1:=HO.out
   rw[List.take_of_length_le (by rw[←HN2.out];exact Nat.le_refl _)] at h1
   exact h1
end
attribute [local go_sem] Oper.semAt_some
def Sto.getB (S:Sto) (k:Int):List Int:=((mget S.recs k).map (·.1)).getD []
def jfold (S:Sto):List Int→Jnl→Option Jnl
 | [],J=>some J
 | k :: t,J=>match jsaid (S.getB k) with
  | none=>none
  | some (true,s)=>jfold S t (J.chk k s)
  | some (false,s)=>jfold S t { J with entries:=J.entries ++ [s] }
theorem jfold_no {S:Sto} {k:Int} (t:List Int) (J:Jnl) (h:jsaid (S.getB k)=none):jfold S (k :: t) J=none:=by
 show(match jsaid (S.getB k) with|none=>none|some (true,s)=>jfold S t (J.chk k s)|some (false,s)=>jfold S t { J with entries:=J.entries ++ [s] })=none
 rw[h]
theorem jfold_cp {S:Sto} {k:Int} {s:List Int} (t:List Int) (J:Jnl) (h:jsaid (S.getB k)=some (true,s)):jfold S (k :: t) J=jfold S t (J.chk k s):=by
 show(match jsaid (S.getB k) with|none=>none|some (true,s)=>jfold S t (J.chk k s)|some (false,s)=>jfold S t { J with entries:=J.entries ++ [s] })=_
 rw[h]
theorem jfold_en {S:Sto} {k:Int} {s:List Int} (t:List Int) (J:Jnl) (h:jsaid (S.getB k)=some (false,s)):jfold S (k :: t) J=jfold S t { J with entries:=J.entries ++ [s] }:=by
 show(match jsaid (S.getB k) with|none=>none|some (true,s)=>jfold S t (J.chk k s)|some (false,s)=>jfold S t { J with entries:=J.entries ++ [s] })=_
 rw[h]
def Jnl.new (S:Sto):Jnl:=⟨S,0,[],[],0⟩
section
variable {own : Nat → Prop} {W : World} {jb st db : Nat} {S : Sto}
theorem sgetB (h:SRep own W st db S) (k:Int) (hl:∀r∈S.recs,r.2.1.length≤200000):Calls Tryz.prog 21 #[.pointer (some ⟨st,0,none⟩),.int .i64 k] W fun e w'=>W.grownBy w' none∧∃p n c ok,e = .returned (.tuple #[.slice p n c,.bool ok])∧RowP (fun i=>W.heap.size≤i∧i<w'.heap.size) w' (.slice p n c) (bytesV (S.getB k)):=by
 obtain⟨mb,tb,rv,rb,hS⟩:=h
 refine(sget hS k).mono ?_
 rintro e w' ⟨hg,v,rfl,hv⟩
 rcases hv with ⟨h1,rfl⟩|⟨r,h1,h2⟩
 ·refine⟨hg,none,0,0,_,rfl,?_⟩
  unfold Sto.getB
  rw[h1]
  exact⟨none,0,rfl,Nat.le_refl _,by omega,Or.inl rfl⟩
 ·have hr:r.1.length≤200000:=by
   have hm:(k,r)∈S.recs:=mget_mem h1
   exact hl _ hm
  have h3:=NewRow.rowP h2 (by omega)
  obtain⟨p,c,rfl,_⟩:=h3.ex
  refine⟨hg,p,_,c,_,rfl,?_⟩
  unfold Sto.getB
  rw[h1]
  exact h3
theorem JAt.new (h:SRep own W st db S):JAt own (W.alloc (.cells #[.pointer (some ⟨st,0,none⟩),.int .i64 0,.slice none 0 0,.slice none 0 0,.int .i64 0] 210)) W.heap.size st db (.slice none 0 0) (.slice none 0 0) [] (fun k=>k=W.heap.size) (Jnl.new S):=by
 have hg:=World.grownBy_alloc W (.cells #[.pointer (some ⟨st,0,none⟩),.int .i64 0,.slice none 0 0,.slice none 0 0,.int .i64 0] 210) none
 have hb:=heap_alloc_new W (.cells #[.pointer (some ⟨st,0,none⟩),.int .i64 0,.slice none 0 0,.slice none 0 0,.int .i64 0] 210)
 refine⟨hb,?_,⟨rfl,Or.inl ⟨rfl,rfl⟩⟩,⟨none,0,rfl,Nat.le_refl _,by omega,Or.inl rfl⟩,.nil,rfl,fun g hg=>by simp[Value.ownBlock] at hg,fun k hk e=>by have:=h.own_lt hk;omega⟩
 exact h.othJ ⟨hg.os,hg.tape,hg.output,hg.size,fun k hk _=>hg.block k hk (by simp)⟩ (fun k hk=>hk.imp id (fun e=>by omega)) (fun k hk=>hk.elim (fun e=>Nat.lt_of_lt_of_le (h.own_lt e) hg.size) (fun e=>by subst e;simp))
end
@[go_sem] theorem asCp1 (v:Value) (w:World):(Instr.typeAssert (.iface 212 v) 20 212 true).run Tryz.prog w = .ok (.tuple #[v,.bool true]) w:=by kernel_rfl
@[go_sem] theorem asCp2 (v:Value) (w:World):(Instr.typeAssert (.iface 214 v) 20 212 true).run Tryz.prog w = .ok (.tuple #[.slice none 0 0,.bool false]) w:=by kernel_rfl
@[go_sem] theorem asCp3 (w:World):(Instr.typeAssert .nilIface 20 212 true).run Tryz.prog w = .ok (.tuple #[.slice none 0 0,.bool false]) w:=by kernel_rfl
@[go_sem] theorem asEn (v:Value) (w:World):(Instr.typeAssert (.iface 214 v) 20 214 false).run Tryz.prog w = .ok v w:=by kernel_rfl
end Go.Proofs.YtbcbhlfjgobejaaGreat
