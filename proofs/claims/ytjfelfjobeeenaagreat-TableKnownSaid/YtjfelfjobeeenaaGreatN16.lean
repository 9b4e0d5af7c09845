/- A table without its blocks' numbers, and what the calls do to it. Conditions: none, or as the theorems say. -/
import Derived.Test.YtjfelfjobeeenaaGreatN15
import Derived.Test.YtjfelfjobeeenaaGreatN14
namespace Go.Proofs.YtjfelfjobeeenaaGreat
set_option maxHeartbeats 200000000
set_option linter.unusedVariables false
set_option linter.unusedSimpArgs false
open Go.RowKit Go.Sf Go.Shelf
def vp (m:List (ID × ye)):List (ID × ye):=m.map fun p=>(p.1,⟨0,p.2.mem⟩)
def Tab.norm (T:Tab):Tab:={ T with holds:=vp T.holds,zv2:=vp T.zv2,lb:=0,cb:=0,vb:=0,pb:=0,hb:=0,rb:=0 }
theorem zam (m:List (ID × ye)) (i:ID):zt (vp m) i=(zt m i).map fun s=>⟨0,s.mem⟩:=by
 unfold vp
 induction m with
 | nil=>rfl
 | cons p r ih=>
  simp only[List.map_cons,zt]
  by_cases e:p.1=i
  ·rw[if_pos e,if_pos e];rfl
  ·rw[if_neg e,if_neg e];exact ih
theorem Vf (m:List (ID × ye)) (i:ID):memH (vp m) i=memH m i:=by
 unfold memH;rw[zam];cases zt m i <;> rfl
theorem zas (m:List (ID × ye)) (i:ID) (f:List Int→List Int):vp (ql m i f)=ql (vp m) i f:=by
 unfold vp ql;rw[List.map_map,List.map_map]
 apply List.map_congr_left
 intro p _;simp only[Function.comp]
 split <;> rfl
theorem zht (m:List (ID × ye)) (i:ID) (n:Int) (nb:Nat):vp (Zb m i n nb)=Zb (vp m) i n 0:=by
 unfold Zb;rw[zam]
 cases h:zt m i with
 | none=>simp[vp]
 | some s=>simp only[Option.isSome_some,Option.map_some,if_true];exact zas m i _
theorem zif (m:List (ID × ye)) (n:Int):vp (xi m n)=xi (vp m) n:=by
 unfold vp xi;rw[List.map_map,List.map_map]
 rfl
theorem zru (T:Tab) (i:ID) (n:Int) (nb:Nat):(uj T i n nb).norm=uj T.norm i n 0:=by
 unfold uj Tab.norm;simp only[zht,zas]
theorem zkt (T:Tab) (i:ID) (n:Int) (nb:Nat):(xg T i n nb).norm=xg T.norm i n 0:=by
 unfold xg Tab.norm;simp only[zht,zas]
theorem zkr (T:Tab) (c:Cmd):(jn T c).norm=jn T.norm c:=by
 unfold jn
 show _=(match zt T.pending ⟨c.key,c.zvz⟩ with|none=>T.norm|some p=>if ((memH (vp T.holds) ⟨c.key,c.zvz⟩).length:Int)<T.w then T.norm else if (lookV T c.key).zvz<c.zvz then { jw T.norm ⟨c.key,c.zvz⟩ p 0 with values:=ym T.values c.key ⟨c.zvz,false⟩ } else jw T.norm ⟨c.key,c.zvz⟩ p 0)
 cases zt T.pending ⟨c.key,c.zvz⟩ with
 | none=>rfl
 | some p=>
  simp only[Vf]
  split
  ·rfl
  ·split <;> rfl
theorem zua (T:Tab) (c:Cmd) (nb:Nat):(Qs T c nb).norm=Qs T.norm c 0:=by
 unfold Qs
 show _=if Qk T c=true then _ else _
 split
 ·rw[zkr,zru]
 ·rfl
theorem zks (T:Tab) (c:Cmd):(Yh T c).norm=Yh T.norm c:=by
 unfold Yh
 show _=(match zt T.pending ⟨c.key,c.zvz⟩ with|none=>T.norm|some p=>if (T.zv0.length:Int)-(memH (vp T.zv2) ⟨c.key,c.zvz⟩).length<T.w then jw T.norm ⟨c.key,c.zvz⟩ p 181 else T.norm)
 cases zt T.pending ⟨c.key,c.zvz⟩ with
 | none=>rfl
 | some p=>
  simp only[Vf]
  split <;> rfl
theorem zub (T:Tab) (c:Cmd) (nb:Nat):(Zj T c nb).norm=Zj T.norm c 0:=by
 unfold Zj
 show _=if zer T c=true then _ else _
 split
 ·rw[zks,zkt]
 ·rfl
theorem zrv (T:Tab) (c:Cmd):(Xu T c).norm=Xu T.norm c:=by
 unfold Xu
 show _=if Xb T c=true then _ else _
 split
 ·unfold Yp Tab.norm
  simp[zif]
 ·rfl
theorem norm_op (T:Tab) (c:Cmd) (nb:Nat):(opT T c nb).norm=opT T.norm c 0:=by
 unfold opT
 repeat' split
 ·rfl
 ·exact zrv T c
 ·unfold Va
  show _=if un T c=true then _ else _
  split <;> rfl
 ·exact zua T c nb
 ·exact zub T c nb
 ·unfold jz
  show _=if un T c=true then _ else _
  split <;> rfl
 ·unfold qy
  show _=if un T c=true then _ else _
  split <;> rfl
theorem zo4 (T:Tab):(jt T).norm=jt T.norm:=by
 unfold jt Tab.norm vp;simp only[List.filter_map]
 rfl
def uc (T:Tab) (c:Cmd):Tab:=doT T c 0
theorem norm_do (T:Tab) (c:Cmd) (nb:Nat):(doT T c nb).norm=uc T.norm c:=by
 unfold uc doT;rw[zo4,norm_op]
structure At (bs:Nat→Prop) (w:World) (tb:Nat) (L:Tab):Prop where
 ex:∃T,yh w tb T∧T.norm=L∧∀b∈T.blocks tb,bs b
structure Out (bs:Nat→Prop) (w w':World):Prop where
 os:w'.os=w.os
 tape:w'.tape=w.tape
 output:w'.output=w.output
 size:w.heap.size≤w'.heap.size
 block:∀k,k<w.heap.size→¬bs k→w'.heap[k]? = w.heap[k]?
theorem Out.refl (bs:Nat→Prop) (w:World):Out bs w w:=⟨rfl,rfl,rfl,Nat.le_refl _,fun _ _ _=>rfl⟩
theorem Out.trans {bs:Nat→Prop} {a b c:World} (h:Out bs a b) (g:Out bs b c):Out bs a c:=
 ⟨g.os.trans h.os,g.tape.trans h.tape,g.output.trans h.output,Nat.le_trans h.size g.size,fun k hk hn=>(g.block k (Nat.lt_of_lt_of_le hk h.size) hn).trans (h.block k hk hn)⟩
theorem Out.of_grown {a b:World} (h:a.grownBy b none) (bs:Nat→Prop):Out bs a b:=⟨h.os,h.tape,h.output,h.size,fun k hk _=>h.block k hk (by simp)⟩
theorem Out.grown {bs:Nat→Prop} {a b c:World} (h:Out bs a b) (g:b.grownBy c none):Out bs a c:=h.trans (Out.of_grown g bs)
theorem Out.to_grown {bs:Nat→Prop} {a b:World} (h:Out bs a b) (hb:∀k,k<a.heap.size→¬bs k):a.grownBy b none:=⟨h.os,h.tape,h.output,h.size,fun k hk _=>h.block k hk (hb k hk)⟩
theorem Out.cell {bs:Nat→Prop} {a b:World} (h:Out bs a b) {p:Addr} {v:Value} (hc:a.cell? p=some v) (hn:¬bs p.block):b.cell? p=some v:=
 (World.cell?_of_block (h.block p.block (World.block_lt_of_cell? a p hc) hn)).trans hc
theorem At.grown {bs:Nat→Prop} {w w':World} {tb:Nat} {L:Tab} (h:At bs w tb L) (hg:w.grownBy w' none):At bs w' tb L:=by
 obtain⟨T,h1,h2,h3⟩:=h.ex
 exact⟨T,h1.grown hg,h2,h3⟩
theorem At.lt {bs:Nat→Prop} {w:World} {tb:Nat} {L:Tab} (h:At bs w tb L):tb<w.heap.size:=by
 obtain⟨T,h1,h2,h3⟩:=h.ex
 exact h1.tlt
section
variable {bs : Nat → Prop} {w : World} {tb : Nat} {L : Tab}
theorem zel (nodes wi:Int) (N:Nat) (hN:(N:Int)=vm nodes) (w:World) (hbs:∀k,w.heap.size≤k→bs k) :
  Calls Tryz.prog 30 #[.int .i64 nodes,.int .i64 wi] w fun e w'=>∃tb,e = .returned (.pointer (some ⟨tb,0,none⟩))∧w.heap.size≤tb∧At bs w' tb (qn N wi 0).norm∧w.grownBy w' none:=by
 refine(zqd nodes wi N hN w).mono ?_;rintro e w' ⟨tb,he,hle,hT,hg⟩;refine⟨tb,he,hle,⟨_,hT,rfl,?_⟩,hg⟩;intro b hb
 apply hbs
 simp only[Tab.blocks,qn,List.map_nil,List.append_nil,List.mem_cons,List.not_mem_nil,or_false] at hb;omega
theorem zkm (h:At bs w tb L) (k:ByteArray):Calls Tryz.prog 34 #[.pointer (some ⟨tb,0,none⟩),.string k] w fun e w'=>e = .returned (.int .i64 (look L k))∧w.grownBy w' none:=by
 obtain⟨T,h1,rfl,h3⟩:=h.ex
 exact zty h1 k
theorem zex (h:At bs w tb L) (i:ID):Calls Tryz.prog 36 #[.pointer (some ⟨tb,0,none⟩),zx i] w fun e w'=>e = .returned (.bool (yl L i))∧w.grownBy w' none:=by
 obtain⟨T,h1,rfl,h3⟩:=h.ex
 exact Vm h1 i
theorem zj2 (h:At bs w tb L) (n:Int):Calls Tryz.prog 32 #[.pointer (some ⟨tb,0,none⟩),.int .i64 n] w fun e w'=>e = .returned (qt (callV L n))∧w.grownBy w' none:=by
 obtain⟨T,h1,rfl,h3⟩:=h.ex
 exact zs7 h1 n
theorem zkq (h:At bs w tb L):Calls Tryz.prog 31 #[.pointer (some ⟨tb,0,none⟩)] w fun e w'=>e = .returned (.int .i64 L.next)∧w.grownBy w' none:=by
 obtain⟨T,h1,rfl,h3⟩:=h.ex;have h2:=zt6 h1
 exact h2
theorem zkl (h:At bs w tb L) (n:Int) (hl:L.zv0.length≤9223372036854775807):Calls Tryz.prog 23 #[.pointer (some ⟨tb,0,none⟩),.int .i64 n] w fun e w'=>e = .returned (.int .i64 (yq L n))∧w.grownBy w' none:=by
 obtain⟨T,h1,rfl,h3⟩:=h.ex
 exact zme h1 n hl
theorem zos (T:Tab) (i:ID):Qm T.norm i=Qm T i:=by
 unfold Qm
 show(memH (vp T.holds) i).mergeSort _=_
 rw[Vf]
theorem zcq (h:At bs w tb L) (i:ID) (hf:Xw (memH L.holds i)) :
  Calls Tryz.prog 37 #[.pointer (some ⟨tb,0,none⟩),zx i] w fun e w'=>∃v,e = .returned v∧zjw w w' v (Qm L i):=by
 obtain⟨T,h1,rfl,h3⟩:=h.ex;have hf':Xw (memH T.holds i):=by
  have:memH T.norm.holds i=memH T.holds i:=Vf T.holds i;rw[this] at hf
  exact hf
 refine(zl4 h1 i hf').mono ?_;rintro e w' ⟨v,he,hv⟩
 exact⟨v,he,by rw[zos];exact hv⟩
theorem zgk (h:At bs w tb L) (hr:∀p∈L.values,p.1.size≤maxLen) (hl:L.values.length≤1000000) :
  Calls Tryz.prog 42 #[.pointer (some ⟨tb,0,none⟩)] w fun e w'=>∃v,e = .returned v∧jl w.heap.size w' v (Ur L)∧w.grownBy w' none:=by
 obtain⟨T,h1,rfl,h3⟩:=h.ex;have h2:=ze4 h1 hr hl
 exact h2
theorem do_at (h:At bs w tb L) (c:Cmd) (hkey:(c.key.size:Int)≤9223372036854775807) (ok:L.Ok) (hm:ua c=true) (hn:c.node<(L.zv0.length:Int)) (h1:1≤c.kind) (h7:c.kind≤7) (n0:0≤c.node) (hbs:∀k,w.heap.size≤k→bs k) :
  Calls Tryz.prog 22 #[.pointer (some ⟨tb,0,none⟩),zp c] w fun e w'=>e = .returned (.int .i64 0)∧At bs w' tb (uc L c)∧Out bs w w':=by
 obtain⟨T,hT,rfl,h3⟩:=h.ex;have ok':T.Ok:=⟨ok.o0,ok.o1,ok.n0,ok.n1,ok.ln,fun i=>by
  have:=ok.rs i;rw[show memH T.norm.zv2 i=memH T.zv2 i from Vf T.zv2 i] at this
  exact this⟩
 refine(do_ok hT c hkey ok.ln ok' hm hn h1 h7 n0).mono ?_;rintro e w' ⟨he,nb,hnb,hT',hC⟩;refine⟨he,⟨_,hT',norm_do T c nb,?_⟩,⟨hC.1,hC.2.1,hC.2.2.1,hC.2.2.2.1,fun k hk hn=>hC.2.2.2.2 k hk (fun hb=>hn (h3 k hb))⟩⟩
 intro b hb;have hsub:b∈(opT T c nb).blocks tb:=by
  simp only[doT,jt,Tab.blocks,List.mem_cons,List.mem_append,List.mem_map,List.mem_filter] at hb ⊢
  rcases hb with h|h|h|h|h|h|h|⟨x,⟨hx,_⟩,rfl⟩|⟨x,⟨hx,_⟩,rfl⟩
  ·exact Or.inl h
  ·exact Or.inr (Or.inl h)
  ·exact Or.inr (Or.inr (Or.inl h))
  ·exact Or.inr (Or.inr (Or.inr (Or.inl h)))
  ·exact Or.inr (Or.inr (Or.inr (Or.inr (Or.inl h))))
  ·exact Or.inr (Or.inr (Or.inr (Or.inr (Or.inr (Or.inl h)))))
  ·exact Or.inr (Or.inr (Or.inr (Or.inr (Or.inr (Or.inr (Or.inl h))))))
  ·exact Or.inr (Or.inr (Or.inr (Or.inr (Or.inr (Or.inr (Or.inr (Or.inl ⟨x,hx,rfl⟩)))))))
  ·exact Or.inr (Or.inr (Or.inr (Or.inr (Or.inr (Or.inr (Or.inr (Or.inr ⟨x,hx,rfl⟩)))))))
 rcases(zmy T c nb).blocks tb b hsub with h|rfl
 ·exact h3 b h
 ·exact hbs _ hnb
end
@[go_sem] theorem fieldCall2 (r1 r2 r4:Int) (r3:Bool) (w:World):(Instr.field 77 (.agg #[.int .i64 r1,.int .i64 r2,.bool r3,.int .i64 r4]) 2).run Tryz.prog w = .ok (.bool r3) w:=by kernel_rfl
@[go_sem] theorem fieldCall3 (r1 r2 r4:Int) (r3:Bool) (w:World):(Instr.field 77 (.agg #[.int .i64 r1,.int .i64 r2,.bool r3,.int .i64 r4]) 3).run Tryz.prog w = .ok (.int .i64 r4) w:=by kernel_rfl
def aK:ByteArray:=⟨#[97]⟩
def aI:ID:=⟨aK,1⟩
def wkD:Cmd:=⟨1,0,0,0,0,0,⟨#[]⟩,0⟩
def wkC:List Cmd:=[⟨1,0,0,0,0,0,⟨#[]⟩,0⟩,⟨1,0,0,0,0,0,⟨#[]⟩,0⟩,⟨2,0,0,1,0,0,⟨#[]⟩,0⟩,⟨2,1,0,2,0,0,⟨#[]⟩,0⟩,⟨3,0,9,0,1,0,aK,0⟩,⟨4,0,0,1,0,1,aK,0⟩,⟨4,1,0,1,0,1,aK,0⟩]
def wkL (k:Nat):Tab:=(wkC.take k).foldl uc (qn 3 2 0).norm
def wk8:Tab:=uc (wkL 7) ⟨4,1,0,2,0,1,aK,0⟩
def wk9:Tab:=uc wk8 ⟨6,0,9,0,2,0,aK,0⟩
theorem zvl (k:Nat) (hk:k<7):wkL (k+1)=uc (wkL k) (wkC.getD k wkD):=by
 unfold wkL;have hl:wkC.length=7:=rfl;rw[List.take_add_one,List.foldl_append,List.getD_eq_getElem?_getD,List.getElem?_eq_getElem (by omega)]
 rfl
theorem ok_of {T:Tab} (hr:T.zv2 = []) (o0:0≤T.offers) (o1:T.offers<4611686018427387904) (n0:0≤T.next) (n1:T.next<4611686018427387904) (ln:T.zv0.length≤9223372036854775807):T.Ok:=
 ⟨o0,o1,n0,n1,ln,fun i=>by rw[hr];simp[memH,zt]⟩
def Yx (L:Tab) (c:Cmd):Bool:=decide (L.zv2 = []) && decide (0≤L.offers∧L.offers<4611686018427387904∧0≤L.next∧L.next<4611686018427387904∧L.zv0.length≤9223372036854775807) && ua c && decide (c.node<(L.zv0.length:Int)∧1≤c.kind∧c.kind≤7∧0≤c.node∧(c.key.size:Int)≤9223372036854775807)
theorem zj9 {bs:Nat→Prop} {w:World} {tb:Nat} {L:Tab} (h:At bs w tb L) (c:Cmd) (hg:Yx L c=true) (hbs:∀k,w.heap.size≤k→bs k) :
  Calls Tryz.prog 22 #[.pointer (some ⟨tb,0,none⟩),zp c] w fun e w'=>e = .returned (.int .i64 0)∧At bs w' tb (uc L c)∧Out bs w w':=by
 simp only[Yx,Bool.and_eq_true,decide_eq_true_eq] at hg;obtain⟨⟨⟨hr,o0,o1,n0,n1,ln⟩,hm⟩,hn,h1,h7,hn0,hk⟩:=hg
 exact do_at h c hk (ok_of hr o0 o1 n0 n1 ln) hm hn h1 h7 hn0 hbs
theorem zed {w w':World} {v:Value} {l:List Int} (h:zjw w w' v l):∃p cap,v = .slice p l.length cap:=by
 rcases h.1.2 with ⟨hv,h0⟩|⟨g,cap,cur,hv,_⟩
 ·exact⟨none,0,by rw[hv,h0]⟩
 ·exact⟨_,cap,hv⟩
theorem zgy {base:Nat} {w':World} {v:Value} {l:List ID} (h:jl base w' v l):∃p cap,v = .slice p l.length cap:=by
 rcases h.2 with ⟨hv,h0⟩|⟨g,cap,cur,hv,_⟩
 ·exact⟨none,0,by rw[hv,h0]⟩
 ·exact⟨_,cap,hv⟩
theorem zdc (T:Tab) (i:ID):(Qm T i).length=(memH T.holds i).length:=by simp[Qm]
theorem zlm (T:Tab):(Ur T).length=((T.values.map fun p=>p.1.data.toList).filterMap (Xl T)).length:=
 ((List.mergeSort_perm _ _).filterMap _).length_eq
theorem wk_good:∀k,k<7→Yx (wkL k) (wkC.getD k wkD)=true:=by decide +kernel
theorem zvo:Yx (wkL 7) ⟨4,1,0,2,0,1,aK,0⟩=true:=by decide +kernel
theorem zvp:Yx wk8 ⟨6,0,9,0,2,0,aK,0⟩=true:=by decide +kernel
theorem wk_a1:look (wkL 7) aK=0:=by decide +kernel
theorem wk_a2:yl (wkL 7) aI=true:=by decide +kernel
theorem wk_a3:(callV (wkL 7) 9).zvy=1∧(callV (wkL 7) 9).zvz=1∧(callV (wkL 7) 9).done=false∧(callV (wkL 7) 9).code=0:=by decide +kernel
theorem wk_a4:memH (wkL 7).holds aI = [0]:=by decide +kernel
theorem Vc {l:List Int} (h:(∀n∈l,0≤n∧n<1000000)∧l.length≤1000000):Xw l:=
 ⟨fun n hn=>by
  have:=h.1 n hn;have e1:IntKind.min .i64 = -9223372036854775808:=by decide +kernel
  have e2:IntKind.max .i64=9223372036854775807:=by decide +kernel
  simp only[Lit.wf,e1,e2,Bool.and_eq_true,decide_eq_true_eq];omega,h.2⟩
theorem wk_a5:Xw (memH (wkL 7).holds aI):=Vc (by rw[wk_a4];decide)
theorem wk_a6:(memH (wkL 7).holds aI).length=1:=by rw[wk_a4];rfl
theorem wk_b1:look wk8 aK=1:=by decide +kernel
theorem wk_b2:(callV wk8 9).zvy=1∧(callV wk8 9).zvz=1∧(callV wk8 9).done=true∧(callV wk8 9).code=0:=by decide +kernel
theorem wk_b4:memH wk8.holds aI = [0,1]:=by decide +kernel
theorem wk_b7:Xw (memH wk8.holds aI):=Vc (by rw[wk_b4];decide)
theorem wk_b8:(memH wk8.holds aI).length=2:=by rw[wk_b4];rfl
theorem wk_b5:((wk8.values.map fun p=>p.1.data.toList).filterMap (Xl wk8)).length=1:=by decide +kernel
theorem wk_b6:(∀p∈wk8.values,p.1.size≤64)∧wk8.values.length≤1000000:=by decide +kernel
theorem wk_c1:look wk9 aK=0:=by decide +kernel
theorem wk_c2:((wk9.values.map fun p=>p.1.data.toList).filterMap (Xl wk9)).length=0:=by decide +kernel
theorem wk_c3:(∀p∈wk9.values,p.1.size≤64)∧wk9.values.length≤1000000:=by decide +kernel
theorem wk_c4:wk9.next=3:=by decide +kernel
set_option maxRecDepth 100000 in
theorem zke (k:ByteArray) (n:Int) (w:World):Calls Tryz.prog 45 #[.string k,.int .i64 n] w fun e w'=>e = .returned (zx ⟨k,n⟩)∧w.grownBy w' none:=by
 simp only[zx]
 go_enter Tryz.func45,Tryz.ntmps45
 go_wp2;refine bodyPost_ret (v:=.agg #[.string k,.int .i64 n]) (by simp[results,Tryz.results45,go_sem]) rfl ⟨rfl,?_⟩
 repeat (first|exact zd _|exact zc _ _ _|refine zi ?_ _|refine zg ?_ _|refine zf ?_)
theorem At.mono {bs cs:Nat→Prop} {w:World} {tb:Nat} {L:Tab} (h:At bs w tb L) (hs:∀k,k<w.heap.size→bs k→cs k):At cs w tb L:=by
 obtain⟨T,h1,h2,h3⟩:=h.ex
 exact⟨T,h1,h2,fun b hb=>hs b (h1.lt b hb) (h3 b hb)⟩
structure St (w:World) (g tb:Nat) (L:Tab) (W:World):Prop where
 tab:At (fun k=>w.heap.size≤k∧k≠g) W tb L
 out:Out (fun k=>w.heap.size≤k∧k≠g) w W
 lt:g<W.heap.size
section
variable {w W W' : World} {g tb : Nat} {L : Tab}
theorem St.grown (h:St w g tb L W) (hg:W.grownBy W' none):St w g tb L W':=⟨h.tab.grown hg,h.out.grown hg,Nat.lt_of_lt_of_le h.lt hg.size⟩
theorem St.base (h:St w g tb L W):w.grownBy W none:=h.out.to_grown fun k hk h=>by omega
theorem St.look (h:St w g tb L W) (k:ByteArray) (v:Int) (hv:look L k=v):Calls Tryz.prog 34 #[.pointer (some ⟨tb,0,none⟩),.string k] W fun e w'=>e = .returned (.int .i64 v)∧St w g tb L w'∧W.grownBy w' none:=by
 subst hv
 exact(zkm h.tab k).mono fun e w' ⟨a,b⟩=>⟨a,h.grown b,b⟩
theorem St.wanted (h:St w g tb L W) (k:ByteArray) (n:Int) (v:Bool) (hv:yl L ⟨k,n⟩=v):Calls Tryz.prog 36 #[.pointer (some ⟨tb,0,none⟩),.agg #[.string k,.int .i64 n]] W fun e w'=>e = .returned (.bool v)∧St w g tb L w'∧W.grownBy w' none:=by
 subst hv
 exact(zex h.tab ⟨k,n⟩).mono fun e w' ⟨a,b⟩=>⟨a,h.grown b,b⟩
theorem St.call (h:St w g tb L W) (n r v:Int) (d:Bool) (c:Int) (hv:(callV L n).zvy=r∧(callV L n).zvz=v∧(callV L n).done=d∧(callV L n).code=c):Calls Tryz.prog 32 #[.pointer (some ⟨tb,0,none⟩),.int .i64 n] W fun e w'=>e = .returned (.agg #[.int .i64 r,.int .i64 v,.bool d,.int .i64 c])∧St w g tb L w'∧W.grownBy w' none:=by
 obtain⟨rfl,rfl,rfl,rfl⟩:=hv
 exact(zj2 h.tab n).mono fun e w' ⟨a,b⟩=>⟨a,h.grown b,b⟩
theorem St.next (h:St w g tb L W) (v:Int) (hv:L.next=v):Calls Tryz.prog 31 #[.pointer (some ⟨tb,0,none⟩)] W fun e w'=>e = .returned (.int .i64 v)∧St w g tb L w'∧W.grownBy w' none:=by
 subst hv
 exact(zkq h.tab).mono fun e w' ⟨a,b⟩=>⟨a,h.grown b,b⟩
theorem St.life (h:St w g tb L W) (n v:Int) (hl:L.zv0.length≤9223372036854775807) (hv:yq L n=v):Calls Tryz.prog 23 #[.pointer (some ⟨tb,0,none⟩),.int .i64 n] W fun e w'=>e = .returned (.int .i64 v)∧St w g tb L w'∧W.grownBy w' none:=by
 subst hv
 exact(zkl h.tab n hl).mono fun e w' ⟨a,b⟩=>⟨a,h.grown b,b⟩
theorem St.holders (h:St w g tb L W) (k:ByteArray) (n:Int) (l:Nat) (hf:Xw (memH L.holds ⟨k,n⟩)) (hv:(memH L.holds ⟨k,n⟩).length=l):Calls Tryz.prog 37 #[.pointer (some ⟨tb,0,none⟩),.agg #[.string k,.int .i64 n]] W fun e w'=>∃p c,e = .returned (.slice p l c)∧St w g tb L w'∧W.grownBy w' none:=by
 subst hv;refine(zcq h.tab ⟨k,n⟩ hf).mono ?_;rintro e w' ⟨v,a,b⟩;obtain⟨p,c,hv⟩:=zed b;rw[zdc] at hv
 exact⟨p,c,by rw[a,hv],h.grown b.2.2,b.2.2⟩
theorem St.current (h:St w g tb L W) (l:Nat) (hr:(∀p∈L.values,p.1.size≤64)∧L.values.length≤1000000) (hv:((L.values.map fun p=>p.1.data.toList).filterMap (Xl L)).length=l):Calls Tryz.prog 42 #[.pointer (some ⟨tb,0,none⟩)] W fun e w'=>∃p c,e = .returned (.slice p l c)∧St w g tb L w'∧W.grownBy w' none:=by
 subst hv;refine(zgk h.tab (fun p hp=>Nat.le_trans (hr.1 p hp) (by unfold maxLen;omega)) hr.2).mono ?_
 rintro e w' ⟨v,a,b,hg⟩;obtain⟨p,c,hv⟩:=zgy b;rw[zlm] at hv
 exact⟨p,c,by rw[a,hv],h.grown hg,hg⟩
theorem St.step (h:St w g tb L W) (hw:w.heap.size≤g) (kind node zvw zvx zvy zvz:Int) (key:ByteArray) (code:Int) (L':Tab) (hg:Yx L ⟨kind,node,zvw,zvx,zvy,zvz,key,code⟩=true) (hL:uc L ⟨kind,node,zvw,zvx,zvy,zvz,key,code⟩=L') :
  Calls Tryz.prog 22 #[.pointer (some ⟨tb,0,none⟩),.agg #[.int .u8 kind,.int .i64 node,.int .i64 zvw,.int .i64 zvx,.int .i64 zvy,.int .i64 zvz,.string key,.int .i64 code]] W fun e w'=>e = .returned (.int .i64 0)∧St w g tb L' w'∧Out (fun k=>w.heap.size≤k∧k≠g) W w':=by
 subst hL;refine(zj9 h.tab ⟨kind,node,zvw,zvx,zvy,zvz,key,code⟩ hg (fun k hk=>⟨by have:=h.lt;omega,by have:=h.lt;omega⟩)).mono ?_
 rintro e w' ⟨a,b,c⟩
 exact⟨a,⟨b,h.out.trans c,Nat.lt_of_lt_of_le h.lt c.size⟩,c⟩
end
theorem zvm:wkL 0=(qn 3 2 0).norm:=rfl
theorem wk8_eq:uc (wkL 7) ⟨4,1,0,2,0,1,⟨#[97]⟩,0⟩=wk8:=rfl
theorem wk9_eq:uc wk8 ⟨6,0,9,0,2,0,⟨#[97]⟩,0⟩=wk9:=rfl
theorem wk_f7:look (wkL 7) ⟨#[97]⟩=0∧yl (wkL 7) ⟨⟨#[97]⟩,1⟩=true∧((callV (wkL 7) 9).zvy=1∧(callV (wkL 7) 9).zvz=1∧(callV (wkL 7) 9).done=false∧(callV (wkL 7) 9).code=0)∧Xw (memH (wkL 7).holds ⟨⟨#[97]⟩,1⟩)∧(memH (wkL 7).holds ⟨⟨#[97]⟩,1⟩).length=1∧Yx (wkL 7) ⟨4,1,0,2,0,1,⟨#[97]⟩,0⟩=true∧uc (wkL 7) ⟨4,1,0,2,0,1,⟨#[97]⟩,0⟩=wk8:=⟨wk_a1,wk_a2,wk_a3,wk_a5,wk_a6,zvo,wk8_eq⟩
theorem wk_f8:look wk8 ⟨#[97]⟩=1∧((callV wk8 9).zvy=1∧(callV wk8 9).zvz=1∧(callV wk8 9).done=true∧(callV wk8 9).code=0)∧Xw (memH wk8.holds ⟨⟨#[97]⟩,1⟩)∧(memH wk8.holds ⟨⟨#[97]⟩,1⟩).length=2∧((∀p∈wk8.values,p.1.size≤64)∧wk8.values.length≤1000000)∧((wk8.values.map fun p=>p.1.data.toList).filterMap (Xl wk8)).length=1∧Yx wk8 ⟨6,0,9,0,2,0,⟨#[97]⟩,0⟩=true∧uc wk8 ⟨6,0,9,0,2,0,⟨#[97]⟩,0⟩=wk9:=⟨wk_b1,wk_b2,wk_b7,wk_b8,wk_b6,wk_b5,zvp,wk9_eq⟩
theorem wk_f9:look wk9 ⟨#[97]⟩=0∧((∀p∈wk9.values,p.1.size≤64)∧wk9.values.length≤1000000)∧((wk9.values.map fun p=>p.1.data.toList).filterMap (Xl wk9)).length=0∧wk9.next=3:=⟨wk_c1,wk_c3,wk_c2,wk_c4⟩
attribute [irreducible] wkL wk8 wk9 Yx
def xa (c:Cmd):List Value:=[.int .u8 c.kind,.int .i64 c.node,.int .i64 c.zvw,.int .i64 c.zvx,.int .i64 c.zvy,.int .i64 c.zvz,.string c.key,.int .i64 c.code]
theorem zvn (k:Nat) (hk:k<7) (j:Nat) (hj:j<8):((wkC.flatMap xa).toArray)[k*8+j]? = (xa (wkC.getD k wkD))[j]?:=by
 obtain rfl|rfl|rfl|rfl|rfl|rfl|rfl:k=0∨k=1∨k=2∨k=3∨k=4∨k=5∨k=6:=by omega
 all_goals
  obtain rfl|rfl|rfl|rfl|rfl|rfl|rfl|rfl:j=0∨j=1∨j=2∨j=3∨j=4∨j=5∨j=6∨j=7:=by omega
  all_goals rfl
structure zig (w:World) (g:Nat):Prop where
 row:w.heap[g]? = some (.cells (wkC.flatMap xa).toArray 24 (0,0))
theorem zig.cell {w:World} {g:Nat} (h:zig w g) (k:Nat) (hk:k<7) (j:Nat) (hj:j<8) (o:Nat) (ho:o=k*8+j) (v:Value) (hv:(xa (wkC.getD k wkD))[j]? = some v):w.cell? ⟨g,o,none⟩=some v:=by
 subst ho;rw[zh h.row,zvn k hk j hj,hv]
theorem zig.out {bs:Nat→Prop} {w w':World} {g:Nat} (h:zig w g) (ho:Out bs w w') (hn:¬bs g):zig w' g:=
 ⟨(ho.block g (Array.getElem?_eq_some_iff.1 h.row).1 hn).trans h.row⟩
attribute [local irreducible] uc memH look yl callV in
set_option maxRecDepth 100000 in
theorem qd (w:World):Calls Tryz.prog 10 #[] w fun e w'=>e = .returned (.bool true)∧w.grownBy w' none:=by
 go_enter Tryz.func10,Tryz.ntmps10
 go_wp2_with (go_at_call 30;refine(zel (bs:=fun k=>w.heap.size≤k) 3 2 3 rfl w (fun _ h=>h)).mono ?_;rintro e w1 ⟨tb,rfl,hle,hA,hg⟩;have HA:=za hA;have HG:=za hg;clear hA hg)
 have hrow:zig (w1.alloc (.cells #[.int .u8 1,.int .i64 0,.int .i64 0,.int .i64 0,.int .i64 0,.int .i64 0,.string { data:=#[] },.int .i64 0,.int .u8 1,.int .i64 0,.int .i64 0,.int .i64 0,.int .i64 0,.int .i64 0,.string { data:=#[] },.int .i64 0,.int .u8 2,.int .i64 0,.int .i64 0,.int .i64 1,.int .i64 0,.int .i64 0,.string { data:=#[] },.int .i64 0,.int .u8 2,.int .i64 1,.int .i64 0,.int .i64 2,.int .i64 0,.int .i64 0,.string { data:=#[] },.int .i64 0,.int .u8 3,.int .i64 0,.int .i64 9,.int .i64 0,.int .i64 1,.int .i64 0,.string { data:=#[97] },.int .i64 0,.int .u8 4,.int .i64 0,.int .i64 0,.int .i64 1,.int .i64 0,.int .i64 1,.string { data:=#[97] },.int .i64 0,.int .u8 4,.int .i64 1,.int .i64 0,.int .i64 1,.int .i64 0,.int .i64 1,.string { data:=#[97] },.int .i64 0] 24)) w1.heap.size:=⟨heap_alloc_new _ _⟩;have hg2:w1.grownBy (w1.alloc (.cells #[.int .u8 1,.int .i64 0,.int .i64 0,.int .i64 0,.int .i64 0,.int .i64 0,.string { data:=#[] },.int .i64 0,.int .u8 1,.int .i64 0,.int .i64 0,.int .i64 0,.int .i64 0,.int .i64 0,.string { data:=#[] },.int .i64 0,.int .u8 2,.int .i64 0,.int .i64 0,.int .i64 1,.int .i64 0,.int .i64 0,.string { data:=#[] },.int .i64 0,.int .u8 2,.int .i64 1,.int .i64 0,.int .i64 2,.int .i64 0,.int .i64 0,.string { data:=#[] },.int .i64 0,.int .u8 3,.int .i64 0,.int .i64 9,.int .i64 0,.int .i64 1,.int .i64 0,.string { data:=#[97] },.int .i64 0,.int .u8 4,.int .i64 0,.int .i64 0,.int .i64 1,.int .i64 0,.int .i64 1,.string { data:=#[97] },.int .i64 0,.int .u8 4,.int .i64 1,.int .i64 0,.int .i64 1,.int .i64 0,.int .i64 1,.string { data:=#[97] },.int .i64 0] 24)) none:=zc _ _ _;have hs2:w1.heap.size<(w1.alloc (.cells #[.int .u8 1,.int .i64 0,.int .i64 0,.int .i64 0,.int .i64 0,.int .i64 0,.string { data:=#[] },.int .i64 0,.int .u8 1,.int .i64 0,.int .i64 0,.int .i64 0,.int .i64 0,.int .i64 0,.string { data:=#[] },.int .i64 0,.int .u8 2,.int .i64 0,.int .i64 0,.int .i64 1,.int .i64 0,.int .i64 0,.string { data:=#[] },.int .i64 0,.int .u8 2,.int .i64 1,.int .i64 0,.int .i64 2,.int .i64 0,.int .i64 0,.string { data:=#[] },.int .i64 0,.int .u8 3,.int .i64 0,.int .i64 9,.int .i64 0,.int .i64 1,.int .i64 0,.string { data:=#[97] },.int .i64 0,.int .u8 4,.int .i64 0,.int .i64 0,.int .i64 1,.int .i64 0,.int .i64 1,.string { data:=#[97] },.int .i64 0,.int .u8 4,.int .i64 1,.int .i64 0,.int .i64 1,.int .i64 0,.int .i64 1,.string { data:=#[97] },.int .i64 0] 24)).heap.size:=by simp
 generalize w1.alloc (.cells #[.int .u8 1,.int .i64 0,.int .i64 0,.int .i64 0,.int .i64 0,.int .i64 0,.string { data:=#[] },.int .i64 0,.int .u8 1,.int .i64 0,.int .i64 0,.int .i64 0,.int .i64 0,.int .i64 0,.string { data:=#[] },.int .i64 0,.int .u8 2,.int .i64 0,.int .i64 0,.int .i64 1,.int .i64 0,.int .i64 0,.string { data:=#[] },.int .i64 0,.int .u8 2,.int .i64 1,.int .i64 0,.int .i64 2,.int .i64 0,.int .i64 0,.string { data:=#[] },.int .i64 0,.int .u8 3,.int .i64 0,.int .i64 9,.int .i64 0,.int .i64 1,.int .i64 0,.string { data:=#[97] },.int .i64 0,.int .u8 4,.int .i64 0,.int .i64 0,.int .i64 1,.int .i64 0,.int .i64 1,.string { data:=#[97] },.int .i64 0,.int .u8 4,.int .i64 1,.int .i64 0,.int .i64 1,.int .i64 0,.int .i64 1,.string { data:=#[97] },.int .i64 0] 24)=w2 at *;have HB:Hid (∀k,w2.heap.size≤k→(w.heap.size≤k∧k≠w1.heap.size)):=(fun k hk=>⟨by have:=HG.out.size;omega,by omega⟩)
 have HA2:Hid (At (fun k=>w.heap.size≤k∧k≠w1.heap.size) w2 tb (wkL 0)):=(show At _ _ _ _ from zvm ▸ (HA.out.mono (fun k h1 h2=>⟨h2,by omega⟩)).grown hg2)
 have HG2:=za (ze HG.out hg2);have HGL:Hid (w.heap.size≤w1.heap.size):=HG.out.size;have HR:=za hrow;clear HA HG hg2 hrow;generalize hgb:w1.heap.size=g at *
 go_loopw [3] (fun i wr=>∃k:Nat,k≤7∧i = .int .i64 k∧At (fun k=>w.heap.size≤k∧k≠g) wr tb (wkL k)∧Out (fun k=>w.heap.size≤k∧k≠g) w2 wr) (fun i _=>7-(intOf i).toNat)
 case atStart=>exact⟨0,by omega,rfl,HA2.out,Out.refl _ _⟩
 case round=>
  obtain⟨k,hk,rfl,hat,hout⟩:=hrel;have HAT:=za hat;have HOUT:=za hout;have HRW:=za (HR.out.out hout (fun h=>h.2 rfl))
  have HBS:Hid (∀k,wr.heap.size≤k→(w.heap.size≤k∧k≠g)):=(fun k hk=>HB.out k (Nat.le_trans hout.size hk))
  clear hat hout
  rcases Nat.lt_or_ge k 7 with hlt|hge
  ·have HGOOD:=za (wk_good k hlt)
   have HS:=za (zvl k hlt);have c0:=HRW.out.cell k hlt 0 (by omega) (k*8) (by omega) _ rfl
   have c1:=HRW.out.cell k hlt 1 (by omega) (k*8+1) (by omega) _ rfl
   have c2:=HRW.out.cell k hlt 2 (by omega) (k*8+2) (by omega) _ rfl
   have c3:=HRW.out.cell k hlt 3 (by omega) (k*8+3) (by omega) _ rfl
   have c4:=HRW.out.cell k hlt 4 (by omega) (k*8+4) (by omega) _ rfl
   have c5:=HRW.out.cell k hlt 5 (by omega) (k*8+5) (by omega) _ rfl
   have c6:=HRW.out.cell k hlt 6 (by omega) (k*8+6) (by omega) _ rfl
   have c7:=HRW.out.cell k hlt 7 (by omega) (k*8+7) (by omega) _ rfl
   generalize wkC.getD k wkD=c at *;obtain⟨kind,node,zvw,zvx,zvy,zvz,key,code⟩:=c;simp only at c0 c1 c2 c3 c4 c5 c6 c7
   go_wp2_with (go_at_call 22;go_loud (refine(zj9 HAT.out ⟨kind,node,zvw,zvx,zvy,zvz,key,code⟩ HGOOD.out HBS.out).mono ?_;rintro e w3 ⟨rfl,hA3,hO3⟩;have HA3:=za hA3;have HO3:=za hO3;clear hA3 hO3))
   go_roundw
   case rel=>exact⟨k+1,by omega,rfl,by rw[HS.out];exact HA3.out,HOUT.out.trans HO3.out⟩
   case measure=>simp[intOf];omega
  ·obtain rfl:k=7:=by omega
   have HQ:Hid (St w g tb (wkL 7) wr):=(show St _ _ _ _ _ from ⟨HAT.out,(Out.of_grown HG2.out _).trans HOUT.out,Nat.lt_of_lt_of_le hs2 HOUT.out.size⟩)
   have hwg:w.heap.size≤g:=HGL.out;have F7:=za wk_f7;have F8:=za wk_f8;have F9:=za wk_f9;clear HAT HOUT HRW HBS HR HG2 HA2 HB;generalize wkL 7=L7 at *;generalize wk8=L8 at *;generalize wk9=L9 at *;generalize (Value.agg #[.int .u8 1,.int .i64 0,.int .i64 0,.int .i64 0,.int .i64 0,.int .i64 0,.string { data:=#[] },.int .i64 0])=ag1;generalize (Value.agg #[.int .u8 2,.int .i64 0,.int .i64 0,.int .i64 1,.int .i64 0,.int .i64 0,.string { data:=#[] },.int .i64 0])=ag3;generalize (Value.agg #[.int .u8 2,.int .i64 1,.int .i64 0,.int .i64 2,.int .i64 0,.int .i64 0,.string { data:=#[] },.int .i64 0])=ag4;generalize (Value.agg #[.int .u8 3,.int .i64 0,.int .i64 9,.int .i64 0,.int .i64 1,.int .i64 0,.string { data:=#[97] },.int .i64 0])=ag5;generalize (Value.agg #[.int .u8 4,.int .i64 0,.int .i64 0,.int .i64 1,.int .i64 0,.int .i64 1,.string { data:=#[97] },.int .i64 0])=ag6;generalize (Value.agg #[.int .u8 4,.int .i64 1,.int .i64 0,.int .i64 1,.int .i64 0,.int .i64 1,.string { data:=#[97] },.int .i64 0])=ag7
   go_wp2_with (first
    | (go_at_call 34;refine(HQ.out.look ⟨#[97]⟩ 0 F7.out.1).mono ?_;rintro e w3 ⟨rfl,hq,-⟩;replace HQ:=za hq;clear hq)
    | (go_at_call 45;refine(zke ⟨#[97]⟩ 1 _).mono ?_;rintro e w3 ⟨rfl,hg⟩;replace HQ:=za (HQ.out.grown hg);clear hg)
    | (go_at_call 36;refine(HQ.out.wanted ⟨#[97]⟩ 1 true F7.out.2.1).mono ?_;rintro e w3 ⟨rfl,hq,-⟩;replace HQ:=za hq;clear hq)
    | (go_at_call 32;refine(HQ.out.call 9 1 1 false 0 F7.out.2.2.1).mono ?_;rintro e w3 ⟨rfl,hq,-⟩;replace HQ:=za hq;clear hq)
    | (go_at_call 37;refine(HQ.out.holders ⟨#[97]⟩ 1 1 F7.out.2.2.2.1 F7.out.2.2.2.2.1).mono ?_;rintro e w3 ⟨p,c,rfl,hq,-⟩;replace HQ:=za hq;clear hq))
   go_wp2_with (first
    | (go_at_call 22;refine(HQ.out.step hwg 4 1 0 2 0 1 ⟨#[97]⟩ 0 L8 F7.out.2.2.2.2.2.1 F7.out.2.2.2.2.2.2).mono ?_;rintro e w3 ⟨rfl,hq,-⟩;replace HQ:=za hq;clear hq)
    | (go_at_call 34;refine(HQ.out.look ⟨#[97]⟩ 1 F8.out.1).mono ?_;rintro e w3 ⟨rfl,hq,-⟩;replace HQ:=za hq;clear hq)
    | (go_at_call 45;refine(zke ⟨#[97]⟩ 1 _).mono ?_;rintro e w3 ⟨rfl,hg⟩;replace HQ:=za (HQ.out.grown hg);clear hg)
    | (go_at_call 32;refine(HQ.out.call 9 1 1 true 0 F8.out.2.1).mono ?_;rintro e w3 ⟨rfl,hq,-⟩;replace HQ:=za hq;clear hq)
    | (go_at_call 37;refine(HQ.out.holders ⟨#[97]⟩ 1 2 F8.out.2.2.1 F8.out.2.2.2.1).mono ?_;rintro e w3 ⟨p,c,rfl,hq,-⟩;replace HQ:=za hq;clear hq)
    | (go_at_call 42;refine(HQ.out.current 1 F8.out.2.2.2.2.1 F8.out.2.2.2.2.2.1).mono ?_;rintro e w3 ⟨p,c,rfl,hq,-⟩;replace HQ:=za hq;clear hq))
   go_wp2_with (first
    | (go_at_call 22;refine(HQ.out.step hwg 6 0 9 0 2 0 ⟨#[97]⟩ 0 L9 F8.out.2.2.2.2.2.2.1 F8.out.2.2.2.2.2.2.2).mono ?_;rintro e w3 ⟨rfl,hq,-⟩;replace HQ:=za hq;clear hq)
    | (go_at_call 34;refine(HQ.out.look ⟨#[97]⟩ 0 F9.out.1).mono ?_;rintro e w3 ⟨rfl,hq,-⟩;replace HQ:=za hq;clear hq)
    | (go_at_call 42;refine(HQ.out.current 0 F9.out.2.1 F9.out.2.2.1).mono ?_;rintro e w3 ⟨p,c,rfl,hq,-⟩;replace HQ:=za hq;clear hq)
    | (go_at_call 31;refine(HQ.out.next 3 F9.out.2.2.2).mono ?_;rintro e w3 ⟨rfl,hq,-⟩;replace HQ:=za hq;clear hq))
   go_ret
   exact⟨rfl,HQ.out.base⟩
end Go.Proofs.YtjfelfjobeeenaaGreat
