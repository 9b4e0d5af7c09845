/- VaultKeeps: what stands between two calls, in memory. Conditions: none, or as the theorems say. -/
import Derived.Test.YtbcbhlfjgobejaaGreatI45
import Derived.Test.YtbcbhlfjgobejaaGreatI28
set_option linter.unusedSimpArgs false
set_option linter.unusedVariables false
namespace Go.Proofs.YtbcbhlfjgobejaaGreat
set_option maxHeartbeats 200000000
open Go.RowKit Go.Sf Go.Shelf
structure HBv (W:World) (own:Nat→Prop) (nb:Nat) (life:Int) (l:List ShM) (a:Value) (k:Nat) (w:World):Prop where
 box:w.heap[nb]? = some (.cells #[.int .i64 life,a] 106 (0,0))
 nbo:own nb∧W.heap.size≤nb
 row:Qi w a l
 rowo:∀g,a.ownBlock=some g→own g∧W.heap.size≤g
 bs:∀x∈l,BS x
 few:l.length≤k
section
variable {W w w' : World} {own own' : Nat → Prop} {vb db nb tb xb k : Nat} {V V' : Vlt} {al : List (Int × List Int)} {blk : Int → List Nat} {life life' : Int} {l l' : List ShM} {a nv : Value} {c : Vd}
theorem HBv.turn (h:HBv W own nb life l a k w) (ht:zq (fun k=>¬own k) w w'):HBv W own nb life l a k w':=
 ⟨(ht.block nb (xd h.box) (fun e=>e h.nbo.1)).trans h.box,h.nbo,h.row.same fun g hg=>ht.block g (uk.lt h.row hg) (fun e=>e (h.rowo g hg).1),h.rowo,h.bs,h.few⟩
theorem HBv.grown (h:HBv W own nb life l a k w) (hg:w.grownBy w' none):HBv W own nb life l a k w':=h.turn (ue hg)
theorem HBv.mono (h:HBv W own nb life l a k w) (ho:∀q,own q→own' q):HBv W own' nb life l a k w:=⟨h.box,⟨ho _ h.nbo.1,h.nbo.2⟩,h.row,fun g hg=>⟨ho g (h.rowo g hg).1,(h.rowo g hg).2⟩,h.bs,h.few⟩
theorem HBv.up (h:HBv W own nb life l a k w):HBv W own nb life l a (k+1) w:=⟨h.box,h.nbo,h.row,h.rowo,h.bs,by have:=h.few;omega⟩
theorem HBv.poke {r:Nat} (h:HBv W own nb life l a k w) (hg:w.grownBy w' (some r)) (h1:r≠nb) (h2:a.ownBlock≠some r):HBv W own nb life l a k w':=
 ⟨(hg.block nb (xd h.box) (fun e=>h1 (Option.some.inj e).symm)).trans h.box,h.nbo,uk.grown h.row hg (fun g hg2 e=>h2 (by rw[hg2];exact e.symm)),h.rowo,h.bs,h.few⟩
theorem HBv.cells (h:HBv W own nb life l a k w):w.cell? ⟨nb,0,none⟩=some (.int .i64 life)∧w.cell? ⟨nb,1,none⟩=some a∧∀i,w.frozen? ⟨nb,i,none⟩=false:=
 ⟨(zh h.box 0).trans rfl,(zh h.box 1).trans rfl,fun i=>by simp[World.frozen?,h.box]⟩
theorem VR.keepB (h:VR W own vb db V w) (hb:own nb∧W.heap.size≤nb) (hg:w.grownBy w' (some nb)) (hz:w'.heap.size=w.heap.size):VR W own vb db V w':=by
 refine h.oth ⟨hg.os,hg.tape,hg.output,hg.size,fun q hq hn=>hg.block q hq (fun e=>hn (by rw[Option.some.inj e];exact hb.1))⟩ ?_ (fun q hq=>hq) (fun q hq=>Or.inl hq) (fun q hq=>by rw[hz];exact h.lt hq)
 exact⟨hg.os.trans h.gr.os,hg.tape.trans h.gr.tape,hg.output.trans h.gr.output,by rw[hz];exact h.gr.size,fun q hq _=>(hg.block q (Nat.lt_of_lt_of_le hq h.gr.size) (fun e=>by have:=Option.some.inj e;omega)).trans (h.gr.block q hq (by simp))⟩
structure Qh (W:World) (own:Nat→Prop) (vb db nb:Nat) (V:Vlt) (al:List (Int × List Int)) (blk:Int→List Nat) (life:Int) (l:List ShM) (a:Value) (k:Nat) (w:World):Prop where
 vr:VR W own vb db V w
 vi:VI V al blk
 lf:(vx al).life=life
 xl:XL (vx al) l
 next:V.S.next≤(k:Int)+1
 n:V.S.d.n≤4096
 hb:HBv W own nb life l a k w
theorem Qh.grown (h:Qh W own vb db nb V al blk life l a k w) (hg:w.grownBy w' none):Qh W own vb db nb V al blk life l a k w':=⟨h.vr.grown hg,h.vi,h.lf,h.xl,h.next,h.n,h.hb.grown hg⟩
theorem Qh.failed (h:Qh W own vb db nb V al blk life l a k w) (n:Int) (hk:VR W own vb db { V with S:={ V.S with d:=V.S.d.failed n } } w') (ht:zq (fun k=>¬own k) w w'):Qh W own vb db nb { V with S:={ V.S with d:=V.S.d.failed n } } al blk life l a k w':=
 ⟨hk,h.vi.failed n,h.lf,h.xl,h.next,h.n,h.hb.turn ht⟩
theorem Xu (hv:VR W own vb db V w) (hi:VI V al blk) (hl:(vx al).life=life) (hx:XL (vx al) l) (hb:HBv W own nb life l a k w) (hk:k≤1000) {p:Option Addr} {c:Nat} (ha:a = .slice p l.length c):Calls Tryz.prog 68 #[.pointer (some ⟨vb,0,none⟩),.agg #[.int .i64 life,.slice p l.length c]] w fun e w'=>e = .returned (.bool true)∧w.grownBy w' none:=by
 have hs:=hi.same hx;rw[hl] at hs;have hf:=hb.few;refine(zcd hv (by rw[hs.2.1];omega) (by rw[←ha];exact hb.row) hb.bs (by omega)).mono ?_
 rintro e w' ⟨r,rfl,hg,hr⟩
 exact⟨by rw[hr.2 hs],hg⟩
theorem zla (hv:VR W own vb db V w) (hvl:V.sh.length≤1000) (hb:HBv W own nb life l a k w) (hk:k≤1000) {p:Option Addr} {c:Nat} (ha:a = .slice p l.length c):Calls Tryz.prog 68 #[.pointer (some ⟨vb,0,none⟩),.agg #[.int .i64 life,.slice p l.length c]] w (zi0 w (Ur V life l)):=by
 have hf:=hb.few
 exact zcd hv hvl (by rw[←ha];exact hb.row) hb.bs (by omega)
structure VB (W:World) (own:Nat→Prop) (nb tb xb:Nat) (life:Int) (l:List ShM) (a:Value) (life':Int) (l':List ShM) (nv:Value) (c:Vd) (k:Nat) (w:World):Prop where
 v:HBv W own nb life l a k w
 t:HBv W own tb life' l' nv k w
 c:w.heap[xb]? = some (.cells (Vi c).toArray 114 (0,0))
 co:own xb∧W.heap.size≤xb
 ne:nb≠tb
theorem VB.turn (h:VB W own nb tb xb life l a life' l' nv c k w) (ht:zq (fun k=>¬own k) w w'):VB W own nb tb xb life l a life' l' nv c k w':=⟨h.v.turn ht,h.t.turn ht,(ht.block xb (xd h.c) (fun e=>e h.co.1)).trans h.c,h.co,h.ne⟩
theorem VB.grown (h:VB W own nb tb xb life l a life' l' nv c k w) (hg:w.grownBy w' none):VB W own nb tb xb life l a life' l' nv c k w':=h.turn (ue hg)
theorem VB.mono (h:VB W own nb tb xb life l a life' l' nv c k w) (ho:∀q,own q→own' q):VB W own' nb tb xb life l a life' l' nv c k w:=⟨h.v.mono ho,h.t.mono ho,h.c,⟨ho _ h.co.1,h.co.2⟩,h.ne⟩
theorem VB.setl {l2:List ShM} {nv2:Value} (h:VB W own nb tb xb life l a life' l' nv c k w) (hr:Qi w nv2 l2) (ho:∀g,nv2.ownBlock=some g→own g∧W.heap.size≤g) (hb:∀x∈l2,BS x) (hf:l2.length≤k):VB W own nb tb xb life l a life' l2 nv2 c k (w.setCell ⟨tb,1,none⟩ nv2):=by
 have hg:=yb w tb 1 nv2;have hne:nv2.ownBlock≠some tb:=zb5 hr h.t.box (by decide)
 have hnea:a.ownBlock≠some tb:=zb5 h.v.row h.t.box (by decide)
 have hxt:xb≠tb:=zll h.c h.t.box (by decide)
 refine⟨h.v.poke hg (fun e=>h.ne e.symm) hnea,⟨?_,h.t.nbo,uk.grown hr hg (fun g hg2 e=>hne (by rw[hg2];exact e.symm)),ho,hb,hf⟩,(hg.block xb (xd h.c) (fun e=>hxt (Option.some.inj e))).trans h.c,h.co,h.ne⟩
 simp only[World.setCell,Array.getElem?_modify,h.t.box,if_true,Option.map_some]
 rfl
theorem VB.setn {n:Int} (h:VB W own nb tb xb life l a life' l' nv c k w):VB W own nb tb xb life l a n l' nv c k (w.setCell ⟨tb,0,none⟩ (.int .i64 n)):=by
 have hg:=yb w tb 0 (.int .i64 n);have hne:nv.ownBlock≠some tb:=zb5 h.t.row h.t.box (by decide)
 have hnea:a.ownBlock≠some tb:=zb5 h.v.row h.t.box (by decide)
 have hxt:xb≠tb:=zll h.c h.t.box (by decide)
 refine⟨h.v.poke hg (fun e=>h.ne e.symm) hnea,⟨?_,h.t.nbo,uk.grown h.t.row hg (fun g hg2 e=>hne (by rw[hg2];exact e.symm)),h.t.rowo,h.t.bs,h.t.few⟩,(hg.block xb (xd h.c) (fun e=>hxt (Option.some.inj e))).trans h.c,h.co,h.ne⟩
 simp only[World.setCell,Array.getElem?_modify,h.t.box,if_true,Option.map_some]
 rfl
theorem VB.newl {w5:World} {l2:List ShM} {v:Value} (h:VB W own nb tb xb life l a life' l' nv c k w) (hv:VR W own vb db V w) (hg:w.grownBy w5 none) (hr:Qi w5 v l2) (ho:∀g,v.ownBlock=some g→w.heap.size≤g) (hb:∀x∈l2,BS x) (hf:l2.length≤k) :
  VB W (fun q=>own q∨(w.heap.size≤q∧q<w5.heap.size)) nb tb xb life l a life' l2 v c k (w5.setCell ⟨tb,1,none⟩ v)∧VR W (fun q=>own q∨(w.heap.size≤q∧q<w5.heap.size)) vb db V (w5.setCell ⟨tb,1,none⟩ v)∧∀b o,b≠tb→w.heap[b]? = some o→(w5.setCell ⟨tb,1,none⟩ v).heap[b]? = some o:=by
 have h1:=(h.grown hg).mono (own':=fun q=>own q∨(w.heap.size≤q∧q<w5.heap.size)) fun q hq=>Or.inl hq
 refine⟨h1.setl hr (fun g hg2=>⟨Or.inr ⟨ho g hg2,uk.lt hr hg2⟩,Nat.le_trans hv.gr.size (ho g hg2)⟩) hb hf,(hv.more hg).keepB h1.t.nbo (yb w5 tb 1 v) (by simp[World.setCell]),fun b o hb2 ho2=>?_⟩
 exact((yb w5 tb 1 v).block b (Nat.lt_of_lt_of_le (xd ho2) hg.size) (fun e=>hb2 (Option.some.inj e))).trans ((hg.block b (xd ho2) (by simp)).trans ho2)
theorem VB.take (h:VB W own nb tb xb life l a life' l' nv c k w):HBv W own nb life' l' nv k ((w.setCell ⟨nb,0,none⟩ (.int .i64 life')).setCell ⟨nb,1,none⟩ nv)∧w.grownBy ((w.setCell ⟨nb,0,none⟩ (.int .i64 life')).setCell ⟨nb,1,none⟩ nv) (some nb)∧((w.setCell ⟨nb,0,none⟩ (.int .i64 life')).setCell ⟨nb,1,none⟩ nv).heap.size=w.heap.size:=by
 have hg:=(yb w nb 0 (.int .i64 life')).trans (yb (w.setCell ⟨nb,0,none⟩ (.int .i64 life')) nb 1 nv);have hne:nv.ownBlock≠some nb:=zb5 h.t.row h.v.box (by decide)
 refine⟨⟨?_,h.v.nbo,uk.grown h.t.row hg (fun g hg2 e=>hne (by rw[hg2];exact e.symm)),h.t.rowo,h.t.bs,h.t.few⟩,hg,by simp[World.setCell]⟩
 simp only[World.setCell,Array.getElem?_modify,h.v.box,if_true,Option.map_some]
 rfl
def VMid (W:World) (vb db nb tb xb:Nat) (life:Int) (l:List ShM) (a:Value) (c:Vd) (k:Nat) (f:Value) (w:World):Prop:=
 ∃(own:Nat→Prop) (life':Int) (l':List ShM) (nv:Value),VB W own nb tb xb life l a life' l' nv c (k+1) w∧
  ((f = .int .i64 0∧∃V al blk,VR W own vb db V w∧VI V al blk∧(vx al).life=life'∧XL (vx al) l'∧V.S.next≤(k:Int)+2∧V.S.d.n≤4096)∨
  (∃e V al blk,f = .int .i64 e∧e≠0∧e≠180∧VR W own vb db V w∧VI V al blk∧(vx al).life=life∧XL (vx al) l∧V.S.next≤(k:Int)+2∧V.S.d.n≤4096)∨
  (f = .int .i64 180∧∃d n X1 X2,DR W own db d w∧d.off=true∧n≤4096∧DG d n (fun l=>Zx X1 l∨Zx X2 l) ((k:Int)+2)∧X1.life=life∧XL X1 l∧X2.life=life'∧XL X2 l'))
theorem zcm {X':VX} {r:Vlt × Int} (hb:VB W own nb tb xb life l a life' l' nv c (k+1) w) (hr:VR W own vb db r.1 w) (ho:VOut V al X' r) (hi:VI V al blk) (h1:(vx al).life=life) (h2:XL (vx al) l) (h3:X'.life=life') (h4:XL X' l') (hn:V.S.next≤(k:Int)+1) (hd:V.S.d.n≤4096):VMid W vb db nb tb xb life l a c k (.int .i64 r.2) w:=by
 refine⟨own,life',l',nv,hb,?_⟩
 rcases ho with ⟨V',al',blk',rfl,g1,g2,g3,g4⟩|⟨e,e1,e2,rfl⟩|⟨V',rfl,g1,g2⟩
 ·exact Or.inl ⟨rfl,V',al',blk',hr,g1,by rw[g2];exact h3,by rw[g2];exact h4,by omega,by omega⟩
 ·exact Or.inr (Or.inl ⟨e,V,al,blk,rfl,e1,e2,hr,hi,h1,h2,by omega,hd⟩)
 ·exact Or.inr (Or.inr ⟨rfl,V'.S.d,V.S.d.n,vx al,X',hr.dr,g1,hd,g2.mono (fun _ e=>e) (by omega),h1,h2,h3,h4⟩)
theorem VI.late (h:VI V al blk):V.S.d.late.length≤5000:=by
 rw[h.inv.late]
 exact Nat.zero_le _
theorem VB.put {s:ShX} (hb:VB W own nb tb xb life l a life (woI l s.s ++ [s.s]) nv c (k+1) w) (hv:VR W own vb db V w) (hi:VI V al blk) (h1:(vx al).life=life) (h2:XL (vx al) l) (hn:V.S.next≤(k:Int)+1) (hk:k≤1000) (hd:V.S.d.n≤4096) (hs:ShXOk W s) (hlen:s.s.key.length≤5000∧s.s.row.length≤5000) :
  Calls Tryz.prog 64 #[.pointer (some ⟨vb,0,none⟩),.agg #[.slice s.kp s.s.key.length s.kc,.int .i64 s.s.znm,.int .i64 s.s.node,.slice s.rp s.s.row.length s.rc]] w fun e w'=>∃f,e = .returned (.int .i64 f)∧VMid W vb db nb tb xb life l a c k (.int .i64 f) w':=by
 have hbk:∀q,q<W.heap.size→w.heap[q]? = W.heap[q]?:=fun q hq=>hv.gr.block q hq (by simp)
 refine(hv.put hi.late ((hs.k.turn hbk).mono fun q hq=>hv.old q hq) ((hs.r.turn hbk).mono fun q hq=>hv.old q hq) hs.bl (by omega) hs.v.2).mono ?_
 rintro e w' ⟨rfl,g1,g2⟩
 exact⟨_,rfl,zcm (hb.turn g2) g1 (zaw hi (by omega) s.s hs.v.2 hs.bl) hi h1 h2 h1 (h2.put s.s) hn hd⟩
theorem VB.born {n:Int} (hb:VB W own nb tb xb life l a n l nv c (k+1) w) (hv:VR W own vb db V w) (hi:VI V al blk) (h1:(vx al).life=life) (h2:XL (vx al) l) (hn:V.S.next≤(k:Int)+1) (hk:k≤1000) (hd:V.S.d.n≤4096) :
  Calls Tryz.prog 62 #[.pointer (some ⟨vb,0,none⟩),.int .i64 n] w fun e w'=>∃f,e = .returned (.int .i64 f)∧VMid W vb db nb tb xb life l a c k (.int .i64 f) w':=by
 refine(hv.born hi.late n).mono ?_;rintro e w' ⟨rfl,g1,g2⟩
 exact⟨_,rfl,zcm (hb.turn g2) g1 (zat hi (by omega) n) hi h1 h2 rfl (h2.born n) hn hd⟩
theorem VB.drop {s:ShM} (hb:VB W own nb tb xb life l a life (woI l s) nv c (k+1) w) (hv:VR W own vb db V w) (hi:VI V al blk) (h1:(vx al).life=life) (h2:XL (vx al) l) (hn:V.S.next≤(k:Int)+1) (hk:k≤1000) (hd:V.S.d.n≤4096) :
  Calls Tryz.prog 69 #[.pointer (some ⟨vb,0,none⟩),.agg #[.string (ofB s.key),.int .i64 s.znm]] w fun e w'=>∃f,e = .returned (.int .i64 f)∧VMid W vb db nb tb xb life l a c k (.int .i64 f) w':=by
 refine(hv.drop hi.late (idS s)).mono ?_;rintro e w' ⟨rfl,g1,g2⟩
 exact⟨_,rfl,zcm (hb.turn g2) g1 (zau hi (idS s)) hi h1 h2 h1 (h2.drop s) hn hd⟩
theorem zlj (op:BinOp) (a b:Int):bits op .i64 a b<9223372036854775808:=by
 show IntKind.i64.wrap _<_
 rw[IntKind.wrap_i64];omega
def VLoop (W:World) (m db nb:Nat) (s e i:Value) (wr:World):Prop:=∃(own:Nat→Prop) (vb:Nat) (V:Vlt) (al:List (Int × List Int)) (blk:Int→List Nat) (life:Int) (l:List ShM) (a:Value) (k:Nat),k≤m∧i = .int .i64 (k:Int)∧e = .int .i64 0∧s = .pointer (some ⟨vb,0,none⟩)∧Qh W own vb db nb V al blk life l a k wr
end
def zle (w:World) (v:Value) (l:List Int):Prop:=∃p cap,v = .slice p l.length cap∧l.length≤9223372036854775807∧(∀x∈l,-9223372036854775808≤x∧x<9223372036854775808)∧(l = []∨∃b off,p=some ⟨b,off,none⟩∧∀i (hi:i<l.length),w.cell? ⟨b,off+i,none⟩=some (.int .i64 l[i]))
end Go.Proofs.YtbcbhlfjgobejaaGreat
