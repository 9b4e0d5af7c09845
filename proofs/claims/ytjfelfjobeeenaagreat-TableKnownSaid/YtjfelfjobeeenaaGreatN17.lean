/- TablePuts: rows of bytes that a call makes. Conditions: none, or as the theorems say. -/
import Derived.Test.YtjfelfjobeeenaaGreatN7
import Derived.Test.YtjfelfjobeeenaaGreatN8
import Derived.Test.YtjfelfjobeeenaaGreatN16
import Derived.ArgAppend
namespace Go.Sf
set_option maxHeartbeats 200000000
set_option linter.unusedVariables false
set_option linter.unusedSimpArgs false
theorem Jz (w:World) (o:Obj) {r:Nat} (h:r<w.heap.size):(w.alloc o).heap[r]? = w.heap[r]?:=by
 rw[show(w.alloc o).heap=w.heap.push o from rfl,Array.getElem?_push,if_neg (Nat.ne_of_lt h)]
end Go.Sf
namespace Go.Proofs.YtjfelfjobeeenaaGreat
open Go.RowKit Go.Sf
theorem uy.later {B:Nat} {W w:World} {v:Value} {l:List Int} (h:uy B W v l) (hB:B≤W.heap.size) (hg:W.grownBy w none):uy w.heap.size w v l:=by
 obtain⟨p,cap,rfl,h1,h2,h3⟩:=(h.turn fun k hk=>hg.block k (Nat.lt_of_lt_of_le hk hB) (by simp)).ex
 refine⟨p,cap,rfl,h1,h2,?_⟩
 rcases h3 with h3|⟨a,rfl,hb,h4⟩
 ·exact Or.inl h3
 ·exact Or.inr ⟨a,rfl,Nat.lt_of_lt_of_le hb (Nat.le_trans hB hg.size),h4⟩
theorem xq {w:World} {base:Nat} {v:Value} {l:List Int} (h:w.ownsRow base 5 1 v l.length (zu l)):uy w.heap.size w v l:=by
 rcases h.2 with ⟨e1,h0⟩|⟨b,c,cur,e1,_,hb,r1,r2,_⟩
 ·have:l = []:=List.eq_nil_of_length_eq_zero h0
  subst this
  exact⟨none,0,by rw[e1];rfl,by simp,by omega,Or.inl rfl⟩
 ·exact⟨_,_,e1,r1,by unfold maxLen at r2;omega,Or.inr ⟨_,rfl,(Array.getElem?_eq_some_iff.1 hb).1,h.cells (g:=b) (by rw[e1];rfl)⟩⟩
theorem uy.front {B:Nat} {W:World} {p:Option Addr} {cap:Nat} {l:List Int} (h:uy B W (.slice p l.length cap) l) {n:Nat} (hn:n≤l.length):uy B W (.slice p n cap) (l.take n):=by
 obtain⟨p',cap',e,h1,h2,h3⟩:=h.ex
 injection e with e1 _ e2
 subst e1 e2;have hl:(l.take n).length=n:=by rw[List.length_take];omega
 refine⟨p,cap,by rw[hl],by omega,h2,?_⟩
 rcases h3 with h3|⟨a,rfl,hb2,h4⟩
 ·subst h3;exact Or.inl (by simp)
 ·refine Or.inr ⟨a,rfl,hb2,fun j u hu=>h4 j u ?_⟩
  rw[zu,List.map_take] at hu;have hj:j<n:=by
   rcases Nat.lt_or_ge j n with h|h
   ·exact h
   ·rw[List.getElem?_eq_none (by rw[List.length_take];omega)] at hu;cases hu
  rw[List.getElem?_take_of_lt hj] at hu
  exact hu
theorem zs0 {w:World} {b:Nat} {cur:Array Value} {s:ByteArray} {ad:Addr} {x:Int} {i0:TypeInfo} (hi:Tryz.prog.info? 5=some i0) (hz0:i0.zero=some (.int .u8 0)) (hz1:i0.size=1) (hz2:i0.bytes=1) (hb:w.heap[b]? = some (.cells cur 5 (cur.size,cur.size+1))) (hcm:cur.size≤9223372036854775807) (hs:s.size≤cur.size) (hsm:s.size≤100000) (hc:∀j u,(zu (qz s))[j]? = some u→w.cell? ⟨b,j,none⟩=some u) (hx:w.cell? ad=some (.int .u8 x)) (ty:TypeId) (cx:Nat) :
  ∃v' w',(Builtin.append_ #[25,25] ty #[.slice (some ⟨b,0,none⟩) s.size cur.size,.slice (some ad) 1 cx]).run Tryz.prog w = .ok v' w'∧w.grownBy w' (some b)∧uy w'.heap.size w' v' (qz s ++ [x]):=by
 have hlen:=zy s;have hnews:∀j u,([Value.int .u8 x])[j]? = some u→w.cell? (ad.add j)=some u:=by
  intro j u hu
  cases j with
  | zero=>simp at hu;subst hu;simpa[Addr.add] using hx
  | succ j=>simp at hu
 have hsz:(qz s ++ [x]).length=s.size+1:=by simp[hlen]
 by_cases hroom:s.size+1≤cur.size
 ·have hr:=run_append_room_cells (P:=Tryz.prog) (w:=w) 25 ty 5 i0 Tryz.underlying25 hi b 0 s.size cur.size ad 1 cx [.int .u8 x] (by simp[hz1]) hnews (by simp[Value.oneCell']) hroom (fun j hj=>by
   have:j=0:=by simpa using hj
   subst this;simp[World.cell?,hb,hz1];omega) (fun j hj=>by
   have:j=0:=by simpa using hj
   subst this;simp[World.frozen?,hb,hz1];omega)
  have e1:0+s.size*i0.size=s.size:=by rw[hz1];omega
  rw[e1] at hr;refine⟨_,_,hr,?_,?_⟩
  ·exact Zm w b s.size (.int .u8 x)
  ·have hsl:s.size<cur.size:=by omega
   have hb2:(w.setCells b s.size [.int .u8 x]).heap[b]? = some (.cells (cur.setIfInBounds s.size (.int .u8 x)) 5 (cur.size,cur.size+1)):=by
    show(w.setCell ⟨b,s.size,none⟩ (.int .u8 x)).heap[b]? = _
    simp[World.setCell,Array.getElem?_modify,hb]
   refine⟨_,_,by rw[hsz],by rw[hsz];omega,hcm,Or.inr ⟨_,rfl,(Array.getElem?_eq_some_iff.1 hb2).1,fun j u hu=>?_⟩⟩
   have e2:(⟨b,0,none⟩:Addr).add j=⟨b,j,none⟩:=by rw[Addr.add_lit];simp
   rw[e2,zh hb2];rw[zu,List.map_append] at hu
   by_cases hj:j<s.size
   ·rw[List.getElem?_append_left (by rw[List.length_map,hlen];exact hj)] at hu
    have:=hc j u hu;rw[zh hb] at this;rw[←this,Array.getElem?_setIfInBounds,if_neg (by omega)]
   ·rw[List.getElem?_append_right (by rw[List.length_map,hlen];omega),List.length_map,hlen] at hu
    have hj0:j=s.size:=by
     rcases Nat.eq_or_lt_of_le (Nat.le_of_not_lt hj) with h|h
     ·exact h.symm
     ·rw[List.getElem?_eq_none (by simp;omega)] at hu;cases hu
    subst hj0;simp at hu;rw[Array.getElem?_setIfInBounds,if_pos rfl,if_pos hsl,hu]
 ·have hr:=run_append_grow (P:=Tryz.prog) w 25 ty 5 i0 (.int .u8 0) Tryz.underlying25 hi hz0 ⟨b,0,none⟩ s.size cur.size (zu (qz s)) (by simp[zu,hlen,hz1]) (fun j u hu=>by
   have e2:(⟨b,0,none⟩:Addr).add j=⟨b,j,none⟩:=by rw[Addr.add_lit];simp
   rw[e2];exact hc j u hu) ad 1 cx [.int .u8 x] (by simp[hz1]) hnews (by omega) (by omega) (by rw[hz2];exact growslice_fits (by omega) (by omega))
  refine⟨_,_,hr,⟨rfl,rfl,rfl,by simp,fun k hk _=>(zc w.drew _ none).block k hk (by simp)⟩,?_⟩
  have hge:=grownCap_ge w (s.size+1) cur.size 5;have hcm2:=grownCap_le_maxLen w (s.size+1) cur.size 5 (by unfold maxLen;omega)
  refine⟨_,_,by rw[hsz],by rw[hsz];exact hge,by unfold maxLen at hcm2;omega,Or.inr ⟨_,rfl,by simp,fun j u hu=>?_⟩⟩
  have e2:(⟨w.heap.size,0,none⟩:Addr).add j=⟨w.heap.size,j,none⟩:=by rw[Addr.add_lit];simp
  rw[e2];refine(zh (b:=w.drew.heap.size) (heap_alloc_new w.drew _) j).trans ?_;have hjl:j<(zu (qz s ++ [x])).length:=(List.getElem?_eq_some_iff.1 hu).1;rw[Array.getElem?_append_left (by simp[zu] at hjl ⊢;omega)]
  rw[←hu];simp[zu,List.map_append]
set_option maxRecDepth 100000 in
theorem Jr (c:Cmd) (W:World):Calls Tryz.prog 12 #[zp c] W fun e w'=>e = .returned (zp c)∧W.grownBy w' none:=by
 simp only[zp]
 go_enter Tryz.func12,Tryz.ntmps12
 go_wp2;refine bodyPost_ret (v:=zp c) (by simp[zp,results,Tryz.results12,go_sem]) rfl ⟨rfl,by repeat (first|exact zd _|exact zc _ _ _|refine zg ?_ _|refine zf ?_)⟩
theorem zqc (a b:Cmd) (w:World):(binOp .neq 24 (zp a) (zp b)).run Tryz.prog w = .ok (.bool (!decide (a=b))) w:=by
 obtain⟨a1,a2,a3,a4,a5,a6,a7,a8⟩:=a;obtain⟨b1,b2,b3,b4,b5,b6,b7,b8⟩:=b;simp[zp,go_sem,qb]
 by_cases e1:a1=b1 <;> by_cases e2:a2=b2 <;> by_cases e3:a3=b3 <;> by_cases e4:a4=b4 <;> by_cases e5:a5=b5 <;> by_cases e6:a6=b6 <;> by_cases e7:a7=b7 <;> by_cases e8:a8=b8 <;> simp[e1,e2,e3,e4,e5,e6,e7,e8]
theorem zdz (w:World) (s:ByteArray) (hs:s.size≤1000) (x:Int) {ops:Array Oper} {rest:List Oper} {o:Oper} {a:Act} {Q:Exit→Act→World→Prop} (hgd:o.guard=none) (so xo:Operand) (hop:o.op = .call { callee:=.builtin .append,args:=#[so,xo],argTypes:=#[25,25] })
  (hso:a.eval so = .slice (some ⟨w.heap.size,0,none⟩) s.size (grownCap w s.size 0 5)) (b:Nat) (hb:b=w.heap.size+1) (hxo:a.eval xo = .slice (some ⟨b,0,none⟩) 1 1)
  (h:∀p' c' w',w.grownBy w' none→uy w'.heap.size w' (.slice p' (s.size+1) c') (qz s ++ [x])→wpList Tryz.prog ops Q rest (a.put o.dst (.slice p' (s.size+1) c')) w') :
  wpList Tryz.prog ops Q (o :: rest) a ((Lib.bytesWorld w 5 s).alloc (.cells #[.int .u8 x] 5)):=by
 subst hb;obtain⟨i0,hi,hz0,hz1,hz2⟩:=info_parts Zr;have hge:=grownCap_ge w s.size 0 5;have hcm:=grownCap_le_maxLen w s.size 0 5 (by unfold maxLen;omega)
 have hcs:(Lib.bytesCells w 5 s).size=grownCap w s.size 0 5:=by
  have:s.data.size=s.size:=rfl;simp[Lib.bytesCells];omega
 have hb:((Lib.bytesWorld w 5 s).alloc (.cells #[.int .u8 x] 5)).heap[w.heap.size]? = some (.cells (Lib.bytesCells w 5 s) 5 ((Lib.bytesCells w 5 s).size,(Lib.bytesCells w 5 s).size+1)):=
  (Jz _ _ (by rw[Lib.bytesWorld_size];omega)).trans (Lib.bytesWorld_at_new w 5 s)
 have hraw:=zbi w s;obtain⟨p0,c0,e0,hc0⟩:=hraw.ex;have hc:∀j u,(zu (qz s))[j]? = some u→((Lib.bytesWorld w 5 s).alloc (.cells #[.int .u8 x] 5)).cell? ⟨w.heap.size,j,none⟩=some u:=by
  intro j u hu;have e1:=(Value.slice.injEq _ _ _ _ _ _).mp e0 |>.1
  rcases hc0 with h0|⟨ad,h1,h2⟩
  ·rw[h0] at hu;simp[zu] at hu
  ·rw[h1] at e1
   obtain rfl:=(Option.some.injEq _ _).mp e1;have:=h2 j u hu;rw[Addr.add_lit,Nat.zero_add] at this
   exact(zc _ _ none).cell this (by simp)
 have hx:((Lib.bytesWorld w 5 s).alloc (.cells #[.int .u8 x] 5)).cell? ⟨w.heap.size+1,0,none⟩=some (.int .u8 x):=by
  have:=cell_one_new (Lib.bytesWorld w 5 s) (.int .u8 x) 5 0 (.int .u8 x) rfl;rw[Lib.bytesWorld_size] at this;simpa[Addr.add] using this
 obtain⟨v',w',hr,hg,hB⟩:=zs0 hi hz0 hz1 hz2 hb (by rw[hcs];unfold maxLen at hcm;omega) (by rw[hcs];exact hge) (by omega) hc hx o.type 1
 rw[hcs] at hr;obtain⟨p',c',rfl,-⟩:=hB.ex;have hl:(qz s ++ [x]).length=s.size+1:=by simp[zy]
 rw[hl] at hr hB;refine Go.Lib.wpList_append_run _ hgd so xo 25 25 hop _ _ hso hxo _ _ hr (h p' c' w' ?_ hB);have g1:w.grownBy ((Lib.bytesWorld w 5 s).alloc (.cells #[.int .u8 x] 5)) none:=zg (ze8 w _ s) _
 exact jk g1 hg (fun k hk=>by cases hk;exact Nat.le_refl _)
def getV (o:Option Cmd):Value:=match o with
 | some c=>zp c
 | none=>.agg zcj
def getE (o:Option Cmd):Int:=match o with
 | some _=>0
 | none=>2
theorem Qv {W:World} {v:Value} {l:List Int} (h:uy W.heap.size W v l) (hl:BL l) (o:Option Cmd) (ho:jh l=o):Calls Tryz.prog 15 #[v] W fun e w'=>e = .returned (.tuple #[getV o,.int .i64 (getE o)])∧W.grownBy w' none:=by
 refine(get_any h hl).mono ?_;rintro e w' ⟨h1,h2⟩;rw[ho] at h1
 cases o <;> exact⟨h1,h2⟩
theorem jr {W wp w:World} {a0 a1 a2 a3 a4 a5 a6 a7:Value} {t:TypeId} {v:Value} {E:List Int} (h0:(W.alloc (.cells #[a0,a1,a2,a3,a4,a5,a6,a7] t)).grownBy wp none) (hx:uy wp.heap.size wp v E) (hg:wp.grownBy w none) :
  w.cell? ⟨W.heap.size,0,none⟩=some a0∧w.cell? ⟨W.heap.size,1,none⟩=some a1∧w.cell? ⟨W.heap.size,2,none⟩=some a2∧w.cell? ⟨W.heap.size,3,none⟩=some a3∧w.cell? ⟨W.heap.size,4,none⟩=some a4∧w.cell? ⟨W.heap.size,5,none⟩=some a5∧w.cell? ⟨W.heap.size,6,none⟩=some a6∧w.cell? ⟨W.heap.size,7,none⟩=some a7∧(convert 25 9 v).run Tryz.prog w = .ok (.string (ofB E)) w:=by
 obtain⟨d0,d1,d2,d3,d4,d5,d6,d7⟩:=zd4 (ze h0 hg)
 exact⟨d0,d1,d2,d3,d4,d5,d6,d7,ys (hx.later (Nat.le_refl _) hg)⟩
end Go.Proofs.YtjfelfjobeeenaaGreat
