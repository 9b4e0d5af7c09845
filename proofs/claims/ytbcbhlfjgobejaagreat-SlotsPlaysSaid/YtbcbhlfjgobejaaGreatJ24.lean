/- starfishref19.Block is the block of a part: the walk. Conditions: none, or as the theorems say. -/
import Derived.Test.YtbcbhlfjgobejaaGreatJ19
import Derived.Test.YtbcbhlfjgobejaaGreatJ23
import Derived.Test.YtbcbhlfjgobejaaGreatJ15
import Derived.Test.YtbcbhlfjgobejaaGreatJ17
import Derived.Test.YtbcbhlfjgobejaaGreatJ1
import Derived.Deep.OwnRows
set_option linter.unusedSimpArgs false
set_option linter.unusedVariables false
namespace Go.Proofs.YtbcbhlfjgobejaaGreat
set_option maxHeartbeats 200000000
open Go.RowKit Go.Sf
theorem BSt.form {W w:World} {v:Value} {l:List Int} (h:BSt W v l w):∃p c,v = .slice p l.length c:=by
 rcases h.row.2 with ⟨rfl,h0⟩|⟨g,c,cur,rfl,_⟩
 ·exact⟨none,0,by rw[h0]⟩
 ·exact⟨_,_,rfl⟩
def lenV:Value→Nat
 | .slice _ n _=>n
 | _=>0
theorem hd_told (k index count:Nat) (s:ByteArray) (hs:s.size≤230):[80]++be 8 (k:Int).toNat++be 2 (index:Int).toNat++be 2 (count:Int).toNat ++ [(s.size:Int)]++xu s=hdP ⟨k,index,count,xu s⟩:=by
 have e:be 1 (xu s).length = [(s.size:Int)]:=by
  rw[vd,zae];have h0:be 0 (s.size / 256) = []:=rfl;have h1:s.size%256=s.size:=by omega
  rw[h0,h1]
  rfl
 unfold hdP;rw[e];simp
theorem hd_fill {p:Prt} (h:p.b.length≤230) {j:Nat} (hj:(hdP p++List.replicate j 0).length=244):hdP p++List.replicate j 0=qi p:=by
 unfold qi;rw[List.length_append,List.length_replicate] at hj
 congr 2
 omega
theorem zlc {p:Prt} (hb:BL p.b):BL (qi p):=fun b h=>za6 (C:=fun _=>0) hb b (by unfold qn;simp[h])
set_option maxRecDepth 100000 in
theorem zcg (k index count:Nat) (s:ByteArray) (hk:k<9223372036854775808) (hi:index<65536) (hc:count<65536) (hs:s.size≤230) (W:World) :
  Calls Tryz.prog 23 #[.int .i64 k,.int .i64 index,.int .i64 count,.string s] W fun e w'=>e = .returned (.string (ofB (qn zu ⟨k,index,count,xu s⟩)))∧W.grownBy w' none:=by
 have HF:Hid (k<9223372036854775808∧index<65536∧count<65536∧s.size≤230):=(show _∧_ from ⟨hk,hi,hc,hs⟩)
 have hks:((s.size:Int)%256)=(s.size:Int):=by omega
 clear hk hi hc hs;obtain⟨i0,hi,hz0,hz1,hz2⟩:=info_parts ur;have P0:=zd (BSt.start W 80)
 go_enter Tryz.func23,Tryz.ntmps23
 go_upto_region 3 with (first
  | (go_at_call 98;have K:=P0.out;refine(Vh _ 8 (by omega) (by omega) (by have:=HF.out;omega) (by have:=HF.out;omega) _ 8 rfl).mono ?_;rintro e w1 ⟨y,rfl,hy,hg⟩;have Q0:=zd (BSt.grow K hg);clear K P0;have Y:=zd hy;clear hy hg;simp only[])
  | (at_builtin;have K:=Q0.out;refine us _ rfl _ _ 32 5 rfl i0 Tryz.underlying32 hi hz0 hz1 hz2 _ _ _ _ rfl K.row _ _ rfl Y.out (by have:=HF.out;simp[uj,vd] <;> omega) (by have:=K.grown.size;omega) ?_;intro v' w2 ho hg hat;have P1:=zd (BSt.app K ho hg);clear K Q0 Y ho hg hat))
 go_upto_region 4 with (first
  | (go_at_call 98;have K:=P1.out;refine(Vh _ 2 (by omega) (by omega) (by have:=HF.out;omega) (by have:=HF.out;omega) _ 2 rfl).mono ?_;rintro e w1 ⟨y,rfl,hy,hg⟩;have Q1:=zd (BSt.grow K hg);clear K P1;have Y:=zd hy;clear hy hg;simp only[])
  | (at_builtin;have K:=Q1.out;refine us _ rfl _ _ 32 5 rfl i0 Tryz.underlying32 hi hz0 hz1 hz2 _ _ _ _ rfl K.row _ _ rfl Y.out (by have:=HF.out;simp[uj,vd] <;> omega) (by have:=K.grown.size;omega) ?_;intro v' w2 ho hg hat;have P2:=zd (BSt.app K ho hg);clear K Q1 Y ho hg hat))
 go_upto_region 5 with (first
  | (go_at_call 98;have K:=P2.out;refine(Vh _ 2 (by omega) (by omega) (by have:=HF.out;omega) (by have:=HF.out;omega) _ 2 rfl).mono ?_;rintro e w1 ⟨y,rfl,hy,hg⟩;have Q2:=zd (BSt.grow K hg);clear K P2;have Y:=zd hy;clear hy hg;simp only[])
  | (at_builtin;have K:=Q2.out;refine us _ rfl _ _ 32 5 rfl i0 Tryz.underlying32 hi hz0 hz1 hz2 _ _ _ _ rfl K.row _ _ rfl Y.out (by have:=HF.out;simp[uj,vd] <;> omega) (by have:=K.grown.size;omega) ?_;intro v' w2 ho hg hat;have P3:=zd (BSt.app K ho hg);clear K Q2 Y ho hg hat))
 go_upto_region 6 with (at_builtin;have K:=BSt.grow P3.out (ze _ (.cells #[.int .u8 (s.size:Int)] 5) none);refine us _ rfl _ _ 32 5 rfl i0 Tryz.underlying32 hi hz0 hz1 hz2 _ _ _ _ rfl K.row _ _ rfl (ziz _ _) (by have:=HF.out;simp[uj,vd] <;> omega) (by have:=K.grown.size;omega) ?_;intro v' w2 ho hg hat;have P4:=zd (BSt.app K ho hg);clear K P3 ho hg hat)
 go_upto_region 7 with (at_builtin;have K:=P4.out;refine Lib.wpList_append_own_string _ rfl _ _ 32 9 rfl _ 5 i0 Tryz.underlying32 Tryz.underlying9 hi hz0 hz1 hz2 _ _ _ rfl K.row _ rfl (by have:=HF.out;unfold maxLen;simp[uj,vd] <;> omega) (by have:=HF.out;simp[uj,vd] <;> omega) (by have:=K.grown.size;omega) ?_;intro v' w2 ho hg hat;have P5:=zd (BSt.appS K s ho hg);clear K P4 ho hg hat)
 have P6:=P5.out;rw[hd_told k index count s HF.out.2.2.2] at P6;have HP6:=zd P6;have HL:Hid ((hdP ⟨k,index,count,xu s⟩).length=14+s.size∧s.size≤230):=(show _∧_ from ⟨by rw[Xo,vd],HF.out.2.2.2⟩)
 have HFI:Hid (∀j,(hdP ⟨k,index,count,xu s⟩++List.replicate j 0).length=244→hdP ⟨k,index,count,xu s⟩++List.replicate j 0=qi ⟨k,index,count,xu s⟩):=(fun j hj=>hd_fill (p:=⟨k,index,count,xu s⟩) (by show(xu s).length≤230;rw[vd];exact HF.out.2.2.2) hj)
 have HBL:Hid (BL (qi ⟨k,index,count,xu s⟩)):=(show BL _ from zlc (ze0 s))
 have HBN:Hid ((qi ⟨k,index,count,xu s⟩).length=244):=(show _=_ from zc7 (by show(xu s).length≤230;rw[vd];exact HF.out.2.2.2))
 have HE:Hid (qn zu ⟨k,index,count,xu s⟩=qi ⟨k,index,count,xu s⟩++be 4 (zu (qi ⟨k,index,count,xu s⟩))++be 8 (k:Int).toNat):=(show _=_ from rfl)
 clear P5 P6 hks;generalize hdP ⟨k,index,count,xu s⟩=hd at *;generalize qi ⟨k,index,count,xu s⟩=bd at *
 go_loopw [9] (fun v wr=>∃j:Nat,(hd++List.replicate j 0).length≤244∧BSt W v (hd++List.replicate j 0) wr) (fun v _=>244-lenV v)
 case atStart=>exact⟨0,by have:=HL.out;simp;omega,by simpa using HP6.out⟩
 case round=>
  obtain⟨j,hj,hst⟩:=hrel;clear HP6;obtain⟨p,c,rfl⟩:=hst.form;have R0:=zd hst;clear hst
  by_cases hlt:(hd++List.replicate j 0).length<244
  ·obtain⟨n,hn⟩:∃n,n=(hd++List.replicate j 0).length:=⟨_,rfl⟩
   have HN:=zd hn;have hnl:n<244:=by omega
   rw[←hn];clear hn hj hlt
   go_wp2_with (at_builtin;have K:=BSt.grow R0.out (ze _ (.cells #[.int .u8 0] 5) none);refine us _ rfl _ _ 32 5 rfl i0 Tryz.underlying32 hi hz0 hz1 hz2 _ _ _ _ (by rw[HN.out];rfl) K.row _ _ rfl (ziz _ _) (by have:=HN.out;simp only[List.length_cons,List.length_nil];omega) (by have:=K.grown.size;omega) ?_;intro v' w2 ho hg hat;have R1:=zd (BSt.app K ho hg);clear K R0 ho hg hat)
   have hrep:hd++List.replicate (j+1) 0=hd++List.replicate j 0 ++ [0]:=by rw[List.replicate_succ',List.append_assoc]
   obtain⟨p',c',rfl⟩:=R1.out.form;refine⟨⟨j+1,by rw[hrep,List.length_append,←HN.out];simp;omega,by rw[hrep];exact R1.out⟩,?_⟩
   show 244-(hd++List.replicate j 0 ++ [0]).length<244-n
   rw[List.length_append,←HN.out];simp;omega
  ·have hfi:=HFI.out j (by omega)
   have hst:=R0.out;rw[hfi] at hst;rw[hfi,HBN.out];have R2:=zd hst;have HSU:=zd (zmv (qg hst.row) HBL.out (by rw[HBN.out];omega))
   have HCL:=zd (zii bd);clear R0 HFI hfi hst hj hlt HL
   go_upto_region 10 with (first
    | (go_at_call 99;have HS2:=HSU.out;rw[HBN.out] at HS2;refine HS2.mono ?_;clear HS2;rintro e w3 ⟨rfl,h5⟩;obtain rfl:wr=w3:=h5.symm)
    | (go_at_call 98;have K:=R2.out;refine(Vh _ 4 (by omega) (by omega) (by have:=HCL.out;omega) (by have:=HCL.out;omega) _ 4 rfl).mono ?_;rintro e w1 ⟨y,rfl,hy,hg⟩;have R3:=zd (BSt.grow K hg);clear K R2;have Y:=zd hy;clear hy hg;simp only[])
    | (at_builtin;have K:=R3.out;refine us _ rfl _ _ 32 5 rfl i0 Tryz.underlying32 hi hz0 hz1 hz2 _ _ _ _ (by rw[HBN.out];rfl) K.row _ _ rfl Y.out (by have:=HBN.out;simp[uj] <;> omega) (by have:=K.grown.size;omega) ?_;intro v' w2 ho hg hat;have R4:=zd (BSt.app K ho hg);clear K R3 Y ho hg hat))
   go_wp2_with (first
    | (go_at_call 98;have K:=R4.out;refine(Vh _ 8 (by omega) (by omega) (by have:=HF.out;omega) (by have:=HF.out;omega) _ 8 rfl).mono ?_;rintro e w1 ⟨y,rfl,hy,hg⟩;have R5:=zd (BSt.grow K hg);clear K R4;have Y:=zd hy;clear hy hg;simp only[])
    | (at_builtin;have K:=R5.out;refine us _ rfl _ _ 32 5 rfl i0 Tryz.underlying32 hi hz0 hz1 hz2 _ _ _ _ rfl K.row _ _ rfl Y.out (by have:=HBN.out;simp[uj] <;> omega) (by have:=K.grown.size;omega) ?_;intro v' w2 ho hg hat;have R6:=zd (BSt.app K ho hg);clear K R5 Y ho hg hat))
   have hcv:=Yy (qg R6.out.row);rw[hcv];simp only[Result.andThen];rw[Oper.upon_value];go_wp2
   go_ret
   refine⟨?_,R6.out.grown⟩;rw[HE.out];simp
def NoF (xs:List Bool) (k:Nat):Prop:=∀j,j<k→xs[j]?≠some false
set_option maxRecDepth 100000 in
theorem zfq {W:World} {tb:Nat} {xs:List Bool} {fr:Nat × Nat} (h:W.heap[tb]? = some (.cells (ud xs).toArray 4 fr)) (hl:xs.length≤1000000) :
  Calls Tryz.prog 217 #[.slice (some ⟨tb,0,none⟩) xs.length xs.length,.bool false] W fun e w'=>∃r:Int,e = .returned (.int .i64 r)∧(0≤r↔false∈xs)∧w'=W:=by
 have HR:Hid (∀k y,xs[k]? = some y→W.cell? ⟨tb,k,none⟩=some (.bool y)):=(fun k y hy=>by rw[zf h];simp[ud,hy])
 have HP:Hid (∀r:Int,(∃j:Nat,r=j∧xs[j]? = some false)→(0≤r↔false∈xs)):=(show ∀_,_→_ from fun r ⟨j,h1,h2⟩=>⟨fun _=>List.mem_of_getElem? h2,fun _=>by omega⟩)
 have HNP:Hid (NoF xs xs.length→((0:Int)≤-1↔false∈xs)):=(show _→_ from fun hn=>⟨fun h=>absurd h (by omega),fun h=>by
  obtain⟨j,hj,e⟩:=List.getElem_of_mem h
  exact absurd (by rw[List.getElem?_eq_getElem hj,e]) (hn j hj)⟩)
 clear h;generalize hq:xs.length=q at *;have HQ:=zd hq;clear hq
 go_enter Tryz.func217,Tryz.ntmps217
 go_wp2
 go_loopw [8] (fun i wr=>∃k:Nat,k≤q∧i = .int .i64 k∧Hid (NoF xs k)∧wr=W) (fun i _=>q-(intOf i).toNat)
 case atStart=>exact⟨0,Nat.zero_le _,rfl,(show NoF _ _ from fun j hj=>absurd hj (Nat.not_lt_zero _)),rfl⟩
 case round=>
  obtain⟨k,hk,rfl,hno,hw⟩:=hrel;obtain rfl:W=wr:=hw.symm
  rcases Nat.lt_or_ge k q with hlt|hge
  ·obtain⟨y,hy⟩:∃y,xs[k]? = some y:=⟨_,List.getElem?_eq_getElem (by rw[HQ.out];exact hlt)⟩
   have cy:=HR.out k y hy;have HY:=zd hy;clear hy
   cases y
   ·have HE:=zd (HP.out k ⟨k,rfl,HY.out⟩)
    go_wp2
    go_ret
    exact⟨_,rfl,HE.out,rfl⟩
   ·have HN:Hid (NoF xs (k+1)):=(show NoF _ _ from fun j hj=>by
     by_cases e2:j=k
     ·subst e2;rw[HY.out];intro h;cases h
     ·exact hno.out j (by omega))
    go_wp2
    go_roundw
    case rel=>exact⟨k+1,by omega,by go_num,HN,by first|rfl|trivial⟩
    case measure=>simp[intOf];omega
  ·obtain rfl:k=q:=by omega
   have HE:=zd (HNP.out hno.out);go_wp2
   go_ret
   exact⟨_,rfl,HE.out,rfl⟩
set_option maxRecDepth 100000 in
theorem zbm {W:World} {tb:Nat} {xs:List Bool} {fr:Nat × Nat} (h:W.heap[tb]? = some (.cells (ud xs).toArray 4 fr)) (hl:xs.length≤1000000) :
  Calls Tryz.prog 174 #[.slice (some ⟨tb,0,none⟩) xs.length xs.length,.bool false] W fun e w'=>e = .returned (.bool (xs.contains false))∧w'=W:=by
 have HI:=zd (zfq h hl);have HC:Hid (∀r:Int,(0≤r↔false∈xs)→decide (0≤r)=xs.contains false):=(show ∀_,_→_ from fun r hr=>by
  rw[Bool.eq_iff_iff];simp[hr])
 clear h
 go_enter Tryz.func174,Tryz.ntmps174
 go_wp2_with (go_at_call 217;refine HI.out.mono ?_;rintro e w1 ⟨r,rfl,hr,h5⟩;obtain rfl:W=w1:=h5.symm;have HE:=zd (HC.out r hr);clear hr)
 go_ret
 exact⟨congrArg (fun b=>Ending.returned (Value.bool b)) HE.out,rfl⟩
def yl (c:Nat × Value × List Int):List Value:=[.int .i64 (c.1:Int),c.2.1]
structure Zp (W:World) (rp:Nat→Prop) (pb ab tb:Nat) (cs:List (Nat × Value × List Int)) (r:xg):Prop where
 box:W.heap[pb]? = some (.cells #[.slice (some ⟨ab,0,none⟩) r.there.length r.there.length,.slice (some ⟨tb,0,none⟩) r.there.length r.there.length] 162 (0,0))
 at_:W.heap[ab]? = some (.cells (cs.flatMap yl).toArray 146 (0,0))
 there:W.heap[tb]? = some (.cells (ud r.there).toArray 4 (0,0))
 cells:r.cells=cs.map fun c=>(c.1,c.2.2)
 rows:∀c∈cs,xy rp W c.2.1 (zg c.2.2)
 len:cs.length=r.there.length
 few:r.there.length≤1000000
theorem Zp.kept {W W':World} {rp:Nat→Prop} {pb ab tb:Nat} {cs:List (Nat × Value × List Int)} {r:xg} (h:Zp W rp pb ab tb cs r) (h1:W'.heap[pb]? = W.heap[pb]?) (h2:W'.heap[ab]? = W.heap[ab]?) (h3:W'.heap[tb]? = W.heap[tb]?) (h4:∀k,rp k→W'.heap[k]? = W.heap[k]?):Zp W' rp pb ab tb cs r:=
 ⟨h1.trans h.box,h2.trans h.at_,h3.trans h.there,h.cells,fun c hc=>(h.rows c hc).turn h4,h.len,h.few⟩
theorem Zp.lt {W:World} {rp:Nat→Prop} {pb ab tb:Nat} {cs:List (Nat × Value × List Int)} {r:xg} (h:Zp W rp pb ab tb cs r):pb<W.heap.size∧ab<W.heap.size∧tb<W.heap.size:=
 ⟨(Array.getElem?_eq_some_iff.1 h.box).1,(Array.getElem?_eq_some_iff.1 h.at_).1,(Array.getElem?_eq_some_iff.1 h.there).1⟩
set_option maxRecDepth 100000 in
theorem rwhole {W:World} {rp:Nat→Prop} {pb ab tb:Nat} {cs:List (Nat × Value × List Int)} {r:xg} (h:Zp W rp pb ab tb cs r):Calls Tryz.prog 93 #[.pointer (some ⟨pb,0,none⟩)] W fun e w'=>e = .returned (.bool r.whole)∧w'=W:=by
 have HC:=zd (zbm h.there h.few);have c1:W.cell? ⟨pb,1,none⟩=some (.slice (some ⟨tb,0,none⟩) r.there.length r.there.length):=(zf h.box 1).trans rfl;have HW:Hid (r.whole = !r.there.contains false):=(show _=_ from rfl)
 clear h;generalize r.there.contains false=z at *
 go_enter Tryz.func93,Tryz.ntmps93
 go_wp2_with (go_at_call 174;refine HC.out.mono ?_;rintro e w1 ⟨rfl,h5⟩;obtain rfl:W=w1:=h5.symm)
 go_ret
 exact⟨congrArg (fun b=>Ending.returned (Value.bool b)) HW.out.symm,rfl⟩
theorem infoBl:(Tryz.prog.info? 4).map (fun i=>(i.zero,i.size,i.bytes))=some (some (.bool false),1,1):=by kernel_rfl
theorem zfr:(Tryz.prog.info? 146).map (fun i=>(i.zero,i.size,i.bytes))=some (some (.agg #[.int .i64 0,.slice none 0 0]),2,32):=by kernel_rfl
def cs0 (n:Nat):List (Nat × Value × List Int):=List.replicate n (0,.slice none 0 0,[])
theorem zl2 (a b:Value) (n:Nat):(madeCells #[a,b] (n*2))=((List.replicate n [a,b]).flatten).toArray:=by
 have h:∀n,(List.range (n*2)).map (fun i=>(#[a,b]:Array Value)[i%2]!)=(List.replicate n [a,b]).flatten:=by
  intro n
  induction n with
  | zero=>rfl
  | succ n ih=>
   rw[show(n+1)*2=n*2+1+1 by omega,List.range_succ,List.range_succ,List.map_append,List.map_append,ih,List.replicate_succ',List.flatten_append]
   simp[Nat.mul_mod_left,Nat.mul_add_mod]
 unfold madeCells
 apply Array.ext'
 rw[Array.toList_map,Array.toList_range]
 exact h n
theorem zfy (n:Nat):madeCells #[.int .i64 0,.slice none 0 0] (n*2)=((cs0 n).flatMap yl).toArray:=by
 rw[zl2]
 congr 1
 unfold cs0;rw[List.flatMap_replicate]
 rfl
theorem Qs (n:Nat) (hn:n≤570) (w:World):(Instr.makeSlice 160 (.int .i64 (n:Int)) (.int .i64 (n:Int))).run Tryz.prog w = .ok (.slice (some ⟨w.heap.size,0,none⟩) n n) (w.alloc (.cells ((cs0 n).flatMap yl).toArray 146)):=by
 obtain⟨i,hi,hz⟩:=Option.map_eq_some_iff.1 zfr;simp only[Prod.mk.injEq] at hz;obtain⟨z1,z2,z3⟩:=hz;have:=run_makeSlice (P:=Tryz.prog) (w:=w) 160 146 i (.agg #[.int .i64 0,.slice none 0 0]) Tryz.underlying160 hi z1 .i64 .i64 (n:Int) (n:Int) (by omega) (by omega) (by rw[z2,Int.toNat_natCast];omega) (by rw[z3];omega) (by omega)
 rw[z2,Int.toNat_natCast] at this;rw[this]
 show Result.ok _ (w.alloc (.cells (madeCells #[.int .i64 0,.slice none 0 0] (n*2)) _))=_
 rw[zfy]
theorem Yr (n:Nat) (hn:n≤4096) (w:World):(Instr.makeSlice 130 (.int .i64 (n:Int)) (.int .i64 (n:Int))).run Tryz.prog w = .ok (.slice (some ⟨w.heap.size,0,none⟩) n n) (w.alloc (.cells (ud (List.replicate n false)).toArray 4)):=by
 have:=run_make_row' (P:=Tryz.prog) 130 4 (.bool false) 1 Tryz.underlying130 infoBl rfl .i64 .i64 n (by omega) (by omega) w
 rw[this];have e:madeCells #[Value.bool false] n=(ud (List.replicate n false)).toArray:=by
  apply Array.ext'
  rw[toList_madeCells_one];simp[ud]
 rw[e]
theorem Xa {o:Oper} {a:Act} {w w':World} {t:TypeId} {vx vy v:Value} (x y:Operand) (hop:o.op=Op.makeSlice t x y) (hx:a.eval x=vx) (hy:a.eval y=vy) (hr:(Instr.makeSlice t vx vy).run Tryz.prog w = .ok v w'):(execOp a.eval o).run Tryz.prog w = .ok (.value v) w':=by
 unfold execOp;rw[hop]
 change (do pure (Next.value (←Instr.makeSlice t (a.eval x) (a.eval y))):Sem Next).run Tryz.prog w=_
 rw[hx,hy];generalize Instr.makeSlice t vx vy=s at *;simp[go_sem,hr]
theorem zmx {w2:World} {ab tb n:Nat} (hn:n≤570) (ha:w2.heap[ab]? = some (.cells ((cs0 n).flatMap yl).toArray 146 (0,0))) (ht:w2.heap[tb]? = some (.cells (ud (List.replicate n false)).toArray 4 (0,0))) :
  Zp (w2.alloc (.cells #[.slice (some ⟨ab,0,none⟩) n n,.slice (some ⟨tb,0,none⟩) n n] 162)) (fun _=>False) w2.heap.size ab tb (cs0 n) (vt n):=by
 have hg:=ze w2 (.cells #[.slice (some ⟨ab,0,none⟩) n n,.slice (some ⟨tb,0,none⟩) n n] 162) none;have hl:(vt n).there.length=n:=by simp[vt]
 refine⟨?_,?_,?_,?_,fun c hc=>?_,by rw[hl];simp[cs0],by rw[hl];omega⟩
 ·rw[hl];exact heap_alloc_new _ _
 ·exact(hg.block ab (Array.getElem?_eq_some_iff.1 ha).1 (by simp)).trans ha
 ·exact(hg.block tb (Array.getElem?_eq_some_iff.1 ht).1 (by simp)).trans ht
 ·simp[vt,cs0]
 ·have:=List.eq_of_mem_replicate hc
  subst this
  exact⟨none,0,rfl,by simp[zg],by omega,Or.inl rfl⟩
set_option maxRecDepth 100000 in
theorem rowof {W:World} (n:Nat) (hn:n≤570):Calls Tryz.prog 85 #[.int .i64 (n:Int)] W fun e w'=>W.grownBy w' none∧∃pb ab tb cs,e = .returned (.pointer (some ⟨pb,0,none⟩))∧W.heap.size≤pb∧W.heap.size≤ab∧W.heap.size≤tb∧pb≠ab∧pb≠tb∧ab≠tb∧Zp w' (fun _=>False) pb ab tb cs (vt n):=by
 go_enter Tryz.func85,Tryz.ntmps85
 go_upto_region 1 with fail
 refine wp_region_held_drew (S:=fun w':World=>True∧True) (by kernel_rfl) ⟨trivial,trivial⟩ (fun hHeld=>?_)
 refine tk (i:=0) (oi:=⟨some 3,Op.move (Operand.tmp 0),_,_,_,none⟩) (v:=?_) rfl hHeld ?_ ?_;rotate_left
 ·rintro w -;go_simp;try with_reducible rfl
 (try simp only[Act.put,za,zb,zc])
 refine tk (i:=2) (oi:=⟨some 5,Op.move (Operand.tmp 0),_,_,_,none⟩) (v:=?_) rfl hHeld ?_ ?_;rotate_left
 ·rintro w -;go_simp;try with_reducible rfl
 (try simp only[Act.put,za,zb,zc])
 refine wpAnyH_ready (rs:=[1,3]) (by kernel_rfl) (by simp) ?_
 refine AllReadyH.cons (o:=⟨some 4,Op.makeSlice 160 (Operand.tmp 3) (Operand.tmp 3),_,_,_,none⟩) rfl (fun K hK=>?_) (AllReadyH.cons (o:=⟨some 6,Op.makeSlice 130 (Operand.tmp 5) (Operand.tmp 5),_,_,_,none⟩) rfl (fun K hK=>?_) AllReadyH.nil)
 ·refine ua rfl (Xa _ _ rfl rfl rfl (Qs n hn _)) ?_
  refine hK.out _ _ ⟨trivial,trivial⟩ (fun hHeld=>?_)
  clear hK K
  (try simp only[Act.put,za,zb,zc])
  refine wpAnyH_ready (rs:=[3]) (by kernel_rfl) (by simp) ?_
  refine AllReadyH.cons (o:=⟨some 6,Op.makeSlice 130 (Operand.tmp 5) (Operand.tmp 5),_,_,_,none⟩) rfl (fun K hK=>?_) AllReadyH.nil
  refine ua rfl (Xa _ _ rfl rfl rfl (Yr n (by omega) _)) ?_
  refine hK.out _ _ ⟨trivial,trivial⟩ (fun hHeld=>?_)
  clear hK K
  (try simp only[Act.put,za,zb,zc])
  have hz0:W.drew.heap.size=W.heap.size:=rfl;have h1:=heap_alloc_new W.drew (.cells ((cs0 n).flatMap yl).toArray 146);have h2:=heap_alloc_new (W.drew.alloc (.cells ((cs0 n).flatMap yl).toArray 146)) (.cells (ud (List.replicate n false)).toArray 4);have hs1:(W.drew.alloc (.cells ((cs0 n).flatMap yl).toArray 146)).heap.size=W.heap.size+1:=by rw[World.size_alloc];rfl
  have hs2:((W.drew.alloc (.cells ((cs0 n).flatMap yl).toArray 146)).alloc (.cells (ud (List.replicate n false)).toArray 4)).heap.size=W.heap.size+2:=by rw[World.size_alloc,hs1]
  have h1':=((ze (W.drew.alloc (.cells ((cs0 n).flatMap yl).toArray 146)) (.cells (ud (List.replicate n false)).toArray 4) none).block _ (by rw[hs1,hz0];omega) (by simp)).trans h1
  have hgr:W.grownBy ((W.drew.alloc (.cells ((cs0 n).flatMap yl).toArray 146)).alloc (.cells (ud (List.replicate n false)).toArray 4)) none:=zp (zp (zk (zj _)) _) _;clear h1;rw[hs1] at h2;rw[hz0] at h1'
  (try rw[hs1])
  (try rw[hz0])
  generalize (W.drew.alloc (.cells ((cs0 n).flatMap yl).toArray 146)).alloc (.cells (ud (List.replicate n false)).toArray 4)=w2 at *;have HR:=zd (zmx hn h1' h2);rw[hs2] at HR;refine tk (i:=4) (oi:=⟨some 7,Op.build 162 #[(0,Operand.tmp 4),(1,Operand.tmp 6)],_,_,_,none⟩) (v:=.agg #[.slice (some ⟨W.heap.size,0,none⟩) n n,.slice (some ⟨W.heap.size+1,0,none⟩) n n]) rfl hHeld (fun w hSw=>by go_simp;try with_reducible rfl) ?_
  (try simp only[Act.put,za,zb,zc])
  refine wpAnyH_ready (rs:=[5]) (by kernel_rfl) (by simp) ?_
  refine AllReadyH.cons (o:=⟨some 8,Op.box 162 (Operand.tmp 7),_,_,_,none⟩) rfl (fun K hK=>?_) AllReadyH.nil
  go_simp
  refine hK.out _ _ ⟨trivial,trivial⟩ (fun hHeld=>?_)
  clear hK K
  (try simp only[Act.put,za,zb,zc])
  refine tk (i:=6) (oi:=⟨some 2,Op.assign (Operand.tmp 8),_,_,_,none⟩) (v:=?_) rfl hHeld ?_ ?_;rotate_left
  ·rintro w -;go_simp;try with_reducible rfl
  (try simp only[Act.put,za,zb,zc])
  refine wpAnyH_done (by kernel_rfl) ?_ _
  go_wp2_with fail
  go_ret
  exact⟨zp hgr _,W.heap.size+2,W.heap.size,W.heap.size+1,cs0 n,rfl,by omega,by omega,by omega,by omega,by omega,by omega,HR.out⟩
 ·refine ua rfl (Xa _ _ rfl rfl rfl (Yr n (by omega) _)) ?_
  refine hK.out _ _ ⟨trivial,trivial⟩ (fun hHeld=>?_)
  clear hK K
  (try simp only[Act.put,za,zb,zc])
  refine wpAnyH_ready (rs:=[1]) (by kernel_rfl) (by simp) ?_
  refine AllReadyH.cons (o:=⟨some 4,Op.makeSlice 160 (Operand.tmp 3) (Operand.tmp 3),_,_,_,none⟩) rfl (fun K hK=>?_) AllReadyH.nil
  refine ua rfl (Xa _ _ rfl rfl rfl (Qs n hn _)) ?_;refine hK.out _ _ ⟨trivial,trivial⟩ (fun hHeld=>?_)
  clear hK K
  (try simp only[Act.put,za,zb,zc])
  have hz0:W.drew.heap.size=W.heap.size:=rfl;have h1:=heap_alloc_new W.drew (.cells (ud (List.replicate n false)).toArray 4);have h2:=heap_alloc_new (W.drew.alloc (.cells (ud (List.replicate n false)).toArray 4)) (.cells ((cs0 n).flatMap yl).toArray 146);have hs1:(W.drew.alloc (.cells (ud (List.replicate n false)).toArray 4)).heap.size=W.heap.size+1:=by rw[World.size_alloc];rfl
  have hs2:((W.drew.alloc (.cells (ud (List.replicate n false)).toArray 4)).alloc (.cells ((cs0 n).flatMap yl).toArray 146)).heap.size=W.heap.size+2:=by rw[World.size_alloc,hs1]
  have h1':=((ze (W.drew.alloc (.cells (ud (List.replicate n false)).toArray 4)) (.cells ((cs0 n).flatMap yl).toArray 146) none).block _ (by rw[hs1,hz0];omega) (by simp)).trans h1
  have hgr:W.grownBy ((W.drew.alloc (.cells (ud (List.replicate n false)).toArray 4)).alloc (.cells ((cs0 n).flatMap yl).toArray 146)) none:=zp (zp (zk (zj _)) _) _;clear h1;rw[hs1] at h2;rw[hz0] at h1'
  (try rw[hs1])
  (try rw[hz0])
  generalize (W.drew.alloc (.cells (ud (List.replicate n false)).toArray 4)).alloc (.cells ((cs0 n).flatMap yl).toArray 146)=w2 at *;have HR:=zd (zmx hn h2 h1');rw[hs2] at HR;refine tk (i:=4) (oi:=⟨some 7,Op.build 162 #[(0,Operand.tmp 4),(1,Operand.tmp 6)],_,_,_,none⟩) (v:=.agg #[.slice (some ⟨W.heap.size+1,0,none⟩) n n,.slice (some ⟨W.heap.size,0,none⟩) n n]) rfl hHeld (fun w hSw=>by go_simp;try with_reducible rfl) ?_
  (try simp only[Act.put,za,zb,zc])
  refine wpAnyH_ready (rs:=[5]) (by kernel_rfl) (by simp) ?_
  refine AllReadyH.cons (o:=⟨some 8,Op.box 162 (Operand.tmp 7),_,_,_,none⟩) rfl (fun K hK=>?_) AllReadyH.nil
  go_simp
  refine hK.out _ _ ⟨trivial,trivial⟩ (fun hHeld=>?_)
  clear hK K
  (try simp only[Act.put,za,zb,zc])
  refine tk (i:=6) (oi:=⟨some 2,Op.assign (Operand.tmp 8),_,_,_,none⟩) (v:=?_) rfl hHeld ?_ ?_;rotate_left
  ·rintro w -;go_simp;try with_reducible rfl
  (try simp only[Act.put,za,zb,zc])
  refine wpAnyH_done (by kernel_rfl) ?_ _
  go_wp2_with fail
  go_ret
  exact⟨zp hgr _,W.heap.size+2,W.heap.size+1,W.heap.size,cs0 n,rfl,by omega,by omega,by omega,by omega,by omega,by omega,HR.out⟩
end Go.Proofs.YtbcbhlfjgobejaaGreat
