/- The body of Open's loop, by its place; what holds between two rounds, and what a round's return leaves. Conditions: none, or as the theorems say. -/
import Derived.Test.YtbcbhlfjgobejaaGreatJ26
set_option linter.unusedSimpArgs false
set_option linter.unusedVariables false
namespace Go.Proofs.YtbcbhlfjgobejaaGreat
set_option maxHeartbeats 200000000
open Go Go.RowKit Go.Sf
noncomputable def oBody:Code:=match (Tryz.f18).body with
 | some (.seq _ (.seq _ (.seq _ (.seq _ (.seq _ (.seq (.seq _ (.block _ (.rangeFunc _ _ _ b))) _))))))=>b
 | _=>.skip
theorem zi {w:World} {b:Nat} {c:Array Value} {t:TypeId} (h:w.heap[b]? = some (.cells c t (0,0))) (i:Nat):w.frozen? ⟨b,i,none⟩=false:=by
 simp[World.frozen?,h]
theorem vn {P:Program} {ops:Array Oper} {Q:Exit→Act→World→Prop} {o:Oper} {rest:List Oper} {a:Act} {w w':World} {v:Value} (hw:Region.wanted o (yielded ops a.tmps)=true) (hr:(execOp a.eval o).run P w = .ok (.value v) w') (h:wpList P ops Q rest (a.put o.dst v) w'):wpList P ops Q (o :: rest) a w:=by
 refine wpList_step fun K hK=>?_
 rw[if_pos hw];simp only[Oper.wp,hr,Oper.upon]
 exact hK _ _ h
theorem zex (w:World):(Instr.build 136 #[]).run Tryz.prog w = .ok (.agg (zg zv).toArray) w:=by kernel_rfl
theorem Ud {o:Oper} {a:Act} {w:World} (hop:o.op=Op.build 136 #[]):(execOp a.eval o).run Tryz.prog w = .ok (.value (.agg (zg zv).toArray)) w:=by
 have h:=zex w;unfold execOp;rw[hop]
 change (do pure (Next.value (←Instr.build 136 ((#[]:Array (Nat × Operand)).map fun p=>(p.1,a.eval p.2)))):Sem Next).run Tryz.prog w=_
 rw[show((#[]:Array (Nat × Operand)).map fun p=>(p.1,a.eval p.2)) = #[] from by simp]
 generalize Instr.build 136 #[]=s at *;simp[go_sem,h]
theorem zah {o:Oper} {a:Act} {w:World} {A B:List Int} (t2:TypeId) (x y:Operand) (hop:o.op=Op.binOp .neq 136 x y t2) (hx:a.eval x = .agg (zg A).toArray) (hy:a.eval y = .agg (zg B).toArray) (hA:A.length=256) (hB:B.length=256) (b:Bool) (hb:(!decide (A=B))=b):(execOp a.eval o).run Tryz.prog w = .ok (.value (.bool b)) w:=by
 unfold execOp;rw[hop]
 change (do pure (Next.value (←(do eqGuard .neq 136 x y (a.eval x) (a.eval y);binOp .neq 136 (a.eval x) (a.eval y)))):Sem Next).run Tryz.prog w=_
 rw[hx,hy];have h1:=run_eqGuard_agg (P:=Tryz.prog) w .neq _ x y (zg A).toArray (zg B).toArray zb4;have h2:(binOp .neq 136 (.agg (zg A).toArray) (.agg (zg B).toArray)).run Tryz.prog w = .ok (.bool b) w:=by
  rw[run_neq_struct];have:=zdb hA hB w;unfold xw at this;rw[this,←hb]
  rfl
 simp only[Sem.run_bind,h1,h2,Result.andThen_ok,Sem.run_pure]
def OI (own:Nat→Prop) (W0:World) (db:Nat) (d:Dk) (B:Nat) (L:Zd) (i:Nat) (X:World):Prop:=
 i≤d.n∧(opnD d i).2.1=0∧zm (fun k=>¬own k) W0 X∧∃P loc rp,OM own db d.n B L P loc rp (scanN zu (bk d.now) i).rows (scanN zu (bk d.now) i).next (opnD d i).2.2 (opnD d i).1 X
structure OX (own:Nat→Prop) (W0:World) (db:Nat) (d:Dk) (B:Nat) (L:Zd) (c:Code) (X:World):Prop where
 ret:c = .ret
 bad:(opnD d d.n).2.1≠0
 turn:zm (fun k=>¬own k) W0 X
 disk:∃P:Nat→Prop,vj P X db (opnD d d.n).1∧(∀k,own k→P k)∧P B∧P (B+1)
 b2:X.heap[L.b2]? = some (.cells #[.pointer none] 24 (0,0))∧L.b2<B
 b3:X.heap[L.b3]? = some (.cells #[.int .i64 (opnD d d.n).2.1] 25 (0,0))∧L.b3<B
section
variable {own : Nat → Prop} {W0 : World} {db : Nat} {d : Dk} {B : Nat} {L : Zd} {i : Nat} {X Y : World}
theorem OI.grown (h:OI own W0 db d B L i X) (hg:X.grownBy Y none):OI own W0 db d B L i Y:=by
 obtain⟨h0,h1,h2,P,loc,rp,h3⟩:=h
 exact⟨h0,h1,h2.trans ⟨hg.os,hg.tape,hg.output,hg.size,fun k hk _=>hg.block k hk (by simp)⟩,P,loc,rp,h3.grown hg⟩
theorem OI.loop (h:OI own W0 db d B L i X) (hB:∀k,own k→k<B) (o:Obj):OI own W0 db d B L i (X.putObj (B+1) o):=by
 obtain⟨h0,h1,h2,P,loc,rp,h3⟩:=h
 exact⟨h0,h1,h2.trans ((jd X (B+1) o).mono fun k hk ho=>by have:=hB k ho;omega),P,loc,rp,h3.loop o⟩
theorem OX.loop {c:Code} (h:OX own W0 db d B L c X) (hB:∀k,own k→k<B) (o:Obj):OX own W0 db d B L c (X.putObj (B+1) o):=by
 obtain⟨P,h1,h2,h3,h4⟩:=h.disk;refine⟨h.ret,h.bad,h.turn.trans ((jd X (B+1) o).mono fun k hk ho=>by have:=hB k ho;omega),⟨P,h1.turn ((jd X (B+1) o).mono fun k hk=>by rw[hk];exact h4),h2,h3,h4⟩,⟨(World.putObj_heap_other (by have:=h.b2.2;omega)).trans h.b2.1,h.b2.2⟩,⟨(World.putObj_heap_other (by have:=h.b3.2;omega)).trans h.b3.1,h.b3.2⟩⟩
theorem Jz {C:List Int→Nat} {f:Nat→List Int} {n:Nat} (h:saidP C (f n)=none):scanN C f (n+1)=scanN C f n:=by
 conv=>lhs;unfold scanN scanStep
 rw[h]
theorem OI.clean (h:OI own W0 db d B L i X) (hi:i<d.n) (hs:saidP zu (bk d.now i)=none) (hz:bk d.now i=zv):OI own W0 db d B L (i+1) X:=by
 obtain⟨h0,h1,h2,P,loc,rp,h3⟩:=h;unfold OI;rw[Yg h1 (Or.inr hz),Jz hs]
 exact⟨hi,h1,h2,P,loc,rp,h3⟩
theorem OI.scrub {P:Nat→Prop} {loc:zr→Nat × Nat × Nat} {rp:Nat→Prop} {scr:Bool} {dk dk':Dk} {W2 W3:World} (hi:i<d.n) (hs:saidP zu (bk d.now i)=none) (hn:opnD d (i+1)=(dk',0,true)) (hM:OM own db d.n B L P loc rp (scanN zu (bk d.now) i).rows (scanN zu (bk d.now) i).next scr dk W2) (ht2:zm (fun k=>¬own k) W0 W2)
  (hd:vj P W3 db dk') (hdn:dk'.n=d.n) (ht3:zm (fun k=>¬P k) W2 W3) (hown:∀k,own k→∀j∈L.all,k≠j):OI own W0 db d B L (i+1) (W3.setCell ⟨L.b6,0,none⟩ (Xs db true)):=by
 have h3:=(hM.wrote hd hdn ht3).setScrub;unfold OI;rw[hn,Jz hs]
 exact⟨hi,rfl,(ht2.trans (ht3.mono fun k hk ho=>hk (hM.ownP k ho))).trans ((yj W3 L.b6 0 _).mono fun k hk ho=>hown k ho _ L.mems.2.2.2.2.2.1 hk),P,loc,rp,h3⟩
theorem zk3 {P:Nat→Prop} {loc:zr→Nat × Nat × Nat} {rp:Nat→Prop} {rows:List (zr × xg)} {next:Int} {scr:Bool} {dk:Dk} {N:Nat} {W2 W3:World} (hk:un B X W2) (hM:OM own db N B L P loc rp rows next scr dk W2) (ht3:zm (fun k=>¬P k) W2 W3) (v:Value):un B X (W3.setCell ⟨L.b6,0,none⟩ v):=by
 have q:=hM.lP _ L.mems.2.2.2.2.2.1;have hz:=hM.sz;have hz3:=ht3.size;have t:=yj W3 L.b6 0 v;refine⟨Nat.le_trans hk.1 (Nat.le_trans ht3.size t.size),?_,?_⟩
 ·rw[t.block B (by omega) (by omega),ht3.block B (by omega) (fun e=>e hM.pB.1),hk.2.1]
 ·rw[t.block (B+1) (by omega) (by omega),ht3.block (B+1) (by omega) (fun e=>e hM.pB.2),hk.2.2]
theorem zkp {C:List Int→Nat} {f:Nat→List Int} {n:Nat} {p:Prt} (h:saidP C (f n)=some p):scanN C f (n+1)=⟨yu (scanN C f n).rows ⟨p.k,p.count⟩ (qs ((zx (scanN C f n).rows ⟨p.k,p.count⟩).getD (vt p.count)) p.index (n,p.b)),max (scanN C f n).next (p.k+1)⟩:=by
 conv=>lhs;unfold scanN scanStep
 rw[h]
theorem zeroPtr (w:World):(zeroValue 143).run Tryz.prog w = .ok (.pointer none) w:=by kernel_rfl
theorem zjx (loc:zr→Nat × Nat × Nat) (rows:List (zr × xg)) (K:zr):zx (rows.map fun q=>(q.1,(loc q.1).1)) K=(zx rows K).map fun _=>(loc K).1:=by
 induction rows with
 | nil=>rfl
 | cons p t ih=>
  simp only[List.map_cons,zx]
  by_cases h:p.1=K
  ·rw[if_pos h,if_pos h,h];rfl
  ·rw[if_neg h,if_neg h,ih]
theorem zav {P:Program} {ops:Array Oper} {w:World} {Q:Act→Prop} {o:Oper} {rest:List Oper} {a:Act} {v:Value} (hw:Region.wanted o (yielded ops a.tmps)=true) (hr:(execOp a.eval o).run P w = .ok (.value v) w) (h:wpStill P ops w Q rest (a.put o.dst v)):wpStill P ops w Q (o :: rest) a:=by
 refine wpStill_step fun K hK=>?_
 rw[if_pos hw];unfold Oper.still;rw[hr,Oper.stillUpon_value]
 exact hK _ h
theorem qo {o:Oper} {a:Act} {w:World} {t:TypeId} {vx vy v:Value} (x y:Operand) (c:Bool) (hop:o.op=Op.lookup t x y c) (hx:a.eval x=vx) (hy:a.eval y=vy) (hr:(Instr.lookup t vx vy c).run Tryz.prog w = .ok v w):(execOp a.eval o).run Tryz.prog w = .ok (.value v) w:=by
 unfold execOp;rw[hop]
 change (do pure (Next.value (←Instr.lookup t (a.eval x) (a.eval y) c)):Sem Next).run Tryz.prog w=_
 rw[hx,hy];generalize Instr.lookup t vx vy c=s at *;simp[go_sem,hr]
theorem Ya {P:Nat→Prop} {base:Nat} {W:World} {mr:Nat} {loc:zr→Nat × Nat × Nat} {rp:Nat→Prop} {rows:List (zr × xg)} (h:qh P base W mr loc rp rows) (K:zr) {v:Value} (hv:((zx rows K).map fun _=>Xx (loc K).1).getD (.pointer none)=v):(Instr.lookup 133 (.map (some mr)) (qy K) false).run Tryz.prog W = .ok v W:=by
 have:=h.map.lookup (P:=Tryz.prog) keK Tryz.underlying133 (zeroPtr W) K false;rw[zjx,Option.map_map] at this;rw[this,←hv]
 rfl
structure Rw5 (own:Nat→Prop) (W0 W:World) (db:Nat) (d:Dk) (B:Nat) (L:Zd) (i B9 B12:Nat) (p:Prt) (rows:List (zr × xg)) (v:Value) (P:Nat→Prop) (loc:zr→Nat × Nat × Nat) (rp:Nat→Prop) (rows5:List (zr × xg)) (r5:xg) (nx:Int) (X:World):Prop where
 om:OM own db d.n B L P loc rp rows5 nx (opnD d i).2.2 (opnD d i).1 X
 p9:P B9
 p12:P B12
 get:zx rows5 ⟨p.k,p.count⟩=some r5
 put:∀r,yu rows5 ⟨p.k,p.count⟩ r=yu rows ⟨p.k,p.count⟩ r
 is:r5=(zx rows ⟨p.k,p.count⟩).getD (vt p.count)
 len:r5.there.length=p.count
 rv:xy rp X v (zg p.b)
 two:un B W X
 turn:zm (fun k=>¬own k) W0 X
 h9:X.heap[B9]? = some (.cells #[.int .i64 p.k,.int .i64 (p.index:Int),.int .i64 (p.count:Int),v] 138 (0,0))
 h12:X.heap[B12]? = some (.cells #[.int .i64 p.k,.int .i64 (p.count:Int)] 142 (0,0))
theorem OI.two (h:OI own W0 db d B L i X) (hg:X.grownBy Y none):un B X Y:=by
 obtain⟨h0,h1,h2,P,loc,rp,h3⟩:=h;have hz:=h3.sz
 exact⟨hg.size,hg.block _ (by omega) (by simp),hg.block _ (by omega) (by simp)⟩
theorem Rw5.fin {B9 B12:Nat} {p:Prt} {rows rows5:List (zr × xg)} {v:Value} {P:Nat→Prop} {loc:zr→Nat × Nat × Nat} {rp:Nat→Prop} {r5:xg} {nx:Int} {W:World} (h:Rw5 own W0 W db d B L i B9 B12 p rows v P loc rp rows5 r5 nx X) (hi:i<d.n) (h1:(opnD d i).2.1=0) (hs:saidP zu (bk d.now i)=some p)
  (hsc:scanN zu (bk d.now) (i+1)=⟨yu rows ⟨p.k,p.count⟩ (qs ((zx rows ⟨p.k,p.count⟩).getD (vt p.count)) p.index (i,p.b)),nx⟩) {cs:List (Nat × Value × List Int)} (hr:Zp Y rp (loc ⟨p.k,p.count⟩).1 (loc ⟨p.k,p.count⟩).2.1 (loc ⟨p.k,p.count⟩).2.2 cs (qs r5 p.index (i,p.b))) (ht:zm (fun k=>k=(loc ⟨p.k,p.count⟩).2.1∨k=(loc ⟨p.k,p.count⟩).2.2) X.drew Y) (how2:∀k,own k→k<B):un B W Y∧OI own W0 db d B L (i+1) Y:=by
 have hd:=h.om.grown (zk (zj X));have hf:=h.om.rows.free _ _ h.get;have f1:=(hf _ (Or.inr (Or.inl rfl))).2.2;have f2:=(hf _ (Or.inr (Or.inr rfl))).2.2;have hz:=h.om.sz;have hz':X.drew.heap.size=X.heap.size:=rfl;have hset:=hd.setRow h.get hr ht;rw[h.put] at hset;have two:=h.two;refine⟨⟨Nat.le_trans two.1 ht.size,(ht.block B (by omega) (by omega)).trans two.2.1,(ht.block (B+1) (by omega) (by omega)).trans two.2.2⟩,?_⟩
 unfold OI;rw[Yg h1 (Or.inl (by rw[hs];rfl)),hsc,←h.is]
 exact⟨hi,h1,(h.turn.trans (⟨rfl,rfl,rfl,Nat.le_refl _,fun _ _ _=>rfl⟩:zm (fun k=>¬own k) X X.drew)).trans (ht.mono fun k hk ho=>by have:=how2 k ho;omega),P,loc,rp,hset⟩
theorem OI.need (h:OI own W0 db d B L i X) (hoff:d.off=false):za2 (fun _=>False) db L.bx d.n (bk d.now) i X:=by
 obtain⟨hi,h1,_,P,loc,rp,h3⟩:=h;have ho:=zer hoff i hi h1
 exact⟨h3.bx,_,h3.disk.less (fun _ e=>e.elim),ho.nn,ho.off,fun j hj _=>ho.rest j hj⟩
end
open Go.RowKit Go.Sf
attribute [local go_sem] Oper.semAt_some jr
section
variable {own : Nat → Prop} {W0 W : World} {db : Nat} {d : Dk} {B : Nat} {L : Zd} {i l B8 : Nat} {x : List Int} {fv u22 u23 u24 u25 u26 u27 u28 u29 u30 u31 u32 u33 u34 u35 u36 u40 u41 u42 u43 u44 u45 u46 u47 u48 u49 u50 u51 u52 u53 u54 u55 u56 u57 u58 u59 u60 u61 u62 u63 u64 u65 u66 u67 u68 u69 u70 u71 u72 u73 u74 u75 u76 u77 u78 u79 u80 u81 u82 u83 u84 u85 u86 u87 u88 u89 u90 u91 u92 u93 u94 u95 u96 u97 u98 u99 u100 u101 u102 u103 u104 u105 u106 u107 u108 u109 u110 u111 u112 u113 u114 u115 u116 u117 u118 u119 u120 u121 u122 u123 u124 u125 u126 u127 u128 u129 u130 u131 u132 u133 u134 u135 u136 u137 u138 u139 u140 u141 u142 u143 u144 u145 u146 u147 u148 u149 u150 u151 u152 u153 u154 u155 u156 u157 u158 u159 u160 : Value}
theorem zb6 (B:Nat) (I:Nat→World→Prop) (Ix:Code→World→Prop) (i:Nat) (W:World):¬LetsOut (Zt B I Ix i W):=fun ⟨_,_,h⟩=>h
set_option maxRecDepth 100000 in
theorem zf0 (hI:OI own W0 db d B L i W) (hi:i<d.n) (hx:bk d.now i=x) (hx1:x.length=256) (hx2:BL x) (h8:W.heap[B8]? = some (.cells (zg x).toArray 136 (0,0))) (hB8:B+2≤B8) (hs:saidP zu x=none) (hz:x=zv) :
  oBody.wpIn (Fence.wide.inRound l) 3 Tryz.prog (Zt B (OI own W0 db d B L) (OX own W0 db d B L) i W) { tmps:=#[.pointer (some ⟨db,0,none⟩),.pointer (some ⟨L.bd,0,none⟩),.pointer (some ⟨L.b2,0,none⟩),.pointer (some ⟨L.b3,0,none⟩),.pointer (some ⟨L.b4,0,none⟩),.pointer (some ⟨L.b5,0,none⟩),.pointer (some ⟨L.b6,0,none⟩),.int .i64 (i:Int),.pointer (some ⟨B8,0,none⟩),undef,undef,undef,undef,undef,undef,undef,undef,undef,undef,undef,undef,undef,u22,u23,u24,u25,u26,u27,u28,u29,u30,u31,u32,u33,u34,u35,u36,fv,.int .i64 (i:Int),.agg (zg x).toArray,u40,u41,u42,u43,u44,u45,u46,u47,u48,u49,u50,u51,u52,u53,u54,u55,u56,u57,u58,u59,u60,u61,u62,u63,u64,u65,u66,u67,u68,u69,u70,u71,u72,u73,u74,u75,u76,u77,u78,u79,u80,u81,u82,u83,u84,u85,u86,u87,u88,u89,u90,u91,u92,u93,u94,u95,u96,u97,u98,u99,u100,u101,u102,u103,u104,u105,u106,u107,u108,u109,u110,u111,u112,u113,u114,u115,u116,u117,u118,u119,u120,u121,u122,u123,u124,u125,u126,u127,u128,u129,u130,u131,u132,u133,u134,u135,u136,u137,u138,u139,u140,u141,u142,u143,u144,u145,u146,u147,u148,u149,u150,u151,u152,u153,u154,u155,u156,u157,u158,u159,u160],defers:=[] } W:=by
 have HL:=zb6 B (OI own W0 db d B L) (OX own W0 db d B L) i W;have HS:=zd (psaid (W:=W) x hx1 hx2);unfold Vd at HS;rw[hs] at HS;have HX1:=zd hx1;have H8:=zd h8;have HI:=zd hI;have HXE:=zd hx;have HSN:=zd hs;have HZ:=zd hz;have HIN:=zd hi;have HB8:=zd hB8;have HLL:=zd HL;clear hx1 hx2 h8 hI hx hs hz hi hB8 HL;generalize hPP:Zt B (OI own W0 db d B L) (OX own W0 db d B L) i W=PP at *;have HPP:=zd hPP;clear hPP
 delta oBody
 dsimp only[Tryz.f18];refine wpIn_block (wpIn_seq_k (fun K1 hK1=>ug (by kernel_rfl) (fun ⟨a,w,h⟩=>HLL.out ⟨a,w,h⟩) ?_))
 go_wp2_with (first
  | (refine wpList_load_row rfl 136 _ rfl B8 rfl 136 (zg x).toArray (0,0) _ H8.out Tryz.underlying136 rfl (jn HX1.out) ?_)
  | (go_at_call 84;refine HS.out.mono ?_;rintro e W1 ⟨hg,k',i',c',v,rfl,⟨pv,nv,cv,rfl⟩,-⟩;have HG:=zd hg;clear hg))
 refine wpIn_seq_k (fun K2 hK2=>wpIn_seq_k (fun K3 hK3=>ug (by kernel_rfl) (fun ⟨a,w,h⟩=>HLL.out ⟨a,w,h⟩) ?_))
 have HZL:Hid (zv.length=256):=(show _=_ from xe)
 have H9:Hid (∀w',W1.grownBy w' none→w'.heap[B8]? = some (.cells (zg x).toArray 136 (0,0))):=(show ∀w',_→_ from fun w' hg=>((zh HG.out hg).block B8 (Array.getElem?_eq_some_iff.1 H8.out).1 (by simp)).trans H8.out)
 go_wp2_with (first
  | (refine vn (by kernel_rfl) (Xk _ 136 rfl B8 136 (zg x).toArray (0,0) _ rfl (H9.out _ (by repeat (first|exact zj _|refine zp ?_ _))) Tryz.underlying136 rfl (jn HX1.out)) ?_)
  | (refine vn (by kernel_rfl) (Ud rfl) ?_)
  | (refine vn (by kernel_rfl) (zah _ _ _ rfl rfl rfl HX1.out HZL.out false (by rw[HZ.out];simp)) ?_))
 gi_wp2_with fail
 rw[←HPP.out]
 exact⟨HI.out.two (zp HG.out _),(HI.out.clean HIN.out (by rw[HXE.out];exact HSN.out) (by rw[HXE.out];exact HZ.out)).grown (zp HG.out _)⟩
end
attribute [local go_sem] Oper.semAt_some jr
section
variable {own : Nat → Prop} {W0 W : World} {db : Nat} {d : Dk} {B : Nat} {L : Zd} {i l B8 : Nat} {x : List Int} {fv u22 u23 u24 u25 u26 u27 u28 u29 u30 u31 u32 u33 u34 u35 u36 u40 u41 u42 u43 u44 u45 u46 u47 u48 u49 u50 u51 u52 u53 u54 u55 u56 u57 u58 u59 u60 u61 u62 u63 u64 u65 u66 u67 u68 u69 u70 u71 u72 u73 u74 u75 u76 u77 u78 u79 u80 u81 u82 u83 u84 u85 u86 u87 u88 u89 u90 u91 u92 u93 u94 u95 u96 u97 u98 u99 u100 u101 u102 u103 u104 u105 u106 u107 u108 u109 u110 u111 u112 u113 u114 u115 u116 u117 u118 u119 u120 u121 u122 u123 u124 u125 u126 u127 u128 u129 u130 u131 u132 u133 u134 u135 u136 u137 u138 u139 u140 u141 u142 u143 u144 u145 u146 u147 u148 u149 u150 u151 u152 u153 u154 u155 u156 u157 u158 u159 u160 : Value}
theorem ox_made {W2 W3:World} {P:Nat→Prop} {loc:zr→Nat × Nat × Nat} {rp:Nat→Prop} {rows:List (zr × xg)} {next:Int} {scr:Bool} {dk dk':Dk} (hI:OI own W0 db d B L i W) (hn:opnD d (i+1)=(dk',180,true)) (hi:i<d.n) (hM:OM own db d.n B L P loc rp rows next scr dk W2) (ht2:zm (fun k=>¬own k) W0 W2)
  (hd:vj P W3 db dk') (ht3:zm (fun k=>¬P k) W2 W3) (h2:W3.heap[L.b2]? = some (.cells #[.pointer none] 24 (0,0))) (h3:W3.heap[L.b3]? = some (.cells #[.int .i64 0] 25 (0,0))) (hown:∀k,own k→∀j∈L.all,k≠j) (hg:W.grownBy W2 none) :
  un B W ((W3.setCell ⟨L.b2,0,none⟩ (.pointer none)).setCell ⟨L.b3,0,none⟩ (.int .i64 180))∧OX own W0 db d B L .ret ((W3.setCell ⟨L.b2,0,none⟩ (.pointer none)).setCell ⟨L.b3,0,none⟩ (.int .i64 180)):=by
 have m2:=L.mems.2.1;have m3:=L.mems.2.2.1;have q2:=hM.lP _ m2;have q3:=hM.lP _ m3;have n23:L.b2≠L.b3:=xf hM.nd 1 2 rfl rfl (by decide)
 have t1:=(yj W3 L.b2 0 (.pointer none)).mono (cs:=fun k=>k=L.b2∨k=L.b3) (fun k hk=>Or.inl hk)
 have t2:=(yj (W3.setCell ⟨L.b2,0,none⟩ (.pointer none)) L.b3 0 (.int .i64 180)).mono (cs:=fun k=>k=L.b2∨k=L.b3) (fun k hk=>Or.inr hk)
 have tt:=t1.trans t2;have hk:=hI.two hg;have hz:=hM.sz;have hz3:=ht3.size;have he:opnD d d.n=(dk',180,true):=by rw[zdo (n:=i+1) (by rw[hn];simp) d.n hi,hn]
 refine⟨⟨Nat.le_trans hk.1 (Nat.le_trans ht3.size tt.size),?_,?_⟩,rfl,by rw[he];simp,(ht2.trans (ht3.mono fun k hk ho=>hk (hM.ownP k ho))).trans (tt.mono fun k hk ho=>?_),⟨P,?_,hM.ownP,hM.pB⟩,⟨?_,q2.2⟩,⟨?_,q3.2⟩⟩
 ·rw[tt.block B (by omega) (by omega),ht3.block B (by omega) (fun e=>e hM.pB.1),hk.2.1]
 ·rw[tt.block (B+1) (by omega) (by omega),ht3.block (B+1) (by omega) (fun e=>e hM.pB.2),hk.2.2]
 ·rcases hk with e|e
  ·exact hown k ho _ m2 e
  ·exact hown k ho _ m3 e
 ·rw[he]
  exact hd.turn (tt.mono fun k hk=>by
   rcases hk with e|e
   ·rw[e];exact q2.1
   ·rw[e];exact q3.1)
 ·simp[World.setCell,Array.getElem?_modify,h2,Ne.symm n23,n23]
 ·rw[he];simp[World.setCell,Array.getElem?_modify,h3,Ne.symm n23,n23]
set_option maxRecDepth 100000 in
theorem zf1 (hI:OI own W0 db d B L i W) (hi:i<d.n) (hx:bk d.now i=x) (hx1:x.length=256) (hx2:BL x) (h8:W.heap[B8]? = some (.cells (zg x).toArray 136 (0,0))) (hB8:B+2≤B8) (hs:saidP zu x=none) (hz:x≠zv) (hoff:d.off=false) (hlate:d.late.length+d.n<1000000) (hown:∀k,own k→∀j∈L.all,k≠j) :
  oBody.wpIn (Fence.wide.inRound l) 3 Tryz.prog (Zt B (OI own W0 db d B L) (OX own W0 db d B L) i W) { tmps:=#[.pointer (some ⟨db,0,none⟩),.pointer (some ⟨L.bd,0,none⟩),.pointer (some ⟨L.b2,0,none⟩),.pointer (some ⟨L.b3,0,none⟩),.pointer (some ⟨L.b4,0,none⟩),.pointer (some ⟨L.b5,0,none⟩),.pointer (some ⟨L.b6,0,none⟩),.int .i64 (i:Int),.pointer (some ⟨B8,0,none⟩),undef,undef,undef,undef,undef,undef,undef,undef,undef,undef,undef,undef,undef,u22,u23,u24,u25,u26,u27,u28,u29,u30,u31,u32,u33,u34,u35,u36,fv,.int .i64 (i:Int),.agg (zg x).toArray,u40,u41,u42,u43,u44,u45,u46,u47,u48,u49,u50,u51,u52,u53,u54,u55,u56,u57,u58,u59,u60,u61,u62,u63,u64,u65,u66,u67,u68,u69,u70,u71,u72,u73,u74,u75,u76,u77,u78,u79,u80,u81,u82,u83,u84,u85,u86,u87,u88,u89,u90,u91,u92,u93,u94,u95,u96,u97,u98,u99,u100,u101,u102,u103,u104,u105,u106,u107,u108,u109,u110,u111,u112,u113,u114,u115,u116,u117,u118,u119,u120,u121,u122,u123,u124,u125,u126,u127,u128,u129,u130,u131,u132,u133,u134,u135,u136,u137,u138,u139,u140,u141,u142,u143,u144,u145,u146,u147,u148,u149,u150,u151,u152,u153,u154,u155,u156,u157,u158,u159,u160],defers:=[] } W:=by
 have HL:=zb6 B (OI own W0 db d B L) (OX own W0 db d B L) i W;have HS:=zd (psaid (W:=W) x hx1 hx2);unfold Vd at HS;rw[hs] at HS;have HX1:=zd hx1;have H8:=zd h8;have HI:=zd hI;have HXE:=zd hx;have HSN:=zd hs;have HZ:=zd hz;have HLA:=zd hlate;have HOF:=zd hoff;have HOW:=zd hown;have HIN:=zd hi;have HB8:=zd hB8;have HLL:=zd HL;clear hx1 hx2 h8 hI hx hs hz hi hB8 HL hlate hoff hown;generalize hPP:Zt B (OI own W0 db d B L) (OX own W0 db d B L) i W=PP at *;have HPP:=zd hPP;clear hPP
 delta oBody
 dsimp only[Tryz.f18];refine wpIn_block (wpIn_seq_k (fun K1 hK1=>ug (by kernel_rfl) (fun ⟨a,w,h⟩=>HLL.out ⟨a,w,h⟩) ?_))
 go_wp2_with (first
  | (refine wpList_load_row rfl 136 _ rfl B8 rfl 136 (zg x).toArray (0,0) _ H8.out Tryz.underlying136 rfl (jn HX1.out) ?_)
  | (go_at_call 84;refine HS.out.mono ?_;rintro e W1 ⟨hg,k',i',c',v,rfl,⟨pv,nv,cv,rfl⟩,-⟩;have HG:=zd hg;clear hg))
 refine wpIn_seq_k (fun K2 hK2=>wpIn_seq_k (fun K3 hK3=>ug (by kernel_rfl) (fun ⟨a,w,h⟩=>HLL.out ⟨a,w,h⟩) ?_))
 have HZL:Hid (zv.length=256):=(show _=_ from xe)
 have H9:Hid (∀w',W1.grownBy w' none→w'.heap[B8]? = some (.cells (zg x).toArray 136 (0,0))):=(show ∀w',_→_ from fun w' hg=>((zh HG.out hg).block B8 (Array.getElem?_eq_some_iff.1 H8.out).1 (by simp)).trans H8.out)
 go_wp2_with (first
  | (refine vn (by kernel_rfl) (Xk _ 136 rfl B8 136 (zg x).toArray (0,0) _ rfl (H9.out _ (by repeat (first|exact zj _|refine zp ?_ _))) Tryz.underlying136 rfl (jn HX1.out)) ?_)
  | (refine vn (by kernel_rfl) (Ud rfl) ?_)
  | (refine vn (by kernel_rfl) (zah _ _ _ rfl rfl rfl HX1.out HZL.out true (by simp[HZ.out])) ?_))
 have HG2:Hid (W.grownBy (W1.alloc (.cells #[.int .i64 k',.int .i64 i',.int .i64 c',.slice pv nv cv] 138)) none):=(show W.grownBy _ none from zp HG.out _)
 generalize W1.alloc (.cells #[.int .i64 k',.int .i64 i',.int .i64 c',.slice pv nv cv] 138)=W2 at *;clear HG H9 HS H8;have hI2:=HI.out.grown HG2.out;obtain⟨h0,h1,h2,P,loc,rp,hM⟩:=hI2;have ho:=zer HOF.out i h0 h1;obtain⟨z1,z2,z3⟩:=Jd ho.off (i:=i) (by rw[ho.nn];exact HIN.out)
 have hnext:=zca h1 (by rw[HXE.out,HSN.out];rfl) (by rw[HXE.out];exact HZ.out)
 have HWR:=zd (dwrite hM.disk (i:Int) (v:=.slice none 0 0) (b:=[]) ⟨none,0,rfl,Or.inl rfl⟩ (fun _ h=>by simp at h) (by have:=ho.late;have:=HLA.out;have:=HIN.out;omega))
 have cd:W2.cell? ⟨L.bd,0,none⟩=some (.pointer (some ⟨db,0,none⟩)):=(zf hM.bd 0).trans rfl;have HM:=zd hM;have HNX:=zd hnext;have HO:=zd ho;have HT2:=zd h2;have HH1:=zd h1;have hmf:∀(fn:Fn) (first cap:Array Value) (w:World),(Instr.makeFunc fn first cap).run Tryz.prog w = .ok (.func fn first cap) w:=fun _ _ _ _=>rfl
 have fT:Fence.wide.fn 24:=trivial;clear hM hnext ho h2 h1 z1;rw[z2] at HWR HNX
 cases hb:(opnD d i).1.stepB with
 | false=>
  rw[hb] at HWR z3 HNX;simp only[Bool.false_eq_true,if_false] at HWR z3 HNX;clear z2 z3 hb;have n23:L.b2≠L.b3:=xf HM.out.nd 1 2 rfl rfl (by decide)
  have n32:L.b3≠L.b2:=Ne.symm n23
  gi_wp2_with (first
   | (gi_at_call 24;refine(callsIn_wide.2 HWR.out).mono ?_;rintro e W3 ⟨rfl,hd3,ht3⟩;have HD3:=zd hd3;have HT3:=zd ht3;have b2:=(HT3.out.block _ (HM.out.P_lt (HM.out.lP _ L.mems.2.1).1) (fun e=>e (HM.out.lP _ L.mems.2.1).1)).trans HM.out.b2;have b3:=(HT3.out.block _ (HM.out.P_lt (HM.out.lP _ L.mems.2.2.1).1) (fun e=>e (HM.out.lP _ L.mems.2.2.1).1)).trans HM.out.b3;have k2:W3.cell? ⟨L.b2,0,none⟩=some (.pointer none):=(zf b2 0).trans rfl;have k3:W3.cell? ⟨L.b3,0,none⟩=some (.int .i64 0):=(zf b3 0).trans rfl;have f2:=zi b2 0;have f3:=zi b3 0;have HB2:=zd b2;have HB3:=zd b3;clear hd3 ht3 b2 b3))
  rw[←HPP.out]
  exact ox_made HI.out HNX.out HIN.out HM.out HT2.out HD3.out HT3.out HB2.out HB3.out HOW.out HG2.out
 | true=>
  rw[hb] at HWR z3 HNX;simp only[if_true] at HWR z3 HNX;have HDN:Hid (((opnD d i).1.written (i:Int) []).n=d.n):=(show _=_ from by rw[z3];exact HO.out.nn)
  clear z2 z3 hb
  gi_wp2_with (first
   | (gi_at_call 24;refine(callsIn_wide.2 HWR.out).mono ?_;rintro e W3 ⟨rfl,hd3,ht3⟩;have HD3:=zd hd3;have HT3:=zd ht3;have b6:=(HT3.out.block _ (HM.out.P_lt (HM.out.lP _ L.mems.2.2.2.2.2.1).1) (fun e=>e (HM.out.lP _ L.mems.2.2.2.2.2.1).1)).trans HM.out.b6;have bd:=(HT3.out.block _ (HM.out.P_lt (HM.out.lP _ L.mems.1).1) (fun e=>e (HM.out.lP _ L.mems.1).1)).trans HM.out.bd;have k6:W3.cell? ⟨L.b6,0,none⟩=some (Xs db (opnD d i).2.2):=(zf b6 0).trans rfl;have f6:=zi b6 0;have kd:W3.cell? ⟨L.bd,0,none⟩=some (.pointer (some ⟨db,0,none⟩)):=(zf bd 0).trans rfl;clear hd3 ht3 b6 bd))
  rw[←HPP.out]
  exact⟨zk3 (HI.out.two HG2.out) HM.out HT3.out _,OI.scrub HIN.out (by rw[HXE.out];exact HSN.out) HNX.out HM.out HT2.out HD3.out HDN.out HT3.out HOW.out⟩
end
end Go.Proofs.YtbcbhlfjgobejaaGreat
