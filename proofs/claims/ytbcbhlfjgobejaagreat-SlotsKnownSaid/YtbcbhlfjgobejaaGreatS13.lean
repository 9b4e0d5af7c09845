/- slots.said: the walk. Conditions: none, or as the theorems say. -/
import Derived.Test.YtbcbhlfjgobejaaGreatS1
import Derived.Test.YtbcbhlfjgobejaaGreatS12
set_option linter.unusedSimpArgs false
set_option linter.unusedVariables false
namespace Go.Proofs.YtbcbhlfjgobejaaGreat
set_option maxHeartbeats 200000000
open Go.RowKit Go.Sf
variable {a:Act} {x:List Int} {pb:Nat} {T:TypeId} {v:Value} {w w':World}
theorem zfe {y:List Int} (hx:x.length=256) (hy:y.length=256) (w:World):(Op.equalIn 10000 136 (vm x) (vm y)).run Tryz.prog w = .ok (decide (x=y)) w:=by
 obtain⟨i,hi⟩:∃i,Tryz.prog.info? 5=some i:=Option.isSome_iff_exists.1 (by kernel_rfl)
 have h:=run_equalIn_array (P:=Tryz.prog) w 9999 (t:=136) (n:=256) (zg x).toArray (zg y).toArray (by kernel_rfl) hi
 have hc:Tryz.prog.cellsOf 5=1:=by kernel_rfl
 rw[hc] at h;have h2:=Vg w 9998 x y [] (by omega) [] rfl
 simp only[List.nil_append,List.length_nil,hx] at h2;rw[List.range_eq_range'] at h
 exact h.trans h2
theorem zd2:Tryz.prog.eqGuardType Tryz.prog.depth 136=false:=by kernel_rfl
theorem zhx {o:Oper} {A B:List Int} (t2:TypeId) (x y:Operand) (hop:o.op=Op.binOp .eql 136 x y t2) (hx:a.eval x = .agg (zg A).toArray) (hy:a.eval y = .agg (zg B).toArray) (hA:A.length=256) (hB:B.length=256):(execOp a.eval o).run Tryz.prog w = .ok (.value (.bool (decide (A=B)))) w:=by
 unfold execOp;rw[hop]
 change (do pure (Next.value (←(do eqGuard .eql 136 x y (a.eval x) (a.eval y);binOp .eql 136 (a.eval x) (a.eval y)))):Sem Next).run Tryz.prog w=_
 rw[hx,hy];have h1:=run_eqGuard_agg (P:=Tryz.prog) w .eql _ x y (zg A).toArray (zg B).toArray zd2;have h2:(binOp .eql 136 (.agg (zg A).toArray) (.agg (zg B).toArray)).run Tryz.prog w = .ok (.bool (decide (A=B))) w:=by
  rw[run_eql_struct];have:=zfe hA hB w;unfold vm at this;rw[this]
  rfl
 simp only[Sem.run_bind,h1,h2,Result.andThen_ok,Sem.run_pure]
theorem Jf {o:Oper} (ty:TypeId) (x y:Operand) (ho:o.op = .store ty x y) (g:Nat) (c':Array Value) (t:TypeId) (c:Array Value) (hx:a.eval x = .pointer (some ⟨g,0,none⟩)) (hy:a.eval y = .agg c') (hg:w.heap[g]? = some (.cells c t (0,0))) (hi:(Tryz.prog.info? ty).map (·.size)=some c'.size) (hold:c.size=c'.size) (h1:c'.all (·.oneCell')=true) :
  (execOp a.eval o).run Tryz.prog w = .ok .skip (w.setRow g c'):=by
 have h:=run_storeVar_row (P:=Tryz.prog) w g t ty c c' hg hi hold h1;unfold execOp;simp only[ho,hx,hy,Instr.storeAt,Instr.sureAddr,Sem.run_bind,Sem.run_pure,Result.andThen_ok,h]
theorem Yp {b:Nat} {cs:List Value} {fr:Nat × Nat} (h:w.heap[b]? = some (.cells cs.toArray T fr)):w.rangeAt b 0 cs:=λj v hv=>by
 rw[Nat.zero_add,cell_of_row w b j _ T fr h];simpa using hv
section
variable {B : Nat} {w w' : World} {rb at_ : Nat} {all : List Int}
theorem zfl {k:Nat} {kd:IntKind} {e:Ending} (h:us B w rb all at_ false k kd e w') (hk:k≤all.length-at_):e = .returned (.int kd (num ((all.drop at_).take k)))∧Rdr B w' rb all (at_+k) false∧zm (λk=>k=rb) w w':=by
 unfold us at h;rw[if_pos ⟨rfl,hk⟩] at h
 exact⟨h.2.1,h.2.2,h.1⟩
theorem rawBoth (h:Rdr B w rb all at_ false) (hw:B≤w.heap.size) (n:Nat) (hn:n≤4294967296) :
  Calls Tryz.prog 167 #[.pointer (some ⟨rb,0,none⟩),.int .i64 n] w λe w'=>∃v,e = .returned v∧zx w' v (if n≤all.length-at_ then (all.drop at_).take n else [])∧zm (λk=>k=rb) w w':=
 (zpy h hw n hn).mono λe w' hp=>by
  unfold qs at hp
  by_cases hle:n≤all.length-at_
  ·rw[if_pos ⟨rfl,hle⟩] at hp
   rw[if_pos hle];obtain⟨v,rfl,ho⟩:=hp.2.1
   exact⟨v,rfl,vw ho,hp.1⟩
  ·rw[if_neg (λh=>hle h.2)] at hp
   rw[if_neg hle]
   exact⟨_,hp.2.1,⟨none,0,rfl,Or.inl rfl⟩,hp.1⟩
end
theorem Rdr.other {B:Nat} {rb at_:Nat} {all:List Int} {bad:Bool} (h:Rdr B w rb all at_ bad) {c:Array Value} (hb:w.heap[pb]? = some (.cells c T (0,0))) (hc:∀(j:Nat) (b:Int),c[j]?≠some (Value.int .u8 b)) (hne:pb≠rb) (hk:∀k,k≠pb→w'.heap[k]? = w.heap[k]?):Rdr B w' rb all at_ bad:=by
 obtain⟨v,h1,p,cap,rfl,h2,h3,h4⟩:=(show ∃v,w.heap[rb]? = some (.cells #[v,.int .i64 at_,.bool bad] 306 (0,0))∧∃p cap,v = .slice p all.length cap∧all.length≤cap∧cap≤9223372036854775807∧(all = []∨∃a,p=some a∧a.block<B∧∀j u,(zg all)[j]? = some u→w.cell? (a.add j)=some u) from by
  obtain⟨v,h1,h2⟩:=h.ex
  exact⟨v,h1,h2.ex⟩)
 refine⟨h.le,h.len,h.pos,_,(hk rb (λe=>hne e.symm)).trans h1,p,cap,rfl,h2,h3,?_⟩
 rcases h4 with h4|⟨a,rfl,h5,h6⟩
 ·exact Or.inl h4
 ·cases all with
  | nil=>exact Or.inl rfl
  | cons b0 r=>
   have hne2:a.block≠pb:=λe=>by
    have h7:=h6 0 (.int .u8 b0) rfl;have e0:a.add 0=a:=rfl;rw[e0] at h7
    cases hs:a.spot.isSome with
    | true=>simp[World.cell?,e,hb,hs] at h7
    | false=>
     have h8:w.cell? a=c[a.off]?:=by simp[World.cell?,e,hb,hs]
     rw[h8] at h7
     exact hc _ _ h7
   refine Or.inr ⟨a,rfl,h5,λj u hu=>?_⟩
   have hbl:(a.add j).block=a.block:=by unfold Addr.add;split <;> rfl
   exact(World.cell?_of_block (hk _ (by rw[hbl];exact hne2))).trans (h6 j u hu)
theorem zm8 (a b c:Int) (p:Option Addr) (n q:Nat):∀(j:Nat) (x:Int),(#[Value.int .i64 a,Value.int .i64 b,Value.int .i64 c,Value.slice p n q])[j]?≠some (Value.int .u8 x):=λj x h=>by
 rcases j with _|_|_|_|j <;> simp at h
theorem zpq {a b c a' b' c':Int} {v':Value} (h:w.heap[pb]? = some (.cells #[.int .i64 a,.int .i64 b,.int .i64 c,v] 138 (0,0))) :
  ((((w.setCell ⟨pb,0,none⟩ (.int .i64 a')).setCell ⟨pb,1,none⟩ (.int .i64 b')).setCell ⟨pb,2,none⟩ (.int .i64 c')).setCell ⟨pb,3,none⟩ v').heap[pb]? = some (.cells #[.int .i64 a',.int .i64 b',.int .i64 c',v'] 138 (0,0))∧
  ∀k,k≠pb→((((w.setCell ⟨pb,0,none⟩ (.int .i64 a')).setCell ⟨pb,1,none⟩ (.int .i64 b')).setCell ⟨pb,2,none⟩ (.int .i64 c')).setCell ⟨pb,3,none⟩ v').heap[k]? = w.heap[k]?:=by
 refine⟨by simp[World.setCell,Array.getElem?_modify,h],λk hk=>?_⟩
 rw[Below.heap_setCell _ _ _ k hk,Below.heap_setCell _ _ _ k hk,Below.heap_setCell _ _ _ k hk,Below.heap_setCell _ _ _ k hk]
theorem qm {base n size:Nat} {e:TypeId} {xs:List Value} (h:w.ownsRow base e size v n xs) (hs:∀g,v.ownBlock=some g→w'.heap[g]? = w.heap[g]?):w'.ownsRow base e size v n xs:=by
 refine⟨h.1,?_⟩
 rcases h.2 with h0|⟨g,cap,cur,e1,hbg,hb,r⟩
 ·exact Or.inl h0
 ·exact Or.inr ⟨g,cap,cur,e1,hbg,(hs g (by rw[e1];rfl)).trans hb,r⟩
theorem zi9 (hx:x.length=256) (hb:BL x):(saidP zo x).isSome=(decide (num ((x.drop 0).take 1)=80) && (Yv (yc x).k (yc x).index (yc x).count (yc x).b.length && decide (xe zo (yc x)=x))):=by
 rw[Bool.eq_iff_iff];simp only[Bool.and_eq_true,decide_eq_true_eq,zid];unfold saidP
 constructor
 ·intro h
  split at h
  ·rename_i h1
   refine⟨?_,h1⟩;have e:=h1.2;rw[←e,Xk]
   rfl
  ·cases h
 ·rintro⟨_,h1⟩
  rw[if_pos h1]
  rfl
theorem said_is {p:Prt} (h:saidP zo x=some p):p=yc x:=by
 unfold saidP at h
 split at h
 ·cases h;rfl
 ·cases h
theorem ql {fn:Func} {p q:Tmp} {ty:TypeId} (h:fn.results = #[.cell p ty,.tmp q]) (tmps:Array Value) (w:World) (g:Nat) (t:TypeId) (cs:Array Value) (fr:Nat × Nat) (d:TypeDesc)
 (hp:tmps.getD p undef = .pointer (some ⟨g,0,none⟩)) (hg:w.heap[g]? = some (.cells cs t fr))
 (hd:(match d with | .struct _ | .array _ _=>true|_=>false)=true) (hu:Tryz.prog.underlying ty=some d) (hi:(Tryz.prog.info? ty).map (·.size)=some cs.size) :
  (results fn tmps).run Tryz.prog w = .ok (.tuple #[.agg cs,tmps.getD q undef]) w:=by
 have hp':tmps[p]?.getD undef = .pointer (some ⟨g,0,none⟩):=by simpa using hp
 simp[results,h,hp',asAddr,run_loadVar_row w g t ty cs fr d hg hu (by cases d <;> first|rfl|cases hd) hi]
theorem zas (a b c:Int) (p:Option Addr) (n q:Nat):(#[Value.int .i64 a,Value.int .i64 b,Value.int .i64 c,Value.slice p n q]).all (·.oneCell')=true:=
 all_oneCell_toArray (cs:=[Value.int .i64 a,Value.int .i64 b,Value.int .i64 c,Value.slice p n q]) (λv hv=>by
  simp only[List.mem_cons,List.not_mem_nil,or_false] at hv
  rcases hv with rfl|rfl|rfl|rfl <;> rfl)
def Us (W:World) (x:List Int) (e:Ending) (w':World):Prop:=
 W.grownBy w' none∧∃(k i c:Int) (v:Value),e = .returned (.tuple #[.agg #[.int .i64 k,.int .i64 i,.int .i64 c,v],.bool (saidP zo x).isSome])∧(∃p n cap,v = .slice p n cap)∧
  ∀p,saidP zo x=some p→k=p.k∧i=p.index∧c=p.count∧w'.ownsRow W.heap.size 5 1 v p.b.length (zg p.b)
set_option maxRecDepth 100000 in
theorem psaid {W:World} (x:List Int) (hx:x.length=256) (hb:BL x):Calls Tryz.prog 84 #[.agg (zg x).toArray] W (Us W x):=by
 have HX:=zd hx;have HB:=zd hb;have hsm:=zi9 hx hb;have HIS:Hid (∀p,saidP zo x=some p→p=yc x):=(λp h=>said_is h)
 have hpk:(yc x).k=s64 (num ((x.drop 1).take 8)):=rfl;have hpi:(yc x).index=num ((x.drop 9).take 2):=rfl;have hpc:(yc x).count=num ((x.drop 11).take 2):=rfl;have hpb:(yc x).b=if num ((x.drop 13).take 1)≤242 then (x.drop 14).take (num ((x.drop 13).take 1)) else []:=rfl
 have hnl:∀a b,a+b≤256→num ((x.drop a).take b)<256 ^ b:=λa b hab=>by
  have:=zg4 ((hb.drop a).take b)
  rwa [List.length_take,List.length_drop,hx,Nat.min_eq_left (by omega)] at this
 have b0:=hnl 0 1 (by omega)
 have b1:=hnl 1 8 (by omega)
 have b2:=hnl 9 2 (by omega)
 have b3:=hnl 11 2 (by omega)
 have b4:=hnl 13 1 (by omega)
 have HBB:Hid (BL (yc x).b):=(show BL _ from by
  rw[hpb]
  split
  ·exact(hb.drop _).take _
  ·intro b hb2;cases hb2)
 have hbl:(yc x).b.length≤242:=by
  rw[hpb]
  split
  ·rw[List.length_take];omega
  ·simp
 clear hnl hx hb;have HB1:Hid ((W.alloc (.cells (zg x).toArray 136)).heap[W.heap.size]? = some (.cells (zg x).toArray 136 (0,0))):=(show _=_ from heap_alloc_new _ _)
 have HRD:Hid (∀(w rb at_),Rdr rb w rb x at_ false→BL x→Calls Tryz.prog 164 #[.pointer (some ⟨rb,0,none⟩)] w (us rb w rb x at_ false 1 .u8)):=(λw rb at_ h hb=>zlx h hb)
 go_enter Tryz.func84,Tryz.ntmps84
 go_upto_region 1 with fail
 have g1:W.grownBy ((W.alloc (.cells (zg x).toArray 136)).alloc (.cells #[.int .i64 0,.int .i64 0,.int .i64 0,.slice none 0 0] 138)) none:=zp (ze _ _ _) _;have x1:((W.alloc (.cells (zg x).toArray 136)).alloc (.cells #[.int .i64 0,.int .i64 0,.int .i64 0,.slice none 0 0] 138)).heap[W.heap.size]? = some (.cells (zg x).toArray 136 (0,0)):=((ze _ _ none).block _ (by simp) (by simp)).trans HB1.out
 have p1:((W.alloc (.cells (zg x).toArray 136)).alloc (.cells #[.int .i64 0,.int .i64 0,.int .i64 0,.slice none 0 0] 138)).heap[W.heap.size+1]? = some (.cells #[.int .i64 0,.int .i64 0,.int .i64 0,.slice none 0 0] 138 (0,0)):=by
  have:=heap_alloc_new (W.alloc (.cells (zg x).toArray 136)) (.cells #[.int .i64 0,.int .i64 0,.int .i64 0,.slice none 0 0] 138)
  rwa [show(W.alloc (.cells (zg x).toArray 136)).heap.size=W.heap.size+1 by simp] at this
 have hsz:W.heap.size+2≤((W.alloc (.cells (zg x).toArray 136)).alloc (.cells #[.int .i64 0,.int .i64 0,.int .i64 0,.slice none 0 0] 138)).heap.size:=by simp
 have HG1:=zd g1;have HX1:=zd x1;have HP1:=zd p1;have HS1:=zd hsz;clear g1 x1 p1 hsz;generalize (W.alloc (.cells (zg x).toArray 136)).alloc (.cells #[.int .i64 0,.int .i64 0,.int .i64 0,.slice none 0 0] 138)=W1 at *;have HRR:=zd (zbr HX1.out 256 256 (by rw[HX.out];exact Nat.le_refl _))
 rw[List.take_of_length_le (by rw[HX.out];exact Nat.le_refl _)] at HRR
 go_upto_region 2 with (go_at_call 163;refine(zng HRR.out (by rw[HX.out];omega) (λe=>by cases e)).mono ?_;rintro e w2 ⟨rb,rfl,hr,hg,hle⟩;have HR2:=zd hr;have HG2:=zd hg;have HLE:=zd hle;clear hr hg hle)
 have hrb:rb≠W.heap.size∧rb≠W.heap.size+1∧rb<w2.heap.size:=⟨by have:=HS1.out;have:=HLE.out;omega,by have:=HS1.out;have:=HLE.out;omega,HR2.out.lt⟩
 have HX2:Hid (∀w,zm (λk=>k=rb) w2 w→w.heap[W.heap.size]? = some (.cells (zg x).toArray 136 (0,0))∧w.heap[W.heap.size+1]? = some (.cells #[.int .i64 0,.int .i64 0,.int .i64 0,.slice none 0 0] 138 (0,0))∧W.grownBy w none∧rb≤w.heap.size):=(λw ht=>by
  have a1:=(HG2.out.block _ (Array.getElem?_eq_some_iff.1 HX1.out).1 (by simp)).trans HX1.out
  have a2:=(HG2.out.block _ (Array.getElem?_eq_some_iff.1 HP1.out).1 (by simp)).trans HP1.out
  have hs:=HS1.out;refine⟨(ht.block _ (Array.getElem?_eq_some_iff.1 a1).1 (by omega)).trans a1,(ht.block _ (Array.getElem?_eq_some_iff.1 a2).1 (by omega)).trans a2,⟨ht.os.trans (HG2.out.os.trans HG1.out.os),ht.tape.trans (HG2.out.tape.trans HG1.out.tape),ht.output.trans (HG2.out.output.trans HG1.out.output),Nat.le_trans HG1.out.size (Nat.le_trans HG2.out.size ht.size),λk hk _=>?_⟩,by have:=ht.size;omega⟩
  have h1:k<W1.heap.size:=Nat.lt_of_lt_of_le hk HG1.out.size
  exact(ht.block k (Nat.lt_of_lt_of_le h1 HG2.out.size) (by have:=HLE.out;omega)).trans ((HG2.out.block k h1 (by simp)).trans (HG1.out.block k hk (by simp))))
 generalize htg:num ((x.drop 0).take 1)=tg at *;generalize hK0:num ((x.drop 1).take 8)=KN at *;have HKE:=zd hK0;clear hK0;generalize hI0:num ((x.drop 9).take 2)=I at *;have HIE:=zd hI0;clear hI0;generalize hC0:num ((x.drop 11).take 2)=C at *;have HCE:=zd hC0;clear hC0
 by_cases ht80:tg=80
 ·subst ht80
  have HTG:=zd htg;have HSM:Hid ((saidP zo x).isSome=(Yv (yc x).k (yc x).index (yc x).count (yc x).b.length && decide (xe zo (yc x)=x))):=(show _=_ from by rw[hsm];simp)
  have hkk:wrap64 (KN:Int)=(yc x).k:=by rw[hpk];exact zp4 KN b1
  have HKK:=zd hkk;have HPB:=zd hpb;have HPI:=zd hpi;have HPC:=zd hpc;generalize hLL:num ((x.drop 13).take 1)=L at *;have HLL:=zd hLL;clear htg hsm hkk hpb hpi hpc hpk hLL
  go_upto_region 4 with (go_at_call 164;refine(zlx HR2.out HB.out).mono ?_;intro e w3 hp;obtain⟨rfl,hr,ht⟩:=zfl hp (by rw[HX.out];omega);rw[HTG.out];have HR3:=zd hr;have HT3:=zd ht;clear hr ht hp)
  go_upto_region 5 with (first
   | (go_at_call 165;with_reducible refine(rLong HR3.out HB.out).mono ?_;intro e w4 hp;obtain⟨rfl,hr,ht⟩:=zfl hp (by rw[HX.out];omega);rw[show num (List.take 8 (List.drop (0+1) x))=KN from HKE.out];have HR4:=zd hr;have HT4:=zd (HT3.out.trans ht);clear hr ht hp)
   | (go_at_call 166;with_reducible refine(zpu HR4.out HB.out).mono ?_;intro e w5 hp;obtain⟨rfl,hr,ht⟩:=zfl hp (by rw[HX.out];omega);rw[show num (List.take 2 (List.drop (0+1+8) x))=I from HIE.out];have HR5:=zd hr;have HT5:=zd (HT4.out.trans ht);clear hr ht hp)
   | (go_at_call 166;with_reducible refine(zpu HR5.out HB.out).mono ?_;intro e w6 hp;obtain⟨rfl,hr,ht⟩:=zfl hp (by rw[HX.out];omega);rw[show num (List.take 2 (List.drop (0+1+8+2) x))=C from HCE.out];have HR6:=zd hr;have HT6:=zd (HT5.out.trans ht);obtain⟨x6,p6,g6,s6⟩:=HX2.out w6 HT6.out;have HX6:=zd x6;have HP6:=zd p6;have HG6:=zd g6;have HS6:=zd s6;have q0:=(zf p6 0).trans (show _=some (Value.int .i64 0) from rfl);have q1:=(zf p6 1).trans (show _=some (Value.int .i64 0) from rfl);have q2:=(zf p6 2).trans (show _=some (Value.int .i64 0) from rfl);have q3:=(zf p6 3).trans (show _=some (Value.slice none 0 0) from rfl);have z6:∀i,w6.frozen? ⟨W.heap.size+1,i,none⟩=false:=(λi=>by simp[World.frozen?,p6]);clear hr ht hp x6 p6 g6 s6))
  have hps:=zpq (a':=wrap64 (KN:Int)) (b':=(I:Int)) (c':=(C:Int)) (v':=.slice none 0 0) HP6.out;have hpx:W.heap.size≠W.heap.size+1:=by omega
  have HG7:Hid (W.grownBy ((((w6.setCell ⟨W.heap.size+1,0,none⟩ (.int .i64 (wrap64 (KN:Int)))).setCell ⟨W.heap.size+1,1,none⟩ (.int .i64 (I:Int))).setCell ⟨W.heap.size+1,2,none⟩ (.int .i64 (C:Int))).setCell ⟨W.heap.size+1,3,none⟩ (.slice none 0 0)) none):=(yi (yi (yi (yi HG6.out (Nat.le_succ _) _) (Nat.le_succ _) _) (Nat.le_succ _) _) (Nat.le_succ _) _);have HR7:=zd (HR6.out.other HP6.out (zm8 _ _ _ _ _ _) (λe=>hrb.2.1 e.symm) hps.2)
  have HP7:=zd hps.1;have HX7:=zd ((hps.2 _ hpx).trans HX6.out);have HS7:Hid (rb≤((((w6.setCell ⟨W.heap.size+1,0,none⟩ (.int .i64 (wrap64 (KN:Int)))).setCell ⟨W.heap.size+1,1,none⟩ (.int .i64 (I:Int))).setCell ⟨W.heap.size+1,2,none⟩ (.int .i64 (C:Int))).setCell ⟨W.heap.size+1,3,none⟩ (.slice none 0 0)).heap.size):=(show _≤_ from by have:=HS6.out;simp[World.setCell];exact this)
  clear hps q0 q1 q2 q3 z6;generalize ((((w6.setCell ⟨W.heap.size+1,0,none⟩ (.int .i64 (wrap64 (KN:Int)))).setCell ⟨W.heap.size+1,1,none⟩ (.int .i64 (I:Int))).setCell ⟨W.heap.size+1,2,none⟩ (.int .i64 (C:Int))).setCell ⟨W.heap.size+1,3,none⟩ (.slice none 0 0))=w7 at *;have HTK:Hid (∀w,zm (λk=>k=rb) w7 w→w.heap[W.heap.size]? = some (.cells (zg x).toArray 136 (0,0))∧w.heap[W.heap.size+1]? = some (.cells #[.int .i64 (wrap64 (KN:Int)),.int .i64 (I:Int),.int .i64 (C:Int),.slice none 0 0] 138 (0,0))∧W.grownBy w none∧rb≤w.heap.size):=(λw ht=>by
   have hr1:=hrb.1;have hr2:=hrb.2.1;have hs7:=HS7.out;have hr0:=HLE.out;have hr3:=HG1.out.size
   exact⟨(ht.block _ (Array.getElem?_eq_some_iff.1 HX7.out).1 (λe=>hr1 e.symm)).trans HX7.out,(ht.block _ (Array.getElem?_eq_some_iff.1 HP7.out).1 (λe=>hr2 e.symm)).trans HP7.out,⟨ht.os.trans HG7.out.os,ht.tape.trans HG7.out.tape,ht.output.trans HG7.out.output,Nat.le_trans HG7.out.size ht.size,λk hk _=>(ht.block k (Nat.lt_of_lt_of_le hk HG7.out.size) (by omega)).trans (HG7.out.block k hk (by simp))⟩,Nat.le_trans hs7 ht.size⟩)
  have HRB:Hid (∀(w:World) v,zx w v (if L≤x.length-(0+1+8+2+2+1) then (x.drop (0+1+8+2+2+1)).take L else [])→zx w v (yc x).b):=(λw v h=>by
   rw[HX.out] at h;rw[HPB.out]
   exact h)
  have hbl2:(yc x).b.length≤100000000:=by omega
  go_upto_region 6 with (first
   | (go_at_call 164;with_reducible refine(zlx HR7.out HB.out).mono ?_;intro e w8 hp;obtain⟨rfl,hr,ht⟩:=zfl hp (by rw[HX.out];omega);rw[show num (List.take 1 (List.drop (0+1+8+2+2) x))=L from HLL.out];have HR8:=zd hr;have HT8:=zd ht;have HS8:=zd (HTK.out w8 ht).2.2.2;clear hr ht hp)
   | (go_at_call 167;with_reducible refine(rawBoth HR8.out HS8.out L (by omega)).mono ?_;rintro e w9 ⟨v9,rfl,hv,ht⟩;have HV9:=zd (HRB.out w9 v9 hv);have HT9:=zd (HT8.out.trans ht);clear hv ht)
   | (go_at_call 97;with_reducible refine(Xb HV9.out hbl2 (λe=>HV9.out.nil e)).mono ?_;rintro e w10 ⟨v10,rfl,ho,hg⟩;obtain⟨p10,c10,rfl⟩:=jl ho;obtain⟨x9,p9,g9,s9⟩:=HTK.out w9 HT9.out;have hp10:=(hg.block _ (Array.getElem?_eq_some_iff.1 p9).1 (by simp)).trans p9;have q3:=(zf hp10 3).trans (show _=some (Value.slice none 0 0) from rfl);have z6:∀i,w10.frozen? ⟨W.heap.size+1,i,none⟩=false:=(λi=>by simp[World.frozen?,hp10]);have HP10:=zd hp10;have HX10:=zd ((hg.block _ (Array.getElem?_eq_some_iff.1 x9).1 (by simp)).trans x9);have HG10:=zd (zh g9 hg);have HO10:=zd ho;have HS9:=zd s9;clear ho hg x9 p9 g9 s9 hp10))
  have hp11:(w10.setCell ⟨W.heap.size+1,3,none⟩ (.slice p10 (yc x).b.length c10)).heap[W.heap.size+1]? = some (.cells #[.int .i64 (wrap64 (KN:Int)),.int .i64 (I:Int),.int .i64 (C:Int),.slice p10 (yc x).b.length c10] 138 (0,0)):=by
   have:=HP10.out;simp[World.setCell,Array.getElem?_modify,this]
  have hpx2:W.heap.size≠W.heap.size+1:=by omega
  have hx11:(w10.setCell ⟨W.heap.size+1,3,none⟩ (.slice p10 (yc x).b.length c10)).heap[W.heap.size]? = some (.cells (zg x).toArray 136 (0,0)):=(Below.heap_setCell _ _ _ _ hpx2).trans HX10.out;have HG11:Hid (W.grownBy (w10.setCell ⟨W.heap.size+1,3,none⟩ (.slice p10 (yc x).b.length c10)) none):=(yi HG10.out (Nat.le_succ _) _);have hs9:W.heap.size+1<w9.heap.size:=by
   have h1:=HS9.out;have h2:=HLE.out;have h3:=HS1.out;have h4:=hrb.2.1;omega
  have hon:∀g,Value.ownBlock (.slice p10 (yc x).b.length c10)=some g→g≠W.heap.size+1:=λg hg=>by have:=(HO10.out.lt g hg).1;omega
  have ho11:(w10.setCell ⟨W.heap.size+1,3,none⟩ (.slice p10 (yc x).b.length c10)).ownsRow W.heap.size 5 1 (.slice p10 (yc x).b.length c10) (yc x).b.length (zg (yc x).b):=qm (Xf HO10.out (by omega)) (λg hg=>Below.heap_setCell _ _ _ _ (hon g hg))
  have HON:=zd hon;have HO11:=zd ho11;have HX11:=zd hx11;have HP11:=zd hp11;clear hp11 hx11 ho11 hon q3 z6;generalize w10.setCell ⟨W.heap.size+1,3,none⟩ (.slice p10 (yc x).b.length c10)=w11 at *;have HMY:Hid (∀w,Calls Tryz.prog 168 #[.agg #[.int .i64 (wrap64 (KN:Int)),.int .i64 (I:Int),.int .i64 (C:Int),.slice p10 (yc x).b.length c10]] w λe w'=>e = .returned (.bool (Yv (wrap64 (KN:Int)) I C (yc x).b.length))∧w.grownBy w' none):=(λw=>pmay _ I C _ p10 c10 (by unfold wrap64;omega) (by unfold wrap64;omega) b2 b3 (by omega))
  have HFIN:Hid (∀(w':World) ok,ok=(saidP zo x).isSome→zm (λk=>k=W.heap.size+1) w11 w'→Us W x (.returned (.tuple #[.agg #[.int .i64 (wrap64 (KN:Int)),.int .i64 (I:Int),.int .i64 (C:Int),.slice p10 (yc x).b.length c10],.bool ok])) w'):=(λw' ok hok ht=>by
   subst hok;have hg11:=HG11.out;refine⟨⟨ht.os.trans hg11.os,ht.tape.trans hg11.tape,ht.output.trans hg11.output,Nat.le_trans hg11.size ht.size,λk hk _=>(ht.block k (Nat.lt_of_lt_of_le hk hg11.size) (by omega)).trans (hg11.block k hk (by simp))⟩,_,_,_,_,rfl,⟨_,_,_,rfl⟩,λp hp=>?_⟩
   have:=HIS.out p hp;subst this;refine⟨HKK.out,by rw[HPI.out],by rw[HPC.out],qm HO11.out λg hg=>ht.block g ((HO11.out.lt g hg).2) (HON.out g hg)⟩)
  rw[←HKK.out,HPI.out,HPC.out] at HSM;have HRAW:Hid (∀w':World,zm (λk=>k=W.heap.size+1) w11 w'→zx w' (.slice p10 (yc x).b.length c10) (yc x).b):=(λw' ht=>vw (qm HO11.out λg hg=>ht.block g ((HO11.out.lt g hg).2) (HON.out g hg)))
  cases hm:Yv (wrap64 (KN:Int)) I C (yc x).b.length
  ·rw[hm] at HMY HSM
   rw[Bool.false_and] at HSM;refine qH (S:=λw':World=>w'.heap[W.heap.size+1]? = some (.cells #[.int .i64 (wrap64 (KN:Int)),.int .i64 (I:Int),.int .i64 (C:Int),.slice p10 (yc x).b.length c10] 138 (0,0))∧w'.heap[W.heap.size]? = some (.cells (zg x).toArray 136 (0,0))∧zm (λk=>k=W.heap.size+1) w11 w') ⟨HP11.out,HX11.out,⟨rfl,rfl,rfl,Nat.le_refl _,λ_ _ _=>rfl⟩⟩ (λhHeld=>?_)
   refine qY 0 ?_ (v:=.agg #[.int .i64 (wrap64 (KN:Int)),.int .i64 (I:Int),.int .i64 (C:Int),.slice p10 (yc x).b.length c10]) (hy:=yieldsIf_load_mid (by rfl) 138 _ rfl (W.heap.size+1) 0 rfl [.int .i64 (wrap64 (KN:Int)),.int .i64 (I:Int),.int .i64 (C:Int),.slice p10 (yc x).b.length c10] _ (λw hSw=>Yp hSw.1) Tryz.underlying138 rfl (by kernel_rfl))
   refine qY 1 ?_ (v:=.agg #[.int .i64 (wrap64 (KN:Int)),.int .i64 (I:Int),.int .i64 (C:Int),.slice p10 (yc x).b.length c10]) (hy:=yieldsIf_load_mid (by rfl) 138 _ rfl (W.heap.size+1) 0 rfl [.int .i64 (wrap64 (KN:Int)),.int .i64 (I:Int),.int .i64 (C:Int),.slice p10 (yc x).b.length c10] _ (λw hSw=>Yp hSw.1) Tryz.underlying138 rfl (by kernel_rfl))
   refine qO 2 λK hK=>?_
   go_simp
   go_at_call 168
   refine(HMY.out _).mono ?_;rintro e wa ⟨rfl,hg⟩;refine hK.out _ _ ⟨(hg.block _ (Array.getElem?_eq_some_iff.1 hHeld.1).1 (by simp)).trans hHeld.1,(hg.block _ (Array.getElem?_eq_some_iff.1 hHeld.2.1).1 (by simp)).trans hHeld.2.1,hHeld.2.2.trans (vo hg (zm.refl _ _))⟩ (λhHeld=>?_)
   clear hK K;refine qT 3 ?_;refine qU 4 ?_;refine qU 5 ?_;refine qU 6 ?_;refine qU 7 ?_;refine qT 8 ?_;refine qO 9 λK hK=>?_
   refine uq rfl (Jf 138 _ _ rfl (W.heap.size+1) #[.int .i64 (wrap64 (KN:Int)),.int .i64 (I:Int),.int .i64 (C:Int),.slice p10 (yc x).b.length c10] 138 _ rfl rfl hHeld.1 (by kernel_rfl) rfl (zas _ _ _ _ _ _)) ?_
   rw[setRow_self _ _ _ _ _ hHeld.1];refine hK.out _ _ hHeld (λhHeld=>?_)
   clear hK K;refine qT 10 ?_;refine qD ?_
   go_wp2_with fail
   refine bodyPost_ret (ql rfl _ _ (W.heap.size+1) 138 _ (0,0) _ rfl hHeld.1 rfl Tryz.underlying138 (by kernel_rfl)) rfl ?_
   exact HFIN.out _ (false) HSM.out.symm hHeld.2.2
  ·have hmp:Up (yc x):=(zid _).1 (by rw[←HKK.out,HPI.out,HPC.out];exact hm)
   rw[hm] at HMY HSM;rw[Bool.true_and] at HSM;have HBK:Hid (∀w,zx w (.slice p10 (yc x).b.length c10) (yc x).b→Calls Tryz.prog 95 #[.agg #[.int .i64 (wrap64 (KN:Int)),.int .i64 (I:Int),.int .i64 (C:Int),.slice p10 (yc x).b.length c10]] w λe w'=>e = .returned (vm (xe zo (yc x)))∧w.grownBy w' none):=(λw hv=>by
    have h1:=hmp.k1;have h2:=hmp.k2;have h3:=hmp.c2;have h4:=hmp.i1;have:=zps (yc x) (by omega) (by omega) (by omega) (by omega) hmp.l1 HBB.out hv
    rw[←HKK.out,HPI.out,HPC.out] at this
    exact this)
   have HEL:=zd (js (C:=zo) hmp.l1);clear hmp;generalize xe zo (yc x)=EX at *;refine qH (S:=λw':World=>w'.heap[W.heap.size+1]? = some (.cells #[.int .i64 (wrap64 (KN:Int)),.int .i64 (I:Int),.int .i64 (C:Int),.slice p10 (yc x).b.length c10] 138 (0,0))∧w'.heap[W.heap.size]? = some (.cells (zg x).toArray 136 (0,0))∧zm (λk=>k=W.heap.size+1) w11 w') ⟨HP11.out,HX11.out,⟨rfl,rfl,rfl,Nat.le_refl _,λ_ _ _=>rfl⟩⟩ (λhHeld=>?_)
   refine qY 0 ?_ (v:=.agg #[.int .i64 (wrap64 (KN:Int)),.int .i64 (I:Int),.int .i64 (C:Int),.slice p10 (yc x).b.length c10]) (hy:=yieldsIf_load_mid (by rfl) 138 _ rfl (W.heap.size+1) 0 rfl [.int .i64 (wrap64 (KN:Int)),.int .i64 (I:Int),.int .i64 (C:Int),.slice p10 (yc x).b.length c10] _ (λw hSw=>Yp hSw.1) Tryz.underlying138 rfl (by kernel_rfl))
   refine qY 1 ?_ (v:=.agg #[.int .i64 (wrap64 (KN:Int)),.int .i64 (I:Int),.int .i64 (C:Int),.slice p10 (yc x).b.length c10]) (hy:=yieldsIf_load_mid (by rfl) 138 _ rfl (W.heap.size+1) 0 rfl [.int .i64 (wrap64 (KN:Int)),.int .i64 (I:Int),.int .i64 (C:Int),.slice p10 (yc x).b.length c10] _ (λw hSw=>Yp hSw.1) Tryz.underlying138 rfl (by kernel_rfl))
   refine qO 2 λK hK=>?_
   go_simp
   go_at_call 168
   refine(HMY.out _).mono ?_;rintro e wa ⟨rfl,hg⟩;refine hK.out _ _ ⟨(hg.block _ (Array.getElem?_eq_some_iff.1 hHeld.1).1 (by simp)).trans hHeld.1,(hg.block _ (Array.getElem?_eq_some_iff.1 hHeld.2.1).1 (by simp)).trans hHeld.2.1,hHeld.2.2.trans (vo hg (zm.refl _ _))⟩ (λhHeld=>?_)
   clear hK K;refine qT 3 ?_;refine qY 4 ?_ (v:=.agg #[.int .i64 (wrap64 (KN:Int)),.int .i64 (I:Int),.int .i64 (C:Int),.slice p10 (yc x).b.length c10]) (hy:=yieldsIf_load_mid (by rfl) 138 _ rfl (W.heap.size+1) 0 rfl [.int .i64 (wrap64 (KN:Int)),.int .i64 (I:Int),.int .i64 (C:Int),.slice p10 (yc x).b.length c10] _ (λw hSw=>Yp hSw.1) Tryz.underlying138 rfl (by kernel_rfl))
   refine qY 6 ?_ (v:=.agg (zg x).toArray) (hy:=yieldsIf_load_mid (by rfl) 136 _ rfl W.heap.size 0 rfl (zg x) _ (λw hSw=>Qu hSw.2.1) Tryz.underlying136 rfl (by rw[zu,HX.out];exact zlh))
   refine qO 5 λK hK=>?_
   go_simp
   go_at_call 95
   refine(HBK.out _ (HRAW.out _ hHeld.2.2)).mono ?_;rintro e wb ⟨rfl,hg⟩;unfold vm;refine hK.out _ _ ⟨(hg.block _ (Array.getElem?_eq_some_iff.1 hHeld.1).1 (by simp)).trans hHeld.1,(hg.block _ (Array.getElem?_eq_some_iff.1 hHeld.2.1).1 (by simp)).trans hHeld.2.1,hHeld.2.2.trans (vo hg (zm.refl _ _))⟩ (λhHeld=>?_)
   clear hK K;refine qT 7 ?_ (v:=.bool (decide (EX=x))) (he:=λw hSw=>zhx _ _ _ rfl rfl rfl HEL.out HX.out)
   refine qT 8 ?_ (v:=.bool (decide (EX=x)));refine qO 9 λK hK=>?_
   refine uq rfl (Jf 138 _ _ rfl (W.heap.size+1) #[.int .i64 (wrap64 (KN:Int)),.int .i64 (I:Int),.int .i64 (C:Int),.slice p10 (yc x).b.length c10] 138 _ rfl rfl hHeld.1 (by kernel_rfl) rfl (zas _ _ _ _ _ _)) ?_
   rw[setRow_self _ _ _ _ _ hHeld.1];refine hK.out _ _ hHeld (λhHeld=>?_)
   clear hK K;refine qT 10 ?_;refine qD ?_
   go_wp2_with fail
   refine bodyPost_ret (ql rfl _ _ (W.heap.size+1) 138 _ (0,0) _ rfl hHeld.1 rfl Tryz.underlying138 (by kernel_rfl)) rfl ?_
   exact HFIN.out _ (decide (EX=x)) HSM.out.symm hHeld.2.2
 ·have hne:((tg:Int) == 80)=false:=beq_eq_false_iff_ne.2 (by omega)
  have hne2:¬((tg:Int)=80):=by omega
  have hsm2:(saidP zo x).isSome=false:=by rw[hsm];simp[ht80]
  have HSM:=zd hsm2;have HTG:=zd htg;clear hsm hsm2 hpk hpi hpc hpb ht80 htg
  go_wp2_with (first
   | (go_at_call 164;refine(zlx HR2.out HB.out).mono ?_;intro e w3 hp;obtain⟨rfl,hr,ht⟩:=zfl hp (by rw[HX.out];omega);rw[HTG.out];obtain⟨x3,p3,g3,-⟩:=HX2.out w3 ht;have HX3:=zd x3;have HP3:=zd p3;have HG3:=zd g3;clear hr ht hp x3 p3 g3)
   | (refine wpList_load_row rfl 138 _ rfl (W.heap.size+1) rfl 138 _ (0,0) _ HP3.out Tryz.underlying138 rfl (by kernel_rfl) ?_)
   | (refine wpList_store_row rfl 138 _ _ rfl (W.heap.size+1) #[.int .i64 0,.int .i64 0,.int .i64 0,.slice none 0 0] rfl rfl 138 _ HP3.out (by kernel_rfl) rfl (zas _ _ _ _ _ _) ?_;rw[setRow_self _ _ _ _ _ HP3.out]))
  refine bodyPost_ret (ql rfl _ _ (W.heap.size+1) 138 _ (0,0) _ rfl HP3.out rfl Tryz.underlying138 (by kernel_rfl)) rfl ?_
  refine⟨HG3.out,0,0,0,.slice none 0 0,by rw[HSM.out];rfl,⟨_,_,_,rfl⟩,λp hp=>?_⟩
  have:=HSM.out;rw[hp] at this
  cases this
end Go.Proofs.YtbcbhlfjgobejaaGreat
