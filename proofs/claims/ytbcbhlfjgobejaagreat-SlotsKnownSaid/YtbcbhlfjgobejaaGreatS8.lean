/- A disk's Write: the walk. Conditions: none, or as the theorems say. -/
import Derived.Test.YtbcbhlfjgobejaaGreatS1
import Derived.Test.YtbcbhlfjgobejaaGreatS7
import Derived.Great.FillDense
set_option linter.unusedSimpArgs false
set_option linter.unusedVariables false
namespace Go.Proofs.YtbcbhlfjgobejaaGreat
set_option maxHeartbeats 200000000
open Go.RowKit Go.Sf
variable {a:Act} {ops:Array Oper} {Q:Exit→Act→World→Prop} {x:Int × List Int} {m:List (Int × List Int)} {b:List Int} {n:Nat} {P:Program} {T t:TypeId} {v vx vy:Value} {w w' w1 w2 w4:World}
theorem zef {b:Nat} {fr:Nat × Nat} (h:w.heap[b]? = some (.cells (zl x).toArray T fr)):w.rangeAt b 0 (zl x):=λj v hv=>by
 rw[Nat.zero_add,cell_of_row w b j _ T fr h];simpa using hv
theorem Xz {b:Nat} {fr:Nat × Nat} (h:w.heap[b]? = some (.cells (zl x).toArray T fr)):w.rangeAt b 1 (zg x.2):=λj v hv=>by
 rw[cell_of_row w b (1+j) _ T fr h];have:(zl x).toArray[1+j]? = (zg x.2)[j]?:=by rw[Nat.add_comm];simp[zl]
 rw[this]
 exact hv
theorem ze2 (i:Int) (w:World):(Instr.build 176 #[(0,.int .i64 i)]).run Tryz.prog w = .ok (zey (i,zr)) w:=by kernel_rfl
set_option maxRecDepth 100000 in
theorem zbz {ops:Array Oper} {rest:List Oper} {o:Oper} {a:Act} {w:World} {Q:Exit→Act→World→Prop} (hgd:o.guard=none) (y:Operand) (hop:o.op=Op.build 176 #[(0,y)]) (i:Int) (hy:a.eval y = .int .i64 i)
  (h:wpList Tryz.prog ops Q rest (a.put o.dst (.agg (zl (i,zr)).toArray)) w):wpList Tryz.prog ops Q (o :: rest) a w:=by
 refine wpList_plain hgd λK hK=>?_
 unfold Oper.wp;have hr:(execOp a.eval o).run Tryz.prog w = .ok (.value (zey (i,zr))) w:=by
  have hb:=ze2 i w;unfold execOp;rw[hop]
  change (do pure (Next.value (←Instr.build 176 ((#[(0,y)]:Array (Nat × Operand)).map λp=>(p.1,a.eval p.2)))):Sem Next).run Tryz.prog w=_
  have e:((#[(0,y)]:Array (Nat × Operand)).map λp=>(p.1,a.eval p.2)) = #[(0,.int .i64 i)]:=by simp[hy]
  rw[e];generalize Instr.build 176 #[(0,.int .i64 i)]=s at *;simp[go_sem,hb]
 simp only[hr,Oper.upon]
 exact hK _ _ h
set_option maxRecDepth 100000 in
theorem zkw (x:Int × List Int) (hx:x.2.length=256) (w:World):(Instr.buildSlice 165 1 #[(0,.agg (zl x).toArray)]).run Tryz.prog w = .ok (.slice (some ⟨w.heap.size,0,none⟩) 1 1) (w.alloc (.cells (zl x).toArray 176)):=by
 obtain⟨i,hi,hz,hs,-⟩:=info_parts zfn;have hf:∀X:Array Value,X.size=257→Instr.fill (λi=>some (i*257,257)) X [(0,.agg (zl x).toArray)]=some (zl x).toArray:=λX hX=>by
  have:=Go.Great.fill_whole (s:=257) (by omega) [.agg (zl x).toArray] X (λv hv=>by rw[List.mem_singleton.1 hv];simp[Value.cells,qi hx]) (by simp[hX])
  simpa[Value.cells] using this
 refine run_buildSlice w 165 176 1 _ _ i (zey (0,zr)) Tryz.underlying165 hi hz (by rw[hs];omega) (by rw[hs];omega) ?_
 rw[hs]
 exact hf _ (by simp)
theorem ui {o:Oper} {K:Act→World→Prop} {E:Prop} (hg:o.guard=none) (hr:(execOp a.eval o).run P w = .ok (.value v) w') (h:K (a.put o.dst v) w') :
  if Region.wanted o (yielded ops a.tmps)=true then Oper.wp P o a w K Q else E:=by
 have hw:Region.wanted o (yielded ops a.tmps)=true:=by simp[Region.wanted,hg]
 rw[if_pos hw];simp only[Oper.wp,hr,Oper.upon]
 exact h
set_option maxRecDepth 100000 in
theorem zb4 (x:Int × List Int) (hx:x.2.length=256) {o:Oper} (y:Operand) (hop:o.op=Op.buildSlice 165 1 #[(0,y)]) (hy:a.eval y = .agg (zl x).toArray):(execOp a.eval o).run Tryz.prog w = .ok (.value (.slice (some ⟨w.heap.size,0,none⟩) 1 1)) (w.alloc (.cells (zl x).toArray 176)):=by
 have hb:=zkw x hx w;unfold execOp;rw[hop]
 change (do pure (Next.value (←Instr.buildSlice 165 1 ((#[(0,y)]:Array (Nat × Operand)).map λp=>(p.1,a.eval p.2)))):Sem Next).run Tryz.prog w=_
 have e:((#[(0,y)]:Array (Nat × Operand)).map λp=>(p.1,a.eval p.2)) = #[(0,.agg (zl x).toArray)]:=by simp[hy]
 rw[e];generalize Instr.buildSlice 165 1 #[(0,.agg (zl x).toArray)]=s at *;simp[go_sem,hb]
set_option maxRecDepth 100000 in
theorem zaz {o:Oper} {K:Act→World→Prop} {E:Prop} (hg:o.guard=none) (s y:Operand) (hop:o.op = .call { callee:=.builtin .append,args:=#[s,y],argTypes:=#[165,165] })
 (v:Value) (n:Nat) (xs:List Value) (hs:a.eval s=v) (hown:w.ownsRow 0 176 257 v n xs) (x:Int × List Int) (hx:x.2.length=256) (g:Nat) (hy:a.eval y = .slice (some ⟨g,0,none⟩) 1 1) {fr:Nat × Nat} (hgr:w.heap[g]? = some (.cells (zl x).toArray 176 fr)) (hn:n≤1000000)
 (h:∀v' w',w'.ownsRow 0 176 257 v' (n+1) (xs++zl x)→w.grownBy w' v.ownBlock→(v'.ownBlock=v.ownBlock∨v'.ownBlock=some w.heap.size)→K (a.put o.dst v') w') :
  if Region.wanted o (yielded ops a.tmps)=true then Oper.wp Tryz.prog o a w K Q else E:=by
 have hw:Region.wanted o (yielded ops a.tmps)=true:=by simp[Region.wanted,hg]
 rw[if_pos hw];obtain⟨i,hi,hz,hsz,hby⟩:=info_parts zfn;obtain⟨v',w',hr,h1,h2,h3,h4⟩:=run_append_own_at (P:=Tryz.prog) w 0 165 o.type 176 i (zey (0,zr)) 257 264 Tryz.underlying165 hi hz hsz hby (by show(zl (0,zr)).toArray.size=257;rw[List.size_toArray,qi (x:=(0,zr)) xt]) (by decide) v n xs hown ⟨g,0,none⟩ 1 1 (zl x) (by rw[qi hx]) (λj u hu=>by rw[Addr.add_mid];exact zef hgr j u hu) (zh9 x) (by unfold maxLen;omega) (by omega) (Nat.zero_le _)
 exact Go.Lib.wp_append_run w s y _ _ hop v _ hs hy _ _ hr (h v' w' h1 h2 h4)
set_option maxRecDepth 100000 in
theorem zjj (i:Int) (hb:b.length≤256):splice (zl (i,zr)) 1 (zg b)=zl (i,vf b):=by
 have e:(zg zr).drop b.length=zg (List.replicate (256-b.length) 0):=by
  unfold zg zr;rw[←List.map_drop,List.drop_replicate]
 have e2:(zl (i,zr)).drop (1+(zg b).length)=(zg zr).drop b.length:=by
  rw[zu,Nat.add_comm,zl,List.drop_succ_cons]
 unfold splice;rw[e2,e];simp[zl,vf,zg]
theorem zar (hb:b.length≤256):(vf b).length=256:=by simp[vf];omega
theorem zlw (hb:BL b):BL (vf b):=hb.app λx hx=>by obtain⟨_,rfl⟩:=List.mem_replicate.1 hx;omega
theorem Ze {W:World} {base size:Nat} {e:TypeId} {xs:List Value} (h:W.ownsRow base e size v n xs):∃p cap,v = .slice p n cap:=by
 rcases h.2 with ⟨e1,h0⟩|⟨b,c,cur,e1,_⟩
 ·exact⟨none,0,by rw[e1,h0]⟩
 ·exact⟨_,_,e1⟩
theorem keepS {b:Nat} {o:Obj} {c:Addr} (hg:w.grownBy w' none) (h:w.heap[b]? = some o∧w.cell? c=some v):w'.heap[b]? = some o∧w'.cell? c=some v:=
 ⟨(hg.block b (Array.getElem?_eq_some_iff.1 h.1).1 (by simp)).trans h.1,hg.cell h.2 (by simp)⟩
theorem uq {o:Oper} {K:Act→World→Prop} {E:Prop} (hg:o.guard=none) (hr:(execOp a.eval o).run P w = .ok .skip w') (h:K (a.put o.dst undef) w') :
  if Region.wanted o (yielded ops a.tmps)=true then Oper.wp P o a w K Q else E:=by
 have hw:Region.wanted o (yielded ops a.tmps)=true:=by simp[Region.wanted,hg]
 rw[if_pos hw];simp only[Oper.wp,hr,Oper.upon]
 exact h
theorem zdi {o:Oper} (x y:Operand) (hop:o.op=Op.mapEntry t x y) (hx:a.eval x=vx) (hy:a.eval y=vy) (hr:(Instr.mapEntry t vx vy).run Tryz.prog w = .ok v w'):(execOp a.eval o).run Tryz.prog w = .ok (.value v) w':=by
 unfold execOp;rw[hop]
 change (do pure (Next.value (←Instr.mapEntry t (a.eval x) (a.eval y))):Sem Next).run Tryz.prog w=_
 rw[hx,hy];generalize Instr.mapEntry t vx vy=s at *;simp[go_sem,hr]
theorem Um {o:Oper} {vz:Value} (x y z:Operand) (hop:o.op=Op.entryStore t x y z) (hx:a.eval x=vx) (hy:a.eval y=vy) (hz:a.eval z=vz) (hr:(Instr.entryStore t vx vy vz).run Tryz.prog w = .ok () w'):(execOp a.eval o).run Tryz.prog w = .ok .skip w':=by
 unfold execOp;rw[hop]
 change (do Instr.entryStore t (a.eval x) (a.eval y) (a.eval z);pure Next.skip:Sem Next).run Tryz.prog w=_
 rw[hx,hy,hz];generalize Instr.entryStore t vx vy vz=s at *;simp[go_sem,hr]
section
variable {own : Nat → Prop} {W W' : World} {db sb nb : Nat} {lv : Value} {d : Dk}
theorem zac:zbe Tryz.prog 3 (Value.int .i64):=zds Tryz.underlying3 (λ_=>rfl) (λa b h=>by simpa using h)
theorem zhj.put (h:zhj m) {k:Int} {x:List Int} (h1:x.length=256) (h2:BL x):zhj (yo m k x):=by
 induction m with
 | nil=>intro p hp;simp[yo] at hp;subst hp;exact⟨h1,h2⟩
 | cons q r ih=>
  intro p hp;rw[yo] at hp
  split at hp
  ·rcases List.mem_cons.1 hp with rfl|hp
   ·exact⟨h1,h2⟩
   ·exact h p (List.mem_cons_of_mem _ hp)
  ·rcases List.mem_cons.1 hp with rfl|hp
   ·exact h _ (by simp)
   ·exact ih (λz hz=>h z (List.mem_cons_of_mem _ hz)) p hp
theorem DAt.laid (h:DAt own W db sb nb lv d) {i:Nat} {x:List Int} (hx:x.length=256) (hbx:BL x) (hg1:W.grownBy w1 none) {v':Value} (ho:w2.ownsRow 0 176 257 v' (d.late.length+1) (d.late.flatMap zl++zl ((i:Int),x))) (hg2:w1.grownBy w2 lv.ownBlock) (hv:v'.ownBlock=lv.ownBlock∨v'.ownBlock=some w1.heap.size)
 (hm:yg w4 nb (Value.int .i64) vm (yo d.now (i:Int) x)) (hg4:(w2.setCell ⟨db,3,none⟩ v').grownBy w4 (some nb)) (hf:d.late.length<1000000):DAt own w4 db sb nb v' (d.lay i x)∧zm (λk=>¬own k) W w4:=by
 have h1:=h.kept hg1;have hs:=zv w2 db 3 v';have hx1:=h1.box;have nlv:∀g,lv.ownBlock=some g→g≠db∧g≠sb∧g≠nb:=λg hg=>by
  rcases h1.late.2 with ⟨e,_⟩|⟨b,c,cur,e,_,hb2,_⟩
  ·rw[e] at hg;simp[Value.ownBlock] at hg
  ·rw[e] at hg;simp[Value.ownBlock] at hg
   subst hg;refine⟨λe=>?_,λe=>?_,λe=>?_⟩
   ·subst e;rw[hx1] at hb2;cases hb2
   ·obtain⟨es,c,hb3,_⟩:=h1.st;subst e;rw[hb3] at hb2;cases hb2
   ·obtain⟨es,c,hb3,_⟩:=h1.now;subst e;rw[hb3] at hb2;cases hb2
 have nv':∀g,v'.ownBlock=some g→g≠db∧g≠sb∧g≠nb∧¬own g:=λg hg=>by
  rcases hv with e|e
  ·have:=nlv g (e ▸ hg)
   exact⟨this.1,this.2.1,this.2.2,h.olv g (e ▸ hg)⟩
  ·rw[e] at hg
   cases hg
   refine⟨by have:=h1.dlt;omega,by have:=h1.st.lt;omega,by have:=h1.now.lt;omega,λe=>by have:=h1.lt _ e;omega⟩
 have hbn:db≠nb:=λe=>by obtain⟨es,c,hb3,_⟩:=h1.now;rw[←e,hx1] at hb3;cases hb3
 have hbs:db≠sb:=λe=>by obtain⟨es,c,hb3,_⟩:=h1.st;rw[←e,hx1] at hb3;cases hb3
 have hd2:w2.heap[db]? = w1.heap[db]?:=hg2.block db h1.dlt (λe=>(nlv db e.symm).1 rfl)
 have hdl2:db<w2.heap.size:=Nat.lt_of_lt_of_le h1.dlt hg2.size;have hsz:w2.heap.size≤w4.heap.size:=Nat.le_trans hs.size hg4.size;have tr:zm (λk=>¬own k) W w4:=by
  refine⟨?_,?_,?_,?_,λk hk hn=>?_⟩
  ·exact hg4.os.trans (hs.os.trans (hg2.os.trans hg1.os))
  ·exact hg4.tape.trans (hs.tape.trans (hg2.tape.trans hg1.tape))
  ·exact hg4.output.trans (hs.output.trans (hg2.output.trans hg1.output))
  ·exact Nat.le_trans hg1.size (Nat.le_trans hg2.size hsz)
  ·have ho:own k:=Classical.byContradiction hn
   have k1:k<w1.heap.size:=Nat.lt_of_lt_of_le hk hg1.size;have k2:k<w2.heap.size:=Nat.lt_of_lt_of_le k1 hg2.size;rw[hg4.block k (Nat.lt_of_lt_of_le k2 hs.size) (λe=>by cases e;exact h.onb ho),hs.block k k2 (λe=>by cases e;exact h.odb ho),hg2.block k k1 (λe=>h.olv k e.symm ho),hg1.block k hk (by simp)]
 refine⟨⟨?_,?_,?_,?_,h.sn,h.odb,h.osb,h.onb,λg hg=>(nv' g hg).2.2.2,λk hk=>Nat.lt_of_lt_of_le (h1.lt k hk) (Nat.le_trans hg2.size hsz),h.n,h.w0,h.w1,h.bst,?_,?_,?_⟩,tr⟩
 ·rw[hg4.block db (by simp[World.setCell];exact hdl2) (by simp;exact hbn)]
  simp[World.setCell,Array.getElem?_modify,hd2,hx1,Dk.lay]
 ·have:=h1.st.lt
  exact(h1.st.same ((hg4.block sb (Nat.lt_of_lt_of_le (Nat.lt_of_lt_of_le this hg2.size) hs.size) (by simp;exact h.sn)).trans ((hs.block sb (Nat.lt_of_lt_of_le this hg2.size) (by simp;exact λe=>hbs e.symm)).trans (hg2.block sb this (λe=>(nlv sb e.symm).2.1 rfl)))))
 ·exact hm
 ·have e1:(d.lay i x).late.length=d.late.length+1:=by simp[Dk.lay]
  have e2:(d.lay i x).late.flatMap zl=d.late.flatMap zl++zl ((i:Int),x):=by simp[Dk.lay]
  rw[e1,e2];refine(ho.kept hs ?_).kept hg4 ?_
  ·rcases h3:v'.ownBlock with _|k
   ·exact Or.inl rfl
   ·right;intro e;cases e;exact(nv' db h3).1 rfl
  ·rcases h3:v'.ownBlock with _|k
   ·exact Or.inl rfl
   ·right;intro e;cases e;exact(nv' nb h3).2.2.1 rfl
 ·exact h.bnow.put hx hbx
 ·intro p hp
  rcases List.mem_append.1 hp with hp|hp
  ·exact h.blate p hp
  ·rw[List.mem_singleton.1 hp];exact⟨hx,hbx⟩
 ·simp[Dk.lay];omega
theorem DAt.now_kept (h:DAt own W db sb nb lv d) (hg1:W.grownBy w1 none) (hg2:w1.grownBy w2 lv.ownBlock) (v':Value):yg (w2.setCell ⟨db,3,none⟩ v') nb (Value.int .i64) vm d.now:=by
 have h1:=h.kept hg1;refine(h1.now.kept hg2 (λe=>?_)).kept (zv w2 db 3 v') (by
  intro e;cases e;obtain⟨es,c,hb3,_⟩:=h1.now;rw[h1.box] at hb3;cases hb3)
 rcases h1.late.2 with ⟨e2,_⟩|⟨b,c,cur,e2,_,hb2,_⟩
 ·rw[e2] at e;simp[Value.ownBlock] at e
 ·rw[e2] at e;simp[Value.ownBlock] at e
  obtain⟨es,c,hb3,_⟩:=h1.now;rw[e,hb2] at hb3;cases hb3
theorem DAt.app_kept (h:DAt own W db sb nb lv d) (hg1:W.grownBy w1 none) (hg2:w1.grownBy w2 lv.ownBlock):w2.cell? ⟨db,2,none⟩=some (.map (some nb))∧w2.frozen? ⟨db,3,none⟩=false∧w2.cell? ⟨db,3,none⟩=some lv∧∀g,lv.ownBlock=some g→g<W.heap.size:=by
 have h1:=h.kept hg1;have hne:some db≠lv.ownBlock:=λe=>by
  rcases h1.late.2 with ⟨e2,_⟩|⟨b,c,cur,e2,_,hb2,_⟩
  ·rw[e2] at e;simp[Value.ownBlock] at e
  ·rw[e2] at e;simp[Value.ownBlock] at e
   rw[←e,h1.box] at hb2;cases hb2
 have hb:=(hg2.block db h1.dlt hne).trans h1.box
 exact⟨by simp[World.cell?,hb],by simp[World.frozen?,hb],by simp[World.cell?,hb],λg hg=>own_lt h.late hg⟩
theorem zjm {w5:World} {d1 d2:Dk} {e:Ending} {c:Bool} (ht:zm (λk=>¬own k) W w4) (hp:(if c=true then uk own w4 db d1 (.int .i64 0) else uk own w4 db d2 (.int .i64 180)) e w5):if c=true then uk own W db d1 (.int .i64 0) e w5 else uk own W db d2 (.int .i64 180) e w5:=by
 cases c
 ·exact⟨hp.1,hp.2.1,ht.trans hp.2.2⟩
 ·exact⟨hp.1,hp.2.1,ht.trans hp.2.2⟩
def Dk.writeV (d:Dk) (i:Int) (b:List Int):Int:=if d.mayE i b.length≠0 then d.mayE i b.length else if d.stepB=true then 0 else 180
def Dk.written (d:Dk) (i:Int) (b:List Int):Dk:=if d.mayE i b.length≠0 then d else if d.stepB=true then (d.lay i.toNat (vf b)).went else (d.lay i.toNat (vf b)).gone
theorem zbm {d:Dk} {i:Int} (h:d.mayE i n=0):d.off=false∧0≤i∧i<d.n∧n≤256:=by
 unfold Dk.mayE at h
 repeat' split at h
 ·cases h
 ·cases h
 ·cases h
 ·rename_i h1 h2 h3
  refine⟨by simpa using h1,by omega,by omega,by omega⟩
set_option maxRecDepth 100000 in
theorem dwrite (h:vk own W db d) (ii:Int) (hb:zx W v b) (hbl:BL b) (hf:d.late.length<1000000):Calls Tryz.prog 24 #[.pointer (some ⟨db,0,none⟩),.int .i64 ii,v] W (uk own W db (d.written ii b) (.int .i64 (d.writeV ii b))):=by
 obtain⟨pb,cb,rfl,hcb⟩:=hb.ex;have HM:=zd (dmay h ii pb b.length cb)
 by_cases he:d.mayE ii b.length=0
 ·obtain⟨hoff,hi0,hi1,hlen⟩:=zbm he
  have HQ:Hid (∀e w' (x:List Int),x=vf b→(if d.stepB=true then uk own W db (d.lay ii.toNat x).went (.int .i64 0) e w' else uk own W db (d.lay ii.toNat x).gone (.int .i64 180) e w')→uk own W db (d.written ii b) (.int .i64 (d.writeV ii b)) e w'):=(λe w' x hx hp=>by
   subst hx;unfold Dk.written Dk.writeV;simp only[he,ne_eq,not_true_eq_false,if_false]
   split at hp <;> rename_i hb <;> simp only[hb] <;> exact hp)
  rw[he] at HM;generalize uk own W db (d.written ii b) (.int .i64 (d.writeV ii b))=PP at *;obtain⟨i,rfl⟩:∃i:Nat,ii=(i:Int):=⟨ii.toNat,by omega⟩
  simp only[Int.toNat_natCast] at HQ;obtain⟨x,hxe⟩:∃x,x=vf b:=⟨_,rfl⟩;have hx:x.length=256:=by rw[hxe];exact zar hlen
  have hbx:BL x:=by rw[hxe];exact zlw hbl
  have HX:=zd hxe;have HSP:=zd (zjj (i:Int) hlen);rw[←hxe] at HSP;clear hxe;have hdl:=h.dlt;obtain⟨sb,nb,lv,hd⟩:=h.ex;have HA:=zd hd;obtain⟨p0,cap0,rfl⟩:=Ze hd.late;have HS:Hid (∀w4 lv4,DAt own w4 db sb nb lv4 (d.lay i x)→Calls Tryz.prog 101 #[.pointer (some ⟨db,0,none⟩),.func (.func 102) #[] #[]] w4 (if (d.lay i x).stepB=true then uk own w4 db (d.lay i x).went (.int .i64 0) else uk own w4 db (d.lay i x).gone (.int .i64 180))):=(λw4 lv4 h4=>dstepW h4)
  have HR:Hid (∀W',W.grownBy W' none→zx W' (.slice pb b.length cb) b):=(λW' hg=>hb.grown hg (by simp))
  have hbl2:(zg b).length=b.length:=zu b;have HB1:=zd hbl2;have HK:Hid ((zg b).length=Nat.min b.length 256∧∀ob:Obj,0<(zg b).length→∃ad,pb=some ad∧∀j v,(zg b)[j]? = some v→(W.alloc ob).cell? (ad.add j)=some v):=(show _∧_ from
   ⟨by rw[hbl2];exact(Nat.min_eq_left hlen).symm,λob h0=>by
    obtain⟨p',cap',e,hc⟩:=(HR.out _ (ze W ob none)).ex
    injection e with e1 _ _
    subst e1
    rcases hc with h1|⟨ad,h1,h2⟩
    ·rw[h1] at h0;simp[zg] at h0
    ·exact⟨ad,h1,h2⟩⟩)
  clear h hb hcb hbl hbl2;obtain⟨c0,c1,c2,c3,c4,c5,c6,y⟩:=hd.cells;have hw1:=hd.lt;clear hd hw1;generalize hbn:b.length=bn at *;have HBN:=zd hbn;clear hbn
  go_enter Tryz.func24,Tryz.ntmps24
  go_upto_region 6 with (first
   | (go_at_call 100;refine HM.out.mono ?_;rintro e w1 ⟨rfl,h5⟩;obtain rfl:W=w1:=h5.symm)
   | (refine zbz rfl _ rfl (i:Int) rfl ?_)
   | (refine un rfl 176 rfl (zey (0,zr)) zbc (zl (0,zr)).toArray rfl ?_)
   | (refine uf rfl 176 _ _ rfl _ (zl ((i:Int),zr)).toArray _ rfl rfl (zll (x:=((i:Int),zr)) xt) (zlk (x:=(0,zr)) (y:=((i:Int),zr)) xt xt) (zlj _) ?_)
   | (refine wpList_copy_splice rfl _ _ 32 32 rfl 5 Tryz.underlying32 (by kernel_rfl) (some ⟨W.heap.size,1,none⟩) pb 256 256 bn cb rfl rfl W.heap.size 1 (zl ((i:Int),zr)) 176 (heap_alloc_new _ _) (zg b) HK.out.1 (λh0=>⟨rfl,HK.out.2 _ h0⟩) (by rw[HB1.out,qi (x:=((i:Int),zr)) xt];omega) (qt b) W.heap.size W ((Below.refl _ W).alloc (Nat.le_refl _) _) (Nat.le_refl _) ?_;intro w1 hq hbel))
  have hgr:W.grownBy w1 none:=⟨hbel.os,hbel.tape,hbel.output,hbel.size,λk hk _=>hbel.block k hk⟩
  have b0:w1.heap[W.heap.size]? = some (.cells (zl ((i:Int),x)).toArray 176 (0,0)):=by rw[←HSP.out];exact hq.out
  have d2:=hgr.cell c2 (by simp)
  have d3:=hgr.cell c3 (by simp)
  have HG1:=zd hgr;have hdb1:db<w1.heap.size:=Nat.lt_of_lt_of_le hdl hgr.size;clear hq hbel hgr c0 c1 c2 c3 c4 c5 c6 y HR HK HSP HB1 HBN;generalize w1=W1 at *;have HNOW:Hid (∀(w2:World) v',((W1.drew.alloc (.cells (zl ((i:Int),x)).toArray 176)).grownBy w2 (Value.ownBlock (.slice p0 d.late.length cap0)))→yg (w2.setCell ⟨db,3,none⟩ v') nb (Value.int .i64) vm d.now):=(λw2 v' hg=>HA.out.now_kept (zp (zj HG1.out) _) hg v')
  have HAP:Hid (∀(w2:World),((W1.drew.alloc (.cells (zl ((i:Int),x)).toArray 176)).grownBy w2 (Value.ownBlock (.slice p0 d.late.length cap0)))→w2.heap[W.heap.size]? = some (.cells (zl ((i:Int),x)).toArray 176 (0,0))∧w2.cell? ⟨db,2,none⟩=some (.map (some nb))∧w2.frozen? ⟨db,3,none⟩=false∧w2.cell? ⟨db,3,none⟩=some (.slice p0 d.late.length cap0)):=(λw2 hg=>by
   obtain⟨g1,g2,g3,g4⟩:=HA.out.app_kept (zp (zj HG1.out) _) hg;have hb1:(W1.drew.alloc (.cells (zl ((i:Int),x)).toArray 176)).heap[W.heap.size]? = some (.cells (zl ((i:Int),x)).toArray 176 (0,0)):=((ze W1.drew _ none).block _ (Array.getElem?_eq_some_iff.1 b0).1 (by simp)).trans b0
   exact⟨(hg.block _ (Array.getElem?_eq_some_iff.1 hb1).1 (λe=>by have:=g4 _ e.symm;omega)).trans hb1,g1,g2,g3⟩)
  have HLD:Hid (∀(v':Value) (w2 w4:World),w2.ownsRow 0 176 257 v' (d.late.length+1) (d.late.flatMap zl++zl ((i:Int),x))→(W1.drew.alloc (.cells (zl ((i:Int),x)).toArray 176)).grownBy w2 (Value.ownBlock (.slice p0 d.late.length cap0))→(v'.ownBlock=Value.ownBlock (.slice p0 d.late.length cap0)∨v'.ownBlock=some (W1.drew.alloc (.cells (zl ((i:Int),x)).toArray 176)).heap.size)→yg w4 nb (Value.int .i64) vm (yo d.now (i:Int) x)→(w2.setCell ⟨db,3,none⟩ v').grownBy w4 (some nb)→DAt own w4 db sb nb v' (d.lay i x)∧zm (λk=>¬own k) W w4):=(λv' w2 w4 ho hg2 hv hm hg4=>HA.out.laid hx hbx (zp (zj HG1.out) _) ho hg2 hv hm hg4 hf)
  have hnb:nb≠db∧nb<W.heap.size∧db<W.heap.size:=by
   refine⟨λe=>?_,HA.out.now.lt,hdl⟩
   obtain⟨es,c,hb3,_⟩:=HA.out.now;rw[e,HA.out.box] at hb3
   cases hb3
  refine qH (S:=λw':World=>w'.heap[W.heap.size]? = some (.cells (zl ((i:Int),x)).toArray 176 (0,0))∧w'.cell? ⟨db,2,none⟩=some (.map (some nb))) ⟨b0,d2⟩ (λhHeld=>?_)
  refine qT 0 ?_;refine qT 1 ?_;refine qT 2 ?_;refine qT 3 ?_;refine qT 4 ?_;refine qT 5 ?_;refine qT 6 ?_;refine qT 7 ?_;refine qT 8 ?_;refine qY 10 ?_ (v:=.agg (zl ((i:Int),x)).toArray) (hy:=yieldsIf_load_mid (by rfl) 176 _ rfl W.heap.size 0 rfl (zl ((i:Int),x)) _ (λw hSw=>zef hSw.1) Tryz.underlying176 rfl (by rw[qi (x:=((i:Int),x)) hx];exact Qb))
  refine qT 13 ?_;refine qY 14 ?_ (v:=.agg (zg x).toArray) (hy:=yieldsIf_load_mid (by rfl) 174 _ rfl W.heap.size 1 rfl (zg x) _ (λw hSw=>Xz (x:=((i:Int),x)) hSw.1) Tryz.underlying174 rfl (by rw[zu,hx];exact zab))
  refine qR [9,11] ?_;refine qC 9 (λK hK=>?_) (qC 11 (λK hK=>?_) qN)
  ·go_simp
   refine hK.out _ _ hHeld (λhHeld=>?_)
   clear hK K;refine qO 11 λK hK=>?_
   refine ui rfl (zb4 ((i:Int),x) hx _ rfl rfl) ?_;refine hK.out _ _ (keepS (ze _ _ none) hHeld) (λhHeld=>?_)
   clear hK K;refine qO 12 λK hK=>?_
   refine zaz rfl _ _ rfl _ d.late.length (d.late.flatMap zl) rfl (HA.out.kept (zp (zj HG1.out) _)).late ((i:Int),x) hx W1.heap.size rfl (heap_alloc_new W1.drew _) (by omega) ?_
   intro v' w2 ho2 hg2 hv2;obtain⟨p2,cap2,rfl⟩:=Ze ho2;obtain⟨hl1,hl2,hl3,hl4⟩:=HAP.out w2 hg2;have HO:=zd (And.intro ho2 (And.intro hg2 hv2));clear ho2 hg2 hv2;refine hK.out _ _ ⟨hl1,hl2⟩ (λhHeld=>?_)
   clear hK K;refine qT 15 ?_;refine qT 16 ?_;refine qO 17 λK hK=>?_
   go_simp
   refine hK.out _ _ ⟨(zv _ _ _ _).block _ (Array.getElem?_eq_some_iff.1 hl1).1 (by simp;omega) |>.trans hl1,yn (Or.inr (by decide)) hl2⟩ (λhHeld=>?_)
   clear hK K;refine qO 18 λK hK=>?_
   obtain⟨w3,v0,st,hr3,hg3,hz3,hent⟩:=yg.entry zac Tryz.underlying164 Yf (HNOW.out _ _ HO.out.2.1) (i:Int);obtain⟨w4,hr4,hm4,hg4,-⟩:=hent x 164;refine ui rfl (zdi _ _ rfl rfl rfl hr3) ?_;have HE:=zd (HLD.out _ w2 w4 HO.out.1 HO.out.2.1 HO.out.2.2 hm4 hg4);have hs3:=(zv w2 db 3 (.slice p2 (d.late.length+1) cap2));have l3:=(hg3.block _ (Nat.lt_of_lt_of_le (Array.getElem?_eq_some_iff.1 hl1).1 hs3.size) (by simp;omega)).trans ((hs3.block _ (Array.getElem?_eq_some_iff.1 hl1).1 (by simp;omega)).trans hl1)
   have l4:=hg3.cell (yn (v:=.slice p2 (d.late.length+1) cap2) (Or.inr (by decide)) hl2:(w2.setCell ⟨db,3,none⟩ (.slice p2 (d.late.length+1) cap2)).cell? ⟨db,2,none⟩=some (.map (some nb))) (by simp;omega)
   refine hK.out _ _ ⟨l3,l4⟩ (λhHeld=>?_)
   clear hK K;refine qT 19 ?_;refine qO 20 λK hK=>?_
   refine uq rfl (Um _ _ _ rfl rfl rfl rfl hr4) ?_;have hg4':=hg4;refine hK.out _ _ ⟨(hg4.block _ (Nat.lt_of_lt_of_le (Array.getElem?_eq_some_iff.1 hl1).1 hs3.size) (by simp;omega)).trans ((hs3.block _ (Array.getElem?_eq_some_iff.1 hl1).1 (by simp;omega)).trans hl1),hg4.cell (yn (v:=.slice p2 (d.late.length+1) cap2) (Or.inr (by decide)) hl2:(w2.setCell ⟨db,3,none⟩ (.slice p2 (d.late.length+1) cap2)).cell? ⟨db,2,none⟩=some (.map (some nb))) (by simp;omega)⟩ (λhHeld=>?_)
   clear hK K;refine qD ?_
   go_wp2_with (go_at_call 101;refine(HS.out _ _ HE.out.1).mono ?_;intro e w5 hp;obtain⟨vv,rfl⟩:∃v,e = .returned v:=(by split at hp <;> exact⟨_,hp.1⟩);have HP:=zd (HQ.out _ w5 x HX.out (zjm HE.out.2 hp));clear hp)
   exact HP.out
  ·refine ui rfl (zb4 ((i:Int),x) hx _ rfl rfl) ?_
   refine hK.out _ _ (keepS (ze _ _ none) hHeld) (λhHeld=>?_)
   clear hK K;refine qO 9 λK hK=>?_
   go_simp
   refine hK.out _ _ hHeld (λhHeld=>?_)
   clear hK K;refine qO 12 λK hK=>?_
   refine zaz rfl _ _ rfl _ d.late.length (d.late.flatMap zl) rfl (HA.out.kept (zp (zj HG1.out) _)).late ((i:Int),x) hx W1.heap.size rfl (heap_alloc_new W1.drew _) (by omega) ?_
   intro v' w2 ho2 hg2 hv2;obtain⟨p2,cap2,rfl⟩:=Ze ho2;obtain⟨hl1,hl2,hl3,hl4⟩:=HAP.out w2 hg2;have HO:=zd (And.intro ho2 (And.intro hg2 hv2));clear ho2 hg2 hv2;refine hK.out _ _ ⟨hl1,hl2⟩ (λhHeld=>?_)
   clear hK K;refine qT 15 ?_;refine qT 16 ?_;refine qO 17 λK hK=>?_
   go_simp
   refine hK.out _ _ ⟨(zv _ _ _ _).block _ (Array.getElem?_eq_some_iff.1 hl1).1 (by simp;omega) |>.trans hl1,yn (Or.inr (by decide)) hl2⟩ (λhHeld=>?_)
   clear hK K;refine qO 18 λK hK=>?_
   obtain⟨w3,v0,st,hr3,hg3,hz3,hent⟩:=yg.entry zac Tryz.underlying164 Yf (HNOW.out _ _ HO.out.2.1) (i:Int);obtain⟨w4,hr4,hm4,hg4,-⟩:=hent x 164;refine ui rfl (zdi _ _ rfl rfl rfl hr3) ?_;have HE:=zd (HLD.out _ w2 w4 HO.out.1 HO.out.2.1 HO.out.2.2 hm4 hg4);have hs3:=(zv w2 db 3 (.slice p2 (d.late.length+1) cap2));have l3:=(hg3.block _ (Nat.lt_of_lt_of_le (Array.getElem?_eq_some_iff.1 hl1).1 hs3.size) (by simp;omega)).trans ((hs3.block _ (Array.getElem?_eq_some_iff.1 hl1).1 (by simp;omega)).trans hl1)
   have l4:=hg3.cell (yn (v:=.slice p2 (d.late.length+1) cap2) (Or.inr (by decide)) hl2:(w2.setCell ⟨db,3,none⟩ (.slice p2 (d.late.length+1) cap2)).cell? ⟨db,2,none⟩=some (.map (some nb))) (by simp;omega)
   refine hK.out _ _ ⟨l3,l4⟩ (λhHeld=>?_)
   clear hK K;refine qT 19 ?_;refine qO 20 λK hK=>?_
   refine uq rfl (Um _ _ _ rfl rfl rfl rfl hr4) ?_;have hg4':=hg4;refine hK.out _ _ ⟨(hg4.block _ (Nat.lt_of_lt_of_le (Array.getElem?_eq_some_iff.1 hl1).1 hs3.size) (by simp;omega)).trans ((hs3.block _ (Array.getElem?_eq_some_iff.1 hl1).1 (by simp;omega)).trans hl1),hg4.cell (yn (v:=.slice p2 (d.late.length+1) cap2) (Or.inr (by decide)) hl2:(w2.setCell ⟨db,3,none⟩ (.slice p2 (d.late.length+1) cap2)).cell? ⟨db,2,none⟩=some (.map (some nb))) (by simp;omega)⟩ (λhHeld=>?_)
   clear hK K;refine qD ?_
   go_wp2_with (go_at_call 101;refine(HS.out _ _ HE.out.1).mono ?_;intro e w5 hp;obtain⟨vv,rfl⟩:∃v,e = .returned v:=(by split at hp <;> exact⟨_,hp.1⟩);have HP:=zd (HQ.out _ w5 x HX.out (zjm HE.out.2 hp));clear hp)
   exact HP.out
 ·have HQ:Hid (uk own W db (d.written ii b) (.int .i64 (d.writeV ii b)) (.returned (.int .i64 (d.mayE ii b.length))) W):=(show uk _ _ _ _ _ _ _ from by
   unfold Dk.written Dk.writeV;simp only[ne_eq,he,not_false_eq_true,if_true]
   exact⟨rfl,h,zm.refl _ _⟩)
  generalize uk own W db (d.written ii b) (.int .i64 (d.writeV ii b))=PP at *;generalize d.mayE ii b.length=ev at *
  go_enter Tryz.func24,Tryz.ntmps24
  go_wp2_with (go_at_call 100;refine HM.out.mono ?_;rintro e w1 ⟨rfl,h5⟩;obtain rfl:W=w1:=h5.symm)
  first|exact HQ.out|(go_ret;exact HQ.out)
end
theorem zpd (m:List (Int × List Int)) (i:Nat):((zw m (i:Int)).map vm).getD (vm zr)=vm (bk m i):=by
 unfold bk
 cases zw m (i:Int) <;> rfl
theorem bk_ok (h:zhj m) (i:Nat):(bk m i).length=256∧BL (bk m i):=by
 unfold bk
 cases e:zw m (i:Int) with
 | none=>exact⟨xt,λb hb=>by have:=List.eq_of_mem_replicate hb;omega⟩
 | some x=>exact h _ (qj e)
section
variable {own : Nat → Prop} {W W' : World} {db sb nb : Nat} {lv : Value} {d : Dk}
structure zjy (W w':World) (v:Value) (x:List Int):Prop where
 ex:∃g,v = .slice (some ⟨g,0,none⟩) 256 256∧W.heap.size≤g∧w'.heap[g]? = some (.cells (zg x).toArray 174 (0,0))
 len:x.length=256
 bl:BL x
def Yi (W:World) (d:Dk) (i:Int) (e:Ending) (w':World):Prop:=
 W.grownBy w' none∧∃v,e = .returned (.tuple #[v,.int .i64 (d.mayE i 0)])∧((d.mayE i 0≠0∧v = .slice none 0 0)∨(d.mayE i 0=0∧zjy W w' v (bk d.now i.toNat)))
set_option maxRecDepth 100000 in
theorem dread (h:vk own W db d) (ii:Int):Calls Tryz.prog 114 #[.pointer (some ⟨db,0,none⟩),.int .i64 ii] W (Yi W d ii):=by
 have HM:=zd (dmay h ii none 0 0)
 by_cases he:d.mayE ii 0=0
 ·obtain⟨hoff,hi0,hi1,-⟩:=zbm he
  obtain⟨i,rfl⟩:∃i:Nat,ii=(i:Int):=⟨ii.toNat,by omega⟩
  obtain⟨sb,nb,lv,hd⟩:=h.ex;have hx:=bk_ok hd.bnow i;have HQ:Hid (∀w',w'=W.alloc (.cells (zg (bk d.now i)).toArray 174)→Yi W d i (.returned (.tuple #[.slice (some ⟨W.heap.size,0,none⟩) 256 256,.int .i64 0])) w'):=(λw' hw=>by
   subst hw;refine⟨ze _ _ _,_,by rw[he],Or.inr ⟨he,⟨⟨_,rfl,Nat.le_refl _,?_⟩,?_,?_⟩⟩⟩
   ·rw[Int.toNat_natCast];exact heap_alloc_new _ _
   ·rw[Int.toNat_natCast];exact hx.1
   ·rw[Int.toNat_natCast];exact hx.2)
  rw[he] at HM;have HNW:Hid (yg W nb (Value.int .i64) vm d.now):=(show yg _ _ _ _ _ from hd.now)
  obtain⟨c0,c1,c2,c3,c4,c5,c6,y⟩:=hd.cells;have HE:=zd (zpd d.now i);have HX:=zd hx;clear h hd hx;generalize Yi W d i=PP at *;generalize bk d.now i=x at *
  go_enter Tryz.func114,Tryz.ntmps114
  go_wp2_with (first
   | (go_at_call 100;refine HM.out.mono ?_;rintro e w1 ⟨rfl,h5⟩;obtain rfl:W=w1:=h5.symm)
   | (refine jm _ rfl _ _ 164 false rfl zac Tryz.underlying164 (Yf _) nb d.now rfl HNW.out (i:Int) rfl ?_;rw[HE.out];unfold vm)
   | (refine un rfl 174 rfl (vm zr) Yf (zg zr).toArray rfl ?_)
   | (refine uf rfl 174 _ _ rfl _ (zg x).toArray _ rfl rfl (blkI HX.out.1) (blkE xt HX.out.1) (blkA _) ?_))
  exact HQ.out _ rfl
 ·have HQ:Hid (Yi W d ii (.returned (.tuple #[.slice none 0 0,.int .i64 (d.mayE ii 0)])) W):=(show Yi _ _ _ _ _ from ⟨zi _,_,rfl,Or.inl ⟨he,rfl⟩⟩)
  generalize Yi W d ii=PP at *;generalize d.mayE ii 0=ev at *
  go_enter Tryz.func114,Tryz.ntmps114
  go_wp2_with (go_at_call 100;refine HM.out.mono ?_;rintro e w1 ⟨rfl,h5⟩;obtain rfl:W=w1:=h5.symm)
  first|exact HQ.out|(go_ret2;exact HQ.out)
end
end Go.Proofs.YtbcbhlfjgobejaaGreat
