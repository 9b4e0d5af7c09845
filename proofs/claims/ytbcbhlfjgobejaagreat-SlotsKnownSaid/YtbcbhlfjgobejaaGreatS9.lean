/- A disk's On: the walk. Conditions: none, or as the theorems say. -/
import Derived.Test.YtbcbhlfjgobejaaGreatS1
import Derived.Test.YtbcbhlfjgobejaaGreatS8
set_option linter.unusedSimpArgs false
set_option linter.unusedVariables false
namespace Go.Proofs.YtbcbhlfjgobejaaGreat
set_option maxHeartbeats 200000000
open Go.RowKit Go.Sf
variable {a:Act} {fates x y:List Int} {b k:Nat} {t:TypeId} {vx vy:Value} {w:World}
theorem zdz (fates:List Int):∀(ws:List (Int × List Int)) (w:Int × List Int) (j:Nat) (m:List (Int × List Int)),qp fates j (ws ++ [w]) m=yo (qp fates j ws m) w.1 (vq (um fates (j+ws.length)) w.2 ((zw (qp fates j ws m) w.1).getD zr))
 | [],w,j,m=>rfl
 | a :: ws,w,j,m=>by
  show qp fates (j+1) (ws ++ [w]) (yo m a.1 _)=_
  rw[zdz fates ws w (j+1)];have e:j+1+ws.length=j+(a :: ws).length:=by simp;omega
  rw[e]
  rfl
theorem mget_ok {m:List (Int × List Int)} (h:zhj m) (a:Int):((zw m a).getD zr).length=256∧BL ((zw m a).getD zr):=by
 cases e:zw m a with
 | none=>exact⟨xt,λb hb=>by have:=List.eq_of_mem_replicate hb;omega⟩
 | some x=>exact h _ (qj e)
theorem zc0 (hx:x.length=256∧BL x) (hy:y.length=256∧BL y) (r:Nat):(vq r x y).length=256∧BL (vq r x y):=
 ⟨by rw[zln (by omega)];exact hy.1,(hx.2.take _).app (hy.2.drop _)⟩
theorem Jr (hx:x.length=256) (hy:y.length=256) (r:Nat):splice (zg y) 0 ((zg x).take r)=zg (vq r x y):=by
 unfold splice vq;simp only[List.take_zero,List.nil_append,Nat.zero_add,List.length_take,zu]
 rcases Nat.le_total r 256 with h|h
 ·rw[hx,Nat.min_eq_left h]
  simp[zg]
 ·rw[hx,Nat.min_eq_right h,List.drop_of_length_le (by rw[zu];omega),List.drop_of_length_le (l:=y) (by omega),List.take_of_length_le (by rw[zu];omega),List.take_of_length_le (by omega),List.append_nil,List.append_nil]
theorem Uz {o:Oper} {c:Bool} {v:Value} (x y:Operand) (hop:o.op=Op.lookup t x y c) (hx:a.eval x=vx) (hy:a.eval y=vy) (hr:(Instr.lookup t vx vy c).run Tryz.prog w = .ok v w):(execOp a.eval o).run Tryz.prog w = .ok (.value v) w:=by
 unfold execOp;rw[hop]
 change (do pure (Next.value (←Instr.lookup t (a.eval x) (a.eval y) c)):Sem Next).run Tryz.prog w=_
 rw[hx,hy];generalize Instr.lookup t vx vy c=s at *;simp[go_sem,hr]
theorem Xw {o:Oper} {w':World} {vz:Value} (x y z:Operand) (hop:o.op=Op.mapUpdate t x y z) (hx:a.eval x=vx) (hy:a.eval y=vy) (hz:a.eval z=vz) (hr:(Instr.mapUpdate t vx vy vz).run Tryz.prog w = .ok () w'):(execOp a.eval o).run Tryz.prog w = .ok .skip w':=by
 unfold execOp;rw[hop]
 change (do Instr.mapUpdate t (a.eval x) (a.eval y) (a.eval z);pure Next.skip:Sem Next).run Tryz.prog w=_
 rw[hx,hy,hz];generalize Instr.mapUpdate t vx vy vz=s at *;simp[go_sem,hr]
theorem Yk {o:Oper} (T:TypeId) (hop:o.op=Op.alloc T) {z:Value} (hz:∀w,(zeroValue T).run Tryz.prog w = .ok z w):(execOp a.eval o).run Tryz.prog w = .ok (.value (.pointer (some ⟨w.heap.size,0,none⟩))) (w.alloc (.cells z.cells T)):=by
 unfold execOp;rw[hop]
 change (do pure (Next.value (←Instr.alloc T true (.tuple #[]))):Sem Next).run Tryz.prog w=_
 simp[Instr.alloc,hz,newVar,newRow,newObj,Result.andThen,go_sem]
 rfl
theorem jt {o:Oper} (ty:TypeId) (x y:Operand) (ho:o.op = .store ty x y) (c c':Array Value) (t:TypeId) (hx:a.eval x = .pointer (some ⟨w.heap.size,0,none⟩)) (hy:a.eval y = .agg c') (hi:(Tryz.prog.info? ty).map (·.size)=some c'.size) (hold:c.size=c'.size) (h1:c'.all (·.oneCell')=true) :
  (execOp a.eval o).run Tryz.prog (w.alloc (.cells c t)) = .ok .skip (w.alloc (.cells c' t)):=by
 have h:=run_storeVar_row (P:=Tryz.prog) (w.alloc (.cells c t)) w.heap.size t ty c c' (heap_alloc_new _ _) hi hold h1;rw[World.setRow_alloc_new] at h;unfold execOp;simp only[ho,hx,hy,Instr.storeAt,Instr.sureAddr,Sem.run_bind,Sem.run_pure,Result.andThen_ok,h]
section
variable {own : Nat → Prop} {W W' : World} {db sb nb : Nat} {lv : Value} {d : Dk}
theorem DAt.mixed (h:DAt own W db sb nb lv d) {w3 w4:World} {a:Int} {z:List Int} (hz:z.length=256∧BL z) (hg:W.grownBy w3 none) (hm:yg w4 sb (Value.int .i64) vm (yo d.st a z)) (hg4:w3.grownBy w4 (some sb)):DAt own w4 db sb nb lv { d with st:=yo d.st a z }∧zm (λk=>¬own k) W w4:=by
 have h3:=h.kept hg;have hx:=h3.box;have hds:sb≠db:=λe=>by obtain⟨es,c,hb2,_⟩:=h3.st;rw[e,hx] at hb2;cases hb2
 refine⟨⟨(hg4.block db h3.dlt (by simp;exact λe=>hds e.symm)).trans hx,hm,h3.now.kept hg4 (by simp;exact λe=>h.sn e.symm),h3.late.kept hg4 ?_,h.sn,h.odb,h.osb,h.onb,h.olv,λk hk=>Nat.lt_of_lt_of_le (h3.lt k hk) hg4.size,h.n,h.w0,h.w1,h.bst.put hz.1 hz.2,h.bnow,h.blate,h.few⟩,?_⟩
 ·rcases h5:lv.ownBlock with _|k
  ·exact Or.inl rfl
  ·right
   intro e;cases e
   rcases h3.late.2 with ⟨e2,_⟩|⟨b,c,cur,e2,_,hb2,_⟩
   ·rw[e2] at h5;simp[Value.ownBlock] at h5
   ·rw[e2] at h5;simp[Value.ownBlock] at h5
    obtain⟨es,c,hb3,_⟩:=h3.st;rw[h5,hb3] at hb2;cases hb2
 ·exact⟨hg4.os.trans hg.os,hg4.tape.trans hg.tape,hg4.output.trans hg.output,Nat.le_trans hg.size hg4.size,λk hk hn=>(hg4.block k (Nat.lt_of_lt_of_le hk hg.size) (λe=>by cases e;exact hn h.osb)).trans (hg.block k hk (by simp))⟩
theorem DAt.over (h:DAt own W db sb nb lv d) {w1:World} (hm:yg w1 b (Value.int .i64) vm d.st) (hg:W.grownBy w1 none) (hb:W.heap.size≤b) :
  DAt own (((w1.setCell ⟨db,6,none⟩ (.bool false)).setCell ⟨db,3,none⟩ (.slice none 0 0)).setCell ⟨db,2,none⟩ (.map (some b))) db sb b (.slice none 0 0) { d with now:=d.st,late:=[],off:=false }∧zm (λk=>¬own k) W (((w1.setCell ⟨db,6,none⟩ (.bool false)).setCell ⟨db,3,none⟩ (.slice none 0 0)).setCell ⟨db,2,none⟩ (.map (some b))):=by
 have h1:=h.kept hg;have hs1:=zv w1 db 6 (.bool false);have hs2:=zv (w1.setCell ⟨db,6,none⟩ (.bool false)) db 3 (.slice none 0 0);have hs3:=zv ((w1.setCell ⟨db,6,none⟩ (.bool false)).setCell ⟨db,3,none⟩ (.slice none 0 0)) db 2 (.map (some b));have hx:=h1.box;have hn:sb≠db:=λe=>by obtain⟨es,c,hb2,_⟩:=h1.st;rw[e,hx] at hb2;cases hb2
 have hbd:b≠db:=by have:=h.dlt;omega
 have hbn:sb≠b:=by have:=h.st.lt;omega
 have ht:∀(w:World) i v,zm (λk=>¬own k) w (w.setCell ⟨db,i,none⟩ v):=λw i v=>(yh w db i v).mono (λk hk ho=>h.odb (hk ▸ ho))
 refine⟨⟨?_,((h1.st.kept hs1 (by simp;exact hn)).kept hs2 (by simp;exact hn)).kept hs3 (by simp;exact hn),((hm.kept hs1 (by simp;exact hbd)).kept hs2 (by simp;exact hbd)).kept hs3 (by simp;exact hbd),World.ownsRow_nil _ _ _ _,hbn,h.odb,h.osb,λe=>by have:=h.lt _ e;omega,λg hg=>by simp[Value.ownBlock] at hg,λk hk=>Nat.lt_of_lt_of_le (h1.lt k hk) (Nat.le_trans hs1.size (Nat.le_trans hs2.size hs3.size)),h.n,h.w0,h.w1,h.bst,h.bst,λp hp=>by simp at hp,by simp⟩,vo hg (((ht _ _ _).trans (ht _ _ _)).trans (ht _ _ _))⟩
 simp[World.setCell,Array.getElem?_modify,hx]
set_option maxRecDepth 10000 in
theorem DAt.late_at (h:DAt own W db sb nb lv d) {w:Int × List Int} (hw:d.late[k]? = some w):∃g cap,lv = .slice (some ⟨g,0,none⟩) d.late.length cap∧W.rangeAt g (k*257) (zl w):=by
 have hk:=(List.getElem?_eq_some_iff.1 hw).1
 rcases h.late.2 with ⟨_,h0⟩|⟨g,cap,cur,e,_,hb,hl,_,hs,ht⟩
 ·omega
 ·refine⟨g,cap,e,λj v hv=>?_⟩
  have hj:j<257:=by have:=(List.getElem?_eq_some_iff.1 hv).1;rw[qi (h.blate w (List.mem_of_getElem? hw)).1] at this;exact this
  rw[cell_of_row W g _ cur _ _ hb];have hlen:∀u∈d.late,(zl u).length=257:=λu hu=>qi (h.blate u hu).1
  have e1:(d.late.flatMap zl)[k*257+j]? = some v:=by
   have:∀(l:List (Int × List Int)) (k:Nat),(∀u∈l,(zl u).length=257)→l[k]? = some w→(l.flatMap zl)[k*257+j]? = some v:=by
    intro l
    induction l with
    | nil=>intro k _ h;simp at h
    | cons a l ih=>
     intro k hl h;rw[List.flatMap_cons]
     cases k with
     | zero=>
      simp at h;subst h;rw[List.getElem?_append_left (by rw[hl a (by simp)];omega)]
      simpa using hv
     | succ k=>
      rw[List.getElem?_append_right (by rw[hl a (by simp)];omega),hl a (by simp)]
      have:=ih k (λu hu=>hl u (List.mem_cons_of_mem _ hu)) (by simpa using h)
      rw[←this];congr 1;omega
   exact this d.late k hlen hw
  rw[←ht,List.getElem?_take] at e1
  split at e1
  ·simpa using e1
  ·cases e1
def Dk.onK (d:Dk) (fates:List Int) (k:Nat):Dk:={ d with st:=qp fates 0 (d.late.take k) d.st,well:=-1 }
theorem zpm {d:Dk} {w:Int × List Int} (hw:d.late[k]? = some w):{ d.onK fates k with st:=yo (d.onK fates k).st w.1 (vq (um fates k) w.2 ((zw (d.onK fates k).st w.1).getD zr)) }=d.onK fates (k+1):=by
 have hk:=(List.getElem?_eq_some_iff.1 hw).1;have e:d.late.take (k+1)=d.late.take k ++ [w]:=by
  rw[List.take_add_one,hw];rfl
 have el:(d.late.take k).length=k:=by rw[List.length_take];omega
 unfold Dk.onK;simp only[e];rw[zdz,el,Nat.zero_add]
theorem za0 {α:Type} {l:List α} {n j:Nat} {v:α} (h:(l.take n)[j]? = some v):l[j]? = some v:=by
 rw[List.getElem?_take] at h
 split at h
 ·exact h
 ·cases h
theorem Qu {T:TypeId} {fr:Nat × Nat} (h:w.heap[b]? = some (.cells (zg x).toArray T fr)):w.rangeAt b 0 (zg x):=λj v hv=>by
 rw[Nat.zero_add,cell_of_row w b j _ T fr h];simpa using hv
theorem zpw (fates:List Int) (hf:BL fates) (k:Nat):um fates k≤256:=by
 unfold um
 cases e:fates[k]? with
 | none=>simp
 | some f=>
  have:=hf f (List.mem_of_getElem? e);simp only
  split <;> omega
set_option maxRecDepth 100000 in
theorem don (h:vk own W db d) {fv:Value} (hf:∀w':World,zm (λk=>¬own k) W w'→zx w' fv fates) (hfb:BL fates) (hfl:fates.length≤1000000):Calls Tryz.prog 34 #[.pointer (some ⟨db,0,none⟩),fv] W (uk own W db (d.on fates) (.tuple #[])):=by
 have HF:=zd hf;have hf0:=hf W (zm.refl _ _);obtain⟨pf,cf,rfl,-⟩:=hf0.ex;clear hf hf0;obtain⟨sb,nb,lv,hd⟩:=h.ex;clear h;obtain⟨c0,c1,c2,c3,c4,c5,c6,y⟩:=hd.cells;obtain⟨p0,cap0,rfl⟩:=Ze hd.late;have h1:=hd.set 5 (.int .i64 (-1)) { d with well:=-1 } rfl rfl rfl rfl rfl (by show(-1:Int)≤-1;omega) (by show(-1:Int)<_;omega)
 have HT1:=zd (ju hd 5 (.int .i64 (-1)));have H1:=zd h1
 cases ho:d.off
 ·have HQ:Hid (uk own W db (d.on fates) (.tuple #[]) (.returned (.tuple #[])) (W.setCell ⟨db,5,none⟩ (.int .i64 (-1)))):=(show uk _ _ _ _ _ _ _ from by
   have e:d.on fates = { d with well:=-1 }:=by unfold Dk.on;rw[if_neg (by rw[ho];simp)]
   rw[e]
   exact⟨rfl,⟨_,_,_,H1.out⟩,HT1.out⟩)
  rw[ho] at c6;clear hd h1;generalize uk own W db (d.on fates) (.tuple #[])=PP at *
  go_enter Tryz.func34,Tryz.ntmps34
  go_wp2
  first|exact HQ.out|((first|go_end0|refine bodyPost_ret (results_none rfl _ _ _) rfl ?_);exact HQ.out)
 ·rw[ho] at c6
  have HB:=zd hfb;have hdl:=hd.dlt;have hnl:d.late.length≤1000000:=hd.few;have H0:Hid (DAt own (W.setCell ⟨db,5,none⟩ (.int .i64 (-1))) db sb nb (.slice p0 d.late.length cap0) (d.onK fates 0)):=(show DAt _ _ _ _ _ _ _ from h1)
  clear hd h1
  go_enter Tryz.func34,Tryz.ntmps34
  go_wp2
  go_loopw [23] (λi wr=>∃k:Nat,k≤d.late.length∧i = .int .i64 k∧DAt own wr db sb nb (.slice p0 d.late.length cap0) (d.onK fates k)∧zm (λk=>¬own k) W wr) (λi _=>d.late.length-(intOf i).toNat)
  case atStart=>exact⟨0,Nat.zero_le _,rfl,H0.out,HT1.out⟩
  case round=>
   obtain⟨k,hk,rfl,hD,hT⟩:=hrel;obtain⟨e0,e1,e2,e3,e4,e5,e6,ey⟩:=hD.cells
   by_cases hkn:k<d.late.length
   ·obtain⟨⟨a,x⟩,hw⟩:∃w,d.late[k]? = some w:=⟨_,List.getElem?_eq_getElem hkn⟩
    obtain⟨lg,cap1,hlv,hrg⟩:=hD.late_at (k:=k) (w:=(a,x)) hw
    injection hlv with hp0 hx5 hc1
    clear hx5;subst hp0 hc1;have hxl:=hD.blate (a,x) (List.mem_of_getElem? hw);have HXL:Hid (x.length=256∧BL x):=(show _∧_ from hxl)
    obtain⟨Y,hY⟩:∃Y,(zw (d.onK fates k).st a).getD zr=Y:=⟨_,rfl⟩;have hyl:=mget_ok hD.bst a;rw[hY] at hyl;have HYL:=zd hyl;have HRG:=zd hrg;have HST:Hid (yg wr sb (Value.int .i64) vm (d.onK fates k).st):=(show yg _ _ _ _ _ from hD.st)
    have HSTEP:Hid (∀r,r=um fates k→{ d.onK fates k with st:=yo (d.onK fates k).st a (vq r x Y) }=d.onK fates (k+1)):=(λr hr=>by subst hr;have:=zpm (fates:=fates) hw;rw[hY] at this;exact this)
    have HY:=zd hY;have HMX0:Hid (∀(z:List Int) (w3 w4:World),z.length=256∧BL z→wr.grownBy w3 none→yg w4 sb (Value.int .i64) vm (yo (d.onK fates k).st a z)→w3.grownBy w4 (some sb)→DAt own w4 db sb nb (.slice (some ⟨lg,0,none⟩) d.late.length cap0) { d.onK fates k with st:=yo (d.onK fates k).st a z }∧zm (λk=>¬own k) wr w4):=(λz w3 w4 hz hg hm hg4=>hD.mixed hz hg hm hg4)
    have hsb:sb<wr.heap.size∧db<wr.heap.size:=⟨hD.st.lt,hD.dlt⟩;have HT:=zd hT;have HFW:=zd (HF.out _ hT);clear hD hT hY hrg hxl hyl;have HRE:Hid (∀(r:Nat),r=um fates k→∀w',DAt own w' db sb nb (.slice (some ⟨lg,0,none⟩) d.late.length cap0) { d.onK fates k with st:=yo (d.onK fates k).st a (vq r x Y) }∧zm (λk=>¬own k) wr w'→DAt own w' db sb nb (.slice (some ⟨lg,0,none⟩) d.late.length cap0) (d.onK fates (k+1))∧zm (λk=>¬own k) W w'):=(λr hr w' hp=>by rw[HSTEP.out r hr] at hp;exact⟨hp.1,HT.out.trans hp.2⟩)
    clear HSTEP;obtain⟨SX,hSX⟩:∃SX:List (Int × List Int)→Dk,SX=λm=>{ d.onK fates k with st:=m }:=⟨_,rfl⟩
    have HMX1:Hid (∀(z:List Int) (w3 w4:World),z.length=256∧BL z→wr.grownBy w3 none→yg w4 sb (Value.int .i64) vm (yo (d.onK fates k).st a z)→w3.grownBy w4 (some sb)→DAt own w4 db sb nb (.slice (some ⟨lg,0,none⟩) d.late.length cap0) (SX (yo (d.onK fates k).st a z))∧zm (λk=>¬own k) wr w4):=(by rw[hSX];exact HMX0.out)
    have HRE1:Hid (∀(r:Nat),r=um fates k→∀w',DAt own w' db sb nb (.slice (some ⟨lg,0,none⟩) d.late.length cap0) (SX (yo (d.onK fates k).st a (vq r x Y)))∧zm (λk=>¬own k) wr w'→DAt own w' db sb nb (.slice (some ⟨lg,0,none⟩) d.late.length cap0) (d.onK fates (k+1))∧zm (λk=>¬own k) W w'):=(by rw[hSX];exact HRE.out)
    clear HMX0 HRE hSX;generalize (d.onK fates k).st=ST at *;generalize d.late.length=nl at *;have hlr:wr.heap.size<0∨True:=Or.inr trivial
    by_cases hkf:k<fates.length
    ·obtain⟨f,hfe⟩:∃f,fates[k]? = some f:=⟨_,List.getElem?_eq_getElem hkf⟩
     have hfr:=HB.out f (List.mem_of_getElem? hfe);obtain⟨fn,rfl⟩:∃fn:Nat,f=(fn:Int):=⟨f.toNat,by omega⟩
     obtain⟨af,rfl,hcf⟩:∃af,pf=some af∧wr.cell? (af.add k)=some (.int .u8 fn):=by
      obtain⟨p',c',e,hc⟩:=HFW.out.ex
      injection e with e1 _ _
      subst e1
      rcases hc with h0|⟨af,h1,h2⟩
      ·rw[h0] at hkf;simp at hkf
      ·exact⟨af,h1,h2 k _ (by simp[zg,hfe])⟩
     have hcf2:∀o,(wr.alloc o).cell? (af.add k)=some (.int .u8 fn):=λo=>(ze wr o none).cell hcf (by simp)
     have hfn1:fn≤256:=by omega
     have hfn2:(fn:Int)≤256:=by omega
     by_cases h255:fn=255
     ·subst h255
      have hre:256=um fates k:=by simp[um,hfe]
      obtain⟨Z,hZ⟩:∃Z,Z=vq 256 x Y:=⟨_,rfl⟩;have hzl:=zc0 HXL.out HYL.out 256;have hzs:=Jr HXL.out.1 HYL.out.1 256;have HMX:Hid (∀(w3 w4:World),wr.grownBy w3 none→yg w4 sb (Value.int .i64) vm (yo ST a Z)→w3.grownBy w4 (some sb)→DAt own w4 db sb nb (.slice (some ⟨lg,0,none⟩) nl cap0) (d.onK fates (k+1))∧zm (λk=>¬own k) W w4):=(λw3 w4 hg hm hg4=>HRE1.out 256 hre w4 (by have:=HMX1.out Z w3 w4 (by rw[hZ];exact hzl) hg hm hg4;rw[hZ] at this;exact this))
      rw[←hZ] at hzl hzs;have HZL:=zd hzl;have HZ:=zd hzs;clear hZ hzl hzs hre HMX1 HRE1
      go_upto_region 11 with (first|(refine wpList_load_mid rfl 176 _ rfl lg (k*257) rfl (zl (a,x)) _ HRG.out Tryz.underlying176 rfl (by rw[qi (x:=(a,x)) HXL.out.1];exact Qb) ?_)|(refine un rfl 176 rfl (zey (0,zr)) zbc (zl (0,zr)).toArray rfl ?_)|(refine uf rfl 176 _ _ rfl _ (zl (a,x)).toArray _ rfl rfl (zll (x:=(a,x)) HXL.out.1) (zlk (x:=(0,zr)) (y:=(a,x)) xt HXL.out.1) (zlj _) ?_))
      have hg1:wr.grownBy (wr.alloc (.cells (zl (a,x)).toArray 176)) none:=ze _ _ none;have k1:=hg1.cell e1 (by simp)
      have k2:(wr.alloc (.cells (zl (a,x)).toArray 176)).cell? ⟨wr.heap.size,0,none⟩=some (.int .i64 a):=(zf (heap_alloc_new _ _) 0).trans rfl;have k4:=heap_alloc_new wr (.cells (zl (a,x)).toArray 176);have HG1:=zd hg1;have hs1:wr.heap.size<(wr.alloc (.cells (zl (a,x)).toArray 176)).heap.size:=by simp
      clear hg1;generalize wr.alloc (.cells (zl (a,x)).toArray 176)=w1 at *;refine qH (S:=λw':World=>w'.cell? ⟨db,1,none⟩=some (.map (some sb))∧w'.cell? ⟨wr.heap.size,0,none⟩=some (.int .i64 a)∧yg w' sb (Value.int .i64) vm ST) ⟨k1,k2,HST.out.kept (zj HG1.out) (by simp)⟩ (λhHeld=>?_)
      refine qT 0 ?_;refine qT 1 ?_;refine qT 2 ?_;refine qT 3 ?_;refine qT 4 ?_;refine qT 5 ?_;refine qT 6 ?_ (v:=.agg (zg Y).toArray) (he:=λw hSw=>Uz (vx:=.map (some sb)) (vy:=.int .i64 a) _ _ rfl rfl rfl (by have h5:=hSw.2.2.lookup zac Tryz.underlying164 (Yf w) a false;rw[h5];rw[←HY.out];cases zw ST a <;> rfl))
      refine qO 7 λK hK=>?_
      refine ui rfl (Yk 174 rfl Yf) ?_;have hg5:=ze w1.drew (.cells (vm zr).cells 174) none;refine hK.out _ _ ⟨hg5.cell hHeld.1 (by simp),hg5.cell hHeld.2.1 (by simp),hHeld.2.2.kept hg5 (by simp)⟩ (λhHeld=>?_)
      clear hK K;refine qO 8 λK hK=>?_
      refine uq rfl (jt 174 _ _ rfl _ (zg Y).toArray _ rfl rfl (blkI HYL.out.1) (blkE xt HYL.out.1) (blkA _)) ?_;have hg6:=ze w1.drew (.cells (zg Y).toArray 174) none;refine hK.out _ _ ⟨hg6.cell k1 (by simp),hg6.cell k2 (by simp),yg.kept (HST.out.kept (zj HG1.out) (by simp)) hg6 (by simp)⟩ (λhHeld=>?_)
      clear hK K;refine qD ?_;have m1:=hg6.cell k1 (by simp)
      have m2:=hg6.cell k2 (by simp)
      have m4:(w1.drew.alloc (.cells (zg Y).toArray 174)).heap[wr.heap.size]? = some (.cells (zl (a,x)).toArray 176 (0,0)):=(hg6.block _ hs1 (by simp)).trans k4
      have m5:=heap_alloc_new w1.drew (.cells (zg Y).toArray 174);have HG2:Hid (wr.grownBy (w1.drew.alloc (.cells (zg Y).toArray 174)) none):=(zp (zj HG1.out) _);have hs3:wr.heap.size<w1.drew.heap.size:=hs1;clear hHeld hg5 hg6 k1 k2 k4;generalize hbb:w1.drew.heap.size=bb at *;have m5':=m5;clear m5;generalize w1.drew.alloc (.cells (zg Y).toArray 174)=w2 at *;clear hbb
      go_upto_region 12 with fail
      refine qH (S:=λw':World=>True) trivial (λhHeld=>?_)
      refine qT 0 ?_;refine qT 1 ?_;refine qT 2 ?_;refine qT 3 ?_;refine qO 4 λK hK=>?_
      refine step_copy_splice rfl _ _ 32 32 rfl 5 Tryz.underlying32 (by kernel_rfl) (some ⟨bb,0,none⟩) (some ⟨wr.heap.size,1,none⟩) 256 256 256 256 rfl rfl bb 0 (zg Y) 174 m5' ((zg x).take 256) (by rw[List.length_take,zu,HXL.out.1];try exact Nat.min_comm _ _) (λ_=>⟨rfl,_,rfl,λj v hv=>by rw[Addr.add_mid];exact Xz (x:=(a,x)) m4 j v (za0 hv)⟩) (by rw[List.length_take,zu,zu,HXL.out.1,HYL.out.1];omega) (λv hv=>qt x v (List.mem_of_mem_take hv)) bb w2.drew (Below.refl _ _) (Nat.le_refl _) ?_
      intro w3 hq hbel;refine hK.out _ _ trivial (λhHeld=>?_)
      clear hK K;refine qD ?_;have n5:w3.heap[bb]? = some (.cells (zg Z).toArray 174 (0,0)):=by rw[←HZ.out];exact hq.out
      have hgr:wr.grownBy w3 none:=⟨hbel.os.trans HG2.out.os,hbel.tape.trans HG2.out.tape,hbel.output.trans HG2.out.output,Nat.le_trans HG2.out.size hbel.size,λk hk _=>(hbel.block k (by omega)).trans (HG2.out.block k hk (by simp))⟩
      have n1:=hgr.cell e1 (by simp)
      have n2:w3.cell? ⟨wr.heap.size,0,none⟩=some (.int .i64 a):=(World.cell?_of_block (hbel.block wr.heap.size hs3)).trans m2;have HG3:=zd hgr;clear hq hbel hgr m1 m2 m4 m5'
      go_upto_region 13 with fail
      refine qH (S:=λw':World=>w'.cell? ⟨db,1,none⟩=some (.map (some sb))∧w'.cell? ⟨wr.heap.size,0,none⟩=some (.int .i64 a)∧w'.heap[bb]? = some (.cells (zg Z).toArray 174 (0,0))) ⟨n1,n2,n5⟩ (λhHeld=>?_)
      refine qT 0 ?_;refine qT 1 ?_;refine qT 2 ?_;refine qT 3 ?_;refine qT 4 ?_;refine qT 5 ?_;refine qY 6 ?_ (v:=.agg (zg Z).toArray) (hy:=yieldsIf_load_mid (by rfl) 174 _ rfl bb 0 rfl (zg Z) _ (λw hSw=>Qu hSw.2.2) Tryz.underlying174 rfl (by rw[zu,HZL.out.1];exact zab))
      refine qO 7 λK hK=>?_
      obtain⟨w4,hr4,hm4,hg4,-⟩:=yg.update zac Tryz.underlying164 (HST.out.kept (zj HG3.out) (by simp)) a Z
      refine uq rfl (Xw _ _ _ rfl rfl rfl rfl hr4) ?_;have HR:=zd (HMX.out w3.drew w4 (zj HG3.out) hm4 hg4);have q1:=(show w4.cell? ⟨db,1,none⟩=some (.map (some sb)) from (zf HR.out.1.box 1).trans rfl)
      have q2:=hg4.cell (row:=some sb) n2 (by simp;omega)
      have q5:=(hg4.block bb (Array.getElem?_eq_some_iff.1 n5).1 (by simp;omega)).trans n5
      refine hK.out _ _ ⟨q1,q2,q5⟩ (λhHeld=>?_)
      clear hK K;refine qD ?_
      go_wp2_with fail
      go_roundw
      case rel=>exact⟨k+1,by omega,rfl,HR.out.1,HR.out.2⟩
      case measure=>simp[intOf];omega
     ·have hre:fn=um fates k:=by simp only[um,hfe];rw[if_neg (by omega)];simp
      obtain⟨Z,hZ⟩:∃Z,Z=vq fn x Y:=⟨_,rfl⟩;have hzl:=zc0 HXL.out HYL.out fn;have hzs:=Jr HXL.out.1 HYL.out.1 fn;have HMX:Hid (∀(w3 w4:World),wr.grownBy w3 none→yg w4 sb (Value.int .i64) vm (yo ST a Z)→w3.grownBy w4 (some sb)→DAt own w4 db sb nb (.slice (some ⟨lg,0,none⟩) nl cap0) (d.onK fates (k+1))∧zm (λk=>¬own k) W w4):=(λw3 w4 hg hm hg4=>HRE1.out fn hre w4 (by have:=HMX1.out Z w3 w4 (by rw[hZ];exact hzl) hg hm hg4;rw[hZ] at this;exact this))
      rw[←hZ] at hzl hzs;have HZL:=zd hzl;have HZ:=zd hzs;clear hZ hzl hzs hre HMX1 HRE1
      go_upto_region 11 with (first|(refine wpList_load_mid rfl 176 _ rfl lg (k*257) rfl (zl (a,x)) _ HRG.out Tryz.underlying176 rfl (by rw[qi (x:=(a,x)) HXL.out.1];exact Qb) ?_)|(refine un rfl 176 rfl (zey (0,zr)) zbc (zl (0,zr)).toArray rfl ?_)|(refine uf rfl 176 _ _ rfl _ (zl (a,x)).toArray _ rfl rfl (zll (x:=(a,x)) HXL.out.1) (zlk (x:=(0,zr)) (y:=(a,x)) xt HXL.out.1) (zlj _) ?_))
      have hg1:wr.grownBy (wr.alloc (.cells (zl (a,x)).toArray 176)) none:=ze _ _ none;have k1:=hg1.cell e1 (by simp)
      have k2:(wr.alloc (.cells (zl (a,x)).toArray 176)).cell? ⟨wr.heap.size,0,none⟩=some (.int .i64 a):=(zf (heap_alloc_new _ _) 0).trans rfl;have k4:=heap_alloc_new wr (.cells (zl (a,x)).toArray 176);have HG1:=zd hg1;have hs1:wr.heap.size<(wr.alloc (.cells (zl (a,x)).toArray 176)).heap.size:=by simp
      clear hg1;generalize wr.alloc (.cells (zl (a,x)).toArray 176)=w1 at *;refine qH (S:=λw':World=>w'.cell? ⟨db,1,none⟩=some (.map (some sb))∧w'.cell? ⟨wr.heap.size,0,none⟩=some (.int .i64 a)∧yg w' sb (Value.int .i64) vm ST) ⟨k1,k2,HST.out.kept (zj HG1.out) (by simp)⟩ (λhHeld=>?_)
      refine qT 0 ?_;refine qT 1 ?_;refine qT 2 ?_;refine qT 3 ?_;refine qT 4 ?_;refine qT 5 ?_;refine qT 6 ?_ (v:=.agg (zg Y).toArray) (he:=λw hSw=>Uz (vx:=.map (some sb)) (vy:=.int .i64 a) _ _ rfl rfl rfl (by have h5:=hSw.2.2.lookup zac Tryz.underlying164 (Yf w) a false;rw[h5];rw[←HY.out];cases zw ST a <;> rfl))
      refine qO 7 λK hK=>?_
      refine ui rfl (Yk 174 rfl Yf) ?_;have hg5:=ze w1.drew (.cells (vm zr).cells 174) none;refine hK.out _ _ ⟨hg5.cell hHeld.1 (by simp),hg5.cell hHeld.2.1 (by simp),hHeld.2.2.kept hg5 (by simp)⟩ (λhHeld=>?_)
      clear hK K;refine qO 8 λK hK=>?_
      refine uq rfl (jt 174 _ _ rfl _ (zg Y).toArray _ rfl rfl (blkI HYL.out.1) (blkE xt HYL.out.1) (blkA _)) ?_;have hg6:=ze w1.drew (.cells (zg Y).toArray 174) none;refine hK.out _ _ ⟨hg6.cell k1 (by simp),hg6.cell k2 (by simp),yg.kept (HST.out.kept (zj HG1.out) (by simp)) hg6 (by simp)⟩ (λhHeld=>?_)
      clear hK K;refine qD ?_;have m1:=hg6.cell k1 (by simp)
      have m2:=hg6.cell k2 (by simp)
      have m4:(w1.drew.alloc (.cells (zg Y).toArray 174)).heap[wr.heap.size]? = some (.cells (zl (a,x)).toArray 176 (0,0)):=(hg6.block _ hs1 (by simp)).trans k4
      have m5:=heap_alloc_new w1.drew (.cells (zg Y).toArray 174);have HG2:Hid (wr.grownBy (w1.drew.alloc (.cells (zg Y).toArray 174)) none):=(zp (zj HG1.out) _);have hs3:wr.heap.size<w1.drew.heap.size:=hs1;clear hHeld hg5 hg6 k1 k2 k4;generalize hbb:w1.drew.heap.size=bb at *;have m5':=m5;clear m5;generalize w1.drew.alloc (.cells (zg Y).toArray 174)=w2 at *;clear hbb
      go_upto_region 12 with fail
      refine qH (S:=λw':World=>True) trivial (λhHeld=>?_)
      refine qT 0 ?_;refine qT 1 ?_;refine qT 2 ?_;refine qT 3 ?_;refine qO 4 λK hK=>?_
      refine step_copy_splice rfl _ _ 32 32 rfl 5 Tryz.underlying32 (by kernel_rfl) (some ⟨bb,0,none⟩) (some ⟨wr.heap.size,1,none⟩) fn 256 256 256 rfl rfl bb 0 (zg Y) 174 m5' ((zg x).take fn) (by rw[List.length_take,zu,HXL.out.1];try exact Nat.min_comm _ _) (λ_=>⟨rfl,_,rfl,λj v hv=>by rw[Addr.add_mid];exact Xz (x:=(a,x)) m4 j v (za0 hv)⟩) (by rw[List.length_take,zu,zu,HXL.out.1,HYL.out.1];omega) (λv hv=>qt x v (List.mem_of_mem_take hv)) bb w2.drew (Below.refl _ _) (Nat.le_refl _) ?_
      intro w3 hq hbel;refine hK.out _ _ trivial (λhHeld=>?_)
      clear hK K;refine qD ?_;have n5:w3.heap[bb]? = some (.cells (zg Z).toArray 174 (0,0)):=by rw[←HZ.out];exact hq.out
      have hgr:wr.grownBy w3 none:=⟨hbel.os.trans HG2.out.os,hbel.tape.trans HG2.out.tape,hbel.output.trans HG2.out.output,Nat.le_trans HG2.out.size hbel.size,λk hk _=>(hbel.block k (by omega)).trans (HG2.out.block k hk (by simp))⟩
      have n1:=hgr.cell e1 (by simp)
      have n2:w3.cell? ⟨wr.heap.size,0,none⟩=some (.int .i64 a):=(World.cell?_of_block (hbel.block wr.heap.size hs3)).trans m2;have HG3:=zd hgr;clear hq hbel hgr m1 m2 m4 m5'
      go_upto_region 13 with fail
      refine qH (S:=λw':World=>w'.cell? ⟨db,1,none⟩=some (.map (some sb))∧w'.cell? ⟨wr.heap.size,0,none⟩=some (.int .i64 a)∧w'.heap[bb]? = some (.cells (zg Z).toArray 174 (0,0))) ⟨n1,n2,n5⟩ (λhHeld=>?_)
      refine qT 0 ?_;refine qT 1 ?_;refine qT 2 ?_;refine qT 3 ?_;refine qT 4 ?_;refine qT 5 ?_;refine qY 6 ?_ (v:=.agg (zg Z).toArray) (hy:=yieldsIf_load_mid (by rfl) 174 _ rfl bb 0 rfl (zg Z) _ (λw hSw=>Qu hSw.2.2) Tryz.underlying174 rfl (by rw[zu,HZL.out.1];exact zab))
      refine qO 7 λK hK=>?_
      obtain⟨w4,hr4,hm4,hg4,-⟩:=yg.update zac Tryz.underlying164 (HST.out.kept (zj HG3.out) (by simp)) a Z
      refine uq rfl (Xw _ _ _ rfl rfl rfl rfl hr4) ?_;have HR:=zd (HMX.out w3.drew w4 (zj HG3.out) hm4 hg4);have q1:=(show w4.cell? ⟨db,1,none⟩=some (.map (some sb)) from (zf HR.out.1.box 1).trans rfl)
      have q2:=hg4.cell (row:=some sb) n2 (by simp;omega)
      have q5:=(hg4.block bb (Array.getElem?_eq_some_iff.1 n5).1 (by simp;omega)).trans n5
      refine hK.out _ _ ⟨q1,q2,q5⟩ (λhHeld=>?_)
      clear hK K;refine qD ?_
      go_wp2_with fail
      go_roundw
      case rel=>exact⟨k+1,by omega,rfl,HR.out.1,HR.out.2⟩
      case measure=>simp[intOf];omega
    ·have hre:0=um fates k:=by simp[um,List.getElem?_eq_none (Nat.le_of_not_lt hkf)]
     obtain⟨Z,hZ⟩:∃Z,Z=vq 0 x Y:=⟨_,rfl⟩;have hzl:=zc0 HXL.out HYL.out 0;have hzs:=Jr HXL.out.1 HYL.out.1 0;have HMX:Hid (∀(w3 w4:World),wr.grownBy w3 none→yg w4 sb (Value.int .i64) vm (yo ST a Z)→w3.grownBy w4 (some sb)→DAt own w4 db sb nb (.slice (some ⟨lg,0,none⟩) nl cap0) (d.onK fates (k+1))∧zm (λk=>¬own k) W w4):=(λw3 w4 hg hm hg4=>HRE1.out 0 hre w4 (by have:=HMX1.out Z w3 w4 (by rw[hZ];exact hzl) hg hm hg4;rw[hZ] at this;exact this))
     rw[←hZ] at hzl hzs;have HZL:=zd hzl;have HZ:=zd hzs;clear hZ hzl hzs hre HMX1 HRE1
     go_upto_region 11 with (first|(refine wpList_load_mid rfl 176 _ rfl lg (k*257) rfl (zl (a,x)) _ HRG.out Tryz.underlying176 rfl (by rw[qi (x:=(a,x)) HXL.out.1];exact Qb) ?_)|(refine un rfl 176 rfl (zey (0,zr)) zbc (zl (0,zr)).toArray rfl ?_)|(refine uf rfl 176 _ _ rfl _ (zl (a,x)).toArray _ rfl rfl (zll (x:=(a,x)) HXL.out.1) (zlk (x:=(0,zr)) (y:=(a,x)) xt HXL.out.1) (zlj _) ?_))
     have hg1:wr.grownBy (wr.alloc (.cells (zl (a,x)).toArray 176)) none:=ze _ _ none;have k1:=hg1.cell e1 (by simp)
     have k2:(wr.alloc (.cells (zl (a,x)).toArray 176)).cell? ⟨wr.heap.size,0,none⟩=some (.int .i64 a):=(zf (heap_alloc_new _ _) 0).trans rfl;have k4:=heap_alloc_new wr (.cells (zl (a,x)).toArray 176);have HG1:=zd hg1;have hs1:wr.heap.size<(wr.alloc (.cells (zl (a,x)).toArray 176)).heap.size:=by simp
     clear hg1;generalize wr.alloc (.cells (zl (a,x)).toArray 176)=w1 at *;refine qH (S:=λw':World=>w'.cell? ⟨db,1,none⟩=some (.map (some sb))∧w'.cell? ⟨wr.heap.size,0,none⟩=some (.int .i64 a)∧yg w' sb (Value.int .i64) vm ST) ⟨k1,k2,HST.out.kept (zj HG1.out) (by simp)⟩ (λhHeld=>?_)
     refine qT 0 ?_;refine qT 1 ?_;refine qT 2 ?_;refine qT 3 ?_;refine qT 4 ?_;refine qT 5 ?_;refine qT 6 ?_ (v:=.agg (zg Y).toArray) (he:=λw hSw=>Uz (vx:=.map (some sb)) (vy:=.int .i64 a) _ _ rfl rfl rfl (by have h5:=hSw.2.2.lookup zac Tryz.underlying164 (Yf w) a false;rw[h5];rw[←HY.out];cases zw ST a <;> rfl))
     refine qO 7 λK hK=>?_
     refine ui rfl (Yk 174 rfl Yf) ?_;have hg5:=ze w1.drew (.cells (vm zr).cells 174) none;refine hK.out _ _ ⟨hg5.cell hHeld.1 (by simp),hg5.cell hHeld.2.1 (by simp),hHeld.2.2.kept hg5 (by simp)⟩ (λhHeld=>?_)
     clear hK K;refine qO 8 λK hK=>?_
     refine uq rfl (jt 174 _ _ rfl _ (zg Y).toArray _ rfl rfl (blkI HYL.out.1) (blkE xt HYL.out.1) (blkA _)) ?_;have hg6:=ze w1.drew (.cells (zg Y).toArray 174) none;refine hK.out _ _ ⟨hg6.cell k1 (by simp),hg6.cell k2 (by simp),yg.kept (HST.out.kept (zj HG1.out) (by simp)) hg6 (by simp)⟩ (λhHeld=>?_)
     clear hK K;refine qD ?_;have m1:=hg6.cell k1 (by simp)
     have m2:=hg6.cell k2 (by simp)
     have m4:(w1.drew.alloc (.cells (zg Y).toArray 174)).heap[wr.heap.size]? = some (.cells (zl (a,x)).toArray 176 (0,0)):=(hg6.block _ hs1 (by simp)).trans k4
     have m5:=heap_alloc_new w1.drew (.cells (zg Y).toArray 174);have HG2:Hid (wr.grownBy (w1.drew.alloc (.cells (zg Y).toArray 174)) none):=(zp (zj HG1.out) _);have hs3:wr.heap.size<w1.drew.heap.size:=hs1;clear hHeld hg5 hg6 k1 k2 k4;generalize hbb:w1.drew.heap.size=bb at *;have m5':=m5;clear m5;generalize w1.drew.alloc (.cells (zg Y).toArray 174)=w2 at *;clear hbb
     go_upto_region 12 with fail
     refine qH (S:=λw':World=>True) trivial (λhHeld=>?_)
     refine qT 0 ?_;refine qT 1 ?_;refine qT 2 ?_;refine qT 3 ?_;refine qO 4 λK hK=>?_
     refine step_copy_splice rfl _ _ 32 32 rfl 5 Tryz.underlying32 (by kernel_rfl) (some ⟨bb,0,none⟩) (some ⟨wr.heap.size,1,none⟩) 0 256 256 256 rfl rfl bb 0 (zg Y) 174 m5' ((zg x).take 0) (by rw[List.length_take,zu,HXL.out.1];try exact Nat.min_comm _ _) (λ_=>⟨rfl,_,rfl,λj v hv=>by rw[Addr.add_mid];exact Xz (x:=(a,x)) m4 j v (za0 hv)⟩) (by rw[List.length_take,zu,zu,HXL.out.1,HYL.out.1];omega) (λv hv=>qt x v (List.mem_of_mem_take hv)) bb w2.drew (Below.refl _ _) (Nat.le_refl _) ?_
     intro w3 hq hbel;refine hK.out _ _ trivial (λhHeld=>?_)
     clear hK K;refine qD ?_;have n5:w3.heap[bb]? = some (.cells (zg Z).toArray 174 (0,0)):=by rw[←HZ.out];exact hq.out
     have hgr:wr.grownBy w3 none:=⟨hbel.os.trans HG2.out.os,hbel.tape.trans HG2.out.tape,hbel.output.trans HG2.out.output,Nat.le_trans HG2.out.size hbel.size,λk hk _=>(hbel.block k (by omega)).trans (HG2.out.block k hk (by simp))⟩
     have n1:=hgr.cell e1 (by simp)
     have n2:w3.cell? ⟨wr.heap.size,0,none⟩=some (.int .i64 a):=(World.cell?_of_block (hbel.block wr.heap.size hs3)).trans m2;have HG3:=zd hgr;clear hq hbel hgr m1 m2 m4 m5'
     go_upto_region 13 with fail
     refine qH (S:=λw':World=>w'.cell? ⟨db,1,none⟩=some (.map (some sb))∧w'.cell? ⟨wr.heap.size,0,none⟩=some (.int .i64 a)∧w'.heap[bb]? = some (.cells (zg Z).toArray 174 (0,0))) ⟨n1,n2,n5⟩ (λhHeld=>?_)
     refine qT 0 ?_;refine qT 1 ?_;refine qT 2 ?_;refine qT 3 ?_;refine qT 4 ?_;refine qT 5 ?_;refine qY 6 ?_ (v:=.agg (zg Z).toArray) (hy:=yieldsIf_load_mid (by rfl) 174 _ rfl bb 0 rfl (zg Z) _ (λw hSw=>Qu hSw.2.2) Tryz.underlying174 rfl (by rw[zu,HZL.out.1];exact zab))
     refine qO 7 λK hK=>?_
     obtain⟨w4,hr4,hm4,hg4,-⟩:=yg.update zac Tryz.underlying164 (HST.out.kept (zj HG3.out) (by simp)) a Z
     refine uq rfl (Xw _ _ _ rfl rfl rfl rfl hr4) ?_;have HR:=zd (HMX.out w3.drew w4 (zj HG3.out) hm4 hg4);have q1:=(show w4.cell? ⟨db,1,none⟩=some (.map (some sb)) from (zf HR.out.1.box 1).trans rfl)
     have q2:=hg4.cell (row:=some sb) n2 (by simp;omega)
     have q5:=(hg4.block bb (Array.getElem?_eq_some_iff.1 n5).1 (by simp;omega)).trans n5
     refine hK.out _ _ ⟨q1,q2,q5⟩ (λhHeld=>?_)
     clear hK K;refine qD ?_
     go_wp2_with fail
     go_roundw
     case rel=>exact⟨k+1,by omega,rfl,HR.out.1,HR.out.2⟩
     case measure=>simp[intOf];omega
   ·have hkn2:k=d.late.length:=by omega
    subst hkn2;have HFIN:Hid (∀w1,yg w1 wr.heap.size (Value.int .i64) vm (d.onK fates d.late.length).st→wr.grownBy w1 none→uk own W db (d.on fates) (.tuple #[]) (.returned (.tuple #[])) (((w1.setCell ⟨db,6,none⟩ (.bool false)).setCell ⟨db,3,none⟩ (.slice none 0 0)).setCell ⟨db,2,none⟩ (.map (some wr.heap.size)))):=(λw1 hm hg=>by
     have hq:=hD.over hm hg (Nat.le_refl _);have e:{ d.onK fates d.late.length with now:=(d.onK fates d.late.length).st,late:=[],off:=false }=d.on fates:=by
      unfold Dk.onK Dk.on;rw[if_pos ho,List.take_length]
     rw[e] at hq
     exact⟨rfl,⟨_,_,_,hq.1⟩,hT.trans hq.2⟩)
    have HC:=zd (zpa hD.st);have hfz:∀(w1:World),wr.grownBy w1 none→(w1.frozen? ⟨db,6,none⟩=false∧w1.frozen? ⟨db,3,none⟩=false∧w1.frozen? ⟨db,2,none⟩=false):=λw1 hg=>by
     have hb:=(hg.block db hD.dlt (by simp)).trans hD.box
     refine⟨?_,?_,?_⟩ <;> simp[World.frozen?,hb]
    have HFZ:=zd hfz;have hwl:=hD.dlt;clear hD hT hfz;generalize (d.onK fates d.late.length).st=ST at *;generalize uk own W db (d.on fates) (.tuple #[])=PP at *
    go_wp2_with (go_at_call 104;refine HC.out.mono ?_;rintro e w1 ⟨rfl,hm,hg,-⟩;obtain⟨z6,z3,z2⟩:=HFZ.out w1 hg;have g6:=hg.cell e6 (by simp);have g3:=hg.cell e3 (by simp);have g2:=hg.cell e2 (by simp);have HF2:=zd (HFIN.out w1 hm hg);clear hm hg)
    first|exact HF2.out|((first|go_end0|refine bodyPost_ret (results_none rfl _ _ _) rfl ?_);exact HF2.out)
end
end Go.Proofs.YtbcbhlfjgobejaaGreat
