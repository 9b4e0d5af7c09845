/- A store in memory: Put: the walk. Conditions: none, or as the theorems say. -/
import Derived.Test.YtbcbhlfjgobejaaGreatI1
import Derived.Test.YtbcbhlfjgobejaaGreatI16
import Derived.Test.YtbcbhlfjgobejaaGreatI17
set_option linter.unusedSimpArgs false
set_option linter.unusedVariables false
namespace Go.Proofs.YtbcbhlfjgobejaaGreat
set_option maxHeartbeats 200000000
open Go.RowKit Go.Sf
theorem zni (w:World):(zeroValue 138).run Tryz.prog w = .ok (.agg #[.int .i64 0,.int .i64 0,.int .i64 0,.slice none 0 0]) w:=by kernel_rfl
theorem Xe:(Tryz.prog.info? 3).map (fun i=>(i.zero,i.size,i.bytes))=some (some (.int .i64 0),1,8):=by kernel_rfl
def yn (t:List Bool) (n j:Nat):List Nat:=((List.range j).filter fun i=>t[i]? == some false).take n
theorem zjw {t:List Bool} {n j:Nat} (h:t[j]? = some false) (hl:(yn t n j).length<n):yn t n (j+1)=yn t n j ++ [j]:=by
 unfold yn at *;rw[List.range_succ,List.filter_append];simp only[List.filter_cons,h,beq_self_eq_true,if_true,List.filter_nil];rw[List.length_take] at hl;rw[List.take_append,List.take_of_length_le (by omega)]
 congr 1
 rw[List.take_of_length_le (by simp;omega)]
theorem zhr {t:List Bool} {n j:Nat} (hl:¬(yn t n j).length<n):yn t n (j+1)=yn t n j:=by
 unfold yn at *;rw[List.length_take] at hl;rw[List.range_succ,List.filter_append,List.take_append_of_le_length (by omega)]
theorem zlx {t:List Bool} {n j:Nat} (h:t[j]? = some true):yn t n (j+1)=yn t n j:=by
 unfold yn;rw[List.range_succ,List.filter_append];simp[h]
theorem zdd (t:List Bool) (n j:Nat):(yn t n j).length≤n∧(yn t n j).length≤j:=by
 unfold yn;rw[List.length_take];have:=List.length_filter_le (fun i=>t[i]? == some false) (List.range j)
 rw[List.length_range] at this;omega
theorem zbo {t:List Bool} {n j i:Nat} (h:i∈yn t n j):i<j∧t[i]? = some false:=by
 have h1:=List.mem_of_mem_take h;rw[List.mem_filter] at h1
 exact⟨List.mem_range.1 h1.1,by simpa using h1.2⟩
theorem Vm (t:List Bool) (n j:Nat):(yn t n j).Nodup:=List.Nodup.sublist ((List.take_sublist _ _).trans List.filter_sublist) List.nodup_range
def Dk.writes:Dk→List (Nat × List Int)→Dk × Int
 | d,[]=>(d,0)
 | d,w :: r=>if d.writeV w.1 w.2=0 then (d.written w.1 w.2).writes r else (d.written w.1 w.2,d.writeV w.1 w.2)
def Sto.next1 (S:Sto):Sto:={ S with next:=S.next+1 }
def Sto.put (S:Sto) (b:List Int):Sto × Int × Int:=
 if S.broken≠0 then (S,0,S.broken)
 else if 131072<b.length∨4611686018427387904<S.next then (S,0,3)
 else if (yn S.taken (zt b.length) S.taken.length).length<zt b.length then (S,0,181)
 else if (S.d.writes (xu ya S.next b (yn S.taken (zt b.length) S.taken.length))).2≠0 then (S.did (S.d.writes (xu ya S.next b (yn S.taken (zt b.length) S.taken.length))).1 (S.d.writes (xu ya S.next b (yn S.taken (zt b.length) S.taken.length))).2,0,(S.d.writes (xu ya S.next b (yn S.taken (zt b.length) S.taken.length))).2)
 else if (S.d.writes (xu ya S.next b (yn S.taken (zt b.length) S.taken.length))).1.syncV≠0 then (S.did (S.d.writes (xu ya S.next b (yn S.taken (zt b.length) S.taken.length))).1.synced (S.d.writes (xu ya S.next b (yn S.taken (zt b.length) S.taken.length))).1.syncV,0,(S.d.writes (xu ya S.next b (yn S.taken (zt b.length) S.taken.length))).1.syncV)
 else ((Sto.kept { S with d:=(S.d.writes (xu ya S.next b (yn S.taken (zt b.length) S.taken.length))).1.synced } S.next b (yn S.taken (zt b.length) S.taken.length)).next1,S.next,0)
def vj (own:Nat→Prop) (W:World) (st db:Nat) (S:Sto) (b:List Int) (e:Ending) (w':World):Prop:=
 e = .returned (.tuple #[.int .i64 (S.put b).2.1,.int .i64 (S.put b).2.2])∧Zc own w' st db (S.put b).1∧zq (fun k=>¬own k) W w'
theorem zht {W w w9:World} {o:Obj} {e:TypeId} {size n:Nat} {v:Value} {xs:List Value} (h:W.grownBy w none) (hr:w.ownsRow W.heap.size e size v n xs) (hg:(w.alloc o).grownBy w9 v.ownBlock):W.grownBy w9 none:=by
 have ha:=zg w o none;have hs:=h.size;have hs2:=ha.size;refine⟨hg.os.trans (ha.os.trans h.os),hg.tape.trans (ha.tape.trans h.tape),hg.output.trans (ha.output.trans h.output),Nat.le_trans hs (Nat.le_trans hs2 hg.size),fun k hk _=>?_⟩
 rw[hg.block k (by omega) (fun e=>by have:=(hr.lt k e.symm).1;omega),ha.block k (by omega) (by simp),h.block k hk (by simp)]
theorem zkq {w:World} {base:Nat} {e:TypeId} {v:Value} {cs:List Value} (h:w.ownsRow base e 1 v cs.length cs) (h0:0<cs.length):∃g cap,v = .slice (some ⟨g,0,none⟩) cs.length cap∧base≤g∧g<w.heap.size∧ye (fun k=>k=g) w v cs:=by
 have hlt:=@World.ownsRow.lt _ _ _ _ _ _ _ h;have hc:=fun g=>@World.ownsRow.cells _ _ _ _ _ _ _ h g
 rcases h.2 with ⟨h1,h2⟩|⟨g,cap,cur,rfl,hbg,hg,hnc,hcm,hcs,htake⟩
 ·rw[h2] at h0;exact absurd h0 (by omega)
 ·obtain⟨l1,l2⟩:=hlt g rfl
  refine⟨g,cap,rfl,l1,l2,some ⟨g,0,none⟩,cap,rfl,hnc,by unfold maxLen at hcm;omega,Or.inr ⟨_,rfl,rfl,fun j u hu=>hc g rfl j u hu⟩⟩
section
variable {own : Nat → Prop} {W W' : World} {st db mb tb : Nat} {rv : Int → Value × Value} {rb : Nat → Prop} {S : Sto}
theorem zba {w:World} {base:Nat} {e:TypeId} {v:Value} {cs:List Value} (h:w.ownsRow base e 1 v cs.length cs):ye (fun k=>v.ownBlock=some k) w v cs∧∀k,v.ownBlock=some k→base≤k∧k<w.heap.size:=by
 have hlt:=@World.ownsRow.lt _ _ _ _ _ _ _ h;have hc:=fun g=>@World.ownsRow.cells _ _ _ _ _ _ _ h g
 refine⟨?_,fun k hk=>hlt k hk⟩
 rcases h.2 with ⟨h1,h2⟩|⟨g,cap,cur,rfl,hbg,hg,hnc,hcm,hcs,htake⟩
 ·subst h1
  have h0:cs = []:=by cases cs with
   | nil=>rfl
   | cons a t=>simp at h2
  subst h0
  exact⟨none,0,rfl,by simp,by omega,Or.inl rfl⟩
 ·exact⟨some ⟨g,0,none⟩,cap,rfl,hnc,by unfold maxLen at hcm;omega,Or.inr ⟨_,rfl,rfl,fun j u hu=>hc g rfl j u hu⟩⟩
theorem SAt.shift {g:Nat} (h:SAt (fun k=>own k∨k=g) W st db mb tb rv rb S) (hg:¬own g):SAt own W st db mb tb rv (fun k=>rb k∨k=g) S:=by
 refine⟨h.box,h.recs,fun r hr=>⟨(h.rows r hr).1.mono fun k hk=>Or.inl hk,(h.rows r hr).2.mono fun k hk=>Or.inl hk⟩,h.tak,h.disk.less fun k hk=>?_,fun k hk=>?_,fun k hk=>?_,h.ok⟩
 ·rcases hk with e|e|e|e|e|e
  ·exact Or.inl (Or.inl e)
  ·exact Or.inr (Or.inl e)
  ·exact Or.inr (Or.inr (Or.inl e))
  ·exact Or.inr (Or.inr (Or.inr (Or.inl e)))
  ·exact Or.inr (Or.inr (Or.inr (Or.inr e)))
  ·exact Or.inl (Or.inr e)
 ·obtain⟨a1,a2,a3,a4⟩:=h.away k (Or.inl hk)
  exact⟨a1,a2,a3,fun e=>e.elim a4 (fun e=>hg (e ▸ hk))⟩
 ·rcases hk with e|e
  ·exact h.rbs k e
  ·obtain⟨a1,a2,a3,_⟩:=h.away k (Or.inr e)
   exact⟨a1,a2,a3⟩
theorem zlc {d:Dk} {ws:List (Nat × List Int)} {dj:Dk} {j i:Nat} {x:List Int} (h:d.writes ws=dj.writes (ws.drop j)) (hw:ws[j]? = some (i,x)) :
  (dj.writeV i x=0→d.writes ws=(dj.written i x).writes (ws.drop (j+1)))∧(dj.writeV i x≠0→d.writes ws=(dj.written i x,dj.writeV i x)):=by
 have hj:=(List.getElem?_eq_some_iff.1 hw);obtain⟨hj1,hj2⟩:=hj;rw[List.drop_eq_getElem_cons hj1,hj2] at h;rw[h];unfold Dk.writes;refine⟨fun e=>?_,fun e=>?_⟩
 ·rw[if_pos e];rw[←Dk.writes.eq_def]
 ·rw[if_neg e]
theorem Xw (d:Dk) (i:Int) (x:List Int):(d.written i x).late.length≤d.late.length+1:=by
 unfold Dk.written
 split
 ·omega
 ·split <;> simp[Dk.went,Dk.gone,Dk.lay]
theorem mid_row {own:Nat→Prop} {W:World} {p:Option Addr} {cap lo hi:Nat} {b:List Int} (h:ye own W (.slice p b.length cap) (zi b)) (hh:hi≤b.length) (hlo:lo≤hi) {q:Option Addr} (hq:hi-lo≠0→q=p.map (fun x=>x.add lo)) {c:Nat}:yc W (.slice q (hi-lo) c) ((b.drop lo).take (hi-lo)):=by
 obtain⟨p',cap',e,h1,h2,h3⟩:=h.ex
 injection e with e1 _ e2
 subst e1 e2;have hl:((b.drop lo).take (hi-lo)).length=hi-lo:=by rw[List.length_take,List.length_drop];omega
 refine⟨q,c,by rw[hl],?_⟩
 rcases Nat.eq_zero_or_pos (hi-lo) with h0|h0
 ·left;rw[h0];simp
 ·rcases h3 with h3|⟨x,rfl,hb2,h4⟩
  ·exfalso
   have:b.length=0:=by have:=congrArg List.length h3;simpa[zi] using this
   omega
  ·right
   rw[hq (by omega)]
   refine⟨x.add lo,rfl,fun j u hu=>?_⟩
   rw[Addr.add_add];refine h4 (lo+j) u ?_;rw[zi,List.map_take,List.map_drop] at hu;have hj:j<hi-lo:=by
    rcases Nat.lt_or_ge j (hi-lo) with h|h
    ·exact h
    ·rw[List.getElem?_eq_none (by rw[List.length_take];omega)] at hu;cases hu
   rw[List.getElem?_take_of_lt hj,List.getElem?_drop] at hu
   exact hu
set_option maxRecDepth 100000 in
theorem zgv (h:SAt own W st db mb tb rv rb S) {p:Option Addr} {cap:Nat} {b:List Int} (hbl:b.length≤100000000) (hb:S.broken≠0):Calls Tryz.prog 20 #[.pointer (some ⟨st,0,none⟩),.slice p b.length cap] W (vj own W st db S b):=by
 have HBR:=zd (Qx h);have HQ:Hid (vj own W st db S b (.returned (.tuple #[.int .i64 0,.int .i64 S.broken])) W):=(show vj _ _ _ _ _ _ _ _ from by
  have er:S.put b=(S,0,S.broken):=by unfold Sto.put;rw[if_pos hb]
  unfold vj;rw[er]
  exact⟨rfl,⟨_,_,_,_,h⟩,zq.refl _ _⟩)
 obtain⟨c0,c1,c2,c3,c4,y⟩:=h.cells;clear h;generalize vj own W st db S b=PP at *;generalize S.broken=br at *
 go_enter Tryz.func20,Tryz.ntmps20
 go_wp2_with (go_at_call 46;refine HBR.out.mono ?_;rintro e w1 ⟨rfl,h5⟩;obtain rfl:W=w1:=h5.symm)
 first|exact HQ.out|(go_ret2;exact HQ.out)
set_option maxRecDepth 100000 in
theorem zim (h:SAt own W st db mb tb rv rb S) {p:Option Addr} {cap:Nat} {b:List Int} (hbl:b.length≤100000000) (hb:S.broken=0) (hl:131072<b.length):Calls Tryz.prog 20 #[.pointer (some ⟨st,0,none⟩),.slice p b.length cap] W (vj own W st db S b):=by
 have HBR:=zd (Qx h);have HQ:Hid (vj own W st db S b (.returned (.tuple #[.int .i64 0,.int .i64 3])) W):=(show vj _ _ _ _ _ _ _ _ from by
  have er:S.put b=(S,0,3):=by unfold Sto.put;rw[if_neg (by simp[hb]),if_pos (Or.inl hl)]
  unfold vj;rw[er]
  exact⟨rfl,⟨_,_,_,_,h⟩,zq.refl _ _⟩)
 obtain⟨c0,c1,c2,c3,c4,y⟩:=h.cells;clear h;generalize vj own W st db S b=PP at *;rw[hb] at HBR
 go_enter Tryz.func20,Tryz.ntmps20
 go_wp2_with (go_at_call 46;refine HBR.out.mono ?_;rintro e w1 ⟨rfl,h5⟩;obtain rfl:W=w1:=h5.symm)
 first|exact HQ.out|(go_ret2;exact HQ.out)
set_option maxRecDepth 100000 in
theorem zk5 (h:SAt own W st db mb tb rv rb S) {p:Option Addr} {cap:Nat} {b:List Int} (hbl:b.length≤100000000) (hb:S.broken=0) (hl:¬131072<b.length) (hn:4611686018427387904<S.next):Calls Tryz.prog 20 #[.pointer (some ⟨st,0,none⟩),.slice p b.length cap] W (vj own W st db S b):=by
 have HBR:=zd (Qx h);have HQ:Hid (vj own W st db S b (.returned (.tuple #[.int .i64 0,.int .i64 3])) W):=(show vj _ _ _ _ _ _ _ _ from by
  have er:S.put b=(S,0,3):=by unfold Sto.put;rw[if_neg (by simp[hb]),if_pos (Or.inr hn)]
  unfold vj;rw[er]
  exact⟨rfl,⟨_,_,_,_,h⟩,zq.refl _ _⟩)
 obtain⟨c0,c1,c2,c3,c4,y⟩:=h.cells;clear h;generalize vj own W st db S b=PP at *;rw[hb] at HBR
 go_enter Tryz.func20,Tryz.ntmps20
 go_wp2_with (go_at_call 46;refine HBR.out.mono ?_;rintro e w1 ⟨rfl,h5⟩;obtain rfl:W=w1:=h5.symm)
 first|exact HQ.out|(go_ret2;exact HQ.out)
set_option maxRecDepth 100000 in
theorem zk4 (h:SAt own W st db mb tb rv rb S) {v:Value} {b:List Int} (hv:ye own W v (zi b)) (hbb:BL b) (hb:S.broken=0) (hl:b.length≤131072) (hn:S.next≤4611686018427387904) (hf:S.d.late.length+600<1000000):Calls Tryz.prog 20 #[.pointer (some ⟨st,0,none⟩),v] W (vj own W st db S b):=by
 have HBR:=zd (Qx h);rw[hb] at HBR;obtain⟨i0,hi,hz0,hz1,hz2⟩:=info_parts Xe;obtain⟨p,cap,rfl,hcap,hcap2,hpc⟩:=hv.ex;generalize hnn:(zi b).length=nb at *;obtain rfl:nb=b.length:=by rw[←hnn,zr]
 have HPT:=zd (zf3 b.length (by omega))
 have hp0:=uq b.length;have hp1:zt b.length≤570:=by unfold zt;omega
 have htl:=h.taken_le;obtain⟨c0,c1,c2,c3,c4,y⟩:=h.cells;have HS:=zd h;have HTK:Hid (∀j x,S.taken[j]? = some x→W.cell? ⟨tb,j,none⟩=some (.bool x)):=(fun j x hx=>by rw[zh h.tak];simp[um,hx])
 have htlt:=h.tb_lt;have HPUT:Hid (S.put b=if (yn S.taken (zt b.length) S.taken.length).length<zt b.length then (S,0,181)
  else if (S.d.writes (xu ya S.next b (yn S.taken (zt b.length) S.taken.length))).2≠0 then (S.did (S.d.writes (xu ya S.next b (yn S.taken (zt b.length) S.taken.length))).1 (S.d.writes (xu ya S.next b (yn S.taken (zt b.length) S.taken.length))).2,0,(S.d.writes (xu ya S.next b (yn S.taken (zt b.length) S.taken.length))).2)
  else if (S.d.writes (xu ya S.next b (yn S.taken (zt b.length) S.taken.length))).1.syncV≠0 then (S.did (S.d.writes (xu ya S.next b (yn S.taken (zt b.length) S.taken.length))).1.synced (S.d.writes (xu ya S.next b (yn S.taken (zt b.length) S.taken.length))).1.syncV,0,(S.d.writes (xu ya S.next b (yn S.taken (zt b.length) S.taken.length))).1.syncV)
  else ((Sto.kept { S with d:=(S.d.writes (xu ya S.next b (yn S.taken (zt b.length) S.taken.length))).1.synced } S.next b (yn S.taken (zt b.length) S.taken.length)).next1,S.next,0)):=(show _=_ from by unfold Sto.put;rw[if_neg (by simp[hb]),if_neg (by omega)])
 have HV:=zd hv;clear h hv;generalize hPP:vj own W st db S b=PP at *;generalize hpn:zt b.length=n at *
 go_enter Tryz.func20,Tryz.ntmps20
 go_wp2_with (first
  | (go_at_call 46;refine HBR.out.mono ?_;rintro e w1 ⟨rfl,h5⟩;obtain rfl:W=w1:=h5.symm)
  | (go_at_call 15;refine(HPT.out _).mono ?_;rintro e w1 ⟨rfl,h5⟩;obtain rfl:W=w1:=h5.symm))
 go_loopw [8,40] (fun v i wr=>∃j:Nat,j≤S.taken.length∧i = .int .i64 j∧wr.ownsRow W.heap.size 3 1 v (yn S.taken n j).length (qp (yn S.taken n j))∧W.grownBy wr none) (fun _ i _=>S.taken.length-(intOf i).toNat)
 case atStart=>exact⟨0,Nat.zero_le _,rfl,by rw[show yn S.taken n 0 = [] from by simp[yn]];exact World.ownsRow_nil _ _ _ _,zm _⟩
 case round=>
  obtain⟨j,hj,rfl,ho,hg⟩:=hrel;obtain⟨pf,cf,rfl⟩:=jt ho;have hfl:=zdd S.taken n j
  by_cases hlt:j<S.taken.length
  ·obtain⟨x,hx⟩:∃x,S.taken[j]? = some x:=⟨_,List.getElem?_eq_getElem hlt⟩
   have hc:=hg.cell (HTK.out j x hx) (by simp)
   have HO:=zd ho;have HG:=zd hg;have hgs:=hg.size
   cases x
   ·by_cases hfn:(yn S.taken n j).length<n
    ·have HF:=zd (zjw hx hfn)
     clear ho hg hx;generalize yn S.taken n j=fl at *
     go_wp2_with (at_builtin;refine wpList_append_own _ rfl _ _ 44 rfl W.heap.size 3 i0 (.int .i64 0) 1 8 Tryz.underlying44 hi hz0 hz1 hz2 rfl (by decide) _ _ _ rfl (HO.out.alloc _) ⟨wr.heap.size,0,none⟩ 1 1 [.int .i64 j] rfl rfl ?c1 ?c2 ?c3 ?c4 ?c5 ?_)
     case c1=>
      intro q u hq
      match q,hq with
      | 0,hq=>simp at hq;subst hq;simp[Addr.add,go_sem]
      | q+1,hq=>simp at hq
     case c2=>intro u hu;simp at hu;subst hu;rfl
     case c3=>unfold maxLen;omega
     case c4=>omega
     case c5=>simp;omega
     intro v' w9 ho hg9 _;have HO9:Hid (w9.ownsRow W.heap.size 3 1 v' (yn S.taken n (j+1)).length (qp (yn S.taken n (j+1)))):=(show World.ownsRow _ _ _ _ _ _ _ from by
      rw[HF.out];simpa[qp] using ho)
     have HG9:Hid (W.grownBy w9 none):=(show World.grownBy _ _ _ from by
      exact zht HG.out HO.out hg9)
     clear ho hg9;go_wp2
     go_roundw
     case rel=>exact⟨j+1,by omega,by go_num,HO9.out,HG9.out⟩
     case measure=>simp[intOf];omega
    ·have HF:=zd (zhr (t:=S.taken) hfn)
     clear ho hg hx;generalize yn S.taken n j=fl at *;go_wp2
     go_roundw
     case rel=>exact⟨j+1,by omega,by go_num,by rw[HF.out];exact HO.out,HG.out⟩
     case measure=>simp[intOf];omega
   ·have HF:=zd (zlx (n:=n) hx)
    clear ho hg hx;generalize yn S.taken n j=fl at *;go_wp2
    go_roundw
    case rel=>exact⟨j+1,by omega,by go_num,by rw[HF.out];exact HO.out,HG.out⟩
    case measure=>simp[intOf];omega
  ·obtain rfl:j=S.taken.length:=by omega
   have hfr:∀i∈yn S.taken n S.taken.length,i<S.taken.length:=fun i hi=>(zbo hi).1
   have hnd:=Vm S.taken n S.taken.length;have HFR:=zd hfr;have HO:=zd ho;have HG:=zd hg;clear hfr hnd hg;generalize hfp:yn S.taken n S.taken.length=fr at *
   by_cases hfn:fr.length<n
   ·have HQ:Hid (PP (.returned (.tuple #[.int .i64 0,.int .i64 181])) wr):=(show PP _ _ from by
     rw[←hPP];unfold vj;rw[HPUT.out,if_pos hfn]
     exact⟨rfl,⟨_,_,_,_,HS.out.kept HG.out⟩,HG.out.os,HG.out.tape,HG.out.output,HG.out.size,fun k hk _=>HG.out.block k hk (by simp)⟩)
    clear HPUT;go_wp2
    first|exact HQ.out|(go_ret2;exact HQ.out)
   ·have hfe:fr.length=n:=by have:=hfl.1;omega
    subst hfe;have hpl:(qp fr).length=fr.length:=by simp[qp]
    rw[←hpl] at ho;obtain⟨fb,cfb,e8,hfb1,hfb2,hrow⟩:=zkq ho (by rw[hpl];omega)
    injection e8 with e8 _ e9
    subst e8 e9;rw[hpl] at hrow;generalize wr=wz at *;have hown:∀k,own k→k<W.heap.size:=fun k hk=>HS.out.own_lt hk
    have HS2:Hid (SAt (fun k=>own k∨k=fb) wz st db mb tb rv rb S):=(HS.out.owns HG.out (fun k hk=>hk.imp id (fun e=>by omega)) (fun k hk=>by
     rcases hk with e|e
     ·have:=hown k e;have:=HG.out.size;omega
     ·omega))
    have HROW:Hid (∀w',zq (fun k=>¬(own k∨k=fb)) wz w'→ye (fun k=>k=fb) w' (.slice (some ⟨fb,0,none⟩) fr.length cf) (qp fr)):=(fun w' ht=>hrow.turn fun k hk=>ht.block k (by omega) (fun e=>e (Or.inr hk)))
    have HB:Hid (∀w',zq (fun k=>¬(own k∨k=fb)) wz w'→ye own w' (.slice p b.length cap) (zi b)):=(fun w' ht=>(HV.out.turn fun k hk=>HG.out.block k (hown k hk) (by simp)).turn fun k hk=>ht.block k (Nat.lt_of_lt_of_le (hown k hk) HG.out.size) (fun e=>e (Or.inl hk)))
    have HTO:Hid (∀w',zq (fun k=>¬(own k∨k=fb)) wz w'→zq (fun k=>¬own k) W w'):=(fun w' ht=>zq.trans ⟨HG.out.os,HG.out.tape,HG.out.output,HG.out.size,fun k hk _=>HG.out.block k hk (by simp)⟩ (ht.mono fun k hk e=>hk (Or.inl e)))
    have hfb:¬own fb:=fun e=>by have:=hown fb e;omega
    have hft:fr.length≤570:=by omega
    have HPUT2:=HPUT.out;rw[if_neg (by omega)] at HPUT2
    have HP:=zd HPUT2;clear HPUT HPUT2 ho hrow hpc HV;go_wp2
    go_loopw [64] (fun i wr=>∃(j:Nat) (d:Dk),j≤fr.length∧i = .int .i64 j∧SAt (fun k=>own k∨k=fb) wr st db mb tb rv rb { S with d:=d }∧zq (fun k=>¬(own k∨k=fb)) wz wr∧Hid (S.d.writes (xu ya S.next b fr)=d.writes ((xu ya S.next b fr).drop j)∧d.late.length≤S.d.late.length+j)) (fun i _=>fr.length-(intOf i).toNat)
    case atStart=>exact⟨0,S.d,Nat.zero_le _,rfl,HS2.out,zq.refl _ _,⟨by rw[List.drop_zero],Nat.le_refl _⟩⟩
    case round=>
     obtain⟨j,d,hj,rfl,hD,hT,HW⟩:=hrel
     by_cases hjl:j<fr.length
     ·obtain⟨at_,hat⟩:∃x,fr[j]? = some x:=⟨_,List.getElem?_eq_getElem hjl⟩
      have hca:wr.cell? ⟨fb,j,none⟩=some (.int .i64 at_):=by
       obtain⟨p',cap',e,_,_,hc⟩:=(HROW.out _ hT).ex
       injection e with q1 _ _
       rcases hc with h0|⟨a,h1,_,h2⟩
       ·have:(qp fr).length=0:=by rw[h0];rfl
        omega
       ·rw[h1] at q1
        cases q1
        have:=h2 j _ (zf5 hat)
        rwa [Addr.add_mid,Nat.zero_add] at this
      obtain⟨e0,e1,e2,e3,e4,ey⟩:=hD.cells;have HD:=zd hD;have HT:=zd hT;have hbl2:b.length≤131072:=hl;have hpj:j*230≤b.length:=by
       have h1:j<zt b.length:=by omega
       unfold zt at h1;omega
      clear hD hT
      go_upto_region 19 with fail
      obtain⟨lo,hlo⟩:∃lo,lo=j*230:=⟨_,rfl⟩;obtain⟨l2,hl2⟩:∃l2,l2=(j+1)*230:=⟨_,rfl⟩;obtain⟨hi,hhi⟩:∃hi,hi=min b.length l2:=⟨_,rfl⟩;obtain⟨q,hq⟩:∃q,q=(if cap=lo then p else Option.map (fun x=>x.add lo) p):=⟨_,rfl⟩
      have hm1:IntKind.i64.wrap ((j:Int)*230)=(lo:Int):=by rw[IntKind.wrap_i64];omega
      have hm2:IntKind.i64.wrap ((j:Int)+1)=(j:Int)+1:=by rw[IntKind.wrap_i64];omega
      have hm3:IntKind.i64.wrap (((j:Int)+1)*230)=(l2:Int):=by rw[IntKind.wrap_i64];omega
      have hm4:(if l2<b.length then (l2:Int) else (b.length:Int))=(hi:Int):=by split <;> omega
      have hm5:hi≤cap∧lo≤hi:=by omega
      have HCH:Hid (∀w',zq (fun k=>¬(own k∨k=fb)) wz w'→∀c,yc w' (.slice q (hi-lo) c) (uc b j)):=(fun w' ht c=>by
       have:=mid_row (HB.out w' ht) (lo:=lo) (hi:=hi) (by omega) (by omega) (q:=q) (fun h0=>by rw[hq,if_neg (by omega)]) (c:=c)
       have e:uc b j=(b.drop lo).take (hi-lo):=by
        unfold uc;rw[←hlo]
        rcases Nat.le_total 230 (b.length-lo) with h1|h1
        ·rw[show hi-lo=230 by omega]
        ·rw[List.take_of_length_le (by rw[List.length_drop];omega),List.take_of_length_le (by rw[List.length_drop];omega)]
       rw[e];exact this)
      have hch:(uc b j).length=hi-lo:=by rw[Jo];omega
      have HLE:=zd (show hi-lo≤230 by omega)
      have HM1:=zd hm1;have HM2:=zd hm2;have HM3:=zd hm3;have HM4:=zd hm4;have HM5:=zd hm5;have HQ5:=zd hq;have HC5:=zd hch;clear hm1 hm2 hm3 hm4 hm5 hq hch hlo hl2 hhi hcap hpj;refine wp_region_held_drew (S:=fun w':World=>w'.cell? ⟨st,3,none⟩=some (.int .i64 S.next)∧True) (by kernel_rfl) ⟨e3,trivial⟩ (fun hHeld=>?_)
      refine tk (i:=0) (oi:=⟨some 69,Op.move (Operand.tmp 0),_,_,_,none⟩) (v:=?_) rfl hHeld ?_ ?_;rotate_left
      ·rintro w -;go_simp;try with_reducible rfl
      (try simp only[Act.put,za,zb,zc])
      refine tk (i:=1) (oi:=⟨some 70,Op.nilCheck (Operand.tmp 69),_,_,_,none⟩) (v:=?_) rfl hHeld ?_ ?_;rotate_left
      ·rintro w -;go_simp;try with_reducible rfl
      (try simp only[Act.put,za,zb,zc])
      refine tk (i:=2) (oi:=⟨some 71,Op.fieldAddr 132 (Operand.tmp 70) 3,_,_,_,none⟩) (v:=?_) rfl hHeld ?_ ?_;rotate_left
      ·rintro w -;go_simp;try with_reducible rfl
      (try simp only[Act.put,za,zb,zc])
      refine tk (i:=3) (oi:=⟨some 72,Op.load 2 (Operand.tmp 71),_,_,_,none⟩) (v:=?_) rfl hHeld ?_ ?_;rotate_left
      ·rintro w ⟨s1,-⟩;go_simp;try with_reducible rfl
      (try simp only[Act.put,za,zb,zc])
      refine tk (i:=4) (oi:=⟨some 73,Op.move (Operand.tmp 11),_,_,_,none⟩) (v:=?_) rfl hHeld ?_ ?_;rotate_left
      ·rintro w -;go_simp;try with_reducible rfl
      (try simp only[Act.put,za,zb,zc])
      refine tk (i:=5) (oi:=⟨some 74,Op.move (Operand.tmp 7),_,_,_,none⟩) (v:=?_) rfl hHeld ?_ ?_;rotate_left
      ·rintro w -;go_simp;try with_reducible rfl
      (try simp only[Act.put,za,zb,zc])
      refine tk (i:=6) (oi:=⟨some 75,Op.move (Operand.tmp 1),_,_,_,none⟩) (v:=?_) rfl hHeld ?_ ?_;rotate_left
      ·rintro w -;go_simp;try with_reducible rfl
      (try simp only[Act.put,za,zb,zc])
      refine tk (i:=7) (oi:=⟨some 76,Op.move (Operand.tmp 11),_,_,_,none⟩) (v:=?_) rfl hHeld ?_ ?_;rotate_left
      ·rintro w -;go_simp;try with_reducible rfl
      (try simp only[Act.put,za,zb,zc])
      refine tk (i:=8) (oi:=⟨some 77,Op.binOp BinOp.mul 3 (Operand.tmp 76) (Operand.const (Value.int IntKind.i64 230)) 3,_,_,_,none⟩) (v:=.int .i64 lo) rfl hHeld (fun w hSw=>by go_simp;first|done|(rw[HM1.out];done)|(simp only[HM1.out];done)) ?_
      (try simp only[Act.put,za,zb,zc])
      refine tk (i:=9) (oi:=⟨some 78,Op.move (Operand.tmp 1),_,_,_,none⟩) (v:=?_) rfl hHeld ?_ ?_;rotate_left
      ·rintro w -;go_simp;try with_reducible rfl
      (try simp only[Act.put,za,zb,zc])
      refine tk (i:=10) (oi:=⟨some 79,Op.call { callee:=Callee.builtin Builtin.len,args:=#[Operand.tmp 78],argTypes:=#[32] },_,_,_,none⟩) (v:=?_) rfl hHeld ?_ ?_;rotate_left
      ·rintro w -;go_simp;try with_reducible rfl
      (try simp only[Act.put,za,zb,zc])
      refine tk (i:=11) (oi:=⟨some 80,Op.move (Operand.tmp 11),_,_,_,none⟩) (v:=?_) rfl hHeld ?_ ?_;rotate_left
      ·rintro w -;go_simp;try with_reducible rfl
      (try simp only[Act.put,za,zb,zc])
      refine tk (i:=12) (oi:=⟨some 81,Op.binOp BinOp.add 3 (Operand.tmp 80) (Operand.const (Value.int IntKind.i64 1)) 3,_,_,_,none⟩) (v:=.int .i64 ((j:Int)+1)) rfl hHeld (fun w hSw=>by go_simp;first|done|(rw[HM2.out];done)|(simp only[HM2.out];done)) ?_
      (try simp only[Act.put,za,zb,zc])
      refine tk (i:=13) (oi:=⟨some 82,Op.binOp BinOp.mul 3 (Operand.tmp 81) (Operand.const (Value.int IntKind.i64 230)) 3,_,_,_,none⟩) (v:=.int .i64 l2) rfl hHeld (fun w hSw=>by go_simp;first|done|(rw[HM3.out];done)|(simp only[HM3.out];done)) ?_
      (try simp only[Act.put,za,zb,zc])
      refine tk (i:=14) (oi:=⟨some 83,Op.call { callee:=Callee.builtin Builtin.min,args:=#[Operand.tmp 79,Operand.tmp 82],argTypes:=#[3,3] },_,_,_,none⟩) (v:=.int .i64 hi) rfl hHeld (fun w hSw=>by go_simp;first|done|(rw[HM4.out];done)|(simp only[HM4.out];done)) ?_
      (try simp only[Act.put,za,zb,zc])
      refine tk (i:=15) (oi:=⟨some 84,Op.slice 32 (Operand.tmp 75) (some (Operand.tmp 77)) (some (Operand.tmp 83)) none,_,_,_,none⟩) (v:=.slice q (hi-lo) (cap-lo)) rfl hHeld (fun w hSw=>by go_simp;rw[if_pos HM5.out.1,if_pos HM5.out.2,HQ5.out]) ?_
      (try simp only[Act.put,za,zb,zc])
      refine tk (i:=16) (oi:=⟨some 85,Op.build 138 #[(0,Operand.tmp 72),(1,Operand.tmp 73),(2,Operand.tmp 74),(3,Operand.tmp 84)],_,_,_,none⟩) (v:=.agg #[.int .i64 S.next,.int .i64 j,.int .i64 fr.length,.slice q (hi-lo) (cap-lo)]) rfl hHeld (fun w hSw=>by go_simp;try with_reducible rfl) ?_
      (try simp only[Act.put,za,zb,zc])
      refine wpAnyH_ready (rs:=[17]) (by kernel_rfl) (by simp) ?_
      refine AllReadyH.cons (o:=⟨some 13,Op.alloc 138,_,_,_,none⟩) rfl (fun K hK=>?_) AllReadyH.nil
      refine xw rfl (ve 138 rfl zni) ?_;have hg5:=zg wr.drew (.cells #[.int .i64 0,.int .i64 0,.int .i64 0,.slice none 0 0] 138) none;refine hK.out _ _ ⟨hg5.cell hHeld.1 (by simp),trivial⟩ (fun hHeld=>?_)
      clear hK K
      (try simp only[Act.put,za,zb,zc])
      refine wpAnyH_ready (rs:=[18]) (by kernel_rfl) (by simp) ?_
      refine AllReadyH.cons (o:=⟨none,Op.store 138 (Operand.tmp 13) (Operand.tmp 85),_,_,_,none⟩) rfl (fun K hK=>?_) AllReadyH.nil
      refine xc rfl (qi 138 _ _ rfl _ #[.int .i64 S.next,.int .i64 j,.int .i64 fr.length,.slice q (hi-lo) (cap-lo)] _ rfl rfl (by kernel_rfl) rfl (Qq _ _ _ _ _ _)) ?_
      have hg6:=zg wr.drew (.cells #[.int .i64 S.next,.int .i64 j,.int .i64 fr.length,.slice q (hi-lo) (cap-lo)] 138) none;refine hK.out _ _ ⟨hg6.cell e3 (by simp),trivial⟩ (fun hHeld=>?_)
      clear hK K
      (try simp only[Act.put,za,zb,zc])
      refine wpAnyH_done (by kernel_rfl) ?_ _
      have hg6:=zg wr.drew (.cells #[.int .i64 S.next,.int .i64 j,.int .i64 fr.length,.slice q (hi-lo) (cap-lo)] 138) none;have hb6:=heap_alloc_new wr.drew (.cells #[.int .i64 S.next,.int .i64 j,.int .i64 fr.length,.slice q (hi-lo) (cap-lo)] 138);have hg7:wr.grownBy (wr.drew.alloc (.cells #[.int .i64 S.next,.int .i64 j,.int .i64 fr.length,.slice q (hi-lo) (cap-lo)] 138)) none:=zu (zl (zm _)) _;have HG7:=zd hg7;have q0:=(zh hb6 0);have q1:=(zh hb6 1);have q2:=(zh hb6 2);have q3:=(zh hb6 3);have hz7:wr.drew.heap.size<(wr.drew.alloc (.cells #[.int .i64 S.next,.int .i64 j,.int .i64 fr.length,.slice q (hi-lo) (cap-lo)] 138)).heap.size:=by simp
      clear hg6 hb6 hg7 hHeld hg5;generalize wr.drew.alloc (.cells #[.int .i64 S.next,.int .i64 j,.int .i64 fr.length,.slice q (hi-lo) (cap-lo)] 138)=w3 at *;generalize wr.drew.heap.size=pb at *;simp only[List.getElem?_toArray,List.getElem?_cons_zero,List.getElem?_cons_succ] at q0 q1 q2 q3;obtain⟨EX,hEX⟩:∃EX,EX=vp ya ⟨S.next,j,zt b.length,uc b j⟩:=⟨_,rfl⟩;have hmay:Jm ⟨S.next,j,zt b.length,uc b j⟩:=Ue HS.out.ok.n0 hn hl (by omega)
      have hexl:EX.length=256:=by rw[hEX];exact Xb hmay.l1
      have hexb:BL EX:=by rw[hEX];exact encP_BL ((hbb.drop _).take _)
      have HEX:=zd (And.intro hexl hexb);have HTT:∀w',wr.grownBy w' none→zq (fun k=>¬(own k∨k=fb)) wz w':=fun w' hg=>HT.out.trans ⟨hg.os,hg.tape,hg.output,hg.size,fun k hk _=>hg.block k hk (by simp)⟩
      have HTT:=zd HTT;have HPBK:Hid (Calls Tryz.prog 95 #[.agg #[.int .i64 S.next,.int .i64 j,.int .i64 fr.length,.slice q (hi-lo) (cap-lo)]] w3 fun e w'=>e = .returned (.agg (zi EX).toArray)∧w3.grownBy w' none):=(by
       have:=zmy (W:=w3) ⟨S.next,j,zt b.length,uc b j⟩ (v:=.slice q (hi-lo) (cap-lo)) (by have:=HS.out.ok.n0;show(0:Int)≤S.next;omega) (by show S.next<_;omega) (by show j<65536;omega) (by show zt b.length<65536;omega) hmay.l1 ((hbb.drop _).take _) (HCH.out w3 (HTT.out w3 HG7.out) _)
       rw[←hEX] at this;simp only[hpn] at this
       exact this)
      have HEX2:Hid ((xu ya S.next b fr)[j]? = some (at_,EX)):=(show _=_ from by rw[hEX];exact zab hat)
      clear hEX hmay hexl hexb
      go_upto_region 21 with (first
       | (go_at_call 95;refine HPBK.out.mono ?_;rintro e w4 ⟨rfl,hg⟩;have HG8:=zd hg;clear hg)
       | (refine ui rfl 136 rfl (xz zz) zcp (zi zz).toArray rfl ?_)
       | (refine ub rfl 136 _ _ rfl _ (zi EX).toArray _ rfl rfl (ju HEX.out.1) (blkE xq HEX.out.1) (blkA _) ?_))
      (try simp only[Act.put,za,zb,zc])
      have HG9:=zd (zu (zo HG7.out HG8.out) (.cells (zi EX).toArray 136));have hx9:=heap_alloc_new w4 (.cells (zi EX).toArray 136);have HX9:=zd hx9;have t0:=HG9.out.cell e0 (by simp)
      have HT9:=zd (HTT.out _ (zl HG9.out));have HD9:=zd (HD.out.kept (zl HG9.out));clear hx9 q0 q1 q2 q3;generalize w4.alloc (.cells (zi EX).toArray 136)=w5 at *;generalize w4.heap.size=xb at *;have hd5:d.late.length<1000000:=by have:=HW.out.2;omega
      have HWR:=zd (HD9.out.write (at_:Nat) (v:=.slice (some ⟨xb,0,none⟩) 256 256) (b:=EX) (by have h5:=zac (w:=w5.drew) HX9.out 256 256 (by rw[HEX.out.1];exact Nat.le_refl _);rw[List.take_of_length_le (by rw[HEX.out.1];exact Nat.le_refl _)] at h5;exact h5) HEX.out.2 hd5)
      have HWA:=zd (zlc HW.out.1 HEX2.out);have HWL:=Xw d (at_:Nat) EX;obtain⟨ev,hev⟩:∃ev,d.writeV (at_:Nat) EX=ev:=⟨_,rfl⟩;obtain⟨dn,hdn⟩:∃dn,d.written (at_:Nat) EX=dn:=⟨_,rfl⟩;rw[hev,hdn] at HWR HWA;rw[hdn] at HWL;have hWL2:dn.late.length≤S.d.late.length+(j+1):=by have:=HW.out.2;omega
      have HWLn:=zd hWL2;obtain⟨SN,hSN⟩:∃SN:Sto,SN = { S with d:=dn }:=⟨_,rfl⟩
      rw[←hSN] at HWR;have HSN:=zd hSN;clear hev hdn hWL2 HWL hSN
      by_cases hez:ev=0
      ·subst hez
       have HMET:Hid (∀w',SAt (fun k=>own k∨k=fb) w' st db mb tb rv rb SN→Calls Tryz.prog 96 #[.pointer (some ⟨st,0,none⟩),.int .i64 0] w' fun e w2=>e = .returned (.bool true)∧SAt (fun k=>own k∨k=fb) w2 st db mb tb rv rb SN∧zq (fun k=>¬(own k∨k=fb)) w' w2):=(fun w' h'=>by
        have:=zgq h' 0
        rwa [decide_eq_true rfl,show SN.met 0=SN from if_pos rfl] at this)
       refine wp_region_held_drew (S:=fun w':World=>w'.cell? ⟨st,0,none⟩=some (.pointer (some ⟨db,0,none⟩))∧True) (by kernel_rfl) ⟨t0,trivial⟩ (fun hHeld=>?_)
       refine tk (i:=0) (oi:=⟨some 88,Op.move (Operand.tmp 0),_,_,_,none⟩) (v:=?_) rfl hHeld ?_ ?_;rotate_left
       ·rintro w -;go_simp;try with_reducible rfl
       (try simp only[Act.put,za,zb,zc])
       refine tk (i:=1) (oi:=⟨some 89,Op.move (Operand.tmp 0),_,_,_,none⟩) (v:=?_) rfl hHeld ?_ ?_;rotate_left
       ·rintro w -;go_simp;try with_reducible rfl
       (try simp only[Act.put,za,zb,zc])
       refine tk (i:=2) (oi:=⟨some 90,Op.nilCheck (Operand.tmp 89),_,_,_,none⟩) (v:=?_) rfl hHeld ?_ ?_;rotate_left
       ·rintro w -;go_simp;try with_reducible rfl
       (try simp only[Act.put,za,zb,zc])
       refine tk (i:=3) (oi:=⟨some 91,Op.fieldAddr 132 (Operand.tmp 90) 0,_,_,_,none⟩) (v:=?_) rfl hHeld ?_ ?_;rotate_left
       ·rintro w -;go_simp;try with_reducible rfl
       (try simp only[Act.put,za,zb,zc])
       refine tk (i:=4) (oi:=⟨some 92,Op.load 28 (Operand.tmp 91),_,_,_,none⟩) (v:=?_) rfl hHeld ?_ ?_;rotate_left
       ·rintro w ⟨s1,-⟩;go_simp;try with_reducible rfl
       (try simp only[Act.put,za,zb,zc])
       refine tk (i:=5) (oi:=⟨some 93,Op.move (Operand.tmp 12),_,_,_,none⟩) (v:=?_) rfl hHeld ?_ ?_;rotate_left
       ·rintro w -;go_simp;try with_reducible rfl
       (try simp only[Act.put,za,zb,zc])
       refine tk (i:=6) (oi:=⟨some 94,Op.slice 136 (Operand.tmp 14) none none none,_,_,_,none⟩) (v:=?_) rfl hHeld ?_ ?_;rotate_left
       ·rintro w -;go_simp;try with_reducible rfl
       (try simp only[Act.put,za,zb,zc])
       refine wpAnyH_ready (rs:=[7]) (by kernel_rfl) (by simp) ?_
       refine AllReadyH.cons (o:=⟨some 95,Op.call { callee:=Callee.value (Operand.func 24),args:=#[Operand.tmp 92,Operand.tmp 93,Operand.tmp 94],argTypes:=#[28,3,32] },_,_,_,none⟩) rfl (fun K hK=>?_) AllReadyH.nil
       go_simp
       go_at_call 24
       refine HWR.out.mono ?_;rintro e w6 ⟨rfl,hA,hT,-⟩;have HA6:=zd hA;have HT6:=zd (HT9.out.trans hT);have hk6:=hA.cells.1;clear hA hT;refine hK.out _ _ ⟨hk6,trivial⟩ (fun hHeld=>?_)
       clear hK K
       (try simp only[Act.put,za,zb,zc])
       refine wpAnyH_ready (rs:=[8]) (by kernel_rfl) (by simp) ?_
       refine AllReadyH.cons (o:=⟨some 96,Op.call { callee:=Callee.value (Operand.func 96),args:=#[Operand.tmp 88,Operand.tmp 95],argTypes:=#[24,25] },_,_,_,none⟩) rfl (fun K hK=>?_) AllReadyH.nil
       go_simp
       go_at_call 96
       refine(HMET.out _ HA6.out).mono ?_;rintro e w7 ⟨rfl,hB,hT⟩;have HB2:=zd hB;have HT2:=zd (HT6.out.trans hT);have hk7:=hB.cells.1;clear hB hT;refine hK.out _ _ ⟨hk7,trivial⟩ (fun hHeld=>?_)
       clear hK K
       (try simp only[Act.put,za,zb,zc])
       refine tk (i:=9) (oi:=⟨some 97,Op.unOp UnOp.not 4 (Operand.tmp 96),_,_,_,none⟩) (v:=?_) rfl hHeld ?_ ?_;rotate_left
       ·rintro w -;go_simp;try with_reducible rfl
       (try simp only[Act.put,za,zb,zc])
       refine wpAnyH_done (by kernel_rfl) ?_ _
       go_wp2_with fail
       go_roundw
       case rel=>exact⟨j+1,dn,by omega,by go_num,by rw[←HSN.out];exact HB2.out,HT2.out,⟨HWA.out.1 rfl,HWLn.out⟩⟩
       case measure=>simp[intOf];omega
      ·have HMET:Hid (∀w',SAt (fun k=>own k∨k=fb) w' st db mb tb rv rb SN→Calls Tryz.prog 96 #[.pointer (some ⟨st,0,none⟩),.int .i64 ev] w' fun e w2=>e = .returned (.bool false)∧SAt (fun k=>own k∨k=fb) w2 st db mb tb rv rb (SN.met ev)∧zq (fun k=>¬(own k∨k=fb)) w' w2):=(fun w' h'=>by
        have:=zgq h' ev
        rwa [decide_eq_false hez] at this)
       have HBRK:Hid ((SN.met ev).broken=ev):=(show _=_ from by unfold Sto.met;rw[if_neg hez])
       have HQ:Hid (∀w',SAt (fun k=>own k∨k=fb) w' st db mb tb rv rb (SN.met ev)→zq (fun k=>¬(own k∨k=fb)) wz w'→PP (.returned (.tuple #[.int .i64 0,.int .i64 ev])) w'):=(fun w' h1 h2=>by
        rw[←hPP];unfold vj;rw[HP.out,HWA.out.2 hez,if_pos hez];refine⟨rfl,⟨mb,tb,rv,rb,?_⟩,HTO.out w' h2⟩;have:=h1.less (own':=own) (fun k hk=>Or.inl hk)
        rw[HSN.out] at this
        exact this)
       generalize SN.met ev=SE at *;refine wp_region_held_drew (S:=fun w':World=>w'.cell? ⟨st,0,none⟩=some (.pointer (some ⟨db,0,none⟩))∧True) (by kernel_rfl) ⟨t0,trivial⟩ (fun hHeld=>?_)
       refine tk (i:=0) (oi:=⟨some 88,Op.move (Operand.tmp 0),_,_,_,none⟩) (v:=?_) rfl hHeld ?_ ?_;rotate_left
       ·rintro w -;go_simp;try with_reducible rfl
       (try simp only[Act.put,za,zb,zc])
       refine tk (i:=1) (oi:=⟨some 89,Op.move (Operand.tmp 0),_,_,_,none⟩) (v:=?_) rfl hHeld ?_ ?_;rotate_left
       ·rintro w -;go_simp;try with_reducible rfl
       (try simp only[Act.put,za,zb,zc])
       refine tk (i:=2) (oi:=⟨some 90,Op.nilCheck (Operand.tmp 89),_,_,_,none⟩) (v:=?_) rfl hHeld ?_ ?_;rotate_left
       ·rintro w -;go_simp;try with_reducible rfl
       (try simp only[Act.put,za,zb,zc])
       refine tk (i:=3) (oi:=⟨some 91,Op.fieldAddr 132 (Operand.tmp 90) 0,_,_,_,none⟩) (v:=?_) rfl hHeld ?_ ?_;rotate_left
       ·rintro w -;go_simp;try with_reducible rfl
       (try simp only[Act.put,za,zb,zc])
       refine tk (i:=4) (oi:=⟨some 92,Op.load 28 (Operand.tmp 91),_,_,_,none⟩) (v:=?_) rfl hHeld ?_ ?_;rotate_left
       ·rintro w ⟨s1,-⟩;go_simp;try with_reducible rfl
       (try simp only[Act.put,za,zb,zc])
       refine tk (i:=5) (oi:=⟨some 93,Op.move (Operand.tmp 12),_,_,_,none⟩) (v:=?_) rfl hHeld ?_ ?_;rotate_left
       ·rintro w -;go_simp;try with_reducible rfl
       (try simp only[Act.put,za,zb,zc])
       refine tk (i:=6) (oi:=⟨some 94,Op.slice 136 (Operand.tmp 14) none none none,_,_,_,none⟩) (v:=?_) rfl hHeld ?_ ?_;rotate_left
       ·rintro w -;go_simp;try with_reducible rfl
       (try simp only[Act.put,za,zb,zc])
       refine wpAnyH_ready (rs:=[7]) (by kernel_rfl) (by simp) ?_
       refine AllReadyH.cons (o:=⟨some 95,Op.call { callee:=Callee.value (Operand.func 24),args:=#[Operand.tmp 92,Operand.tmp 93,Operand.tmp 94],argTypes:=#[28,3,32] },_,_,_,none⟩) rfl (fun K hK=>?_) AllReadyH.nil
       go_simp
       go_at_call 24
       refine HWR.out.mono ?_;rintro e w6 ⟨rfl,hA,hT,-⟩;have HA6:=zd hA;have HT6:=zd (HT9.out.trans hT);have hk6:=hA.cells.1;clear hA hT;refine hK.out _ _ ⟨hk6,trivial⟩ (fun hHeld=>?_)
       clear hK K
       (try simp only[Act.put,za,zb,zc])
       refine wpAnyH_ready (rs:=[8]) (by kernel_rfl) (by simp) ?_
       refine AllReadyH.cons (o:=⟨some 96,Op.call { callee:=Callee.value (Operand.func 96),args:=#[Operand.tmp 88,Operand.tmp 95],argTypes:=#[24,25] },_,_,_,none⟩) rfl (fun K hK=>?_) AllReadyH.nil
       go_simp
       go_at_call 96
       refine(HMET.out _ HA6.out).mono ?_;rintro e w7 ⟨rfl,hB,hT⟩;have HB2:=zd hB;have HT2:=zd (HT6.out.trans hT);have hk7:=hB.cells.1;clear hB hT;refine hK.out _ _ ⟨hk7,trivial⟩ (fun hHeld=>?_)
       clear hK K
       (try simp only[Act.put,za,zb,zc])
       refine tk (i:=9) (oi:=⟨some 97,Op.unOp UnOp.not 4 (Operand.tmp 96),_,_,_,none⟩) (v:=?_) rfl hHeld ?_ ?_;rotate_left
       ·rintro w -;go_simp;try with_reducible rfl
       (try simp only[Act.put,za,zb,zc])
       refine wpAnyH_done (by kernel_rfl) ?_ _
       obtain⟨-,-,-,-,z4,-⟩:=HB2.out.cells;rw[HBRK.out] at z4;have HB2x:=HB2
       go_upto_region 22 with fail
       refine wp_region_held_drew (S:=fun w':World=>w'.cell? ⟨st,4,none⟩=some (.int .i64 ev)∧True) (by kernel_rfl) ⟨z4,trivial⟩ (fun hHeld=>?_)
       refine tk (i:=0) (oi:=⟨some 98,Op.move (Operand.tmp 0),_,_,_,none⟩) (v:=?_) rfl hHeld ?_ ?_;rotate_left
       ·rintro w -;go_simp;try with_reducible rfl
       (try simp only[Act.put,za,zb,zc])
       refine tk (i:=1) (oi:=⟨some 99,Op.nilCheck (Operand.tmp 98),_,_,_,none⟩) (v:=?_) rfl hHeld ?_ ?_;rotate_left
       ·rintro w -;go_simp;try with_reducible rfl
       (try simp only[Act.put,za,zb,zc])
       refine tk (i:=2) (oi:=⟨some 100,Op.fieldAddr 132 (Operand.tmp 99) 4,_,_,_,none⟩) (v:=?_) rfl hHeld ?_ ?_;rotate_left
       ·rintro w -;go_simp;try with_reducible rfl
       (try simp only[Act.put,za,zb,zc])
       refine tk (i:=3) (oi:=⟨some 101,Op.load 25 (Operand.tmp 100),_,_,_,none⟩) (v:=?_) rfl hHeld ?_ ?_;rotate_left
       ·rintro w ⟨s1,-⟩;go_simp;try with_reducible rfl
       (try simp only[Act.put,za,zb,zc])
       refine tk (i:=4) (oi:=⟨some 4,Op.assign (Operand.const (Value.int IntKind.i64 0)),_,_,_,none⟩) (v:=?_) rfl hHeld ?_ ?_;rotate_left
       ·rintro w -;go_simp;try with_reducible rfl
       (try simp only[Act.put,za,zb,zc])
       refine tk (i:=5) (oi:=⟨some 5,Op.assign (Operand.tmp 101),_,_,_,none⟩) (v:=?_) rfl hHeld ?_ ?_;rotate_left
       ·rintro w -;go_simp;try with_reducible rfl
       (try simp only[Act.put,za,zb,zc])
       refine wpAnyH_done (by kernel_rfl) ?_ _
       go_wp2_with fail
       exact HQ.out _ (HB2.out.kept (zl (zm _))) (HT2.out.trans ⟨rfl,rfl,rfl,Nat.le_refl _,fun _ _ _=>rfl⟩)
     ·obtain rfl:j=fr.length:=by omega
      have hws:S.d.writes (xu ya S.next b fr)=(d,0):=by
       have h5:=HW.out.1;rw[List.drop_of_length_le (by unfold xu;simp)] at h5
       exact h5
      have HP2:=HP.out;rw[hws] at HP2;simp only[ne_eq,not_true,if_false] at HP2;obtain⟨e2,hE2⟩:∃e2,d.syncV=e2:=⟨_,rfl⟩;obtain⟨SF,hSF⟩:∃SF:Sto,SF = { S with d:=d.synced }:=⟨_,rfl⟩
      have HSY:Hid (Calls Tryz.prog 25 #[.pointer (some ⟨db,0,none⟩)] wr fun e w2=>e = .returned (.int .i64 e2)∧SAt (fun k=>own k∨k=fb) w2 st db mb tb rv rb SF∧zq (fun k=>¬(own k∨k=fb)) wr w2):=(hD.sync.mono fun e w2 ⟨a1,a2,a3,_⟩=>by
       subst hSF
       exact⟨by rw[a1];simp only[hE2],a2,a3⟩)
      obtain⟨e0,e1,e3',e3,e4,ey⟩:=hD.cells;have HT:=zd hT;have HP:=zd HP2;rw[hE2] at HP;have HSF:=zd hSF;clear HP2 hws hD hT hE2 hSF HW
      by_cases he2:e2=0
      ·subst he2
       have HMET:Hid (∀w',SAt (fun k=>own k∨k=fb) w' st db mb tb rv rb SF→Calls Tryz.prog 96 #[.pointer (some ⟨st,0,none⟩),.int .i64 0] w' fun e w2=>e = .returned (.bool true)∧SAt (fun k=>own k∨k=fb) w2 st db mb tb rv rb SF∧zq (fun k=>¬(own k∨k=fb)) w' w2):=(fun w' h'=>by
        have:=zgq h' 0
        rwa [decide_eq_true rfl,show SF.met 0=SF from if_pos rfl] at this)
       have HQ:Hid (∀w' rv' rb',SAt own w' st db mb tb rv' rb' (SF.kept S.next b fr).next1→zq (fun k=>¬own k) W w'→PP (.returned (.tuple #[.int .i64 S.next,.int .i64 0])) w'):=(fun w' rv' rb' h1 h2=>by
        rw[←hPP];unfold vj;rw[HP.out,if_neg (by simp)]
        rw[HSF.out] at h1
        exact⟨rfl,⟨mb,tb,rv',rb',h1⟩,h2⟩)
       have HNX:Hid (SF.next=S.next∧SF.taken=S.taken):=(show _∧_ from by rw[HSF.out];exact⟨rfl,rfl⟩)
       have hn0:=HS.out.ok.n0
       go_upto_region 26 with (first
        | (go_at_call 25;refine HSY.out.mono ?_;rintro e w6 ⟨rfl,hA,hT⟩;have HA6:=zd hA;have HT6:=zd (HT.out.trans hT);have hk6:=hA.cells.1;clear hA hT)
        | (go_at_call 96;refine(HMET.out _ HA6.out).mono ?_;rintro e w7 ⟨rfl,hB,hT⟩;have HB2:=zd hB;have HT2:=zd (HT6.out.trans hT);have hk7:=hB.cells.1;clear hB hT))
       obtain⟨-,-,-,z3,-,-⟩:=HB2.out.cells;rw[HNX.out.1] at z3;have HT8:=zd (HT2.out.trans (b:=w7) (c:=w7.drew) ⟨rfl,rfl,rfl,Nat.le_refl _,fun _ _ _=>rfl⟩)
       have HB8:=zd (HB2.out.kept (zl (zm _)));have HCL:=zd (jp (W:=w7.drew) (HB.out _ HT8.out).raw (by omega) (fun e=>by
        obtain⟨p',cap',e1,_,_,e2⟩:=(HB.out _ HT8.out).ex
        rcases e2 with e2|⟨a,e2,_⟩
        ·simpa[zi] using e2
        ·rw[e1,e2] at e;cases e))
       have HR8:=zd (HROW.out _ HT8.out);refine wp_region_held_drew (S:=fun w':World=>w'.cell? ⟨st,3,none⟩=some (.int .i64 S.next)∧True) (by kernel_rfl) ⟨z3,trivial⟩ (fun hHeld=>?_)
       refine tk (i:=0) (oi:=⟨some 115,Op.move (Operand.tmp 0),_,_,_,none⟩) (v:=?_) rfl hHeld ?_ ?_;rotate_left
       ·rintro w -;go_simp;try with_reducible rfl
       (try simp only[Act.put,za,zb,zc])
       refine tk (i:=1) (oi:=⟨some 116,Op.move (Operand.tmp 0),_,_,_,none⟩) (v:=?_) rfl hHeld ?_ ?_;rotate_left
       ·rintro w -;go_simp;try with_reducible rfl
       (try simp only[Act.put,za,zb,zc])
       refine tk (i:=2) (oi:=⟨some 117,Op.nilCheck (Operand.tmp 116),_,_,_,none⟩) (v:=?_) rfl hHeld ?_ ?_;rotate_left
       ·rintro w -;go_simp;try with_reducible rfl
       (try simp only[Act.put,za,zb,zc])
       refine tk (i:=3) (oi:=⟨some 118,Op.fieldAddr 132 (Operand.tmp 117) 3,_,_,_,none⟩) (v:=?_) rfl hHeld ?_ ?_;rotate_left
       ·rintro w -;go_simp;try with_reducible rfl
       (try simp only[Act.put,za,zb,zc])
       refine tk (i:=4) (oi:=⟨some 119,Op.load 2 (Operand.tmp 118),_,_,_,none⟩) (v:=?_) rfl hHeld ?_ ?_;rotate_left
       ·rintro w ⟨s1,-⟩;go_simp;try with_reducible rfl
       (try simp only[Act.put,za,zb,zc])
       refine tk (i:=5) (oi:=⟨some 120,Op.move (Operand.tmp 1),_,_,_,none⟩) (v:=?_) rfl hHeld ?_ ?_;rotate_left
       ·rintro w -;go_simp;try with_reducible rfl
       (try simp only[Act.put,za,zb,zc])
       refine tk (i:=7) (oi:=⟨some 122,Op.move (Operand.tmp 8),_,_,_,none⟩) (v:=?_) rfl hHeld ?_ ?_;rotate_left
       ·rintro w -;go_simp;try with_reducible rfl
       (try simp only[Act.put,za,zb,zc])
       refine wpAnyH_ready (rs:=[6]) (by kernel_rfl) (by simp) ?_
       refine AllReadyH.cons (o:=⟨some 121,Op.call { callee:=Callee.value (Operand.func 97),args:=#[Operand.tmp 120],argTypes:=#[32] },_,_,_,none⟩) rfl (fun K hK=>?_) AllReadyH.nil
       go_simp
       go_at_call 97
       refine HCL.out.mono ?_;rintro e w8 ⟨v8,rfl,ho,hg⟩;have h5:(zi b).length=b.length:=zr b;rw[←h5] at ho;obtain⟨r1,r2⟩:=zba ho;obtain⟨p8,c8,rfl⟩:=jt ho;rw[h5] at r1 r2;have z8:=hg.cell z3 (by simp)
       have HM8:=zd ((HB8.out.shift hfb).more hg (rb':=fun k=>(rb k∨k=fb)∨(Value.slice p8 b.length c8).ownBlock=some k) (fun k hk=>Or.inl hk) (fun k hk=>hk.imp id (fun e=>(r2 k e).1)) (fun k hk=>by
        have hs:=hg.size
        rcases hk with (e|e)|e
        ·have:=HB8.out.rb_lt e;omega
        ·have:=HB8.out.own_lt (Or.inr e);omega
        ·exact(r2 k e).2))
       have HKP:=zd (skeep HM8.out S.next (v:=(.slice p8 b.length c8,.slice (some ⟨fb,0,none⟩) fr.length cf)) (b:=b) (bl:=fr) (r1.mono fun k hk=>Or.inr hk) ((HR8.out.turn fun k hk=>hg.block k (by have:=HB8.out.own_lt (k:=k) (Or.inr hk);omega) (by simp)).mono fun k hk=>Or.inl (Or.inr hk)) ⟨fun e=>by rw[e] at hp0;exact absurd hp0 (by decide),fun i hi=>by rw[HNX.out.2];exact HFR.out i hi⟩ ⟨hbb,hl⟩)
       have HT8b:=zd ((HTO.out _ HT8.out).trans ⟨hg.os,hg.tape,hg.output,hg.size,fun k hk _=>hg.block k hk (by simp)⟩)
       unfold Xn at HKP;clear ho hg r1 r2;refine hK.out _ _ ⟨z8,trivial⟩ (fun hHeld=>?_)
       clear hK K
       (try simp only[Act.put,za,zb,zc])
       refine tk (i:=8) (oi:=⟨some 123,Op.build 158 #[(0,Operand.tmp 121),(1,Operand.tmp 122)],_,_,_,none⟩) (v:=.agg #[.slice p8 b.length c8,.slice (some ⟨fb,0,none⟩) fr.length cf]) rfl hHeld (fun w hSw=>by go_simp;try with_reducible rfl) ?_
       (try simp only[Act.put,za,zb,zc])
       refine wpAnyH_ready (rs:=[9]) (by kernel_rfl) (by simp) ?_
       refine AllReadyH.cons (o:=⟨some 124,Op.call { callee:=Callee.value (Operand.func 94),args:=#[Operand.tmp 115,Operand.tmp 119,Operand.tmp 123],argTypes:=#[24,2,158] },_,_,_,none⟩) rfl (fun K hK=>?_) AllReadyH.nil
       go_simp
       go_at_call 94
       refine(HKP.out).mono ?_;rintro e w9 ⟨rfl,⟨rv9,hK⟩,hT⟩;have HK9:=zd hK;have HT9:=zd hT;have z9:=hK.cells.2.2.2.1;clear hK hT;refine hK.out _ _ ⟨by rw[z9];exact congrArg (fun z=>some (Value.int IntKind.i64 z)) HNX.out.1,trivial⟩ (fun hHeld=>?_)
       clear hK K
       (try simp only[Act.put,za,zb,zc])
       refine wpAnyH_done (by kernel_rfl) ?_ _
       obtain⟨-,-,-,y3,-,yy⟩:=HK9.out.cells;have hy3:(SF.kept S.next b fr).next=S.next:=HNX.out.1;rw[hy3] at y3;have HN:=zd (HK9.out.setNext (S.next+1) (by omega) (by omega))
       have HE9:Hid ({ (SF.kept S.next b fr) with next:=S.next+1 }=(SF.kept S.next b fr).next1):=(show _=_ from by unfold Sto.next1;rw[hy3])
       have HY3:=zd hy3;have HW1:Hid (wrap64 (S.next+1)=S.next+1∧wrap64 (S.next+1-1)=S.next):=(show _∧_ from by unfold wrap64;omega)
       clear hy3;go_wp2;rw[HY3.out,HW1.out.1,HW1.out.2];have HN1:=HN.out.1;rw[HE9.out] at HN1
       exact HQ.out _ rv9 _ HN1 ((HT8b.out.trans HT9.out).trans HN.out.2)
      ·have HMET:Hid (∀w',SAt (fun k=>own k∨k=fb) w' st db mb tb rv rb SF→Calls Tryz.prog 96 #[.pointer (some ⟨st,0,none⟩),.int .i64 e2] w' fun e w2=>e = .returned (.bool false)∧SAt (fun k=>own k∨k=fb) w2 st db mb tb rv rb (SF.met e2)∧zq (fun k=>¬(own k∨k=fb)) w' w2):=(fun w' h'=>by
        have:=zgq h' e2
        rwa [decide_eq_false he2] at this)
       have HBRK:Hid ((SF.met e2).broken=e2):=(show _=_ from by unfold Sto.met;rw[if_neg he2])
       have HQ:Hid (∀w',SAt (fun k=>own k∨k=fb) w' st db mb tb rv rb (SF.met e2)→zq (fun k=>¬(own k∨k=fb)) wz w'→PP (.returned (.tuple #[.int .i64 0,.int .i64 e2])) w'):=(fun w' h1 h2=>by
        rw[←hPP];unfold vj;rw[HP.out,if_pos he2];refine⟨rfl,⟨mb,tb,rv,rb,?_⟩,HTO.out w' h2⟩;have:=h1.less (own':=own) (fun k hk=>Or.inl hk)
        rw[HSF.out] at this
        exact this)
       generalize SF.met e2=SE at *
       go_upto_region 25 with (first
        | (go_at_call 25;refine HSY.out.mono ?_;rintro e w6 ⟨rfl,hA,hT⟩;have HA6:=zd hA;have HT6:=zd (HT.out.trans hT);have hk6:=hA.cells.1;clear hA hT)
        | (go_at_call 96;refine(HMET.out _ HA6.out).mono ?_;rintro e w7 ⟨rfl,hB,hT⟩;have HB2:=zd hB;have HT2:=zd (HT6.out.trans hT);have hk7:=hB.cells.1;clear hB hT))
       obtain⟨-,-,-,-,z4,-⟩:=HB2.out.cells;rw[HBRK.out] at z4;refine wp_region_held_drew (S:=fun w':World=>w'.cell? ⟨st,4,none⟩=some (.int .i64 e2)∧True) (by kernel_rfl) ⟨z4,trivial⟩ (fun hHeld=>?_)
       refine tk (i:=0) (oi:=⟨some 111,Op.move (Operand.tmp 0),_,_,_,none⟩) (v:=?_) rfl hHeld ?_ ?_;rotate_left
       ·rintro w -;go_simp;try with_reducible rfl
       (try simp only[Act.put,za,zb,zc])
       refine tk (i:=1) (oi:=⟨some 112,Op.nilCheck (Operand.tmp 111),_,_,_,none⟩) (v:=?_) rfl hHeld ?_ ?_;rotate_left
       ·rintro w -;go_simp;try with_reducible rfl
       (try simp only[Act.put,za,zb,zc])
       refine tk (i:=2) (oi:=⟨some 113,Op.fieldAddr 132 (Operand.tmp 112) 4,_,_,_,none⟩) (v:=?_) rfl hHeld ?_ ?_;rotate_left
       ·rintro w -;go_simp;try with_reducible rfl
       (try simp only[Act.put,za,zb,zc])
       refine tk (i:=3) (oi:=⟨some 114,Op.load 25 (Operand.tmp 113),_,_,_,none⟩) (v:=?_) rfl hHeld ?_ ?_;rotate_left
       ·rintro w ⟨s1,-⟩;go_simp;try with_reducible rfl
       (try simp only[Act.put,za,zb,zc])
       refine tk (i:=4) (oi:=⟨some 4,Op.assign (Operand.const (Value.int IntKind.i64 0)),_,_,_,none⟩) (v:=?_) rfl hHeld ?_ ?_;rotate_left
       ·rintro w -;go_simp;try with_reducible rfl
       (try simp only[Act.put,za,zb,zc])
       refine tk (i:=5) (oi:=⟨some 5,Op.assign (Operand.tmp 114),_,_,_,none⟩) (v:=?_) rfl hHeld ?_ ?_;rotate_left
       ·rintro w -;go_simp;try with_reducible rfl
       (try simp only[Act.put,za,zb,zc])
       refine wpAnyH_done (by kernel_rfl) ?_ _
       go_wp2_with fail
       exact HQ.out _ (HB2.out.kept (zl (zm _))) (HT2.out.trans ⟨rfl,rfl,rfl,Nat.le_refl _,fun _ _ _=>rfl⟩)
theorem sput (h:SAt own W st db mb tb rv rb S) {v:Value} {b:List Int} (hv:ye own W v (zi b)) (hbb:BL b) (hl:b.length≤100000000) (hf:S.d.late.length+600<1000000):Calls Tryz.prog 20 #[.pointer (some ⟨st,0,none⟩),v] W (vj own W st db S b):=by
 by_cases hb:S.broken=0
 ·by_cases h1:131072<b.length
  ·obtain⟨p,cap,rfl,_,_,_⟩:=hv.ex
   rw[zr]
   exact zim h hl hb h1
  ·by_cases h2:4611686018427387904<S.next
   ·obtain⟨p,cap,rfl,_,_,_⟩:=hv.ex
    rw[zr]
    exact zk5 h hl hb h1 h2
   ·exact zk4 h hv hbb hb (by omega) (by omega) hf
 ·obtain⟨p,cap,rfl,_,_,_⟩:=hv.ex
  rw[zr]
  exact zgv h hl hb
end
end Go.Proofs.YtbcbhlfjgobejaaGreat
