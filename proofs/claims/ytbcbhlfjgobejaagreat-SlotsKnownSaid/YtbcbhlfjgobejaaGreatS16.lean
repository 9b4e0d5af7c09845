/- A store in memory: Put: the walk. Conditions: none, or as the theorems say. -/
import Derived.Test.YtbcbhlfjgobejaaGreatS1
import Derived.Test.YtbcbhlfjgobejaaGreatS15
set_option linter.unusedSimpArgs false
set_option linter.unusedVariables false
namespace Go.Proofs.YtbcbhlfjgobejaaGreat
set_option maxHeartbeats 200000000
open Go.RowKit Go.Sf
variable {t:List Bool} {b:List Int} {cs:List Value} {base cap i j n:Nat} {p:Option Addr} {e:TypeId} {v:Value} {W w:World}
theorem zqg (w:World):(zeroValue 138).run Tryz.prog w = .ok (.agg #[.int .i64 0,.int .i64 0,.int .i64 0,.slice none 0 0]) w:=by kernel_rfl
theorem infoI:(Tryz.prog.info? 3).map (λi=>(i.zero,i.size,i.bytes))=some (some (.int .i64 0),1,8):=by kernel_rfl
def yj (t:List Bool) (n j:Nat):List Nat:=((List.range j).filter λi=>t[i]? == some false).take n
theorem zmi (h:t[j]? = some false) (hl:(yj t n j).length<n):yj t n (j+1)=yj t n j ++ [j]:=by
 unfold yj at *;rw[List.range_succ,List.filter_append];simp only[List.filter_cons,h,beq_self_eq_true,if_true,List.filter_nil];rw[List.length_take] at hl;rw[List.take_append,List.take_of_length_le (by omega)]
 congr 1
 rw[List.take_of_length_le (by simp;omega)]
theorem zka (hl:¬(yj t n j).length<n):yj t n (j+1)=yj t n j:=by
 unfold yj at *;rw[List.length_take] at hl;rw[List.range_succ,List.filter_append,List.take_append_of_le_length (by omega)]
theorem zov (h:t[j]? = some true):yj t n (j+1)=yj t n j:=by
 unfold yj;rw[List.range_succ,List.filter_append];simp[h]
theorem zfk (t:List Bool) (n j:Nat):(yj t n j).length≤n∧(yj t n j).length≤j:=by
 unfold yj;rw[List.length_take];have:=List.length_filter_le (λi=>t[i]? == some false) (List.range j)
 rw[List.length_range] at this;omega
theorem zdl (h:i∈yj t n j):i<j∧t[i]? = some false:=by
 have h1:=List.mem_of_mem_take h;rw[List.mem_filter] at h1
 exact⟨List.mem_range.1 h1.1,by simpa using h1.2⟩
theorem zca (t:List Bool) (n j:Nat):(yj t n j).Nodup:=List.Nodup.sublist ((List.take_sublist _ _).trans List.filter_sublist) List.nodup_range
def Dk.writes:Dk→List (Nat × List Int)→Dk × Int
 | d,[]=>(d,0)
 | d,w :: r=>if d.writeV w.1 w.2=0 then (d.written w.1 w.2).writes r else (d.written w.1 w.2,d.writeV w.1 w.2)
def Sto.next1 (S:Sto):Sto:={ S with next:=S.next+1 }
def Sto.put (S:Sto) (b:List Int):Sto × Int × Int:=
 if S.broken≠0 then (S,0,S.broken)
 else if 131072<b.length∨4611686018427387904<S.next then (S,0,3)
 else if (yj S.taken (zk b.length) S.taken.length).length<zk b.length then (S,0,181)
 else if (S.d.writes (vd zo S.next b (yj S.taken (zk b.length) S.taken.length))).2≠0 then (S.did (S.d.writes (vd zo S.next b (yj S.taken (zk b.length) S.taken.length))).1 (S.d.writes (vd zo S.next b (yj S.taken (zk b.length) S.taken.length))).2,0,(S.d.writes (vd zo S.next b (yj S.taken (zk b.length) S.taken.length))).2)
 else if (S.d.writes (vd zo S.next b (yj S.taken (zk b.length) S.taken.length))).1.syncV≠0 then (S.did (S.d.writes (vd zo S.next b (yj S.taken (zk b.length) S.taken.length))).1.synced (S.d.writes (vd zo S.next b (yj S.taken (zk b.length) S.taken.length))).1.syncV,0,(S.d.writes (vd zo S.next b (yj S.taken (zk b.length) S.taken.length))).1.syncV)
 else ((Sto.kept { S with d:=(S.d.writes (vd zo S.next b (yj S.taken (zk b.length) S.taken.length))).1.synced } S.next b (yj S.taken (zk b.length) S.taken.length)).next1,S.next,0)
def vt (own:Nat→Prop) (W:World) (st db:Nat) (S:Sto) (b:List Int) (e:Ending) (w':World):Prop:=
 e = .returned (.tuple #[.int .i64 (S.put b).2.1,.int .i64 (S.put b).2.2])∧Jk own w' st db (S.put b).1∧zm (λk=>¬own k) W w'
theorem zkb {w9:World} {o:Obj} {size:Nat} {xs:List Value} (h:W.grownBy w none) (hr:w.ownsRow W.heap.size e size v n xs) (hg:(w.alloc o).grownBy w9 v.ownBlock):W.grownBy w9 none:=by
 have ha:=ze w o none;have hs:=h.size;have hs2:=ha.size;refine⟨hg.os.trans (ha.os.trans h.os),hg.tape.trans (ha.tape.trans h.tape),hg.output.trans (ha.output.trans h.output),Nat.le_trans hs (Nat.le_trans hs2 hg.size),λk hk _=>?_⟩
 rw[hg.block k (by omega) (λe=>by have:=(hr.lt k e.symm).1;omega),ha.block k (by omega) (by simp),h.block k hk (by simp)]
theorem znj (h:w.ownsRow base e 1 v cs.length cs) (h0:0<cs.length):∃g cap,v = .slice (some ⟨g,0,none⟩) cs.length cap∧base≤g∧g<w.heap.size∧xw (λk=>k=g) w v cs:=by
 have hlt:=@World.ownsRow.lt _ _ _ _ _ _ _ h;have hc:=λg=>@World.ownsRow.cells _ _ _ _ _ _ _ h g
 rcases h.2 with ⟨h1,h2⟩|⟨g,cap,cur,rfl,hbg,hg,hnc,hcm,hcs,htake⟩
 ·rw[h2] at h0;exact absurd h0 (by omega)
 ·obtain⟨l1,l2⟩:=hlt g rfl
  refine⟨g,cap,rfl,l1,l2,some ⟨g,0,none⟩,cap,rfl,hnc,by unfold maxLen at hcm;omega,Or.inr ⟨_,rfl,rfl,λj u hu=>hc g rfl j u hu⟩⟩
section
variable {own : Nat → Prop} {W W' : World} {st db mb tb : Nat} {rv : Int → Value × Value} {rb : Nat → Prop} {S : Sto}
theorem zc4 (h:w.ownsRow base e 1 v cs.length cs):xw (λk=>v.ownBlock=some k) w v cs∧∀k,v.ownBlock=some k→base≤k∧k<w.heap.size:=by
 have hlt:=@World.ownsRow.lt _ _ _ _ _ _ _ h;have hc:=λg=>@World.ownsRow.cells _ _ _ _ _ _ _ h g
 refine⟨?_,λk hk=>hlt k hk⟩
 rcases h.2 with ⟨h1,h2⟩|⟨g,cap,cur,rfl,hbg,hg,hnc,hcm,hcs,htake⟩
 ·subst h1
  have h0:cs = []:=by cases cs with
   | nil=>rfl
   | cons a t=>simp at h2
  subst h0
  exact⟨none,0,rfl,by simp,by omega,Or.inl rfl⟩
 ·exact⟨some ⟨g,0,none⟩,cap,rfl,hnc,by unfold maxLen at hcm;omega,Or.inr ⟨_,rfl,rfl,λj u hu=>hc g rfl j u hu⟩⟩
theorem SAt.shift {g:Nat} (h:SAt (λk=>own k∨k=g) W st db mb tb rv rb S) (hg:¬own g):SAt own W st db mb tb rv (λk=>rb k∨k=g) S:=by
 refine⟨h.box,h.recs,λr hr=>⟨(h.rows r hr).1.mono λk hk=>Or.inl hk,(h.rows r hr).2.mono λk hk=>Or.inl hk⟩,h.tak,h.disk.less λk hk=>?_,λk hk=>?_,λk hk=>?_,h.ok⟩
 ·rcases hk with e|e|e|e|e|e
  ·exact Or.inl (Or.inl e)
  ·exact Or.inr (Or.inl e)
  ·exact Or.inr (Or.inr (Or.inl e))
  ·exact Or.inr (Or.inr (Or.inr (Or.inl e)))
  ·exact Or.inr (Or.inr (Or.inr (Or.inr e)))
  ·exact Or.inl (Or.inr e)
 ·obtain⟨a1,a2,a3,a4⟩:=h.away k (Or.inl hk)
  exact⟨a1,a2,a3,λe=>e.elim a4 (λe=>hg (e ▸ hk))⟩
 ·rcases hk with e|e
  ·exact h.rbs k e
  ·obtain⟨a1,a2,a3,_⟩:=h.away k (Or.inr e)
   exact⟨a1,a2,a3⟩
theorem zn7 {d:Dk} {ws:List (Nat × List Int)} {dj:Dk} {x:List Int} (h:d.writes ws=dj.writes (ws.drop j)) (hw:ws[j]? = some (i,x)) :
  (dj.writeV i x=0→d.writes ws=(dj.written i x).writes (ws.drop (j+1)))∧(dj.writeV i x≠0→d.writes ws=(dj.written i x,dj.writeV i x)):=by
 have hj:=(List.getElem?_eq_some_iff.1 hw);obtain⟨hj1,hj2⟩:=hj;rw[List.drop_eq_getElem_cons hj1,hj2] at h;rw[h];unfold Dk.writes;refine⟨λe=>?_,λe=>?_⟩
 ·rw[if_pos e];rw[←Dk.writes.eq_def]
 ·rw[if_neg e]
theorem za5 (d:Dk) (i:Int) (x:List Int):(d.written i x).late.length≤d.late.length+1:=by
 unfold Dk.written
 split
 ·omega
 ·split <;> simp[Dk.went,Dk.gone,Dk.lay]
theorem mid_row {own:Nat→Prop} {lo hi:Nat} (h:xw own W (.slice p b.length cap) (zg b)) (hh:hi≤b.length) (hlo:lo≤hi) {q:Option Addr} (hq:hi-lo≠0→q=p.map (λx=>x.add lo)) {c:Nat}:zx W (.slice q (hi-lo) c) ((b.drop lo).take (hi-lo)):=by
 obtain⟨p',cap',e,h1,h2,h3⟩:=h.ex
 injection e with e1 _ e2
 subst e1 e2;have hl:((b.drop lo).take (hi-lo)).length=hi-lo:=by rw[List.length_take,List.length_drop];omega
 refine⟨q,c,by rw[hl],?_⟩
 rcases Nat.eq_zero_or_pos (hi-lo) with h0|h0
 ·left;rw[h0];simp
 ·rcases h3 with h3|⟨x,rfl,hb2,h4⟩
  ·exfalso
   have:b.length=0:=by have:=congrArg List.length h3;simpa[zg] using this
   omega
  ·right
   rw[hq (by omega)]
   refine⟨x.add lo,rfl,λj u hu=>?_⟩
   rw[Addr.add_add];refine h4 (lo+j) u ?_;rw[zg,List.map_take,List.map_drop] at hu;have hj:j<hi-lo:=by
    rcases Nat.lt_or_ge j (hi-lo) with h|h
    ·exact h
    ·rw[List.getElem?_eq_none (by rw[List.length_take];omega)] at hu;cases hu
   rw[List.getElem?_take_of_lt hj,List.getElem?_drop] at hu
   exact hu
set_option maxRecDepth 100000 in
theorem zjk (h:SAt own W st db mb tb rv rb S) (hbl:b.length≤100000000) (hb:S.broken≠0):Calls Tryz.prog 20 #[.pointer (some ⟨st,0,none⟩),.slice p b.length cap] W (vt own W st db S b):=by
 have HBR:=zd (Qw h);have HQ:Hid (vt own W st db S b (.returned (.tuple #[.int .i64 0,.int .i64 S.broken])) W):=(show vt _ _ _ _ _ _ _ _ from by
  have er:S.put b=(S,0,S.broken):=by unfold Sto.put;rw[if_pos hb]
  unfold vt;rw[er]
  exact⟨rfl,⟨_,_,_,_,h⟩,zm.refl _ _⟩)
 obtain⟨c0,c1,c2,c3,c4,y⟩:=h.cells;clear h;generalize vt own W st db S b=PP at *;generalize S.broken=br at *
 go_enter Tryz.func20,Tryz.ntmps20
 go_wp2_with (go_at_call 46;refine HBR.out.mono ?_;rintro e w1 ⟨rfl,h5⟩;obtain rfl:W=w1:=h5.symm)
 first|exact HQ.out|(go_ret2;exact HQ.out)
set_option maxRecDepth 100000 in
theorem zk8 (h:SAt own W st db mb tb rv rb S) (hbl:b.length≤100000000) (hb:S.broken=0) (hl:131072<b.length):Calls Tryz.prog 20 #[.pointer (some ⟨st,0,none⟩),.slice p b.length cap] W (vt own W st db S b):=by
 have HBR:=zd (Qw h);have HQ:Hid (vt own W st db S b (.returned (.tuple #[.int .i64 0,.int .i64 3])) W):=(show vt _ _ _ _ _ _ _ _ from by
  have er:S.put b=(S,0,3):=by unfold Sto.put;rw[if_neg (by simp[hb]),if_pos (Or.inl hl)]
  unfold vt;rw[er]
  exact⟨rfl,⟨_,_,_,_,h⟩,zm.refl _ _⟩)
 obtain⟨c0,c1,c2,c3,c4,y⟩:=h.cells;clear h;generalize vt own W st db S b=PP at *;rw[hb] at HBR
 go_enter Tryz.func20,Tryz.ntmps20
 go_wp2_with (go_at_call 46;refine HBR.out.mono ?_;rintro e w1 ⟨rfl,h5⟩;obtain rfl:W=w1:=h5.symm)
 first|exact HQ.out|(go_ret2;exact HQ.out)
set_option maxRecDepth 100000 in
theorem znw (h:SAt own W st db mb tb rv rb S) (hbl:b.length≤100000000) (hb:S.broken=0) (hl:¬131072<b.length) (hn:4611686018427387904<S.next):Calls Tryz.prog 20 #[.pointer (some ⟨st,0,none⟩),.slice p b.length cap] W (vt own W st db S b):=by
 have HBR:=zd (Qw h);have HQ:Hid (vt own W st db S b (.returned (.tuple #[.int .i64 0,.int .i64 3])) W):=(show vt _ _ _ _ _ _ _ _ from by
  have er:S.put b=(S,0,3):=by unfold Sto.put;rw[if_neg (by simp[hb]),if_pos (Or.inr hn)]
  unfold vt;rw[er]
  exact⟨rfl,⟨_,_,_,_,h⟩,zm.refl _ _⟩)
 obtain⟨c0,c1,c2,c3,c4,y⟩:=h.cells;clear h;generalize vt own W st db S b=PP at *;rw[hb] at HBR
 go_enter Tryz.func20,Tryz.ntmps20
 go_wp2_with (go_at_call 46;refine HBR.out.mono ?_;rintro e w1 ⟨rfl,h5⟩;obtain rfl:W=w1:=h5.symm)
 first|exact HQ.out|(go_ret2;exact HQ.out)
set_option maxRecDepth 100000 in
theorem znv (h:SAt own W st db mb tb rv rb S) (hv:xw own W v (zg b)) (hbb:BL b) (hb:S.broken=0) (hl:b.length≤131072) (hn:S.next≤4611686018427387904) (hf:S.d.late.length+600<1000000):Calls Tryz.prog 20 #[.pointer (some ⟨st,0,none⟩),v] W (vt own W st db S b):=by
 have HBR:=zd (Qw h);rw[hb] at HBR;obtain⟨i0,hi,hz0,hz1,hz2⟩:=info_parts infoI;obtain⟨p,cap,rfl,hcap,hcap2,hpc⟩:=hv.ex;generalize hnn:(zg b).length=nb at *;obtain rfl:nb=b.length:=by rw[←hnn,zu]
 have HPT:=zd (zit b.length (by omega))
 have hp0:=qu b.length;have hp1:zk b.length≤570:=by unfold zk;omega
 have htl:=h.taken_le;obtain⟨c0,c1,c2,c3,c4,y⟩:=h.cells;have HS:=zd h;have HTK:Hid (∀j x,S.taken[j]? = some x→W.cell? ⟨tb,j,none⟩=some (.bool x)):=(λj x hx=>by rw[zf h.tak];simp[ul,hx])
 have htlt:=h.tb_lt;have HPUT:Hid (S.put b=if (yj S.taken (zk b.length) S.taken.length).length<zk b.length then (S,0,181)
  else if (S.d.writes (vd zo S.next b (yj S.taken (zk b.length) S.taken.length))).2≠0 then (S.did (S.d.writes (vd zo S.next b (yj S.taken (zk b.length) S.taken.length))).1 (S.d.writes (vd zo S.next b (yj S.taken (zk b.length) S.taken.length))).2,0,(S.d.writes (vd zo S.next b (yj S.taken (zk b.length) S.taken.length))).2)
  else if (S.d.writes (vd zo S.next b (yj S.taken (zk b.length) S.taken.length))).1.syncV≠0 then (S.did (S.d.writes (vd zo S.next b (yj S.taken (zk b.length) S.taken.length))).1.synced (S.d.writes (vd zo S.next b (yj S.taken (zk b.length) S.taken.length))).1.syncV,0,(S.d.writes (vd zo S.next b (yj S.taken (zk b.length) S.taken.length))).1.syncV)
  else ((Sto.kept { S with d:=(S.d.writes (vd zo S.next b (yj S.taken (zk b.length) S.taken.length))).1.synced } S.next b (yj S.taken (zk b.length) S.taken.length)).next1,S.next,0)):=(show _=_ from by unfold Sto.put;rw[if_neg (by simp[hb]),if_neg (by omega)])
 have HV:=zd hv;clear h hv;generalize hPP:vt own W st db S b=PP at *;generalize hpn:zk b.length=n at *
 go_enter Tryz.func20,Tryz.ntmps20
 go_wp2_with (first
  | (go_at_call 46;refine HBR.out.mono ?_;rintro e w1 ⟨rfl,h5⟩;obtain rfl:W=w1:=h5.symm)
  | (go_at_call 15;refine(HPT.out _).mono ?_;rintro e w1 ⟨rfl,h5⟩;obtain rfl:W=w1:=h5.symm))
 go_loopw [8,40] (λv i wr=>∃j:Nat,j≤S.taken.length∧i = .int .i64 j∧wr.ownsRow W.heap.size 3 1 v (yj S.taken n j).length (jj (yj S.taken n j))∧W.grownBy wr none) (λ_ i _=>S.taken.length-(intOf i).toNat)
 case atStart=>exact⟨0,Nat.zero_le _,rfl,by rw[show yj S.taken n 0 = [] from by simp[yj]];exact World.ownsRow_nil _ _ _ _,zi _⟩
 case round=>
  obtain⟨j,hj,rfl,ho,hg⟩:=hrel;obtain⟨pf,cf,rfl⟩:=Ze ho;have hfl:=zfk S.taken n j
  by_cases hlt:j<S.taken.length
  ·obtain⟨x,hx⟩:∃x,S.taken[j]? = some x:=⟨_,List.getElem?_eq_getElem hlt⟩
   have hc:=hg.cell (HTK.out j x hx) (by simp)
   have HO:=zd ho;have HG:=zd hg;have hgs:=hg.size
   cases x
   ·by_cases hfn:(yj S.taken n j).length<n
    ·have HF:=zd (zmi hx hfn)
     clear ho hg hx;generalize yj S.taken n j=fl at *
     go_wp2_with (at_builtin;refine wpList_append_own _ rfl _ _ 44 rfl W.heap.size 3 i0 (.int .i64 0) 1 8 Tryz.underlying44 hi hz0 hz1 hz2 rfl (by decide) _ _ _ rfl (HO.out.alloc _) ⟨wr.heap.size,0,none⟩ 1 1 [.int .i64 j] rfl rfl ?c1 ?c2 ?c3 ?c4 ?c5 ?_)
     case c1=>
      intro q u hq
      match q,hq with
      | 0,hq=>simp at hq;subst hq;simp[Addr.add,go_sem]
      | q+1,hq=>simp at hq
     case c2=>intro u hu;simp at hu;subst hu;rfl
     case c3=>unfold maxLen;omega
     case c4=>omega
     case c5=>simp;omega
     intro v' w9 ho hg9 _;have HO9:Hid (w9.ownsRow W.heap.size 3 1 v' (yj S.taken n (j+1)).length (jj (yj S.taken n (j+1)))):=(show World.ownsRow _ _ _ _ _ _ _ from by
      rw[HF.out];simpa[jj] using ho)
     have HG9:Hid (W.grownBy w9 none):=(show World.grownBy _ _ _ from by
      exact zkb HG.out HO.out hg9)
     clear ho hg9;go_wp2
     go_roundw
     case rel=>exact⟨j+1,by omega,by go_num,HO9.out,HG9.out⟩
     case measure=>simp[intOf];omega
    ·have HF:=zd (zka (t:=S.taken) hfn)
     clear ho hg hx;generalize yj S.taken n j=fl at *;go_wp2
     go_roundw
     case rel=>exact⟨j+1,by omega,by go_num,by rw[HF.out];exact HO.out,HG.out⟩
     case measure=>simp[intOf];omega
   ·have HF:=zd (zov (n:=n) hx)
    clear ho hg hx;generalize yj S.taken n j=fl at *;go_wp2
    go_roundw
    case rel=>exact⟨j+1,by omega,by go_num,by rw[HF.out];exact HO.out,HG.out⟩
    case measure=>simp[intOf];omega
  ·obtain rfl:j=S.taken.length:=by omega
   have hfr:∀i∈yj S.taken n S.taken.length,i<S.taken.length:=λi hi=>(zdl hi).1
   have hnd:=zca S.taken n S.taken.length;have HFR:=zd hfr;have HO:=zd ho;have HG:=zd hg;clear hfr hnd hg;generalize hfp:yj S.taken n S.taken.length=fr at *
   by_cases hfn:fr.length<n
   ·have HQ:Hid (PP (.returned (.tuple #[.int .i64 0,.int .i64 181])) wr):=(show PP _ _ from by
     rw[←hPP];unfold vt;rw[HPUT.out,if_pos hfn]
     exact⟨rfl,⟨_,_,_,_,HS.out.kept HG.out⟩,HG.out.os,HG.out.tape,HG.out.output,HG.out.size,λk hk _=>HG.out.block k hk (by simp)⟩)
    clear HPUT;go_wp2
    first|exact HQ.out|(go_ret2;exact HQ.out)
   ·have hfe:fr.length=n:=by have:=hfl.1;omega
    subst hfe;have hpl:(jj fr).length=fr.length:=by simp[jj]
    rw[←hpl] at ho;obtain⟨fb,cfb,e8,hfb1,hfb2,hrow⟩:=znj ho (by rw[hpl];omega)
    injection e8 with e8 _ e9
    subst e8 e9;rw[hpl] at hrow;generalize wr=wz at *;have hown:∀k,own k→k<W.heap.size:=λk hk=>HS.out.own_lt hk
    have HS2:Hid (SAt (λk=>own k∨k=fb) wz st db mb tb rv rb S):=(HS.out.owns HG.out (λk hk=>hk.imp id (λe=>by omega)) (λk hk=>by
     rcases hk with e|e
     ·have:=hown k e;have:=HG.out.size;omega
     ·omega))
    have HROW:Hid (∀w',zm (λk=>¬(own k∨k=fb)) wz w'→xw (λk=>k=fb) w' (.slice (some ⟨fb,0,none⟩) fr.length cf) (jj fr)):=(λw' ht=>hrow.turn λk hk=>ht.block k (by omega) (λe=>e (Or.inr hk)))
    have HB:Hid (∀w',zm (λk=>¬(own k∨k=fb)) wz w'→xw own w' (.slice p b.length cap) (zg b)):=(λw' ht=>(HV.out.turn λk hk=>HG.out.block k (hown k hk) (by simp)).turn λk hk=>ht.block k (Nat.lt_of_lt_of_le (hown k hk) HG.out.size) (λe=>e (Or.inl hk)))
    have HTO:Hid (∀w',zm (λk=>¬(own k∨k=fb)) wz w'→zm (λk=>¬own k) W w'):=(λw' ht=>zm.trans ⟨HG.out.os,HG.out.tape,HG.out.output,HG.out.size,λk hk _=>HG.out.block k hk (by simp)⟩ (ht.mono λk hk e=>hk (Or.inl e)))
    have hfb:¬own fb:=λe=>by have:=hown fb e;omega
    have hft:fr.length≤570:=by omega
    have HPUT2:=HPUT.out;rw[if_neg (by omega)] at HPUT2
    have HP:=zd HPUT2;clear HPUT HPUT2 ho hrow hpc HV;go_wp2
    go_loopw [64] (λi wr=>∃(j:Nat) (d:Dk),j≤fr.length∧i = .int .i64 j∧SAt (λk=>own k∨k=fb) wr st db mb tb rv rb { S with d:=d }∧zm (λk=>¬(own k∨k=fb)) wz wr∧Hid (S.d.writes (vd zo S.next b fr)=d.writes ((vd zo S.next b fr).drop j)∧d.late.length≤S.d.late.length+j)) (λi _=>fr.length-(intOf i).toNat)
    case atStart=>exact⟨0,S.d,Nat.zero_le _,rfl,HS2.out,zm.refl _ _,⟨by rw[List.drop_zero],Nat.le_refl _⟩⟩
    case round=>
     obtain⟨j,d,hj,rfl,hD,hT,HW⟩:=hrel
     by_cases hjl:j<fr.length
     ·obtain⟨at_,hat⟩:∃x,fr[j]? = some x:=⟨_,List.getElem?_eq_getElem hjl⟩
      have hca:wr.cell? ⟨fb,j,none⟩=some (.int .i64 at_):=by
       obtain⟨p',cap',e,_,_,hc⟩:=(HROW.out _ hT).ex
       injection e with q1 _ _
       rcases hc with h0|⟨a,h1,_,h2⟩
       ·have:(jj fr).length=0:=by rw[h0];rfl
        omega
       ·rw[h1] at q1
        cases q1
        have:=h2 j _ (zix hat)
        rwa [Addr.add_mid,Nat.zero_add] at this
      obtain⟨e0,e1,e2,e3,e4,ey⟩:=hD.cells;have HD:=zd hD;have HT:=zd hT;have hbl2:b.length≤131072:=hl;have hpj:j*230≤b.length:=by
       have h1:j<zk b.length:=by omega
       unfold zk at h1;omega
      clear hD hT
      go_upto_region 19 with fail
      obtain⟨lo,hlo⟩:∃lo,lo=j*230:=⟨_,rfl⟩;obtain⟨l2,hl2⟩:∃l2,l2=(j+1)*230:=⟨_,rfl⟩;obtain⟨hi,hhi⟩:∃hi,hi=min b.length l2:=⟨_,rfl⟩;obtain⟨q,hq⟩:∃q,q=(if cap=lo then p else Option.map (λx=>x.add lo) p):=⟨_,rfl⟩
      have hm1:IntKind.i64.wrap ((j:Int)*230)=(lo:Int):=by rw[IntKind.wrap_i64];omega
      have hm2:IntKind.i64.wrap ((j:Int)+1)=(j:Int)+1:=by rw[IntKind.wrap_i64];omega
      have hm3:IntKind.i64.wrap (((j:Int)+1)*230)=(l2:Int):=by rw[IntKind.wrap_i64];omega
      have hm4:(if l2<b.length then (l2:Int) else (b.length:Int))=(hi:Int):=by split <;> omega
      have hm5:hi≤cap∧lo≤hi:=by omega
      have HCH:Hid (∀w',zm (λk=>¬(own k∨k=fb)) wz w'→∀c,zx w' (.slice q (hi-lo) c) (xy b j)):=(λw' ht c=>by
       have:=mid_row (HB.out w' ht) (lo:=lo) (hi:=hi) (by omega) (by omega) (q:=q) (λh0=>by rw[hq,if_neg (by omega)]) (c:=c)
       have e:xy b j=(b.drop lo).take (hi-lo):=by
        unfold xy;rw[←hlo]
        rcases Nat.le_total 230 (b.length-lo) with h1|h1
        ·rw[show hi-lo=230 by omega]
        ·rw[List.take_of_length_le (by rw[List.length_drop];omega),List.take_of_length_le (by rw[List.length_drop];omega)]
       rw[e];exact this)
      have hch:(xy b j).length=hi-lo:=by rw[Qm];omega
      have HLE:=zd (show hi-lo≤230 by omega)
      have HM1:=zd hm1;have HM2:=zd hm2;have HM3:=zd hm3;have HM4:=zd hm4;have HM5:=zd hm5;have HQ5:=zd hq;have HC5:=zd hch;clear hm1 hm2 hm3 hm4 hm5 hq hch hlo hl2 hhi hcap hpj;refine qH (S:=λw':World=>w'.cell? ⟨st,3,none⟩=some (.int .i64 S.next)∧True) ⟨e3,trivial⟩ (λhHeld=>?_)
      refine qT 0 ?_;refine qT 1 ?_;refine qT 2 ?_;refine qT 3 ?_;refine qT 4 ?_;refine qT 5 ?_;refine qT 6 ?_;refine qT 7 ?_;refine qT 8 ?_ (v:=.int .i64 lo) (he:=λw hSw=>by go_simp;first|done|(rw[HM1.out];done)|(simp only[HM1.out];done))
      refine qT 9 ?_;refine qT 10 ?_;refine qT 11 ?_;refine qT 12 ?_ (v:=.int .i64 ((j:Int)+1)) (he:=λw hSw=>by go_simp;first|done|(rw[HM2.out];done)|(simp only[HM2.out];done))
      refine qT 13 ?_ (v:=.int .i64 l2) (he:=λw hSw=>by go_simp;first|done|(rw[HM3.out];done)|(simp only[HM3.out];done))
      refine qT 14 ?_ (v:=.int .i64 hi) (he:=λw hSw=>by go_simp;first|done|(rw[HM4.out];done)|(simp only[HM4.out];done))
      refine qT 15 ?_ (v:=.slice q (hi-lo) (cap-lo)) (he:=λw hSw=>by go_simp;rw[if_pos HM5.out.1,if_pos HM5.out.2,HQ5.out])
      refine qT 16 ?_ (v:=.agg #[.int .i64 S.next,.int .i64 j,.int .i64 fr.length,.slice q (hi-lo) (cap-lo)]);refine qO 17 λK hK=>?_
      refine ui rfl (Yk 138 rfl zqg) ?_;have hg5:=ze wr.drew (.cells #[.int .i64 0,.int .i64 0,.int .i64 0,.slice none 0 0] 138) none;refine hK.out _ _ ⟨hg5.cell hHeld.1 (by simp),trivial⟩ (λhHeld=>?_)
      clear hK K;refine qO 18 λK hK=>?_
      refine uq rfl (jt 138 _ _ rfl _ #[.int .i64 S.next,.int .i64 j,.int .i64 fr.length,.slice q (hi-lo) (cap-lo)] _ rfl rfl (by kernel_rfl) rfl (zas _ _ _ _ _ _)) ?_
      have hg6:=ze wr.drew (.cells #[.int .i64 S.next,.int .i64 j,.int .i64 fr.length,.slice q (hi-lo) (cap-lo)] 138) none;refine hK.out _ _ ⟨hg6.cell e3 (by simp),trivial⟩ (λhHeld=>?_)
      clear hK K;refine qD ?_;have hg6:=ze wr.drew (.cells #[.int .i64 S.next,.int .i64 j,.int .i64 fr.length,.slice q (hi-lo) (cap-lo)] 138) none;have hb6:=heap_alloc_new wr.drew (.cells #[.int .i64 S.next,.int .i64 j,.int .i64 fr.length,.slice q (hi-lo) (cap-lo)] 138);have hg7:wr.grownBy (wr.drew.alloc (.cells #[.int .i64 S.next,.int .i64 j,.int .i64 fr.length,.slice q (hi-lo) (cap-lo)] 138)) none:=zp (zj (zi _)) _;have HG7:=zd hg7;have q0:=(zf hb6 0);have q1:=(zf hb6 1);have q2:=(zf hb6 2);have q3:=(zf hb6 3);have hz7:wr.drew.heap.size<(wr.drew.alloc (.cells #[.int .i64 S.next,.int .i64 j,.int .i64 fr.length,.slice q (hi-lo) (cap-lo)] 138)).heap.size:=by simp
      clear hg6 hb6 hg7 hHeld hg5;generalize wr.drew.alloc (.cells #[.int .i64 S.next,.int .i64 j,.int .i64 fr.length,.slice q (hi-lo) (cap-lo)] 138)=w3 at *;generalize wr.drew.heap.size=pb at *;simp only[List.getElem?_toArray,List.getElem?_cons_zero,List.getElem?_cons_succ] at q0 q1 q2 q3;obtain⟨EX,hEX⟩:∃EX,EX=xe zo ⟨S.next,j,zk b.length,xy b j⟩:=⟨_,rfl⟩;have hmay:Up ⟨S.next,j,zk b.length,xy b j⟩:=Vn HS.out.ok.n0 hn hl (by omega)
      have hexl:EX.length=256:=by rw[hEX];exact js hmay.l1
      have hexb:BL EX:=by rw[hEX];exact Qn ((hbb.drop _).take _)
      have HEX:=zd (And.intro hexl hexb);have HTT:∀w',wr.grownBy w' none→zm (λk=>¬(own k∨k=fb)) wz w':=λw' hg=>HT.out.trans ⟨hg.os,hg.tape,hg.output,hg.size,λk hk _=>hg.block k hk (by simp)⟩
      have HTT:=zd HTT;have HPBK:Hid (Calls Tryz.prog 95 #[.agg #[.int .i64 S.next,.int .i64 j,.int .i64 fr.length,.slice q (hi-lo) (cap-lo)]] w3 λe w'=>e = .returned (.agg (zg EX).toArray)∧w3.grownBy w' none):=(by
       have:=zps (W:=w3) ⟨S.next,j,zk b.length,xy b j⟩ (v:=.slice q (hi-lo) (cap-lo)) (by have:=HS.out.ok.n0;show(0:Int)≤S.next;omega) (by show S.next<_;omega) (by show j<65536;omega) (by show zk b.length<65536;omega) hmay.l1 ((hbb.drop _).take _) (HCH.out w3 (HTT.out w3 HG7.out) _)
       rw[←hEX] at this;simp only[hpn] at this
       exact this)
      have HEX2:Hid ((vd zo S.next b fr)[j]? = some (at_,EX)):=(show _=_ from by rw[hEX];exact zbp hat)
      clear hEX hmay hexl hexb
      go_upto_region 21 with (first
       | (go_at_call 95;refine HPBK.out.mono ?_;rintro e w4 ⟨rfl,hg⟩;have HG8:=zd hg;clear hg)
       | (refine un rfl 136 rfl (vm zr) zew (zg zr).toArray rfl ?_)
       | (refine uf rfl 136 _ _ rfl _ (zg EX).toArray _ rfl rfl (Zi HEX.out.1) (blkE xt HEX.out.1) (blkA _) ?_))
      (try simp only[Act.put,List.setIfInBounds_toArray,List.set_cons_zero,List.set_cons_succ])
      have HG9:=zd (zp (zh HG7.out HG8.out) (.cells (zg EX).toArray 136));have hx9:=heap_alloc_new w4 (.cells (zg EX).toArray 136);have HX9:=zd hx9;have t0:=HG9.out.cell e0 (by simp)
      have HT9:=zd (HTT.out _ (zj HG9.out));have HD9:=zd (HD.out.kept (zj HG9.out));clear hx9 q0 q1 q2 q3;generalize w4.alloc (.cells (zg EX).toArray 136)=w5 at *;generalize w4.heap.size=xb at *;have hd5:d.late.length<1000000:=by have:=HW.out.2;omega
      have HWR:=zd (HD9.out.write (at_:Nat) (v:=.slice (some ⟨xb,0,none⟩) 256 256) (b:=EX) (by have h5:=zbr (w:=w5.drew) HX9.out 256 256 (by rw[HEX.out.1];exact Nat.le_refl _);rw[List.take_of_length_le (by rw[HEX.out.1];exact Nat.le_refl _)] at h5;exact h5) HEX.out.2 hd5)
      have HWA:=zd (zn7 HW.out.1 HEX2.out);have HWL:=za5 d (at_:Nat) EX;obtain⟨ev,hev⟩:∃ev,d.writeV (at_:Nat) EX=ev:=⟨_,rfl⟩;obtain⟨dn,hdn⟩:∃dn,d.written (at_:Nat) EX=dn:=⟨_,rfl⟩;rw[hev,hdn] at HWR HWA;rw[hdn] at HWL;have hWL2:dn.late.length≤S.d.late.length+(j+1):=by have:=HW.out.2;omega
      have HWLn:=zd hWL2;obtain⟨SN,hSN⟩:∃SN:Sto,SN = { S with d:=dn }:=⟨_,rfl⟩
      rw[←hSN] at HWR;have HSN:=zd hSN;clear hev hdn hWL2 HWL hSN
      by_cases hez:ev=0
      ·subst hez
       have HMET:Hid (∀w',SAt (λk=>own k∨k=fb) w' st db mb tb rv rb SN→Calls Tryz.prog 96 #[.pointer (some ⟨st,0,none⟩),.int .i64 0] w' λe w2=>e = .returned (.bool true)∧SAt (λk=>own k∨k=fb) w2 st db mb tb rv rb SN∧zm (λk=>¬(own k∨k=fb)) w' w2):=(λw' h'=>by
        have:=zje h' 0
        rwa [decide_eq_true rfl,show SN.met 0=SN from if_pos rfl] at this)
       refine qH (S:=λw':World=>w'.cell? ⟨st,0,none⟩=some (.pointer (some ⟨db,0,none⟩))∧True) ⟨t0,trivial⟩ (λhHeld=>?_)
       refine qT 0 ?_;refine qT 1 ?_;refine qT 2 ?_;refine qT 3 ?_;refine qT 4 ?_;refine qT 5 ?_;refine qT 6 ?_;refine qO 7 λK hK=>?_
       go_simp
       go_at_call 24
       refine HWR.out.mono ?_;rintro e w6 ⟨rfl,hA,hT,-⟩;have HA6:=zd hA;have HT6:=zd (HT9.out.trans hT);have hk6:=hA.cells.1;clear hA hT;refine hK.out _ _ ⟨hk6,trivial⟩ (λhHeld=>?_)
       clear hK K;refine qO 8 λK hK=>?_
       go_simp
       go_at_call 96
       refine(HMET.out _ HA6.out).mono ?_;rintro e w7 ⟨rfl,hB,hT⟩;have HB2:=zd hB;have HT2:=zd (HT6.out.trans hT);have hk7:=hB.cells.1;clear hB hT;refine hK.out _ _ ⟨hk7,trivial⟩ (λhHeld=>?_)
       clear hK K;refine qT 9 ?_;refine qD ?_
       go_wp2_with fail
       go_roundw
       case rel=>exact⟨j+1,dn,by omega,by go_num,by rw[←HSN.out];exact HB2.out,HT2.out,⟨HWA.out.1 rfl,HWLn.out⟩⟩
       case measure=>simp[intOf];omega
      ·have HMET:Hid (∀w',SAt (λk=>own k∨k=fb) w' st db mb tb rv rb SN→Calls Tryz.prog 96 #[.pointer (some ⟨st,0,none⟩),.int .i64 ev] w' λe w2=>e = .returned (.bool false)∧SAt (λk=>own k∨k=fb) w2 st db mb tb rv rb (SN.met ev)∧zm (λk=>¬(own k∨k=fb)) w' w2):=(λw' h'=>by
        have:=zje h' ev
        rwa [decide_eq_false hez] at this)
       have HBRK:Hid ((SN.met ev).broken=ev):=(show _=_ from by unfold Sto.met;rw[if_neg hez])
       have HQ:Hid (∀w',SAt (λk=>own k∨k=fb) w' st db mb tb rv rb (SN.met ev)→zm (λk=>¬(own k∨k=fb)) wz w'→PP (.returned (.tuple #[.int .i64 0,.int .i64 ev])) w'):=(λw' h1 h2=>by
        rw[←hPP];unfold vt;rw[HP.out,HWA.out.2 hez,if_pos hez];refine⟨rfl,⟨mb,tb,rv,rb,?_⟩,HTO.out w' h2⟩;have:=h1.less (own':=own) (λk hk=>Or.inl hk)
        rw[HSN.out] at this
        exact this)
       generalize SN.met ev=SE at *;refine qH (S:=λw':World=>w'.cell? ⟨st,0,none⟩=some (.pointer (some ⟨db,0,none⟩))∧True) ⟨t0,trivial⟩ (λhHeld=>?_)
       refine qT 0 ?_;refine qT 1 ?_;refine qT 2 ?_;refine qT 3 ?_;refine qT 4 ?_;refine qT 5 ?_;refine qT 6 ?_;refine qO 7 λK hK=>?_
       go_simp
       go_at_call 24
       refine HWR.out.mono ?_;rintro e w6 ⟨rfl,hA,hT,-⟩;have HA6:=zd hA;have HT6:=zd (HT9.out.trans hT);have hk6:=hA.cells.1;clear hA hT;refine hK.out _ _ ⟨hk6,trivial⟩ (λhHeld=>?_)
       clear hK K;refine qO 8 λK hK=>?_
       go_simp
       go_at_call 96
       refine(HMET.out _ HA6.out).mono ?_;rintro e w7 ⟨rfl,hB,hT⟩;have HB2:=zd hB;have HT2:=zd (HT6.out.trans hT);have hk7:=hB.cells.1;clear hB hT;refine hK.out _ _ ⟨hk7,trivial⟩ (λhHeld=>?_)
       clear hK K;refine qT 9 ?_;refine qD ?_;obtain⟨-,-,-,-,z4,-⟩:=HB2.out.cells;rw[HBRK.out] at z4;have HB2x:=HB2
       go_upto_region 22 with fail
       refine qH (S:=λw':World=>w'.cell? ⟨st,4,none⟩=some (.int .i64 ev)∧True) ⟨z4,trivial⟩ (λhHeld=>?_)
       refine qT 0 ?_;refine qT 1 ?_;refine qT 2 ?_;refine qT 3 ?_;refine qT 4 ?_;refine qT 5 ?_;refine qD ?_
       go_wp2_with fail
       exact HQ.out _ (HB2.out.kept (zj (zi _))) (HT2.out.trans ⟨rfl,rfl,rfl,Nat.le_refl _,λ_ _ _=>rfl⟩)
     ·obtain rfl:j=fr.length:=by omega
      have hws:S.d.writes (vd zo S.next b fr)=(d,0):=by
       have h5:=HW.out.1;rw[List.drop_of_length_le (by unfold vd;simp)] at h5
       exact h5
      have HP2:=HP.out;rw[hws] at HP2;simp only[ne_eq,not_true,if_false] at HP2;obtain⟨e2,hE2⟩:∃e2,d.syncV=e2:=⟨_,rfl⟩;obtain⟨SF,hSF⟩:∃SF:Sto,SF = { S with d:=d.synced }:=⟨_,rfl⟩
      have HSY:Hid (Calls Tryz.prog 25 #[.pointer (some ⟨db,0,none⟩)] wr λe w2=>e = .returned (.int .i64 e2)∧SAt (λk=>own k∨k=fb) w2 st db mb tb rv rb SF∧zm (λk=>¬(own k∨k=fb)) wr w2):=(hD.sync.mono λe w2 ⟨a1,a2,a3,_⟩=>by
       subst hSF
       exact⟨by rw[a1];simp only[hE2],a2,a3⟩)
      obtain⟨e0,e1,e3',e3,e4,ey⟩:=hD.cells;have HT:=zd hT;have HP:=zd HP2;rw[hE2] at HP;have HSF:=zd hSF;clear HP2 hws hD hT hE2 hSF HW
      by_cases he2:e2=0
      ·subst he2
       have HMET:Hid (∀w',SAt (λk=>own k∨k=fb) w' st db mb tb rv rb SF→Calls Tryz.prog 96 #[.pointer (some ⟨st,0,none⟩),.int .i64 0] w' λe w2=>e = .returned (.bool true)∧SAt (λk=>own k∨k=fb) w2 st db mb tb rv rb SF∧zm (λk=>¬(own k∨k=fb)) w' w2):=(λw' h'=>by
        have:=zje h' 0
        rwa [decide_eq_true rfl,show SF.met 0=SF from if_pos rfl] at this)
       have HQ:Hid (∀w' rv' rb',SAt own w' st db mb tb rv' rb' (SF.kept S.next b fr).next1→zm (λk=>¬own k) W w'→PP (.returned (.tuple #[.int .i64 S.next,.int .i64 0])) w'):=(λw' rv' rb' h1 h2=>by
        rw[←hPP];unfold vt;rw[HP.out,if_neg (by simp)]
        rw[HSF.out] at h1
        exact⟨rfl,⟨mb,tb,rv',rb',h1⟩,h2⟩)
       have HNX:Hid (SF.next=S.next∧SF.taken=S.taken):=(show _∧_ from by rw[HSF.out];exact⟨rfl,rfl⟩)
       have hn0:=HS.out.ok.n0
       go_upto_region 26 with (first
        | (go_at_call 25;refine HSY.out.mono ?_;rintro e w6 ⟨rfl,hA,hT⟩;have HA6:=zd hA;have HT6:=zd (HT.out.trans hT);have hk6:=hA.cells.1;clear hA hT)
        | (go_at_call 96;refine(HMET.out _ HA6.out).mono ?_;rintro e w7 ⟨rfl,hB,hT⟩;have HB2:=zd hB;have HT2:=zd (HT6.out.trans hT);have hk7:=hB.cells.1;clear hB hT))
       obtain⟨-,-,-,z3,-,-⟩:=HB2.out.cells;rw[HNX.out.1] at z3;have HT8:=zd (HT2.out.trans (b:=w7) (c:=w7.drew) ⟨rfl,rfl,rfl,Nat.le_refl _,λ_ _ _=>rfl⟩)
       have HB8:=zd (HB2.out.kept (zj (zi _)));have HCL:=zd (Xb (W:=w7.drew) (HB.out _ HT8.out).raw (by omega) (λe=>by
        obtain⟨p',cap',e1,_,_,e2⟩:=(HB.out _ HT8.out).ex
        rcases e2 with e2|⟨a,e2,_⟩
        ·simpa[zg] using e2
        ·rw[e1,e2] at e;cases e))
       have HR8:=zd (HROW.out _ HT8.out);refine qH (S:=λw':World=>w'.cell? ⟨st,3,none⟩=some (.int .i64 S.next)∧True) ⟨z3,trivial⟩ (λhHeld=>?_)
       refine qT 0 ?_;refine qT 1 ?_;refine qT 2 ?_;refine qT 3 ?_;refine qT 4 ?_;refine qT 5 ?_;refine qT 7 ?_;refine qO 6 λK hK=>?_
       go_simp
       go_at_call 97
       refine HCL.out.mono ?_;rintro e w8 ⟨v8,rfl,ho,hg⟩;have h5:(zg b).length=b.length:=zu b;rw[←h5] at ho;obtain⟨r1,r2⟩:=zc4 ho;obtain⟨p8,c8,rfl⟩:=Ze ho;rw[h5] at r1 r2;have z8:=hg.cell z3 (by simp)
       have HM8:=zd ((HB8.out.shift hfb).more hg (rb':=λk=>(rb k∨k=fb)∨(Value.slice p8 b.length c8).ownBlock=some k) (λk hk=>Or.inl hk) (λk hk=>hk.imp id (λe=>(r2 k e).1)) (λk hk=>by
        have hs:=hg.size
        rcases hk with (e|e)|e
        ·have:=HB8.out.rb_lt e;omega
        ·have:=HB8.out.own_lt (Or.inr e);omega
        ·exact(r2 k e).2))
       have HKP:=zd (skeep HM8.out S.next (v:=(.slice p8 b.length c8,.slice (some ⟨fb,0,none⟩) fr.length cf)) (b:=b) (bl:=fr) (r1.mono λk hk=>Or.inr hk) ((HR8.out.turn λk hk=>hg.block k (by have:=HB8.out.own_lt (k:=k) (Or.inr hk);omega) (by simp)).mono λk hk=>Or.inl (Or.inr hk)) ⟨λe=>by rw[e] at hp0;exact absurd hp0 (by decide),λi hi=>by rw[HNX.out.2];exact HFR.out i hi⟩ ⟨hbb,hl⟩)
       have HT8b:=zd ((HTO.out _ HT8.out).trans ⟨hg.os,hg.tape,hg.output,hg.size,λk hk _=>hg.block k hk (by simp)⟩)
       unfold Vv at HKP;clear ho hg r1 r2;refine hK.out _ _ ⟨z8,trivial⟩ (λhHeld=>?_)
       clear hK K;refine qT 8 ?_ (v:=.agg #[.slice p8 b.length c8,.slice (some ⟨fb,0,none⟩) fr.length cf]);refine qO 9 λK hK=>?_
       go_simp
       go_at_call 94
       refine(HKP.out).mono ?_;rintro e w9 ⟨rfl,⟨rv9,hK⟩,hT⟩;have HK9:=zd hK;have HT9:=zd hT;have z9:=hK.cells.2.2.2.1;clear hK hT;refine hK.out _ _ ⟨by rw[z9];exact congrArg (λz=>some (Value.int IntKind.i64 z)) HNX.out.1,trivial⟩ (λhHeld=>?_)
       clear hK K;refine qD ?_;obtain⟨-,-,-,y3,-,yy⟩:=HK9.out.cells;have hy3:(SF.kept S.next b fr).next=S.next:=HNX.out.1;rw[hy3] at y3;have HN:=zd (HK9.out.setNext (S.next+1) (by omega) (by omega))
       have HE9:Hid ({ (SF.kept S.next b fr) with next:=S.next+1 }=(SF.kept S.next b fr).next1):=(show _=_ from by unfold Sto.next1;rw[hy3])
       have HY3:=zd hy3;have HW1:Hid (wrap64 (S.next+1)=S.next+1∧wrap64 (S.next+1-1)=S.next):=(show _∧_ from by unfold wrap64;omega)
       clear hy3;go_wp2;rw[HY3.out,HW1.out.1,HW1.out.2];have HN1:=HN.out.1;rw[HE9.out] at HN1
       exact HQ.out _ rv9 _ HN1 ((HT8b.out.trans HT9.out).trans HN.out.2)
      ·have HMET:Hid (∀w',SAt (λk=>own k∨k=fb) w' st db mb tb rv rb SF→Calls Tryz.prog 96 #[.pointer (some ⟨st,0,none⟩),.int .i64 e2] w' λe w2=>e = .returned (.bool false)∧SAt (λk=>own k∨k=fb) w2 st db mb tb rv rb (SF.met e2)∧zm (λk=>¬(own k∨k=fb)) w' w2):=(λw' h'=>by
        have:=zje h' e2
        rwa [decide_eq_false he2] at this)
       have HBRK:Hid ((SF.met e2).broken=e2):=(show _=_ from by unfold Sto.met;rw[if_neg he2])
       have HQ:Hid (∀w',SAt (λk=>own k∨k=fb) w' st db mb tb rv rb (SF.met e2)→zm (λk=>¬(own k∨k=fb)) wz w'→PP (.returned (.tuple #[.int .i64 0,.int .i64 e2])) w'):=(λw' h1 h2=>by
        rw[←hPP];unfold vt;rw[HP.out,if_pos he2];refine⟨rfl,⟨mb,tb,rv,rb,?_⟩,HTO.out w' h2⟩;have:=h1.less (own':=own) (λk hk=>Or.inl hk)
        rw[HSF.out] at this
        exact this)
       generalize SF.met e2=SE at *
       go_upto_region 25 with (first
        | (go_at_call 25;refine HSY.out.mono ?_;rintro e w6 ⟨rfl,hA,hT⟩;have HA6:=zd hA;have HT6:=zd (HT.out.trans hT);have hk6:=hA.cells.1;clear hA hT)
        | (go_at_call 96;refine(HMET.out _ HA6.out).mono ?_;rintro e w7 ⟨rfl,hB,hT⟩;have HB2:=zd hB;have HT2:=zd (HT6.out.trans hT);have hk7:=hB.cells.1;clear hB hT))
       obtain⟨-,-,-,-,z4,-⟩:=HB2.out.cells;rw[HBRK.out] at z4;refine qH (S:=λw':World=>w'.cell? ⟨st,4,none⟩=some (.int .i64 e2)∧True) ⟨z4,trivial⟩ (λhHeld=>?_)
       refine qT 0 ?_;refine qT 1 ?_;refine qT 2 ?_;refine qT 3 ?_;refine qT 4 ?_;refine qT 5 ?_;refine qD ?_
       go_wp2_with fail
       exact HQ.out _ (HB2.out.kept (zj (zi _))) (HT2.out.trans ⟨rfl,rfl,rfl,Nat.le_refl _,λ_ _ _=>rfl⟩)
theorem sput (h:SAt own W st db mb tb rv rb S) (hv:xw own W v (zg b)) (hbb:BL b) (hl:b.length≤100000000) (hf:S.d.late.length+600<1000000):Calls Tryz.prog 20 #[.pointer (some ⟨st,0,none⟩),v] W (vt own W st db S b):=by
 by_cases hb:S.broken=0
 ·by_cases h1:131072<b.length
  ·obtain⟨p,cap,rfl,_,_,_⟩:=hv.ex
   rw[zu]
   exact zk8 h hl hb h1
  ·by_cases h2:4611686018427387904<S.next
   ·obtain⟨p,cap,rfl,_,_,_⟩:=hv.ex
    rw[zu]
    exact znw h hl hb h1 h2
   ·exact znv h hv hbb hb (by omega) (by omega) hf
 ·obtain⟨p,cap,rfl,_,_,_⟩:=hv.ex
  rw[zu]
  exact zjk h hl hb
end
end Go.Proofs.YtbcbhlfjgobejaaGreat
