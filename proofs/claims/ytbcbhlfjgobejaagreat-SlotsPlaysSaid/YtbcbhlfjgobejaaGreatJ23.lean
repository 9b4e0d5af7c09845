/- The document's disk: Sync: the walk. Conditions: none, or as the theorems say. -/
import Derived.Test.YtbcbhlfjgobejaaGreatJ22
import Derived.Test.YtbcbhlfjgobejaaGreatJ14
import Derived.Test.YtbcbhlfjgobejaaGreatJ19
import Derived.Lib.AppendStr
import Derived.Deep.OwnRows
import Derived.Laws.OwnMore
set_option linter.unusedSimpArgs false
set_option linter.unusedVariables false
namespace Go.Proofs.YtbcbhlfjgobejaaGreat
set_option maxHeartbeats 200000000
open Go.RowKit Go.Sf Go.Shelf
theorem xp {A:Nat→Prop} {X Y:World} (hg:X.grownBy Y none):zm A X Y:=⟨hg.os,hg.tape,hg.output,hg.size,fun k hk _=>hg.block k hk (by simp)⟩
def RDk.setB (R:RDk) (i:Nat) (z:List Int):RDk:={ R with blocks:=R.blocks.set i ⟨z,[]⟩ }
theorem zcn:∀(l:List zbg) (i:Nat) (z:List Int),((l.set i ⟨z,[]⟩).map fun b=>b.late.length).sum≤(l.map fun b=>b.late.length).sum
 | [],i,z=>by simp
 | a :: t,0,z=>by simp
 | a :: t,i+1,z=>by
  have:=zcn t i z;simp only[List.set_cons_succ,List.map_cons,List.sum_cons];omega
section
variable {rs rs' : Nat → Prop} {W W' : World} {db : Nat} {bv : Value} {bs : List (List Int × Value)} {R R' : RDk}
theorem um.setB {g cap i:Nat} {x:zbg} {z:List Int} {vl:Value} (h:um rs W db (.slice (some ⟨g,0,none⟩) R.blocks.length cap) bs R) (hx:R.blocks[i]? = some x) (hb:bs[i]? = some (x.settled,vl)) (hz:z.length=256∧BL z) :
  um rs ((W.setCell ⟨g,i*2,none⟩ (.string (ofB z))).setCell ⟨g,i*2+1,none⟩ (.slice none 0 0)) db (.slice (some ⟨g,0,none⟩) R.blocks.length cap) (bs.set i (z,.slice none 0 0)) (R.setB i z)∧zm rs W ((W.setCell ⟨g,i*2,none⟩ (.string (ofB z))).setCell ⟨g,i*2+1,none⟩ (.slice none 0 0)):=by
 have h1:=zw W g (i*2) (.string (ofB z));have h2:=zw (W.setCell ⟨g,i*2,none⟩ (.string (ofB z))) g (i*2+1) (.slice none 0 0);have hlen:(R.setB i z).blocks.length=R.blocks.length:=by simp[RDk.setB]
 have hi:i<bs.length:=(List.getElem?_eq_some_iff.1 hb).1;have hbi:bs[i]=(x.settled,vl):=(List.getElem?_eq_some_iff.1 hb).2;have hgd:g≠db:=fun e=>h.ne (by rw[←e];rfl)
 have hgr:=h.rbv g rfl;have hsz:W.heap.size=((W.setCell ⟨g,i*2,none⟩ (.string (ofB z))).setCell ⟨g,i*2+1,none⟩ (.slice none 0 0)).heap.size:=by simp[World.setCell]
 have hold:∀k,k<W.heap.size→k≠g→((W.setCell ⟨g,i*2,none⟩ (.string (ofB z))).setCell ⟨g,i*2+1,none⟩ (.slice none 0 0)).heap[k]? = W.heap[k]?:=fun k hk hne=>(h2.block k (Nat.lt_of_lt_of_le hk h1.size) (fun e=>hne (by injection e))).trans (h1.block k hk (fun e=>hne (by injection e)))
 have hfew:=h.few;refine⟨⟨(hold db (h.lt db h.rdb) (fun e=>hgd e.symm)).trans h.box,?_,by rw[List.length_set,hlen];exact h.len,fun j y w hy hw=>?_,h.rdb,h.rbv,fun k hk=>by rw[←hsz];exact h.lt k hk,by rw[hlen];exact h.n,h.w0,h.w1,fun y hy=>?_,?_⟩,?_⟩
 ·have hrow:=h.row
  rw[←h.len] at hrow ⊢;have a1:=yo.set Vy hrow i 0 hi (by omega) (z,vl) (.string (ofB z)) (by rw[hbi];rfl)
  have hl2:(bs.set i (z,vl)).length=bs.length:=List.length_set;have a2:=yo.set (g:=g) (cap:=cap) Vy (by rw[hl2];exact a1) i 1 (by rw[hl2];exact hi) (by omega) (z,Value.slice none 0 0) (.slice none 0 0) (by rw[List.getElem_set_self];rfl)
  rw[List.set_set,hl2] at a2
  exact a2
 ·rcases Nat.decEq j i with hne|rfl
  ·rw[List.getElem?_set_ne (fun e=>hne e.symm)] at hw
   have hy':R.blocks[j]? = some y:=by
    simp only[RDk.setB] at hy
    rwa [List.getElem?_set_ne (fun e=>hne e.symm)] at hy
   obtain⟨a1,a2⟩:=h.at_ j y w hy' hw
   exact⟨a1,a2.turn fun k hk=>hold k (h.lt k hk.1) (fun e=>hk.2.2 (by rw[e];rfl))⟩
  ·rw[List.getElem?_set_self hi] at hw
   cases hw
   simp only[RDk.setB] at hy;rw[List.getElem?_set_self (by rw[←h.len];exact hi)] at hy
   cases hy
   exact⟨rfl,Yv.nil _ _⟩
 ·simp only[RDk.setB] at hy
  rcases List.mem_or_eq_of_mem_set hy with h3|h3
  ·exact h.ok y h3
  ·rw[h3]
   exact⟨hz,by simp⟩
 ·exact Nat.le_trans (zcn R.blocks i z) hfew
 ·exact⟨h2.os.trans h1.os,h2.tape.trans h1.tape,h2.output.trans h1.output,Nat.le_of_eq hsz,fun k hk hn=>hold k hk (fun e=>hn (e ▸ hgr))⟩
def RDk.syncK (R:RDk):Nat→RDk
 | 0=>R
 | k+1=>match (R.syncK k).blocks[k]? with
  | none=>R.syncK k
  | some x=>if 0<x.late.length then (R.syncK k).setB k (qv x.late x.settled) else R.syncK k
def RDk.syncV (R:RDk):Int:=if R.gone=true then 180 else if R.stepB=true then 0 else 180
def RDk.synced (R:RDk):RDk:=if R.gone=true then R else if R.stepB=true then R.went.syncK R.blocks.length else R.fell
theorem Xh (R:RDk):∀k,(R.syncK k).blocks.length=R.blocks.length
 | 0=>rfl
 | k+1=>by
  unfold RDk.syncK
  split
  ·exact Xh R k
  ·split
   ·simp[RDk.setB,Xh R k]
   ·exact Xh R k
theorem zfu {x:zbg} (h:(x.settled.length=256∧BL x.settled)∧∀w∈x.late,w.2.length=256∧BL w.2):(qv x.late x.settled).length=256∧BL (qv x.late x.settled):=by
 unfold qv
 cases e:x.late.getLast? with
 | none=>exact h.1
 | some w=>exact h.2 w (List.mem_of_getLast? e)
set_option maxRecDepth 100000 in
theorem rsync (h:R18 rs W db R):Calls Tryz.prog 110 #[.pointer (some ⟨db,0,none⟩)] W fun e w'=>e = .returned (.int .i64 R.syncV)∧R18 rs w' db R.synced∧zm rs W w':=by
 have HST:=zd (rstep h)
 cases hgn:R.gone
 ·have e1:R.syncV=if R.stepB=true then 0 else 180:=by unfold RDk.syncV;rw[hgn];rfl
  have e2:R.synced=if R.stepB=true then R.went.syncK R.blocks.length else R.fell:=by unfold RDk.synced;rw[hgn];rfl
  rw[e1,e2];clear e1 e2;obtain⟨bv,bs,h⟩:=h;obtain⟨c0,c1,c2,c3,y⟩:=h.cells;rw[hgn] at c3
  cases hsb:R.stepB
  ·rw[hsb] at HST
   simp only[Bool.false_eq_true,if_false] at HST ⊢;clear h;generalize R.fell=RF at *
   go_enter Tryz.func110,Tryz.ntmps110
   go_wp2_with (go_at_call 119;refine HST.out.mono ?_;rintro e w1 ⟨rfl,hr,ht⟩;have HR:=zd hr;have HT:=zd ht;clear hr ht)
   go_ret
   exact⟨rfl,HR.out,HT.out⟩
  ·rw[hsb] at HST
   simp only[if_true] at HST ⊢;have hn:=h.n;obtain⟨m,hm⟩:∃m,m=R.blocks.length:=⟨_,rfl⟩;have HM:Hid (R.went.blocks.length=m):=(show _=_ from hm.symm)
   rw[←hm] at hn ⊢;clear h hm;generalize R.went=RW at *
   go_enter Tryz.func110,Tryz.ntmps110
   go_upto_region 4 with (go_at_call 119;refine HST.out.mono ?_;rintro e w1 ⟨rfl,hr,ht⟩;have HR:=zd hr;have HT:=zd ht;clear hr ht)
   clear c0 c1 c2 c3 y;have HK0:Hid (R18 rs w1 db (RW.syncK 0)):=(show R18 _ _ _ _ from HR.out)
   go_loopw [3] (fun i wr=>∃k:Nat,k≤m∧i = .int .i64 k∧R18 rs wr db (RW.syncK k)∧zm rs W wr) (fun i _=>m-(intOf i).toNat)
   case atStart=>exact⟨0,by omega,rfl,HK0.out,HT.out⟩
   case round=>
    obtain⟨k,hk,rfl,hr,ht⟩:=hrel;clear HK0 HR HT;have HT:=zd ht;have HRK:=zd hr;obtain⟨bv,bs,h⟩:=hr;have hlen:=Xh RW k;rw[HM.out] at hlen;obtain⟨p,cap,rfl,-,-⟩:=h.form;obtain⟨c0,c1,c2,c3,y⟩:=h.cells;rw[hlen] at c0
    by_cases hkm:k<m
    ·have hx:(RW.syncK k).blocks[k]? = some (RW.syncK k).blocks[k]:=List.getElem?_eq_getElem (by omega)
     obtain⟨g,cap',p1,n,c,e9,-,cs,cl,hnn,hl,hfr,hbs,hgd⟩:=h.blk hx
     injection e9 with e9 _ e10
     subst e9 e10;have hok:=zfu (h.ok _ (List.getElem_mem (by omega:k<(RW.syncK k).blocks.length)))
     have hfew:n≤1000000:=by
      have h1:n≤yf (RW.syncK k):=by
       rw[hnn];unfold yf
       exact Yf _ _ (List.mem_map.2 ⟨_,List.getElem_mem (by omega:k<(RW.syncK k).blocks.length),rfl⟩)
      have:=h.few;omega
     have hsb:=h.setB (vl:=.slice p1 n c) hx hbs hok;have HN:Hid (RW.syncK (k+1)=if 0<n then (RW.syncK k).setB k (qv (RW.syncK k).blocks[k].late (RW.syncK k).blocks[k].settled) else RW.syncK k):=(show _=_ from by
      conv=>lhs;unfold RDk.syncK
      rw[hx,hnn])
     have HSB:=zd hsb;have HL:=zd hl;clear h hx hl hbs hok hsb;generalize (RW.syncK k).blocks[k]=x at *;obtain⟨xs,xl⟩:=x;simp only at *
     by_cases h0:0<n
     ·obtain⟨a,off,rfl,hrs,hc⟩:=HL.out.last h0 xs
      have hag:g≠a:=fun e=>hrs.2.2 e.symm
      rw[if_pos h0] at HN;have HN2:=zd HN.out;generalize (RW.syncK k).setB k (qv xl xs)=RS at *;have hnz:=zd hnn;clear hnn HN;obtain⟨n1,rfl⟩:∃n1,n=n1+1:=⟨n-1,by omega⟩
      simp only[Nat.add_sub_cancel] at hc;generalize qv xl xs=z at *;have f1:=hfr (k*2);have f2:=hfr (k*2+1);have b1:(0:Int)≤(n1:Int):=by omega
      have b2:(n1:Int)<(n1:Int)+1:=by omega
      have b3:(0:Int)≤(k:Int):=by omega
      have b4:(k:Int)<(m:Int):=by omega
      have b6:IntKind.i64.wrap (n1:Int)=(n1:Int):=by rw[IntKind.wrap_i64];omega
      have b5:(n1:Int)<((n1+1:Nat):Int):=by omega
      go_upto_region 8 with fail
      go_region_held3 (fun w'=>w'.cell? ⟨db,0,none⟩=some (.slice (some ⟨g,0,none⟩) m cap)∧w'.cell? ⟨a,off+n1*2+1,none⟩=some (.string (ofB z))) (first|assumption|go_keep) (fail)
      go_wp2;refine⟨⟨k+1,by omega,by simp,?_,?_⟩,by simp[intOf];omega⟩
      ·exact R18.kept (by rw[HN2.out];exact⟨_,_,HSB.out.1⟩) (zk (zj _))
      ·exact HT.out.trans (HSB.out.2.trans (xp (zk (zj _))))
     ·rw[if_neg h0] at HN
      have hn0:n=0:=by omega
      subst hn0;clear hnn;have HT2:Hid (∃k2:Nat,k2≤m∧(k:Int)+1=k2∧R18 rs wr db (RW.syncK k2)):=(show ∃_,_ from ⟨k+1,by omega,by simp,by rw[HN.out];exact HRK.out⟩)
      go_wp2;refine⟨⟨k+1,by omega,by simp,by rw[HN.out];exact HRK.out,HT.out⟩,by simp[intOf];omega⟩
    ·obtain rfl:k=m:=by omega
     go_wp2
     go_ret
     exact⟨rfl,HRK.out,HT.out⟩
 ·have e1:R.syncV=180:=by unfold RDk.syncV;rw[hgn];rfl
  have e2:R.synced=R:=by unfold RDk.synced;rw[hgn];rfl
  rw[e1,e2];have HR:=zd h;obtain⟨bv,bs,h⟩:=h;obtain⟨c0,c1,c2,c3,y⟩:=h.cells;rw[hgn] at c3;clear h e1 e2 HST
  go_enter Tryz.func110,Tryz.ntmps110
  go_wp2
  go_ret
  exact⟨rfl,HR.out,zm.refl _ _⟩
end
open Go.RowKit Go.Sf
theorem zgf (m:Nat) (h:m<9223372036854775808):IntKind.i64.wrap ((m:Int).tdiv ((230:Nat):Int))=((m / 230:Nat):Int):=by
 have e:((m:Int).tdiv ((230:Nat):Int))=((m / 230:Nat):Int):=rfl;rw[e,IntKind.wrap_i64];omega
set_option maxRecDepth 100000 in
theorem parts_all (n:Int) (h1:n<9223372036854775808) (W:World):Calls Tryz.prog 15 #[.int .i64 n] W fun e w'=>e = .returned (.int .i64 (if n<0 then 0 else (zo n.toNat:Int)))∧w'=W:=by
 by_cases h0:n<0
 ·go_enter Tryz.func15,Tryz.ntmps15
  go_wp2
  go_ret
  exact⟨by simp,rfl⟩
 ·simp only[h0,if_false]
  obtain⟨m,rfl⟩:∃m:Nat,n=(m:Int):=⟨n.toNat,by omega⟩
  simp only[Int.toNat_natCast];have hq:=zgf m (by omega)
  have hr:=zew m 230;have HE:Hid ((m / 230=0→m%230=0→zo m=1)∧(1≤m%230→zo m=m / 230+1)∧(m%230=0→1≤m / 230→zo m=m / 230)):=(show _∧_∧_ from by unfold zo;omega)
  have hql:m / 230<4611686018427387904:=by omega
  have hrl:m%230<230:=Nat.mod_lt _ (by omega)
  generalize m / 230=q at *;generalize m%230=r at *;have HQ:=zd hq;have HR:=zd hr;generalize zo m=pm at *;clear hq hr h1
  go_enter Tryz.func15,Tryz.ntmps15
  go_wp2_with (first
   | (refine Xu _ rfl _ _ _ _ rfl (m:Int) (230:Nat) (q:Int) rfl rfl (by decide) HQ.out ?_)
   | (refine Yi _ rfl _ _ _ _ rfl (m:Int) (230:Nat) (r:Int) rfl rfl (by decide) HR.out ?_))
  all_goals go_ret
  all_goals (refine⟨congrArg (fun z=>Ending.returned (Value.int .i64 z)) ?_,rfl⟩;have:=HE.out;first|omega|(split <;> omega))
set_option maxRecDepth 100000 in
theorem zci (n:Int) (h1:n<9223372036854775808) (W:World):Calls Tryz.prog 16 #[.int .i64 n] W fun e w'=>e = .returned (.int .i64 (if n<0 then 0 else (zo n.toNat:Int)))∧w'=W:=by
 by_cases h0:n<0
 ·go_enter Tryz.func16,Tryz.ntmps16
  go_wp2
  go_ret
  exact⟨by simp,rfl⟩
 ·simp only[h0,if_false]
  obtain⟨m,rfl⟩:∃m:Nat,n=(m:Int):=⟨n.toNat,by omega⟩
  simp only[Int.toNat_natCast];have hq:=zgf m (by omega)
  have hr:=zew m 230;have HE:Hid ((m / 230=0→m%230=0→zo m=1)∧(1≤m%230→zo m=m / 230+1)∧(m%230=0→1≤m / 230→zo m=m / 230)):=(show _∧_∧_ from by unfold zo;omega)
  have hql:m / 230<4611686018427387904:=by omega
  have hrl:m%230<230:=Nat.mod_lt _ (by omega)
  generalize m / 230=q at *;generalize m%230=r at *;have HQ:=zd hq;have HR:=zd hr;generalize zo m=pm at *;clear hq hr h1
  by_cases hr1:1≤r
  ·have hr2:((0:Int)<(r:Int))=True:=by simp;omega
   go_enter Tryz.func16,Tryz.ntmps16
   go_wp2_with (first
    | (refine Xu _ rfl _ _ _ _ rfl (m:Int) (230:Nat) (q:Int) rfl rfl (by decide) HQ.out ?_)
    | (refine Yi _ rfl _ _ _ _ rfl (m:Int) (230:Nat) (r:Int) rfl rfl (by decide) HR.out ?_))
   all_goals go_ret
   all_goals (refine⟨congrArg (fun z=>Ending.returned (Value.int .i64 z)) ?_,rfl⟩;have:=HE.out;first|omega|(split <;> omega))
  ·obtain rfl:r=0:=by omega
   go_enter Tryz.func16,Tryz.ntmps16
   go_wp2_with (first
    | (refine Xu _ rfl _ _ _ _ rfl (m:Int) (230:Nat) (q:Int) rfl rfl (by decide) HQ.out ?_)
    | (refine Yi _ rfl _ _ _ _ rfl (m:Int) (230:Nat) (0:Int) rfl rfl (by decide) HR.out ?_))
   all_goals go_ret
   all_goals (refine⟨congrArg (fun z=>Ending.returned (Value.int .i64 z)) ?_,rfl⟩;obtain⟨x1,-,x3⟩:=HE.out;rcases Nat.eq_zero_or_pos q with hz|hz)
   ·have:=x1 hz (by trivial);omega
   ·have:=x3 (by trivial) hz;omega
structure zad (W:World) (base g n m:Nat) (tail:List Int) (w:World):Prop where
 row:w.ownsRow base 5 1 (.slice (some ⟨g,0,none⟩) n n) n (List.replicate m (.int .u8 0)++zg tail)
 grown:W.grownBy w none
 le:W.heap.size≤g
theorem zad.step {W w:World} {base g n m:Nat} {tail:List Int} (h:zad W base g n (m+1) tail w) (hn:m<n) (x:Int):zad W base g n m (x :: tail) (w.setCell ⟨g,m,none⟩ (.int .u8 x)):=by
 have hs:=zw w g m (.int .u8 x);refine⟨?_,⟨hs.os.trans h.grown.os,hs.tape.trans h.grown.tape,hs.output.trans h.grown.output,Nat.le_trans h.grown.size hs.size,fun k hk _=>(hs.block k (Nat.lt_of_lt_of_le hk h.grown.size) (fun e=>by cases e;have:=h.le;omega)).trans (h.grown.block k hk (by simp))⟩,h.le⟩
 have hr:=zi3 h.row m hn (.int .u8 x);have e1:List.replicate (m+1) (Value.int .u8 0)++zg tail=List.replicate m (Value.int .u8 0)++Value.int .u8 0 :: zg tail:=by
  rw[List.replicate_succ'];simp
 have e2:(List.replicate m (Value.int .u8 0)).length=m:=by simp
 rw[e1] at hr;have e3:=zi5 (List.replicate m (Value.int .u8 0)) (.int .u8 0) (zg tail) (.int .u8 x);rw[e2] at e3;rw[e3] at hr
 exact hr
theorem zad.facts {W w:World} {base g n m:Nat} {tail:List Int} (h:zad W base g n (m+1) tail w) (hn:m<n):(∃u,w.cell? ⟨g,m,none⟩=some u)∧w.frozen? ⟨g,m,none⟩=false:=by
 rcases h.row.2 with ⟨e1,_⟩|⟨b,c,cur,e1,_,hb,r1,r2,r3,r4⟩
 ·cases e1
 ·cases e1
  refine⟨⟨cur[m]'(by omega),?_⟩,?_⟩
  ·simp[World.cell?,hb]
  ·simp[World.frozen?,hb]
theorem zfd (W:World) (k:Nat) (hk:k≤1000):zad W W.heap.size W.heap.size k k [] (W.alloc (.cells (madeCells #[.int .u8 0] k) 5)):=by
 have hl:=toList_madeCells_one (.int .u8 0) k;have hs:(madeCells #[Value.int .u8 0] k).size=k:=by rw[←Array.length_toList,hl];simp
 refine⟨⟨by simp[zg],.inr ⟨W.heap.size,k,madeCells #[.int .u8 0] k,rfl,Nat.le_refl _,heap_alloc_new W _,Nat.le_refl _,by unfold maxLen;omega,by rw[hs];omega,?_⟩⟩,ze W _ none,Nat.le_refl _⟩
 rw[hl];simp[zg]
set_option maxRecDepth 100000 in
theorem bytes02 (N k:Nat) (hk0:0<k) (hk:k≤8) (hN:N<256 ^ 8) (W:World) (kk:Int) (hkk:kk=k):Calls Tryz.prog 98 #[.int .u64 N,.int .i64 kk] W fun e w'=>
  ∃v,e = .returned v∧yi w' v (be k N)∧W.grownBy w' none:=by
 subst hkk;have hmk:=run_make_row' (P:=Tryz.prog) 32 5 (.int .u8 0) 1 Tryz.underlying32 ur rfl .i64 .i64 k (by omega) (by omega)
 have HS:Hid (zad W W.heap.size W.heap.size k k [] (W.alloc (.cells (madeCells #[.int .u8 0] k) 5))):=zfd W k (by omega)
 go_enter Tryz.func98,Tryz.ntmps98
 go_wp2
 go_loopw [0,6] (fun nv i wr=>∃(m nc:Nat) (tail:List Int),m≤k∧nv = .int .u64 nc∧nc<256 ^ 8∧i = .int .i64 ((k:Int)-m+1)∧be k N=be m nc++tail∧tail.length+m=k∧zad W W.heap.size W.heap.size k m tail wr) (fun _ i _=>(k:Int).toNat+1-(intOf i).toNat)
 case atStart=>exact⟨k,N,[],Nat.le_refl _,rfl,hN,by congr 1;omega,by simp,by simp,HS.out⟩
 case round=>
  obtain⟨m,nc,tail,hm,rfl,hnc,rfl,hbe,htl,hp⟩:=hrel;have HP:=zd hp;clear hp
  cases m with
  | zero=>
   go_wp2
   go_ret
   have hbt:be k N=tail:=by simpa[be] using hbe
   refine⟨_,rfl,?_,HP.out.grown⟩;have hr:=HP.out.row;rw[hbt];have hl:tail.length=k:=by omega
   refine qg (base:=W.heap.size) ?_;rw[hl];simpa using hr
  | succ m=>
   obtain⟨⟨u,c0⟩,f0⟩:=HP.out.facts (by omega)
   have he:k-(k-(m+1)+1)=m:=by omega
   have hlt:m<k:=by omega
   go_wp2;refine⟨⟨m,nc / 256,((nc%256:Nat):Int) :: tail,by omega,by simp,Nat.lt_of_le_of_lt (Nat.div_le_self _ _) hnc,by congr 1;omega,by rw[hbe,zae];simp,by simp only[List.length_cons];omega,?_⟩,by simp[intOf];omega⟩
   have hnm:((nc%256:Nat):Int)=(nc:Int)%256:=rfl;rw[hnm]
   exact HP.out.step hlt _
structure BSt (W:World) (v:Value) (l:List Int) (w:World):Prop where
 row:w.ownsRow W.heap.size 5 1 v l.length (zg l)
 grown:W.grownBy w none
theorem BSt.grow {W w w':World} {v:Value} {l:List Int} (h:BSt W v l w) (hg:w.grownBy w' none):BSt W v l w':=
 ⟨h.row.kept hg (by
  rcases h:v.ownBlock with _|k
  ·exact Or.inl rfl
  ·exact Or.inr (by simp)),zh h.grown hg⟩
theorem BSt.app {W w w':World} {v v':Value} {l m:List Int} (h:BSt W v l w) (ho:w'.ownsRow W.heap.size 5 1 v' (l.length+m.length) (zg l++zg m)) (hg:w.grownBy w' v.ownBlock):BSt W v' (l++m) w':=
 ⟨by rw[List.length_append,←zbi];exact ho,Jo h.grown h.row (Nat.le_refl _) hg⟩
theorem BSt.start (W:World) (x:Int):BSt W (.slice (some ⟨W.heap.size,0,none⟩) 1 1) [x] (W.alloc (.cells #[.int .u8 x] 5)):=
 ⟨⟨rfl,.inr ⟨W.heap.size,1,#[.int .u8 x],rfl,Nat.le_refl _,heap_alloc_new W _,Nat.le_refl _,by unfold maxLen;omega,rfl,rfl⟩⟩,ze W _ none⟩
theorem ziz (w:World) (x:Int):yi (w.alloc (.cells #[.int .u8 x] 5)) (.slice (some ⟨w.heap.size,0,none⟩) 1 1) [x]:=
 ⟨_,_,rfl,Or.inr ⟨_,rfl,cell_one_new w (.int .u8 x) _⟩⟩
theorem zg1 (s:ByteArray):Lib.strCells s=zg (xu s):=by
 simp[Lib.strCells,zg,xu,List.map_map]
 try rfl
theorem BSt.appS {W w w':World} {v v':Value} {l:List Int} (h:BSt W v l w) (s:ByteArray) (ho:w'.ownsRow W.heap.size 5 1 v' (l.length+s.size) (zg l++Lib.strCells s)) (hg:w.grownBy w' v.ownBlock):BSt W v' (l++xu s) w':=
 h.app (by rw[zg1,←vd] at ho;exact ho) hg
theorem Vh (x:Int) (k:Nat) (hk0:0<k) (hk:k≤8) (h0:0≤x) (h1:x<9223372036854775808) (W:World) (kk:Int) (hkk:kk=k):Calls Tryz.prog 98 #[.int .u64 (x%18446744073709551616),.int .i64 kk] W fun e w'=>
  ∃v,e = .returned v∧yi w' v (be k x.toNat)∧W.grownBy w' none:=by
 have hx:(x.toNat:Int)=x%18446744073709551616:=by omega
 have h:=bytes02 x.toNat k hk0 hk (by omega) W kk hkk
 rw[hx] at h
 exact h
@[go_sem] theorem u32_geq31 (t:TypeId) (x:BitVec 32):binOp .geq t (vf x) (.int .u32 2147483648)=pure (.bool x.msb):=by
 unfold vf;rw[binOp_geq]
 congr 2
 rw[BitVec.msb_eq_decide];have e:((x.toNat:Int)≥2147483648)=(2 ^ (32-1)≤x.toNat):=by
  apply propext
  omega
 simp only[e]
@[go_sem] theorem u32_mul2 (t:TypeId) (x:BitVec 32):binOp .mul t (vf x) (.int .u32 2)=pure (vf (x <<< 1)):=by
 unfold vf;rw[binOp_mul];have h:Op.intArith .mul .u32 (x.toNat:Int) 2=pure (.int .u32 (IntKind.u32.wrap ((x.toNat:Int)*2))):=rfl;rw[h,BitVec.toNat_shiftLeft,Nat.shiftLeft_eq,IntKind.wrap_u32];simp
@[go_sem] theorem u32_addc (t:TypeId) (x:BitVec 32) (n:Int):binOp .add t (vf x) (.int .u32 n)=pure (vf (x+BitVec.ofInt 32 n)):=by
 unfold vf;rw[binOp_add];have h:Op.intArith .add .u32 (x.toNat:Int) n=pure (.int .u32 (IntKind.u32.wrap ((x.toNat:Int)+n))):=rfl;rw[h,BitVec.toNat_add,IntKind.wrap_u32,BitVec.toNat_ofInt]
 congr 2
 omega
@[go_sem] theorem u8_shr (t:TypeId) (x:BitVec 8) (yk:IntKind) (n:Int) (h:0≤n) (h2:n<8):binOp .shr t (u8V x) (.int yk n)=pure (u8V (x >>> n.toNat)):=by
 unfold u8V;rw[binOp_shr,shift_shr_any _ _ _ _ h];have e:min n.toNat IntKind.u8.bits=n.toNat:=by simp[IntKind.bits];omega
 rw[e,BitVec.toNat_ushiftRight,Nat.shiftRight_eq_div_pow];simp
@[go_sem] theorem u8_and (t:TypeId) (x:BitVec 8) (n:Int):binOp .and t (u8V x) (.int .u8 n)=pure (u8V (x &&& BitVec.ofInt 8 n)):=by
 unfold u8V;rw[binOp_and];have h:Op.intBits .and .u8 (x.toNat:Int) n=pure (.int .u8 (IntKind.u8.wrap ((BitVec.ofInt 8 (x.toNat:Int) &&& BitVec.ofInt 8 n).toNat:Int))):=rfl;have e:BitVec.ofInt 8 (x.toNat:Int)=x:=by simp
 rw[h,e,IntKind.wrap_u8];have:=(x &&& BitVec.ofInt 8 n).isLt
 congr 2
 omega
@[go_sem] theorem u8_eql (t:TypeId) (x:BitVec 8) (n:Int) (h:0≤n) (h2:n<256):binOp .eql t (u8V x) (.int .u8 n)=pure (.bool (x == BitVec.ofInt 8 n)):=by
 unfold u8V;rw[binOp_eql]
 congr 2
 rw[Bool.eq_iff_iff,beq_iff_eq,beq_iff_eq]
 constructor
 ·intro h;rw[←h];simp
 ·rintro rfl
  rw[BitVec.toNat_ofInt];omega
@[go_sem] theorem u8_guard (t:TypeId) (x y:Operand) (a:BitVec 8) (n:Int):eqGuard .eql t x y (u8V a) (.int .u8 n)=pure ():=rfl
def Vf (v:BitVec 32) (c:BitVec 8):Nat→BitVec 32
 | 0=>v
 | k+1=>jy (Vf v c k) (c.getLsbD k)
theorem bitsK_8 (v:BitVec 32) (c:BitVec 8):Vf v c 8=zal v c.reverse:=by rw[zjo];rfl
def Uo (v:BitVec 32):Nat→BitVec 32
 | 0=>0#32
 | k+1=>if v.getLsbD (31-k)=true then Uo v k else Uo v k+1#32 <<< k
theorem zf6 (v:BitVec 32):∀k,k≤32→∀j,j<32→(Uo v k).getLsbD j=(decide (j<k) && !v.getLsbD (31-j))
 | 0,_,j,_=>by simp[Uo]
 | k+1,hk,j,hj=>by
  have ih:=zf6 v k (by omega)
  unfold Uo
  by_cases hb:v.getLsbD (31-k)=true
  ·rw[if_pos hb,ih j hj]
   by_cases e:j=k
   ·subst e;simp[hb]
   ·have:decide (j<k+1)=decide (j<k):=by simp;omega
    rw[this]
  ·rw[if_neg hb]
   have hz:Uo v k &&& 1#32 <<< k=0#32:=by
    apply BitVec.eq_of_getLsbD_eq
    intro i hi;rw[BitVec.getLsbD_and,ih i hi,BitVec.getLsbD_shiftLeft,BitVec.getLsbD_one]
    by_cases e:i<k
    ·simp[e]
    ·have:decide (i<k)=false:=by simp;omega
     simp[this]
   rw[BitVec.add_eq_or_of_and_eq_zero _ _ hz,BitVec.getLsbD_or,ih j hj,BitVec.getLsbD_shiftLeft,BitVec.getLsbD_one]
   by_cases e:j=k
   ·subst e;simp[hb,hj]
   ·have:decide (j<k+1)=decide (j<k):=by simp;omega
    rw[this]
    by_cases e2:j<k
    ·simp[e2]
    ·have:(j-k=0)=False:=by simp;omega
     simp[e2,this]
theorem zkc (x:BitVec 32) (j:Nat) (hj:j<32):(zdw x).getLsbD j=x.getLsbD (31-j):=by
 unfold zdw;simp only[BitVec.getLsbD_or,BitVec.getLsbD_and,BitVec.getLsbD_ushiftRight,BitVec.getLsbD_shiftLeft]
 rcases(show j=0∨j=1∨j=2∨j=3∨j=4∨j=5∨j=6∨j=7∨j=8∨j=9∨j=10∨j=11∨j=12∨j=13∨j=14∨j=15∨j=16∨j=17∨j=18∨j=19∨j=20∨j=21∨j=22∨j=23∨j=24∨j=25∨j=26∨j=27∨j=28∨j=29∨j=30∨j=31 by omega) with rfl|rfl|rfl|rfl|rfl|rfl|rfl|rfl|rfl|rfl|rfl|rfl|rfl|rfl|rfl|rfl|rfl|rfl|rfl|rfl|rfl|rfl|rfl|rfl|rfl|rfl|rfl|rfl|rfl|rfl|rfl|rfl
 all_goals simp
theorem zmi (v:BitVec 32):Uo v 32=zdw (~~~ v):=by
 apply BitVec.eq_of_getLsbD_eq
 intro j hj;have h31:31-j<32:=by omega
 rw[zf6 v 32 (by omega) j hj,zkc _ j hj,BitVec.getLsbD_not]
 simp[hj,h31]
theorem crcD_of:BitVec.ofInt 32 517762881=Vb:=by decide
theorem bit8_of (c:BitVec 8) (k:Nat) (hk:k<8):(c >>> k &&& 1#8 == 1#8)=c.getLsbD k:=by
 rw[Bool.eq_iff_iff,beq_iff_eq]
 constructor
 ·intro h
  have:=congrArg (fun z=>BitVec.getLsbD z 0) h
  simpa using this
 ·intro h
  apply BitVec.eq_of_getLsbD_eq
  intro i hi;rw[BitVec.getLsbD_and,BitVec.getLsbD_ushiftRight,BitVec.getLsbD_one]
  rcases Nat.eq_zero_or_pos i with rfl|h0
  ·simp[h]
  ·have:(i=0)=False:=by simp;omega
   simp[this]
theorem zla (v:BitVec 32) (k:Nat) (hk:k<32):(v >>> k &&& 1#32 == 0#32) = !v.getLsbD k:=by
 rw[Bool.eq_iff_iff,beq_iff_eq,Bool.not_eq_true']
 constructor
 ·intro h
  have:=congrArg (fun z=>BitVec.getLsbD z 0) h
  simpa using this
 ·intro h
  apply BitVec.eq_of_getLsbD_eq
  intro i hi;rw[BitVec.getLsbD_and,BitVec.getLsbD_ushiftRight,BitVec.getLsbD_one]
  rcases Nat.eq_zero_or_pos i with rfl|h0
  ·simp[h]
  ·have:(i=0)=False:=by simp;omega
   simp[this]
@[go_sem] theorem u32_shr31 (t:TypeId) (x:BitVec 32) (yk:IntKind) (m:Nat) (h:m<32):binOp .shr t (vf x) (.int yk (31-(m:Int)))=pure (vf (x >>> (31-m))):=by
 rw[u32_shr _ _ _ _ (by omega) (by omega)]
 congr 3
 omega
theorem shl_of (i:Nat) (hi:i<32):BitVec.ofInt 32 (2 ^ i%4294967296)=1#32 <<< i:=by
 have:∀i:Fin 32,BitVec.ofInt 32 (2 ^ i.val%4294967296)=1#32 <<< i.val:=by decide
 exact this ⟨i,hi⟩
set_option maxRecDepth 100000 in
theorem zmv {W:World} {v:Value} {l:List Int} (h:yi W v l) (hb:BL l) (hl:l.length≤1000000) :
  Calls Tryz.prog 99 #[v] W fun e w'=>e = .returned (.int .u32 (zu l))∧w'=W:=by
 obtain⟨p,cap,rfl,hc⟩:=h.ex;have HC:=zd hc;have HB:=zd hb;obtain⟨n,hn⟩:∃n,n=l.length:=⟨_,rfl⟩;rw[←hn];have HN:=zd hn;rw[←hn] at hl;clear h hb hn hc
 go_enter Tryz.func99,Tryz.ntmps99
 go_wp2
 go_loopw [3,4] (fun r i wr=>W=wr∧∃k:Nat,k≤n∧r=vf (Yu (l.take k))∧i = .int .i64 k) (fun _ i _=>n-(intOf i).toNat)
 case atStart=>exact⟨rfl,0,by omega,rfl,rfl⟩
 case round=>
  obtain⟨rfl,k,hk,rfl,rfl⟩:=hrel
  by_cases hkn:k<n
  ·have hkl:k<l.length:=by rw[←HN.out];exact hkn
   have hcell:∃a,p=some a∧W.cell? (a.add k)=some (u8V (BitVec.ofInt 8 l[k])):=by
    rcases HC.out with h0|⟨a,rfl,h1⟩
    ·rw[h0] at hkl;simp at hkl
    ·refine⟨a,rfl,h1 k _ ?_⟩
     have hbk:=HB.out l[k] (List.getElem_mem _);rw[zg,List.getElem?_map,List.getElem?_eq_getElem hkl,Option.map_some,zm7 hbk.1 hbk.2]
   obtain⟨a,rfl,cell⟩:=hcell;have HS:Hid (Yu (l.take (k+1))=Vf (Yu (l.take k)) (BitVec.ofInt 8 l[k]) 8):=(show _=_ from by rw[List.take_succ_eq_append_getElem hkl,zdv,bitsK_8])
   generalize BitVec.ofInt 8 l[k]=c at *;go_wp2
   go_loopw [3,5] (fun r j wr=>W=wr∧∃m:Nat,m≤8∧r=vf (Vf (Yu (l.take k)) c m)∧j = .int .i64 m) (fun _ j _=>8-(intOf j).toNat)
   case atStart=>exact⟨rfl,0,by omega,rfl,rfl⟩
   case round=>
    obtain⟨rfl,m,hm,rfl,rfl⟩:=hrel
    by_cases hm8:m<8
    ·have hbit:=bit8_of c m hm8
     have HM:Hid (Vf (Yu (l.take k)) c (m+1)=jy (Vf (Yu (l.take k)) c m) (c.getLsbD m)):=(show _=_ from rfl)
     have hcd:=crcD_of;generalize hu:Vf (Yu (l.take k)) c m=u at *;generalize c.getLsbD m=q at *
     cases hmb:u.msb <;> cases q
     ·have HM2:Hid (Vf (Yu (l.take k)) c (m+1)=u <<< 1):=(show _=_ from by rw[HM.out];unfold jy;rw[hmb];simp)
      clear HM hu;go_wp2;refine⟨⟨trivial,m+1,by omega,by rw[HM2.out];try rfl,rfl⟩,by simp[intOf];omega⟩
     ·have HM2:Hid (Vf (Yu (l.take k)) c (m+1)=u <<< 1 ^^^ Vb):=(show _=_ from by rw[HM.out];unfold jy;rw[hmb];simp)
      clear HM hu;go_wp2;refine⟨⟨trivial,m+1,by omega,by rw[HM2.out];try rfl,rfl⟩,by simp[intOf];omega⟩
     ·have HM2:Hid (Vf (Yu (l.take k)) c (m+1)=u <<< 1 ^^^ Vb):=(show _=_ from by rw[HM.out];unfold jy;rw[hmb];simp)
      clear HM hu;go_wp2;refine⟨⟨trivial,m+1,by omega,by rw[HM2.out];try rfl,rfl⟩,by simp[intOf];omega⟩
     ·have HM2:Hid (Vf (Yu (l.take k)) c (m+1)=u <<< 1):=(show _=_ from by rw[HM.out];unfold jy;rw[hmb];simp)
      clear HM hu;go_wp2;refine⟨⟨trivial,m+1,by omega,by rw[HM2.out];try rfl,rfl⟩,by simp[intOf];omega⟩
    ·obtain rfl:m=8:=by omega
     go_wp2;refine⟨⟨trivial,k+1,by omega,by rw[HS.out],rfl⟩,by simp[intOf];omega⟩
  ·obtain rfl:k=n:=by omega
   have HE:Hid (l.take k=l):=(show _=_ from List.take_of_length_le (by rw[←HN.out];exact Nat.le_refl _))
   have HO:Hid (zu l=(Uo (Yu l) 32).toNat):=(show _=_ from by rw[zmi];rfl)
   rw[HE.out];generalize Yu l=v at *;go_wp2
   go_loopw [7,8] (fun r j wr=>W=wr∧∃m:Nat,m≤32∧r=vf (Uo v m)∧j = .int .i64 m) (fun _ j _=>32-(intOf j).toNat)
   case atStart=>exact⟨rfl,0,by omega,rfl,rfl⟩
   case round=>
    obtain⟨rfl,m,hm,rfl,rfl⟩:=hrel
    by_cases hm8:m<32
    ·have hbit:=zla v (31-m) (by omega)
     have HM:Hid (Uo v (m+1)=if v.getLsbD (31-m)=true then Uo v m else Uo v m+1#32 <<< m):=(show _=_ from rfl)
     have hsh:=zd (shl_of m hm8);generalize hu:Uo v m=u at *;generalize v.getLsbD (31-m)=q at *
     cases q
     ·have HM2:Hid (Uo v (m+1)=u+1#32 <<< m):=(show _=_ from by rw[HM.out];simp)
      clear HM hu;simp only[Bool.not_false] at hbit;go_wp2;refine⟨⟨trivial,m+1,by omega,by rw[HM2.out,←hsh.out],rfl⟩,by simp[intOf];omega⟩
     ·have HM2:Hid (Uo v (m+1)=u):=(show _=_ from by rw[HM.out];simp)
      clear HM hu;simp only[Bool.not_true] at hbit;go_wp2;refine⟨⟨trivial,m+1,by omega,by rw[HM2.out],rfl⟩,by simp[intOf];omega⟩
    ·obtain rfl:m=32:=by omega
     go_wp2
     go_ret
     exact⟨by rw[HO.out];rfl,rfl⟩
end Go.Proofs.YtbcbhlfjgobejaaGreat
