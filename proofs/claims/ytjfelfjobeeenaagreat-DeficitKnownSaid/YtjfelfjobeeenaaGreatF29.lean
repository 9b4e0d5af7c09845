/- works of the law on what lacks: walked. Conditions: none. A row of one's own whose cells are spoilt. Conditions: none. -/
import Derived.Test.YtjfelfjobeeenaaGreatF26
import Derived.Outline
import Derived.Test.YtjfelfjobeeenaaGreatF28
set_option linter.unusedSimpArgs false
set_option linter.unusedVariables false
namespace Go.Proofs.YtjfelfjobeeenaaGreat
open Go.RowKit Go.Sf Go.Shelf
def kA:ID:=⟨⟨#[97]⟩,1⟩
def kB:ID:=⟨⟨#[98]⟩,2⟩
def wkN:List Nd:=[⟨kA,3,[3]⟩,⟨kB,1,[1,2,3]⟩]
theorem wk_raw:rawT wkN = [⟨kA,3,3⟩,⟨kB,1,1⟩,⟨kB,2,1⟩,⟨kB,3,1⟩]:=rfl
theorem wk_sort:sortT (rawT wkN) = [⟨kB,1,1⟩,⟨kB,2,1⟩,⟨kB,3,1⟩,⟨kA,3,3⟩]:=by
 refine(sortT_eq ?_ ?_).symm
 ·rw[wk_raw]
  exact(List.perm_append_comm (l₁:=[(⟨kB,1,1⟩:Tsk),⟨kB,2,1⟩,⟨kB,3,1⟩]) (l₂:=[(⟨kA,3,3⟩:Tsk)]))
 ·unfold Srt
  decide +kernel
theorem wk_pk:(pk (sortT (rawT wkN))).take 3 = [⟨kB,1,1⟩,⟨kB,2,1⟩,⟨kB,3,1⟩]:=by
 rw[wk_sort];decide +kernel
theorem wk_lost:lostL wkN 2 = [kB]:=by decide +kernel
theorem tsk_at {w0 W:World} {v:Value} {ts:List Tsk} (h:TA w0 W v ts) {k:Nat} {t:Tsk} (hk:ts[k]? = some t):∃g cap,v = .slice (some ⟨g,0,none⟩) ts.length cap∧∀j u,(tskCells t)[j]? = some u→W.cell? ⟨g,k*4+j,none⟩=some u:=by
 obtain⟨h1,rfl⟩:=List.getElem?_eq_some_iff.1 hk
 have hS:SRow W 56 4 tskCells v ts:=⟨h.1.1,h.1.2.imp id fun ⟨b,cap,cur,e,_,rest⟩=>⟨b,cap,cur,e,Nat.zero_le _,rest⟩⟩
 rcases hS.at tsk_len with h0|⟨g,cap,e,hc,_⟩
 ·subst h0;simp at h1
 ·exact⟨g,cap,e,fun j u hu=>hc k h1 j u hu⟩
set_option maxHeartbeats 8000000 in
set_option maxRecDepth 100000 in
theorem works27_any (w:World):Calls Tryz.prog 17 #[] w fun e w'=>e = .returned (.bool true)∧w.grownBy w' none:=by
 go_enter Tryz.func17,Tryz.ntmps17
 go_wp2_with fail
 refine(lawid_any _ _ _).mono ?_
 rintro e w1 ⟨rfl,hg1⟩
 have HG1:=Lib.hid hg1
 clear hg1
 go_wp2_with fail
 refine(lawid_any _ _ _).mono ?_
 rintro e w2 ⟨rfl,hg2⟩
 have HG2:=Lib.hid hg2
 clear hg2
 go_wp2_with fail
 obtain⟨W3,hW3⟩:∃x:World,x=((w2.alloc (.cells #[.int .i64 0] 3)).alloc (.cells #[.int .i64 1,.int .i64 2,.int .i64 3] 3)).alloc (.cells #[.string ⟨#[97]⟩,.int .i64 1,.slice (some ⟨w1.heap.size,0,none⟩) 3 3,.slice (some ⟨w1.heap.size+1,0,none⟩) 1 1,.string ⟨#[98]⟩,.int .i64 2,.slice (some ⟨w2.heap.size,0,none⟩) 1 1,.slice (some ⟨w2.heap.size+1,0,none⟩) 3 3] 71):=⟨_,rfl⟩
 have hg3:w2.grownBy W3 none:=by rw[hW3];exact grown_alloc (grown_alloc (World.grownBy_alloc _ _ _) _) _
 have f1:W3.heap[w2.heap.size+1+1]? = some (.cells #[.string ⟨#[97]⟩,.int .i64 1,.slice (some ⟨w1.heap.size,0,none⟩) 3 3,.slice (some ⟨w1.heap.size+1,0,none⟩) 1 1,.string ⟨#[98]⟩,.int .i64 2,.slice (some ⟨w2.heap.size,0,none⟩) 1 1,.slice (some ⟨w2.heap.size+1,0,none⟩) 3 3] 71 (0,0)):=by
  rw[hW3]
  have:=World.alloc_heap_new ((w2.alloc (.cells #[.int .i64 0] 3)).alloc (.cells #[.int .i64 1,.int .i64 2,.int .i64 3] 3)) (.cells #[.string ⟨#[97]⟩,.int .i64 1,.slice (some ⟨w1.heap.size,0,none⟩) 3 3,.slice (some ⟨w1.heap.size+1,0,none⟩) 1 1,.string ⟨#[98]⟩,.int .i64 2,.slice (some ⟨w2.heap.size,0,none⟩) 1 1,.slice (some ⟨w2.heap.size+1,0,none⟩) 3 3] 71)
  rwa [World.size_alloc,World.size_alloc] at this
 have f2:W3.heap[w2.heap.size+1]? = some (.cells #[.int .i64 1,.int .i64 2,.int .i64 3] 3 (0,0)):=by
  rw[hW3,Below.heap_alloc _ _ _ (by simp only[World.size_alloc];omega)]
  have:=World.alloc_heap_new (w2.alloc (.cells #[.int .i64 0] 3)) (.cells #[.int .i64 1,.int .i64 2,.int .i64 3] 3)
  rwa [World.size_alloc] at this
 have f3:W3.heap[w1.heap.size+1]? = some (.cells #[.int .i64 3] 3 (0,0)):=by
  have:=World.alloc_heap_new (w1.alloc (.cells #[.int .i64 0,.int .i64 1,.int .i64 2] 3)) (.cells #[.int .i64 3] 3)
  rw[World.size_alloc] at this
  exact kept_block (kept_block this HG2.out) hg3
 have hNR:NRow W3 (.slice (some ⟨w2.heap.size+1+1,0,none⟩) 2 2) wkN:=⟨_,2,rfl,Or.inr ⟨_,rfl,fun i nd hi=>by
  match i,hi with
  | 0,hi=>
   obtain rfl:(⟨kA,3,[3]⟩:Nd)=nd:=Option.some.inj hi
   exact⟨_,_,_,_,⟨(cell_block f1 0).trans rfl,(cell_block f1 1).trans rfl,(cell_block f1 2).trans rfl,(cell_block f1 3).trans rfl,Or.inr ⟨_,rfl,fun j x hx=>by
    match j,hx with
    | 0,hx=>obtain rfl:(3:Int)=x:=Option.some.inj hx;exact(cell_block f3 0).trans rfl⟩⟩⟩
  | 1,hi=>
   obtain rfl:(⟨kB,1,[1,2,3]⟩:Nd)=nd:=Option.some.inj hi
   exact⟨_,_,_,_,⟨(cell_block f1 4).trans rfl,(cell_block f1 5).trans rfl,(cell_block f1 6).trans rfl,(cell_block f1 7).trans rfl,Or.inr ⟨_,rfl,fun j x hx=>by
    match j,hx with
    | 0,hx=>obtain rfl:(1:Int)=x:=Option.some.inj hx;exact(cell_block f2 0).trans rfl
    | 1,hx=>obtain rfl:(2:Int)=x:=Option.some.inj hx;exact(cell_block f2 1).trans rfl
    | 2,hx=>obtain rfl:(3:Int)=x:=Option.some.inj hx;exact(cell_block f2 2).trans rfl⟩⟩⟩⟩⟩
 have HNR:=Lib.hid hNR
 have HF1:=Lib.hid f1
 have HG3:Hid (w.grownBy W3 none):=(show w.grownBy _ none from grown_trans (grown_trans HG1.out (grown_alloc (World.grownBy_alloc _ _ _) _)) (grown_trans HG2.out hg3))
 rw[←hW3]
 clear hNR f1 f2 f3 hg3 hW3 HG1 HG2
 generalize w2.heap.size=b2 at *
 generalize w1.heap.size=b1 at *
 refine(tasks_any HNR.out (by decide) (by decide)).mono ?_
 rintro e w4 ⟨tv,rfl,hta⟩
 rw[wk_sort] at hta
 obtain⟨g,cap,rfl,ht0⟩:=tsk_at hta (k:=0) rfl
 have HTA:=Lib.hid hta
 have HT0:=Lib.hid ht0
 clear hta ht0
 go_wp2_with fail
 refine(nextD_any 3 (by decide) (by decide) (HNR.out.grown HTA.out.2) (by decide) (by decide)).mono ?_
 rintro e w5 ⟨nv,rfl,hna⟩
 rw[wk_pk] at hna
 obtain⟨g5,cap5,rfl,hn2⟩:=tsk_at hna (k:=2) rfl
 have hT0:=fun j u hj=>hna.2.cell (HT0.out j u hj) (by simp)
 obtain⟨g',cap',e',ht3⟩:=tsk_at HTA.out (k:=3) rfl
 injection e' with e1 _ _
 injection e1 with e1
 injection e1 with e1
 subst e1
 have hT3:=fun j u hj=>hna.2.cell (ht3 j u hj) (by simp)
 have a0:=hT0 0 _ rfl
 have a2:=hT0 2 _ rfl
 have a3:=hT3 0 _ rfl
 have a4:=hT3 2 _ rfl
 have n0:=hn2 0 _ rfl
 have n2:=hn2 2 _ rfl
 have hk:=kept_block HF1.out (grown_trans HTA.out.2 hna.2)
 have b4:w5.cell? ⟨b2+1+1,4,none⟩=some (.string ⟨#[98]⟩):=(cell_block hk 4).trans rfl
 have b5:w5.cell? ⟨b2+1+1,5,none⟩=some (.int .i64 2):=(cell_block hk 5).trans rfl
 have b6:w5.cell? ⟨b2+1+1,6,none⟩=some (.slice (some ⟨b2,0,none⟩) 1 1):=(cell_block hk 6).trans rfl
 have b7:w5.cell? ⟨b2+1+1,7,none⟩=some (.slice (some ⟨b2+1,0,none⟩) 3 3):=(cell_block hk 7).trans rfl
 have HLO:=Lib.hid (fun W (hg:w5.grownBy W none)=>lost_any ((HNR.out.grown HTA.out.2).grown (grown_trans hna.2 hg)) 2 (by decide) (by decide))
 rw[wk_lost] at HLO
 have HG5:Hid (w.grownBy w5 none):=(show w.grownBy _ none from grown_trans HG3.out (grown_trans HTA.out.2 hna.2))
 simp only[kA,kB] at a0 a2 a3 a4 n0 n2
 simp only[Nat.zero_mul,Nat.zero_add,Nat.add_zero,Nat.reduceMul,Nat.reduceAdd] at a0 a2 a3 a4 n0 n2
 clear hT0 hT3 ht3 hn2 hk hna
 simp only[List.length_cons,List.length_nil,Nat.reduceAdd]
 go_wp2_with (first
  | (go_at_call 61;refine(urgent_any _ _ _ _ _ _ _ _ _ _ (by decide) (by decide)).mono ?_;rintro e w6 ⟨rfl,hg⟩;have HG6:=Lib.hid hg;clear hg)
  | (go_at_call 25;refine(HLO.out _ HG6.out).mono ?_;rintro e w7 ⟨lv,rfl,hid⟩;obtain⟨pl,cl,rfl⟩:=idRow_form hid.1;have HG7:=Lib.hid hid.2;clear hid))
 go_ret
 exact⟨rfl,grown_trans HG5.out (grown_trans HG6.out HG7.out)⟩
def Spoil (B:Nat) (W:World) (E:TypeId) (v:Value) (n:Nat):Prop:=
 ∃p c,v = .slice p n c∧(n=0∨∃g cs,p=some ⟨g,0,none⟩∧B≤g∧W.heap[g]? = some (.cells cs E (0,0))∧n*4≤cs.size)
theorem spoil_own {B:Nat} {W:World} {E:TypeId} {v:Value} {n:Nat} {xs:List Value} (h:W.ownsRow B E 4 v n xs):Spoil B W E v n:=by
 rcases h.2 with ⟨e,h0⟩|⟨g,cap,cur,e,hb,hc,hn,_,hs,_⟩
 ·exact⟨none,0,by rw[e,h0],Or.inl h0⟩
 ·exact⟨_,_,e,Or.inr ⟨g,cur,rfl,hb,hc,by rw[hs];exact Nat.mul_le_mul_right 4 hn⟩⟩
theorem Spoil.grown {B:Nat} {W W':World} {E:TypeId} {v:Value} {n:Nat} (h:Spoil B W E v n) (hg:W.grownBy W' none):Spoil B W' E v n:=by
 obtain⟨p,c,e,h2⟩:=h
 exact⟨p,c,e,h2.imp id fun ⟨g,cs,e1,e2,e3,e4⟩=>⟨g,cs,e1,e2,kept_block e3 hg,e4⟩⟩
theorem Spoil.set {B:Nat} {W:World} {E:TypeId} {v:Value} {n:Nat} (h:Spoil B W E v n) (a:Addr) (x:Value):Spoil B (W.setCell a x) E v n:=by
 obtain⟨p,c,e,h2⟩:=h
 refine⟨p,c,e,h2.imp id fun ⟨g,cs,e1,e2,e3,e4⟩=>?_⟩
 by_cases ha:a.block=g
 ·refine⟨g,if a.spot.isSome then cs else cs.setIfInBounds a.off x,e1,e2,?_,?_⟩
  ·simp[World.setCell,Array.getElem?_modify,ha,e3]
  ·split
   ·exact e4
   ·rw[Array.size_setIfInBounds];exact e4
 ·exact⟨g,cs,e1,e2,by simp[World.setCell,Array.getElem?_modify,ha,e3],e4⟩
theorem Spoil.cell {B:Nat} {W:World} {E:TypeId} {p:Option Addr} {n c k j:Nat} (h:Spoil B W E (.slice p n c) n) (hk:k<n) (hj:j<4):∃g u,p=some ⟨g,0,none⟩∧B≤g∧g<W.heap.size∧W.cell? ⟨g,k*4+j,none⟩=some u∧W.frozen? ⟨g,k*4+j,none⟩=false:=by
 obtain⟨p',c',e,h2⟩:=h
 injection e with e1 e2 e3
 rcases h2 with h0|⟨g,cs,e4,e5,e6,e7⟩
 ·omega
 ·refine⟨g,cs[k*4+j]'(by omega),e1.trans e4,e5,(Array.getElem?_eq_some_iff.1 e6).1,?_,free_block e6 _⟩
  rw[cell_block e6,Array.getElem?_eq_getElem]
theorem grown_setS {W0 W:World} {g o:Nat} {x:Value} (h:W0.grownBy W none) (hg:W0.heap.size≤g):W0.grownBy (W.setCell ⟨g,o,none⟩ x) none:=
 grown_own h (w2:=W.setCell ⟨g,o,none⟩ x) (row:=some g) ⟨rfl,rfl,rfl,by simp[World.setCell],fun k _ hk=>Below.heap_setCell _ _ _ k (fun e=>hk (by rw[e]))⟩ (fun k e=>by cases e;exact hg)
theorem Spoil.le {B B':Nat} {W:World} {E:TypeId} {v:Value} {n:Nat} (h:Spoil B' W E v n) (hB:B≤B'):Spoil B W E v n:=by
 obtain⟨p,c,e,h2⟩:=h
 exact⟨p,c,e,h2.imp id fun ⟨g,cs,e1,e2,e3,e4⟩=>⟨g,cs,e1,Nat.le_trans hB e2,e3,e4⟩⟩
structure Spl2 (W0 W:World) (E:TypeId) (va:Value) (na:Nat) (vb:Value) (nb:Nat):Prop where
 a:Spoil W0.heap.size W E va na
 b:Spoil W0.heap.size W E vb nb
 g:W0.grownBy W none
theorem Spl2.set {W0 W:World} {E:TypeId} {va vb:Value} {na nb g o:Nat} {x:Value} (h:Spl2 W0 W E va na vb nb) (hg:W0.heap.size≤g):Spl2 W0 (W.setCell ⟨g,o,none⟩ x) E va na vb nb:=
 ⟨h.a.set _ _,h.b.set _ _,grown_setS h.g hg⟩
theorem ta_lread {w0 W:World} {v:Value} {ts:List Tsk} (h:TA w0 W v ts):LRead W 4 tskCells v ts:=by
 have hS:SRow W 56 4 tskCells v ts:=⟨h.1.1,h.1.2.imp id fun ⟨b,cap,cur,e,_,rest⟩=>⟨b,cap,cur,e,Nat.zero_le _,rest⟩⟩
 exact hS.lread tsk_len
theorem ida_lread {w0 W:World} {v:Value} {l:List ID} (h:IdA w0 W v l):LRead W 2 idCells v l:=by
 have hS:SRow W 54 2 idCells v l:=⟨h.1.1,h.1.2.imp id fun ⟨b,cap,cur,e,_,rest⟩=>⟨b,cap,cur,e,Nat.zero_le _,rest⟩⟩
 exact hS.lread (fun x=>rfl)
theorem LRead.idc {W:World} {p:Option Addr} {n c k:Nat} {l:List ID} {i:ID} (h:LRead W 2 idCells (.slice p n c) l) (hk:l[k]? = some i):∃g,p=some ⟨g,0,none⟩∧W.cell? ⟨g,k*2,none⟩=some (.string i.key)∧W.cell? ⟨g,k*2+1,none⟩=some (.int .i64 i.ver):=by
 obtain⟨hl,rfl⟩:=List.getElem?_eq_some_iff.1 hk
 obtain⟨p',cap,e,h2⟩:=h
 injection e with e1 e2 e3
 rcases h2 with h0|⟨g,e4,hc⟩
 ·subst h0;simp at hl
 ·exact⟨g,e1.trans e4,hc k hl 0 _ rfl,hc k hl 1 _ rfl⟩
theorem nat_at {W:World} {p:Option Addr} {n c i:Nat} {l:List Nd} {nd:Nd} (h:NRow W (.slice p n c) l) (hi:l[i]? = some nd):∃g,p=some ⟨g,0,none⟩∧∃ph pm ch cm,NAt W g i nd ph pm ch cm:=by
 obtain⟨p',c',e,h2⟩:=h
 injection e with e1 e2 e3
 rcases h2 with h0|⟨g,e4,hc⟩
 ·rw[h0] at hi;simp at hi
 ·exact⟨g,e1.trans e4,hc i nd hi⟩
theorem nxB_len (bs:List Int) (ts:List Tsk) (m:Int):(nxB bs ts m).length≤ts.length:=by
 unfold nxB
 rw[List.length_take]
 have:=pkB_len bs ts
 omega
end Go.Proofs.YtjfelfjobeeenaaGreat
