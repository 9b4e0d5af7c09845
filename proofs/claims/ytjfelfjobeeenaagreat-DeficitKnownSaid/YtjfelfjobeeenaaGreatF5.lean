/- What done does. Conditions: a table that lies in memory. What life does: a node lives another life; it is in no set any more. Conditions: a table that lies in memory. What life does, walked. Conditions: a table that lies in memory; a node of the table. -/
import Derived.Test.YtjfelfjobeeenaaGreatF4
set_option linter.unusedSimpArgs false
set_option linter.unusedVariables false
namespace Go.Proofs.YtjfelfjobeeenaaGreat
open Go.RowKit Go.Sf Go.Shelf
section
variable {w w1 : World} {tb : Nat} {T : Tab}
def doneCalls (T:Tab) (i:ID) (p:Pend) (code:Int):List (Int × CallT):=
 if (callV T p.client).req=p.req∧(callV T p.client).ver=i.ver then mput T.calls p.client ⟨(callV T p.client).req,(callV T p.client).ver,true,code⟩ else T.calls
def doneT (T:Tab) (i:ID) (p:Pend) (code:Int):Tab:={ T with calls:=doneCalls T i p code,pending:=mdel T.pending i }
set_option maxHeartbeats 4000000 in
set_option maxRecDepth 100000 in
theorem done_any (h:TRep w tb T) (i:ID) (p:Pend) (code:Int) :
  Calls Tryz.prog 174 #[.pointer (some ⟨tb,0,none⟩),encID i,encPend p,.int .i64 code] w fun e w'=>e = .returned (.tuple #[])∧
   TRep w' tb (doneT T i p code)∧Chg w w' (T.blocks tb):=by
 have htb:=h.tlt
 have htb1:tb<w.heap.size+1:=by omega
 have htb2:tb<w.heap.size+1+1:=by omega
 have c4:=h.c4
 have c6:=h.c6
 have hc:=h.calls
 have hp:=h.pending
 have hclt:=h.calls.lt
 have hplt:=h.pending.lt
 have hcp:T.cb≠T.pb:=by
  have nd:=h.nodup
  simp only[Tab.blocks,List.nodup_cons,List.mem_cons,List.mem_append,List.mem_map,not_or,not_exists,not_and] at nd
  exact nd.2.2.1.2.1
 have HT:=Lib.hid h
 clear h
 obtain⟨k,v⟩:=i
 obtain⟨pc,pr⟩:=p
 have hrun:=fun W hW=>TRep.run_calls (T:=T) W hW pc
 simp only[encID,encPend]
 have HD:Hid (doneCalls T ⟨k,v⟩ ⟨pc,pr⟩ code=if (callV T pc).req=pr∧(callV T pc).ver=v then mput T.calls pc ⟨(callV T pc).req,(callV T pc).ver,true,code⟩ else T.calls):=(show _=_ from rfl)
 generalize (callV T pc).req=r1 at *
 generalize (callV T pc).ver=r2 at *
 generalize (callV T pc).done=r3 at *
 generalize (callV T pc).code=r4 at *
 by_cases h1:r1=pr
 ·have d1:(r1 == pr)=true:=by simpa using h1
  by_cases h2:r2=v
  ·have d2:(r2 == v)=true:=by simpa using h2
   have HD2:Hid (doneCalls T ⟨k,v⟩ ⟨pc,pr⟩ code=mput T.calls pc ⟨r1,r2,true,code⟩):=(show _=_ from by rw[HD.out,if_pos ⟨h1,h2⟩])
   clear h1 h2 HD
   go_enter Tryz.func174,Tryz.ntmps174
   go_wp2
   go_region
   go_wp2
   have hg:w.grownBy ((((w.alloc (.cells #[.string k,.int .i64 v] 54)).alloc (.cells #[.int .i64 pc,.int .i64 pr] 130)).alloc (.cells #[.int .i64 r1,.int .i64 r2,.bool true,.int .i64 code] 77)).drew) none:=by repeat (first|exact grown_refl _|exact World.grownBy_alloc _ _ _|refine grown_alloc ?_ _|refine grown_drew ?_)
   have x0:((((w.alloc (.cells #[.string k,.int .i64 v] 54)).alloc (.cells #[.int .i64 pc,.int .i64 pr] 130)).alloc (.cells #[.int .i64 r1,.int .i64 r2,.bool true,.int .i64 code] 77)).drew).cell? ⟨w.heap.size,0,none⟩=some (.string k):=by simp[go_sem]
   have x1:((((w.alloc (.cells #[.string k,.int .i64 v] 54)).alloc (.cells #[.int .i64 pc,.int .i64 pr] 130)).alloc (.cells #[.int .i64 r1,.int .i64 r2,.bool true,.int .i64 code] 77)).drew).cell? ⟨w.heap.size,1,none⟩=some (.int .i64 v):=by simp[go_sem]
   have y0:((((w.alloc (.cells #[.string k,.int .i64 v] 54)).alloc (.cells #[.int .i64 pc,.int .i64 pr] 130)).alloc (.cells #[.int .i64 r1,.int .i64 r2,.bool true,.int .i64 code] 77)).drew).cell? ⟨w.heap.size+1,0,none⟩=some (.int .i64 pc):=by simp[go_sem]
   have z0:((((w.alloc (.cells #[.string k,.int .i64 v] 54)).alloc (.cells #[.int .i64 pc,.int .i64 pr] 130)).alloc (.cells #[.int .i64 r1,.int .i64 r2,.bool true,.int .i64 code] 77)).drew).cell? ⟨w.heap.size+1+1,0,none⟩=some (.int .i64 r1):=by simp[go_sem]
   have z1:((((w.alloc (.cells #[.string k,.int .i64 v] 54)).alloc (.cells #[.int .i64 pc,.int .i64 pr] 130)).alloc (.cells #[.int .i64 r1,.int .i64 r2,.bool true,.int .i64 code] 77)).drew).cell? ⟨w.heap.size+1+1,1,none⟩=some (.int .i64 r2):=by simp[go_sem]
   have z2:((((w.alloc (.cells #[.string k,.int .i64 v] 54)).alloc (.cells #[.int .i64 pc,.int .i64 pr] 130)).alloc (.cells #[.int .i64 r1,.int .i64 r2,.bool true,.int .i64 code] 77)).drew).cell? ⟨w.heap.size+1+1,2,none⟩=some (.bool true):=by simp[go_sem]
   have z3:((((w.alloc (.cells #[.string k,.int .i64 v] 54)).alloc (.cells #[.int .i64 pc,.int .i64 pr] 130)).alloc (.cells #[.int .i64 r1,.int .i64 r2,.bool true,.int .i64 code] 77)).drew).cell? ⟨w.heap.size+1+1,3,none⟩=some (.int .i64 code):=by simp[go_sem]
   generalize ((((w.alloc (.cells #[.string k,.int .i64 v] 54)).alloc (.cells #[.int .i64 pc,.int .i64 pr] 130)).alloc (.cells #[.int .i64 r1,.int .i64 r2,.bool true,.int .i64 code] 77)).drew)=W3 at *
   have TW:=HT.out.grown hg
   have k4:=TW.c4
   have hc2:=TW.calls
   have htb3:=TW.tlt
   have TW':=Lib.hid TW
   clear TW
   go_still_tail 7,(by kernel_rfl)
   go_wp2_with (at_mapUpdate;refine wpList_updateT (ek:=Value.int .i64) (ev:=encCall) _ rfl _ _ _ 117 rfl keInt Tryz.underlying117 T.cb T.calls rfl ((mapT_drew _).2 hc2) pc ⟨r1,r2,true,code⟩ rfl rfl ?_;intro w3 hm3 hg3 hs3;have u0:w3.cell? ⟨w.heap.size,0,none⟩=some (.string k):=hg3.cell x0 (by simp;omega);have u1:w3.cell? ⟨w.heap.size,1,none⟩=some (.int .i64 v):=hg3.cell x1 (by simp;omega);have TP:=(TW'.out.grown (grown_drew (grown_refl _))).upd_calls hm3 hg3;have CH:Chg w w3 (T.blocks tb):=(((Chg.of_grown hg (T.blocks tb)).grown (grown_drew (grown_refl _))).turned hg3 (Or.inl (by simp[Tab.blocks])));have HCH:=Lib.hid CH;have TP0:=Lib.hid TP;clear CH TP hm3 x0 x1 y0 z0 z1 z2 z3)
   have TP:=TP0.out
   have hplt2:T.pb<w3.heap.size:=TP.pending.lt
   have k6:=TP.c6
   have hp2:=TP.pending
   have htb4:=TP.tlt
   try simp only at k6 hp2
   have TP':=Lib.hid TP
   clear TP
   go_still_tail 5,(by kernel_rfl)
   go_wp2_with (at_delete;refine wpList_deleteT (ek:=encID) (ev:=encPend) _ rfl _ _ 119 54 rfl keID Tryz.underlying119 T.pb T.pending rfl ((mapT_drew _).2 hp2) ⟨k,v⟩ rfl ?_;intro w4 hm4 hg4 hs4)
   go_end0
   have T4:=(TP'.out.grown (grown_drew (grown_refl _))).upd_pending hm4 hg4
   refine⟨rfl,?_,?_⟩
   ·unfold doneT;rw[HD2.out];exact T4
   ·exact(HCH.out.grown (grown_drew (grown_refl _))).turned hg4 (Or.inl (by simp[Tab.blocks]))
  ·have d2:(r2 == v)=false:=by simpa using h2
   have HD2:Hid (doneCalls T ⟨k,v⟩ ⟨pc,pr⟩ code=T.calls):=(show _=_ from by rw[HD.out,if_neg (fun e=>h2 e.2)])
   clear h1 h2 HD
   go_enter Tryz.func174,Tryz.ntmps174
   go_wp2
   go_region
   go_wp2
   have hg:w.grownBy ((((w.alloc (.cells #[.string k,.int .i64 v] 54)).alloc (.cells #[.int .i64 pc,.int .i64 pr] 130)).alloc (.cells #[.int .i64 r1,.int .i64 r2,.bool r3,.int .i64 r4] 77)).drew) none:=by repeat (first|exact grown_refl _|exact World.grownBy_alloc _ _ _|refine grown_alloc ?_ _|refine grown_drew ?_)
   have x0:((((w.alloc (.cells #[.string k,.int .i64 v] 54)).alloc (.cells #[.int .i64 pc,.int .i64 pr] 130)).alloc (.cells #[.int .i64 r1,.int .i64 r2,.bool r3,.int .i64 r4] 77)).drew).cell? ⟨w.heap.size,0,none⟩=some (.string k):=by simp[go_sem]
   have x1:((((w.alloc (.cells #[.string k,.int .i64 v] 54)).alloc (.cells #[.int .i64 pc,.int .i64 pr] 130)).alloc (.cells #[.int .i64 r1,.int .i64 r2,.bool r3,.int .i64 r4] 77)).drew).cell? ⟨w.heap.size,1,none⟩=some (.int .i64 v):=by simp[go_sem]
   generalize ((((w.alloc (.cells #[.string k,.int .i64 v] 54)).alloc (.cells #[.int .i64 pc,.int .i64 pr] 130)).alloc (.cells #[.int .i64 r1,.int .i64 r2,.bool r3,.int .i64 r4] 77)).drew)=W3 at *
   have TP:=HT.out.grown hg
   have hplt2:T.pb<W3.heap.size:=TP.pending.lt
   have k6:=TP.c6
   have hp2:=TP.pending
   have htb4:=TP.tlt
   try simp only at k6 hp2
   have TP':=Lib.hid TP
   clear TP
   go_still_tail 5,(by kernel_rfl)
   go_wp2_with (at_delete;refine wpList_deleteT (ek:=encID) (ev:=encPend) _ rfl _ _ 119 54 rfl keID Tryz.underlying119 T.pb T.pending rfl ((mapT_drew _).2 hp2) ⟨k,v⟩ rfl ?_;intro w4 hm4 hg4 hs4)
   go_end0
   have T4:=(TP'.out.grown (grown_drew (grown_refl _))).upd_pending hm4 hg4
   refine⟨rfl,?_,?_⟩
   ·unfold doneT;rw[HD2.out];exact T4
   ·exact((Chg.of_grown hg (T.blocks tb)).grown (grown_drew (grown_refl _))).turned hg4 (Or.inl (by simp[Tab.blocks]))
 ·have d1:(r1 == pr)=false:=by simpa using h1
  have HD2:Hid (doneCalls T ⟨k,v⟩ ⟨pc,pr⟩ code=T.calls):=(show _=_ from by rw[HD.out,if_neg (fun e=>h1 e.1)])
  clear h1 HD
  go_enter Tryz.func174,Tryz.ntmps174
  go_wp2
  go_region
  go_wp2
  have hg:w.grownBy ((((w.alloc (.cells #[.string k,.int .i64 v] 54)).alloc (.cells #[.int .i64 pc,.int .i64 pr] 130)).alloc (.cells #[.int .i64 r1,.int .i64 r2,.bool r3,.int .i64 r4] 77)).drew) none:=by repeat (first|exact grown_refl _|exact World.grownBy_alloc _ _ _|refine grown_alloc ?_ _|refine grown_drew ?_)
  have x0:((((w.alloc (.cells #[.string k,.int .i64 v] 54)).alloc (.cells #[.int .i64 pc,.int .i64 pr] 130)).alloc (.cells #[.int .i64 r1,.int .i64 r2,.bool r3,.int .i64 r4] 77)).drew).cell? ⟨w.heap.size,0,none⟩=some (.string k):=by simp[go_sem]
  have x1:((((w.alloc (.cells #[.string k,.int .i64 v] 54)).alloc (.cells #[.int .i64 pc,.int .i64 pr] 130)).alloc (.cells #[.int .i64 r1,.int .i64 r2,.bool r3,.int .i64 r4] 77)).drew).cell? ⟨w.heap.size,1,none⟩=some (.int .i64 v):=by simp[go_sem]
  generalize ((((w.alloc (.cells #[.string k,.int .i64 v] 54)).alloc (.cells #[.int .i64 pc,.int .i64 pr] 130)).alloc (.cells #[.int .i64 r1,.int .i64 r2,.bool r3,.int .i64 r4] 77)).drew)=W3 at *
  have TP:=HT.out.grown hg
  have hplt2:T.pb<W3.heap.size:=TP.pending.lt
  have k6:=TP.c6
  have hp2:=TP.pending
  have htb4:=TP.tlt
  try simp only at k6 hp2
  have TP':=Lib.hid TP
  clear TP
  go_still_tail 5,(by kernel_rfl)
  go_wp2_with (at_delete;refine wpList_deleteT (ek:=encID) (ev:=encPend) _ rfl _ _ 119 54 rfl keID Tryz.underlying119 T.pb T.pending rfl ((mapT_drew _).2 hp2) ⟨k,v⟩ rfl ?_;intro w4 hm4 hg4 hs4)
  go_end0
  have T4:=(TP'.out.grown (grown_drew (grown_refl _))).upd_pending hm4 hg4
  refine⟨rfl,?_,?_⟩
  ·unfold doneT;rw[HD2.out];exact T4
  ·exact((Chg.of_grown hg (T.blocks tb)).grown (grown_drew (grown_refl _))).turned hg4 (Or.inl (by simp[Tab.blocks]))
end
def part (m:List (ID × NSet)) (seen:ID→Bool) (n:Int):List (ID × NSet):=m.map fun p=>(p.1,⟨p.2.blk,if seen p.1=true then sdel p.2.mem n else p.2.mem⟩)
def sdelAll (m:List (ID × NSet)) (n:Int):List (ID × NSet):=m.map fun p=>(p.1,⟨p.2.blk,sdel p.2.mem n⟩)
theorem part_start (m:List (ID × NSet)) (n:Int):part m (fun _=>false) n=m:=by
 unfold part;simp
theorem part_end {m:List (ID × NSet)} {seen:ID→Bool} (h:AllSeen m seen) (n:Int):part m seen n=sdelAll m n:=by
 unfold part sdelAll
 apply List.map_congr_left
 intro p hp
 rw[if_pos (h p hp)]
theorem part_step {m:List (ID × NSet)} {seen:ID→Bool} {k:ID} (hk:seen k=false) (n:Int):smod (part m seen n) k (fun l=>sdel l n)=part m (fun x=>seen x || decide (x=k)) n:=by
 unfold smod part
 rw[List.map_map]
 apply List.map_congr_left
 intro p hp
 simp only[Function.comp]
 by_cases e:p.1=k
 ·simp[e,hk]
 ·simp[e]
theorem part_keys (m:List (ID × NSet)) (seen:ID→Bool) (n:Int):(part m seen n).map (·.1)=m.map (·.1):=by
 unfold part;rw[List.map_map];rfl
theorem part_blks (m:List (ID × NSet)) (seen:ID→Bool) (n:Int):(part m seen n).map (·.2.blk)=m.map (·.2.blk):=by
 unfold part;rw[List.map_map];rfl
theorem sdelAll_blks (m:List (ID × NSet)) (n:Int):(sdelAll m n).map (·.2.blk)=m.map (·.2.blk):=by
 unfold sdelAll;rw[List.map_map];rfl
theorem part_get {m:List (ID × NSet)} (hn:(m.map (·.1)).Nodup) {seen:ID→Bool} {k:ID} {s:NSet} (h:(k,s)∈m) (hk:seen k=false) (n:Int):mget (part m seen n) k=some s:=by
 refine mget_of_mem (by rw[part_keys];exact hn) ?_
 unfold part
 refine List.mem_map.2 ⟨(k,s),h,?_⟩
 simp[hk]
section
variable {w w1 : World} {tb : Nat} {T : Tab}
theorem TRep.upd_sets (h:TRep w tb T) {H R:List (ID × NSet)} (hc:Chg w w1 (T.hb :: T.rb :: (T.holds.map (·.2.blk)++T.refuses.map (·.2.blk)))) (ht:Two w1 T.rb T.hb R H)
  (hH:∀x∈H,x.2.blk∈T.holds.map (·.2.blk)∨w.heap.size≤x.2.blk) (hR:∀x∈R,x.2.blk∈T.refuses.map (·.2.blk)∨w.heap.size≤x.2.blk):TRep w1 tb { T with holds:=H,refuses:=R }:=by
 have nd:=h.nodup
 have nd0:=nd
 simp only[Tab.blocks,List.nodup_cons,List.mem_cons,List.mem_append,List.mem_map,not_or,not_exists,not_and] at nd
 have out:∀b,b∈[tb,T.lb,T.cb,T.vb,T.pb]→b ∉ (T.hb :: T.rb :: (T.holds.map (·.2.blk)++T.refuses.map (·.2.blk))):=by
  intro b hb
  simp only[List.mem_cons,List.not_mem_nil,or_false] at hb
  simp only[List.mem_cons,List.mem_append,List.mem_map,not_or,not_exists,not_and]
  rcases hb with rfl|rfl|rfl|rfl|rfl
  ·exact⟨nd.1.2.2.2.2.1,nd.1.2.2.2.2.2.1,nd.1.2.2.2.2.2.2.1,nd.1.2.2.2.2.2.2.2⟩
  ·exact⟨nd.2.1.2.2.2.1,nd.2.1.2.2.2.2.1,nd.2.1.2.2.2.2.2.1,nd.2.1.2.2.2.2.2.2⟩
  ·exact⟨nd.2.2.1.2.2.1,nd.2.2.1.2.2.2.1,nd.2.2.1.2.2.2.2.1,nd.2.2.1.2.2.2.2.2⟩
  ·exact⟨nd.2.2.2.1.2.1,nd.2.2.2.1.2.2.1,nd.2.2.2.1.2.2.2.1,nd.2.2.2.1.2.2.2.2⟩
  ·exact⟨nd.2.2.2.2.1.1,nd.2.2.2.2.1.2.1,nd.2.2.2.2.1.2.2.1,nd.2.2.2.2.1.2.2.2⟩
 have blk:∀b,b∈[tb,T.lb,T.cb,T.vb,T.pb]→w1.heap[b]? = w.heap[b]?:=fun b hb=>hc.block (h.lt b (by
  simp only[List.mem_cons,List.not_mem_nil,or_false] at hb
  simp only[Tab.blocks,List.mem_cons];rcases hb with rfl|rfl|rfl|rfl|rfl <;> simp)) (out b hb)
 have fresh:∀b,b∈[tb,T.lb,T.cb,T.vb,T.pb]→(b ∉ H.map (·.2.blk)∧b ∉ R.map (·.2.blk))∧b≠T.hb∧b≠T.rb:=by
  intro b hb
  have h1:=out b hb
  have hlt:b<w.heap.size:=h.lt b (by
   simp only[List.mem_cons,List.not_mem_nil,or_false] at hb
   simp only[Tab.blocks,List.mem_cons];rcases hb with rfl|rfl|rfl|rfl|rfl <;> simp)
  simp only[List.mem_cons,List.mem_append,not_or] at h1
  refine⟨⟨fun hm=>?_,fun hm=>?_⟩,h1.1,h1.2.1⟩
  ·obtain⟨x,hx,e⟩:=List.mem_map.1 hm
   rcases hH x hx with h2|h2
   ·exact h1.2.2.1 (e ▸ h2)
   ·omega
  ·obtain⟨x,hx,e⟩:=List.mem_map.1 hm
   rcases hR x hx with h2|h2
   ·exact h1.2.2.2 (e ▸ h2)
   ·omega
 exact {
  cells:=(blk tb (by simp)).trans h.cells
  lives:=(blk T.lb (by simp)).trans h.lives
  calls:=h.calls.same (blk T.cb (by simp))
  values:=h.values.same (blk T.vb (by simp))
  pending:=h.pending.same (blk T.pb (by simp))
  holds:=ht.t
  refuses:=ht.f
  hsets:=ht.ts
  rsets:=ht.fs
  nodup:=by
   have f0:=fresh tb (by simp)
   have f1:=fresh T.lb (by simp)
   have f2:=fresh T.cb (by simp)
   have f3:=fresh T.vb (by simp)
   have f4:=fresh T.pb (by simp)
   have n2:=ht.swap.nd
   simp only[Tab.blocks]
   simp only[List.nodup_cons,List.mem_cons,List.mem_append,not_or] at n2 f0 f1 f2 f3 f4 ⊢
   exact⟨⟨nd.1.1,nd.1.2.1,nd.1.2.2.1,nd.1.2.2.2.1,f0.2.1,f0.2.2,f0.1.1,f0.1.2⟩,
    ⟨nd.2.1.1,nd.2.1.2.1,nd.2.1.2.2.1,f1.2.1,f1.2.2,f1.1.1,f1.1.2⟩,
    ⟨nd.2.2.1.1,nd.2.2.1.2.1,f2.2.1,f2.2.2,f2.1.1,f2.1.2⟩,
    ⟨nd.2.2.2.1.1,f3.2.1,f3.2.2,f3.1.1,f3.1.2⟩,
    ⟨f4.2.1,f4.2.2,f4.1.1,f4.1.2⟩,n2.1,n2.2⟩ }
theorem TRep.two (h:TRep w tb T):Two w T.rb T.hb T.refuses T.holds:=by
 refine Two.swap ⟨h.holds,h.refuses,h.hsets,h.rsets,?_⟩
 have:=h.nodup
 unfold Tab.blocks at this
 exact(List.nodup_cons.1 (List.nodup_cons.1 (List.nodup_cons.1 (List.nodup_cons.1 (List.nodup_cons.1 this).2).2).2).2).2
theorem TRep.upd_life (h:TRep w tb T) (k:Nat) (n:Int):TRep (w.setCell ⟨T.lb,k,none⟩ (.int .i64 n)) tb { T with lives:=T.lives.set k n }:=by
 have nd:=h.nodup
 simp only[Tab.blocks,List.nodup_cons,List.mem_cons,List.mem_append,List.mem_map,not_or,not_exists,not_and] at nd
 have ho:∀b,b≠T.lb→(w.setCell ⟨T.lb,k,none⟩ (.int .i64 n)).heap[b]? = w.heap[b]?:=fun b hb=>Below.heap_setCell w _ _ b hb
 exact {
  cells:=by
   rw[ho tb nd.1.1,h.cells]
   simp[Tab.cells]
  lives:=by
   have:=h.lives
   simp only[World.setCell,Array.getElem?_modify,if_true,this]
   simp[List.map_set]
  calls:=h.calls.same (ho T.cb (Ne.symm nd.2.1.1))
  values:=h.values.same (ho T.vb (Ne.symm nd.2.1.2.1))
  pending:=h.pending.same (ho T.pb (Ne.symm nd.2.1.2.2.1))
  holds:=h.holds.same (ho T.hb (Ne.symm nd.2.1.2.2.2.1))
  refuses:=h.refuses.same (ho T.rb (Ne.symm nd.2.1.2.2.2.2.1))
  hsets:=fun x hx=>MapT.same (h.hsets x hx) (ho x.2.blk (nd.2.1.2.2.2.2.2.1 x hx))
  rsets:=fun x hx=>MapT.same (h.rsets x hx) (ho x.2.blk (nd.2.1.2.2.2.2.2.2 x hx))
  nodup:=h.nodup }
end
section
variable {w w1 : World} {tb : Nat} {T : Tab}
def lifeB (T:Tab) (c:Cmd):Bool:=!(decide (c.inc≤lifeV T c.node) || decide (T.offers<c.inc))
def lifeStep (T:Tab) (c:Cmd) (j:Nat):Tab:={ T with lives:=T.lives.set c.node.toNat c.inc,holds:=if 1≤j then sdelAll T.holds c.node else T.holds,refuses:=if 2≤j then sdelAll T.refuses c.node else T.refuses }
def lifeT (T:Tab) (c:Cmd):Tab:=if lifeB T c=true then lifeStep T c 2 else T
theorem lifeT_t {T:Tab} {c:Cmd} (h:lifeB T c=true):lifeT T c=lifeStep T c 2:=if_pos h
theorem lifeT_f {T:Tab} {c:Cmd} (h:lifeB T c=false):lifeT T c=T:=if_neg (by rw[h];decide)
theorem Chg.mono {a b:World} {bs cs:List Nat} (h:Chg a b bs) (hs:∀x∈bs,x∈cs):Chg a b cs:=⟨h.1,h.2.1,h.2.2.1,h.2.2.2.1,fun k hk hn=>h.2.2.2.2 k hk (fun e=>hn (hs k e))⟩
theorem Two.keptRow {w w1:World} {fb tb:Nat} {mf mt:List (ID × NSet)} {r:Nat} (h:Two w fb tb mf mt) (hg:w.grownBy w1 (some r)) (hr:∀b∈fb :: tb :: (mf.map (·.2.blk)++mt.map (·.2.blk)),b≠r):Two w1 fb tb mf mt:=
 ⟨h.f.kept hg (by simpa using hr fb (by simp)),h.t.kept hg (by simpa using hr tb (by simp)),
 fun x hx=>MapT.kept (h.fs x hx) hg (by have:=hr x.2.blk (by simp only[List.mem_cons,List.mem_append,List.mem_map];exact Or.inr (Or.inr (Or.inl ⟨x,hx,rfl⟩)));simpa using this),
 fun x hx=>MapT.kept (h.ts x hx) hg (by have:=hr x.2.blk (by simp only[List.mem_cons,List.mem_append,List.mem_map];exact Or.inr (Or.inr (Or.inr ⟨x,hx,rfl⟩)));simpa using this),h.nd⟩
theorem Two.lt {w:World} {fb tb:Nat} {mf mt:List (ID × NSet)} (h:Two w fb tb mf mt):∀b∈fb :: tb :: (mf.map (·.2.blk)++mt.map (·.2.blk)),b<w.heap.size:=by
 intro b hb
 simp only[List.mem_cons,List.mem_append,List.mem_map] at hb
 rcases hb with rfl|rfl|⟨x,hx,rfl⟩|⟨x,hx,rfl⟩
 ·exact h.f.lt
 ·exact h.t.lt
 ·exact MapT.lt (h.fs x hx)
 ·exact MapT.lt (h.ts x hx)
structure LifeAt (w wr:World) (tb rk:Nat) (T:Tab) (c:Cmd) (j:Nat):Prop where
 rep:TRep wr tb (lifeStep T c j)
 chg:Chg w wr (T.blocks tb)
 box:wr.heap[w.heap.size]? = some (.cells #[.int .u8 c.kind,.int .i64 c.node,.int .i64 c.client,.int .i64 c.inc,.int .i64 c.req,.int .i64 c.ver,.string c.key,.int .i64 c.code] 24 (0,0))
 out:w.heap.size<rk
 row:wr.heap[rk]? = some (.cells #[.map (some T.hb),.map (some T.rb)] 120 (0,0))
set_option maxHeartbeats 4000000 in
set_option maxRecDepth 100000 in
theorem life_do (h:TRep w tb T) (c:Cmd) (hl:T.lives.length≤9223372036854775807) (h0:0≤c.node) (h1:c.node<T.lives.length) :
  Calls Tryz.prog 130 #[.pointer (some ⟨tb,0,none⟩),encCmd c] w fun e w'=>e = .returned (.tuple #[])∧
   TRep w' tb (lifeT T c)∧Chg w w' (T.blocks tb):=by
 have htb:=h.tlt
 have htb1:tb<w.heap.size+1:=by omega
 have hlb:=h.llt
 have hlb1:T.lb<w.heap.size+1:=by omega
 have c1:=h.c1
 have c3:=h.c3
 have c7:=h.c7
 have c8:=h.c8
 obtain⟨kind,node,client,inc,req,ver,key,code⟩:=c
 simp only at h0 h1
 obtain⟨nd,rfl⟩:=Int.eq_ofNat_of_zero_le h0
 have hnd:nd<T.lives.length:=by omega
 have cl:=h.life nd hnd
 have fl:=h.lfree nd
 have HL:Hid (lifeV T nd=T.lives.getD nd 0):=(show _=_ from by unfold lifeV;rw[if_neg (by omega)];simp)
 have HB:Hid (lifeB T ⟨kind,(nd:Int),client,inc,req,ver,key,code⟩ = !(decide (inc≤T.lives.getD nd 0) || decide (T.offers<inc))):=(show _=_ from by unfold lifeB;simp only;rw[HL.out])
 have HT:=Lib.hid h
 clear h HL
 generalize T.lives.getD nd 0=old at *
 generalize hoff:T.offers=off at *
 clear hoff
 simp only[encCmd]
 by_cases hi1:inc≤old
 ·have d1:decide (inc≤old)=true:=by simpa using hi1
  have HB2:Hid (lifeB T ⟨kind,(nd:Int),client,inc,req,ver,key,code⟩=false):=(show _=_ from by rw[HB.out,d1];rfl)
  clear HB
  go_enter Tryz.func130,Tryz.ntmps130
  go_wp2
  refine wp_region_quiet_ext (by kernel_rfl) (by kernel_rfl) ?_
  repeat (any_goals (first|go_big_quiet_step (fail)|quiet_step (fail)))
  refine wpQuiet_nil ?_
  intro _ hw'
  obtain⟨y,hw''⟩:=hw'
  subst hw''
  go_wp2
  refine bodyPost_ret (results_none rfl _ _ _) rfl ?_
  have hg:w.grownBy (ext (w.alloc (.cells #[.int .u8 kind,.int .i64 nd,.int .i64 client,.int .i64 inc,.int .i64 req,.int .i64 ver,.string key,.int .i64 code] 24)) y) none:=by repeat (first|exact grown_refl _|exact World.grownBy_alloc _ _ _|refine grown_ext' ?_ _|refine grown_alloc ?_ _|refine grown_drew ?_)
  exact⟨rfl,by rw[lifeT_f HB2.out];exact HT.out.grown hg,Chg.of_grown hg _⟩
 ·have d1:decide (inc≤old)=false:=by simpa using hi1
  by_cases hi2:off<inc
  ·have d2:decide (off<inc)=true:=by simpa using hi2
   have HB2:Hid (lifeB T ⟨kind,(nd:Int),client,inc,req,ver,key,code⟩=false):=(show _=_ from by rw[HB.out,d1,d2];rfl)
   clear HB
   go_enter Tryz.func130,Tryz.ntmps130
   go_wp2
   refine wp_region_quiet_ext (by kernel_rfl) (by kernel_rfl) ?_
   repeat (any_goals (first|go_big_quiet_step (fail)|quiet_step (fail)))
   refine wpQuiet_nil ?_
   intro _ hw'
   obtain⟨y,hw''⟩:=hw'
   subst hw''
   go_wp2
   refine bodyPost_ret (results_none rfl _ _ _) rfl ?_
   have hg:w.grownBy (ext (w.alloc (.cells #[.int .u8 kind,.int .i64 nd,.int .i64 client,.int .i64 inc,.int .i64 req,.int .i64 ver,.string key,.int .i64 code] 24)) y) none:=by repeat (first|exact grown_refl _|exact World.grownBy_alloc _ _ _|refine grown_ext' ?_ _|refine grown_alloc ?_ _|refine grown_drew ?_)
   exact⟨rfl,by rw[lifeT_f HB2.out];exact HT.out.grown hg,Chg.of_grown hg _⟩
  ·have d2:decide (off<inc)=false:=by simpa using hi2
   have HB2:Hid (lifeB T ⟨kind,(nd:Int),client,inc,req,ver,key,code⟩=true):=(show _=_ from by rw[HB.out,d1,d2];rfl)
   clear HB
   go_enter Tryz.func130,Tryz.ntmps130
   go_wp2
   refine wp_region_quiet_ext (by kernel_rfl) (by kernel_rfl) ?_
   repeat (any_goals (first|go_big_quiet_step (fail)|quiet_step (fail)))
   refine wpQuiet_nil ?_
   intro _ hw'
   obtain⟨y,hw''⟩:=hw'
   subst hw''
   go_wp2
   go_region
   go_wp2
   have hg:w.grownBy (ext (w.alloc (.cells #[.int .u8 kind,.int .i64 nd,.int .i64 client,.int .i64 inc,.int .i64 req,.int .i64 ver,.string key,.int .i64 code] 24)) ⟨y.d+1,y.os⟩) none:=by repeat (first|exact grown_refl _|exact World.grownBy_alloc _ _ _|refine grown_ext' ?_ _|refine grown_alloc ?_ _|refine grown_drew ?_)
   have T2:TRep ((ext (w.alloc (.cells #[.int .u8 kind,.int .i64 nd,.int .i64 client,.int .i64 inc,.int .i64 req,.int .i64 ver,.string key,.int .i64 code] 24)) ⟨y.d+1,y.os⟩).setCell ⟨T.lb,nd,none⟩ (.int .i64 inc)) tb (lifeStep T ⟨kind,(nd:Int),client,inc,req,ver,key,code⟩ 0):=(HT.out.grown hg).upd_life nd inc
   have C2:Chg w ((ext (w.alloc (.cells #[.int .u8 kind,.int .i64 nd,.int .i64 client,.int .i64 inc,.int .i64 req,.int .i64 ver,.string key,.int .i64 code] 24)) ⟨y.d+1,y.os⟩).setCell ⟨T.lb,nd,none⟩ (.int .i64 inc)) (T.blocks tb):=(Chg.of_grown hg _).setCell ⟨T.lb,nd,none⟩ _ (Or.inl (by simp[Tab.blocks]))
   have B2:((ext (w.alloc (.cells #[.int .u8 kind,.int .i64 nd,.int .i64 client,.int .i64 inc,.int .i64 req,.int .i64 ver,.string key,.int .i64 code] 24)) ⟨y.d+1,y.os⟩).setCell ⟨T.lb,nd,none⟩ (.int .i64 inc)).heap[w.heap.size]? = some (.cells #[.int .u8 kind,.int .i64 nd,.int .i64 client,.int .i64 inc,.int .i64 req,.int .i64 ver,.string key,.int .i64 code] 24 (0,0)):=by
    rw[Below.heap_setCell _ _ _ _ (by simp;omega),heap_ext _ _ (by simp)]
    exact(MapKept.heap_alloc w _).1
   have hsz:w.heap.size<((ext (w.alloc (.cells #[.int .u8 kind,.int .i64 nd,.int .i64 client,.int .i64 inc,.int .i64 req,.int .i64 ver,.string key,.int .i64 code] 24)) ⟨y.d+1,y.os⟩).setCell ⟨T.lb,nd,none⟩ (.int .i64 inc)).heap.size:=by simp[World.setCell,ext];omega
   generalize ((ext (w.alloc (.cells #[.int .u8 kind,.int .i64 nd,.int .i64 client,.int .i64 inc,.int .i64 req,.int .i64 ver,.string key,.int .i64 code] 24)) ⟨y.d+1,y.os⟩).setCell ⟨T.lb,nd,none⟩ (.int .i64 inc))=W2 at *
   have k7:=T2.c7
   have k8:=T2.c8
   have HT2:=Lib.hid T2
   have HC2:=Lib.hid C2
   have HB3:=Lib.hid B2
   clear T2 C2 B2 c7 c8 c1 c3 cl fl
   simp only[lifeStep] at k7 k8
   go_region
   go_wp2
   obtain⟨rk,hrk⟩:∃rk,rk=W2.heap.size:=⟨_,rfl⟩
   have L0:LifeAt w ((W2.alloc (.cells #[.map (some T.hb),.map (some T.rb)] 120)).drew) tb rk T ⟨kind,(nd:Int),client,inc,req,ver,key,code⟩ 0:={
    rep:=HT2.out.grown (grown_drew (World.grownBy_alloc W2 _ none))
    chg:=HC2.out.grown (grown_drew (World.grownBy_alloc W2 _ none))
    box:=(Below.heap_alloc W2 (.cells #[.map (some T.hb),.map (some T.rb)] 120) _ hsz).trans HB3.out
    out:=by rw[hrk];exact hsz
    row:=by rw[hrk];exact(MapKept.heap_alloc W2 _).1 }
   have HL0:=Lib.hid L0
   have HRK:=Lib.hid hrk
   clear L0 k7 k8
   rw[←hrk]
   clear hrk
   go_loopw [47] (fun i wr=>∃j:Nat,j≤2∧i = .int .i64 j∧LifeAt w wr tb rk T ⟨kind,(nd:Int),client,inc,req,ver,key,code⟩ j) (fun i _=>2-(intOf i).toNat)
   case atStart=>exact⟨0,by omega,rfl,HL0.out⟩
   case round=>
    obtain⟨j,hj,rfl,hA⟩:=hrel
    obtain⟨wo,rfl⟩:∃wo:World,wo=wr:=⟨_,rfl⟩
    have hj3:j=0∨j=1∨j=2:=by omega
    clear hj
    rcases hj3 with rfl|rfl|rfl
    ·skip
     have hrep:=hA.rep
     have hbox:=hA.box
     have hrow:=hA.row
     have ri:wo.cell? ⟨rk,0,none⟩=some (.map (some T.hb)):=cell_block hrow 0
     have hmap:MapT wo T.hb encID encSet T.holds:=hrep.holds
     have hbn:wo.cell? ⟨w.heap.size,1,none⟩=some (.int .i64 nd):=cell_block hbox 1
     have h2:Two wo T.hb T.rb T.holds T.refuses:=hrep.two.swap
     have hlt2:=hmap.lt
     have H2:=Lib.hid h2
     have HR:=Lib.hid hrep
     have HX:=Lib.hid hbox
     have HW:=Lib.hid hrow
     have HA:=Lib.hid hA
     clear h2 hrep hbox hrow hA
     go_wp2_with (at_range;refine wpList_rangeT (ek:=encID) (ev:=encSet) _ rfl _ 120 rfl Tryz.underlying120 T.hb T.holds rfl hmap ?_;intro w0 hi0 hg0 hs0)
     try go_frame
     go_loopw [53] (fun _ wi=>∃seen,IterT wi wo.heap.size T.hb encID encSet T.holds seen∧Two wi T.hb T.rb (part T.holds seen nd) T.refuses∧Chg wo wi ((T.holds).map (·.2.blk))) (fun _ wi=>leftW wi wo.heap.size T.hb)
     case atStart=>exact⟨fun _=>false,hi0,by rw[part_start];exact H2.out.grown hg0,Chg.of_grown hg0 _⟩
     case round=>
      obtain⟨seen,hi,hT2,hC⟩:=hrel
      go_wp2_with (at_next;refine wpList_nextT _ rfl _ rfl encID_inj wo.heap.size T.hb _ seen rfl hi ?_ ?_)
      ·intro hall
       rw[part_end hall] at hT2
       go_wp2
       go_roundw
       case rel=>
        refine⟨0+1,by omega,rfl,?_⟩
        exact {
         rep:=by
          have:=HR.out.upd_sets (H:=sdelAll T.holds nd) (R:=T.refuses) (hC.mono (by intro b hb;simp only[List.mem_cons,List.mem_append];exact Or.inr (Or.inr (Or.inl hb)))) hT2.swap (fun x hx=>Or.inl (by show x.2.blk∈T.holds.map (·.2.blk);rw[←sdelAll_blks T.holds nd];exact List.mem_map.2 ⟨x,hx,rfl⟩)) (fun x hx=>Or.inl (List.mem_map.2 ⟨x,hx,rfl⟩))
          exact this
         chg:=HA.out.chg.trans hC (fun b hb=>Or.inl (by simp only[Tab.blocks,List.mem_cons,List.mem_append];simp[hb]))
         box:=(by rw[hC.block (Array.getElem?_eq_some_iff.1 HX.out).1 (fun hb=>by
          obtain⟨x,hx,ex⟩:=List.mem_map.1 hb
          obtain⟨es,ck,hes,_⟩:=H2.out.fs x hx
          rw[ex,HX.out] at hes
          cases hes)];exact HX.out)
         out:=HA.out.out
         row:=(by rw[hC.block (Array.getElem?_eq_some_iff.1 HW.out).1 (fun hb=>by
          obtain⟨x,hx,ex⟩:=List.mem_map.1 hb
          obtain⟨es,ck,hes,_⟩:=H2.out.fs x hx
          rw[ex,HW.out] at hes
          cases hes)];exact HW.out) }
       case measure=>simp[intOf]
      ·intro k s w1 ⟨hmem,hsn,hi1,hg1,hs1,hen⟩
       have hget:=part_get hi.map.nodup hmem hsn (nd:Int)
       have hT3:=hT2
       have hgm:=mget_mem hget
       have hnb:T.hb≠s.blk:=fun e=>by
        have ndp:=hT2.nd
        simp only[List.nodup_cons,List.mem_cons,List.mem_append,not_or,List.mem_map,not_exists,not_and] at ndp
        exact ndp.1.2.1 _ hgm e.symm
       have hslt0:s.blk<wo.heap.size:=MapT.lt (H2.out.fs _ hmem)
       have hbe:w.heap.size≠s.blk∧w.heap.size<wo.heap.size:=by
        have hlt3:w.heap.size<wo.heap.size:=(Array.getElem?_eq_some_iff.1 HX.out).1
        refine⟨fun e=>?_,hlt3⟩
        have:s.blk<wo.heap.size:=hslt0
        have hmc:=MapT.same (w':=wo) (H2.out.fs _ hmem) rfl
        obtain⟨es,ck,hes,_⟩:=hmc
        rw[←e,HX.out] at hes
        cases hes
       have hrne:wo.heap.size≠s.blk:=by omega
       have xb:w1.cell? ⟨w.heap.size,1,none⟩=some (.int .i64 nd):=by
        refine hg1.cell (hC.cell hbn ?_) (by simp;omega)
        intro hb
        obtain⟨x,hx,ex⟩:=List.mem_map.1 hb
        obtain⟨es,ck,hes,_⟩:=H2.out.fs x hx
        rw[ex] at hes
        simp only at hes
        rw[HX.out] at hes
        cases hes
       have hset:SetT w1 s:=MapT.kept (hT2.fs _ hgm) hg1 (by simp;omega)
       have HS:=Lib.hid hset
       have HG:=Lib.hid hget
       have HM:=Lib.hid hmem
       have HN:=Lib.hid hsn
       have HT4:=Lib.hid hT2
       have HC4:=Lib.hid hC
       have hlst:=leftN_step hmem hsn
       have HLS:=Lib.hid hlst
       clear hset hget hmem hsn hT2 hT3 hC hgm hlst
       obtain⟨kk,kn⟩:=k
       obtain⟨sb,sm⟩:=s
       simp only[encID,encSet] at hen hnb hbe hrne hslt0 ⊢
       go_wp2_with (at_delete;refine wpList_deleteT (ek:=Value.int .i64) (ev:=encUnit) _ rfl _ _ 127 3 rfl keInt Tryz.underlying127 sb (sm.map fun n=>(n,())) rfl HS.out (nd:Int) rfl ?_;intro w3 hm3 hg3 hs3;go_frame)
       have hi3:=hi1.kept hg3 (by simpa using hnb) (by simpa using hrne)
       have hm4:SetT w3 ⟨sb,sdel sm nd⟩:=by rw[mdel_unit] at hm3;exact hm3
       have hT4:=((HT4.out.keptRow hg1 (fun b hb=>by have:=H2.out.lt b (by rw[part_blks] at hb;exact hb);omega)).mod HG.out (fun l=>sdel l nd) hm4 hg3)
       go_roundw
       case rel=>exact⟨_,hi3,by rw[←part_step HN.out];exact hT4,(HC4.out.turned hg1 (Or.inr (Nat.le_refl _))).turned hg3 (Or.inl (List.mem_map.2 ⟨_,HM.out,rfl⟩))⟩
       case measure=>rw[hi3.left,hi.left];exact HLS.out
    ·skip
     have hrep:=hA.rep
     have hbox:=hA.box
     have hrow:=hA.row
     have ri:wo.cell? ⟨rk,1,none⟩=some (.map (some T.rb)):=cell_block hrow 1
     have hmap:MapT wo T.rb encID encSet T.refuses:=hrep.refuses
     have hbn:wo.cell? ⟨w.heap.size,1,none⟩=some (.int .i64 nd):=cell_block hbox 1
     have h2:Two wo T.rb T.hb T.refuses (sdelAll T.holds nd):=hrep.two
     have hlt2:=hmap.lt
     have H2:=Lib.hid h2
     have HR:=Lib.hid hrep
     have HX:=Lib.hid hbox
     have HW:=Lib.hid hrow
     have HA:=Lib.hid hA
     clear h2 hrep hbox hrow hA
     go_wp2_with (at_range;refine wpList_rangeT (ek:=encID) (ev:=encSet) _ rfl _ 120 rfl Tryz.underlying120 T.rb T.refuses rfl hmap ?_;intro w0 hi0 hg0 hs0)
     try go_frame
     go_loopw [53] (fun _ wi=>∃seen,IterT wi wo.heap.size T.rb encID encSet T.refuses seen∧Two wi T.rb T.hb (part T.refuses seen nd) (sdelAll T.holds nd)∧Chg wo wi ((T.refuses).map (·.2.blk))) (fun _ wi=>leftW wi wo.heap.size T.rb)
     case atStart=>exact⟨fun _=>false,hi0,by rw[part_start];exact H2.out.grown hg0,Chg.of_grown hg0 _⟩
     case round=>
      obtain⟨seen,hi,hT2,hC⟩:=hrel
      go_wp2_with (at_next;refine wpList_nextT _ rfl _ rfl encID_inj wo.heap.size T.rb _ seen rfl hi ?_ ?_)
      ·intro hall
       rw[part_end hall] at hT2
       go_wp2
       go_roundw
       case rel=>
        refine⟨1+1,by omega,rfl,?_⟩
        exact {
         rep:=by
          have:=HR.out.upd_sets (H:=sdelAll T.holds nd) (R:=sdelAll T.refuses nd) (hC.mono (by intro b hb;simp only[List.mem_cons,List.mem_append];exact Or.inr (Or.inr (Or.inr hb)))) hT2 (fun x hx=>Or.inl (List.mem_map.2 ⟨x,hx,rfl⟩)) (fun x hx=>Or.inl (by show x.2.blk∈T.refuses.map (·.2.blk);rw[←sdelAll_blks T.refuses nd];exact List.mem_map.2 ⟨x,hx,rfl⟩))
          exact this
         chg:=HA.out.chg.trans hC (fun b hb=>Or.inl (by simp only[Tab.blocks,List.mem_cons,List.mem_append];simp[hb]))
         box:=(by rw[hC.block (Array.getElem?_eq_some_iff.1 HX.out).1 (fun hb=>by
          obtain⟨x,hx,ex⟩:=List.mem_map.1 hb
          obtain⟨es,ck,hes,_⟩:=H2.out.fs x hx
          rw[ex,HX.out] at hes
          cases hes)];exact HX.out)
         out:=HA.out.out
         row:=(by rw[hC.block (Array.getElem?_eq_some_iff.1 HW.out).1 (fun hb=>by
          obtain⟨x,hx,ex⟩:=List.mem_map.1 hb
          obtain⟨es,ck,hes,_⟩:=H2.out.fs x hx
          rw[ex,HW.out] at hes
          cases hes)];exact HW.out) }
       case measure=>simp[intOf]
      ·intro k s w1 ⟨hmem,hsn,hi1,hg1,hs1,hen⟩
       have hget:=part_get hi.map.nodup hmem hsn (nd:Int)
       have hT3:=hT2
       have hgm:=mget_mem hget
       have hnb:T.rb≠s.blk:=fun e=>by
        have ndp:=hT2.nd
        simp only[List.nodup_cons,List.mem_cons,List.mem_append,not_or,List.mem_map,not_exists,not_and] at ndp
        exact ndp.1.2.1 _ hgm e.symm
       have hslt0:s.blk<wo.heap.size:=MapT.lt (H2.out.fs _ hmem)
       have hbe:w.heap.size≠s.blk∧w.heap.size<wo.heap.size:=by
        have hlt3:w.heap.size<wo.heap.size:=(Array.getElem?_eq_some_iff.1 HX.out).1
        refine⟨fun e=>?_,hlt3⟩
        have:s.blk<wo.heap.size:=hslt0
        have hmc:=MapT.same (w':=wo) (H2.out.fs _ hmem) rfl
        obtain⟨es,ck,hes,_⟩:=hmc
        rw[←e,HX.out] at hes
        cases hes
       have hrne:wo.heap.size≠s.blk:=by omega
       have xb:w1.cell? ⟨w.heap.size,1,none⟩=some (.int .i64 nd):=by
        refine hg1.cell (hC.cell hbn ?_) (by simp;omega)
        intro hb
        obtain⟨x,hx,ex⟩:=List.mem_map.1 hb
        obtain⟨es,ck,hes,_⟩:=H2.out.fs x hx
        rw[ex] at hes
        simp only at hes
        rw[HX.out] at hes
        cases hes
       have hset:SetT w1 s:=MapT.kept (hT2.fs _ hgm) hg1 (by simp;omega)
       have HS:=Lib.hid hset
       have HG:=Lib.hid hget
       have HM:=Lib.hid hmem
       have HN:=Lib.hid hsn
       have HT4:=Lib.hid hT2
       have HC4:=Lib.hid hC
       have hlst:=leftN_step hmem hsn
       have HLS:=Lib.hid hlst
       clear hset hget hmem hsn hT2 hT3 hC hgm hlst
       obtain⟨kk,kn⟩:=k
       obtain⟨sb,sm⟩:=s
       simp only[encID,encSet] at hen hnb hbe hrne hslt0 ⊢
       go_wp2_with (at_delete;refine wpList_deleteT (ek:=Value.int .i64) (ev:=encUnit) _ rfl _ _ 127 3 rfl keInt Tryz.underlying127 sb (sm.map fun n=>(n,())) rfl HS.out (nd:Int) rfl ?_;intro w3 hm3 hg3 hs3;go_frame)
       have hi3:=hi1.kept hg3 (by simpa using hnb) (by simpa using hrne)
       have hm4:SetT w3 ⟨sb,sdel sm nd⟩:=by rw[mdel_unit] at hm3;exact hm3
       have hT4:=((HT4.out.keptRow hg1 (fun b hb=>by have:=H2.out.lt b (by rw[part_blks] at hb;exact hb);omega)).mod HG.out (fun l=>sdel l nd) hm4 hg3)
       go_roundw
       case rel=>exact⟨_,hi3,by rw[←part_step HN.out];exact hT4,(HC4.out.turned hg1 (Or.inr (Nat.le_refl _))).turned hg3 (Or.inl (List.mem_map.2 ⟨_,HM.out,rfl⟩))⟩
       case measure=>rw[hi3.left,hi.left];exact HLS.out
    ·have HA:=Lib.hid hA
     clear hA
     go_wp2
     go_end0
     exact⟨rfl,by rw[lifeT_t HB2.out];exact HA.out.rep,HA.out.chg⟩
end
end Go.Proofs.YtjfelfjobeeenaaGreat
