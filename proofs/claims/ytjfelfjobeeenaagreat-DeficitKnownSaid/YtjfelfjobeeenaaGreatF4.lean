/- What the table's own writers do: begin, remove, reject, offer. Conditions: a table that lies in memory. Sets of nodes in maps by id: put, moves. Conditions: the maps lie in memory, no block twice. -/
import Derived.Test.YtjfelfjobeeenaaGreatF3
set_option linter.unusedSimpArgs false
set_option linter.unusedVariables false
namespace Go.Proofs.YtjfelfjobeeenaaGreat
open Go.RowKit Go.Sf Go.Shelf
section
variable {w w1 : World} {tb : Nat} {T : Tab}
theorem TRep.upd_next (h:TRep w tb T) (n:Int):TRep (w.setCell ⟨tb,2,none⟩ (.int .i64 n)) tb { T with next:=n }:=by
 have nd:=h.nodup
 simp only[Tab.blocks,List.nodup_cons,List.mem_cons,List.mem_append,List.mem_map,not_or,not_exists,not_and] at nd
 have ho:∀b,b≠tb→(w.setCell ⟨tb,2,none⟩ (.int .i64 n)).heap[b]? = w.heap[b]?:=fun b hb=>Below.heap_setCell w _ _ b hb
 exact {
  cells:=by
   have:=h.cells
   simp only[World.setCell,Array.getElem?_modify,if_true,this]
   simp[Tab.cells]
  lives:=(ho T.lb (Ne.symm nd.1.1)).trans h.lives
  calls:=h.calls.same (ho T.cb (Ne.symm nd.1.2.1))
  values:=h.values.same (ho T.vb (Ne.symm nd.1.2.2.1))
  pending:=h.pending.same (ho T.pb (Ne.symm nd.1.2.2.2.1))
  holds:=h.holds.same (ho T.hb (Ne.symm nd.1.2.2.2.2.1))
  refuses:=h.refuses.same (ho T.rb (Ne.symm nd.1.2.2.2.2.2.1))
  hsets:=fun x hx=>MapT.same (h.hsets x hx) (ho x.2.blk (nd.1.2.2.2.2.2.2.1 x hx))
  rsets:=fun x hx=>MapT.same (h.rsets x hx) (ho x.2.blk (nd.1.2.2.2.2.2.2.2 x hx))
  nodup:=h.nodup }
theorem TRep.upd_offers (h:TRep w tb T) (n:Int):TRep (w.setCell ⟨tb,1,none⟩ (.int .i64 n)) tb { T with offers:=n }:=by
 have nd:=h.nodup
 simp only[Tab.blocks,List.nodup_cons,List.mem_cons,List.mem_append,List.mem_map,not_or,not_exists,not_and] at nd
 have ho:∀b,b≠tb→(w.setCell ⟨tb,1,none⟩ (.int .i64 n)).heap[b]? = w.heap[b]?:=fun b hb=>Below.heap_setCell w _ _ b hb
 exact {
  cells:=by
   have:=h.cells
   simp only[World.setCell,Array.getElem?_modify,if_true,this]
   simp[Tab.cells]
  lives:=(ho T.lb (Ne.symm nd.1.1)).trans h.lives
  calls:=h.calls.same (ho T.cb (Ne.symm nd.1.2.1))
  values:=h.values.same (ho T.vb (Ne.symm nd.1.2.2.1))
  pending:=h.pending.same (ho T.pb (Ne.symm nd.1.2.2.2.1))
  holds:=h.holds.same (ho T.hb (Ne.symm nd.1.2.2.2.2.1))
  refuses:=h.refuses.same (ho T.rb (Ne.symm nd.1.2.2.2.2.2.1))
  hsets:=fun x hx=>MapT.same (h.hsets x hx) (ho x.2.blk (nd.1.2.2.2.2.2.2.1 x hx))
  rsets:=fun x hx=>MapT.same (h.rsets x hx) (ho x.2.blk (nd.1.2.2.2.2.2.2.2 x hx))
  nodup:=h.nodup }
theorem Chg.setCell {a b:World} {bs:List Nat} (h:Chg a b bs) (p:Addr) (v:Value) (hr:p.block∈bs∨a.heap.size≤p.block):Chg a (b.setCell p v) bs:=
 ⟨h.1,h.2.1,h.2.2.1,Nat.le_trans h.2.2.2.1 (by simp[World.setCell]),fun k hk hn=>(Below.heap_setCell b p v k (by
  intro e;subst e;rcases hr with hr|hr
  ·exact hn hr
  ·omega)).trans (h.2.2.2.2 k hk hn)⟩
theorem offer_any (h:TRep w tb T) (c:Cmd) (h0:0≤T.offers) (h1:T.offers<4611686018427387904) :
  Calls Tryz.prog 129 #[.pointer (some ⟨tb,0,none⟩),encCmd c] w fun e w'=>e = .returned (.tuple #[])∧
   TRep w' tb { T with offers:=T.offers+1 }∧Chg w w' (T.blocks tb):=by
 have c1:=h.c1
 have f1:=h.free 1
 have htb:=h.tlt
 have HT:=Lib.hid h
 clear h
 obtain⟨kind,node,client,inc,req,ver,key,code⟩:=c
 simp only[encCmd]
 generalize hno:T.offers=no at *
 have HN:=Lib.hid hno
 clear hno
 go_enter Tryz.func129,Tryz.ntmps129
 go_wp2
 go_end0
 refine⟨rfl,?_,?_⟩
 ·exact(HT.out.upd_offers _).grown (World.grownBy_alloc _ _ none)
 ·exact((Chg.refl w (T.blocks tb)).setCell ⟨tb,1,none⟩ _ (Or.inl (by simp[Tab.blocks]))).grown (World.grownBy_alloc _ _ none)
def beganT (T:Tab) (c:Cmd):Tab:=
 if beginsB T c=true then { T with pending:=mput (dropC T c.client) ⟨c.key,T.next⟩ ⟨c.client,c.req⟩,calls:=mput T.calls c.client ⟨c.req,T.next,false,0⟩,next:=T.next+1 } else T
theorem beganT_t {T:Tab} {c:Cmd} (h:beginsB T c=true):beganT T c = { T with pending:=mput (dropC T c.client) ⟨c.key,T.next⟩ ⟨c.client,c.req⟩,calls:=mput T.calls c.client ⟨c.req,T.next,false,0⟩,next:=T.next+1 }:=if_pos h
theorem beganT_f {T:Tab} {c:Cmd} (h:beginsB T c=false):beganT T c=T:=if_neg (by rw[h];decide)
set_option maxHeartbeats 2000000 in
set_option maxRecDepth 100000 in
theorem begin_any (h:TRep w tb T) (c:Cmd) (h0:0≤T.next) (h1:T.next<4611686018427387904) :
  Calls Tryz.prog 131 #[.pointer (some ⟨tb,0,none⟩),encCmd c] w fun e w'=>e = .returned (.tuple #[])∧
   TRep w' tb (beganT T c)∧Chg w w' (T.blocks tb):=by
 have htb:=h.tlt
 have HT:=Lib.hid h
 clear h
 obtain⟨kind,node,client,inc,req,ver,key,code⟩:=c
 generalize hW0:w.alloc (.cells #[.int .u8 kind,.int .i64 node,.int .i64 client,.int .i64 inc,.int .i64 req,.int .i64 ver,.string key,.int .i64 code] 24)=W0
 have hbeg:=begins_any (HT.out.grown (World.grownBy_alloc w (.cells #[.int .u8 kind,.int .i64 node,.int .i64 client,.int .i64 inc,.int .i64 req,.int .i64 ver,.string key,.int .i64 code] 24) none)) ⟨kind,node,client,inc,req,ver,key,code⟩
 simp only[encCmd] at hbeg ⊢
 have HBEG:=Lib.hid hbeg
 clear hbeg
 clear hW0
 cases hb:beginsB T ⟨kind,node,client,inc,req,ver,key,code⟩
 ·have HB:=Lib.hid hb
  clear hb
  go_enter Tryz.func131,Tryz.ntmps131
  go_wp2_with (go_at_call 171;refine HBEG.out.mono ?_;rintro e w1 ⟨rfl,hT1,hg1⟩;rw[HB.out])
  refine bodyPost_ret (results_none rfl _ _ _) rfl ?_
  exact⟨rfl,by rw[beganT_f HB.out];rw[begunT_f HB.out] at hT1;exact hT1,((Chg.of_grown (World.grownBy_alloc w _ none) (T.blocks tb)).turned hg1 (Or.inl (by simp[Tab.blocks])))⟩
 ·have HB:=Lib.hid hb
  clear hb
  go_enter Tryz.func131,Tryz.ntmps131
  go_wp2_with (go_at_call 171;refine HBEG.out.mono ?_;rintro e w1 ⟨rfl,hT1,hg1⟩;rw[HB.out])
  rw[begunT_t HB.out] at hT1
  have htb1:=hT1.tlt
  have k2:=hT1.c2
  have k4:=hT1.c4
  have k6:=hT1.c6
  have hpend:=hT1.pending
  have hW:(w.alloc (.cells #[.int .u8 kind,.int .i64 node,.int .i64 client,.int .i64 inc,.int .i64 req,.int .i64 ver,.string key,.int .i64 code] 24)).heap.size=w.heap.size+1:=by simp
  have hpb:w.heap.size≠T.pb:=by have:=HT.out.pending.lt;omega
  have x2:w1.cell? ⟨w.heap.size,2,none⟩=some (.int .i64 client):=hg1.cell (by simp[go_sem]) (by simpa using hpb)
  have x4:w1.cell? ⟨w.heap.size,4,none⟩=some (.int .i64 req):=hg1.cell (by simp[go_sem]) (by simpa using hpb)
  have x6:w1.cell? ⟨w.heap.size,6,none⟩=some (.string key):=hg1.cell (by simp[go_sem]) (by simpa using hpb)
  have H1:=Lib.hid hT1
  clear hT1 hW
  simp only at k2 k4 k6 hpend
  go_still_tail 16,(by kernel_rfl)
  go_wp2_with (at_mapUpdate;refine wpList_updateT _ rfl _ _ _ 119 rfl keID Tryz.underlying119 T.pb _ rfl ((mapT_drew _).2 hpend) ⟨key,T.next⟩ ⟨client,req⟩ rfl rfl ?_;intro w2 hm2 hg2 hs2)
  have H2:=(H1.out.grown (grown_drew (grown_refl w1))).upd_pending hm2 hg2
  have l2:=H2.c2
  have l4:=H2.c4
  have hcalls:=H2.calls
  have y2:w2.cell? ⟨w.heap.size,2,none⟩=some (.int .i64 client):=hg2.cell x2 (by simpa using hpb)
  have y4:w2.cell? ⟨w.heap.size,4,none⟩=some (.int .i64 req):=hg2.cell x4 (by simpa using hpb)
  have htb2:=H2.tlt
  have H2':=Lib.hid H2
  clear H2 hm2 hpend x2 x4 x6 k2 k4 k6
  simp only at l2 l4 hcalls
  go_still_tail 13,(by kernel_rfl)
  go_wp2_with (at_mapUpdate;refine wpList_updateT _ rfl _ _ _ 117 rfl keInt Tryz.underlying117 T.cb _ rfl ((mapT_drew _).2 hcalls) client ⟨req,T.next,false,0⟩ rfl rfl ?_;intro w3 hm3 hg3 hs3;have H3:=(H2'.out.grown (grown_drew (grown_refl w2))).upd_calls hm3 hg3;have m2:=H3.c2;have fr2:=H3.free 2;simp only at m2;have H3':=Lib.hid H3;clear H3 hm3)
  go_end0
  refine⟨rfl,?_,?_⟩
  ·rw[beganT_t HB.out];exact H3'.out.upd_next _
  ·have d1:=(Chg.of_grown (World.grownBy_alloc w _ none) (T.blocks tb)).turned hg1 (Or.inl (by simp[Tab.blocks]))
   have d2:=(d1.grown (grown_drew (grown_refl w1))).turned hg2 (Or.inl (by simp[Tab.blocks]))
   have d3:=(d2.grown (grown_drew (grown_refl w2))).turned hg3 (Or.inl (by simp[Tab.blocks]))
   exact d3.setCell ⟨tb,2,none⟩ _ (Or.inl (by simp[Tab.blocks]))
def removedT (T:Tab) (c:Cmd):Tab:=
 if beginsB T c=true then { T with pending:=dropC T c.client,values:=mput T.values c.key ⟨T.next,true⟩,calls:=mput T.calls c.client ⟨c.req,0,true,0⟩,next:=T.next+1 } else T
theorem removedT_t {T:Tab} {c:Cmd} (h:beginsB T c=true):removedT T c = { T with pending:=dropC T c.client,values:=mput T.values c.key ⟨T.next,true⟩,calls:=mput T.calls c.client ⟨c.req,0,true,0⟩,next:=T.next+1 }:=if_pos h
theorem removedT_f {T:Tab} {c:Cmd} (h:beginsB T c=false):removedT T c=T:=if_neg (by rw[h];decide)
def rejectedT (T:Tab) (c:Cmd):Tab:=
 if beginsB T c=true then { T with pending:=dropC T c.client,calls:=mput T.calls c.client ⟨c.req,0,true,c.code⟩ } else T
theorem rejectedT_t {T:Tab} {c:Cmd} (h:beginsB T c=true):rejectedT T c = { T with pending:=dropC T c.client,calls:=mput T.calls c.client ⟨c.req,0,true,c.code⟩ }:=if_pos h
theorem rejectedT_f {T:Tab} {c:Cmd} (h:beginsB T c=false):rejectedT T c=T:=if_neg (by rw[h];decide)
set_option maxHeartbeats 2000000 in
set_option maxRecDepth 100000 in
theorem remove_any (h:TRep w tb T) (c:Cmd) (h0:0≤T.next) (h1:T.next<4611686018427387904) :
  Calls Tryz.prog 134 #[.pointer (some ⟨tb,0,none⟩),encCmd c] w fun e w'=>e = .returned (.tuple #[])∧
   TRep w' tb (removedT T c)∧Chg w w' (T.blocks tb):=by
 have htb:=h.tlt
 have HT:=Lib.hid h
 clear h
 obtain⟨kind,node,client,inc,req,ver,key,code⟩:=c
 generalize hW0:w.alloc (.cells #[.int .u8 kind,.int .i64 node,.int .i64 client,.int .i64 inc,.int .i64 req,.int .i64 ver,.string key,.int .i64 code] 24)=W0
 have hbeg:=begins_any (HT.out.grown (World.grownBy_alloc w (.cells #[.int .u8 kind,.int .i64 node,.int .i64 client,.int .i64 inc,.int .i64 req,.int .i64 ver,.string key,.int .i64 code] 24) none)) ⟨kind,node,client,inc,req,ver,key,code⟩
 simp only[encCmd] at hbeg ⊢
 have HBEG:=Lib.hid hbeg
 clear hbeg
 clear hW0
 cases hb:beginsB T ⟨kind,node,client,inc,req,ver,key,code⟩
 ·have HB:=Lib.hid hb
  clear hb
  go_enter Tryz.func134,Tryz.ntmps134
  go_wp2_with (go_at_call 171;refine HBEG.out.mono ?_;rintro e w1 ⟨rfl,hT1,hg1⟩;rw[HB.out])
  go_end0
  exact⟨rfl,by rw[removedT_f HB.out];rw[begunT_f HB.out] at hT1;exact hT1,((Chg.of_grown (World.grownBy_alloc w _ none) (T.blocks tb)).turned hg1 (Or.inl (by simp[Tab.blocks])))⟩
 ·have HB:=Lib.hid hb
  clear hb
  go_enter Tryz.func134,Tryz.ntmps134
  go_wp2_with (go_at_call 171;refine HBEG.out.mono ?_;rintro e w1 ⟨rfl,hT1,hg1⟩;rw[HB.out])
  rw[begunT_t HB.out] at hT1
  have htb1:=hT1.tlt
  have k2:=hT1.c2
  have k4:=hT1.c4
  have k6:=hT1.c5
  have hpend:=hT1.values
  have hW:(w.alloc (.cells #[.int .u8 kind,.int .i64 node,.int .i64 client,.int .i64 inc,.int .i64 req,.int .i64 ver,.string key,.int .i64 code] 24)).heap.size=w.heap.size+1:=by simp
  have hpb:w.heap.size≠T.pb:=by have:=HT.out.pending.lt;omega
  have hvb:w.heap.size≠T.vb:=by have:=HT.out.values.lt;omega
  have x2:w1.cell? ⟨w.heap.size,2,none⟩=some (.int .i64 client):=hg1.cell (by simp[go_sem]) (by simpa using hpb)
  have x4:w1.cell? ⟨w.heap.size,4,none⟩=some (.int .i64 req):=hg1.cell (by simp[go_sem]) (by simpa using hpb)
  have x6:w1.cell? ⟨w.heap.size,6,none⟩=some (.string key):=hg1.cell (by simp[go_sem]) (by simpa using hpb)
  have H1:=Lib.hid hT1
  clear hT1 hW
  simp only at k2 k4 k6 hpend
  go_still_tail 11,(by kernel_rfl)
  go_wp2_with (at_mapUpdate;refine wpList_updateT _ rfl _ _ _ 118 rfl keStr Tryz.underlying118 T.vb _ rfl ((mapT_drew _).2 hpend) key ⟨T.next,true⟩ rfl rfl ?_;intro w2 hm2 hg2 hs2)
  have H2:=(H1.out.grown (grown_drew (grown_refl w1))).upd_values hm2 hg2
  have l2:=H2.c2
  have l4:=H2.c4
  have hcalls:=H2.calls
  have y2:w2.cell? ⟨w.heap.size,2,none⟩=some (.int .i64 client):=hg2.cell x2 (by simpa using hvb)
  have y4:w2.cell? ⟨w.heap.size,4,none⟩=some (.int .i64 req):=hg2.cell x4 (by simpa using hvb)
  have htb2:=H2.tlt
  have H2':=Lib.hid H2
  clear H2 hm2 hpend x2 x4 x6 k2 k4 k6
  simp only at l2 l4 hcalls
  go_still_tail 9,(by kernel_rfl)
  go_wp2_with (at_mapUpdate;refine wpList_updateT _ rfl _ _ _ 117 rfl keInt Tryz.underlying117 T.cb _ rfl ((mapT_drew _).2 hcalls) client ⟨req,0,true,0⟩ rfl rfl ?_;intro w3 hm3 hg3 hs3;have H3:=(H2'.out.grown (grown_drew (grown_refl w2))).upd_calls hm3 hg3;have m2:=H3.c2;have fr2:=H3.free 2;simp only at m2;have H3':=Lib.hid H3;clear H3 hm3)
  go_end0
  refine⟨rfl,?_,?_⟩
  ·rw[removedT_t HB.out];exact H3'.out.upd_next _
  ·have d1:=(Chg.of_grown (World.grownBy_alloc w _ none) (T.blocks tb)).turned hg1 (Or.inl (by simp[Tab.blocks]))
   have d2:=(d1.grown (grown_drew (grown_refl w1))).turned hg2 (Or.inl (by simp[Tab.blocks]))
   have d3:=(d2.grown (grown_drew (grown_refl w2))).turned hg3 (Or.inl (by simp[Tab.blocks]))
   exact d3.setCell ⟨tb,2,none⟩ _ (Or.inl (by simp[Tab.blocks]))
set_option maxHeartbeats 2000000 in
set_option maxRecDepth 100000 in
theorem reject_any (h:TRep w tb T) (c:Cmd) :
  Calls Tryz.prog 135 #[.pointer (some ⟨tb,0,none⟩),encCmd c] w fun e w'=>e = .returned (.tuple #[])∧
   TRep w' tb (rejectedT T c)∧Chg w w' (T.blocks tb):=by
 have htb:=h.tlt
 have HT:=Lib.hid h
 clear h
 obtain⟨kind,node,client,inc,req,ver,key,code⟩:=c
 generalize hW0:w.alloc (.cells #[.int .u8 kind,.int .i64 node,.int .i64 client,.int .i64 inc,.int .i64 req,.int .i64 ver,.string key,.int .i64 code] 24)=W0
 have hbeg:=begins_any (HT.out.grown (World.grownBy_alloc w (.cells #[.int .u8 kind,.int .i64 node,.int .i64 client,.int .i64 inc,.int .i64 req,.int .i64 ver,.string key,.int .i64 code] 24) none)) ⟨kind,node,client,inc,req,ver,key,code⟩
 simp only[encCmd] at hbeg ⊢
 have HBEG:=Lib.hid hbeg
 clear hbeg
 clear hW0
 cases hb:beginsB T ⟨kind,node,client,inc,req,ver,key,code⟩
 ·have HB:=Lib.hid hb
  clear hb
  go_enter Tryz.func135,Tryz.ntmps135
  go_wp2_with (go_at_call 171;refine HBEG.out.mono ?_;rintro e w1 ⟨rfl,hT1,hg1⟩;rw[HB.out])
  go_end0
  exact⟨rfl,by rw[rejectedT_f HB.out];rw[begunT_f HB.out] at hT1;exact hT1,((Chg.of_grown (World.grownBy_alloc w _ none) (T.blocks tb)).turned hg1 (Or.inl (by simp[Tab.blocks])))⟩
 ·have HB:=Lib.hid hb
  clear hb
  go_enter Tryz.func135,Tryz.ntmps135
  go_wp2_with (go_at_call 171;refine HBEG.out.mono ?_;rintro e w1 ⟨rfl,hT1,hg1⟩;rw[HB.out])
  rw[begunT_t HB.out] at hT1
  have htb1:=hT1.tlt
  have k2:=hT1.c2
  have k4:=hT1.c4
  have k6:=hT1.c6
  have hpend:=hT1.pending
  have hW:(w.alloc (.cells #[.int .u8 kind,.int .i64 node,.int .i64 client,.int .i64 inc,.int .i64 req,.int .i64 ver,.string key,.int .i64 code] 24)).heap.size=w.heap.size+1:=by simp
  have hpb:w.heap.size≠T.pb:=by have:=HT.out.pending.lt;omega
  have x2:w1.cell? ⟨w.heap.size,2,none⟩=some (.int .i64 client):=hg1.cell (by simp[go_sem]) (by simpa using hpb)
  have x4:w1.cell? ⟨w.heap.size,4,none⟩=some (.int .i64 req):=hg1.cell (by simp[go_sem]) (by simpa using hpb)
  have x7:w1.cell? ⟨w.heap.size,7,none⟩=some (.int .i64 code):=hg1.cell (by simp[go_sem]) (by simpa using hpb)
  have x6:w1.cell? ⟨w.heap.size,6,none⟩=some (.string key):=hg1.cell (by simp[go_sem]) (by simpa using hpb)
  have H1:=Lib.hid hT1
  clear hT1 hW
  simp only at k2 k4 k6 hpend
  have hcalls:=H1.out.calls
  simp only at hcalls
  go_still_tail 11,(by kernel_rfl)
  go_wp2_with (at_mapUpdate;refine wpList_updateT _ rfl _ _ _ 117 rfl keInt Tryz.underlying117 T.cb _ rfl ((mapT_drew _).2 hcalls) client ⟨req,0,true,code⟩ rfl rfl ?_;intro w3 hm3 hg3 hs3;have H3:=(H1.out.grown (grown_drew (grown_refl w1))).upd_calls hm3 hg3;have H3':=Lib.hid H3;clear H3 hm3)
  go_end0
  refine⟨rfl,?_,?_⟩
  ·rw[rejectedT_t HB.out];exact H3'.out
  ·have d1:=(Chg.of_grown (World.grownBy_alloc w _ none) (T.blocks tb)).turned hg1 (Or.inl (by simp[Tab.blocks]))
   exact(d1.grown (grown_drew (grown_refl w1))).turned hg3 (Or.inl (by simp[Tab.blocks]))
end
def sput (l:List Int) (n:Int):List Int:=if n∈l then l else l ++ [n]
def sdel (l:List Int) (n:Int):List Int:=l.filter fun x=>decide (x≠n)
theorem mput_unit (l:List Int) (n:Int):mput (l.map fun x=>(x,())) n ()=(sput l n).map fun x=>(x,()):=by
 unfold sput
 induction l with
 | nil=>rfl
 | cons a r ih=>
  simp only[List.map_cons,mput]
  by_cases e:a=n
  ·subst e;simp
  ·rw[if_neg e,ih]
   by_cases hm:n∈r
   ·simp[hm]
   ·have:¬n=a:=fun h=>e h.symm
    simp[hm,this]
theorem mdel_unit (l:List Int) (n:Int):mdel (l.map fun x=>(x,())) n=(sdel l n).map fun x=>(x,()):=by
 unfold mdel sdel
 rw[List.filter_map]
 rfl
def smod (m:List (ID × NSet)) (i:ID) (f:List Int→List Int):List (ID × NSet):=m.map fun p=>if p.1=i then (p.1,⟨p.2.blk,f p.2.mem⟩) else p
def sadd (m:List (ID × NSet)) (i:ID) (n:Int) (nb:Nat):List (ID × NSet):=if (mget m i).isSome=true then smod m i (fun l=>sput l n) else m ++ [(i,⟨nb,[n]⟩)]
theorem smod_keys (m:List (ID × NSet)) (i:ID) (f:List Int→List Int):(smod m i f).map (·.1)=m.map (·.1):=by
 unfold smod;rw[List.map_map];apply List.map_congr_left;intro p _;simp only[Function.comp];split <;> rfl
theorem smod_blks (m:List (ID × NSet)) (i:ID) (f:List Int→List Int):(smod m i f).map (·.2.blk)=m.map (·.2.blk):=by
 unfold smod;rw[List.map_map];apply List.map_congr_left;intro p _;simp only[Function.comp];split <;> rfl
theorem smod_enc (m:List (ID × NSet)) (i:ID) (f:List Int→List Int):(smod m i f).map (fun p=>(encID p.1,encSet p.2))=m.map (fun p=>(encID p.1,encSet p.2)):=by
 unfold smod;rw[List.map_map];apply List.map_congr_left;intro p _;simp only[Function.comp];split <;> rfl
theorem smod_none {m:List (ID × NSet)} {i:ID} (h:mget m i=none) (f:List Int→List Int):smod m i f=m:=by
 unfold smod
 have:∀p∈m,(if p.1=i then ((p.1,⟨p.2.blk,f p.2.mem⟩):ID × NSet) else p)=p:=fun p hp=>if_neg (mget_none_iff.1 h p hp)
 rw[List.map_congr_left this];simp
theorem mapT_smod {w:World} {b:Nat} {m:List (ID × NSet)} (h:MapT w b encID encSet m) (i:ID) (f:List Int→List Int):MapT w b encID encSet (smod m i f):=by
 obtain⟨es,c,hb,hs,he⟩:=h
 exact⟨es,c,hb,hs,by rw[smod_enc];exact he⟩
structure Two (w:World) (fb tb:Nat) (mf mt:List (ID × NSet)):Prop where
 f:MapT w fb encID encSet mf
 t:MapT w tb encID encSet mt
 fs:∀x∈mf,SetT w x.2
 ts:∀x∈mt,SetT w x.2
 nd:(fb :: tb :: (mf.map (·.2.blk)++mt.map (·.2.blk))).Nodup
section
variable {w w1 : World} {fb tb : Nat} {mf mt : List (ID × NSet)}
theorem Two.grown (h:Two w fb tb mf mt) (hg:w.grownBy w1 none):Two w1 fb tb mf mt:=
 ⟨h.f.kept hg (by simp),h.t.kept hg (by simp),fun x hx=>MapT.kept (h.fs x hx) hg (by simp),fun x hx=>MapT.kept (h.ts x hx) hg (by simp),h.nd⟩
theorem Two.swap (h:Two w fb tb mf mt):Two w tb fb mt mf:=by
 refine⟨h.t,h.f,h.ts,h.fs,?_⟩
 have nd:=h.nd
 simp only[List.nodup_cons,List.mem_cons,List.mem_append,not_or] at nd ⊢
 refine⟨⟨fun e=>nd.1.1 e.symm,nd.2.1.2,nd.2.1.1⟩,⟨nd.1.2.2,nd.1.2.1⟩,?_⟩
 exact(List.perm_append_comm.nodup_iff).1 nd.2.2
theorem blk_inj {m:List (ID × NSet)} (h:(m.map (·.2.blk)).Nodup) {x y:ID × NSet} (hx:x∈m) (hy:y∈m) (e:x.2.blk=y.2.blk):x=y:=by
 induction m with
 | nil=>simp at hx
 | cons z r ih=>
  simp only[List.map_cons,List.nodup_cons] at h
  rcases List.mem_cons.1 hx with rfl|hx <;> rcases List.mem_cons.1 hy with rfl|hy
  ·rfl
  ·exact absurd (e ▸ List.mem_map.2 ⟨y,hy,rfl⟩) h.1
  ·exact absurd (e.symm ▸ List.mem_map.2 ⟨x,by assumption,rfl⟩) h.1
  ·exact ih h.2 hx hy
theorem Two.mod (h:Two w fb tb mf mt) {i:ID} {s:NSet} (hs:mget mf i=some s) (f:List Int→List Int) (hm:SetT w1 ⟨s.blk,f s.mem⟩) (hg:w.grownBy w1 (some s.blk)):Two w1 fb tb (smod mf i f) mt:=by
 have hmem:=mget_mem hs
 have nd:=h.nd
 simp only[List.nodup_cons,List.mem_cons,List.mem_append,not_or,List.mem_map,not_exists,not_and] at nd
 have n1:fb≠s.blk:=fun e=>nd.1.2.1 _ hmem e.symm
 have n2:tb≠s.blk:=fun e=>nd.2.1.1 _ hmem e.symm
 refine⟨mapT_smod (h.f.kept hg (by simpa using n1)) i f,h.t.kept hg (by simpa using n2),?_,?_,by rw[smod_blks];exact h.nd⟩
 ·intro x hx
  unfold smod at hx
  obtain⟨p,hp,rfl⟩:=List.mem_map.1 hx
  by_cases e:p.1=i
  ·have:p=(i,s):=by
    obtain⟨pk,pv⟩:=p
    simp only at e;subst e
    rw[nodup_pair h.f.nodup hp hmem]
   subst this
   simpa using hm
  ·rw[if_neg e]
   refine MapT.kept (h.fs p hp) hg ?_
   intro e2
   have:p=(i,s):=blk_inj (List.nodup_append.1 (List.nodup_cons.1 (List.nodup_cons.1 h.nd).2).2).1 hp hmem (by simpa using e2)
   rw[this] at e;exact e rfl
 ·intro x hx
  refine MapT.kept (h.ts x hx) hg ?_
  intro e2
  have e3:x.2.blk=s.blk:=by simpa using e2
  exact(List.nodup_append.1 (List.nodup_cons.1 (List.nodup_cons.1 h.nd).2).2).2.2 s.blk (List.mem_map.2 ⟨_,hmem,rfl⟩) x.2.blk (List.mem_map.2 ⟨x,hx,rfl⟩) e3.symm
theorem Two.new (h:Two w fb tb mf mt) {i:ID} (hn:mget mt i=none) {nb:Nat} (hm:SetT w1 ⟨nb,[]⟩) (ht:MapT w1 tb encID encSet (mput mt i ⟨nb,[]⟩)) (hg:w.grownBy w1 (some tb)) (hnb:w.heap.size≤nb) :
  Two w1 fb tb mf (mt ++ [(i,⟨nb,[]⟩)]):=by
 have nd:=h.nd
 have hlt:∀b∈fb :: tb :: (mf.map (·.2.blk)++mt.map (·.2.blk)),b<w.heap.size:=by
  intro b hb
  simp only[List.mem_cons,List.mem_append,List.mem_map] at hb
  rcases hb with rfl|rfl|⟨x,hx,rfl⟩|⟨x,hx,rfl⟩
  ·exact h.f.lt
  ·exact h.t.lt
  ·exact MapT.lt (h.fs x hx)
  ·exact MapT.lt (h.ts x hx)
 have nd':=nd
 simp only[List.nodup_cons,List.mem_cons,List.mem_append,not_or,List.mem_map,not_exists,not_and] at nd'
 rw[mput_new (mget_none_iff.1 hn)] at ht
 refine⟨h.f.kept hg (by simpa using nd'.1.1),ht,fun x hx=>MapT.kept (h.fs x hx) hg (by simpa using nd'.2.1.1 x hx),?_,?_⟩
 ·intro x hx
  rcases List.mem_append.1 hx with hx|hx
  ·exact MapT.kept (h.ts x hx) hg (by simpa using nd'.2.1.2 x hx)
  ·simp only[List.mem_singleton] at hx;subst hx;exact hm
 ·have:(fb :: tb :: (mf.map (·.2.blk)++(mt ++ [(i,(⟨nb,[]⟩:NSet))]).map (·.2.blk)))=(fb :: tb :: (mf.map (·.2.blk)++mt.map (·.2.blk))) ++ [nb]:=by simp
  rw[this,List.nodup_append]
  refine⟨nd,by simp,?_⟩
  intro a ha b hb
  simp only[List.mem_singleton] at hb
  subst hb
  exact Nat.ne_of_lt (Nat.lt_of_lt_of_le (hlt a ha) hnb)
end
set_option maxHeartbeats 1000000 in
theorem put_any {w:World} (s:NSet) (h:SetT w s) (n:Int):Calls Tryz.prog 159 #[.map (some s.blk),.int .i64 n] w fun e w'=>
  e = .returned (.tuple #[])∧SetT w' ⟨s.blk,sput s.mem n⟩∧w.grownBy w' (some s.blk):=by
 obtain⟨b,l⟩:=s
 simp only[SetT] at *
 rw[←mput_unit]
 generalize (l.map fun x=>(x,()))=m at *
 go_enter Tryz.func159,Tryz.ntmps159
 go_wp2_with (at_mapUpdate;refine wpList_updateT _ rfl _ _ _ 127 rfl keInt Tryz.underlying127 b _ rfl h n () rfl rfl ?_;intro w2 hm2 hg2 hs2)
 go_end0
 exact⟨rfl,hm2,hg2⟩
theorem run_setsT (b:Nat) (m:List (ID × NSet)) (k:ByteArray) (n:Int) (r:Option NSet) (hr:mget m ⟨k,n⟩=r):∀W,MapT W b encID encSet m→
  (Instr.lookup 120 (.map (some b)) (.agg #[.string k,.int .i64 n]) false).run Tryz.prog W = .ok (.map (r.map (·.blk))) W:=fun W hW=>by
 have:=hW.lookup keID Tryz.underlying120 (zeroSet W) ⟨k,n⟩ false
 rw[hr] at this
 cases r <;> exact this
theorem sadd_none {m:List (ID × NSet)} {i:ID} (h:mget m i=none) (n:Int) (nb:Nat):smod (m ++ [(i,⟨nb,[]⟩)]) i (fun l=>sput l n)=sadd m i n nb:=by
 unfold sadd
 rw[h]
 have h1:=smod_none h (fun l=>sput l n)
 unfold smod at h1 ⊢
 rw[List.map_append,h1]
 simp[sput]
theorem sadd_some {m:List (ID × NSet)} {i:ID} {s:NSet} (h:mget m i=some s) (n:Int) (nb:Nat):smod m i (fun l=>sput l n)=sadd m i n nb:=by
 unfold sadd
 rw[h]
 rfl
theorem mget_last {m:List (ID × NSet)} {i:ID} (h:mget m i=none) (s:NSet):mget (m ++ [(i,s)]) i=some s:=by
 induction m with
 | nil=>simp[mget]
 | cons p r ih=>
  rw[mget] at h
  split at h
  ·cases h
  ·rename_i hne
   rw[List.cons_append,mget,if_neg hne,ih h]
structure Moved (w w':World) (fb tb:Nat) (mf mt:List (ID × NSet)) (i:ID) (n:Int):Prop where
 two:∃nb,w.heap.size≤nb∧Two w' fb tb (smod mf i fun l=>sdel l n) (sadd mt i n nb)
 chg:Chg w w' (tb :: (mf.map (·.2.blk)++mt.map (·.2.blk)))
set_option maxHeartbeats 4000000 in
set_option maxRecDepth 100000 in
theorem moves_any {w:World} {fb tb:Nat} {mf mt:List (ID × NSet)} (h:Two w fb tb mf mt) (i:ID) (n:Int):Calls Tryz.prog 173 #[.map (some fb),.map (some tb),encID i,.int .i64 n] w fun e w'=>
  e = .returned (.tuple #[])∧Moved w w' fb tb mf mt i n:=by
 obtain⟨k,v⟩:=i
 simp only[encID]
 have hft:=h.f
 have htt:=h.t
 have hmm:=@run_makeMap Tryz.prog
 have hdn:=fun ty W=>delete_nil keInt Tryz.underlying127 n 3 ty W
 have heq:=fun W r=>run_eql_map_nil (P:=Tryz.prog) W 127 _ _ r Tryz.underlying127
 have HT:=Lib.hid h
 clear h
 have hbg:=World.grownBy_alloc w (.cells #[.string k,.int .i64 v] 54) none
 have hflt:=hft.lt
 have htlt:=htt.lt
 cases hf:mget mf ⟨k,v⟩ with
 | none=>
  have lf:=run_setsT fb mf k v none hf
  have HF:=Lib.hid hf
  clear hf
  simp only[Option.map_none] at lf
  cases ht:mget mt ⟨k,v⟩ with
  | none=>
   have lt:=run_setsT tb mt k v none ht
   have lt2:=run_setsT tb (mput mt ⟨k,v⟩ ⟨w.heap.size+1,[]⟩) k v (some ⟨w.heap.size+1,[]⟩) (mget_mput_same mt _ _)
   simp only[Option.map_none,Option.map_some] at lt lt2
   have Ht:=Lib.hid ht
   clear ht
   have hmade:∀W:World,W.heap.size=w.heap.size+1→MapT (W.alloc (.map #[] 0)) (w.heap.size+1) (Value.int .i64) encUnit ([]:List (Int × Unit)):=fun W hW=>hW ▸ mapT_made W (Value.int .i64) encUnit
   have HM:=Lib.hid hmade
   clear hmade
   go_enter Tryz.func173,Tryz.ntmps173
   go_wp2_with (first
    | (at_mapUpdate;refine wpList_updateT (ek:=encID) (ev:=encSet) _ rfl _ _ _ 120 rfl keID Tryz.underlying120 tb mt rfl (by repeat (first|exact(htt.kept hbg (by simp))|refine MapT.alloc ?_ _)) ⟨k,v⟩ ⟨w.heap.size+1,[]⟩ rfl rfl ?_;intro w2 hm2 hg2 hs2;have y0:w2.cell? ⟨w.heap.size,0,none⟩=some (.string k):=hg2.cell (by simp[go_sem]) (by simp;omega);have y1:w2.cell? ⟨w.heap.size,1,none⟩=some (.int .i64 v):=hg2.cell (by simp[go_sem]) (by simp;omega);have hns:SetT w2 ⟨w.heap.size+1,[]⟩:=(HM.out (w.alloc (.cells #[.string k,.int .i64 v] 54)) (by simp)).kept hg2 (by simp;omega);have HNS:=Lib.hid hns;clear hns)
    | (go_at_call 159;refine(put_any ⟨w.heap.size+1,[]⟩ HNS.out n).mono ?_;rintro e w3 ⟨rfl,hs3,hg3⟩))
   go_end0
   have T1:Two (w.alloc (.cells #[.string k,.int .i64 v] 54)) fb tb (smod mf ⟨k,v⟩ fun l=>sdel l n) mt:=(by have:=HT.out.grown hbg;rw[←smod_none HF.out (fun l=>sdel l n)] at this;exact this:Two (w.alloc (.cells #[.string k,.int .i64 v] 54)) fb tb (smod mf ⟨k,v⟩ fun l=>sdel l n) mt)
   have T2:=T1.new Ht.out HNS.out hm2 ((World.grownBy_alloc (w.alloc (.cells #[.string k,.int .i64 v] 54)) (.map #[] 0) (some tb)).andThen hg2 (fun j hj=>by cases hj;exact Or.inr rfl)) (by simp)
   have T3:=(T2.swap.mod (mget_last Ht.out _) (fun l=>sput l n) hs3 hg3).swap
   refine⟨rfl,⟨w.heap.size+1,by omega,?_⟩,?_⟩
   ·rw[←sadd_none Ht.out];exact T3
   ·exact(((Chg.of_grown hbg (tb :: (mf.map (·.2.blk)++mt.map (·.2.blk)))).grown (World.grownBy_alloc (w.alloc (.cells #[.string k,.int .i64 v] 54)) (.map #[] 0) none)).turned hg2 (Or.inl (by simp))).turned hg3 (Or.inr (by simp))
  | some st=>
   have lt:=run_setsT tb mt k v (some st) ht
   simp only[Option.map_some] at lt
   have Ht:=Lib.hid ht
   have hst:SetT (w.alloc (.cells #[.string k,.int .i64 v] 54)) st:=MapT.kept (HT.out.ts _ (mget_mem ht)) hbg (by simp)
   have HS:=Lib.hid hst
   clear ht hst
   go_enter Tryz.func173,Tryz.ntmps173
   go_wp2_with (first
    | (go_at_call 159;refine(put_any st HS.out n).mono ?_;rintro e w3 ⟨rfl,hs3,hg3⟩))
   go_end0
   have T1:Two (w.alloc (.cells #[.string k,.int .i64 v] 54)) fb tb (smod mf ⟨k,v⟩ fun l=>sdel l n) mt:=(by have:=HT.out.grown hbg;rw[←smod_none HF.out (fun l=>sdel l n)] at this;exact this:Two (w.alloc (.cells #[.string k,.int .i64 v] 54)) fb tb (smod mf ⟨k,v⟩ fun l=>sdel l n) mt)
   have T3:=(T1.swap.mod Ht.out (fun l=>sput l n) hs3 hg3).swap
   refine⟨rfl,⟨w.heap.size+1,by omega,?_⟩,?_⟩
   ·rw[←sadd_some Ht.out];exact T3
   ·exact(Chg.of_grown hbg (tb :: (mf.map (·.2.blk)++mt.map (·.2.blk)))).turned hg3 (Or.inl (by simp only[List.mem_cons,List.mem_append,List.mem_map];exact Or.inr (Or.inr ⟨_,mget_mem Ht.out,rfl⟩)))
 | some sf=>
  have lf:=run_setsT fb mf k v (some sf) hf
  have HF:=Lib.hid hf
  have hfm:=mget_mem hf
  have hsf:SetT (w.alloc (.cells #[.string k,.int .i64 v] 54)) sf:=MapT.kept (HT.out.fs _ hfm) hbg (by simp)
  have hsflt:sf.blk<w.heap.size:=MapT.lt (HT.out.fs _ hfm)
  have hnf:tb≠sf.blk:=fun e=>by
   have nd:=HT.out.nd
   simp only[List.nodup_cons,List.mem_cons,List.mem_append,not_or,List.mem_map,not_exists,not_and] at nd
   exact nd.2.1.1 _ hfm e.symm
  have HSF:=Lib.hid hsf
  clear hf hfm hsf
  simp only[Option.map_some] at lf
  cases ht:mget mt ⟨k,v⟩ with
  | none=>
   have lt:=run_setsT tb mt k v none ht
   have lt2:=run_setsT tb (mput mt ⟨k,v⟩ ⟨w.heap.size+1,[]⟩) k v (some ⟨w.heap.size+1,[]⟩) (mget_mput_same mt _ _)
   simp only[Option.map_none,Option.map_some] at lt lt2
   have Ht:=Lib.hid ht
   clear ht
   have hmade:∀W:World,W.heap.size=w.heap.size+1→MapT (W.alloc (.map #[] 0)) (w.heap.size+1) (Value.int .i64) encUnit ([]:List (Int × Unit)):=fun W hW=>hW ▸ mapT_made W (Value.int .i64) encUnit
   have HM:=Lib.hid hmade
   clear hmade
   go_enter Tryz.func173,Tryz.ntmps173
   go_wp2_with (first
    | (at_delete;refine wpList_deleteT (ek:=Value.int .i64) (ev:=encUnit) _ rfl _ _ 127 3 rfl keInt Tryz.underlying127 sf.blk (sf.mem.map fun n=>(n,())) rfl HSF.out n rfl ?_;intro w1 hm1 hg1 hs1;have x0:w1.cell? ⟨w.heap.size,0,none⟩=some (.string k):=hg1.cell (by simp[go_sem]) (by simp;omega);have x1:w1.cell? ⟨w.heap.size,1,none⟩=some (.int .i64 v):=hg1.cell (by simp[go_sem]) (by simp;omega);have TW1:=(HT.out.grown hbg).mod HF.out (fun l=>sdel l n) (by rw[mdel_unit] at hm1;exact hm1) hg1;have htt1:=TW1.t;have hs1':w1.heap.size=w.heap.size+1:=hs1.trans (by simp);clear hs1;have H1:=Lib.hid TW1;clear TW1 hm1)
    | (at_mapUpdate;refine wpList_updateT (ek:=encID) (ev:=encSet) _ rfl _ _ _ 120 rfl keID Tryz.underlying120 tb mt rfl (by repeat (first|exact htt1|refine MapT.alloc ?_ _)) ⟨k,v⟩ ⟨w.heap.size+1,[]⟩ rfl rfl ?_;intro w2 hm2 hg2 hs2;have y0:w2.cell? ⟨w.heap.size,0,none⟩=some (.string k):=hg2.cell (by simp[go_sem,x0,x1,hs1']) (by simp;omega);have y1:w2.cell? ⟨w.heap.size,1,none⟩=some (.int .i64 v):=hg2.cell (by simp[go_sem,x0,x1,hs1']) (by simp;omega);have hns:SetT w2 ⟨w.heap.size+1,[]⟩:=(HM.out w1 hs1').kept hg2 (by simp;omega);have HNS:=Lib.hid hns;clear hns)
    | (go_at_call 159;refine(put_any ⟨w.heap.size+1,[]⟩ HNS.out n).mono ?_;rintro e w3 ⟨rfl,hs3,hg3⟩))
   go_end0
   have T1:Two w1 fb tb (smod mf ⟨k,v⟩ fun l=>sdel l n) mt:=H1.out
   have T2:=T1.new Ht.out HNS.out hm2 ((World.grownBy_alloc w1 (.map #[] 0) (some tb)).andThen hg2 (fun j hj=>by cases hj;exact Or.inr rfl)) (by simp[hs1'])
   have T3:=(T2.swap.mod (mget_last Ht.out _) (fun l=>sput l n) hs3 hg3).swap
   refine⟨rfl,⟨w.heap.size+1,by omega,?_⟩,?_⟩
   ·rw[←sadd_none Ht.out];exact T3
   ·exact((((Chg.of_grown hbg (tb :: (mf.map (·.2.blk)++mt.map (·.2.blk)))).turned hg1 (Or.inl (by simp only[List.mem_cons,List.mem_append,List.mem_map];exact Or.inr (Or.inl ⟨_,mget_mem HF.out,rfl⟩)))).grown (World.grownBy_alloc w1 (.map #[] 0) none)).turned hg2 (Or.inl (by simp))).turned hg3 (Or.inr (by simp))
  | some st=>
   have lt:=run_setsT tb mt k v (some st) ht
   simp only[Option.map_some] at lt
   have Ht:=Lib.hid ht
   have hst:SetT (w.alloc (.cells #[.string k,.int .i64 v] 54)) st:=MapT.kept (HT.out.ts _ (mget_mem ht)) hbg (by simp)
   have HS:=Lib.hid hst
   clear ht hst
   go_enter Tryz.func173,Tryz.ntmps173
   go_wp2_with (first
    | (at_delete;refine wpList_deleteT (ek:=Value.int .i64) (ev:=encUnit) _ rfl _ _ 127 3 rfl keInt Tryz.underlying127 sf.blk (sf.mem.map fun n=>(n,())) rfl HSF.out n rfl ?_;intro w1 hm1 hg1 hs1;have x0:w1.cell? ⟨w.heap.size,0,none⟩=some (.string k):=hg1.cell (by simp[go_sem]) (by simp;omega);have x1:w1.cell? ⟨w.heap.size,1,none⟩=some (.int .i64 v):=hg1.cell (by simp[go_sem]) (by simp;omega);have TW1:=(HT.out.grown hbg).mod HF.out (fun l=>sdel l n) (by rw[mdel_unit] at hm1;exact hm1) hg1;have htt1:=TW1.t;have hs1':w1.heap.size=w.heap.size+1:=hs1.trans (by simp);clear hs1;have H1:=Lib.hid TW1;clear TW1 hm1)
    | (go_at_call 159;refine(put_any st (H1.out.ts _ (mget_mem Ht.out)) n).mono ?_;rintro e w3 ⟨rfl,hs3,hg3⟩))
   go_end0
   have T1:Two w1 fb tb (smod mf ⟨k,v⟩ fun l=>sdel l n) mt:=H1.out
   have T3:=(T1.swap.mod Ht.out (fun l=>sput l n) hs3 hg3).swap
   refine⟨rfl,⟨w.heap.size+1,by omega,?_⟩,?_⟩
   ·rw[←sadd_some Ht.out];exact T3
   ·exact((Chg.of_grown hbg (tb :: (mf.map (·.2.blk)++mt.map (·.2.blk)))).turned hg1 (Or.inl (by simp only[List.mem_cons,List.mem_append,List.mem_map];exact Or.inr (Or.inl ⟨_,mget_mem HF.out,rfl⟩)))).turned hg3 (Or.inl (by simp only[List.mem_cons,List.mem_append,List.mem_map];exact Or.inr (Or.inr ⟨_,mget_mem Ht.out,rfl⟩)))
end Go.Proofs.YtjfelfjobeeenaaGreat
