/- What ack does. Conditions: a table that lies in memory; a node of the table. What ack does where it does something. Conditions: a table that lies in memory; a node of the table. -/
import Derived.Test.YtjfelfjobeeenaaGreatF5
set_option linter.unusedSimpArgs false
set_option linter.unusedVariables false
namespace Go.Proofs.YtjfelfjobeeenaaGreat
open Go.RowKit Go.Sf Go.Shelf
def memH (m:List (ID × NSet)) (i:ID):List Int:=((mget m i).map (·.mem)).getD []
def heldT (T:Tab) (i:ID) (n:Int) (nb:Nat):Tab:={ T with holds:=sadd T.holds i n nb,refuses:=smod T.refuses i fun l=>sdel l n }
def refusedT (T:Tab) (i:ID) (n:Int) (nb:Nat):Tab:={ T with refuses:=sadd T.refuses i n nb,holds:=smod T.holds i fun l=>sdel l n }
theorem sadd_blk {m:List (ID × NSet)} {i:ID} {n:Int} {nb:Nat}:∀x∈sadd m i n nb,x.2.blk∈m.map (·.2.blk)∨x.2.blk=nb:=by
 intro x hx
 unfold sadd at hx
 split at hx
 ·left;rw[←smod_blks m i (fun l=>sput l n)];exact List.mem_map.2 ⟨x,hx,rfl⟩
 ·rcases List.mem_append.1 hx with h|h
  ·exact Or.inl (List.mem_map.2 ⟨x,h,rfl⟩)
  ·simp only[List.mem_singleton] at h;subst h;exact Or.inr rfl
theorem smod_blk {m:List (ID × NSet)} {i:ID} {f:List Int→List Int}:∀x∈smod m i f,x.2.blk∈m.map (·.2.blk):=by
 intro x hx
 rw[←smod_blks m i f];exact List.mem_map.2 ⟨x,hx,rfl⟩
section
variable {w w1 : World} {tb : Nat} {T : Tab}
theorem TRep.held (h:TRep w tb T) {i:ID} {n:Int} (m:Moved w w1 T.rb T.hb T.refuses T.holds i n):∃nb,w.heap.size≤nb∧TRep w1 tb (heldT T i n nb)∧Chg w w1 (T.blocks tb):=by
 obtain⟨⟨nb,hnb,h2⟩,hc⟩:=m
 refine⟨nb,hnb,h.upd_sets (hc.mono ?_) h2 (fun x hx=>?_) (fun x hx=>Or.inl (smod_blk x hx)),hc.mono ?_⟩
 ·intro b hb
  simp only[List.mem_cons,List.mem_append] at hb ⊢
  rcases hb with h|h|h
  ·exact Or.inl h
  ·exact Or.inr (Or.inr (Or.inr h))
  ·exact Or.inr (Or.inr (Or.inl h))
 ·rcases sadd_blk x hx with h1|h1
  ·exact Or.inl h1
  ·exact Or.inr (by omega)
 ·intro b hb
  simp only[Tab.blocks,List.mem_cons,List.mem_append] at hb ⊢
  rcases hb with h|h|h <;> simp[h]
theorem TRep.refused (h:TRep w tb T) {i:ID} {n:Int} (m:Moved w w1 T.hb T.rb T.holds T.refuses i n):∃nb,w.heap.size≤nb∧TRep w1 tb (refusedT T i n nb)∧Chg w w1 (T.blocks tb):=by
 obtain⟨⟨nb,hnb,h2⟩,hc⟩:=m
 refine⟨nb,hnb,h.upd_sets (hc.mono ?_) h2.swap (fun x hx=>Or.inl (smod_blk x hx)) (fun x hx=>?_),hc.mono ?_⟩
 ·intro b hb
  simp only[List.mem_cons,List.mem_append] at hb ⊢
  rcases hb with h|h|h
  ·exact Or.inr (Or.inl h)
  ·exact Or.inr (Or.inr (Or.inl h))
  ·exact Or.inr (Or.inr (Or.inr h))
 ·rcases sadd_blk x hx with h1|h1
  ·exact Or.inl h1
  ·exact Or.inr (by omega)
 ·intro b hb
  simp only[Tab.blocks,List.mem_cons,List.mem_append] at hb ⊢
  rcases hb with h|h|h <;> simp[h]
def ackRest (T1:Tab) (c:Cmd):Tab:=
 match mget T1.pending ⟨c.key,c.ver⟩ with
 | none=>T1
 | some p=>if ((memH T1.holds ⟨c.key,c.ver⟩).length:Int)<T1.w then T1 else
   if (lookV T1 c.key).ver<c.ver then { doneT T1 ⟨c.key,c.ver⟩ p 0 with values:=mput T1.values c.key ⟨c.ver,false⟩ } else doneT T1 ⟨c.key,c.ver⟩ p 0
def ackB (T:Tab) (c:Cmd):Bool:=nowB T c && wantedB T ⟨c.key,c.ver⟩
def ackT (T:Tab) (c:Cmd) (nb:Nat):Tab:=if ackB T c=true then ackRest (heldT T ⟨c.key,c.ver⟩ c.node nb) c else T
theorem ackT_f {T:Tab} {c:Cmd} (h:ackB T c=false) (nb:Nat):ackT T c nb=T:=if_neg (by rw[h];decide)
theorem ackT_t {T:Tab} {c:Cmd} (h:ackB T c=true) (nb:Nat):ackT T c nb=ackRest (heldT T ⟨c.key,c.ver⟩ c.node nb) c:=if_pos h
def AckPost (w w':World) (tb:Nat) (T:Tab) (c:Cmd):Prop:=∃nb,w.heap.size≤nb∧TRep w' tb (ackT T c nb)∧Chg w w' (T.blocks tb)
set_option maxHeartbeats 4000000 in
set_option maxRecDepth 100000 in
theorem ack_no (h:TRep w tb T) (c:Cmd) (hl:T.lives.length≤9223372036854775807) (h0:0≤c.node) (h1:c.node<T.lives.length) (hno:ackB T c=false) :
  Calls Tryz.prog 132 #[.pointer (some ⟨tb,0,none⟩),encCmd c] w fun e w'=>e = .returned (.tuple #[])∧AckPost w w' tb T c:=by
 obtain⟨kind,node,client,inc,req,ver,key,code⟩:=c
 have HNOW:Hid (∀W,w.grownBy W none→Calls Tryz.prog 172 #[.pointer (some ⟨tb,0,none⟩),.agg #[.int .u8 kind,.int .i64 node,.int .i64 client,.int .i64 inc,.int .i64 req,.int .i64 ver,.string key,.int .i64 code]] W fun e w'=>e = .returned (.bool (nowB T ⟨kind,node,client,inc,req,ver,key,code⟩))∧W.grownBy w' none):=
  fun W hg=>now_any (h.grown hg) ⟨kind,node,client,inc,req,ver,key,code⟩ hl h0 h1
 have HWANT:Hid (∀W,w.grownBy W none→Calls Tryz.prog 36 #[.pointer (some ⟨tb,0,none⟩),.agg #[.string key,.int .i64 ver]] W fun e w'=>e = .returned (.bool (wantedB T ⟨key,ver⟩))∧W.grownBy w' none):=
  fun W hg=>wanted_any (h.grown hg) ⟨key,ver⟩
 have HT:=Lib.hid h
 have HNO:=Lib.hid hno
 clear h hno
 simp only[encCmd]
 cases hnow:nowB T ⟨kind,node,client,inc,req,ver,key,code⟩
 ·simp only[hnow] at HNOW
  clear hnow
  go_enter Tryz.func132,Tryz.ntmps132
  go_wp2_with (go_at_call 172;refine(HNOW.out _ (by repeat (first|exact grown_refl _|exact World.grownBy_alloc _ _ _|refine grown_ext' ?_ _|refine grown_alloc ?_ _|refine grown_drew ?_))).mono ?_;rintro e w1 ⟨rfl,hg1⟩)
  refine bodyPost_ret (results_none rfl _ _ _) rfl ?_
  have hg:w.grownBy w1 none:=grown_trans (by repeat (first|exact grown_refl _|exact World.grownBy_alloc _ _ _|refine grown_ext' ?_ _|refine grown_alloc ?_ _|refine grown_drew ?_)) hg1
  exact⟨rfl,w.heap.size,Nat.le_refl _,by rw[ackT_f HNO.out];exact HT.out.grown hg,Chg.of_grown hg _⟩
 ·cases hw:wantedB T ⟨key,ver⟩
  ·simp only[hnow] at HNOW
   simp only[hw] at HWANT
   clear hnow hw
   go_enter Tryz.func132,Tryz.ntmps132
   go_wp2_with (first
    | (go_at_call 172;refine(HNOW.out _ (by repeat (first|exact grown_refl _|exact World.grownBy_alloc _ _ _|refine grown_ext' ?_ _|refine grown_alloc ?_ _|refine grown_drew ?_))).mono ?_;rintro e w1 ⟨rfl,hg1⟩;obtain⟨x1,rfl⟩:=ext_of_grown hg1)
    | (go_at_call 36;refine(HWANT.out _ (by repeat (first|exact grown_refl _|exact World.grownBy_alloc _ _ _|refine grown_ext' ?_ _|refine grown_alloc ?_ _|refine grown_drew ?_))).mono ?_;rintro e w2 ⟨rfl,hg2⟩))
   refine bodyPost_ret (results_none rfl _ _ _) rfl ?_
   have hg:w.grownBy w2 none:=grown_trans (by repeat (first|exact grown_refl _|exact World.grownBy_alloc _ _ _|refine grown_ext' ?_ _|refine grown_alloc ?_ _|refine grown_drew ?_)) hg2
   exact⟨rfl,w.heap.size,Nat.le_refl _,by rw[ackT_f HNO.out];exact HT.out.grown hg,Chg.of_grown hg _⟩
  ·have:=HNO.out
   simp[ackB,hnow,hw] at this
end
theorem sadd_get (m:List (ID × NSet)) (i:ID) (n:Int) (nb:Nat):∃s,mget (sadd m i n nb) i=some s:=by
 unfold sadd
 cases h:mget m i with
 | none=>exact⟨⟨nb,[n]⟩,by simp only[Option.isSome_none,Bool.false_eq_true,if_false];exact mget_last h _⟩
 | some s=>
  simp only[Option.isSome_some,if_true]
  unfold smod
  induction m with
  | nil=>simp[mget] at h
  | cons p r ih=>
   rw[mget] at h
   simp only[List.map_cons,mget]
   split at h
   ·rename_i e
    simp[e]
   ·rename_i e
    obtain⟨s',hs'⟩:=ih h
    refine⟨s',?_⟩
    simp[e,hs']
theorem run_lenSet (s:NSet):∀ty W,MapT W s.blk (Value.int .i64) encUnit (s.mem.map fun n=>(n,()))→(Builtin.len_ #[127] ty #[.map (some s.blk)]).run Tryz.prog W = .ok (.int .i64 s.mem.length) W:=fun ty W h=>by
 have:=h.len (P:=Tryz.prog) Tryz.underlying127 ty
 simpa using this
theorem heldT_blocks {tb:Nat} {T:Tab} {i:ID} {n:Int} {nb:Nat}:∀b∈(heldT T i n nb).blocks tb,b∈T.blocks tb∨b=nb:=by
 intro b hb
 simp only[Tab.blocks,heldT,List.mem_cons,List.mem_append] at hb ⊢
 rcases hb with h|h|h|h|h|h|h|h|h
 ·exact Or.inl (by simp[h])
 ·exact Or.inl (by simp[h])
 ·exact Or.inl (by simp[h])
 ·exact Or.inl (by simp[h])
 ·exact Or.inl (by simp[h])
 ·exact Or.inl (by simp[h])
 ·exact Or.inl (by simp[h])
 ·obtain⟨x,hx,rfl⟩:=List.mem_map.1 h
  rcases sadd_blk x hx with h2|h2
  ·exact Or.inl (by simp only[h2];simp)
  ·exact Or.inr h2
 ·obtain⟨x,hx,rfl⟩:=List.mem_map.1 h
  have h2:=smod_blk x hx
  exact Or.inl (by simp only[h2];simp)
section
variable {w w1 : World} {tb : Nat} {T : Tab}
set_option maxHeartbeats 8000000 in
set_option maxRecDepth 100000 in
theorem ack_c (h:TRep w tb T) (c:Cmd) (hl:T.lives.length≤9223372036854775807) (h0:0≤c.node) (h1:c.node<T.lives.length) (hyes:ackB T c=true) (hnp:mget T.pending ⟨c.key,c.ver⟩=none) :
  Calls Tryz.prog 132 #[.pointer (some ⟨tb,0,none⟩),encCmd c] w fun e w'=>e = .returned (.tuple #[])∧AckPost w w' tb T c:=by
 obtain⟨kind,node,client,inc,req,ver,key,code⟩:=c
 have hb2:nowB T ⟨kind,node,client,inc,req,ver,key,code⟩=true∧wantedB T ⟨key,ver⟩=true:=by simpa[ackB] using hyes
 have HNOW:Hid (∀W,w.grownBy W none→Calls Tryz.prog 172 #[.pointer (some ⟨tb,0,none⟩),.agg #[.int .u8 kind,.int .i64 node,.int .i64 client,.int .i64 inc,.int .i64 req,.int .i64 ver,.string key,.int .i64 code]] W fun e w'=>e = .returned (.bool true)∧W.grownBy w' none):=
  fun W hg=>hb2.1 ▸ now_any (h.grown hg) ⟨kind,node,client,inc,req,ver,key,code⟩ hl h0 h1
 have HWANT:Hid (∀W,w.grownBy W none→Calls Tryz.prog 36 #[.pointer (some ⟨tb,0,none⟩),.agg #[.string key,.int .i64 ver]] W fun e w'=>e = .returned (.bool true)∧W.grownBy w' none):=
  fun W hg=>hb2.2 ▸ wanted_any (h.grown hg) ⟨key,ver⟩
 have HT:=Lib.hid h
 have HYES:=Lib.hid hyes
 have hpl:=h.lt
 have HPL:=Lib.hid hpl
 obtain⟨pc,pr,_,hlk⟩:=run_pendingT T.pb T.pending key ver
 simp only at hnp
 simp only[hnp,Option.isSome_none] at hlk
 have HNP:=Lib.hid hnp
 clear hnp
 clear h hyes hb2 hpl
 simp only[encCmd]
 go_enter Tryz.func132,Tryz.ntmps132
 go_wp2_with (first
  | (go_at_call 172;refine(HNOW.out _ (by repeat (first|exact grown_refl _|exact World.grownBy_alloc _ _ _|refine grown_ext' ?_ _|refine grown_alloc ?_ _|refine grown_drew ?_))).mono ?_;rintro e w1 ⟨rfl,hg1⟩;obtain⟨x1,rfl⟩:=ext_of_grown hg1)
  | (go_at_call 36;refine(HWANT.out _ (by repeat (first|exact grown_refl _|exact World.grownBy_alloc _ _ _|refine grown_ext' ?_ _|refine grown_alloc ?_ _|refine grown_drew ?_))).mono ?_;rintro e w2 ⟨rfl,hg2⟩;have x0:w2.cell? ⟨w.heap.size,1,none⟩=some (.int .i64 node):=hg2.cell (by simp[go_sem]) (by simp);have x5:w2.cell? ⟨w.heap.size,5,none⟩=some (.int .i64 ver):=hg2.cell (by simp[go_sem]) (by simp);have x6:w2.cell? ⟨w.heap.size,6,none⟩=some (.string key):=hg2.cell (by simp[go_sem]) (by simp);have y0:w2.cell? ⟨w.heap.size+1,0,none⟩=some (.string key):=hg2.cell (by simp[go_sem]) (by simp);have y1:w2.cell? ⟨w.heap.size+1,1,none⟩=some (.int .i64 ver):=hg2.cell (by simp[go_sem]) (by simp);have hg:w.grownBy w2 none:=grown_trans (by repeat (first|exact grown_refl _|exact World.grownBy_alloc _ _ _|refine grown_ext' ?_ _|refine grown_alloc ?_ _|refine grown_drew ?_)) hg2;have T2:=HT.out.grown hg;have k7:=T2.c7;have k8:=T2.c8;have htb:=T2.tlt;have HG:=Lib.hid hg;have HT2:=Lib.hid T2;clear T2 hg hg2 hg1))
 go_still_tail 11,(by kernel_rfl)
 go_wp2_with (go_at_call 173;refine(moves_any (HT2.out.grown (grown_drew (grown_refl _))).two ⟨key,ver⟩ node).mono ?_;rintro e w4 ⟨rfl,hM⟩;obtain⟨nb,hnb,hT4,hC4⟩:=(HT2.out.grown (grown_drew (grown_refl _))).held hM;have x0':w4.cell? ⟨w.heap.size,5,none⟩=some (.int .i64 ver):=hC4.cell x5 (fun hb=>absurd (HPL.out _ hb) (by simp));have x6':w4.cell? ⟨w.heap.size,6,none⟩=some (.string key):=hC4.cell x6 (fun hb=>absurd (HPL.out _ hb) (by simp));have y0':w4.cell? ⟨w.heap.size+1,0,none⟩=some (.string key):=hC4.cell y0 (fun hb=>absurd (HPL.out _ hb) (by simp));have y1':w4.cell? ⟨w.heap.size+1,1,none⟩=some (.int .i64 ver):=hC4.cell y1 (fun hb=>absurd (HPL.out _ hb) (by simp));have k6:=hT4.c6;have hp4:=hT4.pending;have htb4:=hT4.tlt;have htb5:tb<w4.heap.size+1:=Nat.lt_succ_of_lt htb4;have hHS:w.heap.size+1<w4.heap.size:=cell_lt y0';have hHS0:w.heap.size<w4.heap.size:=Nat.lt_of_succ_lt hHS;have hHS1:w.heap.size+1<w4.heap.size+1:=Nat.lt_succ_of_lt hHS;have hHS2:w.heap.size<w4.heap.size+1:=Nat.lt_succ_of_lt hHS0;skip;have CH:Chg w w4 (T.blocks tb):=((Chg.of_grown HG.out (T.blocks tb)).grown (grown_drew (grown_refl _))).trans hC4 (fun b hb=>Or.inl hb);have HCH:=Lib.hid CH;have HT4:=Lib.hid hT4;have HNB2:Hid (w.heap.size+1<nb):=(show _<_ from Nat.lt_of_lt_of_le (cell_lt y1) hnb);have HNB:Hid (w.heap.size≤nb):=(show _≤_ from Nat.le_trans HG.out.size hnb);clear CH hT4 hC4 hM hnb x5 x6 y0 y1 k7 k8;simp only[heldT] at k6 hp4)
 go_region
 go_wp2
 refine wp_region_quiet_ext (by kernel_rfl) (by kernel_rfl) ?_
 repeat (any_goals (first|go_big_quiet_step (fail)|quiet_step (fail)))
 refine wpQuiet_nil ?_
 intro _ hw'
 obtain⟨x7,hw''⟩:=hw'
 subst hw''
 go_wp2
 refine bodyPost_ret (results_none rfl _ _ _) rfl ?_
 refine⟨rfl,nb,HNB.out,?_,?_⟩
 ·rw[ackT_t HYES.out,ackRest]
  have e1:mget (heldT T ⟨key,ver⟩ node nb).pending ⟨key,ver⟩=none:=HNP.out
  simp only[e1]
  exact HT4.out.grown (by repeat (first|exact grown_refl _|exact World.grownBy_alloc _ _ _|refine grown_ext' ?_ _|refine grown_alloc ?_ _|refine grown_drew ?_))
 ·exact HCH.out.grown (by repeat (first|exact grown_refl _|exact World.grownBy_alloc _ _ _|refine grown_ext' ?_ _|refine grown_alloc ?_ _|refine grown_drew ?_))
set_option maxHeartbeats 8000000 in
set_option maxRecDepth 100000 in
theorem ack_d (h:TRep w tb T) (c:Cmd) (hl:T.lives.length≤9223372036854775807) (h0:0≤c.node) (h1:c.node<T.lives.length) (hyes:ackB T c=true) (p:Pend) (hnp:mget T.pending ⟨c.key,c.ver⟩=some p) (hlt:∀nb,((memH (sadd T.holds ⟨c.key,c.ver⟩ c.node nb) ⟨c.key,c.ver⟩).length:Int)<T.w) :
  Calls Tryz.prog 132 #[.pointer (some ⟨tb,0,none⟩),encCmd c] w fun e w'=>e = .returned (.tuple #[])∧AckPost w w' tb T c:=by
 obtain⟨kind,node,client,inc,req,ver,key,code⟩:=c
 have hb2:nowB T ⟨kind,node,client,inc,req,ver,key,code⟩=true∧wantedB T ⟨key,ver⟩=true:=by simpa[ackB] using hyes
 have HNOW:Hid (∀W,w.grownBy W none→Calls Tryz.prog 172 #[.pointer (some ⟨tb,0,none⟩),.agg #[.int .u8 kind,.int .i64 node,.int .i64 client,.int .i64 inc,.int .i64 req,.int .i64 ver,.string key,.int .i64 code]] W fun e w'=>e = .returned (.bool true)∧W.grownBy w' none):=
  fun W hg=>hb2.1 ▸ now_any (h.grown hg) ⟨kind,node,client,inc,req,ver,key,code⟩ hl h0 h1
 have HWANT:Hid (∀W,w.grownBy W none→Calls Tryz.prog 36 #[.pointer (some ⟨tb,0,none⟩),.agg #[.string key,.int .i64 ver]] W fun e w'=>e = .returned (.bool true)∧W.grownBy w' none):=
  fun W hg=>hb2.2 ▸ wanted_any (h.grown hg) ⟨key,ver⟩
 have HT:=Lib.hid h
 have HYES:=Lib.hid hyes
 have hpl:=h.lt
 have HPL:=Lib.hid hpl
 obtain⟨pc,pr,hpe,hlk⟩:=run_pendingT T.pb T.pending key ver
 simp only at hnp
 have HPE:=Lib.hid (hpe p hnp)
 simp only[hnp,Option.isSome_some] at hlk
 have HNP:=Lib.hid hnp
 clear hnp hpe
 simp only at hlt
 have HLT:=Lib.hid hlt
 clear hlt
 clear h hyes hb2 hpl
 simp only[encCmd]
 go_enter Tryz.func132,Tryz.ntmps132
 go_wp2_with (first
  | (go_at_call 172;refine(HNOW.out _ (by repeat (first|exact grown_refl _|exact World.grownBy_alloc _ _ _|refine grown_ext' ?_ _|refine grown_alloc ?_ _|refine grown_drew ?_))).mono ?_;rintro e w1 ⟨rfl,hg1⟩;obtain⟨x1,rfl⟩:=ext_of_grown hg1)
  | (go_at_call 36;refine(HWANT.out _ (by repeat (first|exact grown_refl _|exact World.grownBy_alloc _ _ _|refine grown_ext' ?_ _|refine grown_alloc ?_ _|refine grown_drew ?_))).mono ?_;rintro e w2 ⟨rfl,hg2⟩;have x0:w2.cell? ⟨w.heap.size,1,none⟩=some (.int .i64 node):=hg2.cell (by simp[go_sem]) (by simp);have x5:w2.cell? ⟨w.heap.size,5,none⟩=some (.int .i64 ver):=hg2.cell (by simp[go_sem]) (by simp);have x6:w2.cell? ⟨w.heap.size,6,none⟩=some (.string key):=hg2.cell (by simp[go_sem]) (by simp);have y0:w2.cell? ⟨w.heap.size+1,0,none⟩=some (.string key):=hg2.cell (by simp[go_sem]) (by simp);have y1:w2.cell? ⟨w.heap.size+1,1,none⟩=some (.int .i64 ver):=hg2.cell (by simp[go_sem]) (by simp);have hg:w.grownBy w2 none:=grown_trans (by repeat (first|exact grown_refl _|exact World.grownBy_alloc _ _ _|refine grown_ext' ?_ _|refine grown_alloc ?_ _|refine grown_drew ?_)) hg2;have T2:=HT.out.grown hg;have k7:=T2.c7;have k8:=T2.c8;have htb:=T2.tlt;have HG:=Lib.hid hg;have HT2:=Lib.hid T2;clear T2 hg hg2 hg1))
 go_still_tail 11,(by kernel_rfl)
 go_wp2_with (go_at_call 173;refine(moves_any (HT2.out.grown (grown_drew (grown_refl _))).two ⟨key,ver⟩ node).mono ?_;rintro e w4 ⟨rfl,hM⟩;obtain⟨nb,hnb,hT4,hC4⟩:=(HT2.out.grown (grown_drew (grown_refl _))).held hM;have x0':w4.cell? ⟨w.heap.size,5,none⟩=some (.int .i64 ver):=hC4.cell x5 (fun hb=>absurd (HPL.out _ hb) (by simp));have x6':w4.cell? ⟨w.heap.size,6,none⟩=some (.string key):=hC4.cell x6 (fun hb=>absurd (HPL.out _ hb) (by simp));have y0':w4.cell? ⟨w.heap.size+1,0,none⟩=some (.string key):=hC4.cell y0 (fun hb=>absurd (HPL.out _ hb) (by simp));have y1':w4.cell? ⟨w.heap.size+1,1,none⟩=some (.int .i64 ver):=hC4.cell y1 (fun hb=>absurd (HPL.out _ hb) (by simp));have k6:=hT4.c6;have hp4:=hT4.pending;have htb4:=hT4.tlt;have htb5:tb<w4.heap.size+1:=Nat.lt_succ_of_lt htb4;have hHS:w.heap.size+1<w4.heap.size:=cell_lt y0';have hHS0:w.heap.size<w4.heap.size:=Nat.lt_of_succ_lt hHS;have hHS1:w.heap.size+1<w4.heap.size+1:=Nat.lt_succ_of_lt hHS;have hHS2:w.heap.size<w4.heap.size+1:=Nat.lt_succ_of_lt hHS0;obtain⟨s,hsg⟩:=sadd_get T.holds ⟨key,ver⟩ node nb;have k7':=hT4.c7;have k0':=hT4.c0;have hh4:=hT4.holds;have hset:=hT4.hsets _ (mget_mem hsg);have hls:=run_setsT T.hb (sadd T.holds ⟨key,ver⟩ node nb) key ver (some s) hsg;have hll:=run_lenSet s;simp only[heldT] at k7' k0' hh4;simp only[SetT] at hset;simp only[Option.map_some] at hls;have HSG:=Lib.hid hsg;clear hsg;have hd2:decide ((s.mem.length:Int)<T.w)=true:=(by have:=HLT.out nb;unfold memH at this;rw[HSG.out] at this;simpa using this);have CH:Chg w w4 (T.blocks tb):=((Chg.of_grown HG.out (T.blocks tb)).grown (grown_drew (grown_refl _))).trans hC4 (fun b hb=>Or.inl hb);have HCH:=Lib.hid CH;have HT4:=Lib.hid hT4;have HNB2:Hid (w.heap.size+1<nb):=(show _<_ from Nat.lt_of_lt_of_le (cell_lt y1) hnb);have HNB:Hid (w.heap.size≤nb):=(show _≤_ from Nat.le_trans HG.out.size hnb);clear CH hT4 hC4 hM hnb x5 x6 y0 y1 k7 k8;simp only[heldT] at k6 hp4)
 go_region
 go_wp2
 refine wp_region_quiet_ext (by kernel_rfl) (by kernel_rfl) ?_
 repeat (any_goals (first|go_big_quiet_step (fail)|quiet_step (fail)))
 refine wpQuiet_nil ?_
 intro _ hw'
 obtain⟨x7,hw''⟩:=hw'
 subst hw''
 go_wp2
 refine bodyPost_ret (results_none rfl _ _ _) rfl ?_
 refine⟨rfl,nb,HNB.out,?_,?_⟩
 ·rw[ackT_t HYES.out,ackRest]
  have e1:mget (heldT T ⟨key,ver⟩ node nb).pending ⟨key,ver⟩=some p:=HNP.out
  have e2:((memH (heldT T ⟨key,ver⟩ node nb).holds ⟨key,ver⟩).length:Int)<(heldT T ⟨key,ver⟩ node nb).w:=HLT.out nb
  simp only[e1]
  rw[if_pos e2]
  exact HT4.out.grown (by repeat (first|exact grown_refl _|exact World.grownBy_alloc _ _ _|refine grown_ext' ?_ _|refine grown_alloc ?_ _|refine grown_drew ?_))
 ·exact HCH.out.grown (by repeat (first|exact grown_refl _|exact World.grownBy_alloc _ _ _|refine grown_ext' ?_ _|refine grown_alloc ?_ _|refine grown_drew ?_))
set_option maxHeartbeats 8000000 in
set_option maxRecDepth 100000 in
theorem ack_e (h:TRep w tb T) (c:Cmd) (hl:T.lives.length≤9223372036854775807) (h0:0≤c.node) (h1:c.node<T.lives.length) (hyes:ackB T c=true) (p:Pend) (hnp:mget T.pending ⟨c.key,c.ver⟩=some p) (hlt:∀nb,¬((memH (sadd T.holds ⟨c.key,c.ver⟩ c.node nb) ⟨c.key,c.ver⟩).length:Int)<T.w) (hv:(lookV T c.key).ver<c.ver) :
  Calls Tryz.prog 132 #[.pointer (some ⟨tb,0,none⟩),encCmd c] w fun e w'=>e = .returned (.tuple #[])∧AckPost w w' tb T c:=by
 obtain⟨kind,node,client,inc,req,ver,key,code⟩:=c
 have hb2:nowB T ⟨kind,node,client,inc,req,ver,key,code⟩=true∧wantedB T ⟨key,ver⟩=true:=by simpa[ackB] using hyes
 have HNOW:Hid (∀W,w.grownBy W none→Calls Tryz.prog 172 #[.pointer (some ⟨tb,0,none⟩),.agg #[.int .u8 kind,.int .i64 node,.int .i64 client,.int .i64 inc,.int .i64 req,.int .i64 ver,.string key,.int .i64 code]] W fun e w'=>e = .returned (.bool true)∧W.grownBy w' none):=
  fun W hg=>hb2.1 ▸ now_any (h.grown hg) ⟨kind,node,client,inc,req,ver,key,code⟩ hl h0 h1
 have HWANT:Hid (∀W,w.grownBy W none→Calls Tryz.prog 36 #[.pointer (some ⟨tb,0,none⟩),.agg #[.string key,.int .i64 ver]] W fun e w'=>e = .returned (.bool true)∧W.grownBy w' none):=
  fun W hg=>hb2.2 ▸ wanted_any (h.grown hg) ⟨key,ver⟩
 have HT:=Lib.hid h
 have HYES:=Lib.hid hyes
 have hpl:=h.lt
 have HPL:=Lib.hid hpl
 obtain⟨pc,pr,hpe,hlk⟩:=run_pendingT T.pb T.pending key ver
 simp only at hnp
 have HPE:=Lib.hid (hpe p hnp)
 simp only[hnp,Option.isSome_some] at hlk
 have HNP:=Lib.hid hnp
 clear hnp hpe
 simp only at hlt hv
 have HLT:=Lib.hid hlt
 have HV:=Lib.hid hv
 have dv:decide ((lookV T key).ver<ver)=true:=by simpa using hv
 clear hlt hv
 clear h hyes hb2 hpl
 simp only[encCmd]
 go_enter Tryz.func132,Tryz.ntmps132
 go_wp2_with (first
  | (go_at_call 172;refine(HNOW.out _ (by repeat (first|exact grown_refl _|exact World.grownBy_alloc _ _ _|refine grown_ext' ?_ _|refine grown_alloc ?_ _|refine grown_drew ?_))).mono ?_;rintro e w1 ⟨rfl,hg1⟩;obtain⟨x1,rfl⟩:=ext_of_grown hg1)
  | (go_at_call 36;refine(HWANT.out _ (by repeat (first|exact grown_refl _|exact World.grownBy_alloc _ _ _|refine grown_ext' ?_ _|refine grown_alloc ?_ _|refine grown_drew ?_))).mono ?_;rintro e w2 ⟨rfl,hg2⟩;have x0:w2.cell? ⟨w.heap.size,1,none⟩=some (.int .i64 node):=hg2.cell (by simp[go_sem]) (by simp);have x5:w2.cell? ⟨w.heap.size,5,none⟩=some (.int .i64 ver):=hg2.cell (by simp[go_sem]) (by simp);have x6:w2.cell? ⟨w.heap.size,6,none⟩=some (.string key):=hg2.cell (by simp[go_sem]) (by simp);have y0:w2.cell? ⟨w.heap.size+1,0,none⟩=some (.string key):=hg2.cell (by simp[go_sem]) (by simp);have y1:w2.cell? ⟨w.heap.size+1,1,none⟩=some (.int .i64 ver):=hg2.cell (by simp[go_sem]) (by simp);have hg:w.grownBy w2 none:=grown_trans (by repeat (first|exact grown_refl _|exact World.grownBy_alloc _ _ _|refine grown_ext' ?_ _|refine grown_alloc ?_ _|refine grown_drew ?_)) hg2;have T2:=HT.out.grown hg;have k7:=T2.c7;have k8:=T2.c8;have htb:=T2.tlt;have HG:=Lib.hid hg;have HT2:=Lib.hid T2;clear T2 hg hg2 hg1))
 go_still_tail 11,(by kernel_rfl)
 go_wp2_with (go_at_call 173;refine(moves_any (HT2.out.grown (grown_drew (grown_refl _))).two ⟨key,ver⟩ node).mono ?_;rintro e w4 ⟨rfl,hM⟩;obtain⟨nb,hnb,hT4,hC4⟩:=(HT2.out.grown (grown_drew (grown_refl _))).held hM;have x0':w4.cell? ⟨w.heap.size,5,none⟩=some (.int .i64 ver):=hC4.cell x5 (fun hb=>absurd (HPL.out _ hb) (by simp));have x6':w4.cell? ⟨w.heap.size,6,none⟩=some (.string key):=hC4.cell x6 (fun hb=>absurd (HPL.out _ hb) (by simp));have y0':w4.cell? ⟨w.heap.size+1,0,none⟩=some (.string key):=hC4.cell y0 (fun hb=>absurd (HPL.out _ hb) (by simp));have y1':w4.cell? ⟨w.heap.size+1,1,none⟩=some (.int .i64 ver):=hC4.cell y1 (fun hb=>absurd (HPL.out _ hb) (by simp));have k6:=hT4.c6;have hp4:=hT4.pending;have htb4:=hT4.tlt;have htb5:tb<w4.heap.size+1:=Nat.lt_succ_of_lt htb4;have hHS:w.heap.size+1<w4.heap.size:=cell_lt y0';have hHS0:w.heap.size<w4.heap.size:=Nat.lt_of_succ_lt hHS;have hHS1:w.heap.size+1<w4.heap.size+1:=Nat.lt_succ_of_lt hHS;have hHS2:w.heap.size<w4.heap.size+1:=Nat.lt_succ_of_lt hHS0;obtain⟨s,hsg⟩:=sadd_get T.holds ⟨key,ver⟩ node nb;have k7':=hT4.c7;have k0':=hT4.c0;have hh4:=hT4.holds;have hset:=hT4.hsets _ (mget_mem hsg);have hls:=run_setsT T.hb (sadd T.holds ⟨key,ver⟩ node nb) key ver (some s) hsg;have hll:=run_lenSet s;simp only[heldT] at k7' k0' hh4;simp only[SetT] at hset;simp only[Option.map_some] at hls;have HSG:=Lib.hid hsg;clear hsg;have hd2:decide ((s.mem.length:Int)<T.w)=false:=(by have:=HLT.out nb;unfold memH at this;rw[HSG.out] at this;simpa using this);have CH:Chg w w4 (T.blocks tb):=((Chg.of_grown HG.out (T.blocks tb)).grown (grown_drew (grown_refl _))).trans hC4 (fun b hb=>Or.inl hb);have HCH:=Lib.hid CH;have HT4:=Lib.hid hT4;have HNB2:Hid (w.heap.size+1<nb):=(show _<_ from Nat.lt_of_lt_of_le (cell_lt y1) hnb);have HNB:Hid (w.heap.size≤nb):=(show _≤_ from Nat.le_trans HG.out.size hnb);clear CH hT4 hC4 hM hnb x5 x6 y0 y1 k7 k8;simp only[heldT] at k6 hp4)
 go_region
 go_wp2
 refine wp_region_quiet_ext (by kernel_rfl) (by kernel_rfl) ?_
 repeat (any_goals (first|go_big_quiet_step (fail)|quiet_step (fail)))
 refine wpQuiet_nil ?_
 intro _ hw'
 obtain⟨x7,hw''⟩:=hw'
 subst hw''
 go_wp2_with (go_at_call 174;refine(done_any (HT4.out.grown (by repeat (first|exact grown_refl _|exact World.grownBy_alloc _ _ _|refine grown_ext' ?_ _|refine grown_alloc ?_ _|refine grown_drew ?_))) ⟨key,ver⟩ ⟨pc,pr⟩ 0).mono ?_;rintro e w5 ⟨rfl,hT5,hC5⟩;have z5:w5.cell? ⟨w.heap.size,5,none⟩=some (.int .i64 ver):=hC5.cell (by simp[go_sem,x0',hHS0,hHS2]) (fun hb=>(heldT_blocks _ hb).elim (fun h=>absurd (HPL.out _ h) (by simp)) (fun e=>by have:=HNB2.out;simp at e;omega));have z6:w5.cell? ⟨w.heap.size,6,none⟩=some (.string key):=hC5.cell (by simp[go_sem,x6',hHS0,hHS2]) (fun hb=>(heldT_blocks _ hb).elim (fun h=>absurd (HPL.out _ h) (by simp)) (fun e=>by have:=HNB2.out;simp at e;omega));have hZ:w.heap.size<w5.heap.size:=cell_lt z5;have m5:=hT5.c5;have hv5:=hT5.values;have htb6:=hT5.tlt;have hvr:=fun W hW=>TRep.run_values (T:=T) W hW key;simp only[doneT,heldT] at m5 hv5;have CH5:Chg w w5 (T.blocks tb):=(HCH.out.grown (by repeat (first|exact grown_refl _|exact World.grownBy_alloc _ _ _|refine grown_ext' ?_ _|refine grown_alloc ?_ _|refine grown_drew ?_))).trans hC5 (fun b hb=>(heldT_blocks b hb).imp id (fun e=>by rw[e];exact HNB.out));have HCH5:=Lib.hid CH5;have HT5:=Lib.hid hT5;clear hT5 hC5 CH5 x0' x6' y0' y1' k6 hp4 k7' k0' hh4 hset hls hll hHS hHS0 hHS1 hHS2;generalize hlv:(lookV T key).ver=lv at *;generalize (lookV T key).dead=ld at *)
 refine wp_region_quiet_ext (by kernel_rfl) (by kernel_rfl) ?_
 repeat (any_goals (first|go_big_quiet_step (fail)|quiet_step (fail)))
 refine wpQuiet_nil ?_
 intro _ hw'
 obtain⟨x8,hw''⟩:=hw'
 subst hw''
 go_wp2
 have T6:=HT5.out.grown (grown_ext w5 x8)
 have q5:=T6.c5
 have hv6:=T6.values
 have htb7:=T6.tlt
 have r5:(ext w5 x8).cell? ⟨w.heap.size,5,none⟩=some (.int .i64 ver):=(grown_ext w5 x8).cell z5 (by simp)
 have r6:(ext w5 x8).cell? ⟨w.heap.size,6,none⟩=some (.string key):=(grown_ext w5 x8).cell z6 (by simp)
 have CH6:=HCH5.out.grown (grown_ext w5 x8)
 have HT6:=Lib.hid T6
 have HCH6:=Lib.hid CH6
 clear T6 CH6 m5 hv5 z5 z6
 generalize ext w5 x8=w6 at *
 simp only[doneT,heldT] at q5 hv6
 go_still_tail 9,(by kernel_rfl)
 go_wp2_with (at_mapUpdate;refine wpList_updateT (ek:=Value.string) (ev:=encVal) _ rfl _ _ _ 118 rfl keStr Tryz.underlying118 T.vb T.values rfl ((mapT_drew _).2 hv6) key ⟨ver,false⟩ rfl rfl ?_;intro w7 hm7 hg7 hs7)
 go_end0
 have T7:=(HT6.out.grown (grown_drew (grown_refl _))).upd_values hm7 hg7
 refine⟨rfl,nb,HNB.out,?_,?_⟩
 ·rw[ackT_t HYES.out,ackRest]
  have e1:mget (heldT T ⟨key,ver⟩ node nb).pending ⟨key,ver⟩=some p:=HNP.out
  have e2:¬((memH (heldT T ⟨key,ver⟩ node nb).holds ⟨key,ver⟩).length:Int)<(heldT T ⟨key,ver⟩ node nb).w:=Int.not_lt.2 (HLT.out nb)
  have e3:(lookV (heldT T ⟨key,ver⟩ node nb) key).ver<ver:=by show(lookV T key).ver<ver;rw[hlv];exact HV.out
  simp only[e1]
  rw[if_neg e2,if_pos e3,HPE.out]
  exact T7
 ·exact(HCH6.out.grown (grown_drew (grown_refl _))).turned hg7 (Or.inl (by simp[Tab.blocks]))
set_option maxHeartbeats 8000000 in
set_option maxRecDepth 100000 in
theorem ack_f (h:TRep w tb T) (c:Cmd) (hl:T.lives.length≤9223372036854775807) (h0:0≤c.node) (h1:c.node<T.lives.length) (hyes:ackB T c=true) (p:Pend) (hnp:mget T.pending ⟨c.key,c.ver⟩=some p) (hlt:∀nb,¬((memH (sadd T.holds ⟨c.key,c.ver⟩ c.node nb) ⟨c.key,c.ver⟩).length:Int)<T.w) (hv:¬(lookV T c.key).ver<c.ver) :
  Calls Tryz.prog 132 #[.pointer (some ⟨tb,0,none⟩),encCmd c] w fun e w'=>e = .returned (.tuple #[])∧AckPost w w' tb T c:=by
 obtain⟨kind,node,client,inc,req,ver,key,code⟩:=c
 have hb2:nowB T ⟨kind,node,client,inc,req,ver,key,code⟩=true∧wantedB T ⟨key,ver⟩=true:=by simpa[ackB] using hyes
 have HNOW:Hid (∀W,w.grownBy W none→Calls Tryz.prog 172 #[.pointer (some ⟨tb,0,none⟩),.agg #[.int .u8 kind,.int .i64 node,.int .i64 client,.int .i64 inc,.int .i64 req,.int .i64 ver,.string key,.int .i64 code]] W fun e w'=>e = .returned (.bool true)∧W.grownBy w' none):=
  fun W hg=>hb2.1 ▸ now_any (h.grown hg) ⟨kind,node,client,inc,req,ver,key,code⟩ hl h0 h1
 have HWANT:Hid (∀W,w.grownBy W none→Calls Tryz.prog 36 #[.pointer (some ⟨tb,0,none⟩),.agg #[.string key,.int .i64 ver]] W fun e w'=>e = .returned (.bool true)∧W.grownBy w' none):=
  fun W hg=>hb2.2 ▸ wanted_any (h.grown hg) ⟨key,ver⟩
 have HT:=Lib.hid h
 have HYES:=Lib.hid hyes
 have hpl:=h.lt
 have HPL:=Lib.hid hpl
 obtain⟨pc,pr,hpe,hlk⟩:=run_pendingT T.pb T.pending key ver
 simp only at hnp
 have HPE:=Lib.hid (hpe p hnp)
 simp only[hnp,Option.isSome_some] at hlk
 have HNP:=Lib.hid hnp
 clear hnp hpe
 simp only at hlt hv
 have HLT:=Lib.hid hlt
 have HV:=Lib.hid hv
 have dv:decide ((lookV T key).ver<ver)=false:=by simpa using hv
 clear hlt hv
 clear h hyes hb2 hpl
 simp only[encCmd]
 go_enter Tryz.func132,Tryz.ntmps132
 go_wp2_with (first
  | (go_at_call 172;refine(HNOW.out _ (by repeat (first|exact grown_refl _|exact World.grownBy_alloc _ _ _|refine grown_ext' ?_ _|refine grown_alloc ?_ _|refine grown_drew ?_))).mono ?_;rintro e w1 ⟨rfl,hg1⟩;obtain⟨x1,rfl⟩:=ext_of_grown hg1)
  | (go_at_call 36;refine(HWANT.out _ (by repeat (first|exact grown_refl _|exact World.grownBy_alloc _ _ _|refine grown_ext' ?_ _|refine grown_alloc ?_ _|refine grown_drew ?_))).mono ?_;rintro e w2 ⟨rfl,hg2⟩;have x0:w2.cell? ⟨w.heap.size,1,none⟩=some (.int .i64 node):=hg2.cell (by simp[go_sem]) (by simp);have x5:w2.cell? ⟨w.heap.size,5,none⟩=some (.int .i64 ver):=hg2.cell (by simp[go_sem]) (by simp);have x6:w2.cell? ⟨w.heap.size,6,none⟩=some (.string key):=hg2.cell (by simp[go_sem]) (by simp);have y0:w2.cell? ⟨w.heap.size+1,0,none⟩=some (.string key):=hg2.cell (by simp[go_sem]) (by simp);have y1:w2.cell? ⟨w.heap.size+1,1,none⟩=some (.int .i64 ver):=hg2.cell (by simp[go_sem]) (by simp);have hg:w.grownBy w2 none:=grown_trans (by repeat (first|exact grown_refl _|exact World.grownBy_alloc _ _ _|refine grown_ext' ?_ _|refine grown_alloc ?_ _|refine grown_drew ?_)) hg2;have T2:=HT.out.grown hg;have k7:=T2.c7;have k8:=T2.c8;have htb:=T2.tlt;have HG:=Lib.hid hg;have HT2:=Lib.hid T2;clear T2 hg hg2 hg1))
 go_still_tail 11,(by kernel_rfl)
 go_wp2_with (go_at_call 173;refine(moves_any (HT2.out.grown (grown_drew (grown_refl _))).two ⟨key,ver⟩ node).mono ?_;rintro e w4 ⟨rfl,hM⟩;obtain⟨nb,hnb,hT4,hC4⟩:=(HT2.out.grown (grown_drew (grown_refl _))).held hM;have x0':w4.cell? ⟨w.heap.size,5,none⟩=some (.int .i64 ver):=hC4.cell x5 (fun hb=>absurd (HPL.out _ hb) (by simp));have x6':w4.cell? ⟨w.heap.size,6,none⟩=some (.string key):=hC4.cell x6 (fun hb=>absurd (HPL.out _ hb) (by simp));have y0':w4.cell? ⟨w.heap.size+1,0,none⟩=some (.string key):=hC4.cell y0 (fun hb=>absurd (HPL.out _ hb) (by simp));have y1':w4.cell? ⟨w.heap.size+1,1,none⟩=some (.int .i64 ver):=hC4.cell y1 (fun hb=>absurd (HPL.out _ hb) (by simp));have k6:=hT4.c6;have hp4:=hT4.pending;have htb4:=hT4.tlt;have htb5:tb<w4.heap.size+1:=Nat.lt_succ_of_lt htb4;have hHS:w.heap.size+1<w4.heap.size:=cell_lt y0';have hHS0:w.heap.size<w4.heap.size:=Nat.lt_of_succ_lt hHS;have hHS1:w.heap.size+1<w4.heap.size+1:=Nat.lt_succ_of_lt hHS;have hHS2:w.heap.size<w4.heap.size+1:=Nat.lt_succ_of_lt hHS0;obtain⟨s,hsg⟩:=sadd_get T.holds ⟨key,ver⟩ node nb;have k7':=hT4.c7;have k0':=hT4.c0;have hh4:=hT4.holds;have hset:=hT4.hsets _ (mget_mem hsg);have hls:=run_setsT T.hb (sadd T.holds ⟨key,ver⟩ node nb) key ver (some s) hsg;have hll:=run_lenSet s;simp only[heldT] at k7' k0' hh4;simp only[SetT] at hset;simp only[Option.map_some] at hls;have HSG:=Lib.hid hsg;clear hsg;have hd2:decide ((s.mem.length:Int)<T.w)=false:=(by have:=HLT.out nb;unfold memH at this;rw[HSG.out] at this;simpa using this);have CH:Chg w w4 (T.blocks tb):=((Chg.of_grown HG.out (T.blocks tb)).grown (grown_drew (grown_refl _))).trans hC4 (fun b hb=>Or.inl hb);have HCH:=Lib.hid CH;have HT4:=Lib.hid hT4;have HNB2:Hid (w.heap.size+1<nb):=(show _<_ from Nat.lt_of_lt_of_le (cell_lt y1) hnb);have HNB:Hid (w.heap.size≤nb):=(show _≤_ from Nat.le_trans HG.out.size hnb);clear CH hT4 hC4 hM hnb x5 x6 y0 y1 k7 k8;simp only[heldT] at k6 hp4)
 go_region
 go_wp2
 refine wp_region_quiet_ext (by kernel_rfl) (by kernel_rfl) ?_
 repeat (any_goals (first|go_big_quiet_step (fail)|quiet_step (fail)))
 refine wpQuiet_nil ?_
 intro _ hw'
 obtain⟨x7,hw''⟩:=hw'
 subst hw''
 go_wp2_with (go_at_call 174;refine(done_any (HT4.out.grown (by repeat (first|exact grown_refl _|exact World.grownBy_alloc _ _ _|refine grown_ext' ?_ _|refine grown_alloc ?_ _|refine grown_drew ?_))) ⟨key,ver⟩ ⟨pc,pr⟩ 0).mono ?_;rintro e w5 ⟨rfl,hT5,hC5⟩;have z5:w5.cell? ⟨w.heap.size,5,none⟩=some (.int .i64 ver):=hC5.cell (by simp[go_sem,x0',hHS0,hHS2]) (fun hb=>(heldT_blocks _ hb).elim (fun h=>absurd (HPL.out _ h) (by simp)) (fun e=>by have:=HNB2.out;simp at e;omega));have z6:w5.cell? ⟨w.heap.size,6,none⟩=some (.string key):=hC5.cell (by simp[go_sem,x6',hHS0,hHS2]) (fun hb=>(heldT_blocks _ hb).elim (fun h=>absurd (HPL.out _ h) (by simp)) (fun e=>by have:=HNB2.out;simp at e;omega));have hZ:w.heap.size<w5.heap.size:=cell_lt z5;have m5:=hT5.c5;have hv5:=hT5.values;have htb6:=hT5.tlt;have hvr:=fun W hW=>TRep.run_values (T:=T) W hW key;simp only[doneT,heldT] at m5 hv5;have CH5:Chg w w5 (T.blocks tb):=(HCH.out.grown (by repeat (first|exact grown_refl _|exact World.grownBy_alloc _ _ _|refine grown_ext' ?_ _|refine grown_alloc ?_ _|refine grown_drew ?_))).trans hC5 (fun b hb=>(heldT_blocks b hb).imp id (fun e=>by rw[e];exact HNB.out));have HCH5:=Lib.hid CH5;have HT5:=Lib.hid hT5;clear hT5 hC5 CH5 x0' x6' y0' y1' k6 hp4 k7' k0' hh4 hset hls hll hHS hHS0 hHS1 hHS2;generalize hlv:(lookV T key).ver=lv at *;generalize (lookV T key).dead=ld at *)
 refine wp_region_quiet_ext (by kernel_rfl) (by kernel_rfl) ?_
 repeat (any_goals (first|go_big_quiet_step (fail)|quiet_step (fail)))
 refine wpQuiet_nil ?_
 intro _ hw'
 obtain⟨x8,hw''⟩:=hw'
 subst hw''
 go_wp2
 go_end0
 refine⟨rfl,nb,HNB.out,?_,?_⟩
 ·rw[ackT_t HYES.out,ackRest]
  have e1:mget (heldT T ⟨key,ver⟩ node nb).pending ⟨key,ver⟩=some p:=HNP.out
  have e2:¬((memH (heldT T ⟨key,ver⟩ node nb).holds ⟨key,ver⟩).length:Int)<(heldT T ⟨key,ver⟩ node nb).w:=Int.not_lt.2 (HLT.out nb)
  have e3:¬(lookV (heldT T ⟨key,ver⟩ node nb) key).ver<ver:=by show ¬(lookV T key).ver<ver;rw[hlv];exact Int.not_lt.2 HV.out
  simp only[e1]
  rw[if_neg e2,if_neg e3,HPE.out]
  exact HT5.out.grown (grown_ext w5 x8)
 ·exact HCH5.out.grown (grown_ext w5 x8)
end
end Go.Proofs.YtjfelfjobeeenaaGreat
