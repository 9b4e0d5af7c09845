/- What ack does, whole; what refuse does. Conditions: a table that lies in memory; a node of the table. Do's closures; what a table's sets keep. Conditions: a table that lies in memory. -/
import Derived.Test.YtjfelfjobeeenaaGreatF6
set_option linter.unusedSimpArgs false
set_option linter.unusedVariables false
namespace Go.Proofs.YtjfelfjobeeenaaGreat
open Go.RowKit Go.Sf Go.Shelf
theorem memH_sadd (m:List (ID × NSet)) (i:ID) (n:Int) (nb:Nat):memH (sadd m i n nb) i=sput (memH m i) n:=by
 unfold memH sadd
 cases h:mget m i with
 | none=>
  simp only[Option.isSome_none,Bool.false_eq_true,if_false]
  rw[mget_last h]
  rfl
 | some s=>
  simp only[Option.isSome_some,if_true]
  unfold smod
  induction m with
  | nil=>simp[mget] at h
  | cons p r ih=>
   rw[mget] at h
   simp only[List.map_cons,mget]
   split at h
   ·rename_i e
    cases h
    simp[e]
   ·rename_i e
    have:=ih h
    simpa[e] using this
section
variable {w w1 : World} {tb : Nat} {T : Tab}
theorem ack_any (h:TRep w tb T) (c:Cmd) (hl:T.lives.length≤9223372036854775807) (h0:0≤c.node) (h1:c.node<T.lives.length) :
  Calls Tryz.prog 132 #[.pointer (some ⟨tb,0,none⟩),encCmd c] w fun e w'=>e = .returned (.tuple #[])∧AckPost w w' tb T c:=by
 cases hb:ackB T c
 ·exact ack_no h c hl h0 h1 hb
 ·cases hp:mget T.pending ⟨c.key,c.ver⟩ with
  | none=>exact ack_c h c hl h0 h1 hb hp
  | some p=>
   by_cases hlt:((sput (memH T.holds ⟨c.key,c.ver⟩) c.node).length:Int)<T.w
   ·exact ack_d h c hl h0 h1 hb p hp (fun nb=>by rw[memH_sadd];exact hlt)
   ·by_cases hv:(lookV T c.key).ver<c.ver
    ·exact ack_e h c hl h0 h1 hb p hp (fun nb=>by rw[memH_sadd];exact hlt) hv
    ·exact ack_f h c hl h0 h1 hb p hp (fun nb=>by rw[memH_sadd];exact hlt) hv
def refB (T:Tab) (c:Cmd):Bool:=(mget T.pending ⟨c.key,c.ver⟩).isSome && nowB T c
def refRest (T1:Tab) (c:Cmd):Tab:=
 match mget T1.pending ⟨c.key,c.ver⟩ with
 | none=>T1
 | some p=>if (T1.lives.length:Int)-(memH T1.refuses ⟨c.key,c.ver⟩).length<T1.w then doneT T1 ⟨c.key,c.ver⟩ p 181 else T1
def refuseT (T:Tab) (c:Cmd) (nb:Nat):Tab:=if refB T c=true then refRest (refusedT T ⟨c.key,c.ver⟩ c.node nb) c else T
theorem refuseT_f {T:Tab} {c:Cmd} (h:refB T c=false) (nb:Nat):refuseT T c nb=T:=if_neg (by rw[h];decide)
theorem refuseT_t {T:Tab} {c:Cmd} (h:refB T c=true) (nb:Nat):refuseT T c nb=refRest (refusedT T ⟨c.key,c.ver⟩ c.node nb) c:=if_pos h
def RefPost (w w':World) (tb:Nat) (T:Tab) (c:Cmd):Prop:=∃nb,w.heap.size≤nb∧TRep w' tb (refuseT T c nb)∧Chg w w' (T.blocks tb)
theorem refusedT_blocks {tb:Nat} {T:Tab} {i:ID} {n:Int} {nb:Nat}:∀b∈(refusedT T i n nb).blocks tb,b∈T.blocks tb∨b=nb:=by
 intro b hb
 simp only[Tab.blocks,refusedT,List.mem_cons,List.mem_append] at hb ⊢
 rcases hb with h|h|h|h|h|h|h|h|h
 ·exact Or.inl (by simp[h])
 ·exact Or.inl (by simp[h])
 ·exact Or.inl (by simp[h])
 ·exact Or.inl (by simp[h])
 ·exact Or.inl (by simp[h])
 ·exact Or.inl (by simp[h])
 ·exact Or.inl (by simp[h])
 ·obtain⟨x,hx,rfl⟩:=List.mem_map.1 h
  have h2:=smod_blk x hx
  exact Or.inl (by simp only[h2];simp)
 ·obtain⟨x,hx,rfl⟩:=List.mem_map.1 h
  rcases sadd_blk x hx with h2|h2
  ·exact Or.inl (by simp only[h2];simp)
  ·exact Or.inr h2
set_option maxHeartbeats 8000000 in
set_option maxRecDepth 100000 in
theorem ref_a (h:TRep w tb T) (c:Cmd) (hl:T.lives.length≤9223372036854775807) (h0:0≤c.node) (h1:c.node<T.lives.length) (hnp:mget T.pending ⟨c.key,c.ver⟩=none) :
  Calls Tryz.prog 133 #[.pointer (some ⟨tb,0,none⟩),encCmd c] w fun e w'=>e = .returned (.tuple #[])∧RefPost w w' tb T c:=by
 obtain⟨kind,node,client,inc,req,ver,key,code⟩:=c
 have htb:=h.tlt
 have htb1:tb<w.heap.size+1:=by omega
 have htb2:tb<w.heap.size+1+1:=by omega
 have htb3:tb<w.heap.size+1+1+1:=by omega
 have c6:=h.c6
 have hp:=h.pending
 have hpl:=h.lt
 have HPL:=Lib.hid hpl
 have hno:refB T ⟨kind,node,client,inc,req,ver,key,code⟩=false:=by simp only at hnp;simp[refB,hnp]
 have HNO:=Lib.hid hno
 obtain⟨pc,pr,_,hlk⟩:=run_pendingT T.pb T.pending key ver
 simp only at hnp
 simp only[hnp,Option.isSome_none] at hlk
 clear hnp hno
 have HT:=Lib.hid h
 clear h hpl
 simp only[encCmd]
 go_enter Tryz.func133,Tryz.ntmps133
 go_wp2
 go_region
 go_wp2
 refine bodyPost_ret (results_none rfl _ _ _) rfl ?_
 exact⟨rfl,w.heap.size,Nat.le_refl _,by rw[refuseT_f HNO.out];exact HT.out.grown (by repeat (first|exact grown_refl _|exact World.grownBy_alloc _ _ _|refine grown_ext' ?_ _|refine grown_alloc ?_ _|refine grown_drew ?_)),Chg.of_grown (by repeat (first|exact grown_refl _|exact World.grownBy_alloc _ _ _|refine grown_ext' ?_ _|refine grown_alloc ?_ _|refine grown_drew ?_)) _⟩
set_option maxHeartbeats 8000000 in
set_option maxRecDepth 100000 in
theorem ref_b (h:TRep w tb T) (c:Cmd) (hl:T.lives.length≤9223372036854775807) (h0:0≤c.node) (h1:c.node<T.lives.length) (p:Pend) (hnp:mget T.pending ⟨c.key,c.ver⟩=some p) (hnow:nowB T c=false) :
  Calls Tryz.prog 133 #[.pointer (some ⟨tb,0,none⟩),encCmd c] w fun e w'=>e = .returned (.tuple #[])∧RefPost w w' tb T c:=by
 obtain⟨kind,node,client,inc,req,ver,key,code⟩:=c
 have htb:=h.tlt
 have htb1:tb<w.heap.size+1:=by omega
 have htb2:tb<w.heap.size+1+1:=by omega
 have htb3:tb<w.heap.size+1+1+1:=by omega
 have c6:=h.c6
 have hp:=h.pending
 have hpl:=h.lt
 have HPL:=Lib.hid hpl
 obtain⟨pc,pr,hpe,hlk⟩:=run_pendingT T.pb T.pending key ver
 simp only at hnp
 have HPE:=Lib.hid (hpe p hnp)
 simp only[hnp,Option.isSome_some] at hlk
 have HNP:=Lib.hid hnp
 have HNOW:Hid (∀W,w.grownBy W none→Calls Tryz.prog 172 #[.pointer (some ⟨tb,0,none⟩),.agg #[.int .u8 kind,.int .i64 node,.int .i64 client,.int .i64 inc,.int .i64 req,.int .i64 ver,.string key,.int .i64 code]] W fun e w'=>e = .returned (.bool false)∧W.grownBy w' none):=
  fun W hg=>hnow ▸ now_any (h.grown hg) ⟨kind,node,client,inc,req,ver,key,code⟩ hl h0 h1
 have hrb:refB T ⟨kind,node,client,inc,req,ver,key,code⟩=false:=by simp[refB,hnp,hnow]
 have HRB:=Lib.hid hrb
 clear hnp hpe hnow hrb
 have HT:=Lib.hid h
 clear h hpl
 simp only[encCmd]
 go_enter Tryz.func133,Tryz.ntmps133
 go_wp2
 go_region
 go_wp2_with (go_at_call 172;refine(HNOW.out _ (by repeat (first|exact grown_refl _|exact World.grownBy_alloc _ _ _|refine grown_ext' ?_ _|refine grown_alloc ?_ _|refine grown_drew ?_))).mono ?_;rintro e w2 ⟨rfl,hg2⟩;skip)
 refine bodyPost_ret (results_none rfl _ _ _) rfl ?_
 have hg:w.grownBy w2 none:=grown_trans (by repeat (first|exact grown_refl _|exact World.grownBy_alloc _ _ _|refine grown_ext' ?_ _|refine grown_alloc ?_ _|refine grown_drew ?_)) hg2
 exact⟨rfl,w.heap.size,Nat.le_refl _,by rw[refuseT_f HRB.out];exact HT.out.grown hg,Chg.of_grown hg _⟩
set_option maxHeartbeats 8000000 in
set_option maxRecDepth 100000 in
theorem ref_c (h:TRep w tb T) (c:Cmd) (hl:T.lives.length≤9223372036854775807) (h0:0≤c.node) (h1:c.node<T.lives.length) (p:Pend) (hnp:mget T.pending ⟨c.key,c.ver⟩=some p) (hnow:nowB T c=true) (hsl:∀nb s,mget (sadd T.refuses ⟨c.key,c.ver⟩ c.node nb) ⟨c.key,c.ver⟩=some s→s.mem.length≤9223372036854775807) (hlt:∀nb,¬(T.lives.length:Int)-(memH (sadd T.refuses ⟨c.key,c.ver⟩ c.node nb) ⟨c.key,c.ver⟩).length<T.w) :
  Calls Tryz.prog 133 #[.pointer (some ⟨tb,0,none⟩),encCmd c] w fun e w'=>e = .returned (.tuple #[])∧RefPost w w' tb T c:=by
 obtain⟨kind,node,client,inc,req,ver,key,code⟩:=c
 have htb:=h.tlt
 have htb1:tb<w.heap.size+1:=by omega
 have htb2:tb<w.heap.size+1+1:=by omega
 have htb3:tb<w.heap.size+1+1+1:=by omega
 have c6:=h.c6
 have hp:=h.pending
 have hpl:=h.lt
 have HPL:=Lib.hid hpl
 obtain⟨pc,pr,hpe,hlk⟩:=run_pendingT T.pb T.pending key ver
 simp only at hnp
 have HPE:=Lib.hid (hpe p hnp)
 simp only[hnp,Option.isSome_some] at hlk
 have HNP:=Lib.hid hnp
 have HNOW:Hid (∀W,w.grownBy W none→Calls Tryz.prog 172 #[.pointer (some ⟨tb,0,none⟩),.agg #[.int .u8 kind,.int .i64 node,.int .i64 client,.int .i64 inc,.int .i64 req,.int .i64 ver,.string key,.int .i64 code]] W fun e w'=>e = .returned (.bool true)∧W.grownBy w' none):=
  fun W hg=>hnow ▸ now_any (h.grown hg) ⟨kind,node,client,inc,req,ver,key,code⟩ hl h0 h1
 have hrb:refB T ⟨kind,node,client,inc,req,ver,key,code⟩=true:=by simp[refB,hnp,hnow]
 have HRB:=Lib.hid hrb
 clear hnp hpe hnow hrb
 simp only at hlt hsl
 have HLT:=Lib.hid hlt
 have HSL:=Lib.hid hsl
 clear hlt hsl
 have HT:=Lib.hid h
 clear h hpl
 simp only[encCmd]
 go_enter Tryz.func133,Tryz.ntmps133
 go_wp2
 go_region
 go_wp2_with (go_at_call 172;refine(HNOW.out _ (by repeat (first|exact grown_refl _|exact World.grownBy_alloc _ _ _|refine grown_ext' ?_ _|refine grown_alloc ?_ _|refine grown_drew ?_))).mono ?_;rintro e w2 ⟨rfl,hg2⟩;have x1:w2.cell? ⟨w.heap.size,1,none⟩=some (.int .i64 node):=hg2.cell (by simp[go_sem]) (by simp);have y0:w2.cell? ⟨w.heap.size+1,0,none⟩=some (.string key):=hg2.cell (by simp[go_sem]) (by simp);have y1:w2.cell? ⟨w.heap.size+1,1,none⟩=some (.int .i64 ver):=hg2.cell (by simp[go_sem]) (by simp);have z0:w2.cell? ⟨w.heap.size+1+1,0,none⟩=some (.int .i64 pc):=hg2.cell (by simp[go_sem]) (by simp);have z1:w2.cell? ⟨w.heap.size+1+1,1,none⟩=some (.int .i64 pr):=hg2.cell (by simp[go_sem]) (by simp);have hg:w.grownBy w2 none:=grown_trans (by repeat (first|exact grown_refl _|exact World.grownBy_alloc _ _ _|refine grown_ext' ?_ _|refine grown_alloc ?_ _|refine grown_drew ?_)) hg2;have T2:=HT.out.grown hg;have k7:=T2.c7;have k8:=T2.c8;have htb4:=T2.tlt;have HG:=Lib.hid hg;have HT2:=Lib.hid T2;clear T2 hg hg2 c6 hp)
 go_still_tail 11,(by kernel_rfl)
 go_wp2_with (go_at_call 173;refine(moves_any (HT2.out.grown (grown_drew (grown_refl _))).two.swap ⟨key,ver⟩ node).mono ?_;rintro e w4 ⟨rfl,hM⟩;obtain⟨nb,hnb,hT4,hC4⟩:=(HT2.out.grown (grown_drew (grown_refl _))).refused hM;have y0':w4.cell? ⟨w.heap.size+1,0,none⟩=some (.string key):=hC4.cell y0 (fun hb=>absurd (HPL.out _ hb) (by simp <;> omega));have y1':w4.cell? ⟨w.heap.size+1,1,none⟩=some (.int .i64 ver):=hC4.cell y1 (fun hb=>absurd (HPL.out _ hb) (by simp <;> omega));have z0':w4.cell? ⟨w.heap.size+1+1,0,none⟩=some (.int .i64 pc):=hC4.cell z0 (fun hb=>absurd (HPL.out _ hb) (by simp <;> omega));have z1':w4.cell? ⟨w.heap.size+1+1,1,none⟩=some (.int .i64 pr):=hC4.cell z1 (fun hb=>absurd (HPL.out _ hb) (by simp <;> omega));have k8':=hT4.c8;have k3':=hT4.c3;have k0':=hT4.c0;have hh4:=hT4.refuses;have htb5:=hT4.tlt;have hHS:w.heap.size+1+1<w4.heap.size:=cell_lt z0';have hHS0:w.heap.size+1<w4.heap.size:=Nat.lt_of_succ_lt hHS;obtain⟨s,hsg⟩:=sadd_get T.refuses ⟨key,ver⟩ node nb;have hset:=hT4.rsets _ (mget_mem hsg);have hls:=run_setsT T.rb (sadd T.refuses ⟨key,ver⟩ node nb) key ver (some s) hsg;have hll:=run_lenSet s;simp only[refusedT] at k8' k0' k3' hh4;simp only[SetT] at hset;simp only[Option.map_some] at hls;have HSG:=Lib.hid hsg;clear hsg;have hmem:memH (sadd T.refuses ⟨key,ver⟩ node nb) ⟨key,ver⟩=s.mem:=(by unfold memH;rw[HSG.out];rfl);have hd2:decide ((T.lives.length:Int)-(s.mem.length:Int)<T.w)=false:=(by have:=HLT.out nb;rw[hmem] at this;simpa using this);have HMM:=Lib.hid hmem;clear hmem;have hsl:s.mem.length≤9223372036854775807:=(HSL.out nb s HSG.out);have HNB2:Hid (w.heap.size+1+1<nb):=(show _<_ from Nat.lt_of_lt_of_le (cell_lt z0) hnb);have HNB:Hid (w.heap.size≤nb):=(show _≤_ from Nat.le_trans HG.out.size hnb);have CH:Chg w w4 (T.blocks tb):=((Chg.of_grown HG.out (T.blocks tb)).grown (grown_drew (grown_refl _))).trans hC4 (fun b hb=>Or.inl hb);have HCH:=Lib.hid CH;have HT4:=Lib.hid hT4;clear CH hT4 hC4 hM hnb x1 y0 y1 z0 z1 k7 k8)
 refine wp_region_quiet_ext (by kernel_rfl) (by kernel_rfl) ?_
 repeat (any_goals (first|go_big_quiet_step (fail)|quiet_step (fail)))
 refine wpQuiet_nil ?_
 intro _ hw'
 obtain⟨x7,hw''⟩:=hw'
 subst hw''
 go_wp2
 go_end0
 refine⟨rfl,nb,HNB.out,?_,?_⟩
 ·rw[refuseT_t HRB.out,refRest]
  have e1:mget (refusedT T ⟨key,ver⟩ node nb).pending ⟨key,ver⟩=some p:=HNP.out
  have e2:¬((refusedT T ⟨key,ver⟩ node nb).lives.length:Int)-(memH (refusedT T ⟨key,ver⟩ node nb).refuses ⟨key,ver⟩).length<(refusedT T ⟨key,ver⟩ node nb).w:=Int.not_lt.2 (HLT.out nb)
  simp only[e1]
  rw[if_neg e2]
  exact HT4.out.grown (by repeat (first|exact grown_refl _|exact World.grownBy_alloc _ _ _|refine grown_ext' ?_ _|refine grown_alloc ?_ _|refine grown_drew ?_))
 ·exact HCH.out.grown (by repeat (first|exact grown_refl _|exact World.grownBy_alloc _ _ _|refine grown_ext' ?_ _|refine grown_alloc ?_ _|refine grown_drew ?_))
set_option maxHeartbeats 8000000 in
set_option maxRecDepth 100000 in
theorem ref_d (h:TRep w tb T) (c:Cmd) (hl:T.lives.length≤9223372036854775807) (h0:0≤c.node) (h1:c.node<T.lives.length) (p:Pend) (hnp:mget T.pending ⟨c.key,c.ver⟩=some p) (hnow:nowB T c=true) (hsl:∀nb s,mget (sadd T.refuses ⟨c.key,c.ver⟩ c.node nb) ⟨c.key,c.ver⟩=some s→s.mem.length≤9223372036854775807) (hlt:∀nb,(T.lives.length:Int)-(memH (sadd T.refuses ⟨c.key,c.ver⟩ c.node nb) ⟨c.key,c.ver⟩).length<T.w) :
  Calls Tryz.prog 133 #[.pointer (some ⟨tb,0,none⟩),encCmd c] w fun e w'=>e = .returned (.tuple #[])∧RefPost w w' tb T c:=by
 obtain⟨kind,node,client,inc,req,ver,key,code⟩:=c
 have htb:=h.tlt
 have htb1:tb<w.heap.size+1:=by omega
 have htb2:tb<w.heap.size+1+1:=by omega
 have htb3:tb<w.heap.size+1+1+1:=by omega
 have c6:=h.c6
 have hp:=h.pending
 have hpl:=h.lt
 have HPL:=Lib.hid hpl
 obtain⟨pc,pr,hpe,hlk⟩:=run_pendingT T.pb T.pending key ver
 simp only at hnp
 have HPE:=Lib.hid (hpe p hnp)
 simp only[hnp,Option.isSome_some] at hlk
 have HNP:=Lib.hid hnp
 have HNOW:Hid (∀W,w.grownBy W none→Calls Tryz.prog 172 #[.pointer (some ⟨tb,0,none⟩),.agg #[.int .u8 kind,.int .i64 node,.int .i64 client,.int .i64 inc,.int .i64 req,.int .i64 ver,.string key,.int .i64 code]] W fun e w'=>e = .returned (.bool true)∧W.grownBy w' none):=
  fun W hg=>hnow ▸ now_any (h.grown hg) ⟨kind,node,client,inc,req,ver,key,code⟩ hl h0 h1
 have hrb:refB T ⟨kind,node,client,inc,req,ver,key,code⟩=true:=by simp[refB,hnp,hnow]
 have HRB:=Lib.hid hrb
 clear hnp hpe hnow hrb
 simp only at hlt hsl
 have HLT:=Lib.hid hlt
 have HSL:=Lib.hid hsl
 clear hlt hsl
 have HT:=Lib.hid h
 clear h hpl
 simp only[encCmd]
 go_enter Tryz.func133,Tryz.ntmps133
 go_wp2
 go_region
 go_wp2_with (go_at_call 172;refine(HNOW.out _ (by repeat (first|exact grown_refl _|exact World.grownBy_alloc _ _ _|refine grown_ext' ?_ _|refine grown_alloc ?_ _|refine grown_drew ?_))).mono ?_;rintro e w2 ⟨rfl,hg2⟩;have x1:w2.cell? ⟨w.heap.size,1,none⟩=some (.int .i64 node):=hg2.cell (by simp[go_sem]) (by simp);have y0:w2.cell? ⟨w.heap.size+1,0,none⟩=some (.string key):=hg2.cell (by simp[go_sem]) (by simp);have y1:w2.cell? ⟨w.heap.size+1,1,none⟩=some (.int .i64 ver):=hg2.cell (by simp[go_sem]) (by simp);have z0:w2.cell? ⟨w.heap.size+1+1,0,none⟩=some (.int .i64 pc):=hg2.cell (by simp[go_sem]) (by simp);have z1:w2.cell? ⟨w.heap.size+1+1,1,none⟩=some (.int .i64 pr):=hg2.cell (by simp[go_sem]) (by simp);have hg:w.grownBy w2 none:=grown_trans (by repeat (first|exact grown_refl _|exact World.grownBy_alloc _ _ _|refine grown_ext' ?_ _|refine grown_alloc ?_ _|refine grown_drew ?_)) hg2;have T2:=HT.out.grown hg;have k7:=T2.c7;have k8:=T2.c8;have htb4:=T2.tlt;have HG:=Lib.hid hg;have HT2:=Lib.hid T2;clear T2 hg hg2 c6 hp)
 go_still_tail 11,(by kernel_rfl)
 go_wp2_with (go_at_call 173;refine(moves_any (HT2.out.grown (grown_drew (grown_refl _))).two.swap ⟨key,ver⟩ node).mono ?_;rintro e w4 ⟨rfl,hM⟩;obtain⟨nb,hnb,hT4,hC4⟩:=(HT2.out.grown (grown_drew (grown_refl _))).refused hM;have y0':w4.cell? ⟨w.heap.size+1,0,none⟩=some (.string key):=hC4.cell y0 (fun hb=>absurd (HPL.out _ hb) (by simp <;> omega));have y1':w4.cell? ⟨w.heap.size+1,1,none⟩=some (.int .i64 ver):=hC4.cell y1 (fun hb=>absurd (HPL.out _ hb) (by simp <;> omega));have z0':w4.cell? ⟨w.heap.size+1+1,0,none⟩=some (.int .i64 pc):=hC4.cell z0 (fun hb=>absurd (HPL.out _ hb) (by simp <;> omega));have z1':w4.cell? ⟨w.heap.size+1+1,1,none⟩=some (.int .i64 pr):=hC4.cell z1 (fun hb=>absurd (HPL.out _ hb) (by simp <;> omega));have k8':=hT4.c8;have k3':=hT4.c3;have k0':=hT4.c0;have hh4:=hT4.refuses;have htb5:=hT4.tlt;have hHS:w.heap.size+1+1<w4.heap.size:=cell_lt z0';have hHS0:w.heap.size+1<w4.heap.size:=Nat.lt_of_succ_lt hHS;obtain⟨s,hsg⟩:=sadd_get T.refuses ⟨key,ver⟩ node nb;have hset:=hT4.rsets _ (mget_mem hsg);have hls:=run_setsT T.rb (sadd T.refuses ⟨key,ver⟩ node nb) key ver (some s) hsg;have hll:=run_lenSet s;simp only[refusedT] at k8' k0' k3' hh4;simp only[SetT] at hset;simp only[Option.map_some] at hls;have HSG:=Lib.hid hsg;clear hsg;have hmem:memH (sadd T.refuses ⟨key,ver⟩ node nb) ⟨key,ver⟩=s.mem:=(by unfold memH;rw[HSG.out];rfl);have hd2:decide ((T.lives.length:Int)-(s.mem.length:Int)<T.w)=true:=(by have:=HLT.out nb;rw[hmem] at this;simpa using this);have HMM:=Lib.hid hmem;clear hmem;have hsl:s.mem.length≤9223372036854775807:=(HSL.out nb s HSG.out);have HNB2:Hid (w.heap.size+1+1<nb):=(show _<_ from Nat.lt_of_lt_of_le (cell_lt z0) hnb);have HNB:Hid (w.heap.size≤nb):=(show _≤_ from Nat.le_trans HG.out.size hnb);have CH:Chg w w4 (T.blocks tb):=((Chg.of_grown HG.out (T.blocks tb)).grown (grown_drew (grown_refl _))).trans hC4 (fun b hb=>Or.inl hb);have HCH:=Lib.hid CH;have HT4:=Lib.hid hT4;clear CH hT4 hC4 hM hnb x1 y0 y1 z0 z1 k7 k8)
 refine wp_region_quiet_ext (by kernel_rfl) (by kernel_rfl) ?_
 repeat (any_goals (first|go_big_quiet_step (fail)|quiet_step (fail)))
 refine wpQuiet_nil ?_
 intro _ hw'
 obtain⟨x7,hw''⟩:=hw'
 subst hw''
 go_wp2_with (go_at_call 174;refine(done_any (HT4.out.grown (by repeat (first|exact grown_refl _|exact World.grownBy_alloc _ _ _|refine grown_ext' ?_ _|refine grown_alloc ?_ _|refine grown_drew ?_))) ⟨key,ver⟩ ⟨pc,pr⟩ 181).mono ?_;rintro e w5 ⟨rfl,hT5,hC5⟩)
 go_end0
 refine⟨rfl,nb,HNB.out,?_,?_⟩
 ·rw[refuseT_t HRB.out,refRest]
  have e1:mget (refusedT T ⟨key,ver⟩ node nb).pending ⟨key,ver⟩=some p:=HNP.out
  have e2:((refusedT T ⟨key,ver⟩ node nb).lives.length:Int)-(memH (refusedT T ⟨key,ver⟩ node nb).refuses ⟨key,ver⟩).length<(refusedT T ⟨key,ver⟩ node nb).w:=HLT.out nb
  simp only[e1]
  rw[if_pos e2,HPE.out]
  exact hT5
 ·exact(HCH.out.grown (by repeat (first|exact grown_refl _|exact World.grownBy_alloc _ _ _|refine grown_ext' ?_ _|refine grown_alloc ?_ _|refine grown_drew ?_))).trans hC5 (fun b hb=>(refusedT_blocks b hb).imp id (fun e=>by rw[e];exact HNB.out))
theorem ref_any (h:TRep w tb T) (c:Cmd) (hl:T.lives.length≤9223372036854775807) (h0:0≤c.node) (h1:c.node<T.lives.length) (hsl:(memH T.refuses ⟨c.key,c.ver⟩).length<9223372036854775807) :
  Calls Tryz.prog 133 #[.pointer (some ⟨tb,0,none⟩),encCmd c] w fun e w'=>e = .returned (.tuple #[])∧RefPost w w' tb T c:=by
 cases hp:mget T.pending ⟨c.key,c.ver⟩ with
 | none=>exact ref_a h c hl h0 h1 hp
 | some p=>
  cases hn:nowB T c
  ·exact ref_b h c hl h0 h1 p hp hn
  ·have hs:∀nb s,mget (sadd T.refuses ⟨c.key,c.ver⟩ c.node nb) ⟨c.key,c.ver⟩=some s→s.mem.length≤9223372036854775807:=fun nb s hs=>by
    have h2:=memH_sadd T.refuses ⟨c.key,c.ver⟩ c.node nb
    unfold memH at h2 hsl
    rw[hs] at h2
    have h3:s.mem=sput (((mget T.refuses ⟨c.key,c.ver⟩).map (·.mem)).getD []) c.node:=h2
    rw[h3]
    unfold sput
    split
    ·omega
    ·simp only[List.length_append,List.length_cons,List.length_nil];omega
   by_cases hlt:(T.lives.length:Int)-(sput (memH T.refuses ⟨c.key,c.ver⟩) c.node).length<T.w
   ·exact ref_d h c hl h0 h1 p hp hn hs (fun nb=>by rw[memH_sadd];exact hlt)
   ·exact ref_c h c hl h0 h1 p hp hn hs (fun nb=>by rw[memH_sadd];exact hlt)
end
section
variable {w w1 : World} {tb : Nat} {T : Tab}
def struckH (T:Tab) (i:ID) (s:NSet):Bool:=decide (s.mem.length=0) || !wantedB T i
def struckR (T:Tab) (i:ID) (s:NSet):Bool:=decide (s.mem.length=0) || !(mget T.pending i).isSome
set_option maxHeartbeats 1000000 in
theorem do1_any (h:VRep w tb T) (i:ID) (s:NSet) (hs:SetT w s) (bx:Nat) (hb:w.cell? ⟨bx,0,none⟩=some (.pointer (some ⟨tb,0,none⟩))) :
  Calls Tryz.prog 68 (#[encID i,encSet s] ++ #[.pointer (some ⟨bx,0,none⟩)]) w fun e w'=>e = .returned (.bool (struckH T i s))∧w.grownBy w' none:=by
 have hblt:=cell_lt hb
 have hll:=run_lenSet s
 simp only[SetT] at hs
 have HW:Hid (∀W,w.grownBy W none→Calls Tryz.prog 36 #[.pointer (some ⟨tb,0,none⟩),encID i] W fun e w'=>e = .returned (.bool (wantedB T i))∧W.grownBy w' none):=fun W hg=>wanted_core (h.grown hg) i
 clear h
 have HS:Hid (struckH T i s=(decide (s.mem.length=0) || !wantedB T i)):=(show _=_ from rfl)
 obtain⟨k,v⟩:=i
 simp only[encID,encSet] at *
 by_cases h0:s.mem.length=0
 ·have d0:((s.mem.length:Int) == 0)=true:=by simpa using h0
  go_enter Tryz.func68,Tryz.ntmps68
  go_wp2
  go_ret
  exact⟨by rw[HS.out];simp[h0],(by repeat (first|exact grown_refl _|exact World.grownBy_alloc _ _ _|refine grown_ext' ?_ _|refine grown_alloc ?_ _|refine grown_drew ?_))⟩
 ·have d0:((s.mem.length:Int) == 0)=false:=beq_eq_false_iff_ne.2 (by omega)
  go_enter Tryz.func68,Tryz.ntmps68
  go_wp2_with (go_at_call 36;refine(HW.out _ (by repeat (first|exact grown_refl _|exact World.grownBy_alloc _ _ _|refine grown_ext' ?_ _|refine grown_alloc ?_ _|refine grown_drew ?_))).mono ?_;rintro e w2 ⟨rfl,hg2⟩)
  go_ret
  exact⟨by rw[HS.out];simp[h0],grown_trans (by repeat (first|exact grown_refl _|exact World.grownBy_alloc _ _ _|refine grown_ext' ?_ _|refine grown_alloc ?_ _|refine grown_drew ?_)) hg2⟩
set_option maxHeartbeats 1000000 in
theorem do2_any (h:VRep w tb T) (i:ID) (s:NSet) (hs:SetT w s) (bx:Nat) (hb:w.cell? ⟨bx,0,none⟩=some (.pointer (some ⟨tb,0,none⟩))) :
  Calls Tryz.prog 69 (#[encID i,encSet s] ++ #[.pointer (some ⟨bx,0,none⟩)]) w fun e w'=>e = .returned (.bool (struckR T i s))∧w.grownBy w' none:=by
 have hblt:=cell_lt hb
 have hblt1:bx<w.heap.size+1:=Nat.lt_succ_of_lt hblt
 have htb:=h.tlt
 have htb1:tb<w.heap.size+1:=Nat.lt_succ_of_lt htb
 have hll:=run_lenSet s
 have c6:=h.c6
 have hp:=h.pending
 simp only[SetT] at hs
 clear h
 obtain⟨k,v⟩:=i
 have HS:Hid (struckR T ⟨k,v⟩ s=(decide (s.mem.length=0) || !(mget T.pending ⟨k,v⟩).isSome)):=(show _=_ from rfl)
 obtain⟨pc,pr,_,hlk⟩:=run_pendingT T.pb T.pending k v
 generalize (mget T.pending ⟨k,v⟩).isSome=B at *
 simp only[encID,encSet] at *
 by_cases h0:s.mem.length=0
 ·have d0:((s.mem.length:Int) == 0)=true:=by simpa using h0
  go_enter Tryz.func69,Tryz.ntmps69
  go_wp2
  go_region
  go_wp2
  go_ret
  exact⟨by rw[HS.out];simp[h0],(by repeat (first|exact grown_refl _|exact World.grownBy_alloc _ _ _|refine grown_ext' ?_ _|refine grown_alloc ?_ _|refine grown_drew ?_))⟩
 ·have d0:((s.mem.length:Int) == 0)=false:=beq_eq_false_iff_ne.2 (by omega)
  go_enter Tryz.func69,Tryz.ntmps69
  go_wp2
  go_region
  go_wp2
  go_ret
  exact⟨by rw[HS.out];simp[h0],(by repeat (first|exact grown_refl _|exact World.grownBy_alloc _ _ _|refine grown_ext' ?_ _|refine grown_alloc ?_ _|refine grown_drew ?_))⟩
def does (k:Int):Nat:=if k=1 then 129 else if k=2 then 130 else if k=3 then 131 else if k=4 then 132 else if k=5 then 133 else if k=6 then 134 else 135
theorem idx_1 (w:World):(Instr.index 212 (Value.agg #[.nilFunc,.func (.func 129) #[] #[],.func (.func 130) #[] #[],.func (.func 131) #[] #[],.func (.func 132) #[] #[],.func (.func 133) #[] #[],.func (.func 134) #[] #[],.func (.func 135) #[] #[]]) (.int .u8 1)).run Tryz.prog w = .ok (.func (.func 129) #[] #[]) w:=by kernel_rfl
theorem idx_2 (w:World):(Instr.index 212 (Value.agg #[.nilFunc,.func (.func 129) #[] #[],.func (.func 130) #[] #[],.func (.func 131) #[] #[],.func (.func 132) #[] #[],.func (.func 133) #[] #[],.func (.func 134) #[] #[],.func (.func 135) #[] #[]]) (.int .u8 2)).run Tryz.prog w = .ok (.func (.func 130) #[] #[]) w:=by kernel_rfl
theorem idx_3 (w:World):(Instr.index 212 (Value.agg #[.nilFunc,.func (.func 129) #[] #[],.func (.func 130) #[] #[],.func (.func 131) #[] #[],.func (.func 132) #[] #[],.func (.func 133) #[] #[],.func (.func 134) #[] #[],.func (.func 135) #[] #[]]) (.int .u8 3)).run Tryz.prog w = .ok (.func (.func 131) #[] #[]) w:=by kernel_rfl
theorem idx_4 (w:World):(Instr.index 212 (Value.agg #[.nilFunc,.func (.func 129) #[] #[],.func (.func 130) #[] #[],.func (.func 131) #[] #[],.func (.func 132) #[] #[],.func (.func 133) #[] #[],.func (.func 134) #[] #[],.func (.func 135) #[] #[]]) (.int .u8 4)).run Tryz.prog w = .ok (.func (.func 132) #[] #[]) w:=by kernel_rfl
theorem idx_5 (w:World):(Instr.index 212 (Value.agg #[.nilFunc,.func (.func 129) #[] #[],.func (.func 130) #[] #[],.func (.func 131) #[] #[],.func (.func 132) #[] #[],.func (.func 133) #[] #[],.func (.func 134) #[] #[],.func (.func 135) #[] #[]]) (.int .u8 5)).run Tryz.prog w = .ok (.func (.func 133) #[] #[]) w:=by kernel_rfl
theorem idx_6 (w:World):(Instr.index 212 (Value.agg #[.nilFunc,.func (.func 129) #[] #[],.func (.func 130) #[] #[],.func (.func 131) #[] #[],.func (.func 132) #[] #[],.func (.func 133) #[] #[],.func (.func 134) #[] #[],.func (.func 135) #[] #[]]) (.int .u8 6)).run Tryz.prog w = .ok (.func (.func 134) #[] #[]) w:=by kernel_rfl
theorem idx_7 (w:World):(Instr.index 212 (Value.agg #[.nilFunc,.func (.func 129) #[] #[],.func (.func 130) #[] #[],.func (.func 131) #[] #[],.func (.func 132) #[] #[],.func (.func 133) #[] #[],.func (.func 134) #[] #[],.func (.func 135) #[] #[]]) (.int .u8 7)).run Tryz.prog w = .ok (.func (.func 135) #[] #[]) w:=by kernel_rfl
set_option maxHeartbeats 1000000 in
set_option maxRecDepth 100000 in
theorem does_any (k:Int) (h1:1≤k) (h7:k≤7) (w:World):Calls Tryz.prog 66 #[.int .u8 k] w fun e w'=>e = .returned (.func (.func (does k)) #[] #[])∧w'=w:=by
 have h:k=1∨k=2∨k=3∨k=4∨k=5∨k=6∨k=7:=by omega
 rcases h with rfl|rfl|rfl|rfl|rfl|rfl|rfl
 ·have hidx:=idx_1
  go_enter Tryz.func66,Tryz.ntmps66
  go_wp2
  go_ret
  exact⟨rfl,rfl⟩
 ·have hidx:=idx_2
  go_enter Tryz.func66,Tryz.ntmps66
  go_wp2
  go_ret
  exact⟨rfl,rfl⟩
 ·have hidx:=idx_3
  go_enter Tryz.func66,Tryz.ntmps66
  go_wp2
  go_ret
  exact⟨rfl,rfl⟩
 ·have hidx:=idx_4
  go_enter Tryz.func66,Tryz.ntmps66
  go_wp2
  go_ret
  exact⟨rfl,rfl⟩
 ·have hidx:=idx_5
  go_enter Tryz.func66,Tryz.ntmps66
  go_wp2
  go_ret
  exact⟨rfl,rfl⟩
 ·have hidx:=idx_6
  go_enter Tryz.func66,Tryz.ntmps66
  go_wp2
  go_ret
  exact⟨rfl,rfl⟩
 ·have hidx:=idx_7
  go_enter Tryz.func66,Tryz.ntmps66
  go_wp2
  go_ret
  exact⟨rfl,rfl⟩
theorem TRep.filterH (h:TRep w tb T) (f:ID × NSet→Bool) (hm:MapT w1 T.hb encID encSet (T.holds.filter f)) (hg:w.grownBy w1 (some T.hb)):TRep w1 tb { T with holds:=T.holds.filter f }:=by
 have nd:=h.nodup
 have nd0:=nd
 simp only[Tab.blocks,List.nodup_cons,List.mem_cons,List.mem_append,List.mem_map,not_or,not_exists,not_and] at nd
 exact {
  cells:=(hg.block _ h.tlt (by simp;omega)).trans h.cells
  lives:=(hg.block _ h.llt (by simp;omega)).trans h.lives
  calls:=h.calls.kept hg (by simp;omega)
  values:=h.values.kept hg (by simp;omega)
  pending:=h.pending.kept hg (by simp;omega)
  holds:=hm
  refuses:=h.refuses.kept hg (by simp;omega)
  hsets:=fun x hx=>MapT.kept (h.hsets x (List.mem_filter.1 hx).1) hg (by have:=nd.2.2.2.2.2.1.2.1 x (List.mem_filter.1 hx).1;simpa using this)
  rsets:=fun x hx=>MapT.kept (h.rsets x hx) hg (by have:=nd.2.2.2.2.2.1.2.2 x hx;simpa using this)
  nodup:=by
   refine List.Nodup.sublist ?_ nd0
   unfold Tab.blocks
   simp only[List.cons_sublist_cons]
   exact List.Sublist.append (List.Sublist.map _ List.filter_sublist) (List.Sublist.refl _) }
theorem TRep.filterR (h:TRep w tb T) (f:ID × NSet→Bool) (hm:MapT w1 T.rb encID encSet (T.refuses.filter f)) (hg:w.grownBy w1 (some T.rb)):TRep w1 tb { T with refuses:=T.refuses.filter f }:=by
 have nd:=h.nodup
 have nd0:=nd
 simp only[Tab.blocks,List.nodup_cons,List.mem_cons,List.mem_append,List.mem_map,not_or,not_exists,not_and] at nd
 exact {
  cells:=(hg.block _ h.tlt (by simp;omega)).trans h.cells
  lives:=(hg.block _ h.llt (by simp;omega)).trans h.lives
  calls:=h.calls.kept hg (by simp;omega)
  values:=h.values.kept hg (by simp;omega)
  pending:=h.pending.kept hg (by simp;omega)
  holds:=h.holds.kept hg (by simp;omega)
  refuses:=hm
  hsets:=fun x hx=>MapT.kept (h.hsets x hx) hg (by have:=nd.2.2.2.2.2.2.1.1 x hx;simpa using this)
  rsets:=fun x hx=>MapT.kept (h.rsets x (List.mem_filter.1 hx).1) hg (by have:=nd.2.2.2.2.2.2.1.2 x (List.mem_filter.1 hx).1;simpa using this)
  nodup:=by
   refine List.Nodup.sublist ?_ nd0
   unfold Tab.blocks
   simp only[List.cons_sublist_cons]
   exact List.Sublist.append (List.Sublist.refl _) (List.Sublist.map _ List.filter_sublist) }
theorem TRep.vh (h:TRep w tb T) (hg:w.grownBy w1 (some T.hb)):VRep w1 tb T:=by
 have nd:=h.nodup
 simp only[Tab.blocks,List.nodup_cons,List.mem_cons,List.mem_append,List.mem_map,not_or,not_exists,not_and] at nd
 exact⟨hg.cell h.c5 (by simp;omega),hg.cell h.c6 (by simp;omega),h.values.kept hg (by simp;omega),h.pending.kept hg (by simp;omega)⟩
theorem TRep.vr (h:TRep w tb T) (hg:w.grownBy w1 (some T.rb)):VRep w1 tb T:=by
 have nd:=h.nodup
 simp only[Tab.blocks,List.nodup_cons,List.mem_cons,List.mem_append,List.mem_map,not_or,not_exists,not_and] at nd
 exact⟨hg.cell h.c5 (by simp;omega),hg.cell h.c6 (by simp;omega),h.values.kept hg (by simp;omega),h.pending.kept hg (by simp;omega)⟩
theorem TRep.seth (h:TRep w tb T) (hg:w.grownBy w1 (some T.hb)) {x:ID × NSet} (hx:x∈T.holds):SetT w1 x.2:=by
 have nd:=h.nodup
 simp only[Tab.blocks,List.nodup_cons,List.mem_cons,List.mem_append,List.mem_map,not_or,not_exists,not_and] at nd
 exact MapT.kept (h.hsets x hx) hg (by have:=nd.2.2.2.2.2.1.2.1 x hx;simpa using this)
theorem TRep.setr (h:TRep w tb T) (hg:w.grownBy w1 (some T.rb)) {x:ID × NSet} (hx:x∈T.refuses):SetT w1 x.2:=by
 have nd:=h.nodup
 simp only[Tab.blocks,List.nodup_cons,List.mem_cons,List.mem_append,List.mem_map,not_or,not_exists,not_and] at nd
 exact MapT.kept (h.rsets x hx) hg (by have:=nd.2.2.2.2.2.2.1.2 x hx;simpa using this)
end
end Go.Proofs.YtjfelfjobeeenaaGreat
