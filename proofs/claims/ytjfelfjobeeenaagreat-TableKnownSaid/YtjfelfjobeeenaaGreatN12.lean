/- What ack does where it does something. Conditions: none, or as the theorems say. -/
import Derived.Test.YtjfelfjobeeenaaGreatN11
namespace Go.Proofs.YtjfelfjobeeenaaGreat
set_option maxHeartbeats 200000000
set_option linter.unusedVariables false
set_option linter.unusedSimpArgs false
open Go.RowKit Go.Sf Go.Shelf
theorem zbm (m:List (ID × ye)) (i:ID) (n:Int) (nb:Nat):∃s,zt (Zb m i n nb) i=some s:=by
 unfold Zb
 cases h:zt m i with
 | none=>exact⟨⟨nb,[n]⟩,by simp only[Option.isSome_none,Bool.false_eq_true,if_false];exact zb2 h _⟩
 | some s=>
  simp only[Option.isSome_some,if_true];unfold ql
  induction m with
  | nil=>simp[zt] at h
  | cons p r ih=>
   rw[zt] at h;simp only[List.map_cons,zt]
   split at h
   ·rename_i e
    simp[e]
   ·rename_i e
    obtain⟨s',hs'⟩:=ih h;refine⟨s',?_⟩;simp[e,hs']
theorem Yb (s:ye):∀ty W,zw W s.blk (Value.int .i64) Yd (s.mem.map fun n=>(n,()))→(Builtin.len_ #[127] ty #[.map (some s.blk)]).run Tryz.prog W = .ok (.int .i64 s.mem.length) W:=fun ty W h=>by
 have:=h.len (P:=Tryz.prog) Tryz.underlying127 ty;simpa using this
theorem Yf {tb:Nat} {T:Tab} {i:ID} {n:Int} {nb:Nat}:∀b∈(uj T i n nb).blocks tb,b∈T.blocks tb∨b=nb:=by
 intro b hb;simp only[Tab.blocks,uj,List.mem_cons,List.mem_append] at hb ⊢
 rcases hb with h|h|h|h|h|h|h|h|h
 ·exact Or.inl (by simp[h])
 ·exact Or.inl (by simp[h])
 ·exact Or.inl (by simp[h])
 ·exact Or.inl (by simp[h])
 ·exact Or.inl (by simp[h])
 ·exact Or.inl (by simp[h])
 ·exact Or.inl (by simp[h])
 ·obtain⟨x,hx,rfl⟩:=List.mem_map.1 h
  rcases Ju x hx with h2|h2
  ·exact Or.inl (by simp only[h2];simp)
  ·exact Or.inr h2
 ·obtain⟨x,hx,rfl⟩:=List.mem_map.1 h
  have h2:=Jv x hx
  exact Or.inl (by simp only[h2];simp)
section
variable {w w1 : World} {tb : Nat} {T : Tab}
set_option maxRecDepth 100000 in
theorem ack_c (h:yh w tb T) (c:Cmd) (hl:T.zv0.length≤9223372036854775807) (h0:0≤c.node) (h1:c.node<T.zv0.length) (hyes:Qk T c=true) (hnp:zt T.pending ⟨c.key,c.zvz⟩=none) :
  Calls Tryz.prog 132 #[.pointer (some ⟨tb,0,none⟩),zp c] w fun e w'=>e = .returned (.tuple #[])∧zbq w w' tb T c:=by
 obtain⟨kind,node,zvw,zvx,zvy,zvz,key,code⟩:=c;have hb2:Vi T ⟨kind,node,zvw,zvx,zvy,zvz,key,code⟩=true∧yl T ⟨key,zvz⟩=true:=by simpa[Qk] using hyes
 have HNOW:Hid (∀W,w.grownBy W none→Calls Tryz.prog 172 #[.pointer (some ⟨tb,0,none⟩),.agg #[.int .u8 kind,.int .i64 node,.int .i64 zvw,.int .i64 zvx,.int .i64 zvy,.int .i64 zvz,.string key,.int .i64 code]] W fun e w'=>e = .returned (.bool true)∧W.grownBy w' none):=
  fun W hg=>hb2.1 ▸ Qp (h.grown hg) ⟨kind,node,zvw,zvx,zvy,zvz,key,code⟩ hl h0 h1
 have HWANT:Hid (∀W,w.grownBy W none→Calls Tryz.prog 36 #[.pointer (some ⟨tb,0,none⟩),.agg #[.string key,.int .i64 zvz]] W fun e w'=>e = .returned (.bool true)∧W.grownBy w' none):=
  fun W hg=>hb2.2 ▸ Vm (h.grown hg) ⟨key,zvz⟩
 have HT:=za h;have HYES:=za hyes;have hpl:=h.lt;have HPL:=za hpl;obtain⟨pc,pr,_,hlk⟩:=qj T.pb T.pending key zvz;simp only at hnp;simp only[hnp,Option.isSome_none] at hlk;have HNP:=za hnp;clear hnp;clear h hyes hb2 hpl;simp only[zp]
 go_enter Tryz.func132,Tryz.ntmps132
 go_wp2_with (first
  | (go_at_call 172;refine(HNOW.out _ (by repeat (first|exact zd _|exact zc _ _ _|refine zi ?_ _|refine zg ?_ _|refine zf ?_))).mono ?_;rintro e w1 ⟨rfl,hg1⟩;obtain⟨x1,rfl⟩:=Ye hg1)
  | (go_at_call 36;refine(HWANT.out _ (by repeat (first|exact zd _|exact zc _ _ _|refine zi ?_ _|refine zg ?_ _|refine zf ?_))).mono ?_;rintro e w2 ⟨rfl,hg2⟩;have x0:w2.cell? ⟨w.heap.size,1,none⟩=some (.int .i64 node):=hg2.cell (by simp[go_sem]) (by simp);have x5:w2.cell? ⟨w.heap.size,5,none⟩=some (.int .i64 zvz):=hg2.cell (by simp[go_sem]) (by simp);have x6:w2.cell? ⟨w.heap.size,6,none⟩=some (.string key):=hg2.cell (by simp[go_sem]) (by simp);have y0:w2.cell? ⟨w.heap.size+1,0,none⟩=some (.string key):=hg2.cell (by simp[go_sem]) (by simp);have y1:w2.cell? ⟨w.heap.size+1,1,none⟩=some (.int .i64 zvz):=hg2.cell (by simp[go_sem]) (by simp);have hg:w.grownBy w2 none:=ze (by repeat (first|exact zd _|exact zc _ _ _|refine zi ?_ _|refine zg ?_ _|refine zf ?_)) hg2;have T2:=HT.out.grown hg;have k7:=T2.c7;have k8:=T2.c8;have htb:=T2.tlt;have HG:=za hg;have HT2:=za T2;clear T2 hg hg2 hg1))
 go_still_tail 11,(by kernel_rfl)
 go_wp2_with (go_at_call 173;refine(Ul (HT2.out.grown (zf (zd _))).two ⟨key,zvz⟩ node).mono ?_;rintro e w4 ⟨rfl,hM⟩;obtain⟨nb,hnb,hT4,hC4⟩:=(HT2.out.grown (zf (zd _))).held hM;have x0':w4.cell? ⟨w.heap.size,5,none⟩=some (.int .i64 zvz):=hC4.cell x5 (fun hb=>absurd (HPL.out _ hb) (by simp));have x6':w4.cell? ⟨w.heap.size,6,none⟩=some (.string key):=hC4.cell x6 (fun hb=>absurd (HPL.out _ hb) (by simp));have y0':w4.cell? ⟨w.heap.size+1,0,none⟩=some (.string key):=hC4.cell y0 (fun hb=>absurd (HPL.out _ hb) (by simp));have y1':w4.cell? ⟨w.heap.size+1,1,none⟩=some (.int .i64 zvz):=hC4.cell y1 (fun hb=>absurd (HPL.out _ hb) (by simp));have k6:=hT4.c6;have hp4:=hT4.pending;have htb4:=hT4.tlt;have htb5:tb<w4.heap.size+1:=Nat.lt_succ_of_lt htb4;have hHS:w.heap.size+1<w4.heap.size:=yo y0';have hHS0:w.heap.size<w4.heap.size:=Nat.lt_of_succ_lt hHS;have hHS1:w.heap.size+1<w4.heap.size+1:=Nat.lt_succ_of_lt hHS;have hHS2:w.heap.size<w4.heap.size+1:=Nat.lt_succ_of_lt hHS0;skip;have CH:Chg w w4 (T.blocks tb):=((Chg.of_grown HG.out (T.blocks tb)).grown (zf (zd _))).trans hC4 (fun b hb=>Or.inl hb);have HCH:=za CH;have HT4:=za hT4;have HNB2:Hid (w.heap.size+1<nb):=(show _<_ from Nat.lt_of_lt_of_le (yo y1) hnb);have HNB:Hid (w.heap.size≤nb):=(show _≤_ from Nat.le_trans HG.out.size hnb);clear CH hT4 hC4 hM hnb x5 x6 y0 y1 k7 k8;simp only[uj] at k6 hp4)
 go_region
 go_wp2;refine zo (by kernel_rfl) (by kernel_rfl) ?_
 repeat (any_goals (first|go_big_quiet_step (fail)|quiet_step (fail)))
 refine wpQuiet_nil ?_;intro _ hw';obtain⟨x7,hw''⟩:=hw';subst hw'';go_wp2;refine bodyPost_ret (results_none rfl _ _ _) rfl ?_;refine⟨rfl,nb,HNB.out,?_,?_⟩
 ·rw[zj0 HYES.out,jn]
  have e1:zt (uj T ⟨key,zvz⟩ node nb).pending ⟨key,zvz⟩=none:=HNP.out;simp only[e1]
  exact HT4.out.grown (by repeat (first|exact zd _|exact zc _ _ _|refine zi ?_ _|refine zg ?_ _|refine zf ?_))
 ·exact HCH.out.grown (by repeat (first|exact zd _|exact zc _ _ _|refine zi ?_ _|refine zg ?_ _|refine zf ?_))
set_option maxRecDepth 100000 in
theorem ack_d (h:yh w tb T) (c:Cmd) (hl:T.zv0.length≤9223372036854775807) (h0:0≤c.node) (h1:c.node<T.zv0.length) (hyes:Qk T c=true) (p:xd) (hnp:zt T.pending ⟨c.key,c.zvz⟩=some p) (hlt:∀nb,((memH (Zb T.holds ⟨c.key,c.zvz⟩ c.node nb) ⟨c.key,c.zvz⟩).length:Int)<T.w) :
  Calls Tryz.prog 132 #[.pointer (some ⟨tb,0,none⟩),zp c] w fun e w'=>e = .returned (.tuple #[])∧zbq w w' tb T c:=by
 obtain⟨kind,node,zvw,zvx,zvy,zvz,key,code⟩:=c;have hb2:Vi T ⟨kind,node,zvw,zvx,zvy,zvz,key,code⟩=true∧yl T ⟨key,zvz⟩=true:=by simpa[Qk] using hyes
 have HNOW:Hid (∀W,w.grownBy W none→Calls Tryz.prog 172 #[.pointer (some ⟨tb,0,none⟩),.agg #[.int .u8 kind,.int .i64 node,.int .i64 zvw,.int .i64 zvx,.int .i64 zvy,.int .i64 zvz,.string key,.int .i64 code]] W fun e w'=>e = .returned (.bool true)∧W.grownBy w' none):=
  fun W hg=>hb2.1 ▸ Qp (h.grown hg) ⟨kind,node,zvw,zvx,zvy,zvz,key,code⟩ hl h0 h1
 have HWANT:Hid (∀W,w.grownBy W none→Calls Tryz.prog 36 #[.pointer (some ⟨tb,0,none⟩),.agg #[.string key,.int .i64 zvz]] W fun e w'=>e = .returned (.bool true)∧W.grownBy w' none):=
  fun W hg=>hb2.2 ▸ Vm (h.grown hg) ⟨key,zvz⟩
 have HT:=za h;have HYES:=za hyes;have hpl:=h.lt;have HPL:=za hpl;obtain⟨pc,pr,hpe,hlk⟩:=qj T.pb T.pending key zvz;simp only at hnp;have HPE:=za (hpe p hnp);simp only[hnp,Option.isSome_some] at hlk;have HNP:=za hnp;clear hnp hpe;simp only at hlt;have HLT:=za hlt;clear hlt;clear h hyes hb2 hpl;simp only[zp]
 go_enter Tryz.func132,Tryz.ntmps132
 go_wp2_with (first
  | (go_at_call 172;refine(HNOW.out _ (by repeat (first|exact zd _|exact zc _ _ _|refine zi ?_ _|refine zg ?_ _|refine zf ?_))).mono ?_;rintro e w1 ⟨rfl,hg1⟩;obtain⟨x1,rfl⟩:=Ye hg1)
  | (go_at_call 36;refine(HWANT.out _ (by repeat (first|exact zd _|exact zc _ _ _|refine zi ?_ _|refine zg ?_ _|refine zf ?_))).mono ?_;rintro e w2 ⟨rfl,hg2⟩;have x0:w2.cell? ⟨w.heap.size,1,none⟩=some (.int .i64 node):=hg2.cell (by simp[go_sem]) (by simp);have x5:w2.cell? ⟨w.heap.size,5,none⟩=some (.int .i64 zvz):=hg2.cell (by simp[go_sem]) (by simp);have x6:w2.cell? ⟨w.heap.size,6,none⟩=some (.string key):=hg2.cell (by simp[go_sem]) (by simp);have y0:w2.cell? ⟨w.heap.size+1,0,none⟩=some (.string key):=hg2.cell (by simp[go_sem]) (by simp);have y1:w2.cell? ⟨w.heap.size+1,1,none⟩=some (.int .i64 zvz):=hg2.cell (by simp[go_sem]) (by simp);have hg:w.grownBy w2 none:=ze (by repeat (first|exact zd _|exact zc _ _ _|refine zi ?_ _|refine zg ?_ _|refine zf ?_)) hg2;have T2:=HT.out.grown hg;have k7:=T2.c7;have k8:=T2.c8;have htb:=T2.tlt;have HG:=za hg;have HT2:=za T2;clear T2 hg hg2 hg1))
 go_still_tail 11,(by kernel_rfl)
 go_wp2_with (go_at_call 173;refine(Ul (HT2.out.grown (zf (zd _))).two ⟨key,zvz⟩ node).mono ?_;rintro e w4 ⟨rfl,hM⟩;obtain⟨nb,hnb,hT4,hC4⟩:=(HT2.out.grown (zf (zd _))).held hM;have x0':w4.cell? ⟨w.heap.size,5,none⟩=some (.int .i64 zvz):=hC4.cell x5 (fun hb=>absurd (HPL.out _ hb) (by simp));have x6':w4.cell? ⟨w.heap.size,6,none⟩=some (.string key):=hC4.cell x6 (fun hb=>absurd (HPL.out _ hb) (by simp));have y0':w4.cell? ⟨w.heap.size+1,0,none⟩=some (.string key):=hC4.cell y0 (fun hb=>absurd (HPL.out _ hb) (by simp));have y1':w4.cell? ⟨w.heap.size+1,1,none⟩=some (.int .i64 zvz):=hC4.cell y1 (fun hb=>absurd (HPL.out _ hb) (by simp));have k6:=hT4.c6;have hp4:=hT4.pending;have htb4:=hT4.tlt;have htb5:tb<w4.heap.size+1:=Nat.lt_succ_of_lt htb4;have hHS:w.heap.size+1<w4.heap.size:=yo y0';have hHS0:w.heap.size<w4.heap.size:=Nat.lt_of_succ_lt hHS;have hHS1:w.heap.size+1<w4.heap.size+1:=Nat.lt_succ_of_lt hHS;have hHS2:w.heap.size<w4.heap.size+1:=Nat.lt_succ_of_lt hHS0;obtain⟨s,hsg⟩:=zbm T.holds ⟨key,zvz⟩ node nb;have k7':=hT4.c7;have k0':=hT4.c0;have hh4:=hT4.holds;have hset:=hT4.hsets _ (yd hsg);have hls:=ud T.hb (Zb T.holds ⟨key,zvz⟩ node nb) key zvz (some s) hsg;have hll:=Yb s;simp only[uj] at k7' k0' hh4;simp only[qr] at hset;simp only[Option.map_some] at hls;have HSG:=za hsg;clear hsg;have hd2:decide ((s.mem.length:Int)<T.w)=true:=(by have:=HLT.out nb;unfold memH at this;rw[HSG.out] at this;simpa using this);have CH:Chg w w4 (T.blocks tb):=((Chg.of_grown HG.out (T.blocks tb)).grown (zf (zd _))).trans hC4 (fun b hb=>Or.inl hb);have HCH:=za CH;have HT4:=za hT4;have HNB2:Hid (w.heap.size+1<nb):=(show _<_ from Nat.lt_of_lt_of_le (yo y1) hnb);have HNB:Hid (w.heap.size≤nb):=(show _≤_ from Nat.le_trans HG.out.size hnb);clear CH hT4 hC4 hM hnb x5 x6 y0 y1 k7 k8;simp only[uj] at k6 hp4)
 go_region
 go_wp2;refine zo (by kernel_rfl) (by kernel_rfl) ?_
 repeat (any_goals (first|go_big_quiet_step (fail)|quiet_step (fail)))
 refine wpQuiet_nil ?_;intro _ hw';obtain⟨x7,hw''⟩:=hw';subst hw'';go_wp2;refine bodyPost_ret (results_none rfl _ _ _) rfl ?_;refine⟨rfl,nb,HNB.out,?_,?_⟩
 ·rw[zj0 HYES.out,jn]
  have e1:zt (uj T ⟨key,zvz⟩ node nb).pending ⟨key,zvz⟩=some p:=HNP.out;have e2:((memH (uj T ⟨key,zvz⟩ node nb).holds ⟨key,zvz⟩).length:Int)<(uj T ⟨key,zvz⟩ node nb).w:=HLT.out nb;simp only[e1];rw[if_pos e2]
  exact HT4.out.grown (by repeat (first|exact zd _|exact zc _ _ _|refine zi ?_ _|refine zg ?_ _|refine zf ?_))
 ·exact HCH.out.grown (by repeat (first|exact zd _|exact zc _ _ _|refine zi ?_ _|refine zg ?_ _|refine zf ?_))
set_option maxRecDepth 100000 in
theorem ack_e (h:yh w tb T) (c:Cmd) (hl:T.zv0.length≤9223372036854775807) (h0:0≤c.node) (h1:c.node<T.zv0.length) (hyes:Qk T c=true) (p:xd) (hnp:zt T.pending ⟨c.key,c.zvz⟩=some p) (hlt:∀nb,¬((memH (Zb T.holds ⟨c.key,c.zvz⟩ c.node nb) ⟨c.key,c.zvz⟩).length:Int)<T.w) (hv:(lookV T c.key).zvz<c.zvz) :
  Calls Tryz.prog 132 #[.pointer (some ⟨tb,0,none⟩),zp c] w fun e w'=>e = .returned (.tuple #[])∧zbq w w' tb T c:=by
 obtain⟨kind,node,zvw,zvx,zvy,zvz,key,code⟩:=c;have hb2:Vi T ⟨kind,node,zvw,zvx,zvy,zvz,key,code⟩=true∧yl T ⟨key,zvz⟩=true:=by simpa[Qk] using hyes
 have HNOW:Hid (∀W,w.grownBy W none→Calls Tryz.prog 172 #[.pointer (some ⟨tb,0,none⟩),.agg #[.int .u8 kind,.int .i64 node,.int .i64 zvw,.int .i64 zvx,.int .i64 zvy,.int .i64 zvz,.string key,.int .i64 code]] W fun e w'=>e = .returned (.bool true)∧W.grownBy w' none):=
  fun W hg=>hb2.1 ▸ Qp (h.grown hg) ⟨kind,node,zvw,zvx,zvy,zvz,key,code⟩ hl h0 h1
 have HWANT:Hid (∀W,w.grownBy W none→Calls Tryz.prog 36 #[.pointer (some ⟨tb,0,none⟩),.agg #[.string key,.int .i64 zvz]] W fun e w'=>e = .returned (.bool true)∧W.grownBy w' none):=
  fun W hg=>hb2.2 ▸ Vm (h.grown hg) ⟨key,zvz⟩
 have HT:=za h;have HYES:=za hyes;have hpl:=h.lt;have HPL:=za hpl;obtain⟨pc,pr,hpe,hlk⟩:=qj T.pb T.pending key zvz;simp only at hnp;have HPE:=za (hpe p hnp);simp only[hnp,Option.isSome_some] at hlk;have HNP:=za hnp;clear hnp hpe;simp only at hlt hv;have HLT:=za hlt;have HV:=za hv;have dv:decide ((lookV T key).zvz<zvz)=true:=by simpa using hv
 clear hlt hv;clear h hyes hb2 hpl;simp only[zp]
 go_enter Tryz.func132,Tryz.ntmps132
 go_wp2_with (first
  | (go_at_call 172;refine(HNOW.out _ (by repeat (first|exact zd _|exact zc _ _ _|refine zi ?_ _|refine zg ?_ _|refine zf ?_))).mono ?_;rintro e w1 ⟨rfl,hg1⟩;obtain⟨x1,rfl⟩:=Ye hg1)
  | (go_at_call 36;refine(HWANT.out _ (by repeat (first|exact zd _|exact zc _ _ _|refine zi ?_ _|refine zg ?_ _|refine zf ?_))).mono ?_;rintro e w2 ⟨rfl,hg2⟩;have x0:w2.cell? ⟨w.heap.size,1,none⟩=some (.int .i64 node):=hg2.cell (by simp[go_sem]) (by simp);have x5:w2.cell? ⟨w.heap.size,5,none⟩=some (.int .i64 zvz):=hg2.cell (by simp[go_sem]) (by simp);have x6:w2.cell? ⟨w.heap.size,6,none⟩=some (.string key):=hg2.cell (by simp[go_sem]) (by simp);have y0:w2.cell? ⟨w.heap.size+1,0,none⟩=some (.string key):=hg2.cell (by simp[go_sem]) (by simp);have y1:w2.cell? ⟨w.heap.size+1,1,none⟩=some (.int .i64 zvz):=hg2.cell (by simp[go_sem]) (by simp);have hg:w.grownBy w2 none:=ze (by repeat (first|exact zd _|exact zc _ _ _|refine zi ?_ _|refine zg ?_ _|refine zf ?_)) hg2;have T2:=HT.out.grown hg;have k7:=T2.c7;have k8:=T2.c8;have htb:=T2.tlt;have HG:=za hg;have HT2:=za T2;clear T2 hg hg2 hg1))
 go_still_tail 11,(by kernel_rfl)
 go_wp2_with (go_at_call 173;refine(Ul (HT2.out.grown (zf (zd _))).two ⟨key,zvz⟩ node).mono ?_;rintro e w4 ⟨rfl,hM⟩;obtain⟨nb,hnb,hT4,hC4⟩:=(HT2.out.grown (zf (zd _))).held hM;have x0':w4.cell? ⟨w.heap.size,5,none⟩=some (.int .i64 zvz):=hC4.cell x5 (fun hb=>absurd (HPL.out _ hb) (by simp));have x6':w4.cell? ⟨w.heap.size,6,none⟩=some (.string key):=hC4.cell x6 (fun hb=>absurd (HPL.out _ hb) (by simp));have y0':w4.cell? ⟨w.heap.size+1,0,none⟩=some (.string key):=hC4.cell y0 (fun hb=>absurd (HPL.out _ hb) (by simp));have y1':w4.cell? ⟨w.heap.size+1,1,none⟩=some (.int .i64 zvz):=hC4.cell y1 (fun hb=>absurd (HPL.out _ hb) (by simp));have k6:=hT4.c6;have hp4:=hT4.pending;have htb4:=hT4.tlt;have htb5:tb<w4.heap.size+1:=Nat.lt_succ_of_lt htb4;have hHS:w.heap.size+1<w4.heap.size:=yo y0';have hHS0:w.heap.size<w4.heap.size:=Nat.lt_of_succ_lt hHS;have hHS1:w.heap.size+1<w4.heap.size+1:=Nat.lt_succ_of_lt hHS;have hHS2:w.heap.size<w4.heap.size+1:=Nat.lt_succ_of_lt hHS0;obtain⟨s,hsg⟩:=zbm T.holds ⟨key,zvz⟩ node nb;have k7':=hT4.c7;have k0':=hT4.c0;have hh4:=hT4.holds;have hset:=hT4.hsets _ (yd hsg);have hls:=ud T.hb (Zb T.holds ⟨key,zvz⟩ node nb) key zvz (some s) hsg;have hll:=Yb s;simp only[uj] at k7' k0' hh4;simp only[qr] at hset;simp only[Option.map_some] at hls;have HSG:=za hsg;clear hsg;have hd2:decide ((s.mem.length:Int)<T.w)=false:=(by have:=HLT.out nb;unfold memH at this;rw[HSG.out] at this;simpa using this);have CH:Chg w w4 (T.blocks tb):=((Chg.of_grown HG.out (T.blocks tb)).grown (zf (zd _))).trans hC4 (fun b hb=>Or.inl hb);have HCH:=za CH;have HT4:=za hT4;have HNB2:Hid (w.heap.size+1<nb):=(show _<_ from Nat.lt_of_lt_of_le (yo y1) hnb);have HNB:Hid (w.heap.size≤nb):=(show _≤_ from Nat.le_trans HG.out.size hnb);clear CH hT4 hC4 hM hnb x5 x6 y0 y1 k7 k8;simp only[uj] at k6 hp4)
 go_region
 go_wp2;refine zo (by kernel_rfl) (by kernel_rfl) ?_
 repeat (any_goals (first|go_big_quiet_step (fail)|quiet_step (fail)))
 refine wpQuiet_nil ?_;intro _ hw';obtain⟨x7,hw''⟩:=hw';subst hw''
 go_wp2_with (go_at_call 174;refine(zgp (HT4.out.grown (by repeat (first|exact zd _|exact zc _ _ _|refine zi ?_ _|refine zg ?_ _|refine zf ?_))) ⟨key,zvz⟩ ⟨pc,pr⟩ 0).mono ?_;rintro e w5 ⟨rfl,hT5,hC5⟩;have z5:w5.cell? ⟨w.heap.size,5,none⟩=some (.int .i64 zvz):=hC5.cell (by simp[go_sem,x0',hHS0,hHS2]) (fun hb=>(Yf _ hb).elim (fun h=>absurd (HPL.out _ h) (by simp)) (fun e=>by have:=HNB2.out;simp at e;omega));have z6:w5.cell? ⟨w.heap.size,6,none⟩=some (.string key):=hC5.cell (by simp[go_sem,x6',hHS0,hHS2]) (fun hb=>(Yf _ hb).elim (fun h=>absurd (HPL.out _ h) (by simp)) (fun e=>by have:=HNB2.out;simp at e;omega));have hZ:w.heap.size<w5.heap.size:=yo z5;have m5:=hT5.c5;have hv5:=hT5.values;have htb6:=hT5.tlt;have hvr:=fun W hW=>yh.run_values (T:=T) W hW key;simp only[jw,uj] at m5 hv5;have CH5:Chg w w5 (T.blocks tb):=(HCH.out.grown (by repeat (first|exact zd _|exact zc _ _ _|refine zi ?_ _|refine zg ?_ _|refine zf ?_))).trans hC5 (fun b hb=>(Yf b hb).imp id (fun e=>by rw[e];exact HNB.out));have HCH5:=za CH5;have HT5:=za hT5;clear hT5 hC5 CH5 x0' x6' y0' y1' k6 hp4 k7' k0' hh4 hset hls hll hHS hHS0 hHS1 hHS2;generalize hlv:(lookV T key).zvz=lv at *;generalize (lookV T key).dead=ld at *)
 refine zo (by kernel_rfl) (by kernel_rfl) ?_
 repeat (any_goals (first|go_big_quiet_step (fail)|quiet_step (fail)))
 refine wpQuiet_nil ?_;intro _ hw';obtain⟨x8,hw''⟩:=hw';subst hw'';go_wp2;have T6:=HT5.out.grown (yf w5 x8);have q5:=T6.c5;have hv6:=T6.values;have htb7:=T6.tlt;have r5:(ext w5 x8).cell? ⟨w.heap.size,5,none⟩=some (.int .i64 zvz):=(yf w5 x8).cell z5 (by simp)
 have r6:(ext w5 x8).cell? ⟨w.heap.size,6,none⟩=some (.string key):=(yf w5 x8).cell z6 (by simp)
 have CH6:=HCH5.out.grown (yf w5 x8);have HT6:=za T6;have HCH6:=za CH6;clear T6 CH6 m5 hv5 z5 z6;generalize ext w5 x8=w6 at *;simp only[jw,uj] at q5 hv6
 go_still_tail 9,(by kernel_rfl)
 go_wp2_with (at_mapUpdate;refine vt (ek:=Value.string) (ev:=Ya) _ rfl _ _ _ 118 rfl zma Tryz.underlying118 T.vb T.values rfl ((Zn _).2 hv6) key ⟨zvz,false⟩ rfl rfl ?_;intro w7 hm7 hg7 hs7)
 go_end0
 have T7:=(HT6.out.grown (zf (zd _))).upd_values hm7 hg7;refine⟨rfl,nb,HNB.out,?_,?_⟩
 ·rw[zj0 HYES.out,jn]
  have e1:zt (uj T ⟨key,zvz⟩ node nb).pending ⟨key,zvz⟩=some p:=HNP.out;have e2:¬((memH (uj T ⟨key,zvz⟩ node nb).holds ⟨key,zvz⟩).length:Int)<(uj T ⟨key,zvz⟩ node nb).w:=Int.not_lt.2 (HLT.out nb);have e3:(lookV (uj T ⟨key,zvz⟩ node nb) key).zvz<zvz:=by show(lookV T key).zvz<zvz;rw[hlv];exact HV.out
  simp only[e1];rw[if_neg e2,if_pos e3,HPE.out]
  exact T7
 ·exact(HCH6.out.grown (zf (zd _))).turned hg7 (Or.inl (by simp[Tab.blocks]))
set_option maxRecDepth 100000 in
theorem ack_f (h:yh w tb T) (c:Cmd) (hl:T.zv0.length≤9223372036854775807) (h0:0≤c.node) (h1:c.node<T.zv0.length) (hyes:Qk T c=true) (p:xd) (hnp:zt T.pending ⟨c.key,c.zvz⟩=some p) (hlt:∀nb,¬((memH (Zb T.holds ⟨c.key,c.zvz⟩ c.node nb) ⟨c.key,c.zvz⟩).length:Int)<T.w) (hv:¬(lookV T c.key).zvz<c.zvz) :
  Calls Tryz.prog 132 #[.pointer (some ⟨tb,0,none⟩),zp c] w fun e w'=>e = .returned (.tuple #[])∧zbq w w' tb T c:=by
 obtain⟨kind,node,zvw,zvx,zvy,zvz,key,code⟩:=c;have hb2:Vi T ⟨kind,node,zvw,zvx,zvy,zvz,key,code⟩=true∧yl T ⟨key,zvz⟩=true:=by simpa[Qk] using hyes
 have HNOW:Hid (∀W,w.grownBy W none→Calls Tryz.prog 172 #[.pointer (some ⟨tb,0,none⟩),.agg #[.int .u8 kind,.int .i64 node,.int .i64 zvw,.int .i64 zvx,.int .i64 zvy,.int .i64 zvz,.string key,.int .i64 code]] W fun e w'=>e = .returned (.bool true)∧W.grownBy w' none):=
  fun W hg=>hb2.1 ▸ Qp (h.grown hg) ⟨kind,node,zvw,zvx,zvy,zvz,key,code⟩ hl h0 h1
 have HWANT:Hid (∀W,w.grownBy W none→Calls Tryz.prog 36 #[.pointer (some ⟨tb,0,none⟩),.agg #[.string key,.int .i64 zvz]] W fun e w'=>e = .returned (.bool true)∧W.grownBy w' none):=
  fun W hg=>hb2.2 ▸ Vm (h.grown hg) ⟨key,zvz⟩
 have HT:=za h;have HYES:=za hyes;have hpl:=h.lt;have HPL:=za hpl;obtain⟨pc,pr,hpe,hlk⟩:=qj T.pb T.pending key zvz;simp only at hnp;have HPE:=za (hpe p hnp);simp only[hnp,Option.isSome_some] at hlk;have HNP:=za hnp;clear hnp hpe;simp only at hlt hv;have HLT:=za hlt;have HV:=za hv;have dv:decide ((lookV T key).zvz<zvz)=false:=by simpa using hv
 clear hlt hv;clear h hyes hb2 hpl;simp only[zp]
 go_enter Tryz.func132,Tryz.ntmps132
 go_wp2_with (first
  | (go_at_call 172;refine(HNOW.out _ (by repeat (first|exact zd _|exact zc _ _ _|refine zi ?_ _|refine zg ?_ _|refine zf ?_))).mono ?_;rintro e w1 ⟨rfl,hg1⟩;obtain⟨x1,rfl⟩:=Ye hg1)
  | (go_at_call 36;refine(HWANT.out _ (by repeat (first|exact zd _|exact zc _ _ _|refine zi ?_ _|refine zg ?_ _|refine zf ?_))).mono ?_;rintro e w2 ⟨rfl,hg2⟩;have x0:w2.cell? ⟨w.heap.size,1,none⟩=some (.int .i64 node):=hg2.cell (by simp[go_sem]) (by simp);have x5:w2.cell? ⟨w.heap.size,5,none⟩=some (.int .i64 zvz):=hg2.cell (by simp[go_sem]) (by simp);have x6:w2.cell? ⟨w.heap.size,6,none⟩=some (.string key):=hg2.cell (by simp[go_sem]) (by simp);have y0:w2.cell? ⟨w.heap.size+1,0,none⟩=some (.string key):=hg2.cell (by simp[go_sem]) (by simp);have y1:w2.cell? ⟨w.heap.size+1,1,none⟩=some (.int .i64 zvz):=hg2.cell (by simp[go_sem]) (by simp);have hg:w.grownBy w2 none:=ze (by repeat (first|exact zd _|exact zc _ _ _|refine zi ?_ _|refine zg ?_ _|refine zf ?_)) hg2;have T2:=HT.out.grown hg;have k7:=T2.c7;have k8:=T2.c8;have htb:=T2.tlt;have HG:=za hg;have HT2:=za T2;clear T2 hg hg2 hg1))
 go_still_tail 11,(by kernel_rfl)
 go_wp2_with (go_at_call 173;refine(Ul (HT2.out.grown (zf (zd _))).two ⟨key,zvz⟩ node).mono ?_;rintro e w4 ⟨rfl,hM⟩;obtain⟨nb,hnb,hT4,hC4⟩:=(HT2.out.grown (zf (zd _))).held hM;have x0':w4.cell? ⟨w.heap.size,5,none⟩=some (.int .i64 zvz):=hC4.cell x5 (fun hb=>absurd (HPL.out _ hb) (by simp));have x6':w4.cell? ⟨w.heap.size,6,none⟩=some (.string key):=hC4.cell x6 (fun hb=>absurd (HPL.out _ hb) (by simp));have y0':w4.cell? ⟨w.heap.size+1,0,none⟩=some (.string key):=hC4.cell y0 (fun hb=>absurd (HPL.out _ hb) (by simp));have y1':w4.cell? ⟨w.heap.size+1,1,none⟩=some (.int .i64 zvz):=hC4.cell y1 (fun hb=>absurd (HPL.out _ hb) (by simp));have k6:=hT4.c6;have hp4:=hT4.pending;have htb4:=hT4.tlt;have htb5:tb<w4.heap.size+1:=Nat.lt_succ_of_lt htb4;have hHS:w.heap.size+1<w4.heap.size:=yo y0';have hHS0:w.heap.size<w4.heap.size:=Nat.lt_of_succ_lt hHS;have hHS1:w.heap.size+1<w4.heap.size+1:=Nat.lt_succ_of_lt hHS;have hHS2:w.heap.size<w4.heap.size+1:=Nat.lt_succ_of_lt hHS0;obtain⟨s,hsg⟩:=zbm T.holds ⟨key,zvz⟩ node nb;have k7':=hT4.c7;have k0':=hT4.c0;have hh4:=hT4.holds;have hset:=hT4.hsets _ (yd hsg);have hls:=ud T.hb (Zb T.holds ⟨key,zvz⟩ node nb) key zvz (some s) hsg;have hll:=Yb s;simp only[uj] at k7' k0' hh4;simp only[qr] at hset;simp only[Option.map_some] at hls;have HSG:=za hsg;clear hsg;have hd2:decide ((s.mem.length:Int)<T.w)=false:=(by have:=HLT.out nb;unfold memH at this;rw[HSG.out] at this;simpa using this);have CH:Chg w w4 (T.blocks tb):=((Chg.of_grown HG.out (T.blocks tb)).grown (zf (zd _))).trans hC4 (fun b hb=>Or.inl hb);have HCH:=za CH;have HT4:=za hT4;have HNB2:Hid (w.heap.size+1<nb):=(show _<_ from Nat.lt_of_lt_of_le (yo y1) hnb);have HNB:Hid (w.heap.size≤nb):=(show _≤_ from Nat.le_trans HG.out.size hnb);clear CH hT4 hC4 hM hnb x5 x6 y0 y1 k7 k8;simp only[uj] at k6 hp4)
 go_region
 go_wp2;refine zo (by kernel_rfl) (by kernel_rfl) ?_
 repeat (any_goals (first|go_big_quiet_step (fail)|quiet_step (fail)))
 refine wpQuiet_nil ?_;intro _ hw';obtain⟨x7,hw''⟩:=hw';subst hw''
 go_wp2_with (go_at_call 174;refine(zgp (HT4.out.grown (by repeat (first|exact zd _|exact zc _ _ _|refine zi ?_ _|refine zg ?_ _|refine zf ?_))) ⟨key,zvz⟩ ⟨pc,pr⟩ 0).mono ?_;rintro e w5 ⟨rfl,hT5,hC5⟩;have z5:w5.cell? ⟨w.heap.size,5,none⟩=some (.int .i64 zvz):=hC5.cell (by simp[go_sem,x0',hHS0,hHS2]) (fun hb=>(Yf _ hb).elim (fun h=>absurd (HPL.out _ h) (by simp)) (fun e=>by have:=HNB2.out;simp at e;omega));have z6:w5.cell? ⟨w.heap.size,6,none⟩=some (.string key):=hC5.cell (by simp[go_sem,x6',hHS0,hHS2]) (fun hb=>(Yf _ hb).elim (fun h=>absurd (HPL.out _ h) (by simp)) (fun e=>by have:=HNB2.out;simp at e;omega));have hZ:w.heap.size<w5.heap.size:=yo z5;have m5:=hT5.c5;have hv5:=hT5.values;have htb6:=hT5.tlt;have hvr:=fun W hW=>yh.run_values (T:=T) W hW key;simp only[jw,uj] at m5 hv5;have CH5:Chg w w5 (T.blocks tb):=(HCH.out.grown (by repeat (first|exact zd _|exact zc _ _ _|refine zi ?_ _|refine zg ?_ _|refine zf ?_))).trans hC5 (fun b hb=>(Yf b hb).imp id (fun e=>by rw[e];exact HNB.out));have HCH5:=za CH5;have HT5:=za hT5;clear hT5 hC5 CH5 x0' x6' y0' y1' k6 hp4 k7' k0' hh4 hset hls hll hHS hHS0 hHS1 hHS2;generalize hlv:(lookV T key).zvz=lv at *;generalize (lookV T key).dead=ld at *)
 refine zo (by kernel_rfl) (by kernel_rfl) ?_
 repeat (any_goals (first|go_big_quiet_step (fail)|quiet_step (fail)))
 refine wpQuiet_nil ?_;intro _ hw';obtain⟨x8,hw''⟩:=hw';subst hw'';go_wp2
 go_end0
 refine⟨rfl,nb,HNB.out,?_,?_⟩
 ·rw[zj0 HYES.out,jn]
  have e1:zt (uj T ⟨key,zvz⟩ node nb).pending ⟨key,zvz⟩=some p:=HNP.out;have e2:¬((memH (uj T ⟨key,zvz⟩ node nb).holds ⟨key,zvz⟩).length:Int)<(uj T ⟨key,zvz⟩ node nb).w:=Int.not_lt.2 (HLT.out nb);have e3:¬(lookV (uj T ⟨key,zvz⟩ node nb) key).zvz<zvz:=by show ¬(lookV T key).zvz<zvz;rw[hlv];exact Int.not_lt.2 HV.out
  simp only[e1];rw[if_neg e2,if_neg e3,HPE.out]
  exact HT5.out.grown (yf w5 x8)
 ·exact HCH5.out.grown (yf w5 x8)
end
end Go.Proofs.YtjfelfjobeeenaaGreat
