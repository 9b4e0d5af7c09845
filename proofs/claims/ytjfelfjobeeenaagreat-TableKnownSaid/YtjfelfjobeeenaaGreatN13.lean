/- What ack does, whole; what refuse does. Conditions: none, or as the theorems say. -/
import Derived.Test.YtjfelfjobeeenaaGreatN12
namespace Go.Proofs.YtjfelfjobeeenaaGreat
set_option maxHeartbeats 200000000
set_option linter.unusedVariables false
set_option linter.unusedSimpArgs false
open Go.RowKit Go.Sf Go.Shelf
theorem Vg (m:List (ID × ye)) (i:ID) (n:Int) (nb:Nat):memH (Zb m i n nb) i=um (memH m i) n:=by
 unfold memH Zb
 cases h:zt m i with
 | none=>
  simp only[Option.isSome_none,Bool.false_eq_true,if_false];rw[zb2 h]
  rfl
 | some s=>
  simp only[Option.isSome_some,if_true];unfold ql
  induction m with
  | nil=>simp[zt] at h
  | cons p r ih=>
   rw[zt] at h;simp only[List.map_cons,zt]
   split at h
   ·rename_i e
    cases h
    simp[e]
   ·rename_i e
    have:=ih h;simpa[e] using this
section
variable {w w1 : World} {tb : Nat} {T : Tab}
theorem ack_any (h:yh w tb T) (c:Cmd) (hl:T.zv0.length≤9223372036854775807) (h0:0≤c.node) (h1:c.node<T.zv0.length) :
  Calls Tryz.prog 132 #[.pointer (some ⟨tb,0,none⟩),zp c] w fun e w'=>e = .returned (.tuple #[])∧zbq w w' tb T c:=by
 cases hb:Qk T c
 ·exact ack_no h c hl h0 h1 hb
 ·cases hp:zt T.pending ⟨c.key,c.zvz⟩ with
  | none=>exact ack_c h c hl h0 h1 hb hp
  | some p=>
   by_cases hlt:((um (memH T.holds ⟨c.key,c.zvz⟩) c.node).length:Int)<T.w
   ·exact ack_d h c hl h0 h1 hb p hp (fun nb=>by rw[Vg];exact hlt)
   ·by_cases hv:(lookV T c.key).zvz<c.zvz
    ·exact ack_e h c hl h0 h1 hb p hp (fun nb=>by rw[Vg];exact hlt) hv
    ·exact ack_f h c hl h0 h1 hb p hp (fun nb=>by rw[Vg];exact hlt) hv
def zer (T:Tab) (c:Cmd):Bool:=(zt T.pending ⟨c.key,c.zvz⟩).isSome && Vi T c
def Yh (T1:Tab) (c:Cmd):Tab:=
 match zt T1.pending ⟨c.key,c.zvz⟩ with
 | none=>T1
 | some p=>if (T1.zv0.length:Int)-(memH T1.zv2 ⟨c.key,c.zvz⟩).length<T1.w then jw T1 ⟨c.key,c.zvz⟩ p 181 else T1
def Zj (T:Tab) (c:Cmd) (nb:Nat):Tab:=if zer T c=true then Yh (xg T ⟨c.key,c.zvz⟩ c.node nb) c else T
theorem zjc {T:Tab} {c:Cmd} (h:zer T c=false) (nb:Nat):Zj T c nb=T:=if_neg (by rw[h];decide)
theorem zjd {T:Tab} {c:Cmd} (h:zer T c=true) (nb:Nat):Zj T c nb=Yh (xg T ⟨c.key,c.zvz⟩ c.node nb) c:=if_pos h
def zc3 (w w':World) (tb:Nat) (T:Tab) (c:Cmd):Prop:=∃nb,w.heap.size≤nb∧yh w' tb (Zj T c nb)∧Chg w w' (T.blocks tb)
theorem zf2 {tb:Nat} {T:Tab} {i:ID} {n:Int} {nb:Nat}:∀b∈(xg T i n nb).blocks tb,b∈T.blocks tb∨b=nb:=by
 intro b hb;simp only[Tab.blocks,xg,List.mem_cons,List.mem_append] at hb ⊢
 rcases hb with h|h|h|h|h|h|h|h|h
 ·exact Or.inl (by simp[h])
 ·exact Or.inl (by simp[h])
 ·exact Or.inl (by simp[h])
 ·exact Or.inl (by simp[h])
 ·exact Or.inl (by simp[h])
 ·exact Or.inl (by simp[h])
 ·exact Or.inl (by simp[h])
 ·obtain⟨x,hx,rfl⟩:=List.mem_map.1 h
  have h2:=Jv x hx
  exact Or.inl (by simp only[h2];simp)
 ·obtain⟨x,hx,rfl⟩:=List.mem_map.1 h
  rcases Ju x hx with h2|h2
  ·exact Or.inl (by simp only[h2];simp)
  ·exact Or.inr h2
set_option maxRecDepth 100000 in
theorem ref_a (h:yh w tb T) (c:Cmd) (hl:T.zv0.length≤9223372036854775807) (h0:0≤c.node) (h1:c.node<T.zv0.length) (hnp:zt T.pending ⟨c.key,c.zvz⟩=none) :
  Calls Tryz.prog 133 #[.pointer (some ⟨tb,0,none⟩),zp c] w fun e w'=>e = .returned (.tuple #[])∧zc3 w w' tb T c:=by
 obtain⟨kind,node,zvw,zvx,zvy,zvz,key,code⟩:=c;have htb:=h.tlt;have htb1:tb<w.heap.size+1:=by omega
 have htb2:tb<w.heap.size+1+1:=by omega
 have htb3:tb<w.heap.size+1+1+1:=by omega
 have c6:=h.c6;have hp:=h.pending;have hpl:=h.lt;have HPL:=za hpl;have hno:zer T ⟨kind,node,zvw,zvx,zvy,zvz,key,code⟩=false:=by simp only at hnp;simp[zer,hnp]
 have HNO:=za hno;obtain⟨pc,pr,_,hlk⟩:=qj T.pb T.pending key zvz;simp only at hnp;simp only[hnp,Option.isSome_none] at hlk;clear hnp hno;have HT:=za h;clear h hpl;simp only[zp]
 go_enter Tryz.func133,Tryz.ntmps133
 go_wp2
 go_region
 go_wp2;refine bodyPost_ret (results_none rfl _ _ _) rfl ?_
 exact⟨rfl,w.heap.size,Nat.le_refl _,by rw[zjc HNO.out];exact HT.out.grown (by repeat (first|exact zd _|exact zc _ _ _|refine zi ?_ _|refine zg ?_ _|refine zf ?_)),Chg.of_grown (by repeat (first|exact zd _|exact zc _ _ _|refine zi ?_ _|refine zg ?_ _|refine zf ?_)) _⟩
set_option maxRecDepth 100000 in
theorem ref_b (h:yh w tb T) (c:Cmd) (hl:T.zv0.length≤9223372036854775807) (h0:0≤c.node) (h1:c.node<T.zv0.length) (p:xd) (hnp:zt T.pending ⟨c.key,c.zvz⟩=some p) (hnow:Vi T c=false) :
  Calls Tryz.prog 133 #[.pointer (some ⟨tb,0,none⟩),zp c] w fun e w'=>e = .returned (.tuple #[])∧zc3 w w' tb T c:=by
 obtain⟨kind,node,zvw,zvx,zvy,zvz,key,code⟩:=c;have htb:=h.tlt;have htb1:tb<w.heap.size+1:=by omega
 have htb2:tb<w.heap.size+1+1:=by omega
 have htb3:tb<w.heap.size+1+1+1:=by omega
 have c6:=h.c6;have hp:=h.pending;have hpl:=h.lt;have HPL:=za hpl;obtain⟨pc,pr,hpe,hlk⟩:=qj T.pb T.pending key zvz;simp only at hnp;have HPE:=za (hpe p hnp);simp only[hnp,Option.isSome_some] at hlk;have HNP:=za hnp;have HNOW:Hid (∀W,w.grownBy W none→Calls Tryz.prog 172 #[.pointer (some ⟨tb,0,none⟩),.agg #[.int .u8 kind,.int .i64 node,.int .i64 zvw,.int .i64 zvx,.int .i64 zvy,.int .i64 zvz,.string key,.int .i64 code]] W fun e w'=>e = .returned (.bool false)∧W.grownBy w' none):=
  fun W hg=>hnow ▸ Qp (h.grown hg) ⟨kind,node,zvw,zvx,zvy,zvz,key,code⟩ hl h0 h1
 have hrb:zer T ⟨kind,node,zvw,zvx,zvy,zvz,key,code⟩=false:=by simp[zer,hnp,hnow]
 have HRB:=za hrb;clear hnp hpe hnow hrb;have HT:=za h;clear h hpl;simp only[zp]
 go_enter Tryz.func133,Tryz.ntmps133
 go_wp2
 go_region
 go_wp2_with (go_at_call 172;refine(HNOW.out _ (by repeat (first|exact zd _|exact zc _ _ _|refine zi ?_ _|refine zg ?_ _|refine zf ?_))).mono ?_;rintro e w2 ⟨rfl,hg2⟩;skip)
 refine bodyPost_ret (results_none rfl _ _ _) rfl ?_;have hg:w.grownBy w2 none:=ze (by repeat (first|exact zd _|exact zc _ _ _|refine zi ?_ _|refine zg ?_ _|refine zf ?_)) hg2
 exact⟨rfl,w.heap.size,Nat.le_refl _,by rw[zjc HRB.out];exact HT.out.grown hg,Chg.of_grown hg _⟩
set_option maxRecDepth 100000 in
theorem ref_c (h:yh w tb T) (c:Cmd) (hl:T.zv0.length≤9223372036854775807) (h0:0≤c.node) (h1:c.node<T.zv0.length) (p:xd) (hnp:zt T.pending ⟨c.key,c.zvz⟩=some p) (hnow:Vi T c=true) (hsl:∀nb s,zt (Zb T.zv2 ⟨c.key,c.zvz⟩ c.node nb) ⟨c.key,c.zvz⟩=some s→s.mem.length≤9223372036854775807) (hlt:∀nb,¬(T.zv0.length:Int)-(memH (Zb T.zv2 ⟨c.key,c.zvz⟩ c.node nb) ⟨c.key,c.zvz⟩).length<T.w) :
  Calls Tryz.prog 133 #[.pointer (some ⟨tb,0,none⟩),zp c] w fun e w'=>e = .returned (.tuple #[])∧zc3 w w' tb T c:=by
 obtain⟨kind,node,zvw,zvx,zvy,zvz,key,code⟩:=c;have htb:=h.tlt;have htb1:tb<w.heap.size+1:=by omega
 have htb2:tb<w.heap.size+1+1:=by omega
 have htb3:tb<w.heap.size+1+1+1:=by omega
 have c6:=h.c6;have hp:=h.pending;have hpl:=h.lt;have HPL:=za hpl;obtain⟨pc,pr,hpe,hlk⟩:=qj T.pb T.pending key zvz;simp only at hnp;have HPE:=za (hpe p hnp);simp only[hnp,Option.isSome_some] at hlk;have HNP:=za hnp;have HNOW:Hid (∀W,w.grownBy W none→Calls Tryz.prog 172 #[.pointer (some ⟨tb,0,none⟩),.agg #[.int .u8 kind,.int .i64 node,.int .i64 zvw,.int .i64 zvx,.int .i64 zvy,.int .i64 zvz,.string key,.int .i64 code]] W fun e w'=>e = .returned (.bool true)∧W.grownBy w' none):=
  fun W hg=>hnow ▸ Qp (h.grown hg) ⟨kind,node,zvw,zvx,zvy,zvz,key,code⟩ hl h0 h1
 have hrb:zer T ⟨kind,node,zvw,zvx,zvy,zvz,key,code⟩=true:=by simp[zer,hnp,hnow]
 have HRB:=za hrb;clear hnp hpe hnow hrb;simp only at hlt hsl;have HLT:=za hlt;have HSL:=za hsl;clear hlt hsl;have HT:=za h;clear h hpl;simp only[zp]
 go_enter Tryz.func133,Tryz.ntmps133
 go_wp2
 go_region
 go_wp2_with (go_at_call 172;refine(HNOW.out _ (by repeat (first|exact zd _|exact zc _ _ _|refine zi ?_ _|refine zg ?_ _|refine zf ?_))).mono ?_;rintro e w2 ⟨rfl,hg2⟩;have x1:w2.cell? ⟨w.heap.size,1,none⟩=some (.int .i64 node):=hg2.cell (by simp[go_sem]) (by simp);have y0:w2.cell? ⟨w.heap.size+1,0,none⟩=some (.string key):=hg2.cell (by simp[go_sem]) (by simp);have y1:w2.cell? ⟨w.heap.size+1,1,none⟩=some (.int .i64 zvz):=hg2.cell (by simp[go_sem]) (by simp);have z0:w2.cell? ⟨w.heap.size+1+1,0,none⟩=some (.int .i64 pc):=hg2.cell (by simp[go_sem]) (by simp);have z1:w2.cell? ⟨w.heap.size+1+1,1,none⟩=some (.int .i64 pr):=hg2.cell (by simp[go_sem]) (by simp);have hg:w.grownBy w2 none:=ze (by repeat (first|exact zd _|exact zc _ _ _|refine zi ?_ _|refine zg ?_ _|refine zf ?_)) hg2;have T2:=HT.out.grown hg;have k7:=T2.c7;have k8:=T2.c8;have htb4:=T2.tlt;have HG:=za hg;have HT2:=za T2;clear T2 hg hg2 c6 hp)
 go_still_tail 11,(by kernel_rfl)
 go_wp2_with (go_at_call 173;refine(Ul (HT2.out.grown (zf (zd _))).two.swap ⟨key,zvz⟩ node).mono ?_;rintro e w4 ⟨rfl,hM⟩;obtain⟨nb,hnb,hT4,hC4⟩:=(HT2.out.grown (zf (zd _))).refused hM;have y0':w4.cell? ⟨w.heap.size+1,0,none⟩=some (.string key):=hC4.cell y0 (fun hb=>absurd (HPL.out _ hb) (by simp <;> omega));have y1':w4.cell? ⟨w.heap.size+1,1,none⟩=some (.int .i64 zvz):=hC4.cell y1 (fun hb=>absurd (HPL.out _ hb) (by simp <;> omega));have z0':w4.cell? ⟨w.heap.size+1+1,0,none⟩=some (.int .i64 pc):=hC4.cell z0 (fun hb=>absurd (HPL.out _ hb) (by simp <;> omega));have z1':w4.cell? ⟨w.heap.size+1+1,1,none⟩=some (.int .i64 pr):=hC4.cell z1 (fun hb=>absurd (HPL.out _ hb) (by simp <;> omega));have k8':=hT4.c8;have k3':=hT4.c3;have k0':=hT4.c0;have hh4:=hT4.zv2;have htb5:=hT4.tlt;have hHS:w.heap.size+1+1<w4.heap.size:=yo z0';have hHS0:w.heap.size+1<w4.heap.size:=Nat.lt_of_succ_lt hHS;obtain⟨s,hsg⟩:=zbm T.zv2 ⟨key,zvz⟩ node nb;have hset:=hT4.rsets _ (yd hsg);have hls:=ud T.rb (Zb T.zv2 ⟨key,zvz⟩ node nb) key zvz (some s) hsg;have hll:=Yb s;simp only[xg] at k8' k0' k3' hh4;simp only[qr] at hset;simp only[Option.map_some] at hls;have HSG:=za hsg;clear hsg;have hmem:memH (Zb T.zv2 ⟨key,zvz⟩ node nb) ⟨key,zvz⟩=s.mem:=(by unfold memH;rw[HSG.out];rfl);have hd2:decide ((T.zv0.length:Int)-(s.mem.length:Int)<T.w)=false:=(by have:=HLT.out nb;rw[hmem] at this;simpa using this);have HMM:=za hmem;clear hmem;have hsl:s.mem.length≤9223372036854775807:=(HSL.out nb s HSG.out);have HNB2:Hid (w.heap.size+1+1<nb):=(show _<_ from Nat.lt_of_lt_of_le (yo z0) hnb);have HNB:Hid (w.heap.size≤nb):=(show _≤_ from Nat.le_trans HG.out.size hnb);have CH:Chg w w4 (T.blocks tb):=((Chg.of_grown HG.out (T.blocks tb)).grown (zf (zd _))).trans hC4 (fun b hb=>Or.inl hb);have HCH:=za CH;have HT4:=za hT4;clear CH hT4 hC4 hM hnb x1 y0 y1 z0 z1 k7 k8)
 refine zo (by kernel_rfl) (by kernel_rfl) ?_
 repeat (any_goals (first|go_big_quiet_step (fail)|quiet_step (fail)))
 refine wpQuiet_nil ?_;intro _ hw';obtain⟨x7,hw''⟩:=hw';subst hw'';go_wp2
 go_end0
 refine⟨rfl,nb,HNB.out,?_,?_⟩
 ·rw[zjd HRB.out,Yh]
  have e1:zt (xg T ⟨key,zvz⟩ node nb).pending ⟨key,zvz⟩=some p:=HNP.out;have e2:¬((xg T ⟨key,zvz⟩ node nb).zv0.length:Int)-(memH (xg T ⟨key,zvz⟩ node nb).zv2 ⟨key,zvz⟩).length<(xg T ⟨key,zvz⟩ node nb).w:=Int.not_lt.2 (HLT.out nb);simp only[e1];rw[if_neg e2]
  exact HT4.out.grown (by repeat (first|exact zd _|exact zc _ _ _|refine zi ?_ _|refine zg ?_ _|refine zf ?_))
 ·exact HCH.out.grown (by repeat (first|exact zd _|exact zc _ _ _|refine zi ?_ _|refine zg ?_ _|refine zf ?_))
set_option maxRecDepth 100000 in
theorem ref_d (h:yh w tb T) (c:Cmd) (hl:T.zv0.length≤9223372036854775807) (h0:0≤c.node) (h1:c.node<T.zv0.length) (p:xd) (hnp:zt T.pending ⟨c.key,c.zvz⟩=some p) (hnow:Vi T c=true) (hsl:∀nb s,zt (Zb T.zv2 ⟨c.key,c.zvz⟩ c.node nb) ⟨c.key,c.zvz⟩=some s→s.mem.length≤9223372036854775807) (hlt:∀nb,(T.zv0.length:Int)-(memH (Zb T.zv2 ⟨c.key,c.zvz⟩ c.node nb) ⟨c.key,c.zvz⟩).length<T.w) :
  Calls Tryz.prog 133 #[.pointer (some ⟨tb,0,none⟩),zp c] w fun e w'=>e = .returned (.tuple #[])∧zc3 w w' tb T c:=by
 obtain⟨kind,node,zvw,zvx,zvy,zvz,key,code⟩:=c;have htb:=h.tlt;have htb1:tb<w.heap.size+1:=by omega
 have htb2:tb<w.heap.size+1+1:=by omega
 have htb3:tb<w.heap.size+1+1+1:=by omega
 have c6:=h.c6;have hp:=h.pending;have hpl:=h.lt;have HPL:=za hpl;obtain⟨pc,pr,hpe,hlk⟩:=qj T.pb T.pending key zvz;simp only at hnp;have HPE:=za (hpe p hnp);simp only[hnp,Option.isSome_some] at hlk;have HNP:=za hnp;have HNOW:Hid (∀W,w.grownBy W none→Calls Tryz.prog 172 #[.pointer (some ⟨tb,0,none⟩),.agg #[.int .u8 kind,.int .i64 node,.int .i64 zvw,.int .i64 zvx,.int .i64 zvy,.int .i64 zvz,.string key,.int .i64 code]] W fun e w'=>e = .returned (.bool true)∧W.grownBy w' none):=
  fun W hg=>hnow ▸ Qp (h.grown hg) ⟨kind,node,zvw,zvx,zvy,zvz,key,code⟩ hl h0 h1
 have hrb:zer T ⟨kind,node,zvw,zvx,zvy,zvz,key,code⟩=true:=by simp[zer,hnp,hnow]
 have HRB:=za hrb;clear hnp hpe hnow hrb;simp only at hlt hsl;have HLT:=za hlt;have HSL:=za hsl;clear hlt hsl;have HT:=za h;clear h hpl;simp only[zp]
 go_enter Tryz.func133,Tryz.ntmps133
 go_wp2
 go_region
 go_wp2_with (go_at_call 172;refine(HNOW.out _ (by repeat (first|exact zd _|exact zc _ _ _|refine zi ?_ _|refine zg ?_ _|refine zf ?_))).mono ?_;rintro e w2 ⟨rfl,hg2⟩;have x1:w2.cell? ⟨w.heap.size,1,none⟩=some (.int .i64 node):=hg2.cell (by simp[go_sem]) (by simp);have y0:w2.cell? ⟨w.heap.size+1,0,none⟩=some (.string key):=hg2.cell (by simp[go_sem]) (by simp);have y1:w2.cell? ⟨w.heap.size+1,1,none⟩=some (.int .i64 zvz):=hg2.cell (by simp[go_sem]) (by simp);have z0:w2.cell? ⟨w.heap.size+1+1,0,none⟩=some (.int .i64 pc):=hg2.cell (by simp[go_sem]) (by simp);have z1:w2.cell? ⟨w.heap.size+1+1,1,none⟩=some (.int .i64 pr):=hg2.cell (by simp[go_sem]) (by simp);have hg:w.grownBy w2 none:=ze (by repeat (first|exact zd _|exact zc _ _ _|refine zi ?_ _|refine zg ?_ _|refine zf ?_)) hg2;have T2:=HT.out.grown hg;have k7:=T2.c7;have k8:=T2.c8;have htb4:=T2.tlt;have HG:=za hg;have HT2:=za T2;clear T2 hg hg2 c6 hp)
 go_still_tail 11,(by kernel_rfl)
 go_wp2_with (go_at_call 173;refine(Ul (HT2.out.grown (zf (zd _))).two.swap ⟨key,zvz⟩ node).mono ?_;rintro e w4 ⟨rfl,hM⟩;obtain⟨nb,hnb,hT4,hC4⟩:=(HT2.out.grown (zf (zd _))).refused hM;have y0':w4.cell? ⟨w.heap.size+1,0,none⟩=some (.string key):=hC4.cell y0 (fun hb=>absurd (HPL.out _ hb) (by simp <;> omega));have y1':w4.cell? ⟨w.heap.size+1,1,none⟩=some (.int .i64 zvz):=hC4.cell y1 (fun hb=>absurd (HPL.out _ hb) (by simp <;> omega));have z0':w4.cell? ⟨w.heap.size+1+1,0,none⟩=some (.int .i64 pc):=hC4.cell z0 (fun hb=>absurd (HPL.out _ hb) (by simp <;> omega));have z1':w4.cell? ⟨w.heap.size+1+1,1,none⟩=some (.int .i64 pr):=hC4.cell z1 (fun hb=>absurd (HPL.out _ hb) (by simp <;> omega));have k8':=hT4.c8;have k3':=hT4.c3;have k0':=hT4.c0;have hh4:=hT4.zv2;have htb5:=hT4.tlt;have hHS:w.heap.size+1+1<w4.heap.size:=yo z0';have hHS0:w.heap.size+1<w4.heap.size:=Nat.lt_of_succ_lt hHS;obtain⟨s,hsg⟩:=zbm T.zv2 ⟨key,zvz⟩ node nb;have hset:=hT4.rsets _ (yd hsg);have hls:=ud T.rb (Zb T.zv2 ⟨key,zvz⟩ node nb) key zvz (some s) hsg;have hll:=Yb s;simp only[xg] at k8' k0' k3' hh4;simp only[qr] at hset;simp only[Option.map_some] at hls;have HSG:=za hsg;clear hsg;have hmem:memH (Zb T.zv2 ⟨key,zvz⟩ node nb) ⟨key,zvz⟩=s.mem:=(by unfold memH;rw[HSG.out];rfl);have hd2:decide ((T.zv0.length:Int)-(s.mem.length:Int)<T.w)=true:=(by have:=HLT.out nb;rw[hmem] at this;simpa using this);have HMM:=za hmem;clear hmem;have hsl:s.mem.length≤9223372036854775807:=(HSL.out nb s HSG.out);have HNB2:Hid (w.heap.size+1+1<nb):=(show _<_ from Nat.lt_of_lt_of_le (yo z0) hnb);have HNB:Hid (w.heap.size≤nb):=(show _≤_ from Nat.le_trans HG.out.size hnb);have CH:Chg w w4 (T.blocks tb):=((Chg.of_grown HG.out (T.blocks tb)).grown (zf (zd _))).trans hC4 (fun b hb=>Or.inl hb);have HCH:=za CH;have HT4:=za hT4;clear CH hT4 hC4 hM hnb x1 y0 y1 z0 z1 k7 k8)
 refine zo (by kernel_rfl) (by kernel_rfl) ?_
 repeat (any_goals (first|go_big_quiet_step (fail)|quiet_step (fail)))
 refine wpQuiet_nil ?_;intro _ hw';obtain⟨x7,hw''⟩:=hw';subst hw''
 go_wp2_with (go_at_call 174;refine(zgp (HT4.out.grown (by repeat (first|exact zd _|exact zc _ _ _|refine zi ?_ _|refine zg ?_ _|refine zf ?_))) ⟨key,zvz⟩ ⟨pc,pr⟩ 181).mono ?_;rintro e w5 ⟨rfl,hT5,hC5⟩)
 go_end0
 refine⟨rfl,nb,HNB.out,?_,?_⟩
 ·rw[zjd HRB.out,Yh]
  have e1:zt (xg T ⟨key,zvz⟩ node nb).pending ⟨key,zvz⟩=some p:=HNP.out;have e2:((xg T ⟨key,zvz⟩ node nb).zv0.length:Int)-(memH (xg T ⟨key,zvz⟩ node nb).zv2 ⟨key,zvz⟩).length<(xg T ⟨key,zvz⟩ node nb).w:=HLT.out nb;simp only[e1];rw[if_pos e2,HPE.out]
  exact hT5
 ·exact(HCH.out.grown (by repeat (first|exact zd _|exact zc _ _ _|refine zi ?_ _|refine zg ?_ _|refine zf ?_))).trans hC5 (fun b hb=>(zf2 b hb).imp id (fun e=>by rw[e];exact HNB.out))
theorem ref_any (h:yh w tb T) (c:Cmd) (hl:T.zv0.length≤9223372036854775807) (h0:0≤c.node) (h1:c.node<T.zv0.length) (hsl:(memH T.zv2 ⟨c.key,c.zvz⟩).length<9223372036854775807) :
  Calls Tryz.prog 133 #[.pointer (some ⟨tb,0,none⟩),zp c] w fun e w'=>e = .returned (.tuple #[])∧zc3 w w' tb T c:=by
 cases hp:zt T.pending ⟨c.key,c.zvz⟩ with
 | none=>exact ref_a h c hl h0 h1 hp
 | some p=>
  cases hn:Vi T c
  ·exact ref_b h c hl h0 h1 p hp hn
  ·have hs:∀nb s,zt (Zb T.zv2 ⟨c.key,c.zvz⟩ c.node nb) ⟨c.key,c.zvz⟩=some s→s.mem.length≤9223372036854775807:=fun nb s hs=>by
    have h2:=Vg T.zv2 ⟨c.key,c.zvz⟩ c.node nb;unfold memH at h2 hsl;rw[hs] at h2;have h3:s.mem=um (((zt T.zv2 ⟨c.key,c.zvz⟩).map (·.mem)).getD []) c.node:=h2
    rw[h3];unfold um
    split
    ·omega
    ·simp only[List.length_append,List.length_cons,List.length_nil];omega
   by_cases hlt:(T.zv0.length:Int)-(um (memH T.zv2 ⟨c.key,c.zvz⟩) c.node).length<T.w
   ·exact ref_d h c hl h0 h1 p hp hn hs (fun nb=>by rw[Vg];exact hlt)
   ·exact ref_c h c hl h0 h1 p hp hn hs (fun nb=>by rw[Vg];exact hlt)
end
section
variable {w w1 : World} {tb : Nat} {T : Tab}
def qu (T:Tab) (i:ID) (s:ye):Bool:=decide (s.mem.length=0) || !yl T i
def Vp (T:Tab) (i:ID) (s:ye):Bool:=decide (s.mem.length=0) || !(zt T.pending i).isSome
theorem do1_any (h:zfy w tb T) (i:ID) (s:ye) (hs:qr w s) (bx:Nat) (hb:w.cell? ⟨bx,0,none⟩=some (.pointer (some ⟨tb,0,none⟩))) :
  Calls Tryz.prog 68 (#[zx i,yw s] ++ #[.pointer (some ⟨bx,0,none⟩)]) w fun e w'=>e = .returned (.bool (qu T i s))∧w.grownBy w' none:=by
 have hblt:=yo hb;have hll:=Yb s;simp only[qr] at hs;have HW:Hid (∀W,w.grownBy W none→Calls Tryz.prog 36 #[.pointer (some ⟨tb,0,none⟩),zx i] W fun e w'=>e = .returned (.bool (yl T i))∧W.grownBy w' none):=fun W hg=>zfw (h.grown hg) i
 clear h;have HS:Hid (qu T i s=(decide (s.mem.length=0) || !yl T i)):=(show _=_ from rfl)
 obtain⟨k,v⟩:=i;simp only[zx,yw] at *
 by_cases h0:s.mem.length=0
 ·have d0:((s.mem.length:Int) == 0)=true:=by simpa using h0
  go_enter Tryz.func68,Tryz.ntmps68
  go_wp2
  go_ret
  exact⟨by rw[HS.out];simp[h0],(by repeat (first|exact zd _|exact zc _ _ _|refine zi ?_ _|refine zg ?_ _|refine zf ?_))⟩
 ·have d0:((s.mem.length:Int) == 0)=false:=beq_eq_false_iff_ne.2 (by omega)
  go_enter Tryz.func68,Tryz.ntmps68
  go_wp2_with (go_at_call 36;refine(HW.out _ (by repeat (first|exact zd _|exact zc _ _ _|refine zi ?_ _|refine zg ?_ _|refine zf ?_))).mono ?_;rintro e w2 ⟨rfl,hg2⟩)
  go_ret
  exact⟨by rw[HS.out];simp[h0],ze (by repeat (first|exact zd _|exact zc _ _ _|refine zi ?_ _|refine zg ?_ _|refine zf ?_)) hg2⟩
theorem do2_any (h:zfy w tb T) (i:ID) (s:ye) (hs:qr w s) (bx:Nat) (hb:w.cell? ⟨bx,0,none⟩=some (.pointer (some ⟨tb,0,none⟩))) :
  Calls Tryz.prog 69 (#[zx i,yw s] ++ #[.pointer (some ⟨bx,0,none⟩)]) w fun e w'=>e = .returned (.bool (Vp T i s))∧w.grownBy w' none:=by
 have hblt:=yo hb;have hblt1:bx<w.heap.size+1:=Nat.lt_succ_of_lt hblt;have htb:=h.tlt;have htb1:tb<w.heap.size+1:=Nat.lt_succ_of_lt htb;have hll:=Yb s;have c6:=h.c6;have hp:=h.pending;simp only[qr] at hs;clear h;obtain⟨k,v⟩:=i;have HS:Hid (Vp T ⟨k,v⟩ s=(decide (s.mem.length=0) || !(zt T.pending ⟨k,v⟩).isSome)):=(show _=_ from rfl)
 obtain⟨pc,pr,_,hlk⟩:=qj T.pb T.pending k v;generalize (zt T.pending ⟨k,v⟩).isSome=B at *;simp only[zx,yw] at *
 by_cases h0:s.mem.length=0
 ·have d0:((s.mem.length:Int) == 0)=true:=by simpa using h0
  go_enter Tryz.func69,Tryz.ntmps69
  go_wp2
  go_region
  go_wp2
  go_ret
  exact⟨by rw[HS.out];simp[h0],(by repeat (first|exact zd _|exact zc _ _ _|refine zi ?_ _|refine zg ?_ _|refine zf ?_))⟩
 ·have d0:((s.mem.length:Int) == 0)=false:=beq_eq_false_iff_ne.2 (by omega)
  go_enter Tryz.func69,Tryz.ntmps69
  go_wp2
  go_region
  go_wp2
  go_ret
  exact⟨by rw[HS.out];simp[h0],(by repeat (first|exact zd _|exact zc _ _ _|refine zi ?_ _|refine zg ?_ _|refine zf ?_))⟩
def Us (k:Int):Nat:=if k=1 then 129 else if k=2 then 130 else if k=3 then 131 else if k=4 then 132 else if k=5 then 133 else if k=6 then 134 else 135
theorem idx_1 (w:World):(Instr.index 212 (Value.agg #[.nilFunc,.func (.func 129) #[] #[],.func (.func 130) #[] #[],.func (.func 131) #[] #[],.func (.func 132) #[] #[],.func (.func 133) #[] #[],.func (.func 134) #[] #[],.func (.func 135) #[] #[]]) (.int .u8 1)).run Tryz.prog w = .ok (.func (.func 129) #[] #[]) w:=by kernel_rfl
theorem idx_2 (w:World):(Instr.index 212 (Value.agg #[.nilFunc,.func (.func 129) #[] #[],.func (.func 130) #[] #[],.func (.func 131) #[] #[],.func (.func 132) #[] #[],.func (.func 133) #[] #[],.func (.func 134) #[] #[],.func (.func 135) #[] #[]]) (.int .u8 2)).run Tryz.prog w = .ok (.func (.func 130) #[] #[]) w:=by kernel_rfl
theorem idx_3 (w:World):(Instr.index 212 (Value.agg #[.nilFunc,.func (.func 129) #[] #[],.func (.func 130) #[] #[],.func (.func 131) #[] #[],.func (.func 132) #[] #[],.func (.func 133) #[] #[],.func (.func 134) #[] #[],.func (.func 135) #[] #[]]) (.int .u8 3)).run Tryz.prog w = .ok (.func (.func 131) #[] #[]) w:=by kernel_rfl
theorem idx_4 (w:World):(Instr.index 212 (Value.agg #[.nilFunc,.func (.func 129) #[] #[],.func (.func 130) #[] #[],.func (.func 131) #[] #[],.func (.func 132) #[] #[],.func (.func 133) #[] #[],.func (.func 134) #[] #[],.func (.func 135) #[] #[]]) (.int .u8 4)).run Tryz.prog w = .ok (.func (.func 132) #[] #[]) w:=by kernel_rfl
theorem idx_5 (w:World):(Instr.index 212 (Value.agg #[.nilFunc,.func (.func 129) #[] #[],.func (.func 130) #[] #[],.func (.func 131) #[] #[],.func (.func 132) #[] #[],.func (.func 133) #[] #[],.func (.func 134) #[] #[],.func (.func 135) #[] #[]]) (.int .u8 5)).run Tryz.prog w = .ok (.func (.func 133) #[] #[]) w:=by kernel_rfl
theorem idx_6 (w:World):(Instr.index 212 (Value.agg #[.nilFunc,.func (.func 129) #[] #[],.func (.func 130) #[] #[],.func (.func 131) #[] #[],.func (.func 132) #[] #[],.func (.func 133) #[] #[],.func (.func 134) #[] #[],.func (.func 135) #[] #[]]) (.int .u8 6)).run Tryz.prog w = .ok (.func (.func 134) #[] #[]) w:=by kernel_rfl
theorem idx_7 (w:World):(Instr.index 212 (Value.agg #[.nilFunc,.func (.func 129) #[] #[],.func (.func 130) #[] #[],.func (.func 131) #[] #[],.func (.func 132) #[] #[],.func (.func 133) #[] #[],.func (.func 134) #[] #[],.func (.func 135) #[] #[]]) (.int .u8 7)).run Tryz.prog w = .ok (.func (.func 135) #[] #[]) w:=by kernel_rfl
set_option maxRecDepth 100000 in
theorem ztg (k:Int) (h1:1≤k) (h7:k≤7) (w:World):Calls Tryz.prog 66 #[.int .u8 k] w fun e w'=>e = .returned (.func (.func (Us k)) #[] #[])∧w'=w:=by
 have h:k=1∨k=2∨k=3∨k=4∨k=5∨k=6∨k=7:=by omega
 rcases h with rfl|rfl|rfl|rfl|rfl|rfl|rfl
 ·have hidx:=idx_1
  go_enter Tryz.func66,Tryz.ntmps66
  go_wp2
  go_ret
  exact⟨rfl,rfl⟩
 ·have hidx:=idx_2
  go_enter Tryz.func66,Tryz.ntmps66
  go_wp2
  go_ret
  exact⟨rfl,rfl⟩
 ·have hidx:=idx_3
  go_enter Tryz.func66,Tryz.ntmps66
  go_wp2
  go_ret
  exact⟨rfl,rfl⟩
 ·have hidx:=idx_4
  go_enter Tryz.func66,Tryz.ntmps66
  go_wp2
  go_ret
  exact⟨rfl,rfl⟩
 ·have hidx:=idx_5
  go_enter Tryz.func66,Tryz.ntmps66
  go_wp2
  go_ret
  exact⟨rfl,rfl⟩
 ·have hidx:=idx_6
  go_enter Tryz.func66,Tryz.ntmps66
  go_wp2
  go_ret
  exact⟨rfl,rfl⟩
 ·have hidx:=idx_7
  go_enter Tryz.func66,Tryz.ntmps66
  go_wp2
  go_ret
  exact⟨rfl,rfl⟩
theorem yh.filterH (h:yh w tb T) (f:ID × ye→Bool) (hm:zw w1 T.hb zx yw (T.holds.filter f)) (hg:w.grownBy w1 (some T.hb)):yh w1 tb { T with holds:=T.holds.filter f }:=by
 have nd:=h.nodup;have nd0:=nd;simp only[Tab.blocks,List.nodup_cons,List.mem_cons,List.mem_append,List.mem_map,not_or,not_exists,not_and] at nd
 exact {
  cells:=(hg.block _ h.tlt (by simp;omega)).trans h.cells
  zv0:=(hg.block _ h.llt (by simp;omega)).trans h.zv0
  calls:=h.calls.kept hg (by simp;omega)
  values:=h.values.kept hg (by simp;omega)
  pending:=h.pending.kept hg (by simp;omega)
  holds:=hm
  zv2:=h.zv2.kept hg (by simp;omega)
  hsets:=fun x hx=>zw.kept (h.hsets x (List.mem_filter.1 hx).1) hg (by have:=nd.2.2.2.2.2.1.2.1 x (List.mem_filter.1 hx).1;simpa using this)
  rsets:=fun x hx=>zw.kept (h.rsets x hx) hg (by have:=nd.2.2.2.2.2.1.2.2 x hx;simpa using this)
  nodup:=by
   refine List.Nodup.sublist ?_ nd0;unfold Tab.blocks;simp only[List.cons_sublist_cons]
   exact List.Sublist.append (List.Sublist.map _ List.filter_sublist) (List.Sublist.refl _) }
theorem yh.filterR (h:yh w tb T) (f:ID × ye→Bool) (hm:zw w1 T.rb zx yw (T.zv2.filter f)) (hg:w.grownBy w1 (some T.rb)):yh w1 tb { T with zv2:=T.zv2.filter f }:=by
 have nd:=h.nodup;have nd0:=nd;simp only[Tab.blocks,List.nodup_cons,List.mem_cons,List.mem_append,List.mem_map,not_or,not_exists,not_and] at nd
 exact {
  cells:=(hg.block _ h.tlt (by simp;omega)).trans h.cells
  zv0:=(hg.block _ h.llt (by simp;omega)).trans h.zv0
  calls:=h.calls.kept hg (by simp;omega)
  values:=h.values.kept hg (by simp;omega)
  pending:=h.pending.kept hg (by simp;omega)
  holds:=h.holds.kept hg (by simp;omega)
  zv2:=hm
  hsets:=fun x hx=>zw.kept (h.hsets x hx) hg (by have:=nd.2.2.2.2.2.2.1.1 x hx;simpa using this)
  rsets:=fun x hx=>zw.kept (h.rsets x (List.mem_filter.1 hx).1) hg (by have:=nd.2.2.2.2.2.2.1.2 x (List.mem_filter.1 hx).1;simpa using this)
  nodup:=by
   refine List.Nodup.sublist ?_ nd0;unfold Tab.blocks;simp only[List.cons_sublist_cons]
   exact List.Sublist.append (List.Sublist.refl _) (List.Sublist.map _ List.filter_sublist) }
theorem yh.vh (h:yh w tb T) (hg:w.grownBy w1 (some T.hb)):zfy w1 tb T:=by
 have nd:=h.nodup;simp only[Tab.blocks,List.nodup_cons,List.mem_cons,List.mem_append,List.mem_map,not_or,not_exists,not_and] at nd
 exact⟨hg.cell h.c5 (by simp;omega),hg.cell h.c6 (by simp;omega),h.values.kept hg (by simp;omega),h.pending.kept hg (by simp;omega)⟩
theorem yh.vr (h:yh w tb T) (hg:w.grownBy w1 (some T.rb)):zfy w1 tb T:=by
 have nd:=h.nodup;simp only[Tab.blocks,List.nodup_cons,List.mem_cons,List.mem_append,List.mem_map,not_or,not_exists,not_and] at nd
 exact⟨hg.cell h.c5 (by simp;omega),hg.cell h.c6 (by simp;omega),h.values.kept hg (by simp;omega),h.pending.kept hg (by simp;omega)⟩
theorem yh.seth (h:yh w tb T) (hg:w.grownBy w1 (some T.hb)) {x:ID × ye} (hx:x∈T.holds):qr w1 x.2:=by
 have nd:=h.nodup;simp only[Tab.blocks,List.nodup_cons,List.mem_cons,List.mem_append,List.mem_map,not_or,not_exists,not_and] at nd
 exact zw.kept (h.hsets x hx) hg (by have:=nd.2.2.2.2.2.1.2.1 x hx;simpa using this)
theorem yh.setr (h:yh w tb T) (hg:w.grownBy w1 (some T.rb)) {x:ID × ye} (hx:x∈T.zv2):qr w1 x.2:=by
 have nd:=h.nodup;simp only[Tab.blocks,List.nodup_cons,List.mem_cons,List.mem_append,List.mem_map,not_or,not_exists,not_and] at nd
 exact zw.kept (h.rsets x hx) hg (by have:=nd.2.2.2.2.2.2.1.2 x hx;simpa using this)
end
end Go.Proofs.YtjfelfjobeeenaaGreat
