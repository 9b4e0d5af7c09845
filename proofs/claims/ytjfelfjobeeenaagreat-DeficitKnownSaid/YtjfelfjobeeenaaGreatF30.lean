/- DeficitTasks: walked: it answers true. Conditions: needs and tasks that lie in memory, few of them. -/
import Derived.Test.YtjfelfjobeeenaaGreatF29
import Derived.Outline
set_option linter.unusedSimpArgs false
set_option linter.unusedVariables false
namespace Go.Proofs.YtjfelfjobeeenaaGreat
open Go.RowKit Go.Sf Go.Shelf
set_option maxHeartbeats 16000000 in
set_option maxRecDepth 100000 in
theorem dtasks_any {w:World} {v bv:Value} {l:List Nd} {bs:List Tsk} (h:NRow w v l) (hb:LRead w 4 tskCells bv bs) (hl:l.length≤30) (hbl:bs.length≤60) (hn:fewN l≤600) (hk:fewK l≤1000) (most tells:Int) (ht : -1000≤tells∧tells≤1000) :
  Calls Tryz.prog 27 #[v,bv,.int .i64 most,.int .i64 tells] w fun e w'=>e = .returned (.bool true)∧w.grownBy w' none:=by
 have hraw:(rawT l).length≤600:=Nat.le_trans (fewN_raw l) hn
 obtain⟨i0,hi,hz0,hz1,hz2⟩:=info_parts infoRT
 obtain⟨pb,cb,rfl,hb2⟩:=hb
 have HB:Hid (LRead w 4 tskCells (.slice pb bs.length cb) bs):=(show LRead _ _ _ _ _ from ⟨pb,cb,rfl,hb2⟩)
 obtain⟨p,cap,rfl,hrow⟩:=h
 have HR:Hid (NRow w (.slice p l.length cap) l):=(show NRow _ _ _ from ⟨p,cap,rfl,hrow⟩)
 obtain⟨TS,hTS⟩:∃TS,TS=sortT (rawT l):=⟨_,rfl⟩
 obtain⟨NS,hNS⟩:∃NS,NS=nxB (bs.map (·.nd)) TS most:=⟨_,rfl⟩
 obtain⟨LS,hLS⟩:∃LS,LS=lostL l tells:=⟨_,rfl⟩
 have htl:TS.length≤600:=by rw[hTS,(sortT_perm _).length_eq];exact hraw
 have hnl:NS.length≤600:=by rw[hNS];exact Nat.le_trans (nxB_len _ _ _) htl
 have hll:LS.length≤600:=by rw[hLS];exact Nat.le_trans (lostL_len _ _) (by omega)
 have HFE:Hid (Calls Tryz.prog 70 #[.slice p l.length cap,.slice pb bs.length cb] w fun e w'=>e = .returned (.bool true)∧w.grownBy w' none):=(show Calls _ _ _ _ _ from few_any _ _ _ HR.out hl hbl hn hk)
 have HPL:Hid (∀W,w.grownBy W none→Calls Tryz.prog 71 #[.slice p l.length cap] W fun e w'=>∃v' ms,e = .returned v'∧ms.map (·.nd)=l∧Grows W 143 4 ndCells v' ms w'∧NRow w' v' l):=(show ∀_,_→Calls _ _ _ _ _ from fun W hg=>plain_any (HR.out.grown hg) (by omega))
 have HTK:Hid (∀W,w.grownBy W none→Calls Tryz.prog 18 #[.slice p l.length cap] W fun e w'=>∃v',e = .returned v'∧TA W w' v' TS):=(show ∀_,_→Calls _ _ _ _ _ from fun W hg=>by rw[hTS];exact tasks_any (HR.out.grown hg) (by omega) (by omega))
 have HNX:Hid (∀W,w.grownBy W none→Calls Tryz.prog 20 #[.slice p l.length cap,.slice pb bs.length cb,.int .i64 most] W fun e w'=>∃v',e = .returned v'∧TA W w' v' NS):=(show ∀_,_→Calls _ _ _ _ _ from fun W hg=>by rw[hNS,hTS];exact nextE_any most (HR.out.grown hg) (HB.out.grown hg) (by omega) (by omega) (by omega))
 have HLO:Hid (∀W,w.grownBy W none→Calls Tryz.prog 25 #[.slice p l.length cap,.int .i64 tells] W fun e w'=>∃v',e = .returned v'∧IdA W w' v' LS):=(show ∀_,_→Calls _ _ _ _ _ from fun W hg=>by rw[hLS];exact lost_any (HR.out.grown hg) tells (by omega) (by omega))
 have HRT:Hid (∀W v,NRow W v l→Calls Tryz.prog 73 #[v] W fun e w'=>∃v',e = .returned v'∧Grows W 61 4 tskCells v' TS w'):=(show ∀_ _,_→Calls _ _ _ _ _ from fun W v hv=>by rw[hTS];exact rtasks_any hv (by omega) (by omega))
 have HRN:Hid (∀W v b,NRow W v l→LRead W 4 tskCells b bs→Calls Tryz.prog 74 #[v,b,.int .i64 most] W fun e w'=>∃v',e = .returned v'∧Grows W 61 4 tskCells v' NS w'):=(show ∀_ _ _,_→_→Calls _ _ _ _ _ from fun W v b hv hb=>by rw[hNS,hTS];exact rnext_any hv hb most (by omega) (by omega) (by omega))
 have HRL:Hid (∀W v,NRow W v l→Calls Tryz.prog 75 #[v,.int .i64 tells] W fun e w'=>∃v',e = .returned v'∧Grows W 59 2 idCells v' LS w'):=(show ∀_ _,_→Calls _ _ _ _ _ from fun W v hv=>by rw[hLS];exact rlost_any hv tells (by omega))
 have HHL:Hid (∀nd∈l,nd.held≤600):=(show ∀_∈_,_ from fun nd hnd=>by
  obtain⟨i,hi,rfl⟩:=List.getElem_of_mem hnd
  have:=fewN_take (List.getElem?_eq_getElem hi)
  omega)
 have HN0:Hid (Nat.le 0 600):=(show Nat.le _ _ from Nat.zero_le _)
 clear hrow hb2 hTS hNS hLS hraw hn hk
 generalize hlm:l.length=n at *
 have HLM:=Lib.hid hlm
 generalize hbm:bs.length=m at *
 have HBM:=Lib.hid hbm
 generalize htm:TS.length=tn at *
 have HTM:=Lib.hid htm
 generalize hnm:NS.length=nn at *
 have HNM:=Lib.hid hnm
 generalize hsm:LS.length=sn at *
 have HSM:=Lib.hid hsm
 clear hlm hbm htm hnm hsm
 have HLT:Hid (TS.length≤1000000∧NS.length≤1000000∧bs.length≤1000000):=(show _∧_ from ⟨by rw[HTM.out];omega,by rw[HNM.out];omega,by rw[HBM.out];omega⟩)
 obtain⟨ht1,ht2⟩:=ht
 go_enter Tryz.func27,Tryz.ntmps27
 go_wp2_with (go_at_call 70;refine HFE.out.mono ?_;rintro e w1 ⟨rfl,hg⟩;have HG1:=Lib.hid hg;clear hg)
 go_wp2_with (go_at_call 71;refine(HPL.out _ HG1.out).mono ?_;rintro e w2 ⟨xv,ms,rfl,hms,hgr,hxr⟩;have HG2:=Lib.hid (grown_trans HG1.out hgr.grown);have HX:=Lib.hid hxr;clear hgr hxr hms)
 have H0:Hid (Grows w2 61 4 tskCells (.slice none 0 0) (bs.take 0) w2):=(show Grows _ _ _ _ _ _ _ from Grows.start _ _ _ _)
 go_loopw [10,11] (fun x i wr=>∃k:Nat,k≤m∧i = .int .i64 k∧Hid (Grows w2 61 4 tskCells x (bs.take k) wr)) (fun _ i _=>m-(intOf i).toNat)
 case atStart=>exact⟨0,Nat.zero_le _,rfl,H0⟩
 case round=>
  clear H0
  obtain⟨k,hk,rfl,hT⟩:=hrel
  have hlk:(bs.take k).length=k:=by rw[List.length_take];have:=HBM.out;omega
  rcases Nat.lt_or_ge k m with hlt|hge
  ·obtain⟨t,htk⟩:∃t,bs[k]? = some t:=⟨_,List.getElem?_eq_getElem (by rw[HBM.out];exact hlt)⟩
   have HT2:Hid (bs.take (k+1)=bs.take k ++ [t]):=(show _=_ from by rw[List.take_succ_eq_append_getElem (List.getElem?_eq_some_iff.1 htk).1,(List.getElem?_eq_some_iff.1 htk).2])
   have HCC:Hid (tskCells t = [.string t.id.key,.int .i64 t.id.ver,.int .i64 t.nd,.int .i64 t.held]):=(show _=_ from rfl)
   obtain⟨g,rfl,c0,c1,c2,c3⟩:=(HB.out.grown (grown_trans HG2.out hT.out.grown)).tsk htk
   have hgw:=cell_lt c0
   simp only at hgw
   have HLK:=Lib.hid hlk
   have HS0:Hid (∀W',w2.grownBy W' none→W'.cell? ⟨g,k*4,none⟩=some (.string t.id.key)∧W'.cell? ⟨g,k*4+1,none⟩=some (.int .i64 t.id.ver)∧W'.cell? ⟨g,k*4+2,none⟩=some (.int .i64 t.nd)∧W'.cell? ⟨g,k*4+3,none⟩=some (.int .i64 t.held)):=(show ∀_,_→_ from fun W' hg=>by
    obtain⟨g',h1,h2⟩:=(HB.out.grown (grown_trans HG2.out hg)).tsk htk
    injection h1 with h1
    injection h1 with h1
    subst h1
    exact h2)
   clear htk hlk
   obtain⟨po,co,rfl,hco,hlo⟩:=hT.out.row.form
   have HT:Hid (Grows w2 61 4 tskCells (.slice po k co) (bs.take k) wr):=(show Grows _ _ _ _ _ _ _ from by have h:=hT.out;rw[HLK.out] at h;exact h)
   rw[HLK.out]
   clear hT hco hlo
   generalize t.id.key=key at *
   generalize t.id.ver=ver at *
   generalize t.nd=nd at *
   generalize t.held=held at *
   go_upto_region 8 with fail
   have hS0:=HS0.out wr HT.out.grown
   refine wp_region_held_drew (S:=fun w':World=>w'.cell? ⟨g,k*4,none⟩=some (.string key)∧w'.cell? ⟨g,k*4+1,none⟩=some (.int .i64 ver)∧w'.cell? ⟨g,k*4+2,none⟩=some (.int .i64 nd)∧w'.cell? ⟨g,k*4+3,none⟩=some (.int .i64 held)) (by kernel_rfl) hS0 (fun hHeld=>?_)
   refine wpAnyH_take (i := 0) (oi := { dst := some 34, op := Op.move (Operand.tmp 10), type := 135, pos := "law.go:76", after := #[], guard := none }) (v := ?_) rfl (by kernel_rfl) (by kernel_rfl) (by kernel_rfl) (fun _ _ _ h => h) (Or.inl ⟨by rfl, ?_⟩) hHeld ?_
   rotate_left
   ·intro w hSw;(try dsimp only at hSw);obtain⟨s0,s1,s2,s3⟩:=hSw;go_simp;try with_reducible rfl
   (try simp only[Act.put,List.setIfInBounds_toArray,List.set_cons_zero,List.set_cons_succ])
   refine wpAnyH_take (i := 1) (oi := { dst := some 35, op := Op.move (Operand.tmp 1), type := 42, pos := "law.go:76", after := #[], guard := none }) (v := ?_) rfl (by kernel_rfl) (by kernel_rfl) (by kernel_rfl) (fun _ _ _ h => h) (Or.inl ⟨by rfl, ?_⟩) hHeld ?_
   rotate_left
   ·intro w hSw;(try dsimp only at hSw);obtain⟨s0,s1,s2,s3⟩:=hSw;go_simp;try with_reducible rfl
   (try simp only[Act.put,List.setIfInBounds_toArray,List.set_cons_zero,List.set_cons_succ])
   refine wpAnyH_take (i := 2) (oi := { dst := some 36, op := Op.move (Operand.tmp 11), type := 3, pos := "law.go:76", after := #[], guard := none }) (v := ?_) rfl (by kernel_rfl) (by kernel_rfl) (by kernel_rfl) (fun _ _ _ h => h) (Or.inl ⟨by rfl, ?_⟩) hHeld ?_
   rotate_left
   ·intro w hSw;(try dsimp only at hSw);obtain⟨s0,s1,s2,s3⟩:=hSw;go_simp;try with_reducible rfl
   (try simp only[Act.put,List.setIfInBounds_toArray,List.set_cons_zero,List.set_cons_succ])
   refine wpAnyH_take (i := 3) (oi := { dst := some 37, op := Op.indexAddr 42 (Operand.tmp 35) (Operand.tmp 36), type := 0, pos := "law.go:76", after := #[{ on := 1, ground := Ground.data }, { on := 2, ground := Ground.data }], guard := none }) (v := ?_) rfl (by kernel_rfl) (by kernel_rfl) (by kernel_rfl) (fun _ _ _ h => h) (Or.inl ⟨by rfl, ?_⟩) hHeld ?_
   rotate_left
   ·intro w hSw;(try dsimp only at hSw);obtain⟨s0,s1,s2,s3⟩:=hSw;go_simp;try with_reducible rfl
   (try simp only[Act.put,List.setIfInBounds_toArray,List.set_cons_zero,List.set_cons_succ])
   refine wpAnyH_take (i := 4) (oi := { dst := some 38, op := Op.fieldAddr 56 (Operand.tmp 37) 0, type := 0, pos := "law.go:76", after := #[{ on := 3, ground := Ground.data }], guard := none }) (v := ?_) rfl (by kernel_rfl) (by kernel_rfl) (by kernel_rfl) (fun _ _ _ h => h) (Or.inl ⟨by rfl, ?_⟩) hHeld ?_
   rotate_left
   ·intro w hSw;(try dsimp only at hSw);obtain⟨s0,s1,s2,s3⟩:=hSw;go_simp;try with_reducible rfl
   (try simp only[Act.put,List.setIfInBounds_toArray,List.set_cons_zero,List.set_cons_succ])
   refine wpAnyH_take (i := 5) (oi := { dst := some 39, op := Op.fieldAddr 54 (Operand.tmp 38) 0, type := 0, pos := "law.go:76", after := #[{ on := 4, ground := Ground.data }], guard := none }) (v := ?_) rfl (by kernel_rfl) (by kernel_rfl) (by kernel_rfl) (fun _ _ _ h => h) (Or.inl ⟨by rfl, ?_⟩) hHeld ?_
   rotate_left
   ·intro w hSw;(try dsimp only at hSw);obtain⟨s0,s1,s2,s3⟩:=hSw;go_simp;try with_reducible rfl
   (try simp only[Act.put,List.setIfInBounds_toArray,List.set_cons_zero,List.set_cons_succ])
   refine wpAnyH_take (i := 6) (oi := { dst := some 40, op := Op.load 9 (Operand.tmp 39), type := 9, pos := "law.go:76", after := #[{ on := 5, ground := Ground.data }], guard := none }) (v := ?_) rfl (by kernel_rfl) (by kernel_rfl) (by kernel_rfl) (fun _ _ _ h => h) (Or.inl ⟨by rfl, ?_⟩) hHeld ?_
   rotate_left
   ·intro w hSw;(try dsimp only at hSw);obtain⟨s0,s1,s2,s3⟩:=hSw;go_simp;try with_reducible rfl
   (try simp only[Act.put,List.setIfInBounds_toArray,List.set_cons_zero,List.set_cons_succ])
   refine wpAnyH_take (i := 7) (oi := { dst := some 41, op := Op.move (Operand.tmp 1), type := 42, pos := "law.go:76", after := #[], guard := none }) (v := ?_) rfl (by kernel_rfl) (by kernel_rfl) (by kernel_rfl) (fun _ _ _ h => h) (Or.inl ⟨by rfl, ?_⟩) hHeld ?_
   rotate_left
   ·intro w hSw;(try dsimp only at hSw);obtain⟨s0,s1,s2,s3⟩:=hSw;go_simp;try with_reducible rfl
   (try simp only[Act.put,List.setIfInBounds_toArray,List.set_cons_zero,List.set_cons_succ])
   refine wpAnyH_take (i := 8) (oi := { dst := some 42, op := Op.move (Operand.tmp 11), type := 3, pos := "law.go:76", after := #[], guard := none }) (v := ?_) rfl (by kernel_rfl) (by kernel_rfl) (by kernel_rfl) (fun _ _ _ h => h) (Or.inl ⟨by rfl, ?_⟩) hHeld ?_
   rotate_left
   ·intro w hSw;(try dsimp only at hSw);obtain⟨s0,s1,s2,s3⟩:=hSw;go_simp;try with_reducible rfl
   (try simp only[Act.put,List.setIfInBounds_toArray,List.set_cons_zero,List.set_cons_succ])
   refine wpAnyH_take (i := 9) (oi := { dst := some 43, op := Op.indexAddr 42 (Operand.tmp 41) (Operand.tmp 42), type := 0, pos := "law.go:76", after := #[{ on := 7, ground := Ground.data }, { on := 8, ground := Ground.data }], guard := none }) (v := ?_) rfl (by kernel_rfl) (by kernel_rfl) (by kernel_rfl) (fun _ _ _ h => h) (Or.inl ⟨by rfl, ?_⟩) hHeld ?_
   rotate_left
   ·intro w hSw;(try dsimp only at hSw);obtain⟨s0,s1,s2,s3⟩:=hSw;go_simp;try with_reducible rfl
   (try simp only[Act.put,List.setIfInBounds_toArray,List.set_cons_zero,List.set_cons_succ])
   refine wpAnyH_take (i := 10) (oi := { dst := some 44, op := Op.fieldAddr 56 (Operand.tmp 43) 0, type := 0, pos := "law.go:76", after := #[{ on := 9, ground := Ground.data }], guard := none }) (v := ?_) rfl (by kernel_rfl) (by kernel_rfl) (by kernel_rfl) (fun _ _ _ h => h) (Or.inl ⟨by rfl, ?_⟩) hHeld ?_
   rotate_left
   ·intro w hSw;(try dsimp only at hSw);obtain⟨s0,s1,s2,s3⟩:=hSw;go_simp;try with_reducible rfl
   (try simp only[Act.put,List.setIfInBounds_toArray,List.set_cons_zero,List.set_cons_succ])
   refine wpAnyH_take (i := 11) (oi := { dst := some 45, op := Op.fieldAddr 54 (Operand.tmp 44) 1, type := 0, pos := "law.go:76", after := #[{ on := 10, ground := Ground.data }], guard := none }) (v := ?_) rfl (by kernel_rfl) (by kernel_rfl) (by kernel_rfl) (fun _ _ _ h => h) (Or.inl ⟨by rfl, ?_⟩) hHeld ?_
   rotate_left
   ·intro w hSw;(try dsimp only at hSw);obtain⟨s0,s1,s2,s3⟩:=hSw;go_simp;try with_reducible rfl
   (try simp only[Act.put,List.setIfInBounds_toArray,List.set_cons_zero,List.set_cons_succ])
   refine wpAnyH_take (i := 12) (oi := { dst := some 46, op := Op.load 2 (Operand.tmp 45), type := 2, pos := "law.go:76", after := #[{ on := 11, ground := Ground.data }], guard := none }) (v := ?_) rfl (by kernel_rfl) (by kernel_rfl) (by kernel_rfl) (fun _ _ _ h => h) (Or.inl ⟨by rfl, ?_⟩) hHeld ?_
   rotate_left
   ·intro w hSw;(try dsimp only at hSw);obtain⟨s0,s1,s2,s3⟩:=hSw;go_simp;try with_reducible rfl
   (try simp only[Act.put,List.setIfInBounds_toArray,List.set_cons_zero,List.set_cons_succ])
   refine wpAnyH_take (i := 13) (oi := { dst := some 47, op := Op.build 59 #[(0, Operand.tmp 40), (1, Operand.tmp 46)], type := 59, pos := "law.go:76", after := #[{ on := 6, ground := Ground.data }, { on := 12, ground := Ground.data }], guard := none }) (v := ?_) rfl (by kernel_rfl) (by kernel_rfl) (by kernel_rfl) (fun _ _ _ h => h) (Or.inl ⟨by rfl, ?_⟩) hHeld ?_
   rotate_left
   ·intro w hSw;(try dsimp only at hSw);obtain⟨s0,s1,s2,s3⟩:=hSw;go_simp;try with_reducible rfl
   (try simp only[Act.put,List.setIfInBounds_toArray,List.set_cons_zero,List.set_cons_succ])
   refine wpAnyH_take (i := 14) (oi := { dst := some 48, op := Op.move (Operand.tmp 1), type := 42, pos := "law.go:76", after := #[], guard := none }) (v := ?_) rfl (by kernel_rfl) (by kernel_rfl) (by kernel_rfl) (fun _ _ _ h => h) (Or.inl ⟨by rfl, ?_⟩) hHeld ?_
   rotate_left
   ·intro w hSw;(try dsimp only at hSw);obtain⟨s0,s1,s2,s3⟩:=hSw;go_simp;try with_reducible rfl
   (try simp only[Act.put,List.setIfInBounds_toArray,List.set_cons_zero,List.set_cons_succ])
   refine wpAnyH_take (i := 15) (oi := { dst := some 49, op := Op.move (Operand.tmp 11), type := 3, pos := "law.go:76", after := #[], guard := none }) (v := ?_) rfl (by kernel_rfl) (by kernel_rfl) (by kernel_rfl) (fun _ _ _ h => h) (Or.inl ⟨by rfl, ?_⟩) hHeld ?_
   rotate_left
   ·intro w hSw;(try dsimp only at hSw);obtain⟨s0,s1,s2,s3⟩:=hSw;go_simp;try with_reducible rfl
   (try simp only[Act.put,List.setIfInBounds_toArray,List.set_cons_zero,List.set_cons_succ])
   refine wpAnyH_take (i := 16) (oi := { dst := some 50, op := Op.indexAddr 42 (Operand.tmp 48) (Operand.tmp 49), type := 0, pos := "law.go:76", after := #[{ on := 14, ground := Ground.data }, { on := 15, ground := Ground.data }], guard := none }) (v := ?_) rfl (by kernel_rfl) (by kernel_rfl) (by kernel_rfl) (fun _ _ _ h => h) (Or.inl ⟨by rfl, ?_⟩) hHeld ?_
   rotate_left
   ·intro w hSw;(try dsimp only at hSw);obtain⟨s0,s1,s2,s3⟩:=hSw;go_simp;try with_reducible rfl
   (try simp only[Act.put,List.setIfInBounds_toArray,List.set_cons_zero,List.set_cons_succ])
   refine wpAnyH_take (i := 17) (oi := { dst := some 51, op := Op.fieldAddr 56 (Operand.tmp 50) 1, type := 0, pos := "law.go:76", after := #[{ on := 16, ground := Ground.data }], guard := none }) (v := ?_) rfl (by kernel_rfl) (by kernel_rfl) (by kernel_rfl) (fun _ _ _ h => h) (Or.inl ⟨by rfl, ?_⟩) hHeld ?_
   rotate_left
   ·intro w hSw;(try dsimp only at hSw);obtain⟨s0,s1,s2,s3⟩:=hSw;go_simp;try with_reducible rfl
   (try simp only[Act.put,List.setIfInBounds_toArray,List.set_cons_zero,List.set_cons_succ])
   refine wpAnyH_take (i := 18) (oi := { dst := some 52, op := Op.load 3 (Operand.tmp 51), type := 3, pos := "law.go:76", after := #[{ on := 17, ground := Ground.data }], guard := none }) (v := ?_) rfl (by kernel_rfl) (by kernel_rfl) (by kernel_rfl) (fun _ _ _ h => h) (Or.inl ⟨by rfl, ?_⟩) hHeld ?_
   rotate_left
   ·intro w hSw;(try dsimp only at hSw);obtain⟨s0,s1,s2,s3⟩:=hSw;go_simp;try with_reducible rfl
   (try simp only[Act.put,List.setIfInBounds_toArray,List.set_cons_zero,List.set_cons_succ])
   refine wpAnyH_take (i := 19) (oi := { dst := some 53, op := Op.move (Operand.tmp 1), type := 42, pos := "law.go:76", after := #[], guard := none }) (v := ?_) rfl (by kernel_rfl) (by kernel_rfl) (by kernel_rfl) (fun _ _ _ h => h) (Or.inl ⟨by rfl, ?_⟩) hHeld ?_
   rotate_left
   ·intro w hSw;(try dsimp only at hSw);obtain⟨s0,s1,s2,s3⟩:=hSw;go_simp;try with_reducible rfl
   (try simp only[Act.put,List.setIfInBounds_toArray,List.set_cons_zero,List.set_cons_succ])
   refine wpAnyH_take (i := 20) (oi := { dst := some 54, op := Op.move (Operand.tmp 11), type := 3, pos := "law.go:76", after := #[], guard := none }) (v := ?_) rfl (by kernel_rfl) (by kernel_rfl) (by kernel_rfl) (fun _ _ _ h => h) (Or.inl ⟨by rfl, ?_⟩) hHeld ?_
   rotate_left
   ·intro w hSw;(try dsimp only at hSw);obtain⟨s0,s1,s2,s3⟩:=hSw;go_simp;try with_reducible rfl
   (try simp only[Act.put,List.setIfInBounds_toArray,List.set_cons_zero,List.set_cons_succ])
   refine wpAnyH_take (i := 21) (oi := { dst := some 55, op := Op.indexAddr 42 (Operand.tmp 53) (Operand.tmp 54), type := 0, pos := "law.go:76", after := #[{ on := 19, ground := Ground.data }, { on := 20, ground := Ground.data }], guard := none }) (v := ?_) rfl (by kernel_rfl) (by kernel_rfl) (by kernel_rfl) (fun _ _ _ h => h) (Or.inl ⟨by rfl, ?_⟩) hHeld ?_
   rotate_left
   ·intro w hSw;(try dsimp only at hSw);obtain⟨s0,s1,s2,s3⟩:=hSw;go_simp;try with_reducible rfl
   (try simp only[Act.put,List.setIfInBounds_toArray,List.set_cons_zero,List.set_cons_succ])
   refine wpAnyH_take (i := 22) (oi := { dst := some 56, op := Op.fieldAddr 56 (Operand.tmp 55) 2, type := 0, pos := "law.go:76", after := #[{ on := 21, ground := Ground.data }], guard := none }) (v := ?_) rfl (by kernel_rfl) (by kernel_rfl) (by kernel_rfl) (fun _ _ _ h => h) (Or.inl ⟨by rfl, ?_⟩) hHeld ?_
   rotate_left
   ·intro w hSw;(try dsimp only at hSw);obtain⟨s0,s1,s2,s3⟩:=hSw;go_simp;try with_reducible rfl
   (try simp only[Act.put,List.setIfInBounds_toArray,List.set_cons_zero,List.set_cons_succ])
   refine wpAnyH_take (i := 23) (oi := { dst := some 57, op := Op.load 3 (Operand.tmp 56), type := 3, pos := "law.go:76", after := #[{ on := 22, ground := Ground.data }], guard := none }) (v := ?_) rfl (by kernel_rfl) (by kernel_rfl) (by kernel_rfl) (fun _ _ _ h => h) (Or.inl ⟨by rfl, ?_⟩) hHeld ?_
   rotate_left
   ·intro w hSw;(try dsimp only at hSw);obtain⟨s0,s1,s2,s3⟩:=hSw;go_simp;try with_reducible rfl
   (try simp only[Act.put,List.setIfInBounds_toArray,List.set_cons_zero,List.set_cons_succ])
   refine wpAnyH_take (i := 24) (oi := { dst := some 58, op := Op.build 61 #[(0, Operand.tmp 47), (1, Operand.tmp 52), (2, Operand.tmp 57)], type := 61, pos := "law.go:76", after := #[{ on := 13, ground := Ground.data }, { on := 18, ground := Ground.data }, { on := 23, ground := Ground.data }], guard := none }) (v := ?_) rfl (by kernel_rfl) (by kernel_rfl) (by kernel_rfl) (fun _ _ _ h => h) (Or.inl ⟨by rfl, ?_⟩) hHeld ?_
   rotate_left
   ·intro w hSw;(try dsimp only at hSw);obtain⟨s0,s1,s2,s3⟩:=hSw;go_simp;try with_reducible rfl
   (try simp only[Act.put,List.setIfInBounds_toArray,List.set_cons_zero,List.set_cons_succ])
   refine wpAnyH_ready (rs:=[25]) (by kernel_rfl) (by simp) ?_
   refine AllReadyH.cons (o := { dst := some 59, op := Op.buildSlice 135 1 #[(0, Operand.tmp 58)], type := 135, pos := "law.go:76", after := #[{ on := 24, ground := Ground.data }], guard := none }) rfl (fun K hK => ?_) AllReadyH.nil
   go_simp
   refine hK.out _ _ (HS0.out _ (grown_trans HT.out.grown (by repeat (first|exact grown_refl _|exact grown_drewN _ _|refine grown_alloc ?_ _|refine grown_drew ?_)))) (fun hHeld=>?_)
   clear hK K
   (try simp only[Act.put,List.setIfInBounds_toArray,List.set_cons_zero,List.set_cons_succ])
   refine wpAnyH_ready (rs:=[26]) (by kernel_rfl) (by simp) ?_
   refine AllReadyH.cons (o := { dst := some 60, op := Op.call { callee := Callee.builtin Builtin.append, args := #[Operand.tmp 34, Operand.tmp 59], argTypes := #[135, 135] }, type := 135, pos := "law.go:76", after := #[{ on := 0, ground := Ground.data }, { on := 25, ground := Ground.data }], guard := none }) rfl (fun K hK => ?_) AllReadyH.nil
   refine step_sapp rfl _ _ 135 rfl tsk_len oneT i0 _ 40 Tryz.underlying135 hi hz0 hz1 hz2 rfl (by decide) (by decide) (l:=bs.take k) (m:=[t]) rfl (HT.out.more (by repeat (first|exact grown_refl _|exact grown_drewN _ _|refine grown_alloc ?_ _|refine grown_drew ?_))).row rfl (yrow_at t (by rw[HCC.out];exact heap_alloc_new _ _)) (by rw[HLK.out];simp;omega) (k+1) (by rw[HLK.out];rfl) ?_
   intro p1 cap1 w1 ha1
   have HG1:Hid (Grows w2 61 4 tskCells (.slice p1 (k+1) cap1) (bs.take (k+1)) w1):=(show Grows _ _ _ _ _ _ _ from by rw[HT2.out];exact Grows.app (HT.out.more (by repeat (first|exact grown_refl _|exact grown_drewN _ _|refine grown_alloc ?_ _|refine grown_drew ?_))) ha1)
   clear ha1
   refine hK.out _ _ (HS0.out _ HG1.out.grown) (fun hHeld=>?_)
   clear hK K
   (try simp only[Act.put,List.setIfInBounds_toArray,List.set_cons_zero,List.set_cons_succ])
   refine wpAnyH_take (i := 27) (oi := { dst := some 10, op := Op.assign (Operand.tmp 60), type := 135, pos := "law.go:76", after := #[{ on := 26, ground := Ground.data }, { on := 26, ground := Ground.chain }, { on := 0, ground := Ground.phase }, { on := 1, ground := Ground.phase }, { on := 2, ground := Ground.phase }, { on := 3, ground := Ground.phase }, { on := 4, ground := Ground.phase }, { on := 5, ground := Ground.phase }, { on := 6, ground := Ground.phase }, { on := 7, ground := Ground.phase }, { on := 8, ground := Ground.phase }, { on := 9, ground := Ground.phase }, { on := 10, ground := Ground.phase }, { on := 11, ground := Ground.phase }, { on := 12, ground := Ground.phase }, { on := 13, ground := Ground.phase }, { on := 14, ground := Ground.phase }, { on := 15, ground := Ground.phase }, { on := 16, ground := Ground.phase }, { on := 17, ground := Ground.phase }, { on := 18, ground := Ground.phase }, { on := 19, ground := Ground.phase }, { on := 20, ground := Ground.phase }, { on := 21, ground := Ground.phase }, { on := 22, ground := Ground.phase }, { on := 23, ground := Ground.phase }, { on := 24, ground := Ground.phase }, { on := 25, ground := Ground.phase }, { on := 26, ground := Ground.phase }], guard := none }) (v := ?_) rfl (by kernel_rfl) (by kernel_rfl) (by kernel_rfl) (fun _ _ _ h => h) (Or.inl ⟨by rfl, ?_⟩) hHeld ?_
   rotate_left
   ·intro w hSw;(try dsimp only at hSw);obtain⟨s0,s1,s2,s3⟩:=hSw;go_simp;try with_reducible rfl
   (try simp only[Act.put,List.setIfInBounds_toArray,List.set_cons_zero,List.set_cons_succ])
   refine wpAnyH_done (by kernel_rfl) ?_ _
   clear c0 c1 c2 c3 hS0
   go_wp2
   go_roundw
   case rel=>exact⟨k+1,by omega,by go_num,HG1⟩
   case measure=>simp[intOf];omega
  ·obtain rfl:k=m:=by omega
   have HE:Hid (Grows w2 61 4 tskCells u10 bs wr):=(show Grows _ _ _ _ _ _ _ from by
    have:=hT.out
    rwa [List.take_of_length_le (by rw[HBM.out];exact Nat.le_refl _)] at this)
   clear hT hlk
   obtain⟨pB,cB,hbB,-,-⟩:=HE.out.row.form
   rw[HBM.out] at hbB
   subst hbB
   have HW3:=Lib.hid (grown_trans HG2.out HE.out.grown)
   have HX3:=Lib.hid (HX.out.grown HE.out.grown)
   have HB3:=Lib.hid (HE.out.row.lread tsk_len)
   clear HE HX
   obtain⟨w3,hw3⟩:∃x:World,x=wr:=⟨_,rfl⟩
   rw[←hw3] at HW3 HX3 HB3 ⊢
   clear hw3
   go_wp2
   go_loopw [12] (fun s wl=>∃t:Nat,t≤2∧s = .int .i64 t∧Hid (w3.grownBy wl none)) (fun s _=>2-(intOf s).toNat)
   case atStart=>exact⟨0,by omega,rfl,(show w3.grownBy w3 none from grown_refl _)⟩
   case round=>
    obtain⟨t,ht,rfl,hG⟩:=hrel
    have HG:=Lib.hid hG.out
    clear hG
    rcases Nat.lt_or_ge t 2 with hlt|hgt
    ·obtain⟨wq,hwq⟩:∃x:World,x=wr:=⟨_,rfl⟩
     rw[←hwq] at HG ⊢
     clear hwq
     have HWQ:=Lib.hid (grown_trans HW3.out HG.out)
     go_wp2_with (go_at_call 18;refine(HTK.out _ HWQ.out).mono ?_;rintro e w4 ⟨av,rfl,hta⟩;obtain⟨pa,ca,rfl⟩:=hta.len;rw[HTM.out];rw[HTM.out] at hta;have HTA:=Lib.hid hta;clear hta)
     go_wp2_with (go_at_call 20;refine(HNX.out _ (grown_trans HWQ.out HTA.out.2)).mono ?_;rintro e w5 ⟨nv,rfl,hta⟩;obtain⟨pn,cn,rfl⟩:=hta.len;rw[HNM.out];rw[HNM.out] at hta;have HNA:=Lib.hid hta;clear hta)
     have HG5:=Lib.hid (grown_trans HTA.out.2 HNA.out.2)
     go_wp2_with (go_at_call 73;refine(HRT.out _ _ (HX3.out.grown (grown_trans HG.out HG5.out))).mono ?_;rintro e w6 ⟨rv,rfl,hgr⟩;obtain⟨pr,cr,rfl,-,-⟩:=hgr.row.form;rw[HTM.out];rw[HTM.out] at hgr;have HR6:=Lib.hid hgr;clear hgr)
     go_wp2_with (go_at_call 72;have hcc:=ltasks_any (l:=TS) ((ta_lread HTA.out).grown (grown_trans HNA.out.2 HR6.out.grown)) (HR6.out.row.lread tsk_len) HLT.out.1;(with_reducible refine hcc.mono ?_);clear hcc;rintro e w7 ⟨rfl,hg⟩;have HG7:=Lib.hid (grown_trans HR6.out.grown hg);clear hg)
     go_wp2_with (go_at_call 74;refine(HRN.out _ _ _ (HX3.out.grown (grown_trans (grown_trans HG.out HG5.out) HG7.out)) (HB3.out.grown (grown_trans (grown_trans HG.out HG5.out) HG7.out))).mono ?_;rintro e w8 ⟨rv,rfl,hgr⟩;obtain⟨ps,cs,rfl,-,-⟩:=hgr.row.form;rw[HNM.out];rw[HNM.out] at hgr;have HR8:=Lib.hid hgr;clear hgr)
     go_wp2_with (go_at_call 72;have hcc:=ltasks_any (l:=NS) ((ta_lread HNA.out).grown (grown_trans HG7.out HR8.out.grown)) (HR8.out.row.lread tsk_len) HLT.out.2.1;(with_reducible refine hcc.mono ?_);clear hcc;rintro e w9 ⟨rfl,hg⟩;have HG9:=Lib.hid (grown_trans HR8.out.grown hg);clear hg)
     have HG10:=Lib.hid (grown_trans (grown_trans HG5.out HG7.out) HG9.out)
     go_wp2_with (go_at_call 72;have hcc:=ltasks_any (l:=bs) (HB.out.grown (grown_trans HWQ.out HG10.out)) (HB3.out.grown (grown_trans HG.out HG10.out)) HLT.out.2.2;(with_reducible refine hcc.mono ?_);clear hcc;rintro e w10 ⟨rfl,hg⟩;have HG11:=Lib.hid (grown_trans HG10.out hg);have HGZ:=Lib.hid (grown_trans (grown_trans HG7.out HG9.out) hg);clear hg)
     have HS:Hid (Spl2 wq w10 56 (.slice pa tn ca) tn (.slice pn nn cn) nn):=(show Spl2 _ _ _ _ _ _ _ from by
      have h1:=spoil_own HTA.out.1
      have h2:=spoil_own HNA.out.1
      rw[HTM.out] at h1
      rw[HNM.out] at h2
      exact⟨(h1.grown HNA.out.2).grown HGZ.out,(h2.le HTA.out.2.size).grown HGZ.out,HG11.out⟩)
     clear HTA HNA HR6 HR8 HG5 HG7 HG9 HG10 HG11 HGZ
     go_loopw [15] (fun s wl=>∃i:Nat,i≤tn∧s = .int .i64 i∧Hid (Spl2 wq wl 56 (.slice pa tn ca) tn (.slice pn nn cn) nn)) (fun s _=>tn-(intOf s).toNat)
     case atStart=>exact⟨0,Nat.zero_le _,rfl,HS⟩
     case round=>
      clear HS
      obtain⟨i,hia,rfl,hS⟩:=hrel
      have HSa:=Lib.hid hS.out
      clear hS
      rcases Nat.lt_or_ge i tn with hlt|hge
      ·obtain⟨g,u,hp,hgB,hgw,hc,hf⟩:=HSa.out.a.cell hlt (j:=2) (by omega)
       subst hp
       have HB9:=Lib.hid hgB
       clear hgB
       go_wp2
       go_roundw
       case rel=>exact⟨i+1,by omega,by go_num,(show Spl2 _ _ _ _ _ _ _ from HSa.out.set HB9.out)⟩
       case measure=>simp[intOf];omega
      ·obtain rfl:tn=i:=by omega
       go_wp2
       go_loopw [16] (fun s wl=>∃i:Nat,i≤nn∧s = .int .i64 i∧Hid (Spl2 wq wl 56 (.slice pa tn ca) tn (.slice pn nn cn) nn)) (fun s _=>nn-(intOf s).toNat)
       case atStart=>exact⟨0,Nat.zero_le _,rfl,HSa⟩
       case round=>
        clear HSa
        obtain⟨i,hib,rfl,hS⟩:=hrel
        have HSb:=Lib.hid hS.out
        clear hS
        rcases Nat.lt_or_ge i nn with hlt|hge
        ·obtain⟨g,u,hp,hgB,hgw,hc,hf⟩:=HSb.out.b.cell hlt (j:=2) (by omega)
         subst hp
         have HB9:=Lib.hid hgB
         clear hgB
         go_wp2
         go_roundw
         case rel=>exact⟨i+1,by omega,by go_num,(show Spl2 _ _ _ _ _ _ _ from HSb.out.set HB9.out)⟩
         case measure=>simp[intOf];omega
        ·obtain rfl:nn=i:=by omega
         have HG9:=Lib.hid (grown_trans HG.out HSb.out.g)
         clear HSb
         go_wp2
         go_roundw
         case rel=>exact⟨t+1,by omega,by go_num,HG9⟩
         case measure=>simp[intOf];omega
    ·obtain rfl:t=2:=by omega
     have HG4:=Lib.hid (grown_trans HW3.out HG.out)
     go_wp2_with (go_at_call 25;refine(HLO.out _ HG4.out).mono ?_;rintro e w4 ⟨lv,rfl,hid⟩;obtain⟨pl,cl,rfl⟩:=idRow_form hid.1;rw[HSM.out];rw[HSM.out] at hid;have HID:=Lib.hid hid;clear hid)
     go_wp2_with (go_at_call 75;refine(HRL.out _ _ (HX3.out.grown (grown_trans HG.out HID.out.2))).mono ?_;rintro e w5 ⟨rv,rfl,hgr⟩;obtain⟨pr,cr,rfl,-,-⟩:=hgr.row.form;rw[HSM.out];rw[HSM.out] at hgr;have HLR:=Lib.hid hgr;clear hgr)
     have HLA:=Lib.hid ((ida_lread HID.out).grown HLR.out.grown)
     have HLB:=Lib.hid (HLR.out.row.lread lenID)
     have HG6:=Lib.hid (grown_trans (grown_trans HG4.out HID.out.2) HLR.out.grown)
     clear HID HLR HG HG4
     go_loopw [19] (fun s wl=>∃i:Nat,i≤sn∧s = .int .i64 i∧Hid (w5.grownBy wl none)) (fun s _=>sn-(intOf s).toNat)
     case atStart=>exact⟨0,Nat.zero_le _,rfl,(show w5.grownBy w5 none from grown_refl _)⟩
     case round=>
      obtain⟨i,hi9,rfl,hG⟩:=hrel
      have HG:=Lib.hid hG.out
      clear hG
      rcases Nat.lt_or_ge i sn with hlt|hge
      ·obtain⟨x,hx⟩:∃x,LS[i]? = some x:=⟨_,List.getElem?_eq_getElem (by rw[HSM.out];exact hlt)⟩
       obtain⟨ga,hpa,a0,a1⟩:=(HLA.out.grown HG.out).idc hx
       obtain⟨gb,hpb,b0,b1⟩:=(HLB.out.grown HG.out).idc hx
       subst hpa hpb
       have la:=cell_lt a0
       have lb:=cell_lt b0
       simp only at la lb
       clear hx
       generalize x.key=key at *
       generalize x.ver=ver at *
       have hd1:(key.toList != key.toList)=false:=by simp
       have hd2:(ver != ver)=false:=by simp
       go_upto_region 29 with fail
       refine wp_region_quiet_ext (by kernel_rfl) (by kernel_rfl) ?_
       repeat (any_goals (first|go_big_quiet_step (fail)|quiet_step (fail)))
       refine wpQuiet_nil ?_
       intro _ hw'
       obtain⟨xq,hw''⟩:=hw'
       subst hw''
       have HX9:=Lib.hid (grown_trans HG.out (grown_ext wr xq))
       clear a0 a1 b0 b1 la lb hd1 hd2
       generalize ext wr xq=wy at *
       go_wp2
       go_roundw
       case rel=>exact⟨i+1,by omega,by go_num,HX9⟩
       case measure=>simp[intOf];omega
      ·obtain rfl:i=sn:=by omega
       have HW5:=Lib.hid (grown_trans HG6.out HG.out)
       clear HG6 HLA HLB HG
       obtain⟨w6,hw6⟩:∃x:World,x=wr:=⟨_,rfl⟩
       rw[←hw6] at HW5 ⊢
       clear hw6
       go_wp2
       go_loopw [20] (fun s wl=>∃i:Nat,i≤n∧s = .int .i64 i∧Hid (w6.grownBy wl none)) (fun s _=>n-(intOf s).toNat)
       case atStart=>exact⟨0,Nat.zero_le _,rfl,(show w6.grownBy w6 none from grown_refl _)⟩
       case round=>
        obtain⟨i,hi9,rfl,hG⟩:=hrel
        have HG:=Lib.hid hG.out
        clear hG
        rcases Nat.lt_or_ge i n with hlt|hge
        ·obtain⟨nd,hnd⟩:∃nd,l[i]? = some nd:=⟨_,List.getElem?_eq_getElem (by rw[HLM.out];exact hlt)⟩
         obtain⟨g,hpg,ph,pm,ch,cm,c0,c1,c2,c3,-⟩:=nat_at (HR.out.grown (grown_trans HW5.out HG.out)) hnd
         subst hpg
         have hh:=HHL.out nd (List.mem_of_getElem? hnd)
         have hgw:=cell_lt c0
         simp only at hgw
         clear hnd
         generalize nd.id.key=key at *
         generalize nd.id.ver=ver at *
         generalize nd.held=held at *
         generalize nd.mis.length=q at *
         have hb1 : -1000≤(held:Int)-tells:=by omega
         have hb2:(held:Int)-tells≤2000:=by omega
         have hw8:IntKind.i64.wrap ((held:Int)-tells)=(held:Int)-tells:=by rw[IntKind.wrap_i64];omega
         have hd8:(((held:Int)-tells) != ((held:Int)-tells))=false:=by simp
         go_upto_region 34 with fail
         refine wp_region_quiet_ext (by kernel_rfl) (by kernel_rfl) ?_
         repeat (any_goals (first|go_big_quiet_step ((go_at_call 61;exact calls_ext (urgent_any _ _ _ _ _ _ _ _ _ _ (by omega) (by omega))))|quiet_step ((go_at_call 61;exact calls_ext (urgent_any _ _ _ _ _ _ _ _ _ _ (by omega) (by omega))))))
         refine wpQuiet_nil ?_
         intro _ hw'
         obtain⟨xq,hw''⟩:=hw'
         subst hw''
         have HX9:=Lib.hid (grown_trans HG.out (grown_ext wr xq))
         clear c0 c1 c2 c3 hgw hw8 hd8 hb1 hb2
         generalize ext wr xq=wy at *
         go_wp2
         go_roundw
         case rel=>exact⟨i+1,by omega,by go_num,HX9⟩
         case measure=>simp[intOf];omega
        ·obtain rfl:i=n:=by omega
         go_wp2_with (go_at_call 17;refine(works27_any _).mono ?_;rintro e w8 ⟨rfl,hg⟩;have HG8:=Lib.hid hg;clear hg)
         go_ret
         exact⟨rfl,grown_trans (grown_trans HW5.out HG.out) HG8.out⟩
end Go.Proofs.YtjfelfjobeeenaaGreat
