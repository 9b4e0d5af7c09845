/- The law's plain: needs as the document has them: walked. Conditions: needs that lie in memory. The law's few, tasks, sameInts: walked. Conditions: needs and tasks that lie in memory. -/
import Derived.Test.YtjfelfjobeeenaaGreatF26
import Derived.Test.YtjfelfjobeeenaaGreatF27
import Derived.Deep.RegionHeld3
set_option linter.unusedSimpArgs false
set_option linter.unusedVariables false
namespace Go.Proofs.YtjfelfjobeeenaaGreat
open Go.RowKit Go.Sf Go.Shelf
structure NdM where
 nd:Nd
 ph:Option Addr
 pm:Option Addr
 ch:Nat
 cm:Nat
def ndCells (m:NdM):List Value:=[.string m.nd.id.key,.int .i64 m.nd.id.ver,.slice m.ph m.nd.held m.ch,.slice m.pm m.nd.mis.length m.cm]
theorem ndM_len:∀x,(ndCells x).length=4:=fun _=>rfl
theorem oneN:∀x,∀u∈ndCells x,u.oneCell'=true:=fun x u hu=>by
 simp only[ndCells,List.mem_cons,List.not_mem_nil,or_false] at hu
 rcases hu with rfl|rfl|rfl|rfl <;> rfl
theorem infoRN:(Tryz.prog.info? 143).map (fun i=>(i.zero,i.size,i.bytes))=some (some (.agg #[.string ⟨#[]⟩,.int .i64 0,.slice none 0 0,.slice none 0 0]),4,72):=by kernel_rfl
theorem nrow_m {W:World} {g:Nat} {l:List Nd} (h:∀i nd,l[i]? = some nd→∃ph pm ch cm,NAt W g i nd ph pm ch cm):∃ms:List NdM,ms.map (·.nd)=l∧∀i m,ms[i]? = some m→NAt W g i m.nd m.ph m.pm m.ch m.cm:=by
 have h1:∀i:Fin l.length,∃m:NdM,m.nd=l[i]∧NAt W g i m.nd m.ph m.pm m.ch m.cm:=fun i=>by
  obtain⟨ph,pm,ch,cm,hn⟩:=h i l[i] (List.getElem?_eq_getElem i.2)
  exact⟨⟨l[i],ph,pm,ch,cm⟩,rfl,hn⟩
 have h2:=fun i=>Classical.choose_spec (h1 i)
 refine⟨List.ofFn fun i=>Classical.choose (h1 i),?_,fun i m hm=>?_⟩
 ·apply List.ext_getElem
  ·simp
  ·intro i hi1 hi2
   simp only[List.getElem_map,List.getElem_ofFn]
   exact(h2 ⟨i,hi2⟩).1
 ·rw[List.getElem?_ofFn] at hm
  split at hm
  ·rename_i hi
   cases hm
   exact(h2 ⟨i,hi⟩).2
  ·cases hm
theorem nrow_of {W0 W:World} {E:TypeId} {v:Value} {ms:List NdM} (h:SRow W E 4 ndCells v ms) (hm:∀m∈ms,m.nd.mis = []∨∃gm,m.pm=some ⟨gm,0,none⟩∧∀j x,m.nd.mis[j]? = some x→W.cell? ⟨gm,j,none⟩=some (.int .i64 x)):NRow W v (ms.map (·.nd)):=by
 obtain⟨p,cap,rfl,-,-⟩:=h.form
 refine⟨p,cap,by rw[List.length_map],?_⟩
 rcases h.at ndM_len with h0|⟨g,c,e,hc,-⟩
 ·left;rw[h0];rfl
 ·injection e with e1 e2 e3
  refine Or.inr ⟨g,e1,fun i nd hi=>?_⟩
  rw[List.getElem?_map] at hi
  obtain⟨m,hm1,rfl⟩:=Option.map_eq_some_iff.1 hi
  obtain⟨hl,rfl⟩:=List.getElem?_eq_some_iff.1 hm1
  exact⟨_,_,_,_,hc i hl 0 _ rfl,hc i hl 1 _ rfl,hc i hl 2 _ rfl,hc i hl 3 _ rfl,hm _ (List.getElem_mem hl)⟩
set_option maxHeartbeats 4000000 in
set_option maxRecDepth 100000 in
theorem plain_any {W:World} {v:Value} {l:List Nd} (h:NRow W v l) (hn:l.length≤1000000):Calls Tryz.prog 71 #[v] W fun e w'=>∃v' ms,e = .returned v'∧ms.map (·.nd)=l∧Grows W 143 4 ndCells v' ms w'∧NRow w' v' l:=by
 obtain⟨i0,hi,hz0,hz1,hz2⟩:=info_parts infoRN
 obtain⟨p,cap,rfl,hrow⟩:=h
 obtain⟨ms,hms,HMS⟩:∃ms:List NdM,ms.map (·.nd)=l∧Hid (∀i m,ms[i]? = some m→∃g,p=some ⟨g,0,none⟩∧NAt W g i m.nd m.ph m.pm m.ch m.cm):=by
  rcases hrow with h0|⟨g,rfl,hc⟩
  ·exact⟨[],by rw[h0];rfl,(show ∀_ _,_→_ from fun i m hm=>by simp at hm)⟩
  ·obtain⟨ms,h1,h2⟩:=nrow_m hc
   exact⟨ms,h1,(show ∀_ _,_→_ from fun i m hm=>⟨g,rfl,h2 i m hm⟩)⟩
 have hml:ms.length=l.length:=by rw[←hms,List.length_map]
 have H0:Hid (Grows W 143 4 ndCells (.slice none 0 0) (ms.take 0) W):=(show Grows _ _ _ _ _ _ _ from Grows.start _ _ _ _)
 have HLM:=Lib.hid hms
 clear hrow hms
 generalize hm:l.length=n at *
 have HM:=Lib.hid hm
 have HML:=Lib.hid hml
 clear hm hml
 go_enter Tryz.func71,Tryz.ntmps71
 go_wp2
 go_loopw [3,4] (fun x i wr=>∃k:Nat,k≤n∧i = .int .i64 k∧Hid (Grows W 143 4 ndCells x (ms.take k) wr)) (fun _ i _=>n-(intOf i).toNat)
 case atStart=>exact⟨0,Nat.zero_le _,rfl,H0⟩
 case round=>
  clear H0
  obtain⟨k,hk,rfl,hT⟩:=hrel
  have hlk:(ms.take k).length=k:=by rw[List.length_take];have:=HML.out;omega
  rcases Nat.lt_or_ge k n with hlt|hge
  ·obtain⟨m,hmk⟩:∃m,ms[k]? = some m:=⟨_,List.getElem?_eq_getElem (by rw[HML.out];exact hlt)⟩
   have HX:Hid (ms.take (k+1)=ms.take k ++ [m]):=(show _=_ from by rw[List.take_succ_eq_append_getElem (List.getElem?_eq_some_iff.1 hmk).1,(List.getElem?_eq_some_iff.1 hmk).2])
   have HCC:Hid (ndCells m = [.string m.nd.id.key,.int .i64 m.nd.id.ver,.slice m.ph m.nd.held m.ch,.slice m.pm m.nd.mis.length m.cm]):=(show _=_ from rfl)
   obtain⟨g,rfl,hna⟩:=HMS.out k m hmk
   obtain⟨c0,c1,c2,c3,-⟩:=hna.grown hT.out.grown
   have HLK:=Lib.hid hlk
   have HSX:Hid (∀W',W.grownBy W' none→W'.cell? ⟨g,k*4,none⟩=some (.string m.nd.id.key)∧W'.cell? ⟨g,k*4+1,none⟩=some (.int .i64 m.nd.id.ver)∧W'.cell? ⟨g,k*4+2,none⟩=some (.slice m.ph m.nd.held m.ch)∧W'.cell? ⟨g,k*4+3,none⟩=some (.slice m.pm m.nd.mis.length m.cm)):=(show ∀_,_→_ from fun W' hg=>⟨(hna.grown hg).c0,(hna.grown hg).c1,(hna.grown hg).c2,(hna.grown hg).c3⟩)
   clear hmk hna hlk
   obtain⟨po,co,rfl,hco,hlo⟩:=hT.out.row.form
   have HT:Hid (Grows W 143 4 ndCells (.slice po k co) (ms.take k) wr):=(show Grows _ _ _ _ _ _ _ from by have h:=hT.out;rw[HLK.out] at h;exact h)
   rw[HLK.out]
   clear hT hco hlo
   generalize m.nd.id.key=key at *
   generalize m.nd.id.ver=ver at *
   generalize m.nd.held=held at *
   generalize m.nd.mis.length=q at *
   generalize m.ph=ph at *
   generalize m.pm=pm at *
   generalize m.ch=ch at *
   generalize m.cm=cm at *
   have HS0:Hid (∀W',W.grownBy W' none→W'.cell? ⟨g,k*4,none⟩=some (.string key)∧W'.cell? ⟨g,k*4+1,none⟩=some (.int .i64 ver)∧W'.cell? ⟨g,k*4+2,none⟩=some (.slice ph held ch)∧W'.cell? ⟨g,k*4+3,none⟩=some (.slice pm q cm)):=HSX
   go_upto_region 5 with fail
   have hS0:=HS0.out wr HT.out.grown
   refine wp_region_held_drew (S:=fun w':World=>w'.cell? ⟨g,k*4,none⟩=some (.string key)∧w'.cell? ⟨g,k*4+1,none⟩=some (.int .i64 ver)∧w'.cell? ⟨g,k*4+2,none⟩=some (.slice ph held ch)∧w'.cell? ⟨g,k*4+3,none⟩=some (.slice pm q cm)) (by kernel_rfl) hS0 (fun hHeld=>?_)
   refine wpAnyH_take (i := 0) (oi := { dst := some 11, op := Op.move (Operand.tmp 3), type := 133, pos := "law.go:45", after := #[], guard := none }) (v := ?_) rfl (by kernel_rfl) (by kernel_rfl) (by kernel_rfl) (fun _ _ _ h => h) (Or.inl ⟨by rfl, ?_⟩) hHeld ?_
   rotate_left
   ·intro w hSw;(try dsimp only at hSw);obtain⟨s0,s1,s2,s3⟩:=hSw;go_simp;try with_reducible rfl
   (try simp only[Act.put,List.setIfInBounds_toArray,List.set_cons_zero,List.set_cons_succ])
   refine wpAnyH_take (i := 1) (oi := { dst := some 12, op := Op.move (Operand.tmp 0), type := 44, pos := "law.go:45", after := #[], guard := none }) (v := ?_) rfl (by kernel_rfl) (by kernel_rfl) (by kernel_rfl) (fun _ _ _ h => h) (Or.inl ⟨by rfl, ?_⟩) hHeld ?_
   rotate_left
   ·intro w hSw;(try dsimp only at hSw);obtain⟨s0,s1,s2,s3⟩:=hSw;go_simp;try with_reducible rfl
   (try simp only[Act.put,List.setIfInBounds_toArray,List.set_cons_zero,List.set_cons_succ])
   refine wpAnyH_take (i := 2) (oi := { dst := some 13, op := Op.move (Operand.tmp 4), type := 3, pos := "law.go:45", after := #[], guard := none }) (v := ?_) rfl (by kernel_rfl) (by kernel_rfl) (by kernel_rfl) (fun _ _ _ h => h) (Or.inl ⟨by rfl, ?_⟩) hHeld ?_
   rotate_left
   ·intro w hSw;(try dsimp only at hSw);obtain⟨s0,s1,s2,s3⟩:=hSw;go_simp;try with_reducible rfl
   (try simp only[Act.put,List.setIfInBounds_toArray,List.set_cons_zero,List.set_cons_succ])
   refine wpAnyH_take (i := 3) (oi := { dst := some 14, op := Op.indexAddr 44 (Operand.tmp 12) (Operand.tmp 13), type := 0, pos := "law.go:45", after := #[{ on := 1, ground := Ground.data }, { on := 2, ground := Ground.data }], guard := none }) (v := ?_) rfl (by kernel_rfl) (by kernel_rfl) (by kernel_rfl) (fun _ _ _ h => h) (Or.inl ⟨by rfl, ?_⟩) hHeld ?_
   rotate_left
   ·intro w hSw;(try dsimp only at hSw);obtain⟨s0,s1,s2,s3⟩:=hSw;go_simp;try with_reducible rfl
   (try simp only[Act.put,List.setIfInBounds_toArray,List.set_cons_zero,List.set_cons_succ])
   refine wpAnyH_take (i := 4) (oi := { dst := some 15, op := Op.fieldAddr 71 (Operand.tmp 14) 0, type := 0, pos := "law.go:45", after := #[{ on := 3, ground := Ground.data }], guard := none }) (v := ?_) rfl (by kernel_rfl) (by kernel_rfl) (by kernel_rfl) (fun _ _ _ h => h) (Or.inl ⟨by rfl, ?_⟩) hHeld ?_
   rotate_left
   ·intro w hSw;(try dsimp only at hSw);obtain⟨s0,s1,s2,s3⟩:=hSw;go_simp;try with_reducible rfl
   (try simp only[Act.put,List.setIfInBounds_toArray,List.set_cons_zero,List.set_cons_succ])
   refine wpAnyH_take (i := 5) (oi := { dst := some 16, op := Op.fieldAddr 54 (Operand.tmp 15) 0, type := 0, pos := "law.go:45", after := #[{ on := 4, ground := Ground.data }], guard := none }) (v := ?_) rfl (by kernel_rfl) (by kernel_rfl) (by kernel_rfl) (fun _ _ _ h => h) (Or.inl ⟨by rfl, ?_⟩) hHeld ?_
   rotate_left
   ·intro w hSw;(try dsimp only at hSw);obtain⟨s0,s1,s2,s3⟩:=hSw;go_simp;try with_reducible rfl
   (try simp only[Act.put,List.setIfInBounds_toArray,List.set_cons_zero,List.set_cons_succ])
   refine wpAnyH_take (i := 6) (oi := { dst := some 17, op := Op.load 9 (Operand.tmp 16), type := 9, pos := "law.go:45", after := #[{ on := 5, ground := Ground.data }], guard := none }) (v := ?_) rfl (by kernel_rfl) (by kernel_rfl) (by kernel_rfl) (fun _ _ _ h => h) (Or.inl ⟨by rfl, ?_⟩) hHeld ?_
   rotate_left
   ·intro w hSw;(try dsimp only at hSw);obtain⟨s0,s1,s2,s3⟩:=hSw;go_simp;try with_reducible rfl
   (try simp only[Act.put,List.setIfInBounds_toArray,List.set_cons_zero,List.set_cons_succ])
   refine wpAnyH_take (i := 7) (oi := { dst := some 18, op := Op.move (Operand.tmp 0), type := 44, pos := "law.go:45", after := #[], guard := none }) (v := ?_) rfl (by kernel_rfl) (by kernel_rfl) (by kernel_rfl) (fun _ _ _ h => h) (Or.inl ⟨by rfl, ?_⟩) hHeld ?_
   rotate_left
   ·intro w hSw;(try dsimp only at hSw);obtain⟨s0,s1,s2,s3⟩:=hSw;go_simp;try with_reducible rfl
   (try simp only[Act.put,List.setIfInBounds_toArray,List.set_cons_zero,List.set_cons_succ])
   refine wpAnyH_take (i := 8) (oi := { dst := some 19, op := Op.move (Operand.tmp 4), type := 3, pos := "law.go:45", after := #[], guard := none }) (v := ?_) rfl (by kernel_rfl) (by kernel_rfl) (by kernel_rfl) (fun _ _ _ h => h) (Or.inl ⟨by rfl, ?_⟩) hHeld ?_
   rotate_left
   ·intro w hSw;(try dsimp only at hSw);obtain⟨s0,s1,s2,s3⟩:=hSw;go_simp;try with_reducible rfl
   (try simp only[Act.put,List.setIfInBounds_toArray,List.set_cons_zero,List.set_cons_succ])
   refine wpAnyH_take (i := 9) (oi := { dst := some 20, op := Op.indexAddr 44 (Operand.tmp 18) (Operand.tmp 19), type := 0, pos := "law.go:45", after := #[{ on := 7, ground := Ground.data }, { on := 8, ground := Ground.data }], guard := none }) (v := ?_) rfl (by kernel_rfl) (by kernel_rfl) (by kernel_rfl) (fun _ _ _ h => h) (Or.inl ⟨by rfl, ?_⟩) hHeld ?_
   rotate_left
   ·intro w hSw;(try dsimp only at hSw);obtain⟨s0,s1,s2,s3⟩:=hSw;go_simp;try with_reducible rfl
   (try simp only[Act.put,List.setIfInBounds_toArray,List.set_cons_zero,List.set_cons_succ])
   refine wpAnyH_take (i := 10) (oi := { dst := some 21, op := Op.fieldAddr 71 (Operand.tmp 20) 0, type := 0, pos := "law.go:45", after := #[{ on := 9, ground := Ground.data }], guard := none }) (v := ?_) rfl (by kernel_rfl) (by kernel_rfl) (by kernel_rfl) (fun _ _ _ h => h) (Or.inl ⟨by rfl, ?_⟩) hHeld ?_
   rotate_left
   ·intro w hSw;(try dsimp only at hSw);obtain⟨s0,s1,s2,s3⟩:=hSw;go_simp;try with_reducible rfl
   (try simp only[Act.put,List.setIfInBounds_toArray,List.set_cons_zero,List.set_cons_succ])
   refine wpAnyH_take (i := 11) (oi := { dst := some 22, op := Op.fieldAddr 54 (Operand.tmp 21) 1, type := 0, pos := "law.go:45", after := #[{ on := 10, ground := Ground.data }], guard := none }) (v := ?_) rfl (by kernel_rfl) (by kernel_rfl) (by kernel_rfl) (fun _ _ _ h => h) (Or.inl ⟨by rfl, ?_⟩) hHeld ?_
   rotate_left
   ·intro w hSw;(try dsimp only at hSw);obtain⟨s0,s1,s2,s3⟩:=hSw;go_simp;try with_reducible rfl
   (try simp only[Act.put,List.setIfInBounds_toArray,List.set_cons_zero,List.set_cons_succ])
   refine wpAnyH_take (i := 12) (oi := { dst := some 23, op := Op.load 2 (Operand.tmp 22), type := 2, pos := "law.go:45", after := #[{ on := 11, ground := Ground.data }], guard := none }) (v := ?_) rfl (by kernel_rfl) (by kernel_rfl) (by kernel_rfl) (fun _ _ _ h => h) (Or.inl ⟨by rfl, ?_⟩) hHeld ?_
   rotate_left
   ·intro w hSw;(try dsimp only at hSw);obtain⟨s0,s1,s2,s3⟩:=hSw;go_simp;try with_reducible rfl
   (try simp only[Act.put,List.setIfInBounds_toArray,List.set_cons_zero,List.set_cons_succ])
   refine wpAnyH_take (i := 13) (oi := { dst := some 24, op := Op.build 59 #[(0, Operand.tmp 17), (1, Operand.tmp 23)], type := 59, pos := "law.go:45", after := #[{ on := 6, ground := Ground.data }, { on := 12, ground := Ground.data }], guard := none }) (v := ?_) rfl (by kernel_rfl) (by kernel_rfl) (by kernel_rfl) (fun _ _ _ h => h) (Or.inl ⟨by rfl, ?_⟩) hHeld ?_
   rotate_left
   ·intro w hSw;(try dsimp only at hSw);obtain⟨s0,s1,s2,s3⟩:=hSw;go_simp;try with_reducible rfl
   (try simp only[Act.put,List.setIfInBounds_toArray,List.set_cons_zero,List.set_cons_succ])
   refine wpAnyH_take (i := 14) (oi := { dst := some 25, op := Op.move (Operand.tmp 0), type := 44, pos := "law.go:45", after := #[], guard := none }) (v := ?_) rfl (by kernel_rfl) (by kernel_rfl) (by kernel_rfl) (fun _ _ _ h => h) (Or.inl ⟨by rfl, ?_⟩) hHeld ?_
   rotate_left
   ·intro w hSw;(try dsimp only at hSw);obtain⟨s0,s1,s2,s3⟩:=hSw;go_simp;try with_reducible rfl
   (try simp only[Act.put,List.setIfInBounds_toArray,List.set_cons_zero,List.set_cons_succ])
   refine wpAnyH_take (i := 15) (oi := { dst := some 26, op := Op.move (Operand.tmp 4), type := 3, pos := "law.go:45", after := #[], guard := none }) (v := ?_) rfl (by kernel_rfl) (by kernel_rfl) (by kernel_rfl) (fun _ _ _ h => h) (Or.inl ⟨by rfl, ?_⟩) hHeld ?_
   rotate_left
   ·intro w hSw;(try dsimp only at hSw);obtain⟨s0,s1,s2,s3⟩:=hSw;go_simp;try with_reducible rfl
   (try simp only[Act.put,List.setIfInBounds_toArray,List.set_cons_zero,List.set_cons_succ])
   refine wpAnyH_take (i := 16) (oi := { dst := some 27, op := Op.indexAddr 44 (Operand.tmp 25) (Operand.tmp 26), type := 0, pos := "law.go:45", after := #[{ on := 14, ground := Ground.data }, { on := 15, ground := Ground.data }], guard := none }) (v := ?_) rfl (by kernel_rfl) (by kernel_rfl) (by kernel_rfl) (fun _ _ _ h => h) (Or.inl ⟨by rfl, ?_⟩) hHeld ?_
   rotate_left
   ·intro w hSw;(try dsimp only at hSw);obtain⟨s0,s1,s2,s3⟩:=hSw;go_simp;try with_reducible rfl
   (try simp only[Act.put,List.setIfInBounds_toArray,List.set_cons_zero,List.set_cons_succ])
   refine wpAnyH_take (i := 17) (oi := { dst := some 28, op := Op.fieldAddr 71 (Operand.tmp 27) 1, type := 0, pos := "law.go:45", after := #[{ on := 16, ground := Ground.data }], guard := none }) (v := ?_) rfl (by kernel_rfl) (by kernel_rfl) (by kernel_rfl) (fun _ _ _ h => h) (Or.inl ⟨by rfl, ?_⟩) hHeld ?_
   rotate_left
   ·intro w hSw;(try dsimp only at hSw);obtain⟨s0,s1,s2,s3⟩:=hSw;go_simp;try with_reducible rfl
   (try simp only[Act.put,List.setIfInBounds_toArray,List.set_cons_zero,List.set_cons_succ])
   refine wpAnyH_take (i := 18) (oi := { dst := some 29, op := Op.load 69 (Operand.tmp 28), type := 69, pos := "law.go:45", after := #[{ on := 17, ground := Ground.data }], guard := none }) (v := ?_) rfl (by kernel_rfl) (by kernel_rfl) (by kernel_rfl) (fun _ _ _ h => h) (Or.inl ⟨by rfl, ?_⟩) hHeld ?_
   rotate_left
   ·intro w hSw;(try dsimp only at hSw);obtain⟨s0,s1,s2,s3⟩:=hSw;go_simp;try with_reducible rfl
   (try simp only[Act.put,List.setIfInBounds_toArray,List.set_cons_zero,List.set_cons_succ])
   refine wpAnyH_take (i := 19) (oi := { dst := some 30, op := Op.move (Operand.tmp 0), type := 44, pos := "law.go:45", after := #[], guard := none }) (v := ?_) rfl (by kernel_rfl) (by kernel_rfl) (by kernel_rfl) (fun _ _ _ h => h) (Or.inl ⟨by rfl, ?_⟩) hHeld ?_
   rotate_left
   ·intro w hSw;(try dsimp only at hSw);obtain⟨s0,s1,s2,s3⟩:=hSw;go_simp;try with_reducible rfl
   (try simp only[Act.put,List.setIfInBounds_toArray,List.set_cons_zero,List.set_cons_succ])
   refine wpAnyH_take (i := 20) (oi := { dst := some 31, op := Op.move (Operand.tmp 4), type := 3, pos := "law.go:45", after := #[], guard := none }) (v := ?_) rfl (by kernel_rfl) (by kernel_rfl) (by kernel_rfl) (fun _ _ _ h => h) (Or.inl ⟨by rfl, ?_⟩) hHeld ?_
   rotate_left
   ·intro w hSw;(try dsimp only at hSw);obtain⟨s0,s1,s2,s3⟩:=hSw;go_simp;try with_reducible rfl
   (try simp only[Act.put,List.setIfInBounds_toArray,List.set_cons_zero,List.set_cons_succ])
   refine wpAnyH_take (i := 21) (oi := { dst := some 32, op := Op.indexAddr 44 (Operand.tmp 30) (Operand.tmp 31), type := 0, pos := "law.go:45", after := #[{ on := 19, ground := Ground.data }, { on := 20, ground := Ground.data }], guard := none }) (v := ?_) rfl (by kernel_rfl) (by kernel_rfl) (by kernel_rfl) (fun _ _ _ h => h) (Or.inl ⟨by rfl, ?_⟩) hHeld ?_
   rotate_left
   ·intro w hSw;(try dsimp only at hSw);obtain⟨s0,s1,s2,s3⟩:=hSw;go_simp;try with_reducible rfl
   (try simp only[Act.put,List.setIfInBounds_toArray,List.set_cons_zero,List.set_cons_succ])
   refine wpAnyH_take (i := 22) (oi := { dst := some 33, op := Op.fieldAddr 71 (Operand.tmp 32) 2, type := 0, pos := "law.go:45", after := #[{ on := 21, ground := Ground.data }], guard := none }) (v := ?_) rfl (by kernel_rfl) (by kernel_rfl) (by kernel_rfl) (fun _ _ _ h => h) (Or.inl ⟨by rfl, ?_⟩) hHeld ?_
   rotate_left
   ·intro w hSw;(try dsimp only at hSw);obtain⟨s0,s1,s2,s3⟩:=hSw;go_simp;try with_reducible rfl
   (try simp only[Act.put,List.setIfInBounds_toArray,List.set_cons_zero,List.set_cons_succ])
   refine wpAnyH_take (i := 23) (oi := { dst := some 34, op := Op.load 69 (Operand.tmp 33), type := 69, pos := "law.go:45", after := #[{ on := 22, ground := Ground.data }], guard := none }) (v := ?_) rfl (by kernel_rfl) (by kernel_rfl) (by kernel_rfl) (fun _ _ _ h => h) (Or.inl ⟨by rfl, ?_⟩) hHeld ?_
   rotate_left
   ·intro w hSw;(try dsimp only at hSw);obtain⟨s0,s1,s2,s3⟩:=hSw;go_simp;try with_reducible rfl
   (try simp only[Act.put,List.setIfInBounds_toArray,List.set_cons_zero,List.set_cons_succ])
   refine wpAnyH_take (i := 24) (oi := { dst := some 35, op := Op.build 143 #[(0, Operand.tmp 24), (1, Operand.tmp 29), (2, Operand.tmp 34)], type := 143, pos := "law.go:45", after := #[{ on := 13, ground := Ground.data }, { on := 18, ground := Ground.data }, { on := 23, ground := Ground.data }], guard := none }) (v := ?_) rfl (by kernel_rfl) (by kernel_rfl) (by kernel_rfl) (fun _ _ _ h => h) (Or.inl ⟨by rfl, ?_⟩) hHeld ?_
   rotate_left
   ·intro w hSw;(try dsimp only at hSw);obtain⟨s0,s1,s2,s3⟩:=hSw;go_simp;try with_reducible rfl
   (try simp only[Act.put,List.setIfInBounds_toArray,List.set_cons_zero,List.set_cons_succ])
   refine wpAnyH_ready (rs:=[25]) (by kernel_rfl) (by simp) ?_
   refine AllReadyH.cons (o := { dst := some 36, op := Op.buildSlice 133 1 #[(0, Operand.tmp 35)], type := 133, pos := "law.go:45", after := #[{ on := 24, ground := Ground.data }], guard := none }) rfl (fun K hK => ?_) AllReadyH.nil
   go_simp
   refine hK.out _ _ (HS0.out _ (grown_trans HT.out.grown (by repeat (first|exact grown_refl _|exact grown_drewN _ _|refine grown_alloc ?_ _|refine grown_drew ?_)))) (fun hHeld=>?_)
   clear hK K
   (try simp only[Act.put,List.setIfInBounds_toArray,List.set_cons_zero,List.set_cons_succ])
   refine wpAnyH_ready (rs:=[26]) (by kernel_rfl) (by simp) ?_
   refine AllReadyH.cons (o := { dst := some 37, op := Op.call { callee := Callee.builtin Builtin.append, args := #[Operand.tmp 11, Operand.tmp 36], argTypes := #[133, 133] }, type := 133, pos := "law.go:45", after := #[{ on := 0, ground := Ground.data }, { on := 25, ground := Ground.data }], guard := none }) rfl (fun K hK => ?_) AllReadyH.nil
   refine step_sapp rfl _ _ 133 rfl ndM_len oneN i0 _ 72 Tryz.underlying133 hi hz0 hz1 hz2 rfl (by decide) (by decide) (l:=ms.take k) (m:=[m]) rfl (HT.out.more (by repeat (first|exact grown_refl _|exact grown_drewN _ _|refine grown_alloc ?_ _|refine grown_drew ?_))).row rfl (yrow_at m (by rw[HCC.out];exact heap_alloc_new _ _)) (by rw[HLK.out];simp;omega) (k+1) (by rw[HLK.out];rfl) ?_
   intro p1 cap1 w1 ha1
   have HG1:Hid (Grows W 143 4 ndCells (.slice p1 (k+1) cap1) (ms.take (k+1)) w1):=(show Grows _ _ _ _ _ _ _ from by rw[HX.out];exact Grows.app (HT.out.more (by repeat (first|exact grown_refl _|exact grown_drewN _ _|refine grown_alloc ?_ _|refine grown_drew ?_))) ha1)
   clear ha1
   refine hK.out _ _ (HS0.out _ HG1.out.grown) (fun hHeld=>?_)
   clear hK K
   (try simp only[Act.put,List.setIfInBounds_toArray,List.set_cons_zero,List.set_cons_succ])
   refine wpAnyH_take (i := 27) (oi := { dst := some 3, op := Op.assign (Operand.tmp 37), type := 133, pos := "law.go:45", after := #[{ on := 26, ground := Ground.data }, { on := 26, ground := Ground.chain }, { on := 0, ground := Ground.phase }, { on := 1, ground := Ground.phase }, { on := 2, ground := Ground.phase }, { on := 3, ground := Ground.phase }, { on := 4, ground := Ground.phase }, { on := 5, ground := Ground.phase }, { on := 6, ground := Ground.phase }, { on := 7, ground := Ground.phase }, { on := 8, ground := Ground.phase }, { on := 9, ground := Ground.phase }, { on := 10, ground := Ground.phase }, { on := 11, ground := Ground.phase }, { on := 12, ground := Ground.phase }, { on := 13, ground := Ground.phase }, { on := 14, ground := Ground.phase }, { on := 15, ground := Ground.phase }, { on := 16, ground := Ground.phase }, { on := 17, ground := Ground.phase }, { on := 18, ground := Ground.phase }, { on := 19, ground := Ground.phase }, { on := 20, ground := Ground.phase }, { on := 21, ground := Ground.phase }, { on := 22, ground := Ground.phase }, { on := 23, ground := Ground.phase }, { on := 24, ground := Ground.phase }, { on := 25, ground := Ground.phase }, { on := 26, ground := Ground.phase }], guard := none }) (v := ?_) rfl (by kernel_rfl) (by kernel_rfl) (by kernel_rfl) (fun _ _ _ h => h) (Or.inl ⟨by rfl, ?_⟩) hHeld ?_
   rotate_left
   ·intro w hSw;(try dsimp only at hSw);obtain⟨s0,s1,s2,s3⟩:=hSw;go_simp;try with_reducible rfl
   (try simp only[Act.put,List.setIfInBounds_toArray,List.set_cons_zero,List.set_cons_succ])
   refine wpAnyH_done (by kernel_rfl) ?_ _
   clear c0 c1 c2 c3 hS0
   go_wp2
   go_roundw
   case rel=>exact⟨k+1,by omega,by go_num,HG1⟩
   case measure=>simp[intOf];omega
  ·obtain rfl:k=n:=by omega
   have HE:Hid (Grows W 143 4 ndCells u3 ms wr):=(show Grows _ _ _ _ _ _ _ from by
    have:=hT.out
    rwa [List.take_of_length_le (by rw[HML.out];exact Nat.le_refl _)] at this)
   clear hT hlk
   go_wp2
   go_ret
   refine⟨_,ms,rfl,HLM.out,HE.out,?_⟩
   rw[←HLM.out]
   refine nrow_of (W0:=W) HE.out.row (fun m hm=>?_)
   obtain⟨i,hi2,rfl⟩:=List.getElem_of_mem hm
   obtain⟨g,-,hna⟩:=HMS.out i ms[i] (List.getElem?_eq_getElem hi2)
   exact(hna.grown HE.out.grown).m
theorem ret_bool {a b:Bool} (h:a=b):Ending.returned (.bool a) = .returned (.bool b):=by rw[h]
def fewN (l:List Nd):Nat:=(l.map fun nd=>nd.held+nd.mis.length).sum
def fewK (l:List Nd):Nat:=(l.map fun nd=>nd.id.key.size).sum
theorem fewN_take {l:List Nd} {k:Nat} {nd:Nd} (h:l[k]? = some nd):fewN (l.take (k+1))=fewN (l.take k)+nd.held+nd.mis.length∧fewN (l.take (k+1))≤fewN l:=by
 obtain⟨h1,rfl⟩:=List.getElem?_eq_some_iff.1 h
 constructor
 ·unfold fewN
  rw[List.take_succ_eq_append_getElem h1,List.map_append,List.sum_append];simp;omega
 ·have:fewN l=fewN (l.take (k+1))+fewN (l.drop (k+1)):=by
   unfold fewN;rw[←List.sum_append,←List.map_append,List.take_append_drop]
  omega
theorem fewK_take {l:List Nd} {k:Nat} {nd:Nd} (h:l[k]? = some nd):fewK (l.take (k+1))=fewK (l.take k)+nd.id.key.size∧fewK (l.take (k+1))≤fewK l:=by
 obtain⟨h1,rfl⟩:=List.getElem?_eq_some_iff.1 h
 constructor
 ·unfold fewK
  rw[List.take_succ_eq_append_getElem h1,List.map_append,List.sum_append];simp
 ·have:fewK l=fewK (l.take (k+1))+fewK (l.drop (k+1)):=by
   unfold fewK;rw[←List.sum_append,←List.map_append,List.take_append_drop]
  omega
theorem fewN_raw (l:List Nd):(rawT l).length≤fewN l:=by
 induction l with
 | nil=>simp[rawT]
 | cons a r ih=>
  unfold rawT fewN at *
  simp only[List.flatMap_cons,List.length_append,List.map_cons,List.sum_cons]
  simp only[ndT,List.length_map]
  omega
set_option maxHeartbeats 4000000 in
set_option maxRecDepth 100000 in
theorem few_any {W:World} {v:Value} {l:List Nd} (bn:Nat) (pb:Option Addr) (cb:Nat) (h:NRow W v l) (hl:l.length≤30) (hb:bn≤60) (hn:fewN l≤600) (hk:fewK l≤1000) :
  Calls Tryz.prog 70 #[v,.slice pb bn cb] W fun e w'=>e = .returned (.bool true)∧W.grownBy w' none:=by
 obtain⟨p,cap,rfl,hrow⟩:=h
 have HROW:=Lib.hid hrow
 have HN:=Lib.hid hn
 have HK:=Lib.hid hk
 have HE:Hid (fewN (l.take l.length)≤600):=(show _≤_ from by rw[List.take_length];exact hn)
 clear hrow hn hk
 generalize hm:l.length=n at *
 have HM:=Lib.hid hm
 clear hm
 have H0:Hid (fewN (l.take 0)=0∧fewK (l.take 0)=0):=(show _∧_ from ⟨rfl,rfl⟩)
 go_enter Tryz.func70,Tryz.ntmps70
 go_wp2
 go_loopw [5,6,7] (fun a b i wr=>∃k x y:Nat,k≤n∧a = .int .i64 x∧b = .int .i64 y∧i = .int .i64 k∧Hid (x=fewN (l.take k)∧y=fewK (l.take k))∧Hid (W.grownBy wr none)) (fun _ _ i _=>n-(intOf i).toNat)
 case atStart=>exact⟨0,0,0,Nat.zero_le _,rfl,rfl,rfl,(show _∧_ from ⟨H0.out.1.symm,H0.out.2.symm⟩),(show W.grownBy W none from grown_refl _)⟩
 case round=>
  clear H0
  obtain⟨k,x,y,hkn,rfl,rfl,rfl,hxy,hG⟩:=hrel
  have HXY:=Lib.hid hxy.out
  have HG:=Lib.hid hG.out
  clear hxy hG
  rcases Nat.lt_or_ge k n with hlt|hge
  ·obtain⟨nd,hnd⟩:∃nd,l[k]? = some nd:=⟨_,List.getElem?_eq_getElem (by rw[HM.out];exact hlt)⟩
   obtain⟨g,rfl,ph,pm,ch,cm,hna⟩:∃g,p=some ⟨g,0,none⟩∧∃ph pm ch cm,NAt W g k nd ph pm ch cm:=by
    rcases HROW.out with h0|⟨g,e,hc⟩
    ·rw[h0] at hnd;simp at hnd
    ·exact⟨g,e,hc k nd hnd⟩
   obtain⟨c0,c1,c2,c3,-⟩:=hna.grown HG.out
   obtain⟨n1,n2⟩:=fewN_take hnd
   obtain⟨m1,m2⟩:=fewK_take hnd
   have hx:=HXY.out
   have b1:x+nd.held+nd.mis.length≤600:=by have:=HN.out;omega
   have b2:y+nd.id.key.size≤1000:=by have:=HK.out;omega
   have HXY2:Hid (x+nd.held+nd.mis.length=fewN (l.take (k+1))∧y+nd.id.key.size=fewK (l.take (k+1))):=(show _∧_ from by omega)
   clear n1 n2 m1 m2 hx hnd hna HXY
   generalize nd.id.key=key at *
   generalize nd.id.ver=ver at *
   generalize nd.held=held at *
   generalize nd.mis.length=q at *
   have d1:decide ((600:Int)-(x:Int)<(held:Int))=false:=by simp;omega
   have d2:decide ((600:Int)-(x:Int)<(q:Int))=false:=by simp;omega
   have d3:decide ((1000:Int)-(y:Int)<(key.size:Int))=false:=by simp;omega
   go_wp2
   go_quiet (fail)
   go_wp2
   go_roundw
   case rel=>exact⟨k+1,x+held+q,y+key.size,by omega,by go_num,by go_num,by go_num,HXY2,(show _ from grown_trans HG.out (grown_drewN _ _))⟩
   case measure=>simp[intOf];omega
  ·obtain rfl:k=n:=by omega
   have hx6:x≤600:=by rw[HXY.out.1];exact HE.out
   have hx7:decide ((x:Int)≤600)=true:=by simp;omega
   go_wp2
   go_ret
   exact⟨rfl,HG.out⟩
set_option maxHeartbeats 4000000 in
set_option maxRecDepth 100000 in
theorem ltasks_any {W:World} {va vb:Value} {l:List Tsk} (ha:LRead W 4 tskCells va l) (hb:LRead W 4 tskCells vb l) (hl:l.length≤1000000) :
  Calls Tryz.prog 72 #[va,vb] W fun e w'=>e = .returned (.bool true)∧W.grownBy w' none:=by
 obtain⟨pa,ca,rfl,ha2⟩:=ha
 obtain⟨pb,cb,rfl,hb2⟩:=hb
 have HA:Hid (LRead W 4 tskCells (.slice pa l.length ca) l):=(show LRead _ _ _ _ _ from ⟨pa,ca,rfl,ha2⟩)
 have HB:Hid (LRead W 4 tskCells (.slice pb l.length cb) l):=(show LRead _ _ _ _ _ from ⟨pb,cb,rfl,hb2⟩)
 clear ha2 hb2
 generalize hm:l.length=n at *
 have HM:=Lib.hid hm
 clear hm
 go_enter Tryz.func72,Tryz.ntmps72
 go_wp2
 go_loopw [5] (fun x wr=>∃k:Nat,k≤n∧x = .int .i64 k∧Hid (W.grownBy wr none)) (fun x _=>n-(intOf x).toNat)
 case atStart=>exact⟨0,Nat.zero_le _,rfl,(show W.grownBy W none from grown_refl _)⟩
 case round=>
  obtain⟨k,hk,rfl,hG⟩:=hrel
  have HG:=Lib.hid hG.out
  clear hG
  rcases Nat.lt_or_ge k n with hlt|hge
  ·obtain⟨t,ht⟩:∃t,l[k]? = some t:=⟨_,List.getElem?_eq_getElem (by rw[HM.out];exact hlt)⟩
   obtain⟨ga,hpa,a0,a1,a2,a3⟩:=(HA.out.grown HG.out).tsk ht
   obtain⟨gb,hpb,b0,b1,b2,b3⟩:=(HB.out.grown HG.out).tsk ht
   subst hpa hpb
   have la:=cell_lt a0
   have lb:=cell_lt b0
   simp only at la lb
   clear ht
   generalize t.id.key=key at *
   generalize t.id.ver=ver at *
   generalize t.nd=nd at *
   generalize t.held=held at *
   go_upto_region 6 with fail
   refine wp_region_quiet_ext (by kernel_rfl) (by kernel_rfl) ?_
   repeat (any_goals (first|go_big_quiet_step ((go_at_call 21;exact calls_ext (lawtask_any _ _ _ _ _)))|quiet_step ((go_at_call 21;exact calls_ext (lawtask_any _ _ _ _ _)))))
   refine wpQuiet_nil ?_
   intro _ hw'
   obtain⟨xq,hw''⟩:=hw'
   subst hw''
   have HX:=Lib.hid (grown_trans HG.out (grown_ext wr xq))
   clear a0 a1 a2 a3 b0 b1 b2 b3 la lb
   generalize ext wr xq=wy at *
   go_wp2
   go_roundw
   case rel=>exact⟨k+1,by omega,by go_num,HX⟩
   case measure=>simp[intOf];omega
  ·obtain rfl:k=n:=by omega
   go_wp2
   go_ret
   exact⟨rfl,HG.out⟩
set_option maxHeartbeats 4000000 in
set_option maxRecDepth 100000 in
theorem sameInts27_any {W:World} {va vb:Value} {l:List Int} (ha:LRead W 1 cellsI va l) (hb:LRead W 1 cellsI vb l) (hl:l.length≤1000000):Calls Tryz.prog 77 #[va,vb] W fun e w'=>e = .returned (.bool true)∧W.grownBy w' none:=by
 obtain⟨pa,ca,rfl,ha⟩:=ha
 obtain⟨pb,cb,rfl,hb⟩:=hb
 have HA:=Lib.hid ha
 have HB:=Lib.hid hb
 clear ha hb
 go_enter Tryz.func77,Tryz.ntmps77
 go_wp2
 go_loopw [5] (fun x wr=>∃k:Nat,k≤l.length∧x = .int .i64 k∧W.grownBy wr none) (fun x _=>l.length-(intOf x).toNat)
 case atStart=>exact⟨0,Nat.zero_le _,rfl,grown_refl _⟩
 case round=>
  obtain⟨k,hk,rfl,hg⟩:=hrel
  have HG:=Lib.hid hg
  by_cases hlt:k<l.length
  ·obtain⟨ga,rfl,ea⟩:=HA.out.resolve_left (fun e=>by rw[e] at hlt;simp at hlt)
   obtain⟨gb,rfl,eb⟩:=HB.out.resolve_left (fun e=>by rw[e] at hlt;simp at hlt)
   have fa:wr.cell? ⟨ga,k,none⟩=some (.int .i64 l[k]):=by
    have:=hg.cell (ea k hlt 0 _ rfl) (by simp)
    simpa using this
   have fb:wr.cell? ⟨gb,k,none⟩=some (.int .i64 l[k]):=by
    have:=hg.cell (eb k hlt 0 _ rfl) (by simp)
    simpa using this
   have hd:(l[k] != l[k])=false:=by simp
   clear ea eb hg
   generalize l[k]=z at *
   go_wp2
   go_quiet (fail)
   go_wp2
   go_roundw
   case rel=>exact⟨k+1,by omega,by go_num,grown_trans HG.out (grown_drewN _ _)⟩
   case measure=>simp[intOf];omega
  ·obtain rfl:k=l.length:=by omega
   clear hg
   go_wp2
   go_ret
   exact⟨rfl,HG.out⟩
end Go.Proofs.YtjfelfjobeeenaaGreat
