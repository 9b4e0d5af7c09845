/- The journal's put: the walk. Conditions: a journal in memory, a row of bytes in protected blocks, few late writes. -/
import Derived.Test.YtbcbhlfjgobejaaGreatD31
set_option linter.unusedSimpArgs false
set_option linter.unusedVariables false
namespace Go.Proofs.YtbcbhlfjgobejaaGreat
open Go.RowKit Go.Sf Go.Shelf
attribute [local go_sem] Oper.semAt_some
def Jnl.put (J:Jnl) (k:Int) (b:List Int):Jnl × Int × Int:=
 if J.broken≠0 then (J,0,J.broken)
 else if 131071<b.length then (J,0,3)
 else (({ J with S:=(J.S.put (k :: b)).1 }:Jnl).met (J.S.put (k :: b)).2.2,(J.S.put (k :: b)).2.1,(J.S.put (k :: b)).2.2)
def PutJ (own:Nat→Prop) (W:World) (jb st db:Nat) (sv ev:Value) (es:List SlM) (jk:Nat→Prop) (J:Jnl) (k:Int) (b:List Int) (e:Ending) (w':World):Prop:=
 e = .returned (.tuple #[.int .i64 (J.put k b).2.1,.int .i64 (J.put k b).2.2])∧JAt own w' jb st db sv ev es jk (J.put k b).1∧Turn (fun k=>¬own k) W w'
def byE (x:Int):List Value:=[.int .u8 x]
theorem byE_len (x:Int):(byE x).length=1:=rfl
theorem byE_one (x:Int):∀u∈byE x,u.oneCell'=true:=fun u hu=>by
 simp only[byE,List.mem_cons,List.not_mem_nil,or_false] at hu
 subst hu;rfl
theorem byE_flat (l:List Int):l.flatMap byE=bytesV l:=by
 induction l with
 | nil=>rfl
 | cons x r ih=>rw[List.flatMap_cons,ih];rfl
theorem infoBy:∃(i:TypeInfo) (z:Value) (by_:Nat),Tryz.prog.info? 5=some i∧i.zero=some z∧i.size=1∧i.bytes=by_∧z.cells.size=1∧by_≤1000:=by
 have h:((Tryz.prog.info? 5).bind fun i=>i.zero.map fun z=>(i.size,decide (i.bytes≤1000),z.cells.size))=some (1,true,1):=by kernel_rfl
 cases hi:Tryz.prog.info? 5 with
 | none=>rw[hi] at h;cases h
 | some i=>
  rw[hi] at h
  cases hz:i.zero with
  | none=>simp[hz] at h
  | some z=>
   simp only[Option.bind_some,hz,Option.map_some,Option.some.injEq,Prod.mk.injEq,decide_eq_true_eq] at h
   exact⟨i,z,i.bytes,rfl,hz,h.1,rfl,h.2.2,h.2.1⟩
theorem RowP.y {P:Nat→Prop} {W:World} {v:Value} {b:List Int} (h:RowP P W v (bytesV b)):YRow W byE v b:=by
 obtain⟨p,cap,rfl,_,_,h3⟩:=h.ex
 refine⟨p,cap,by rw[bytesV_len],?_⟩
 rcases h3 with h3|⟨a,rfl,_,h4⟩
 ·exact Or.inl (by simpa[bytesV] using h3)
 ·exact Or.inr ⟨a,rfl,fun j u hu=>h4 j u (by rw[byE_flat] at hu;exact hu)⟩
theorem SRow.rowP {W w:World} {v:Value} {l:List Int} (h:SRow w 5 1 byE v l) (hl:l.length≤9223372036854775807) (hb:∀g,v.ownBlock=some g→W.heap.size≤g):RowP (fun k=>W.heap.size≤k∧k<w.heap.size) w v (bytesV l):=by
 have h':w.ownsRow W.heap.size 5 1 v l.length (bytesV l):=by
  have h0:w.ownsRow 0 5 1 v l.length (l.flatMap byE):=h
  rw[byE_flat] at h0
  refine⟨h0.1,?_⟩
  rcases h0.2 with e|⟨g,c,cur,e1,e2,e3⟩
  ·exact Or.inl e
  ·exact Or.inr ⟨g,c,cur,e1,hb g (by rw[e1];rfl),e3⟩
 exact NewRow.rowP h' hl
theorem one_row (X:World) (x:Int):SRow (X.alloc (.cells #[.int .u8 x] 5)).drew 5 1 byE (.slice (some ⟨X.heap.size,0,none⟩) 1 1) [x]:=by
 refine⟨rfl,Or.inr ⟨X.heap.size,1,#[.int .u8 x],rfl,Nat.zero_le _,heap_alloc_new X _,Nat.le_refl _,by decide,rfl,rfl⟩⟩
section
variable {own : Nat → Prop} {W : World} {jb st db : Nat} {sv ev : Value} {es : List SlM} {jk : Nat → Prop} {J : Jnl}
theorem put_a (h:J.broken≠0) (k:Int) (b:List Int):J.put k b=(J,0,J.broken):=by unfold Jnl.put;rw[if_pos h]
theorem put_b (h:J.broken=0) (k:Int) {b:List Int} (hb:131071<b.length):J.put k b=(J,0,3):=by unfold Jnl.put;rw[if_neg (by simp[h]),if_pos hb]
theorem put_c (h:J.broken=0) (k:Int) {b:List Int} (hb:¬131071<b.length):J.put k b=(({ J with S:=(J.S.put (k :: b)).1 }:Jnl).met (J.S.put (k :: b)).2.2,(J.S.put (k :: b)).2.1,(J.S.put (k :: b)).2.2):=by unfold Jnl.put;rw[if_neg (by simp[h]),if_neg hb]
set_option maxHeartbeats 4000000 in
set_option maxRecDepth 100000 in
theorem jput (h:JAt own W jb st db sv ev es jk J) {v:Value} {b:List Int} {k:Int} (hv:RowP own W v (bytesV b)) (hk:0≤k∧k≤255) (hbb:BL b) (hl:b.length≤10000000) (hf:J.S.d.late.length+600<1000000):Calls Tryz.prog 124 #[.pointer (some ⟨jb,0,none⟩),.int .u8 k,v] W (PutJ own W jb st db sv ev es jk J k b):=by
 have HB:=Lib.hid (jbroken h)
 have H:=Lib.hid h
 have hvg:∀w',W.grownBy w' none→RowP own w' v (bytesV b):=fun w' hg=>hv.turn fun k hk=>hg.block k (h.olt hk) (by simp)
 obtain⟨p,cap,rfl,q1,q2,-⟩:=hv.ex
 rw[bytesV_len] at q1 hvg ⊢
 have HV:=Lib.hid hvg
 clear hvg
 have c0:=h.cells.1
 by_cases hb0:J.broken=0
 ·by_cases h1:131071<b.length
  ·have HP:=Lib.hid (put_b hb0 k h1)
   have h1':(131071:Int)<(b.length:Int):=by omega
   rw[hb0] at HB
   clear h hv q1 q2 hbb hf
   generalize b.length=n at *
   go_enter Tryz.func124,Tryz.ntmps124
   go_wp2_with (go_at_call 58;refine HB.out.mono ?_;rintro e w9 ⟨rfl,h5⟩;obtain rfl:W=w9:=h5.symm)
   go_ret2
   exact⟨by rw[HP.out];rfl,by rw[HP.out];exact H.out,Turn.refl _ _⟩
  ·have HP:=Lib.hid (put_c hb0 k h1)
   have h1':((b.length:Int)>131071)=False:=by simp;omega
   have h1n:¬(131071<b.length):=h1
   rw[hb0] at HB
   have HBB:Hid (BL b):=Lib.hid hbb
   have HF:=Lib.hid hf
   have HL:=Lib.hid hl
   clear h hv q1 q2 hbb hf hl
   obtain⟨n,hn⟩:∃n,n=b.length:=⟨_,rfl⟩
   have HN:=Lib.hid hn
   rw[←hn] at h1 h1' HV h1n ⊢
   clear hn
   go_enter Tryz.func124,Tryz.ntmps124
   go_upto_region 6 with (go_at_call 58;refine HB.out.mono ?_;rintro e w9 ⟨rfl,h5⟩;obtain rfl:W=w9:=h5.symm)
   refine wp_region_held_drew (S:=fun w'=>w'.cell? ⟨jb,0,none⟩=some (.pointer (some ⟨st,0,none⟩))) (by kernel_rfl) c0 (fun hHeld=>?_)
   refine wpAnyH_take (i := 0) (oi := { dst := some 22, op := Op.move (Operand.tmp 0), type := 73, pos := "journal.go:124", after := #[], guard := none }) (v := ?_) rfl (by kernel_rfl) (by kernel_rfl) (by kernel_rfl) (fun _ _ _ h => h) (Or.inl ⟨by rfl, ?_⟩) hHeld ?_
   rotate_left
   ·intro w hSw;(try dsimp only at hSw);obtain s1:=hSw;go_simp;try with_reducible rfl
   (try simp only[Act.put,List.setIfInBounds_toArray,List.set_cons_zero,List.set_cons_succ])
   refine wpAnyH_take (i := 1) (oi := { dst := some 23, op := Op.nilCheck (Operand.tmp 22), type := 0, pos := "journal.go:124", after := #[{ on := 0, ground := Ground.data }], guard := none }) (v := ?_) rfl (by kernel_rfl) (by kernel_rfl) (by kernel_rfl) (fun _ _ _ h => h) (Or.inl ⟨by rfl, ?_⟩) hHeld ?_
   rotate_left
   ·intro w hSw;(try dsimp only at hSw);obtain s1:=hSw;go_simp;try with_reducible rfl
   (try simp only[Act.put,List.setIfInBounds_toArray,List.set_cons_zero,List.set_cons_succ])
   refine wpAnyH_take (i := 2) (oi := { dst := some 24, op := Op.fieldAddr 210 (Operand.tmp 23) 0, type := 0, pos := "journal.go:124", after := #[{ on := 1, ground := Ground.data }], guard := none }) (v := ?_) rfl (by kernel_rfl) (by kernel_rfl) (by kernel_rfl) (fun _ _ _ h => h) (Or.inl ⟨by rfl, ?_⟩) hHeld ?_
   rotate_left
   ·intro w hSw;(try dsimp only at hSw);obtain s1:=hSw;go_simp;try with_reducible rfl
   (try simp only[Act.put,List.setIfInBounds_toArray,List.set_cons_zero,List.set_cons_succ])
   refine wpAnyH_take (i := 3) (oi := { dst := some 25, op := Op.load 24 (Operand.tmp 24), type := 24, pos := "journal.go:124", after := #[{ on := 2, ground := Ground.data }], guard := none }) (v := ?_) rfl (by kernel_rfl) (by kernel_rfl) (by kernel_rfl) (fun _ _ _ h => h) (Or.inl ⟨by rfl, ?_⟩) hHeld ?_
   rotate_left
   ·intro w hSw;(try dsimp only at hSw);obtain s1:=hSw;go_simp;try with_reducible rfl
   (try simp only[Act.put,List.setIfInBounds_toArray,List.set_cons_zero,List.set_cons_succ])
   refine wpAnyH_take (i := 4) (oi := { dst := some 26, op := Op.move (Operand.tmp 1), type := 5, pos := "journal.go:124", after := #[], guard := none }) (v := ?_) rfl (by kernel_rfl) (by kernel_rfl) (by kernel_rfl) (fun _ _ _ h => h) (Or.inl ⟨by rfl, ?_⟩) hHeld ?_
   rotate_left
   ·intro w hSw;(try dsimp only at hSw);obtain s1:=hSw;go_simp;try with_reducible rfl
   (try simp only[Act.put,List.setIfInBounds_toArray,List.set_cons_zero,List.set_cons_succ])
   refine wpAnyH_take (i := 6) (oi := { dst := some 28, op := Op.move (Operand.tmp 2), type := 32, pos := "journal.go:124", after := #[], guard := none }) (v := ?_) rfl (by kernel_rfl) (by kernel_rfl) (by kernel_rfl) (fun _ _ _ h => h) (Or.inl ⟨by rfl, ?_⟩) hHeld ?_
   rotate_left
   ·intro w hSw;(try dsimp only at hSw);obtain s1:=hSw;go_simp;try with_reducible rfl
   (try simp only[Act.put,List.setIfInBounds_toArray,List.set_cons_zero,List.set_cons_succ])
   refine wpAnyH_ready (rs:=[5]) (by kernel_rfl) (by simp) ?_
   refine AllReadyH.cons (o := { dst := some 27, op := Op.buildSlice 32 1 #[(0, Operand.tmp 26)], type := 32, pos := "journal.go:124", after := #[{ on := 4, ground := Ground.data }], guard := none }) rfl (fun K hK => ?_) AllReadyH.nil
   go_simp
   have hg1:W.grownBy (W.alloc (.cells #[.int .u8 k] 5)).drew none:=grown_drew (World.grownBy_alloc _ _ none)
   have HR1:=Lib.hid (one_row W k)
   have HG1:=Lib.hid hg1
   have c1:=hg1.cell c0 (by simp)
   clear hg1
   refine hK.out _ _ c1 (fun hHeld=>?_)
   clear hK K
   (try simp only[Act.put,List.setIfInBounds_toArray,List.set_cons_zero,List.set_cons_succ])
   generalize (W.alloc (.cells #[.int .u8 k] 5)).drew=w1 at *
   obtain⟨i0,z0,by0,hi,hz0,hz1,hz2,hz3,hz4⟩:=infoBy
   refine wpAnyH_ready (rs:=[7]) (by kernel_rfl) (by simp) ?_
   refine AllReadyH.cons (o := { dst := some 29, op := Op.call { callee := Callee.builtin Builtin.append, args := #[Operand.tmp 27, Operand.tmp 28], argTypes := #[32, 32] }, type := 32, pos := "journal.go:124", after := #[{ on := 5, ground := Ground.data }, { on := 6, ground := Ground.data }], guard := none }) rfl (fun K hK => ?_) AllReadyH.nil
   refine step_sapp (E:=5) (sz:=1) (enc:=byE) (v:=.slice (some ⟨W.heap.size,0,none⟩) 1 1) (l:=[k]) (m:=b) rfl _ _ 32 rfl byE_len byE_one i0 z0 by0 Tryz.underlying32 hi hz0 hz1 hz2 hz3 (by decide) hz4 rfl HR1.out rfl (HV.out _ HG1.out).y (by have:=HL.out;simp only[List.length_cons,List.length_nil];omega) (n+1) (by rw[HN.out];simp only[List.length_cons,List.length_nil];omega) ?_
   intro p' cap' w3 hap
   have hg3:W.grownBy w3 none:=grown_ownH HG1.out hap.2.1 (fun g hb=>by simp only[Value.ownBlock] at hb;injection hb with hb;omega)
   have hr3:=SRow.rowP (W:=W) hap.1 (by have:=HL.out;simp only[List.length_append,List.length_cons,List.length_nil];omega) (fun g hg=>by
    have hz:=HG1.out.size
    rcases hap.2.2 with e|e
    ·have e2:some W.heap.size=some g:=e.symm.trans hg
     injection e2 with e2;omega
    ·have e2:=e.symm.trans hg
     injection e2 with e2;omega)
   have hj3:JAt (fun k=>own k∨(W.heap.size≤k∧k<w3.heap.size)) w3 jb st db sv ev es jk J:=H.out.oth ⟨hg3.os,hg3.tape,hg3.output,hg3.size,fun k hk _=>hg3.block k hk (by simp)⟩ (fun k hk=>hk.imp id And.left) (fun k hk=>hk.elim (fun e=>Nat.lt_of_lt_of_le (H.out.olt e) hg3.size) And.right)
   have HPT:Hid (Calls Tryz.prog 20 #[.pointer (some ⟨st,0,none⟩),.slice p' (n+1) cap'] w3 fun e w'=>e = .returned (.tuple #[.int .i64 (J.S.put (k :: b)).2.1,.int .i64 (J.S.put (k :: b)).2.2])∧JAt own w' jb st db sv ev es jk { J with S:=(J.S.put (k :: b)).1 }∧Turn (fun k=>¬own k) W w'):=(by
    obtain⟨mb,tb,rv,rb,hS⟩:=hj3.sr
    refine(sput hS (hr3.mono fun k hk=>Or.inl (Or.inr hk)) (fun x hx=>?_) (by have:=HL.out;simp only[List.length_append,List.length_cons,List.length_nil];omega) HF.out).mono ?_
    ·rcases List.mem_cons.1 hx with e|e
     ·rw[e];exact⟨hk.1,by omega⟩
     ·exact HBB.out x e
    ·rintro e w' ⟨rfl,h1,h2⟩
     have h3:=hj3.store h1 h2
     exact⟨rfl,h3.less fun k hk=>Or.inl hk,(Turn.trans (bs:=fun k=>¬own k) (a:=W) (b:=w3) ⟨hg3.os,hg3.tape,hg3.output,hg3.size,fun k hk _=>hg3.block k hk (by simp)⟩ (h2.mono fun k hk e=>hk (Or.inl (Or.inl e))))⟩)
   have c3:=hg3.cell c0 (by simp)
   clear hap hg3 hr3 hj3
   refine hK.out _ _ c3 (fun hHeld=>?_)
   clear hK K
   (try simp only[Act.put,List.setIfInBounds_toArray,List.set_cons_zero,List.set_cons_succ])
   refine wpAnyH_ready (rs:=[8]) (by kernel_rfl) (by simp) ?_
   refine AllReadyH.cons (o := { dst := some 30, op := Op.call { callee := Callee.value (Operand.func 20), args := #[Operand.tmp 25, Operand.tmp 29], argTypes := #[24, 32] }, type := 30, pos := "journal.go:124", after := #[{ on := 3, ground := Ground.data }, { on := 7, ground := Ground.data }, { on := 7, ground := Ground.chain }], guard := none }) rfl (fun K hK => ?_) AllReadyH.nil
   go_simp
   go_at_call 20
   refine HPT.out.mono ?_
   rintro e w4 ⟨rfl,hj4,ht4⟩
   have HJ4:=Lib.hid hj4
   have HT4:=Lib.hid ht4
   have c4:=hj4.cells.1
   clear hj4 ht4
   generalize (J.S.put (k :: b)).1=S2 at *
   generalize (J.S.put (k :: b)).2.1=r1 at *
   generalize (J.S.put (k :: b)).2.2=r2 at *
   refine hK.out _ _ c4 (fun hHeld=>?_)
   clear hK K
   (try simp only[Act.put,List.setIfInBounds_toArray,List.set_cons_zero,List.set_cons_succ])
   refine wpAnyH_take (i := 9) (oi := { dst := some 21, op := Op.move (Operand.tmp 30), type := 30, pos := "journal.go:124", after := #[{ on := 8, ground := Ground.data }], guard := none }) (v := ?_) rfl (by kernel_rfl) (by kernel_rfl) (by kernel_rfl) (fun _ _ _ h => h) (Or.inl ⟨by rfl, ?_⟩) hHeld ?_
   rotate_left
   ·intro w hSw;(try dsimp only at hSw);obtain -:=hSw;go_simp;try with_reducible rfl
   (try simp only[Act.put,List.setIfInBounds_toArray,List.set_cons_zero,List.set_cons_succ])
   refine wpAnyH_take (i := 10) (oi := { dst := some 31, op := Op.extract (Operand.tmp 21) 0, type := 2, pos := "journal.go:124", after := #[{ on := 9, ground := Ground.data }], guard := none }) (v := ?_) rfl (by kernel_rfl) (by kernel_rfl) (by kernel_rfl) (fun _ _ _ h => h) (Or.inl ⟨by rfl, ?_⟩) hHeld ?_
   rotate_left
   ·intro w hSw;(try dsimp only at hSw);obtain -:=hSw;go_simp;try with_reducible rfl
   (try simp only[Act.put,List.setIfInBounds_toArray,List.set_cons_zero,List.set_cons_succ])
   refine wpAnyH_take (i := 11) (oi := { dst := some 32, op := Op.extract (Operand.tmp 21) 1, type := 25, pos := "journal.go:124", after := #[{ on := 9, ground := Ground.data }, { on := 12, ground := Ground.gcOnly Departure.lateStores }], guard := none }) (v := ?_) rfl (by kernel_rfl) (by kernel_rfl) (by kernel_rfl) (fun _ _ _ h => h) (Or.inl ⟨by rfl, ?_⟩) hHeld ?_
   rotate_left
   ·intro w hSw;(try dsimp only at hSw);obtain -:=hSw;go_simp;try with_reducible rfl
   (try simp only[Act.put,List.setIfInBounds_toArray,List.set_cons_zero,List.set_cons_succ])
   refine wpAnyH_take (i := 12) (oi := { dst := some 9, op := Op.assign (Operand.tmp 31), type := 2, pos := "journal.go:124", after := #[{ on := 10, ground := Ground.data }, { on := 8, ground := Ground.chain }, { on := 0, ground := Ground.phase }, { on := 1, ground := Ground.phase }, { on := 2, ground := Ground.phase }, { on := 3, ground := Ground.phase }, { on := 4, ground := Ground.phase }, { on := 5, ground := Ground.phase }, { on := 6, ground := Ground.phase }, { on := 7, ground := Ground.phase }, { on := 8, ground := Ground.phase }, { on := 9, ground := Ground.phase }, { on := 10, ground := Ground.phase }, { on := 11, ground := Ground.textOnly Departure.lateStores }], guard := none }) (v := ?_) rfl (by kernel_rfl) (by kernel_rfl) (by kernel_rfl) (fun _ _ _ h => h) (Or.inl ⟨by rfl, ?_⟩) hHeld ?_
   rotate_left
   ·intro w hSw;(try dsimp only at hSw);obtain -:=hSw;go_simp;try with_reducible rfl
   (try simp only[Act.put,List.setIfInBounds_toArray,List.set_cons_zero,List.set_cons_succ])
   refine wpAnyH_take (i := 13) (oi := { dst := some 10, op := Op.assign (Operand.tmp 32), type := 25, pos := "journal.go:124", after := #[{ on := 11, ground := Ground.data }, { on := 12, ground := Ground.chain }, { on := 0, ground := Ground.phase }, { on := 1, ground := Ground.phase }, { on := 2, ground := Ground.phase }, { on := 3, ground := Ground.phase }, { on := 4, ground := Ground.phase }, { on := 5, ground := Ground.phase }, { on := 6, ground := Ground.phase }, { on := 7, ground := Ground.phase }, { on := 8, ground := Ground.phase }, { on := 9, ground := Ground.phase }, { on := 10, ground := Ground.phase }, { on := 11, ground := Ground.phase }, { on := 12, ground := Ground.phase }], guard := none }) (v := ?_) rfl (by kernel_rfl) (by kernel_rfl) (by kernel_rfl) (fun _ _ _ h => h) (Or.inl ⟨by rfl, ?_⟩) hHeld ?_
   rotate_left
   ·intro w hSw;(try dsimp only at hSw);obtain -:=hSw;go_simp;try with_reducible rfl
   (try simp only[Act.put,List.setIfInBounds_toArray,List.set_cons_zero,List.set_cons_succ])
   refine wpAnyH_done (by kernel_rfl) ?_ _
   go_wp2_with (go_at_call 182;refine(jmet HJ4.out r2).mono ?_;rintro e w5 ⟨rfl,h6,h7⟩;have HJ5:=Lib.hid h6;have HT5:=Lib.hid h7;clear h6 h7)
   go_ret2
   exact⟨by rw[HP.out];rfl,by rw[HP.out];exact HJ5.out,HT4.out.trans HT5.out⟩
 ·have HP:=Lib.hid (put_a hb0 k b)
  have hb1:(J.broken != 0)=true:=by simp[hb0]
  clear h hv q1 q2 hbb hf hl
  generalize b.length=n at *
  generalize J.broken=br at *
  go_enter Tryz.func124,Tryz.ntmps124
  go_wp2_with (go_at_call 58;refine HB.out.mono ?_;rintro e w9 ⟨rfl,h5⟩;obtain rfl:W=w9:=h5.symm)
  go_ret2
  exact⟨by rw[HP.out];rfl,by rw[HP.out];exact H.out,Turn.refl _ _⟩
end
end Go.Proofs.YtbcbhlfjgobejaaGreat
