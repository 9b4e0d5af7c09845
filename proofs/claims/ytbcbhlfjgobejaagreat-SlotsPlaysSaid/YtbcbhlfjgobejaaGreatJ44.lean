/- starfishref19's Put: the walk. Conditions: none, or as the theorems say. -/
import Derived.Test.YtbcbhlfjgobejaaGreatJ1
import Derived.Test.YtbcbhlfjgobejaaGreatJ40
import Derived.Test.YtbcbhlfjgobejaaGreatJ24
import Derived.Deep.DeepCutAuto
set_option linter.unusedSimpArgs false
set_option linter.unusedVariables false
namespace Go.Proofs.YtbcbhlfjgobejaaGreat
set_option maxHeartbeats 200000000
open Go.RowKit Go.Sf Go.Shelf
theorem zgm (k:Int) (s:ByteArray) (p:Option Addr) (n c:Nat) (w:World):(Instr.buildSlice 191 1 #[(0,.agg #[.int .i64 k,.string s,.slice p n c])]).run Tryz.prog w = .ok (.slice (some ⟨w.heap.size,0,none⟩) 1 1) (w.alloc (.cells #[.int .i64 k,.string s,.slice p n c] 198)):=by kernel_rfl
theorem Uv (k:Int) (s:ByteArray) (p:Option Addr) (n c:Nat) {o:Oper} {a:Act} {w:World} (y:Operand) (hop:o.op=Op.buildSlice 191 1 #[(0,y)]) (hy:a.eval y = .agg #[.int .i64 k,.string s,.slice p n c]):(execOp a.eval o).run Tryz.prog w = .ok (.value (.slice (some ⟨w.heap.size,0,none⟩) 1 1)) (w.alloc (.cells #[.int .i64 k,.string s,.slice p n c] 198)):=by
 have hb:=zgm k s p n c w;unfold execOp;rw[hop]
 change (do pure (Next.value (←Instr.buildSlice 191 1 ((#[(0,y)]:Array (Nat × Operand)).map fun p=>(p.1,a.eval p.2)))):Sem Next).run Tryz.prog w=_
 have e:((#[(0,y)]:Array (Nat × Operand)).map fun p=>(p.1,a.eval p.2)) = #[(0,.agg #[.int .i64 k,.string s,.slice p n c])]:=by simp[hy]
 rw[e];generalize Instr.buildSlice 191 1 #[(0,.agg #[.int .i64 k,.string s,.slice p n c])]=q at *;simp[go_sem,hb]
theorem rc_all (k:Int) (s:ByteArray) (p:Option Addr) (n c:Nat):(#[Value.int .i64 k,.string s,.slice p n c]:Array Value).all (·.oneCell')=true:=
 all_oneCell_toArray (cs:=[Value.int .i64 k,.string s,.slice p n c]) (fun v hv=>by
  simp only[List.mem_cons,List.not_mem_nil,or_false] at hv
  rcases hv with rfl|rfl|rfl <;> rfl)
theorem zeroRc (w:World):(zeroValue 198).run Tryz.prog w = .ok (.agg #[.int .i64 0,.string ⟨#[]⟩,.slice none 0 0]) w:=by kernel_rfl
section
variable {rsd rss : Nat → Prop} {W : World} {sb db : Nat} {R : RDk} {L : List (Int × ye)} {next broken : Int} {b : List Int}
set_option maxRecDepth 100000 in
theorem zgk (h:ux rsd rss W sb db R L next broken) (hbl:b.length≤100000000) (hb:broken≠0):Calls Tryz.prog 121 #[.pointer (some ⟨sb,0,none⟩),.string (ofB b)] W (Yj rsd rss W sb db ⟨R,L,next,broken⟩ b):=by
 have HQ:Hid (Yj rsd rss W sb db ⟨R,L,next,broken⟩ b (.returned (.tuple #[.int .i64 0,.int .i64 broken])) W):=(show Yj _ _ _ _ _ _ _ _ _ from by
  have er:(⟨R,L,next,broken⟩:Doc).put b=(⟨R,L,next,broken⟩,0,broken):=by unfold Doc.put;rw[if_pos hb]
  unfold Yj;rw[er]
  exact⟨rfl,ux.here ⟨R,L,next,broken⟩ h (zj _)⟩)
 obtain⟨c0,c2,c3,y,hsl⟩:=h.s.all;have HQ2:Hid (Yj rsd rss W sb db ⟨R,L,next,broken⟩ b (.returned (.tuple #[.int .i64 0,.int .i64 broken])) W.drew):=(show Yj _ _ _ _ _ _ _ _ _ from by
  have er:(⟨R,L,next,broken⟩:Doc).put b=(⟨R,L,next,broken⟩,0,broken):=by unfold Doc.put;rw[if_pos hb]
  unfold Yj;rw[er]
  exact⟨rfl,ux.here ⟨R,L,next,broken⟩ h (zk (zj _))⟩)
 generalize Yj rsd rss W sb db ⟨R,L,next,broken⟩ b=PP at *;have hsz:(ofB b).size=b.length:=xr b;have HSZ:=zd hsz;rw[←hsz] at hbl;generalize ofB b=s at *;clear hsz
 go_enter Tryz.func121,Tryz.ntmps121
 go_upto_region 2 with fail
 refine wp_region_held_drew (S:=fun w':World=>w'.cell? ⟨sb,3,none⟩=some (.int .i64 broken)∧True) (by kernel_rfl) ⟨c3,trivial⟩ (fun hHeld=>?_)
 refine tk (i:=0) (oi:=⟨some 15,Op.move (Operand.tmp 0),_,_,_,none⟩) (v:=?_) rfl hHeld ?_ ?_;rotate_left
 ·rintro w -;go_simp;try with_reducible rfl
 (try simp only[Act.put,za,zb,zc])
 refine tk (i:=1) (oi:=⟨some 16,Op.nilCheck (Operand.tmp 15),_,_,_,none⟩) (v:=?_) rfl hHeld ?_ ?_;rotate_left
 ·rintro w -;go_simp;try with_reducible rfl
 (try simp only[Act.put,za,zb,zc])
 refine tk (i:=2) (oi:=⟨some 17,Op.fieldAddr 193 (Operand.tmp 16) 3,_,_,_,none⟩) (v:=?_) rfl hHeld ?_ ?_;rotate_left
 ·rintro w -;go_simp;try with_reducible rfl
 (try simp only[Act.put,za,zb,zc])
 refine tk (i:=3) (oi:=⟨some 18,Op.load 25 (Operand.tmp 17),_,_,_,none⟩) (v:=?_) rfl hHeld ?_ ?_;rotate_left
 ·rintro w ⟨s1,-⟩;go_simp;try with_reducible rfl
 (try simp only[Act.put,za,zb,zc])
 refine tk (i:=4) (oi:=⟨some 4,Op.assign (Operand.const (Value.int IntKind.i64 0)),_,_,_,none⟩) (v:=?_) rfl hHeld ?_ ?_;rotate_left
 ·rintro w -;go_simp;try with_reducible rfl
 (try simp only[Act.put,za,zb,zc])
 refine tk (i:=5) (oi:=⟨some 5,Op.assign (Operand.tmp 18),_,_,_,none⟩) (v:=?_) rfl hHeld ?_ ?_;rotate_left
 ·rintro w -;go_simp;try with_reducible rfl
 (try simp only[Act.put,za,zb,zc])
 refine wpAnyH_done (by kernel_rfl) ?_ _
 go_wp2_with fail
 first|exact HQ2.out|(go_ret2;exact HQ2.out)
set_option maxRecDepth 100000 in
theorem zh0 (h:ux rsd rss W sb db R L next broken) (hbl:b.length≤100000000) (hb:broken=0) (hl:131072<b.length):Calls Tryz.prog 121 #[.pointer (some ⟨sb,0,none⟩),.string (ofB b)] W (Yj rsd rss W sb db ⟨R,L,next,broken⟩ b):=by
 have HQ:Hid (Yj rsd rss W sb db ⟨R,L,next,broken⟩ b (.returned (.tuple #[.int .i64 0,.int .i64 3])) W):=(show Yj _ _ _ _ _ _ _ _ _ from by
  have er:(⟨R,L,next,broken⟩:Doc).put b=(⟨R,L,next,broken⟩,0,3):=by subst hb;unfold Doc.put;rw[if_neg (fun e=>e rfl),if_pos (Or.inl hl)]
  unfold Yj;rw[er]
  exact⟨rfl,ux.here ⟨R,L,next,broken⟩ h (zj _)⟩)
 obtain⟨c0,c2,c3,y,hsl⟩:=h.s.all;clear h;generalize Yj rsd rss W sb db ⟨R,L,next,broken⟩ b=PP at *;have hsz:(ofB b).size=b.length:=xr b;have HSZ:=zd hsz;rw[←hsz] at hbl;subst hb;rw[←hsz] at hl;generalize ofB b=s at *;clear hsz
 go_enter Tryz.func121,Tryz.ntmps121
 go_wp2
 first|exact HQ.out|(go_ret2;exact HQ.out)|(go_ret;exact HQ.out)
set_option maxRecDepth 100000 in
theorem zkk (h:ux rsd rss W sb db R L next broken) (hbl:b.length≤100000000) (hb:broken=0) (hl:¬131072<b.length) (hn:4611686018427387904<next):Calls Tryz.prog 121 #[.pointer (some ⟨sb,0,none⟩),.string (ofB b)] W (Yj rsd rss W sb db ⟨R,L,next,broken⟩ b):=by
 have HQ:Hid (Yj rsd rss W sb db ⟨R,L,next,broken⟩ b (.returned (.tuple #[.int .i64 0,.int .i64 3])) W):=(show Yj _ _ _ _ _ _ _ _ _ from by
  have er:(⟨R,L,next,broken⟩:Doc).put b=(⟨R,L,next,broken⟩,0,3):=by subst hb;unfold Doc.put;rw[if_neg (fun e=>e rfl),if_pos (Or.inr hn)]
  unfold Yj;rw[er]
  exact⟨rfl,ux.here ⟨R,L,next,broken⟩ h (zj _)⟩)
 obtain⟨c0,c2,c3,y,hsl⟩:=h.s.all;clear h;generalize Yj rsd rss W sb db ⟨R,L,next,broken⟩ b=PP at *;have hsz:(ofB b).size=b.length:=xr b;have HSZ:=zd hsz;rw[←hsz] at hbl;subst hb;rw[←hsz] at hl;generalize ofB b=s at *;clear hsz
 go_enter Tryz.func121,Tryz.ntmps121
 go_wp2
 first|exact HQ.out|(go_ret2;exact HQ.out)|(go_ret;exact HQ.out)
end
end Go.Proofs.YtbcbhlfjgobejaaGreat
