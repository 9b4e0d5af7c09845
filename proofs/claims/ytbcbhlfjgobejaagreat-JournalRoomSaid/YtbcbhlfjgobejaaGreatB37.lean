/- What came in, as it reads; and that it reads behind a call that leaves old memory as it did. Conditions: none. SlotsKeeps: what stands between two calls, in memory. Conditions: as the theorems say. Calls and numbers that came in, as they read. Conditions: none. Calls of chapter 21, and short numbers, that came in, as they read. Conditions: none. -/
import Derived.Test.YtbcbhlfjgobejaaGreatRows
import Derived.Test.YtbcbhlfjgobejaaGreatB27
import Derived.Test.YtbcbhlfjgobejaaGreatB36
import Derived.WalkKit
import Derived.ProofKit
import Derived.OpenShut
import Derived.Deep.Slices
import Derived.Deep.Fields
import Derived.ChangeSame
import Derived.ReadAgain
import Derived.ChangeBears
import Derived.Lib.SmallJoins
import Derived.Test.YtbcbhlfjgobejaaGreatB28
set_option linter.unusedSimpArgs false
set_option linter.unusedVariables false
namespace Go.Proofs.YtbcbhlfjgobejaaGreat
open Go.ChangeShapes Go.WideShapes Go.ChangeAt Go.RowKit Go.Deep Go.Sf Go.Joins
section
variable {H : Type} {enc : TypeId × Value → H} {P : Program} {w : World} {base : Nat} {spare : Nat → Bool} {held : Bool}
end
section
variable {H : Type} {enc : TypeId × Value → H} {P : Program} {w w' : World} {base : Nat} {spare : Nat → Bool} {held : Bool}
theorem same_grown (hg:w.grownBy w' none) {p:MemPlace} (hp:p.block<w.heap.size):w.sameAt w' p:=by
 cases p with
 | cell b off=>exact World.cell?_of_block (a:=⟨b,off,none⟩) (hg.block b hp (by simp))
 | map b=>exact hg.block b hp (by simp)
theorem all_carry (hg:w.grownBy w' none):∀{ts:List TypeId} {vs:List Value} {ds:List (DataW H)} {ps:List MemPlace},DataW.TrodAll enc P w base spare held ts vs ds ps→(∀p∈ps,p.block<w.heap.size)→DataW.TrodAll enc P w' base spare held ts vs ds ps
 | [],[],[],_,h,_=>h
 | _ :: _,_ :: _,_ :: _,_,⟨p,q,⟨n,h1⟩,h2,e⟩,hs=>⟨p,q,⟨n,DataW.trod_carry n _ _ _ h1 (fun x hx=>same_grown hg (hs x (by rw[e];exact List.mem_append_left _ hx)))⟩,all_carry hg h2 (fun x hx=>hs x (by rw[e];exact List.mem_append_right _ hx)),e⟩
end
theorem kids:Kids Tryz.prog (·< Tryz.prog.types.size):=kids_rows (by kernel_rfl) (by kernel_rfl)
theorem full:∀t e,t<Tryz.prog.types.size→Tryz.prog.underlying t=some (.slice e)→0<Tryz.prog.cellsOf e:=slices_full_of Tryz.prog (by kernel_rfl)
open Go.RowKit Go.Sf Go.Shelf
section
variable {W w w' : World} {own : Nat → Prop} {st db : Nat} {S : Sto} {all : List (Int × List Int)} {blk : Int → List Nat} {a nv : Value} {k : Nat}
end
theorem addr_none {W:World} {a:Addr} {u:Value} (h:W.cell? a=some u):∃b off,a=⟨b,off,none⟩:=by
 obtain⟨b,off,fr⟩:=a
 cases fr with
 | none=>exact⟨b,off,rfl⟩
 | some q=>
  exfalso
  unfold World.cell? at h
  split at h <;> simp at h
set_option maxRecDepth 100000 in
theorem shorts_of {H:Type} {enc:TypeId × Value→H} {W:World} {base:Nat} {v:Value} {d:DataW H} {p:List MemPlace} (hval:Value.okWide Tryz.prog W .any base 71 v) (h:DataW.Trod enc Tryz.prog W 0 (fun _=>true) true 71 v d p) :
  ∃(l:List Int) (q:Option Addr) (cap:Nat),v = .slice q l.length cap∧(∀x∈l,0≤x∧x≤65535)∧∀j (hj:j<l.length),∃a,q=some a∧a.block<W.heap.size∧W.cell? (a.add j)=some (.int .u16 l[j]):=by
 obtain⟨a1,len,cap,rfl⟩:=okWide_slice Tryz.underlying71 hval
 obtain⟨fuel,hf⟩:=h
 rcases open_ints Tryz.underlying71 Tryz.underlying72 (by kernel_rfl) hf with ⟨hcs,_⟩|⟨a,len',cap',zs,hcs,_,hl,hm,hz,_,hcell,hwz⟩
 ·simp[Value.cells] at hcs
  obtain⟨rfl,rfl,rfl⟩:=hcs
  exact⟨[],none,0,rfl,by simp,by simp⟩
 ·simp[Value.cells] at hcs
  obtain⟨rfl,rfl,rfl⟩:=hcs
  simp only[if_true] at hz
  have hlen:(zs.take len).length=len:=by rw[List.length_take];omega
  refine⟨zs.take len,some a,cap,by rw[hlen],fun b hb=>?_,fun i hi=>?_⟩
  ·have:=hwz b (List.mem_of_mem_take hb)
   simpa[Lit.wf,IntKind.min,IntKind.max,IntKind.signed,IntKind.bits] using this
  ·rw[hlen] at hi
   have hjz:i<zs.length:=by omega
   have hc:=hcell i (by omega)
   have hc0:=hcell 0 (by omega)
   obtain⟨b,off,rfl⟩:=addr_none (W:=W) (a:=a) (u:=.int .u16 (zs.getD 0 0)) (by rw[←hc0];simp[Addr.add])
   refine⟨_,rfl,?_,?_⟩
   ·rw[addr_off] at hc
    have h7:=cell_lt hc
    exact h7
   ·rw[hc]
    simp[List.getD,List.getElem?_eq_getElem hjz]
end Go.Proofs.YtbcbhlfjgobejaaGreat
