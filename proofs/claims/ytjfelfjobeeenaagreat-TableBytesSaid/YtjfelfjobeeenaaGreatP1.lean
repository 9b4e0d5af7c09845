/- Short forms of the library's moves in a region that draws its order. Conditions: none. -/
import Derived.Test.YtjfelfjobeeenaaGreatProg
import Derived.Deep.RegionHeld3
import Derived.WalkKit
namespace Go.Proofs.YtjfelfjobeeenaaGreat
set_option linter.unusedVariables false
set_option linter.unusedSimpArgs false
open Go.RowKit
theorem pA {α:Type} {l:List α} {i:Nat} {x:α}:l.toArray.setIfInBounds i x=(l.set i x).toArray:=List.setIfInBounds_toArray _ _ _
theorem pB {α:Type} {x y:α} {l:List α}:(x :: l).set 0 y=y :: l:=rfl
theorem pC {α:Type} {x y:α} {l:List α} {n:Nat}:(x :: l).set (n+1) y=x :: l.set n y:=rfl
theorem dropAt {ops:Array Oper} {i:Nat} {oi:Oper} {rest:List Oper} (hi:ops.toList.drop i=oi :: rest):ops[i]? = some oi:=by
 rw[←Array.getElem?_toList,←List.head?_drop,hi];rfl
section
variable {P : Program} {ops : Array Oper} {md : Region.Mode} {S : World → Prop} {Q : Exit → Act → World → Prop} {fuel : Nat} {listed : Array Bool} {a : Act} {w : World}
theorem tg (i:Nat) (v:Value) {oi:Oper} {rest:List Oper} (hS:S w) (hy:∀w,S w→(execOp a.eval oi).run P w = .ok (.value v) w) (h:wpAnyH P md ops Q S fuel (listed.setIfInBounds i true) (a.put oi.dst v) w) (hi:ops.toList.drop i=oi :: rest) (hk:(Region.noSelect ops && (Region.free md ops listed i && (Region.ready md ops listed).contains i))=true) (hw:Region.wanted oi (yielded ops a.tmps)=true) (hQ:∀c a w,Q (.panic c) (a.put oi.dst v) w→Q (.panic c) a w):wpAnyH P md ops Q S (fuel+1) listed a w:=by
 simp only[Bool.and_eq_true] at hk
 exact wpAnyH_take (dropAt hi) hk.1 hk.2.1 hk.2.2 hQ (Or.inl ⟨hw,hy⟩) hS h
theorem tgn (i:Nat) {oi:Oper} {rest:List Oper} (hS:S w) (h:wpAnyH P md ops Q S fuel (listed.setIfInBounds i true) (a.put oi.dst undef) w) (hi:ops.toList.drop i=oi :: rest) (hk:(Region.noSelect ops && (Region.free md ops listed i && (Region.ready md ops listed).contains i))=true) (hw:Region.wanted oi (yielded ops a.tmps)=false) (hQ:∀c a w,Q (.panic c) (a.put oi.dst undef) w→Q (.panic c) a w):wpAnyH P md ops Q S (fuel+1) listed a w:=by
 simp only[Bool.and_eq_true] at hk
 exact wpAnyH_take (dropAt hi) hk.1 hk.2.1 hk.2.2 hQ (Or.inr ⟨hw,rfl⟩) hS h
theorem rdy (i:Nat) {o:Oper} {rest:List Oper} (h:∀K':Act→World→Prop,Shut (∀a w,S w→(S w→wpAnyH P md ops Q S fuel (listed.setIfInBounds i true) a w)→K' a w)→if Region.wanted o (yielded ops a.tmps)=true then Oper.wp P o a w K' Q else K' (a.put o.dst undef) w) (hi:ops.toList.drop i=o :: rest) (hr:Region.ready md ops listed = [i]):wpAnyH P md ops Q S (fuel+1) listed a w:=
 wpAnyH_ready hr (by simp) (AllReadyH.cons (dropAt hi) h AllReadyH.nil)
end
end Go.Proofs.YtjfelfjobeeenaaGreat
