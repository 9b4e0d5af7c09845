/- What an opening finds where the power went amid a Put, or a Remove: plain laws, no program. -/
import Derived.Test.YtbcbhlfjgobejaaGreatT4
set_option linter.unusedSimpArgs false
set_option linter.unusedVariables false
namespace Go.Proofs.YtbcbhlfjgobejaaGreat
open Go.Sf
section
variable {C : List Int → Nat} {f g : Nat → List Int} {N : Nat} {all : List (Int × List Int)} {blk : Int → List Nat} {next : Int}
theorem said_scrub (x:List Int):saidP C (scrub C x)=saidP C x:=by
 cases e:saidP C x with
 | none=>
  have:scrub C x=zeroB:=by unfold scrub;rw[e];rfl
  rw[this]
  exact said_none_head (by simp[zeroB])
 | some p=>rw[scrub_said e,e]
theorem scan_same (h:∀i,i<N→saidP C (g i)=saidP C (f i)):∀n,n≤N→scanN C g n=scanN C f n
 | 0,_=>rfl
 | n+1,hn=>by
  unfold scanN scanStep
  rw[scan_same h n (by omega),h n (by omega)]
def putWs (C:List Int→Nat) (k:Int) (b:List Int) (fr:List Nat):List (Nat × List Int):=(List.range fr.length).map fun j=>(fr.getD j 0,encP C ⟨k,j,partsN b.length,chunk b j⟩)
theorem putWs_get {k:Int} {b:List Int} {fr:List Nat} {j i:Nat} (h:fr[j]? = some i):(putWs C k b fr)[j]? = some (i,encP C ⟨k,j,partsN b.length,chunk b j⟩):=by
 unfold putWs
 have hj:=(List.getElem?_eq_some_iff.1 h).1
 rw[List.getElem?_map,List.getElem?_range hj]
 simp[List.getD_eq_getElem?_getD,h]
end
end Go.Proofs.YtbcbhlfjgobejaaGreat
