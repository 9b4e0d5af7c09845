/- What an opening finds where the power went amid a Put, or a Remove: plain laws, no program. Conditions: none, or as the theorems say. -/
import Derived.Test.YtbcbhlfjgobejaaGreatJ4
set_option linter.unusedSimpArgs false
set_option linter.unusedVariables false
namespace Go.Proofs.YtbcbhlfjgobejaaGreat
set_option maxHeartbeats 200000000
open Go.Sf
section
variable {C : List Int → Nat} {f g : Nat → List Int} {N : Nat} {all : List (Int × List Int)} {blk : Int → List Nat} {next : Int}
theorem zd3 (h:∀i,i<N→saidP C (g i)=saidP C (f i)):∀n,n≤N→scanN C g n=scanN C f n
 | 0,_=>rfl
 | n+1,hn=>by
  unfold scanN scanStep;rw[zd3 h n (by omega),h n (by omega)]
def vp (C:List Int→Nat) (k:Int) (b:List Int) (fr:List Nat):List (Nat × List Int):=(List.range fr.length).map fun j=>(fr.getD j 0,qn C ⟨k,j,zo b.length,uu b j⟩)
theorem zj9 {k:Int} {b:List Int} {fr:List Nat} {j i:Nat} (h:fr[j]? = some i):(vp C k b fr)[j]? = some (i,qn C ⟨k,j,zo b.length,uu b j⟩):=by
 unfold vp;have hj:=(List.getElem?_eq_some_iff.1 h).1;rw[List.getElem?_map,List.getElem?_range hj];simp[List.getD_eq_getElem?_getD,h]
end
end Go.Proofs.YtbcbhlfjgobejaaGreat
