/- A map of typed pairs as the shelf's contracts have it. Conditions: keys that read as literals. -/
import Derived.Test.YtjfelfjobeeenaaGreatMaps
import Derived.Shelf.SlIterI.Nil
import Derived.Shelf.SlIter.Nil
import Derived.Sort.KeysCollected
namespace Go.Sf
open Go.MapKept Go.RowKit Go.Maps
open Go.WideElems (Fit rd rg)

/-- every value reads as nothing -/
def anyElem : Value → Option (DataW Unit × List MemPlace) := fun _ => some (.nil, [])
theorem MapT.owns {P : Program} {k : TypeId} {K V : Type} {ek : K → Value} {ev : V → Value} {w : World} {b : Nat} {m : List (K × V)} (h : MapT w b ek ev m) (kl : K → Lit) (hk : ∀ p ∈ m, keyOf P k (ek p.1) = some (kl p.1)) (hl : m.length ≤ maxLen) :
    ∃ E, w.ownsMap P k anyElem b m.length (.map E) ∧ E.Perm (m.map fun p => (kl p.1, (DataW.nil : DataW Unit))) := by
  obtain ⟨es, clock, hb, hs, he⟩ := h
  have hsz : es.size = m.length := by have := congrArg List.length he; simpa using this
  have hrd : ∀ x ∈ es.toList, ∀ p ∈ m, x.key = ek p.1 → rd P k anyElem x = some (kl p.1, .nil) := fun x hx p hp e => by
    unfold rd
    rw [e, hk p hp]
    rfl
  refine ⟨(es.toList.map (rg P k anyElem)).foldr DataW.insert [], ⟨es, clock, hb, ⟨by omega, hs, fun x hx => ?_⟩, by omega, rfl⟩, (WideShapes.sorted_perm _).trans ?_⟩
  · obtain ⟨p, hp, e1, _⟩ := pairs_key he x hx
    exact ⟨_, hrd x hx p hp e1⟩
  · have : es.toList.map (rg P k anyElem) = m.map fun p => (kl p.1, (DataW.nil : DataW Unit)) := by
      apply List.ext_getElem?
      intro i
      simp only [List.getElem?_map]
      cases hi : es.toList[i]? with
      | none =>
        have : m[i]? = none := by
          rw [List.getElem?_eq_none_iff] at hi ⊢
          simpa [hsz] using hi
        rw [this]; rfl
      | some x =>
        obtain ⟨p, hp, e1, _⟩ := pairs_get he hi
        rw [hp]
        simp only [Option.map_some]
        unfold rg
        rw [hrd x (List.mem_of_getElem? hi) p (List.mem_of_getElem? hp) e1]
        rfl
    rw [this]
end Go.Sf
