/-
  No cell of these rows narrows 'for every input' (looked for: loops, veiled, ifaces, maps, wideKeys, modest, calm, conditions, laid).
  DERIVED. THE GIVEN ROWS OF THIS SEAT. 7 by the template 'for every input the law returns true; each argument reads behind the call as it read before'; 0 by the template 'total and deterministic' (their statements: YtjfelfjobeeenaaGreatTotals.lean).
  GIVEN WITH THE SEED: the statements are not yours to turn. If you find one false, say at which input.
  Laid BY PROGRAM, IN A SANDBOX (cutbox-rows.mjs): the forced cells as the released guide's own fill.sh prints them over the translation 7dd90b44e19de16e… (all of the seat's roots in one cut). By AI agents, Wed Nov 11 2026. No macro, syntax, notation, axiom, sorry.
-/
import Derived.Test.YtjfelfjobeeenaaGreatChecked
import GoSem.Claim
import GoSem.ClaimJoined
import GoSem.ClaimMapViews
import Derived.JoinedTies
import Derived.KernelRfl
namespace Go.Proofs.YtjfelfjobeeenaaGreat
/- THE CELL 'sum', in the pinned program and in every row, IS THE sha256 OF THE DUMP (.gsa) THAT YtjfelfjobeeenaaGreatProg.lean LOADS. Nothing in Lean hashes anything: it is a label: what it is worth is what the hold of that sum in a sandbox is worth. -/
noncomputable def Tryz.pinned : Pinned := { name := "ytjfelfjobeeenaagreat", sum := "7dd90b44e19de16ed5697594bb60f1cc95a034c4bc3e0d6a87afda795b42e5cd", checked := Tryz.checked }
namespace Rows
def none {H : Type} : Left H := { results := [], args := [] }

/-- 'starfishlaw25.TablePuts': WHATEVER THE INPUT: true; the input reads as it did. -/
def tablePutsSpec : ChangeSpec := { name := "tablePuts", fn := fun _ => fun
  | [d1, d2] => { results := [.lit (.bool true)], args := [d1, d2] }
  | _ => none }
def tablePutsRow : OpenClaim := { program := "ytjfelfjobeeenaagreat", sum := "7dd90b44e19de16ed5697594bb60f1cc95a034c4bc3e0d6a87afda795b42e5cd", func := "starfish/starfishlaw25.TablePuts", spec := "tablePuts", unfollowed := true, recurses := true, plainKeys := false, apart := false }
def TablePutsSaid : Prop := tablePutsRow.holds Tryz.pinned (OpenSpec.ofChange tablePutsSpec)

/-- ITS FALSE NEIGHBOUR: 'it returns false'. Refute it at one input. -/
def tablePutsWrong : ChangeSpec := { name := "tablePuts", fn := fun _ => fun
  | [d1, d2] => { results := [.lit (.bool false)], args := [d1, d2] }
  | _ => none }
def TablePutsWrongFalsely : Prop := tablePutsRow.holds Tryz.pinned (OpenSpec.ofChange tablePutsWrong)

/-- 'starfishlaw27.DeficitEnds': WHATEVER THE INPUT: true; the input reads as it did. -/
def deficitEndsSpec : ChangeSpec := { name := "deficitEnds", fn := fun _ => fun
  | [d1, d2, d3, d4] => { results := [.lit (.bool true)], args := [d1, d2, d3, d4] }
  | _ => none }
def deficitEndsRow : OpenClaim := { program := "ytjfelfjobeeenaagreat", sum := "7dd90b44e19de16ed5697594bb60f1cc95a034c4bc3e0d6a87afda795b42e5cd", func := "starfish/starfishlaw27.DeficitEnds", spec := "deficitEnds", unfollowed := true, recurses := true, plainKeys := false, apart := false }
def DeficitEndsSaid : Prop := deficitEndsRow.holds Tryz.pinned (OpenSpec.ofChange deficitEndsSpec)

/-- ITS FALSE NEIGHBOUR: 'it returns false'. Refute it at one input. -/
def deficitEndsWrong : ChangeSpec := { name := "deficitEnds", fn := fun _ => fun
  | [d1, d2, d3, d4] => { results := [.lit (.bool false)], args := [d1, d2, d3, d4] }
  | _ => none }
def DeficitEndsWrongFalsely : Prop := deficitEndsRow.holds Tryz.pinned (OpenSpec.ofChange deficitEndsWrong)

/-- 'starfishlaw27.DeficitKnown': WHATEVER THE INPUT: true; the input reads as it did. -/
def deficitKnownSpec : ChangeSpec := { name := "deficitKnown", fn := fun _ => fun
  | [] => { results := [.lit (.bool true)], args := [] }
  | _ => none }
def deficitKnownRow : OpenClaim := { program := "ytjfelfjobeeenaagreat", sum := "7dd90b44e19de16ed5697594bb60f1cc95a034c4bc3e0d6a87afda795b42e5cd", func := "starfish/starfishlaw27.DeficitKnown", spec := "deficitKnown", unfollowed := true, recurses := true, plainKeys := false, apart := false }
def DeficitKnownSaid : Prop := deficitKnownRow.holds Tryz.pinned (OpenSpec.ofChange deficitKnownSpec)

/-- ITS FALSE NEIGHBOUR: 'it returns false'. Refute it at one input. -/
def deficitKnownWrong : ChangeSpec := { name := "deficitKnown", fn := fun _ => fun
  | [] => { results := [.lit (.bool false)], args := [] }
  | _ => none }
def DeficitKnownWrongFalsely : Prop := deficitKnownRow.holds Tryz.pinned (OpenSpec.ofChange deficitKnownWrong)

/-- 'starfishlaw25.TableRises': WHATEVER THE INPUT: true; the input reads as it did. -/
def tableRisesSpec : ChangeSpec := { name := "tableRises", fn := fun _ => fun
  | [d1, d2, d3] => { results := [.lit (.bool true)], args := [d1, d2, d3] }
  | _ => none }
def tableRisesRow : OpenClaim := { program := "ytjfelfjobeeenaagreat", sum := "7dd90b44e19de16ed5697594bb60f1cc95a034c4bc3e0d6a87afda795b42e5cd", func := "starfish/starfishlaw25.TableRises", spec := "tableRises", unfollowed := true, recurses := true, plainKeys := false, apart := false }
def TableRisesSaid : Prop := tableRisesRow.holds Tryz.pinned (OpenSpec.ofChange tableRisesSpec)

/-- ITS FALSE NEIGHBOUR: 'it returns false'. Refute it at one input. -/
def tableRisesWrong : ChangeSpec := { name := "tableRises", fn := fun _ => fun
  | [d1, d2, d3] => { results := [.lit (.bool false)], args := [d1, d2, d3] }
  | _ => none }
def TableRisesWrongFalsely : Prop := tableRisesRow.holds Tryz.pinned (OpenSpec.ofChange tableRisesWrong)

/-- 'starfishlaw25.TablePlays': WHATEVER THE INPUT: true; the input reads as it did. -/
def tablePlaysSpec : ChangeSpec := { name := "tablePlays", fn := fun _ => fun
  | [d1, d2, d3] => { results := [.lit (.bool true)], args := [d1, d2, d3] }
  | _ => none }
def tablePlaysRow : OpenClaim := { program := "ytjfelfjobeeenaagreat", sum := "7dd90b44e19de16ed5697594bb60f1cc95a034c4bc3e0d6a87afda795b42e5cd", func := "starfish/starfishlaw25.TablePlays", spec := "tablePlays", unfollowed := true, recurses := true, plainKeys := false, apart := false }
def TablePlaysSaid : Prop := tablePlaysRow.holds Tryz.pinned (OpenSpec.ofChange tablePlaysSpec)

/-- ITS FALSE NEIGHBOUR: 'it returns false'. Refute it at one input. -/
def tablePlaysWrong : ChangeSpec := { name := "tablePlays", fn := fun _ => fun
  | [d1, d2, d3] => { results := [.lit (.bool false)], args := [d1, d2, d3] }
  | _ => none }
def TablePlaysWrongFalsely : Prop := tablePlaysRow.holds Tryz.pinned (OpenSpec.ofChange tablePlaysWrong)

/-- 'starfishlaw25.TableBytes': WHATEVER THE INPUT: true; the input reads as it did. -/
def tableBytesSpec : ChangeSpec := { name := "tableBytes", fn := fun _ => fun
  | [d1, d2, d3, d4, d5] => { results := [.lit (.bool true)], args := [d1, d2, d3, d4, d5] }
  | _ => none }
def tableBytesRow : OpenClaim := { program := "ytjfelfjobeeenaagreat", sum := "7dd90b44e19de16ed5697594bb60f1cc95a034c4bc3e0d6a87afda795b42e5cd", func := "starfish/starfishlaw25.TableBytes", spec := "tableBytes", unfollowed := true, recurses := true, plainKeys := false, apart := false }
def TableBytesSaid : Prop := tableBytesRow.holds Tryz.pinned (OpenSpec.ofChange tableBytesSpec)

/-- ITS FALSE NEIGHBOUR: 'it returns false'. Refute it at one input. -/
def tableBytesWrong : ChangeSpec := { name := "tableBytes", fn := fun _ => fun
  | [d1, d2, d3, d4, d5] => { results := [.lit (.bool false)], args := [d1, d2, d3, d4, d5] }
  | _ => none }
def TableBytesWrongFalsely : Prop := tableBytesRow.holds Tryz.pinned (OpenSpec.ofChange tableBytesWrong)

/-- 'starfishlaw25.TableKnown': WHATEVER THE INPUT: true; the input reads as it did. -/
def tableKnownSpec : ChangeSpec := { name := "tableKnown", fn := fun _ => fun
  | [] => { results := [.lit (.bool true)], args := [] }
  | _ => none }
def tableKnownRow : OpenClaim := { program := "ytjfelfjobeeenaagreat", sum := "7dd90b44e19de16ed5697594bb60f1cc95a034c4bc3e0d6a87afda795b42e5cd", func := "starfish/starfishlaw25.TableKnown", spec := "tableKnown", unfollowed := true, recurses := true, plainKeys := false, apart := false }
def TableKnownSaid : Prop := tableKnownRow.holds Tryz.pinned (OpenSpec.ofChange tableKnownSpec)

/-- ITS FALSE NEIGHBOUR: 'it returns false'. Refute it at one input. -/
def tableKnownWrong : ChangeSpec := { name := "tableKnown", fn := fun _ => fun
  | [] => { results := [.lit (.bool false)], args := [] }
  | _ => none }
def TableKnownWrongFalsely : Prop := tableKnownRow.holds Tryz.pinned (OpenSpec.ofChange tableKnownWrong)

/- THE SECOND FORM. 'bulk': how many values and letters a reading holds, each counted each time it is reached (what is shared counts as often as it is met; a slice's spare places count too). A statement '..UptoSaid' is the law's where the arguments, and the package variables that the reading takes, are together of bulk at most 1048576: NARROWER than '..Said'. Prove '..Said' where nothing that the law and all that it calls make is longer than what came in: it says more and counts as full. Else prove '..UptoSaid'. A law counts once. -/
mutual
def uptoBulk {H : Type} : DataW H → Nat
  | .lit (.string bytes) => bytes.length + 1
  | .lit _ => 1
  | .nil => 1
  | .ptr d => uptoBulk d + 1
  | .slice elems spare => uptoBulkAll elems + uptoBulkAll spare + 1
  | .agg parts => uptoBulkAll parts + 1
  | .iface _ d => uptoBulk d + 1
  | .map entries => uptoBulkEntries entries + 1
  | .held _ => 1
def uptoBulkAll {H : Type} : List (DataW H) → Nat
  | [] => 0
  | d :: r => uptoBulk d + uptoBulkAll r
def uptoBulkEntries {H : Type} : List (Lit × DataW H) → Nat
  | [] => 0
  | x :: r => uptoBulkEntry x + uptoBulkEntries r
def uptoBulkEntry {H : Type} : Lit × DataW H → Nat
  | (.string bytes, d) => bytes.length + uptoBulk d + 1
  | (_, d) => uptoBulk d + 1
 end
def uptoSmall : (H : Type) → List (DataW H) → Bool := fun _ ds => decide (uptoBulkAll ds ≤ 1048576)
def OpenSpec.upto (s : _root_.Go.ChangeSpec) : _root_.Go.OpenSpec := { _root_.Go.OpenSpec.ofChange s with cond := some uptoSmall }

/-- 'starfishlaw25.TablePuts', WHERE WHAT IT READS IS OF BULK AT MOST 1048576: true; the input reads as it did. -/
def tablePutsUptoRow : OpenClaim := { program := "ytjfelfjobeeenaagreat", sum := "7dd90b44e19de16ed5697594bb60f1cc95a034c4bc3e0d6a87afda795b42e5cd", func := "starfish/starfishlaw25.TablePuts", spec := "tablePuts", unfollowed := true, recurses := true, plainKeys := false, apart := false, narrowed := true }
def TablePutsUptoSaid : Prop := tablePutsUptoRow.holds Tryz.pinned (OpenSpec.upto tablePutsSpec)

/-- 'starfishlaw27.DeficitEnds', WHERE WHAT IT READS IS OF BULK AT MOST 1048576: true; the input reads as it did. -/
def deficitEndsUptoRow : OpenClaim := { program := "ytjfelfjobeeenaagreat", sum := "7dd90b44e19de16ed5697594bb60f1cc95a034c4bc3e0d6a87afda795b42e5cd", func := "starfish/starfishlaw27.DeficitEnds", spec := "deficitEnds", unfollowed := true, recurses := true, plainKeys := false, apart := false, narrowed := true }
def DeficitEndsUptoSaid : Prop := deficitEndsUptoRow.holds Tryz.pinned (OpenSpec.upto deficitEndsSpec)

/-- 'starfishlaw27.DeficitKnown', WHERE WHAT IT READS IS OF BULK AT MOST 1048576: true; the input reads as it did. -/
def deficitKnownUptoRow : OpenClaim := { program := "ytjfelfjobeeenaagreat", sum := "7dd90b44e19de16ed5697594bb60f1cc95a034c4bc3e0d6a87afda795b42e5cd", func := "starfish/starfishlaw27.DeficitKnown", spec := "deficitKnown", unfollowed := true, recurses := true, plainKeys := false, apart := false, narrowed := true }
def DeficitKnownUptoSaid : Prop := deficitKnownUptoRow.holds Tryz.pinned (OpenSpec.upto deficitKnownSpec)

/-- 'starfishlaw25.TableRises', WHERE WHAT IT READS IS OF BULK AT MOST 1048576: true; the input reads as it did. -/
def tableRisesUptoRow : OpenClaim := { program := "ytjfelfjobeeenaagreat", sum := "7dd90b44e19de16ed5697594bb60f1cc95a034c4bc3e0d6a87afda795b42e5cd", func := "starfish/starfishlaw25.TableRises", spec := "tableRises", unfollowed := true, recurses := true, plainKeys := false, apart := false, narrowed := true }
def TableRisesUptoSaid : Prop := tableRisesUptoRow.holds Tryz.pinned (OpenSpec.upto tableRisesSpec)

/-- 'starfishlaw25.TablePlays', WHERE WHAT IT READS IS OF BULK AT MOST 1048576: true; the input reads as it did. -/
def tablePlaysUptoRow : OpenClaim := { program := "ytjfelfjobeeenaagreat", sum := "7dd90b44e19de16ed5697594bb60f1cc95a034c4bc3e0d6a87afda795b42e5cd", func := "starfish/starfishlaw25.TablePlays", spec := "tablePlays", unfollowed := true, recurses := true, plainKeys := false, apart := false, narrowed := true }
def TablePlaysUptoSaid : Prop := tablePlaysUptoRow.holds Tryz.pinned (OpenSpec.upto tablePlaysSpec)

/-- 'starfishlaw25.TableBytes', WHERE WHAT IT READS IS OF BULK AT MOST 1048576: true; the input reads as it did. -/
def tableBytesUptoRow : OpenClaim := { program := "ytjfelfjobeeenaagreat", sum := "7dd90b44e19de16ed5697594bb60f1cc95a034c4bc3e0d6a87afda795b42e5cd", func := "starfish/starfishlaw25.TableBytes", spec := "tableBytes", unfollowed := true, recurses := true, plainKeys := false, apart := false, narrowed := true }
def TableBytesUptoSaid : Prop := tableBytesUptoRow.holds Tryz.pinned (OpenSpec.upto tableBytesSpec)

/-- 'starfishlaw25.TableKnown', WHERE WHAT IT READS IS OF BULK AT MOST 1048576: true; the input reads as it did. -/
def tableKnownUptoRow : OpenClaim := { program := "ytjfelfjobeeenaagreat", sum := "7dd90b44e19de16ed5697594bb60f1cc95a034c4bc3e0d6a87afda795b42e5cd", func := "starfish/starfishlaw25.TableKnown", spec := "tableKnown", unfollowed := true, recurses := true, plainKeys := false, apart := false, narrowed := true }
def TableKnownUptoSaid : Prop := tableKnownUptoRow.holds Tryz.pinned (OpenSpec.upto tableKnownSpec)

end Rows
end Go.Proofs.YtjfelfjobeeenaaGreat
