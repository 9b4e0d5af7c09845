/-
  No cell of these rows narrows 'for every input' (looked for: loops, veiled, ifaces, maps, wideKeys, modest, calm, conditions, laid).
  DERIVED. THE GIVEN ROWS OF THIS SEAT. 12 by the template 'for every input the law returns true; each argument reads behind the call as it read before'; 0 by the template 'total and deterministic' (their statements: YtbcbhlfjgobejaaGreatTotals.lean).
  GIVEN WITH THE SEED: the statements are not yours to turn. If you find one false, say at which input.
  Laid BY PROGRAM, IN A SANDBOX (cutbox-rows.mjs): the forced cells as the released guide's own fill.sh prints them over the translation 3fafc3b7b70021b2… (all of the seat's roots in one cut). By AI agents, Wed Nov 11 2026. No macro, syntax, notation, axiom, sorry.
-/
import Derived.Test.YtbcbhlfjgobejaaGreatChecked
import GoSem.Claim
import GoSem.ClaimJoined
import GoSem.ClaimMapViews
import Derived.JoinedTies
import Derived.KernelRfl
namespace Go.Proofs.YtbcbhlfjgobejaaGreat
/- THE CELL 'sum', in the pinned program and in every row, IS THE sha256 OF THE DUMP (.gsa) THAT YtbcbhlfjgobejaaGreatProg.lean LOADS. Nothing in Lean hashes anything: it is a label: what it is worth is what the hold of that sum in a sandbox is worth. -/
noncomputable def Tryz.pinned : Pinned := { name := "ytbcbhlfjgobejaagreat", sum := "3fafc3b7b70021b2428568384fc52448eae937edb7ea6baedd49a51da6220e2e", checked := Tryz.checked }
namespace Rows
def none {H : Type} : Left H := { results := [], args := [] }

/-- 'starfishlaw19.SlotsParts': WHATEVER THE INPUT: true; the input reads as it did. -/
def slotsPartsSpec : ChangeSpec := { name := "slotsParts", fn := fun _ => fun
  | [d] => { results := [.lit (.bool true)], args := [d] }
  | _ => none }
def slotsPartsRow : OpenClaim := { program := "ytbcbhlfjgobejaagreat", sum := "3fafc3b7b70021b2428568384fc52448eae937edb7ea6baedd49a51da6220e2e", func := "starfish/starfishlaw19.SlotsParts", spec := "slotsParts", inPlace := ["maps.clone"], unfollowed := true, recurses := true, plainKeys := false, apart := false }
def SlotsPartsSaid : Prop := slotsPartsRow.holds Tryz.pinned (OpenSpec.ofChange slotsPartsSpec)

/-- ITS FALSE NEIGHBOUR: 'it returns false'. Refute it at one input. -/
def slotsPartsWrong : ChangeSpec := { name := "slotsParts", fn := fun _ => fun
  | [d] => { results := [.lit (.bool false)], args := [d] }
  | _ => none }
def SlotsPartsWrongFalsely : Prop := slotsPartsRow.holds Tryz.pinned (OpenSpec.ofChange slotsPartsWrong)

/-- 'starfishlaw19.SlotsTorn': WHATEVER THE INPUT: true; the input reads as it did. -/
def slotsTornSpec : ChangeSpec := { name := "slotsTorn", fn := fun _ => fun
  | [d1, d2, d3] => { results := [.lit (.bool true)], args := [d1, d2, d3] }
  | _ => none }
def slotsTornRow : OpenClaim := { program := "ytbcbhlfjgobejaagreat", sum := "3fafc3b7b70021b2428568384fc52448eae937edb7ea6baedd49a51da6220e2e", func := "starfish/starfishlaw19.SlotsTorn", spec := "slotsTorn", inPlace := ["maps.clone"], unfollowed := true, recurses := true, plainKeys := false, apart := false }
def SlotsTornSaid : Prop := slotsTornRow.holds Tryz.pinned (OpenSpec.ofChange slotsTornSpec)

/-- ITS FALSE NEIGHBOUR: 'it returns false'. Refute it at one input. -/
def slotsTornWrong : ChangeSpec := { name := "slotsTorn", fn := fun _ => fun
  | [d1, d2, d3] => { results := [.lit (.bool false)], args := [d1, d2, d3] }
  | _ => none }
def SlotsTornWrongFalsely : Prop := slotsTornRow.holds Tryz.pinned (OpenSpec.ofChange slotsTornWrong)

/-- 'starfishlaw19.SlotsKeeps': WHATEVER THE INPUT: true; the input reads as it did. -/
def slotsKeepsSpec : ChangeSpec := { name := "slotsKeeps", fn := fun _ => fun
  | [d1, d2, d3] => { results := [.lit (.bool true)], args := [d1, d2, d3] }
  | _ => none }
def slotsKeepsRow : OpenClaim := { program := "ytbcbhlfjgobejaagreat", sum := "3fafc3b7b70021b2428568384fc52448eae937edb7ea6baedd49a51da6220e2e", func := "starfish/starfishlaw19.SlotsKeeps", spec := "slotsKeeps", inPlace := ["maps.clone"], unfollowed := true, recurses := true, plainKeys := false, apart := false }
def SlotsKeepsSaid : Prop := slotsKeepsRow.holds Tryz.pinned (OpenSpec.ofChange slotsKeepsSpec)

/-- ITS FALSE NEIGHBOUR: 'it returns false'. Refute it at one input. -/
def slotsKeepsWrong : ChangeSpec := { name := "slotsKeeps", fn := fun _ => fun
  | [d1, d2, d3] => { results := [.lit (.bool false)], args := [d1, d2, d3] }
  | _ => none }
def SlotsKeepsWrongFalsely : Prop := slotsKeepsRow.holds Tryz.pinned (OpenSpec.ofChange slotsKeepsWrong)

/-- 'starfishlaw19.SlotsPlays': WHATEVER THE INPUT: true; the input reads as it did. -/
def slotsPlaysSpec : ChangeSpec := { name := "slotsPlays", fn := fun _ => fun
  | [d1, d2] => { results := [.lit (.bool true)], args := [d1, d2] }
  | _ => none }
def slotsPlaysRow : OpenClaim := { program := "ytbcbhlfjgobejaagreat", sum := "3fafc3b7b70021b2428568384fc52448eae937edb7ea6baedd49a51da6220e2e", func := "starfish/starfishlaw19.SlotsPlays", spec := "slotsPlays", inPlace := ["maps.clone"], unfollowed := true, recurses := true, plainKeys := false, apart := false }
def SlotsPlaysSaid : Prop := slotsPlaysRow.holds Tryz.pinned (OpenSpec.ofChange slotsPlaysSpec)

/-- ITS FALSE NEIGHBOUR: 'it returns false'. Refute it at one input. -/
def slotsPlaysWrong : ChangeSpec := { name := "slotsPlays", fn := fun _ => fun
  | [d1, d2] => { results := [.lit (.bool false)], args := [d1, d2] }
  | _ => none }
def SlotsPlaysWrongFalsely : Prop := slotsPlaysRow.holds Tryz.pinned (OpenSpec.ofChange slotsPlaysWrong)

/-- 'starfishlaw19.SlotsKnown': WHATEVER THE INPUT: true; the input reads as it did. -/
def slotsKnownSpec : ChangeSpec := { name := "slotsKnown", fn := fun _ => fun
  | [] => { results := [.lit (.bool true)], args := [] }
  | _ => none }
def slotsKnownRow : OpenClaim := { program := "ytbcbhlfjgobejaagreat", sum := "3fafc3b7b70021b2428568384fc52448eae937edb7ea6baedd49a51da6220e2e", func := "starfish/starfishlaw19.SlotsKnown", spec := "slotsKnown", inPlace := ["maps.clone"], unfollowed := true, recurses := true, plainKeys := false, apart := false }
def SlotsKnownSaid : Prop := slotsKnownRow.holds Tryz.pinned (OpenSpec.ofChange slotsKnownSpec)

/-- ITS FALSE NEIGHBOUR: 'it returns false'. Refute it at one input. -/
def slotsKnownWrong : ChangeSpec := { name := "slotsKnown", fn := fun _ => fun
  | [] => { results := [.lit (.bool false)], args := [] }
  | _ => none }
def SlotsKnownWrongFalsely : Prop := slotsKnownRow.holds Tryz.pinned (OpenSpec.ofChange slotsKnownWrong)

/-- 'starfishlaw21.JournalRoom': WHATEVER THE INPUT: true; the input reads as it did. -/
def journalRoomSpec : ChangeSpec := { name := "journalRoom", fn := fun _ => fun
  | [d1, d2] => { results := [.lit (.bool true)], args := [d1, d2] }
  | _ => none }
def journalRoomRow : OpenClaim := { program := "ytbcbhlfjgobejaagreat", sum := "3fafc3b7b70021b2428568384fc52448eae937edb7ea6baedd49a51da6220e2e", func := "starfish/starfishlaw21.JournalRoom", spec := "journalRoom", inPlace := ["maps.clone"], unfollowed := true, recurses := true, plainKeys := false, apart := false }
def JournalRoomSaid : Prop := journalRoomRow.holds Tryz.pinned (OpenSpec.ofChange journalRoomSpec)

/-- ITS FALSE NEIGHBOUR: 'it returns false'. Refute it at one input. -/
def journalRoomWrong : ChangeSpec := { name := "journalRoom", fn := fun _ => fun
  | [d1, d2] => { results := [.lit (.bool false)], args := [d1, d2] }
  | _ => none }
def JournalRoomWrongFalsely : Prop := journalRoomRow.holds Tryz.pinned (OpenSpec.ofChange journalRoomWrong)

/-- 'starfishlaw21.JournalKeeps': WHATEVER THE INPUT: true; the input reads as it did. -/
def journalKeepsSpec : ChangeSpec := { name := "journalKeeps", fn := fun _ => fun
  | [d1, d2, d3] => { results := [.lit (.bool true)], args := [d1, d2, d3] }
  | _ => none }
def journalKeepsRow : OpenClaim := { program := "ytbcbhlfjgobejaagreat", sum := "3fafc3b7b70021b2428568384fc52448eae937edb7ea6baedd49a51da6220e2e", func := "starfish/starfishlaw21.JournalKeeps", spec := "journalKeeps", inPlace := ["maps.clone"], unfollowed := true, recurses := true, plainKeys := false, apart := false }
def JournalKeepsSaid : Prop := journalKeepsRow.holds Tryz.pinned (OpenSpec.ofChange journalKeepsSpec)

/-- ITS FALSE NEIGHBOUR: 'it returns false'. Refute it at one input. -/
def journalKeepsWrong : ChangeSpec := { name := "journalKeeps", fn := fun _ => fun
  | [d1, d2, d3] => { results := [.lit (.bool false)], args := [d1, d2, d3] }
  | _ => none }
def JournalKeepsWrongFalsely : Prop := journalKeepsRow.holds Tryz.pinned (OpenSpec.ofChange journalKeepsWrong)

/-- 'starfishlaw21.JournalKnown': WHATEVER THE INPUT: true; the input reads as it did. -/
def journalKnownSpec : ChangeSpec := { name := "journalKnown", fn := fun _ => fun
  | [] => { results := [.lit (.bool true)], args := [] }
  | _ => none }
def journalKnownRow : OpenClaim := { program := "ytbcbhlfjgobejaagreat", sum := "3fafc3b7b70021b2428568384fc52448eae937edb7ea6baedd49a51da6220e2e", func := "starfish/starfishlaw21.JournalKnown", spec := "journalKnown", inPlace := ["maps.clone"], unfollowed := true, recurses := true, plainKeys := false, apart := false }
def JournalKnownSaid : Prop := journalKnownRow.holds Tryz.pinned (OpenSpec.ofChange journalKnownSpec)

/-- ITS FALSE NEIGHBOUR: 'it returns false'. Refute it at one input. -/
def journalKnownWrong : ChangeSpec := { name := "journalKnown", fn := fun _ => fun
  | [] => { results := [.lit (.bool false)], args := [] }
  | _ => none }
def JournalKnownWrongFalsely : Prop := journalKnownRow.holds Tryz.pinned (OpenSpec.ofChange journalKnownWrong)

/-- 'starfishlaw20.VaultApart': WHATEVER THE INPUT: true; the input reads as it did. -/
def vaultApartSpec : ChangeSpec := { name := "vaultApart", fn := fun _ => fun
  | [d1, d2] => { results := [.lit (.bool true)], args := [d1, d2] }
  | _ => none }
def vaultApartRow : OpenClaim := { program := "ytbcbhlfjgobejaagreat", sum := "3fafc3b7b70021b2428568384fc52448eae937edb7ea6baedd49a51da6220e2e", func := "starfish/starfishlaw20.VaultApart", spec := "vaultApart", inPlace := ["maps.clone"], unfollowed := true, recurses := true, plainKeys := false, apart := false }
def VaultApartSaid : Prop := vaultApartRow.holds Tryz.pinned (OpenSpec.ofChange vaultApartSpec)

/-- ITS FALSE NEIGHBOUR: 'it returns false'. Refute it at one input. -/
def vaultApartWrong : ChangeSpec := { name := "vaultApart", fn := fun _ => fun
  | [d1, d2] => { results := [.lit (.bool false)], args := [d1, d2] }
  | _ => none }
def VaultApartWrongFalsely : Prop := vaultApartRow.holds Tryz.pinned (OpenSpec.ofChange vaultApartWrong)

/-- 'starfishlaw20.VaultKeeps': WHATEVER THE INPUT: true; the input reads as it did. -/
def vaultKeepsSpec : ChangeSpec := { name := "vaultKeeps", fn := fun _ => fun
  | [d1, d2, d3] => { results := [.lit (.bool true)], args := [d1, d2, d3] }
  | _ => none }
def vaultKeepsRow : OpenClaim := { program := "ytbcbhlfjgobejaagreat", sum := "3fafc3b7b70021b2428568384fc52448eae937edb7ea6baedd49a51da6220e2e", func := "starfish/starfishlaw20.VaultKeeps", spec := "vaultKeeps", inPlace := ["maps.clone"], unfollowed := true, recurses := true, plainKeys := false, apart := false }
def VaultKeepsSaid : Prop := vaultKeepsRow.holds Tryz.pinned (OpenSpec.ofChange vaultKeepsSpec)

/-- ITS FALSE NEIGHBOUR: 'it returns false'. Refute it at one input. -/
def vaultKeepsWrong : ChangeSpec := { name := "vaultKeeps", fn := fun _ => fun
  | [d1, d2, d3] => { results := [.lit (.bool false)], args := [d1, d2, d3] }
  | _ => none }
def VaultKeepsWrongFalsely : Prop := vaultKeepsRow.holds Tryz.pinned (OpenSpec.ofChange vaultKeepsWrong)

/-- 'starfishlaw20.VaultPlays': WHATEVER THE INPUT: true; the input reads as it did. -/
def vaultPlaysSpec : ChangeSpec := { name := "vaultPlays", fn := fun _ => fun
  | [d1, d2] => { results := [.lit (.bool true)], args := [d1, d2] }
  | _ => none }
def vaultPlaysRow : OpenClaim := { program := "ytbcbhlfjgobejaagreat", sum := "3fafc3b7b70021b2428568384fc52448eae937edb7ea6baedd49a51da6220e2e", func := "starfish/starfishlaw20.VaultPlays", spec := "vaultPlays", inPlace := ["maps.clone"], unfollowed := true, recurses := true, plainKeys := false, apart := false }
def VaultPlaysSaid : Prop := vaultPlaysRow.holds Tryz.pinned (OpenSpec.ofChange vaultPlaysSpec)

/-- ITS FALSE NEIGHBOUR: 'it returns false'. Refute it at one input. -/
def vaultPlaysWrong : ChangeSpec := { name := "vaultPlays", fn := fun _ => fun
  | [d1, d2] => { results := [.lit (.bool false)], args := [d1, d2] }
  | _ => none }
def VaultPlaysWrongFalsely : Prop := vaultPlaysRow.holds Tryz.pinned (OpenSpec.ofChange vaultPlaysWrong)

/-- 'starfishlaw20.VaultKnown': WHATEVER THE INPUT: true; the input reads as it did. -/
def vaultKnownSpec : ChangeSpec := { name := "vaultKnown", fn := fun _ => fun
  | [] => { results := [.lit (.bool true)], args := [] }
  | _ => none }
def vaultKnownRow : OpenClaim := { program := "ytbcbhlfjgobejaagreat", sum := "3fafc3b7b70021b2428568384fc52448eae937edb7ea6baedd49a51da6220e2e", func := "starfish/starfishlaw20.VaultKnown", spec := "vaultKnown", inPlace := ["maps.clone"], unfollowed := true, recurses := true, plainKeys := false, apart := false }
def VaultKnownSaid : Prop := vaultKnownRow.holds Tryz.pinned (OpenSpec.ofChange vaultKnownSpec)

/-- ITS FALSE NEIGHBOUR: 'it returns false'. Refute it at one input. -/
def vaultKnownWrong : ChangeSpec := { name := "vaultKnown", fn := fun _ => fun
  | [] => { results := [.lit (.bool false)], args := [] }
  | _ => none }
def VaultKnownWrongFalsely : Prop := vaultKnownRow.holds Tryz.pinned (OpenSpec.ofChange vaultKnownWrong)

/- THE SECOND FORM. 'bulk': how many values and letters a reading holds, each counted each time it is reached (what is shared counts as often as it is met; a slice's spare places count too). A statement '..UptoSaid' is the law's where the arguments, and the package variables that the reading takes, are together of bulk at most 1048576: NARROWER than '..Said'. Prove '..Said' where nothing that the law and all that it calls make is longer than what came in: it says more and counts as full. Else prove '..UptoSaid'. A law counts once. -/
mutual
def uptoBulk {H : Type} : DataW H → Nat
  | .lit (.string bytes) => bytes.length + 1
  | .lit _ => 1
  | .nil => 1
  | .ptr d => uptoBulk d + 1
  | .slice elems spare => uptoBulkAll elems + uptoBulkAll spare + 1
  | .agg parts => uptoBulkAll parts + 1
  | .iface _ d => uptoBulk d + 1
  | .map entries => uptoBulkEntries entries + 1
  | .held _ => 1
def uptoBulkAll {H : Type} : List (DataW H) → Nat
  | [] => 0
  | d :: r => uptoBulk d + uptoBulkAll r
def uptoBulkEntries {H : Type} : List (Lit × DataW H) → Nat
  | [] => 0
  | x :: r => uptoBulkEntry x + uptoBulkEntries r
def uptoBulkEntry {H : Type} : Lit × DataW H → Nat
  | (.string bytes, d) => bytes.length + uptoBulk d + 1
  | (_, d) => uptoBulk d + 1
 end
def uptoSmall : (H : Type) → List (DataW H) → Bool := fun _ ds => decide (uptoBulkAll ds ≤ 1048576)
def OpenSpec.upto (s : _root_.Go.ChangeSpec) : _root_.Go.OpenSpec := { _root_.Go.OpenSpec.ofChange s with cond := some uptoSmall }

/-- 'starfishlaw19.SlotsParts', WHERE WHAT IT READS IS OF BULK AT MOST 1048576: true; the input reads as it did. -/
def slotsPartsUptoRow : OpenClaim := { program := "ytbcbhlfjgobejaagreat", sum := "3fafc3b7b70021b2428568384fc52448eae937edb7ea6baedd49a51da6220e2e", func := "starfish/starfishlaw19.SlotsParts", spec := "slotsParts", inPlace := ["maps.clone"], unfollowed := true, recurses := true, plainKeys := false, apart := false, narrowed := true }
def SlotsPartsUptoSaid : Prop := slotsPartsUptoRow.holds Tryz.pinned (OpenSpec.upto slotsPartsSpec)

/-- 'starfishlaw19.SlotsTorn', WHERE WHAT IT READS IS OF BULK AT MOST 1048576: true; the input reads as it did. -/
def slotsTornUptoRow : OpenClaim := { program := "ytbcbhlfjgobejaagreat", sum := "3fafc3b7b70021b2428568384fc52448eae937edb7ea6baedd49a51da6220e2e", func := "starfish/starfishlaw19.SlotsTorn", spec := "slotsTorn", inPlace := ["maps.clone"], unfollowed := true, recurses := true, plainKeys := false, apart := false, narrowed := true }
def SlotsTornUptoSaid : Prop := slotsTornUptoRow.holds Tryz.pinned (OpenSpec.upto slotsTornSpec)

/-- 'starfishlaw19.SlotsKeeps', WHERE WHAT IT READS IS OF BULK AT MOST 1048576: true; the input reads as it did. -/
def slotsKeepsUptoRow : OpenClaim := { program := "ytbcbhlfjgobejaagreat", sum := "3fafc3b7b70021b2428568384fc52448eae937edb7ea6baedd49a51da6220e2e", func := "starfish/starfishlaw19.SlotsKeeps", spec := "slotsKeeps", inPlace := ["maps.clone"], unfollowed := true, recurses := true, plainKeys := false, apart := false, narrowed := true }
def SlotsKeepsUptoSaid : Prop := slotsKeepsUptoRow.holds Tryz.pinned (OpenSpec.upto slotsKeepsSpec)

/-- 'starfishlaw19.SlotsPlays', WHERE WHAT IT READS IS OF BULK AT MOST 1048576: true; the input reads as it did. -/
def slotsPlaysUptoRow : OpenClaim := { program := "ytbcbhlfjgobejaagreat", sum := "3fafc3b7b70021b2428568384fc52448eae937edb7ea6baedd49a51da6220e2e", func := "starfish/starfishlaw19.SlotsPlays", spec := "slotsPlays", inPlace := ["maps.clone"], unfollowed := true, recurses := true, plainKeys := false, apart := false, narrowed := true }
def SlotsPlaysUptoSaid : Prop := slotsPlaysUptoRow.holds Tryz.pinned (OpenSpec.upto slotsPlaysSpec)

/-- 'starfishlaw19.SlotsKnown', WHERE WHAT IT READS IS OF BULK AT MOST 1048576: true; the input reads as it did. -/
def slotsKnownUptoRow : OpenClaim := { program := "ytbcbhlfjgobejaagreat", sum := "3fafc3b7b70021b2428568384fc52448eae937edb7ea6baedd49a51da6220e2e", func := "starfish/starfishlaw19.SlotsKnown", spec := "slotsKnown", inPlace := ["maps.clone"], unfollowed := true, recurses := true, plainKeys := false, apart := false, narrowed := true }
def SlotsKnownUptoSaid : Prop := slotsKnownUptoRow.holds Tryz.pinned (OpenSpec.upto slotsKnownSpec)

/-- 'starfishlaw21.JournalRoom', WHERE WHAT IT READS IS OF BULK AT MOST 1048576: true; the input reads as it did. -/
def journalRoomUptoRow : OpenClaim := { program := "ytbcbhlfjgobejaagreat", sum := "3fafc3b7b70021b2428568384fc52448eae937edb7ea6baedd49a51da6220e2e", func := "starfish/starfishlaw21.JournalRoom", spec := "journalRoom", inPlace := ["maps.clone"], unfollowed := true, recurses := true, plainKeys := false, apart := false, narrowed := true }
def JournalRoomUptoSaid : Prop := journalRoomUptoRow.holds Tryz.pinned (OpenSpec.upto journalRoomSpec)

/-- 'starfishlaw21.JournalKeeps', WHERE WHAT IT READS IS OF BULK AT MOST 1048576: true; the input reads as it did. -/
def journalKeepsUptoRow : OpenClaim := { program := "ytbcbhlfjgobejaagreat", sum := "3fafc3b7b70021b2428568384fc52448eae937edb7ea6baedd49a51da6220e2e", func := "starfish/starfishlaw21.JournalKeeps", spec := "journalKeeps", inPlace := ["maps.clone"], unfollowed := true, recurses := true, plainKeys := false, apart := false, narrowed := true }
def JournalKeepsUptoSaid : Prop := journalKeepsUptoRow.holds Tryz.pinned (OpenSpec.upto journalKeepsSpec)

/-- 'starfishlaw21.JournalKnown', WHERE WHAT IT READS IS OF BULK AT MOST 1048576: true; the input reads as it did. -/
def journalKnownUptoRow : OpenClaim := { program := "ytbcbhlfjgobejaagreat", sum := "3fafc3b7b70021b2428568384fc52448eae937edb7ea6baedd49a51da6220e2e", func := "starfish/starfishlaw21.JournalKnown", spec := "journalKnown", inPlace := ["maps.clone"], unfollowed := true, recurses := true, plainKeys := false, apart := false, narrowed := true }
def JournalKnownUptoSaid : Prop := journalKnownUptoRow.holds Tryz.pinned (OpenSpec.upto journalKnownSpec)

/-- 'starfishlaw20.VaultApart', WHERE WHAT IT READS IS OF BULK AT MOST 1048576: true; the input reads as it did. -/
def vaultApartUptoRow : OpenClaim := { program := "ytbcbhlfjgobejaagreat", sum := "3fafc3b7b70021b2428568384fc52448eae937edb7ea6baedd49a51da6220e2e", func := "starfish/starfishlaw20.VaultApart", spec := "vaultApart", inPlace := ["maps.clone"], unfollowed := true, recurses := true, plainKeys := false, apart := false, narrowed := true }
def VaultApartUptoSaid : Prop := vaultApartUptoRow.holds Tryz.pinned (OpenSpec.upto vaultApartSpec)

/-- 'starfishlaw20.VaultKeeps', WHERE WHAT IT READS IS OF BULK AT MOST 1048576: true; the input reads as it did. -/
def vaultKeepsUptoRow : OpenClaim := { program := "ytbcbhlfjgobejaagreat", sum := "3fafc3b7b70021b2428568384fc52448eae937edb7ea6baedd49a51da6220e2e", func := "starfish/starfishlaw20.VaultKeeps", spec := "vaultKeeps", inPlace := ["maps.clone"], unfollowed := true, recurses := true, plainKeys := false, apart := false, narrowed := true }
def VaultKeepsUptoSaid : Prop := vaultKeepsUptoRow.holds Tryz.pinned (OpenSpec.upto vaultKeepsSpec)

/-- 'starfishlaw20.VaultPlays', WHERE WHAT IT READS IS OF BULK AT MOST 1048576: true; the input reads as it did. -/
def vaultPlaysUptoRow : OpenClaim := { program := "ytbcbhlfjgobejaagreat", sum := "3fafc3b7b70021b2428568384fc52448eae937edb7ea6baedd49a51da6220e2e", func := "starfish/starfishlaw20.VaultPlays", spec := "vaultPlays", inPlace := ["maps.clone"], unfollowed := true, recurses := true, plainKeys := false, apart := false, narrowed := true }
def VaultPlaysUptoSaid : Prop := vaultPlaysUptoRow.holds Tryz.pinned (OpenSpec.upto vaultPlaysSpec)

/-- 'starfishlaw20.VaultKnown', WHERE WHAT IT READS IS OF BULK AT MOST 1048576: true; the input reads as it did. -/
def vaultKnownUptoRow : OpenClaim := { program := "ytbcbhlfjgobejaagreat", sum := "3fafc3b7b70021b2428568384fc52448eae937edb7ea6baedd49a51da6220e2e", func := "starfish/starfishlaw20.VaultKnown", spec := "vaultKnown", inPlace := ["maps.clone"], unfollowed := true, recurses := true, plainKeys := false, apart := false, narrowed := true }
def VaultKnownUptoSaid : Prop := vaultKnownUptoRow.holds Tryz.pinned (OpenSpec.upto vaultKnownSpec)

end Rows
end Go.Proofs.YtbcbhlfjgobejaaGreat
