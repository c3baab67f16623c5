/-
  No cell of these rows narrows 'for every input' (looked for: loops, veiled, ifaces, maps, wideKeys, modest, calm, conditions, laid).
  DERIVED. THE GIVEN ROWS OF THIS SEAT. 6 by the template 'for every input the law returns true; each argument reads behind the call as it read before'; 0 by the template 'total and deterministic' (their statements: YtihgfpggdkhhaaaTotals.lean).
  GIVEN WITH THE SEED: the statements are not yours to turn. If you find one false, say at which input.
  Laid BY PROGRAM, IN A SANDBOX (cutbox-rows.mjs): the forced cells as the released guide's own fill.sh prints them over the translation fdc3dc66d724c087… (all of the seat's roots in one cut). By AI agents, Wed Nov 11 2026. No macro, syntax, notation, axiom, sorry.
-/
import Derived.Test.YtihgfpggdkhhaaaChecked
import GoSem.Claim
import GoSem.ClaimJoined
import GoSem.ClaimMapViews
import Derived.JoinedTies
import Derived.KernelRfl
namespace Go.Proofs.Ytihgfpggdkhhaaa
/- THE CELL 'sum', in the pinned program and in every row, IS THE sha256 OF THE DUMP (.gsa) THAT YtihgfpggdkhhaaaProg.lean LOADS. Nothing in Lean hashes anything: it is a label: what it is worth is what the hold of that sum in a sandbox is worth. -/
noncomputable def Try.pinned : Pinned := { name := "ytihgfpggdkhhaaa", sum := "fdc3dc66d724c087a0b1e7e21ac87685ad7bb9102900e528ded562d35097c399", checked := Try.checked }
namespace Rows
def none {H : Type} : Left H := { results := [], args := [] }

/-- 'tenancylaw10.StateAll': WHATEVER THE INPUT: true; the input reads as it did. -/
def stateAllSpec : ChangeSpec := { name := "stateAll", fn := fun _ => fun
  | [d1, d2, d3, d4, d5, d6, d7, d8, d9] => { results := [.lit (.bool true)], args := [d1, d2, d3, d4, d5, d6, d7, d8, d9] }
  | _ => none }
def stateAllRow : OpenClaim := { program := "ytihgfpggdkhhaaa", sum := "fdc3dc66d724c087a0b1e7e21ac87685ad7bb9102900e528ded562d35097c399", func := "tenancy/tenancylaw10.StateAll", spec := "stateAll", inPlace := ["internal/abi.NoEscape", "internal/bytealg.MakeNoZero"], unfollowed := true, recurses := true, apart := false }
def StateAllSaid : Prop := stateAllRow.holds Try.pinned (OpenSpec.ofChange stateAllSpec)

/-- ITS FALSE NEIGHBOUR: 'it returns false'. Refute it at one input. -/
def stateAllWrong : ChangeSpec := { name := "stateAll", fn := fun _ => fun
  | [d1, d2, d3, d4, d5, d6, d7, d8, d9] => { results := [.lit (.bool false)], args := [d1, d2, d3, d4, d5, d6, d7, d8, d9] }
  | _ => none }
def StateAllWrongFalsely : Prop := stateAllRow.holds Try.pinned (OpenSpec.ofChange stateAllWrong)

/-- 'tenancylaw10.StateNames': WHATEVER THE INPUT: true; the input reads as it did. -/
def stateNamesSpec : ChangeSpec := { name := "stateNames", fn := fun _ => fun
  | [d] => { results := [.lit (.bool true)], args := [d] }
  | _ => none }
def stateNamesRow : OpenClaim := { program := "ytihgfpggdkhhaaa", sum := "fdc3dc66d724c087a0b1e7e21ac87685ad7bb9102900e528ded562d35097c399", func := "tenancy/tenancylaw10.StateNames", spec := "stateNames", inPlace := ["internal/abi.NoEscape", "internal/bytealg.MakeNoZero"], unfollowed := true, recurses := true, apart := false }
def StateNamesSaid : Prop := stateNamesRow.holds Try.pinned (OpenSpec.ofChange stateNamesSpec)

/-- ITS FALSE NEIGHBOUR: 'it returns false'. Refute it at one input. -/
def stateNamesWrong : ChangeSpec := { name := "stateNames", fn := fun _ => fun
  | [d] => { results := [.lit (.bool false)], args := [d] }
  | _ => none }
def StateNamesWrongFalsely : Prop := stateNamesRow.holds Try.pinned (OpenSpec.ofChange stateNamesWrong)

/-- 'tenancylaw10.StateMarks': WHATEVER THE INPUT: true; the input reads as it did. -/
def stateMarksSpec : ChangeSpec := { name := "stateMarks", fn := fun _ => fun
  | [d1, d2, d3, d4] => { results := [.lit (.bool true)], args := [d1, d2, d3, d4] }
  | _ => none }
def stateMarksRow : OpenClaim := { program := "ytihgfpggdkhhaaa", sum := "fdc3dc66d724c087a0b1e7e21ac87685ad7bb9102900e528ded562d35097c399", func := "tenancy/tenancylaw10.StateMarks", spec := "stateMarks", inPlace := ["internal/abi.NoEscape", "internal/bytealg.MakeNoZero"], unfollowed := true, recurses := true, apart := false }
def StateMarksSaid : Prop := stateMarksRow.holds Try.pinned (OpenSpec.ofChange stateMarksSpec)

/-- ITS FALSE NEIGHBOUR: 'it returns false'. Refute it at one input. -/
def stateMarksWrong : ChangeSpec := { name := "stateMarks", fn := fun _ => fun
  | [d1, d2, d3, d4] => { results := [.lit (.bool false)], args := [d1, d2, d3, d4] }
  | _ => none }
def StateMarksWrongFalsely : Prop := stateMarksRow.holds Try.pinned (OpenSpec.ofChange stateMarksWrong)

/-- 'tenancylaw10.StateForms': WHATEVER THE INPUT: true; the input reads as it did. -/
def stateFormsSpec : ChangeSpec := { name := "stateForms", fn := fun _ => fun
  | [] => { results := [.lit (.bool true)], args := [] }
  | _ => none }
def stateFormsRow : OpenClaim := { program := "ytihgfpggdkhhaaa", sum := "fdc3dc66d724c087a0b1e7e21ac87685ad7bb9102900e528ded562d35097c399", func := "tenancy/tenancylaw10.StateForms", spec := "stateForms", inPlace := ["internal/abi.NoEscape", "internal/bytealg.MakeNoZero"], unfollowed := true, recurses := true, apart := false }
def StateFormsSaid : Prop := stateFormsRow.holds Try.pinned (OpenSpec.ofChange stateFormsSpec)

/-- ITS FALSE NEIGHBOUR: 'it returns false'. Refute it at one input. -/
def stateFormsWrong : ChangeSpec := { name := "stateForms", fn := fun _ => fun
  | [] => { results := [.lit (.bool false)], args := [] }
  | _ => none }
def StateFormsWrongFalsely : Prop := stateFormsRow.holds Try.pinned (OpenSpec.ofChange stateFormsWrong)

/-- 'tenancylaw10.StateApart': WHATEVER THE INPUT: true; the input reads as it did. -/
def stateApartSpec : ChangeSpec := { name := "stateApart", fn := fun _ => fun
  | [d1, d2, d3] => { results := [.lit (.bool true)], args := [d1, d2, d3] }
  | _ => none }
def stateApartRow : OpenClaim := { program := "ytihgfpggdkhhaaa", sum := "fdc3dc66d724c087a0b1e7e21ac87685ad7bb9102900e528ded562d35097c399", func := "tenancy/tenancylaw10.StateApart", spec := "stateApart", inPlace := ["internal/abi.NoEscape", "internal/bytealg.MakeNoZero"], unfollowed := true, recurses := true, apart := false }
def StateApartSaid : Prop := stateApartRow.holds Try.pinned (OpenSpec.ofChange stateApartSpec)

/-- ITS FALSE NEIGHBOUR: 'it returns false'. Refute it at one input. -/
def stateApartWrong : ChangeSpec := { name := "stateApart", fn := fun _ => fun
  | [d1, d2, d3] => { results := [.lit (.bool false)], args := [d1, d2, d3] }
  | _ => none }
def StateApartWrongFalsely : Prop := stateApartRow.holds Try.pinned (OpenSpec.ofChange stateApartWrong)

/-- 'tenancylaw10.StateBoots': WHATEVER THE INPUT: true; the input reads as it did. -/
def stateBootsSpec : ChangeSpec := { name := "stateBoots", fn := fun _ => fun
  | [d1, d2] => { results := [.lit (.bool true)], args := [d1, d2] }
  | _ => none }
def stateBootsRow : OpenClaim := { program := "ytihgfpggdkhhaaa", sum := "fdc3dc66d724c087a0b1e7e21ac87685ad7bb9102900e528ded562d35097c399", func := "tenancy/tenancylaw10.StateBoots", spec := "stateBoots", inPlace := ["internal/abi.NoEscape", "internal/bytealg.MakeNoZero"], unfollowed := true, recurses := true, apart := false }
def StateBootsSaid : Prop := stateBootsRow.holds Try.pinned (OpenSpec.ofChange stateBootsSpec)

/-- ITS FALSE NEIGHBOUR: 'it returns false'. Refute it at one input. -/
def stateBootsWrong : ChangeSpec := { name := "stateBoots", fn := fun _ => fun
  | [d1, d2] => { results := [.lit (.bool false)], args := [d1, d2] }
  | _ => none }
def StateBootsWrongFalsely : Prop := stateBootsRow.holds Try.pinned (OpenSpec.ofChange stateBootsWrong)

/- THE SECOND FORM. 'bulk': how many values and letters a reading holds, each counted each time it is reached (what is shared counts as often as it is met; a slice's spare places count too). A statement '..UptoSaid' is the law's where the arguments, and the package variables that the reading takes, are together of bulk at most 1048576: NARROWER than '..Said'. Prove '..Said' where nothing that the law and all that it calls make is longer than what came in: it says more and counts as full. Else prove '..UptoSaid'. A law counts once. -/
mutual
def uptoBulk {H : Type} : DataW H → Nat
  | .lit (.string bytes) => bytes.length + 1
  | .lit _ => 1
  | .nil => 1
  | .ptr d => uptoBulk d + 1
  | .slice elems spare => uptoBulkAll elems + uptoBulkAll spare + 1
  | .agg parts => uptoBulkAll parts + 1
  | .iface _ d => uptoBulk d + 1
  | .map entries => uptoBulkEntries entries + 1
  | .held _ => 1
def uptoBulkAll {H : Type} : List (DataW H) → Nat
  | [] => 0
  | d :: r => uptoBulk d + uptoBulkAll r
def uptoBulkEntries {H : Type} : List (Lit × DataW H) → Nat
  | [] => 0
  | x :: r => uptoBulkEntry x + uptoBulkEntries r
def uptoBulkEntry {H : Type} : Lit × DataW H → Nat
  | (.string bytes, d) => bytes.length + uptoBulk d + 1
  | (_, d) => uptoBulk d + 1
 end
def uptoSmall : (H : Type) → List (DataW H) → Bool := fun _ ds => decide (uptoBulkAll ds ≤ 1048576)
def OpenSpec.upto (s : _root_.Go.ChangeSpec) : _root_.Go.OpenSpec := { _root_.Go.OpenSpec.ofChange s with cond := some uptoSmall }

/-- 'tenancylaw10.StateAll', WHERE WHAT IT READS IS OF BULK AT MOST 1048576: true; the input reads as it did. -/
def stateAllUptoRow : OpenClaim := { program := "ytihgfpggdkhhaaa", sum := "fdc3dc66d724c087a0b1e7e21ac87685ad7bb9102900e528ded562d35097c399", func := "tenancy/tenancylaw10.StateAll", spec := "stateAll", inPlace := ["internal/abi.NoEscape", "internal/bytealg.MakeNoZero"], unfollowed := true, recurses := true, apart := false, narrowed := true }
def StateAllUptoSaid : Prop := stateAllUptoRow.holds Try.pinned (OpenSpec.upto stateAllSpec)

/-- 'tenancylaw10.StateNames', WHERE WHAT IT READS IS OF BULK AT MOST 1048576: true; the input reads as it did. -/
def stateNamesUptoRow : OpenClaim := { program := "ytihgfpggdkhhaaa", sum := "fdc3dc66d724c087a0b1e7e21ac87685ad7bb9102900e528ded562d35097c399", func := "tenancy/tenancylaw10.StateNames", spec := "stateNames", inPlace := ["internal/abi.NoEscape", "internal/bytealg.MakeNoZero"], unfollowed := true, recurses := true, apart := false, narrowed := true }
def StateNamesUptoSaid : Prop := stateNamesUptoRow.holds Try.pinned (OpenSpec.upto stateNamesSpec)

/-- 'tenancylaw10.StateMarks', WHERE WHAT IT READS IS OF BULK AT MOST 1048576: true; the input reads as it did. -/
def stateMarksUptoRow : OpenClaim := { program := "ytihgfpggdkhhaaa", sum := "fdc3dc66d724c087a0b1e7e21ac87685ad7bb9102900e528ded562d35097c399", func := "tenancy/tenancylaw10.StateMarks", spec := "stateMarks", inPlace := ["internal/abi.NoEscape", "internal/bytealg.MakeNoZero"], unfollowed := true, recurses := true, apart := false, narrowed := true }
def StateMarksUptoSaid : Prop := stateMarksUptoRow.holds Try.pinned (OpenSpec.upto stateMarksSpec)

/-- 'tenancylaw10.StateForms', WHERE WHAT IT READS IS OF BULK AT MOST 1048576: true; the input reads as it did. -/
def stateFormsUptoRow : OpenClaim := { program := "ytihgfpggdkhhaaa", sum := "fdc3dc66d724c087a0b1e7e21ac87685ad7bb9102900e528ded562d35097c399", func := "tenancy/tenancylaw10.StateForms", spec := "stateForms", inPlace := ["internal/abi.NoEscape", "internal/bytealg.MakeNoZero"], unfollowed := true, recurses := true, apart := false, narrowed := true }
def StateFormsUptoSaid : Prop := stateFormsUptoRow.holds Try.pinned (OpenSpec.upto stateFormsSpec)

/-- 'tenancylaw10.StateApart', WHERE WHAT IT READS IS OF BULK AT MOST 1048576: true; the input reads as it did. -/
def stateApartUptoRow : OpenClaim := { program := "ytihgfpggdkhhaaa", sum := "fdc3dc66d724c087a0b1e7e21ac87685ad7bb9102900e528ded562d35097c399", func := "tenancy/tenancylaw10.StateApart", spec := "stateApart", inPlace := ["internal/abi.NoEscape", "internal/bytealg.MakeNoZero"], unfollowed := true, recurses := true, apart := false, narrowed := true }
def StateApartUptoSaid : Prop := stateApartUptoRow.holds Try.pinned (OpenSpec.upto stateApartSpec)

/-- 'tenancylaw10.StateBoots', WHERE WHAT IT READS IS OF BULK AT MOST 1048576: true; the input reads as it did. -/
def stateBootsUptoRow : OpenClaim := { program := "ytihgfpggdkhhaaa", sum := "fdc3dc66d724c087a0b1e7e21ac87685ad7bb9102900e528ded562d35097c399", func := "tenancy/tenancylaw10.StateBoots", spec := "stateBoots", inPlace := ["internal/abi.NoEscape", "internal/bytealg.MakeNoZero"], unfollowed := true, recurses := true, apart := false, narrowed := true }
def StateBootsUptoSaid : Prop := stateBootsUptoRow.holds Try.pinned (OpenSpec.upto stateBootsSpec)

end Rows
end Go.Proofs.Ytihgfpggdkhhaaa
