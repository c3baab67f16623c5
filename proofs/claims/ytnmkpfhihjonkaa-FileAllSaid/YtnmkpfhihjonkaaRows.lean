/-
  No cell of these rows narrows 'for every input' (looked for: loops, veiled, ifaces, maps, wideKeys, modest, calm, conditions, laid).
  DERIVED. THE GIVEN ROWS OF THIS SEAT. 4 by the template 'for every input the law returns true; each argument reads behind the call as it read before'; 0 by the template 'total and deterministic' (their statements: YtnmkpfhihjonkaaTotals.lean).
  GIVEN WITH THE SEED: the statements are not yours to turn. If you find one false, say at which input.
  Laid BY PROGRAM, IN A SANDBOX (cutbox-rows.mjs): the forced cells as the released guide's own fill.sh prints them over the translation 450f6bb3c69cdc9c… (all of the seat's roots in one cut). By AI agents, Wed Nov 11 2026. No macro, syntax, notation, axiom, sorry.
-/
import Derived.Test.YtnmkpfhihjonkaaChecked
import GoSem.Claim
import GoSem.ClaimJoined
import GoSem.ClaimMapViews
import Derived.JoinedTies
import Derived.KernelRfl
namespace Go.Proofs.Ytnmkpfhihjonkaa
/- THE CELL 'sum', in the pinned program and in every row, IS THE sha256 OF THE DUMP (.gsa) THAT YtnmkpfhihjonkaaProg.lean LOADS. Nothing in Lean hashes anything: it is a label: what it is worth is what the hold of that sum in a sandbox is worth. -/
noncomputable def Try.pinned : Pinned := { name := "ytnmkpfhihjonkaa", sum := "450f6bb3c69cdc9c495f87f6dc408cdb5b576b2de98682bb43aa5d1c74cb0fc2", checked := Try.checked }
namespace Rows
def none {H : Type} : Left H := { results := [], args := [] }

/-- 'tenancylaw7.FileAll': WHATEVER THE INPUT: true; the input reads as it did. -/
def fileAllSpec : ChangeSpec := { name := "fileAll", fn := fun _ => fun
  | [d1, d2, d3] => { results := [.lit (.bool true)], args := [d1, d2, d3] }
  | _ => none }
def fileAllRow : OpenClaim := { program := "ytnmkpfhihjonkaa", sum := "450f6bb3c69cdc9c495f87f6dc408cdb5b576b2de98682bb43aa5d1c74cb0fc2", func := "tenancy/tenancylaw7.FileAll", spec := "fileAll", inPlace := ["internal/abi.NoEscape", "internal/bytealg.MakeNoZero"], apart := false }
def FileAllSaid : Prop := fileAllRow.holds Try.pinned (OpenSpec.ofChange fileAllSpec)

/-- ITS FALSE NEIGHBOUR: 'it returns false'. Refute it at one input. -/
def fileAllWrong : ChangeSpec := { name := "fileAll", fn := fun _ => fun
  | [d1, d2, d3] => { results := [.lit (.bool false)], args := [d1, d2, d3] }
  | _ => none }
def FileAllWrongFalsely : Prop := fileAllRow.holds Try.pinned (OpenSpec.ofChange fileAllWrong)

/-- 'tenancylaw7.FileBytes': WHATEVER THE INPUT: true; the input reads as it did. -/
def fileBytesSpec : ChangeSpec := { name := "fileBytes", fn := fun _ => fun
  | [d1, d2, d3] => { results := [.lit (.bool true)], args := [d1, d2, d3] }
  | _ => none }
def fileBytesRow : OpenClaim := { program := "ytnmkpfhihjonkaa", sum := "450f6bb3c69cdc9c495f87f6dc408cdb5b576b2de98682bb43aa5d1c74cb0fc2", func := "tenancy/tenancylaw7.FileBytes", spec := "fileBytes", inPlace := ["internal/abi.NoEscape", "internal/bytealg.MakeNoZero"], apart := false }
def FileBytesSaid : Prop := fileBytesRow.holds Try.pinned (OpenSpec.ofChange fileBytesSpec)

/-- ITS FALSE NEIGHBOUR: 'it returns false'. Refute it at one input. -/
def fileBytesWrong : ChangeSpec := { name := "fileBytes", fn := fun _ => fun
  | [d1, d2, d3] => { results := [.lit (.bool false)], args := [d1, d2, d3] }
  | _ => none }
def FileBytesWrongFalsely : Prop := fileBytesRow.holds Try.pinned (OpenSpec.ofChange fileBytesWrong)

/-- 'tenancylaw7.FileFronts': WHATEVER THE INPUT: true; the input reads as it did. -/
def fileFrontsSpec : ChangeSpec := { name := "fileFronts", fn := fun _ => fun
  | [d1, d2, d3] => { results := [.lit (.bool true)], args := [d1, d2, d3] }
  | _ => none }
def fileFrontsRow : OpenClaim := { program := "ytnmkpfhihjonkaa", sum := "450f6bb3c69cdc9c495f87f6dc408cdb5b576b2de98682bb43aa5d1c74cb0fc2", func := "tenancy/tenancylaw7.FileFronts", spec := "fileFronts", inPlace := ["internal/abi.NoEscape", "internal/bytealg.MakeNoZero"], apart := false }
def FileFrontsSaid : Prop := fileFrontsRow.holds Try.pinned (OpenSpec.ofChange fileFrontsSpec)

/-- ITS FALSE NEIGHBOUR: 'it returns false'. Refute it at one input. -/
def fileFrontsWrong : ChangeSpec := { name := "fileFronts", fn := fun _ => fun
  | [d1, d2, d3] => { results := [.lit (.bool false)], args := [d1, d2, d3] }
  | _ => none }
def FileFrontsWrongFalsely : Prop := fileFrontsRow.holds Try.pinned (OpenSpec.ofChange fileFrontsWrong)

/-- 'tenancylaw7.FileForms': WHATEVER THE INPUT: true; the input reads as it did. -/
def fileFormsSpec : ChangeSpec := { name := "fileForms", fn := fun _ => fun
  | [] => { results := [.lit (.bool true)], args := [] }
  | _ => none }
def fileFormsRow : OpenClaim := { program := "ytnmkpfhihjonkaa", sum := "450f6bb3c69cdc9c495f87f6dc408cdb5b576b2de98682bb43aa5d1c74cb0fc2", func := "tenancy/tenancylaw7.FileForms", spec := "fileForms", inPlace := ["internal/abi.NoEscape", "internal/bytealg.MakeNoZero"], apart := false }
def FileFormsSaid : Prop := fileFormsRow.holds Try.pinned (OpenSpec.ofChange fileFormsSpec)

/-- ITS FALSE NEIGHBOUR: 'it returns false'. Refute it at one input. -/
def fileFormsWrong : ChangeSpec := { name := "fileForms", fn := fun _ => fun
  | [] => { results := [.lit (.bool false)], args := [] }
  | _ => none }
def FileFormsWrongFalsely : Prop := fileFormsRow.holds Try.pinned (OpenSpec.ofChange fileFormsWrong)

/- THE SECOND FORM. 'bulk': how many values and letters a reading holds, each counted each time it is reached (what is shared counts as often as it is met; a slice's spare places count too). A statement '..UptoSaid' is the law's where the arguments, and the package variables that the reading takes, are together of bulk at most 1048576: NARROWER than '..Said'. Prove '..Said' where nothing that the law and all that it calls make is longer than what came in: it says more and counts as full. Else prove '..UptoSaid'. A law counts once. -/
mutual
def uptoBulk {H : Type} : DataW H → Nat
  | .lit (.string bytes) => bytes.length + 1
  | .lit _ => 1
  | .nil => 1
  | .ptr d => uptoBulk d + 1
  | .slice elems spare => uptoBulkAll elems + uptoBulkAll spare + 1
  | .agg parts => uptoBulkAll parts + 1
  | .iface _ d => uptoBulk d + 1
  | .map entries => uptoBulkEntries entries + 1
  | .held _ => 1
def uptoBulkAll {H : Type} : List (DataW H) → Nat
  | [] => 0
  | d :: r => uptoBulk d + uptoBulkAll r
def uptoBulkEntries {H : Type} : List (Lit × DataW H) → Nat
  | [] => 0
  | x :: r => uptoBulkEntry x + uptoBulkEntries r
def uptoBulkEntry {H : Type} : Lit × DataW H → Nat
  | (.string bytes, d) => bytes.length + uptoBulk d + 1
  | (_, d) => uptoBulk d + 1
 end
def uptoSmall : (H : Type) → List (DataW H) → Bool := fun _ ds => decide (uptoBulkAll ds ≤ 1048576)
def OpenSpec.upto (s : _root_.Go.ChangeSpec) : _root_.Go.OpenSpec := { _root_.Go.OpenSpec.ofChange s with cond := some uptoSmall }

/-- 'tenancylaw7.FileAll', WHERE WHAT IT READS IS OF BULK AT MOST 1048576: true; the input reads as it did. -/
def fileAllUptoRow : OpenClaim := { program := "ytnmkpfhihjonkaa", sum := "450f6bb3c69cdc9c495f87f6dc408cdb5b576b2de98682bb43aa5d1c74cb0fc2", func := "tenancy/tenancylaw7.FileAll", spec := "fileAll", inPlace := ["internal/abi.NoEscape", "internal/bytealg.MakeNoZero"], apart := false, narrowed := true }
def FileAllUptoSaid : Prop := fileAllUptoRow.holds Try.pinned (OpenSpec.upto fileAllSpec)

/-- 'tenancylaw7.FileBytes', WHERE WHAT IT READS IS OF BULK AT MOST 1048576: true; the input reads as it did. -/
def fileBytesUptoRow : OpenClaim := { program := "ytnmkpfhihjonkaa", sum := "450f6bb3c69cdc9c495f87f6dc408cdb5b576b2de98682bb43aa5d1c74cb0fc2", func := "tenancy/tenancylaw7.FileBytes", spec := "fileBytes", inPlace := ["internal/abi.NoEscape", "internal/bytealg.MakeNoZero"], apart := false, narrowed := true }
def FileBytesUptoSaid : Prop := fileBytesUptoRow.holds Try.pinned (OpenSpec.upto fileBytesSpec)

/-- 'tenancylaw7.FileFronts', WHERE WHAT IT READS IS OF BULK AT MOST 1048576: true; the input reads as it did. -/
def fileFrontsUptoRow : OpenClaim := { program := "ytnmkpfhihjonkaa", sum := "450f6bb3c69cdc9c495f87f6dc408cdb5b576b2de98682bb43aa5d1c74cb0fc2", func := "tenancy/tenancylaw7.FileFronts", spec := "fileFronts", inPlace := ["internal/abi.NoEscape", "internal/bytealg.MakeNoZero"], apart := false, narrowed := true }
def FileFrontsUptoSaid : Prop := fileFrontsUptoRow.holds Try.pinned (OpenSpec.upto fileFrontsSpec)

/-- 'tenancylaw7.FileForms', WHERE WHAT IT READS IS OF BULK AT MOST 1048576: true; the input reads as it did. -/
def fileFormsUptoRow : OpenClaim := { program := "ytnmkpfhihjonkaa", sum := "450f6bb3c69cdc9c495f87f6dc408cdb5b576b2de98682bb43aa5d1c74cb0fc2", func := "tenancy/tenancylaw7.FileForms", spec := "fileForms", inPlace := ["internal/abi.NoEscape", "internal/bytealg.MakeNoZero"], apart := false, narrowed := true }
def FileFormsUptoSaid : Prop := fileFormsUptoRow.holds Try.pinned (OpenSpec.upto fileFormsSpec)

end Rows
end Go.Proofs.Ytnmkpfhihjonkaa
