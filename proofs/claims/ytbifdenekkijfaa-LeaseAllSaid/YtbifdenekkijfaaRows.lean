/-
  No cell of these rows narrows 'for every input' (looked for: loops, veiled, ifaces, maps, wideKeys, modest, calm, conditions, laid).
  DERIVED. THE GIVEN ROWS OF THIS SEAT. 5 by the template 'for every input the law returns true; each argument reads behind the call as it read before'; 0 by the template 'total and deterministic' (their statements: YtbifdenekkijfaaTotals.lean).
  GIVEN WITH THE SEED: the statements are not yours to turn. If you find one false, say at which input.
  Laid BY PROGRAM, IN A SANDBOX (cutbox-rows.mjs): the forced cells as the released guide's own fill.sh prints them over the translation 2e5ef503b7193ef1… (all of the seat's roots in one cut). By AI agents, Wed Nov 11 2026. No macro, syntax, notation, axiom, sorry.
-/
import Derived.Test.YtbifdenekkijfaaChecked
import GoSem.Claim
import GoSem.ClaimJoined
import GoSem.ClaimMapViews
import Derived.JoinedTies
import Derived.KernelRfl
namespace Go.Proofs.Ytbifdenekkijfaa
/- THE CELL 'sum', in the pinned program and in every row, IS THE sha256 OF THE DUMP (.gsa) THAT YtbifdenekkijfaaProg.lean LOADS. Nothing in Lean hashes anything: it is a label: what it is worth is what the hold of that sum in a sandbox is worth. -/
noncomputable def Try.pinned : Pinned := { name := "ytbifdenekkijfaa", sum := "2e5ef503b7193ef128b9cd560487464a515a2111aa0e22ac9ee785e04855ecb1", checked := Try.checked }
namespace Rows
def none {H : Type} : Left H := { results := [], args := [] }

/-- 'tenancylaw13.LeaseAll': WHATEVER THE INPUT: true; the input reads as it did. -/
def leaseAllSpec : ChangeSpec := { name := "leaseAll", fn := fun _ => fun
  | [d1, d2, d3, d4, d5, d6] => { results := [.lit (.bool true)], args := [d1, d2, d3, d4, d5, d6] }
  | _ => none }
def leaseAllRow : OpenClaim := { program := "ytbifdenekkijfaa", sum := "2e5ef503b7193ef128b9cd560487464a515a2111aa0e22ac9ee785e04855ecb1", func := "tenancy/tenancylaw13.LeaseAll", spec := "leaseAll", inPlace := ["slices.overlaps[tenancy/api.Lease]"], unfollowed := true, recurses := true, apart := false }
def LeaseAllSaid : Prop := leaseAllRow.holds Try.pinned (OpenSpec.ofChange leaseAllSpec)

/-- ITS FALSE NEIGHBOUR: 'it returns false'. Refute it at one input. -/
def leaseAllWrong : ChangeSpec := { name := "leaseAll", fn := fun _ => fun
  | [d1, d2, d3, d4, d5, d6] => { results := [.lit (.bool false)], args := [d1, d2, d3, d4, d5, d6] }
  | _ => none }
def LeaseAllWrongFalsely : Prop := leaseAllRow.holds Try.pinned (OpenSpec.ofChange leaseAllWrong)

/-- 'tenancylaw13.LeaseAlone': WHATEVER THE INPUT: true; the input reads as it did. -/
def leaseAloneSpec : ChangeSpec := { name := "leaseAlone", fn := fun _ => fun
  | [d] => { results := [.lit (.bool true)], args := [d] }
  | _ => none }
def leaseAloneRow : OpenClaim := { program := "ytbifdenekkijfaa", sum := "2e5ef503b7193ef128b9cd560487464a515a2111aa0e22ac9ee785e04855ecb1", func := "tenancy/tenancylaw13.LeaseAlone", spec := "leaseAlone", inPlace := ["slices.overlaps[tenancy/api.Lease]"], unfollowed := true, recurses := true, apart := false }
def LeaseAloneSaid : Prop := leaseAloneRow.holds Try.pinned (OpenSpec.ofChange leaseAloneSpec)

/-- ITS FALSE NEIGHBOUR: 'it returns false'. Refute it at one input. -/
def leaseAloneWrong : ChangeSpec := { name := "leaseAlone", fn := fun _ => fun
  | [d] => { results := [.lit (.bool false)], args := [d] }
  | _ => none }
def LeaseAloneWrongFalsely : Prop := leaseAloneRow.holds Try.pinned (OpenSpec.ofChange leaseAloneWrong)

/-- 'tenancylaw13.LeaseForms': WHATEVER THE INPUT: true; the input reads as it did. -/
def leaseFormsSpec : ChangeSpec := { name := "leaseForms", fn := fun _ => fun
  | [] => { results := [.lit (.bool true)], args := [] }
  | _ => none }
def leaseFormsRow : OpenClaim := { program := "ytbifdenekkijfaa", sum := "2e5ef503b7193ef128b9cd560487464a515a2111aa0e22ac9ee785e04855ecb1", func := "tenancy/tenancylaw13.LeaseForms", spec := "leaseForms", inPlace := ["slices.overlaps[tenancy/api.Lease]"], unfollowed := true, recurses := true, apart := false }
def LeaseFormsSaid : Prop := leaseFormsRow.holds Try.pinned (OpenSpec.ofChange leaseFormsSpec)

/-- ITS FALSE NEIGHBOUR: 'it returns false'. Refute it at one input. -/
def leaseFormsWrong : ChangeSpec := { name := "leaseForms", fn := fun _ => fun
  | [] => { results := [.lit (.bool false)], args := [] }
  | _ => none }
def LeaseFormsWrongFalsely : Prop := leaseFormsRow.holds Try.pinned (OpenSpec.ofChange leaseFormsWrong)

/-- 'tenancylaw13.LeaseOver': WHATEVER THE INPUT: true; the input reads as it did. -/
def leaseOverSpec : ChangeSpec := { name := "leaseOver", fn := fun _ => fun
  | [d1, d2, d3, d4, d5] => { results := [.lit (.bool true)], args := [d1, d2, d3, d4, d5] }
  | _ => none }
def leaseOverRow : OpenClaim := { program := "ytbifdenekkijfaa", sum := "2e5ef503b7193ef128b9cd560487464a515a2111aa0e22ac9ee785e04855ecb1", func := "tenancy/tenancylaw13.LeaseOver", spec := "leaseOver", inPlace := ["slices.overlaps[tenancy/api.Lease]"], unfollowed := true, recurses := true, apart := false }
def LeaseOverSaid : Prop := leaseOverRow.holds Try.pinned (OpenSpec.ofChange leaseOverSpec)

/-- ITS FALSE NEIGHBOUR: 'it returns false'. Refute it at one input. -/
def leaseOverWrong : ChangeSpec := { name := "leaseOver", fn := fun _ => fun
  | [d1, d2, d3, d4, d5] => { results := [.lit (.bool false)], args := [d1, d2, d3, d4, d5] }
  | _ => none }
def LeaseOverWrongFalsely : Prop := leaseOverRow.holds Try.pinned (OpenSpec.ofChange leaseOverWrong)

/-- 'tenancylaw13.LeaseGrows': WHATEVER THE INPUT: true; the input reads as it did. -/
def leaseGrowsSpec : ChangeSpec := { name := "leaseGrows", fn := fun _ => fun
  | [d1, d2, d3, d4, d5, d6] => { results := [.lit (.bool true)], args := [d1, d2, d3, d4, d5, d6] }
  | _ => none }
def leaseGrowsRow : OpenClaim := { program := "ytbifdenekkijfaa", sum := "2e5ef503b7193ef128b9cd560487464a515a2111aa0e22ac9ee785e04855ecb1", func := "tenancy/tenancylaw13.LeaseGrows", spec := "leaseGrows", inPlace := ["slices.overlaps[tenancy/api.Lease]"], unfollowed := true, recurses := true, apart := false }
def LeaseGrowsSaid : Prop := leaseGrowsRow.holds Try.pinned (OpenSpec.ofChange leaseGrowsSpec)

/-- ITS FALSE NEIGHBOUR: 'it returns false'. Refute it at one input. -/
def leaseGrowsWrong : ChangeSpec := { name := "leaseGrows", fn := fun _ => fun
  | [d1, d2, d3, d4, d5, d6] => { results := [.lit (.bool false)], args := [d1, d2, d3, d4, d5, d6] }
  | _ => none }
def LeaseGrowsWrongFalsely : Prop := leaseGrowsRow.holds Try.pinned (OpenSpec.ofChange leaseGrowsWrong)

/- THE SECOND FORM. 'bulk': how many values and letters a reading holds, each counted each time it is reached (what is shared counts as often as it is met; a slice's spare places count too). A statement '..UptoSaid' is the law's where the arguments, and the package variables that the reading takes, are together of bulk at most 1048576: NARROWER than '..Said'. Prove '..Said' where nothing that the law and all that it calls make is longer than what came in: it says more and counts as full. Else prove '..UptoSaid'. A law counts once. -/
mutual
def uptoBulk {H : Type} : DataW H → Nat
  | .lit (.string bytes) => bytes.length + 1
  | .lit _ => 1
  | .nil => 1
  | .ptr d => uptoBulk d + 1
  | .slice elems spare => uptoBulkAll elems + uptoBulkAll spare + 1
  | .agg parts => uptoBulkAll parts + 1
  | .iface _ d => uptoBulk d + 1
  | .map entries => uptoBulkEntries entries + 1
  | .held _ => 1
def uptoBulkAll {H : Type} : List (DataW H) → Nat
  | [] => 0
  | d :: r => uptoBulk d + uptoBulkAll r
def uptoBulkEntries {H : Type} : List (Lit × DataW H) → Nat
  | [] => 0
  | x :: r => uptoBulkEntry x + uptoBulkEntries r
def uptoBulkEntry {H : Type} : Lit × DataW H → Nat
  | (.string bytes, d) => bytes.length + uptoBulk d + 1
  | (_, d) => uptoBulk d + 1
 end
def uptoSmall : (H : Type) → List (DataW H) → Bool := fun _ ds => decide (uptoBulkAll ds ≤ 1048576)
def OpenSpec.upto (s : _root_.Go.ChangeSpec) : _root_.Go.OpenSpec := { _root_.Go.OpenSpec.ofChange s with cond := some uptoSmall }

/-- 'tenancylaw13.LeaseAll', WHERE WHAT IT READS IS OF BULK AT MOST 1048576: true; the input reads as it did. -/
def leaseAllUptoRow : OpenClaim := { program := "ytbifdenekkijfaa", sum := "2e5ef503b7193ef128b9cd560487464a515a2111aa0e22ac9ee785e04855ecb1", func := "tenancy/tenancylaw13.LeaseAll", spec := "leaseAll", inPlace := ["slices.overlaps[tenancy/api.Lease]"], unfollowed := true, recurses := true, apart := false, narrowed := true }
def LeaseAllUptoSaid : Prop := leaseAllUptoRow.holds Try.pinned (OpenSpec.upto leaseAllSpec)

/-- 'tenancylaw13.LeaseAlone', WHERE WHAT IT READS IS OF BULK AT MOST 1048576: true; the input reads as it did. -/
def leaseAloneUptoRow : OpenClaim := { program := "ytbifdenekkijfaa", sum := "2e5ef503b7193ef128b9cd560487464a515a2111aa0e22ac9ee785e04855ecb1", func := "tenancy/tenancylaw13.LeaseAlone", spec := "leaseAlone", inPlace := ["slices.overlaps[tenancy/api.Lease]"], unfollowed := true, recurses := true, apart := false, narrowed := true }
def LeaseAloneUptoSaid : Prop := leaseAloneUptoRow.holds Try.pinned (OpenSpec.upto leaseAloneSpec)

/-- 'tenancylaw13.LeaseForms', WHERE WHAT IT READS IS OF BULK AT MOST 1048576: true; the input reads as it did. -/
def leaseFormsUptoRow : OpenClaim := { program := "ytbifdenekkijfaa", sum := "2e5ef503b7193ef128b9cd560487464a515a2111aa0e22ac9ee785e04855ecb1", func := "tenancy/tenancylaw13.LeaseForms", spec := "leaseForms", inPlace := ["slices.overlaps[tenancy/api.Lease]"], unfollowed := true, recurses := true, apart := false, narrowed := true }
def LeaseFormsUptoSaid : Prop := leaseFormsUptoRow.holds Try.pinned (OpenSpec.upto leaseFormsSpec)

/-- 'tenancylaw13.LeaseOver', WHERE WHAT IT READS IS OF BULK AT MOST 1048576: true; the input reads as it did. -/
def leaseOverUptoRow : OpenClaim := { program := "ytbifdenekkijfaa", sum := "2e5ef503b7193ef128b9cd560487464a515a2111aa0e22ac9ee785e04855ecb1", func := "tenancy/tenancylaw13.LeaseOver", spec := "leaseOver", inPlace := ["slices.overlaps[tenancy/api.Lease]"], unfollowed := true, recurses := true, apart := false, narrowed := true }
def LeaseOverUptoSaid : Prop := leaseOverUptoRow.holds Try.pinned (OpenSpec.upto leaseOverSpec)

/-- 'tenancylaw13.LeaseGrows', WHERE WHAT IT READS IS OF BULK AT MOST 1048576: true; the input reads as it did. -/
def leaseGrowsUptoRow : OpenClaim := { program := "ytbifdenekkijfaa", sum := "2e5ef503b7193ef128b9cd560487464a515a2111aa0e22ac9ee785e04855ecb1", func := "tenancy/tenancylaw13.LeaseGrows", spec := "leaseGrows", inPlace := ["slices.overlaps[tenancy/api.Lease]"], unfollowed := true, recurses := true, apart := false, narrowed := true }
def LeaseGrowsUptoSaid : Prop := leaseGrowsUptoRow.holds Try.pinned (OpenSpec.upto leaseGrowsSpec)

end Rows
end Go.Proofs.Ytbifdenekkijfaa
