/-
  No cell of these rows narrows 'for every input' (looked for: loops, veiled, ifaces, maps, wideKeys, modest, calm, conditions, laid).
  DERIVED. THE GIVEN ROWS OF THIS SEAT. 6 by the template 'for every input the law returns true; each argument reads behind the call as it read before'; 0 by the template 'total and deterministic' (their statements: YtkanmigbbpppnaaTotals.lean).
  GIVEN WITH THE SEED: the statements are not yours to turn. If you find one false, say at which input.
  Laid BY PROGRAM, IN A SANDBOX (cutbox-rows.mjs): the forced cells as the released guide's own fill.sh prints them over the translation 4c6b6f9436cd84f7… (all of the seat's roots in one cut). By AI agents, Wed Nov 11 2026. No macro, syntax, notation, axiom, sorry.
-/
import Derived.Test.YtkanmigbbpppnaaChecked
import GoSem.Claim
import GoSem.ClaimJoined
import GoSem.ClaimMapViews
import Derived.JoinedTies
import Derived.KernelRfl
namespace Go.Proofs.Ytkanmigbbpppnaa
/- THE CELL 'sum', in the pinned program and in every row, IS THE sha256 OF THE DUMP (.gsa) THAT YtkanmigbbpppnaaProg.lean LOADS. Nothing in Lean hashes anything: it is a label: what it is worth is what the hold of that sum in a sandbox is worth. -/
noncomputable def Try.pinned : Pinned := { name := "ytkanmigbbpppnaa", sum := "4c6b6f9436cd84f730b9d4866c39ff97ec49a20e2bab30e2ba17a7cc7241cf75", checked := Try.checked }
namespace Rows
def none {H : Type} : Left H := { results := [], args := [] }

/-- 'tenancylaw15.DeskAll': WHATEVER THE INPUT: true; the input reads as it did. -/
def deskAllSpec : ChangeSpec := { name := "deskAll", fn := fun _ => fun
  | [d1, d2, d3] => { results := [.lit (.bool true)], args := [d1, d2, d3] }
  | _ => none }
def deskAllRow : OpenClaim := { program := "ytkanmigbbpppnaa", sum := "4c6b6f9436cd84f730b9d4866c39ff97ec49a20e2bab30e2ba17a7cc7241cf75", func := "tenancy/tenancylaw15.DeskAll", spec := "deskAll", inPlace := ["slices.overlaps[tenancy/api.Lease]"], unfollowed := true, recurses := true, apart := false }
def DeskAllSaid : Prop := deskAllRow.holds Try.pinned (OpenSpec.ofChange deskAllSpec)

/-- ITS FALSE NEIGHBOUR: 'it returns false'. Refute it at one input. -/
def deskAllWrong : ChangeSpec := { name := "deskAll", fn := fun _ => fun
  | [d1, d2, d3] => { results := [.lit (.bool false)], args := [d1, d2, d3] }
  | _ => none }
def DeskAllWrongFalsely : Prop := deskAllRow.holds Try.pinned (OpenSpec.ofChange deskAllWrong)

/-- 'tenancylaw15.DeskTime': WHATEVER THE INPUT: true; the input reads as it did. -/
def deskTimeSpec : ChangeSpec := { name := "deskTime", fn := fun _ => fun
  | [d1, d2, d3, d4, d5] => { results := [.lit (.bool true)], args := [d1, d2, d3, d4, d5] }
  | _ => none }
def deskTimeRow : OpenClaim := { program := "ytkanmigbbpppnaa", sum := "4c6b6f9436cd84f730b9d4866c39ff97ec49a20e2bab30e2ba17a7cc7241cf75", func := "tenancy/tenancylaw15.DeskTime", spec := "deskTime", inPlace := ["slices.overlaps[tenancy/api.Lease]"], unfollowed := true, recurses := true, apart := false }
def DeskTimeSaid : Prop := deskTimeRow.holds Try.pinned (OpenSpec.ofChange deskTimeSpec)

/-- ITS FALSE NEIGHBOUR: 'it returns false'. Refute it at one input. -/
def deskTimeWrong : ChangeSpec := { name := "deskTime", fn := fun _ => fun
  | [d1, d2, d3, d4, d5] => { results := [.lit (.bool false)], args := [d1, d2, d3, d4, d5] }
  | _ => none }
def DeskTimeWrongFalsely : Prop := deskTimeRow.holds Try.pinned (OpenSpec.ofChange deskTimeWrong)

/-- 'tenancylaw15.DeskAlone': WHATEVER THE INPUT: true; the input reads as it did. -/
def deskAloneSpec : ChangeSpec := { name := "deskAlone", fn := fun _ => fun
  | [d1, d2] => { results := [.lit (.bool true)], args := [d1, d2] }
  | _ => none }
def deskAloneRow : OpenClaim := { program := "ytkanmigbbpppnaa", sum := "4c6b6f9436cd84f730b9d4866c39ff97ec49a20e2bab30e2ba17a7cc7241cf75", func := "tenancy/tenancylaw15.DeskAlone", spec := "deskAlone", inPlace := ["slices.overlaps[tenancy/api.Lease]"], unfollowed := true, recurses := true, apart := false }
def DeskAloneSaid : Prop := deskAloneRow.holds Try.pinned (OpenSpec.ofChange deskAloneSpec)

/-- ITS FALSE NEIGHBOUR: 'it returns false'. Refute it at one input. -/
def deskAloneWrong : ChangeSpec := { name := "deskAlone", fn := fun _ => fun
  | [d1, d2] => { results := [.lit (.bool false)], args := [d1, d2] }
  | _ => none }
def DeskAloneWrongFalsely : Prop := deskAloneRow.holds Try.pinned (OpenSpec.ofChange deskAloneWrong)

/-- 'tenancylaw15.DeskForms': WHATEVER THE INPUT: true; the input reads as it did. -/
def deskFormsSpec : ChangeSpec := { name := "deskForms", fn := fun _ => fun
  | [] => { results := [.lit (.bool true)], args := [] }
  | _ => none }
def deskFormsRow : OpenClaim := { program := "ytkanmigbbpppnaa", sum := "4c6b6f9436cd84f730b9d4866c39ff97ec49a20e2bab30e2ba17a7cc7241cf75", func := "tenancy/tenancylaw15.DeskForms", spec := "deskForms", inPlace := ["slices.overlaps[tenancy/api.Lease]"], unfollowed := true, recurses := true, apart := false }
def DeskFormsSaid : Prop := deskFormsRow.holds Try.pinned (OpenSpec.ofChange deskFormsSpec)

/-- ITS FALSE NEIGHBOUR: 'it returns false'. Refute it at one input. -/
def deskFormsWrong : ChangeSpec := { name := "deskForms", fn := fun _ => fun
  | [] => { results := [.lit (.bool false)], args := [] }
  | _ => none }
def DeskFormsWrongFalsely : Prop := deskFormsRow.holds Try.pinned (OpenSpec.ofChange deskFormsWrong)

/-- 'tenancylaw15.DeskReads': WHATEVER THE INPUT: true; the input reads as it did. -/
def deskReadsSpec : ChangeSpec := { name := "deskReads", fn := fun _ => fun
  | [d] => { results := [.lit (.bool true)], args := [d] }
  | _ => none }
def deskReadsRow : OpenClaim := { program := "ytkanmigbbpppnaa", sum := "4c6b6f9436cd84f730b9d4866c39ff97ec49a20e2bab30e2ba17a7cc7241cf75", func := "tenancy/tenancylaw15.DeskReads", spec := "deskReads", inPlace := ["slices.overlaps[tenancy/api.Lease]"], unfollowed := true, recurses := true, apart := false }
def DeskReadsSaid : Prop := deskReadsRow.holds Try.pinned (OpenSpec.ofChange deskReadsSpec)

/-- ITS FALSE NEIGHBOUR: 'it returns false'. Refute it at one input. -/
def deskReadsWrong : ChangeSpec := { name := "deskReads", fn := fun _ => fun
  | [d] => { results := [.lit (.bool false)], args := [d] }
  | _ => none }
def DeskReadsWrongFalsely : Prop := deskReadsRow.holds Try.pinned (OpenSpec.ofChange deskReadsWrong)

/-- 'tenancylaw15.DeskGives': WHATEVER THE INPUT: true; the input reads as it did. -/
def deskGivesSpec : ChangeSpec := { name := "deskGives", fn := fun _ => fun
  | [d] => { results := [.lit (.bool true)], args := [d] }
  | _ => none }
def deskGivesRow : OpenClaim := { program := "ytkanmigbbpppnaa", sum := "4c6b6f9436cd84f730b9d4866c39ff97ec49a20e2bab30e2ba17a7cc7241cf75", func := "tenancy/tenancylaw15.DeskGives", spec := "deskGives", inPlace := ["slices.overlaps[tenancy/api.Lease]"], unfollowed := true, recurses := true, apart := false }
def DeskGivesSaid : Prop := deskGivesRow.holds Try.pinned (OpenSpec.ofChange deskGivesSpec)

/-- ITS FALSE NEIGHBOUR: 'it returns false'. Refute it at one input. -/
def deskGivesWrong : ChangeSpec := { name := "deskGives", fn := fun _ => fun
  | [d] => { results := [.lit (.bool false)], args := [d] }
  | _ => none }
def DeskGivesWrongFalsely : Prop := deskGivesRow.holds Try.pinned (OpenSpec.ofChange deskGivesWrong)

/- THE SECOND FORM. 'bulk': how many values and letters a reading holds, each counted each time it is reached (what is shared counts as often as it is met; a slice's spare places count too). A statement '..UptoSaid' is the law's where the arguments, and the package variables that the reading takes, are together of bulk at most 1048576: NARROWER than '..Said'. Prove '..Said' where nothing that the law and all that it calls make is longer than what came in: it says more and counts as full. Else prove '..UptoSaid'. A law counts once. -/
mutual
def uptoBulk {H : Type} : DataW H → Nat
  | .lit (.string bytes) => bytes.length + 1
  | .lit _ => 1
  | .nil => 1
  | .ptr d => uptoBulk d + 1
  | .slice elems spare => uptoBulkAll elems + uptoBulkAll spare + 1
  | .agg parts => uptoBulkAll parts + 1
  | .iface _ d => uptoBulk d + 1
  | .map entries => uptoBulkEntries entries + 1
  | .held _ => 1
def uptoBulkAll {H : Type} : List (DataW H) → Nat
  | [] => 0
  | d :: r => uptoBulk d + uptoBulkAll r
def uptoBulkEntries {H : Type} : List (Lit × DataW H) → Nat
  | [] => 0
  | x :: r => uptoBulkEntry x + uptoBulkEntries r
def uptoBulkEntry {H : Type} : Lit × DataW H → Nat
  | (.string bytes, d) => bytes.length + uptoBulk d + 1
  | (_, d) => uptoBulk d + 1
 end
def uptoSmall : (H : Type) → List (DataW H) → Bool := fun _ ds => decide (uptoBulkAll ds ≤ 1048576)
def OpenSpec.upto (s : _root_.Go.ChangeSpec) : _root_.Go.OpenSpec := { _root_.Go.OpenSpec.ofChange s with cond := some uptoSmall }

/-- 'tenancylaw15.DeskAll', WHERE WHAT IT READS IS OF BULK AT MOST 1048576: true; the input reads as it did. -/
def deskAllUptoRow : OpenClaim := { program := "ytkanmigbbpppnaa", sum := "4c6b6f9436cd84f730b9d4866c39ff97ec49a20e2bab30e2ba17a7cc7241cf75", func := "tenancy/tenancylaw15.DeskAll", spec := "deskAll", inPlace := ["slices.overlaps[tenancy/api.Lease]"], unfollowed := true, recurses := true, apart := false, narrowed := true }
def DeskAllUptoSaid : Prop := deskAllUptoRow.holds Try.pinned (OpenSpec.upto deskAllSpec)

/-- 'tenancylaw15.DeskTime', WHERE WHAT IT READS IS OF BULK AT MOST 1048576: true; the input reads as it did. -/
def deskTimeUptoRow : OpenClaim := { program := "ytkanmigbbpppnaa", sum := "4c6b6f9436cd84f730b9d4866c39ff97ec49a20e2bab30e2ba17a7cc7241cf75", func := "tenancy/tenancylaw15.DeskTime", spec := "deskTime", inPlace := ["slices.overlaps[tenancy/api.Lease]"], unfollowed := true, recurses := true, apart := false, narrowed := true }
def DeskTimeUptoSaid : Prop := deskTimeUptoRow.holds Try.pinned (OpenSpec.upto deskTimeSpec)

/-- 'tenancylaw15.DeskAlone', WHERE WHAT IT READS IS OF BULK AT MOST 1048576: true; the input reads as it did. -/
def deskAloneUptoRow : OpenClaim := { program := "ytkanmigbbpppnaa", sum := "4c6b6f9436cd84f730b9d4866c39ff97ec49a20e2bab30e2ba17a7cc7241cf75", func := "tenancy/tenancylaw15.DeskAlone", spec := "deskAlone", inPlace := ["slices.overlaps[tenancy/api.Lease]"], unfollowed := true, recurses := true, apart := false, narrowed := true }
def DeskAloneUptoSaid : Prop := deskAloneUptoRow.holds Try.pinned (OpenSpec.upto deskAloneSpec)

/-- 'tenancylaw15.DeskForms', WHERE WHAT IT READS IS OF BULK AT MOST 1048576: true; the input reads as it did. -/
def deskFormsUptoRow : OpenClaim := { program := "ytkanmigbbpppnaa", sum := "4c6b6f9436cd84f730b9d4866c39ff97ec49a20e2bab30e2ba17a7cc7241cf75", func := "tenancy/tenancylaw15.DeskForms", spec := "deskForms", inPlace := ["slices.overlaps[tenancy/api.Lease]"], unfollowed := true, recurses := true, apart := false, narrowed := true }
def DeskFormsUptoSaid : Prop := deskFormsUptoRow.holds Try.pinned (OpenSpec.upto deskFormsSpec)

/-- 'tenancylaw15.DeskReads', WHERE WHAT IT READS IS OF BULK AT MOST 1048576: true; the input reads as it did. -/
def deskReadsUptoRow : OpenClaim := { program := "ytkanmigbbpppnaa", sum := "4c6b6f9436cd84f730b9d4866c39ff97ec49a20e2bab30e2ba17a7cc7241cf75", func := "tenancy/tenancylaw15.DeskReads", spec := "deskReads", inPlace := ["slices.overlaps[tenancy/api.Lease]"], unfollowed := true, recurses := true, apart := false, narrowed := true }
def DeskReadsUptoSaid : Prop := deskReadsUptoRow.holds Try.pinned (OpenSpec.upto deskReadsSpec)

/-- 'tenancylaw15.DeskGives', WHERE WHAT IT READS IS OF BULK AT MOST 1048576: true; the input reads as it did. -/
def deskGivesUptoRow : OpenClaim := { program := "ytkanmigbbpppnaa", sum := "4c6b6f9436cd84f730b9d4866c39ff97ec49a20e2bab30e2ba17a7cc7241cf75", func := "tenancy/tenancylaw15.DeskGives", spec := "deskGives", inPlace := ["slices.overlaps[tenancy/api.Lease]"], unfollowed := true, recurses := true, apart := false, narrowed := true }
def DeskGivesUptoSaid : Prop := deskGivesUptoRow.holds Try.pinned (OpenSpec.upto deskGivesSpec)

end Rows
end Go.Proofs.Ytkanmigbbpppnaa
