/-
  No cell of these rows narrows 'for every input' (looked for: loops, veiled, ifaces, maps, wideKeys, modest, calm, conditions, laid).
  DERIVED. THE GIVEN ROWS OF THIS SEAT. 4 by the template 'for every input the law returns true; each argument reads behind the call as it read before'; 0 by the template 'total and deterministic' (their statements: YtknikmehfnihpaaTotals.lean).
  GIVEN WITH THE SEED: the statements are not yours to turn. If you find one false, say at which input.
  Laid BY PROGRAM, IN A SANDBOX (cutbox-rows.mjs): the forced cells as the released guide's own fill.sh prints them over the translation 5e3f80a6547c39db… (all of the seat's roots in one cut). By AI agents, Wed Nov 11 2026. No macro, syntax, notation, axiom, sorry.
-/
import Derived.Test.YtknikmehfnihpaaChecked
import GoSem.Claim
import GoSem.ClaimJoined
import GoSem.ClaimMapViews
import Derived.JoinedTies
import Derived.KernelRfl
namespace Go.Proofs.Ytknikmehfnihpaa
/- THE CELL 'sum', in the pinned program and in every row, IS THE sha256 OF THE DUMP (.gsa) THAT YtknikmehfnihpaaProg.lean LOADS. Nothing in Lean hashes anything: it is a label: what it is worth is what the hold of that sum in a sandbox is worth. -/
noncomputable def Try.pinned : Pinned := { name := "ytknikmehfnihpaa", sum := "5e3f80a6547c39db0014219179a47d9213de09c2ff6a579080f999166cea54ce", checked := Try.checked }
namespace Rows
def none {H : Type} : Left H := { results := [], args := [] }

/-- 'tenancylaw14.LineAll': WHATEVER THE INPUT: true; the input reads as it did. -/
def lineAllSpec : ChangeSpec := { name := "lineAll", fn := fun _ => fun
  | [d1, d2, d3, d4] => { results := [.lit (.bool true)], args := [d1, d2, d3, d4] }
  | _ => none }
def lineAllRow : OpenClaim := { program := "ytknikmehfnihpaa", sum := "5e3f80a6547c39db0014219179a47d9213de09c2ff6a579080f999166cea54ce", func := "tenancy/tenancylaw14.LineAll", spec := "lineAll", unfollowed := true, recurses := true, apart := false }
def LineAllSaid : Prop := lineAllRow.holds Try.pinned (OpenSpec.ofChange lineAllSpec)

/-- ITS FALSE NEIGHBOUR: 'it returns false'. Refute it at one input. -/
def lineAllWrong : ChangeSpec := { name := "lineAll", fn := fun _ => fun
  | [d1, d2, d3, d4] => { results := [.lit (.bool false)], args := [d1, d2, d3, d4] }
  | _ => none }
def LineAllWrongFalsely : Prop := lineAllRow.holds Try.pinned (OpenSpec.ofChange lineAllWrong)

/-- 'tenancylaw14.LineFirst': WHATEVER THE INPUT: true; the input reads as it did. -/
def lineFirstSpec : ChangeSpec := { name := "lineFirst", fn := fun _ => fun
  | [d] => { results := [.lit (.bool true)], args := [d] }
  | _ => none }
def lineFirstRow : OpenClaim := { program := "ytknikmehfnihpaa", sum := "5e3f80a6547c39db0014219179a47d9213de09c2ff6a579080f999166cea54ce", func := "tenancy/tenancylaw14.LineFirst", spec := "lineFirst", unfollowed := true, recurses := true, apart := false }
def LineFirstSaid : Prop := lineFirstRow.holds Try.pinned (OpenSpec.ofChange lineFirstSpec)

/-- ITS FALSE NEIGHBOUR: 'it returns false'. Refute it at one input. -/
def lineFirstWrong : ChangeSpec := { name := "lineFirst", fn := fun _ => fun
  | [d] => { results := [.lit (.bool false)], args := [d] }
  | _ => none }
def LineFirstWrongFalsely : Prop := lineFirstRow.holds Try.pinned (OpenSpec.ofChange lineFirstWrong)

/-- 'tenancylaw14.LineForms': WHATEVER THE INPUT: true; the input reads as it did. -/
def lineFormsSpec : ChangeSpec := { name := "lineForms", fn := fun _ => fun
  | [] => { results := [.lit (.bool true)], args := [] }
  | _ => none }
def lineFormsRow : OpenClaim := { program := "ytknikmehfnihpaa", sum := "5e3f80a6547c39db0014219179a47d9213de09c2ff6a579080f999166cea54ce", func := "tenancy/tenancylaw14.LineForms", spec := "lineForms", unfollowed := true, recurses := true, apart := false }
def LineFormsSaid : Prop := lineFormsRow.holds Try.pinned (OpenSpec.ofChange lineFormsSpec)

/-- ITS FALSE NEIGHBOUR: 'it returns false'. Refute it at one input. -/
def lineFormsWrong : ChangeSpec := { name := "lineForms", fn := fun _ => fun
  | [] => { results := [.lit (.bool false)], args := [] }
  | _ => none }
def LineFormsWrongFalsely : Prop := lineFormsRow.holds Try.pinned (OpenSpec.ofChange lineFormsWrong)

/-- 'tenancylaw14.LineGone': WHATEVER THE INPUT: true; the input reads as it did. -/
def lineGoneSpec : ChangeSpec := { name := "lineGone", fn := fun _ => fun
  | [d1, d2] => { results := [.lit (.bool true)], args := [d1, d2] }
  | _ => none }
def lineGoneRow : OpenClaim := { program := "ytknikmehfnihpaa", sum := "5e3f80a6547c39db0014219179a47d9213de09c2ff6a579080f999166cea54ce", func := "tenancy/tenancylaw14.LineGone", spec := "lineGone", unfollowed := true, recurses := true, apart := false }
def LineGoneSaid : Prop := lineGoneRow.holds Try.pinned (OpenSpec.ofChange lineGoneSpec)

/-- ITS FALSE NEIGHBOUR: 'it returns false'. Refute it at one input. -/
def lineGoneWrong : ChangeSpec := { name := "lineGone", fn := fun _ => fun
  | [d1, d2] => { results := [.lit (.bool false)], args := [d1, d2] }
  | _ => none }
def LineGoneWrongFalsely : Prop := lineGoneRow.holds Try.pinned (OpenSpec.ofChange lineGoneWrong)

/- THE SECOND FORM. 'bulk': how many values and letters a reading holds, each counted each time it is reached (what is shared counts as often as it is met; a slice's spare places count too). A statement '..UptoSaid' is the law's where the arguments, and the package variables that the reading takes, are together of bulk at most 1048576: NARROWER than '..Said'. Prove '..Said' where nothing that the law and all that it calls make is longer than what came in: it says more and counts as full. Else prove '..UptoSaid'. A law counts once. -/
mutual
def uptoBulk {H : Type} : DataW H → Nat
  | .lit (.string bytes) => bytes.length + 1
  | .lit _ => 1
  | .nil => 1
  | .ptr d => uptoBulk d + 1
  | .slice elems spare => uptoBulkAll elems + uptoBulkAll spare + 1
  | .agg parts => uptoBulkAll parts + 1
  | .iface _ d => uptoBulk d + 1
  | .map entries => uptoBulkEntries entries + 1
  | .held _ => 1
def uptoBulkAll {H : Type} : List (DataW H) → Nat
  | [] => 0
  | d :: r => uptoBulk d + uptoBulkAll r
def uptoBulkEntries {H : Type} : List (Lit × DataW H) → Nat
  | [] => 0
  | x :: r => uptoBulkEntry x + uptoBulkEntries r
def uptoBulkEntry {H : Type} : Lit × DataW H → Nat
  | (.string bytes, d) => bytes.length + uptoBulk d + 1
  | (_, d) => uptoBulk d + 1
 end
def uptoSmall : (H : Type) → List (DataW H) → Bool := fun _ ds => decide (uptoBulkAll ds ≤ 1048576)
def OpenSpec.upto (s : _root_.Go.ChangeSpec) : _root_.Go.OpenSpec := { _root_.Go.OpenSpec.ofChange s with cond := some uptoSmall }

/-- 'tenancylaw14.LineAll', WHERE WHAT IT READS IS OF BULK AT MOST 1048576: true; the input reads as it did. -/
def lineAllUptoRow : OpenClaim := { program := "ytknikmehfnihpaa", sum := "5e3f80a6547c39db0014219179a47d9213de09c2ff6a579080f999166cea54ce", func := "tenancy/tenancylaw14.LineAll", spec := "lineAll", unfollowed := true, recurses := true, apart := false, narrowed := true }
def LineAllUptoSaid : Prop := lineAllUptoRow.holds Try.pinned (OpenSpec.upto lineAllSpec)

/-- 'tenancylaw14.LineFirst', WHERE WHAT IT READS IS OF BULK AT MOST 1048576: true; the input reads as it did. -/
def lineFirstUptoRow : OpenClaim := { program := "ytknikmehfnihpaa", sum := "5e3f80a6547c39db0014219179a47d9213de09c2ff6a579080f999166cea54ce", func := "tenancy/tenancylaw14.LineFirst", spec := "lineFirst", unfollowed := true, recurses := true, apart := false, narrowed := true }
def LineFirstUptoSaid : Prop := lineFirstUptoRow.holds Try.pinned (OpenSpec.upto lineFirstSpec)

/-- 'tenancylaw14.LineForms', WHERE WHAT IT READS IS OF BULK AT MOST 1048576: true; the input reads as it did. -/
def lineFormsUptoRow : OpenClaim := { program := "ytknikmehfnihpaa", sum := "5e3f80a6547c39db0014219179a47d9213de09c2ff6a579080f999166cea54ce", func := "tenancy/tenancylaw14.LineForms", spec := "lineForms", unfollowed := true, recurses := true, apart := false, narrowed := true }
def LineFormsUptoSaid : Prop := lineFormsUptoRow.holds Try.pinned (OpenSpec.upto lineFormsSpec)

/-- 'tenancylaw14.LineGone', WHERE WHAT IT READS IS OF BULK AT MOST 1048576: true; the input reads as it did. -/
def lineGoneUptoRow : OpenClaim := { program := "ytknikmehfnihpaa", sum := "5e3f80a6547c39db0014219179a47d9213de09c2ff6a579080f999166cea54ce", func := "tenancy/tenancylaw14.LineGone", spec := "lineGone", unfollowed := true, recurses := true, apart := false, narrowed := true }
def LineGoneUptoSaid : Prop := lineGoneUptoRow.holds Try.pinned (OpenSpec.upto lineGoneSpec)

end Rows
end Go.Proofs.Ytknikmehfnihpaa
