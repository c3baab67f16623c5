/-
  No cell of these rows narrows 'for every input' (looked for: loops, veiled, ifaces, maps, wideKeys, modest, calm, conditions, laid).
  DERIVED. THE GIVEN ROWS OF THIS SEAT. 6 by the template 'for every input the law returns true; each argument reads behind the call as it read before'; 0 by the template 'total and deterministic' (their statements: YtmjgiplgghmapaaTotals.lean).
  GIVEN WITH THE SEED: the statements are not yours to turn. If you find one false, say at which input.
  Laid BY PROGRAM, IN A SANDBOX (cutbox-rows.mjs): the forced cells as the released guide's own fill.sh prints them over the translation 31221e6052716bf5… (all of the seat's roots in one cut). By AI agents, Wed Nov 11 2026. No macro, syntax, notation, axiom, sorry.
-/
import Derived.Test.YtmjgiplgghmapaaChecked
import GoSem.Claim
import GoSem.ClaimJoined
import GoSem.ClaimMapViews
import Derived.JoinedTies
import Derived.KernelRfl
namespace Go.Proofs.Ytmjgiplgghmapaa
/- THE CELL 'sum', in the pinned program and in every row, IS THE sha256 OF THE DUMP (.gsa) THAT YtmjgiplgghmapaaProg.lean LOADS. Nothing in Lean hashes anything: it is a label: what it is worth is what the hold of that sum in a sandbox is worth. -/
noncomputable def Try.pinned : Pinned := { name := "ytmjgiplgghmapaa", sum := "31221e6052716bf516504a36d10bb726cc17c196586021386f1be2d13b82baaa", checked := Try.checked }
namespace Rows
def none {H : Type} : Left H := { results := [], args := [] }

/-- 'tenancylaw25.OpsAll': WHATEVER THE INPUT: true; the input reads as it did. -/
def opsAllSpec : ChangeSpec := { name := "opsAll", fn := fun _ => fun
  | [d1, d2, d3] => { results := [.lit (.bool true)], args := [d1, d2, d3] }
  | _ => none }
def opsAllRow : OpenClaim := { program := "ytmjgiplgghmapaa", sum := "31221e6052716bf516504a36d10bb726cc17c196586021386f1be2d13b82baaa", func := "tenancy/tenancylaw25.OpsAll", spec := "opsAll", unfollowed := true, recurses := true, apart := false }
def OpsAllSaid : Prop := opsAllRow.holds Try.pinned (OpenSpec.ofChange opsAllSpec)

/-- ITS FALSE NEIGHBOUR: 'it returns false'. Refute it at one input. -/
def opsAllWrong : ChangeSpec := { name := "opsAll", fn := fun _ => fun
  | [d1, d2, d3] => { results := [.lit (.bool false)], args := [d1, d2, d3] }
  | _ => none }
def OpsAllWrongFalsely : Prop := opsAllRow.holds Try.pinned (OpenSpec.ofChange opsAllWrong)

/-- 'tenancylaw25.OpsBack': WHATEVER THE INPUT: true; the input reads as it did. -/
def opsBackSpec : ChangeSpec := { name := "opsBack", fn := fun _ => fun
  | [d1, d2] => { results := [.lit (.bool true)], args := [d1, d2] }
  | _ => none }
def opsBackRow : OpenClaim := { program := "ytmjgiplgghmapaa", sum := "31221e6052716bf516504a36d10bb726cc17c196586021386f1be2d13b82baaa", func := "tenancy/tenancylaw25.OpsBack", spec := "opsBack", unfollowed := true, recurses := true, apart := false }
def OpsBackSaid : Prop := opsBackRow.holds Try.pinned (OpenSpec.ofChange opsBackSpec)

/-- ITS FALSE NEIGHBOUR: 'it returns false'. Refute it at one input. -/
def opsBackWrong : ChangeSpec := { name := "opsBack", fn := fun _ => fun
  | [d1, d2] => { results := [.lit (.bool false)], args := [d1, d2] }
  | _ => none }
def OpsBackWrongFalsely : Prop := opsBackRow.holds Try.pinned (OpenSpec.ofChange opsBackWrong)

/-- 'tenancylaw25.OpsJoins': WHATEVER THE INPUT: true; the input reads as it did. -/
def opsJoinsSpec : ChangeSpec := { name := "opsJoins", fn := fun _ => fun
  | [d1, d2, d3] => { results := [.lit (.bool true)], args := [d1, d2, d3] }
  | _ => none }
def opsJoinsRow : OpenClaim := { program := "ytmjgiplgghmapaa", sum := "31221e6052716bf516504a36d10bb726cc17c196586021386f1be2d13b82baaa", func := "tenancy/tenancylaw25.OpsJoins", spec := "opsJoins", unfollowed := true, recurses := true, apart := false }
def OpsJoinsSaid : Prop := opsJoinsRow.holds Try.pinned (OpenSpec.ofChange opsJoinsSpec)

/-- ITS FALSE NEIGHBOUR: 'it returns false'. Refute it at one input. -/
def opsJoinsWrong : ChangeSpec := { name := "opsJoins", fn := fun _ => fun
  | [d1, d2, d3] => { results := [.lit (.bool false)], args := [d1, d2, d3] }
  | _ => none }
def OpsJoinsWrongFalsely : Prop := opsJoinsRow.holds Try.pinned (OpenSpec.ofChange opsJoinsWrong)

/-- 'tenancylaw25.OpsForms': WHATEVER THE INPUT: true; the input reads as it did. -/
def opsFormsSpec : ChangeSpec := { name := "opsForms", fn := fun _ => fun
  | [] => { results := [.lit (.bool true)], args := [] }
  | _ => none }
def opsFormsRow : OpenClaim := { program := "ytmjgiplgghmapaa", sum := "31221e6052716bf516504a36d10bb726cc17c196586021386f1be2d13b82baaa", func := "tenancy/tenancylaw25.OpsForms", spec := "opsForms", unfollowed := true, recurses := true, apart := false }
def OpsFormsSaid : Prop := opsFormsRow.holds Try.pinned (OpenSpec.ofChange opsFormsSpec)

/-- ITS FALSE NEIGHBOUR: 'it returns false'. Refute it at one input. -/
def opsFormsWrong : ChangeSpec := { name := "opsForms", fn := fun _ => fun
  | [] => { results := [.lit (.bool false)], args := [] }
  | _ => none }
def OpsFormsWrongFalsely : Prop := opsFormsRow.holds Try.pinned (OpenSpec.ofChange opsFormsWrong)

/-- 'tenancylaw25.OpsOne': WHATEVER THE INPUT: true; the input reads as it did. -/
def opsOneSpec : ChangeSpec := { name := "opsOne", fn := fun _ => fun
  | [d1, d2, d3, d4, d5, d6, d7, d8, d9] => { results := [.lit (.bool true)], args := [d1, d2, d3, d4, d5, d6, d7, d8, d9] }
  | _ => none }
def opsOneRow : OpenClaim := { program := "ytmjgiplgghmapaa", sum := "31221e6052716bf516504a36d10bb726cc17c196586021386f1be2d13b82baaa", func := "tenancy/tenancylaw25.OpsOne", spec := "opsOne", unfollowed := true, recurses := true, apart := false }
def OpsOneSaid : Prop := opsOneRow.holds Try.pinned (OpenSpec.ofChange opsOneSpec)

/-- ITS FALSE NEIGHBOUR: 'it returns false'. Refute it at one input. -/
def opsOneWrong : ChangeSpec := { name := "opsOne", fn := fun _ => fun
  | [d1, d2, d3, d4, d5, d6, d7, d8, d9] => { results := [.lit (.bool false)], args := [d1, d2, d3, d4, d5, d6, d7, d8, d9] }
  | _ => none }
def OpsOneWrongFalsely : Prop := opsOneRow.holds Try.pinned (OpenSpec.ofChange opsOneWrong)

/-- 'tenancylaw25.OpsShort': WHATEVER THE INPUT: true; the input reads as it did. -/
def opsShortSpec : ChangeSpec := { name := "opsShort", fn := fun _ => fun
  | [d1, d2] => { results := [.lit (.bool true)], args := [d1, d2] }
  | _ => none }
def opsShortRow : OpenClaim := { program := "ytmjgiplgghmapaa", sum := "31221e6052716bf516504a36d10bb726cc17c196586021386f1be2d13b82baaa", func := "tenancy/tenancylaw25.OpsShort", spec := "opsShort", unfollowed := true, recurses := true, apart := false }
def OpsShortSaid : Prop := opsShortRow.holds Try.pinned (OpenSpec.ofChange opsShortSpec)

/-- ITS FALSE NEIGHBOUR: 'it returns false'. Refute it at one input. -/
def opsShortWrong : ChangeSpec := { name := "opsShort", fn := fun _ => fun
  | [d1, d2] => { results := [.lit (.bool false)], args := [d1, d2] }
  | _ => none }
def OpsShortWrongFalsely : Prop := opsShortRow.holds Try.pinned (OpenSpec.ofChange opsShortWrong)

/- THE SECOND FORM. 'bulk': how many values and letters a reading holds, each counted each time it is reached (what is shared counts as often as it is met; a slice's spare places count too). A statement '..UptoSaid' is the law's where the arguments, and the package variables that the reading takes, are together of bulk at most 1048576: NARROWER than '..Said'. Prove '..Said' where nothing that the law and all that it calls make is longer than what came in: it says more and counts as full. Else prove '..UptoSaid'. A law counts once. -/
mutual
def uptoBulk {H : Type} : DataW H → Nat
  | .lit (.string bytes) => bytes.length + 1
  | .lit _ => 1
  | .nil => 1
  | .ptr d => uptoBulk d + 1
  | .slice elems spare => uptoBulkAll elems + uptoBulkAll spare + 1
  | .agg parts => uptoBulkAll parts + 1
  | .iface _ d => uptoBulk d + 1
  | .map entries => uptoBulkEntries entries + 1
  | .held _ => 1
def uptoBulkAll {H : Type} : List (DataW H) → Nat
  | [] => 0
  | d :: r => uptoBulk d + uptoBulkAll r
def uptoBulkEntries {H : Type} : List (Lit × DataW H) → Nat
  | [] => 0
  | x :: r => uptoBulkEntry x + uptoBulkEntries r
def uptoBulkEntry {H : Type} : Lit × DataW H → Nat
  | (.string bytes, d) => bytes.length + uptoBulk d + 1
  | (_, d) => uptoBulk d + 1
 end
def uptoSmall : (H : Type) → List (DataW H) → Bool := fun _ ds => decide (uptoBulkAll ds ≤ 1048576)
def OpenSpec.upto (s : _root_.Go.ChangeSpec) : _root_.Go.OpenSpec := { _root_.Go.OpenSpec.ofChange s with cond := some uptoSmall }

/-- 'tenancylaw25.OpsAll', WHERE WHAT IT READS IS OF BULK AT MOST 1048576: true; the input reads as it did. -/
def opsAllUptoRow : OpenClaim := { program := "ytmjgiplgghmapaa", sum := "31221e6052716bf516504a36d10bb726cc17c196586021386f1be2d13b82baaa", func := "tenancy/tenancylaw25.OpsAll", spec := "opsAll", unfollowed := true, recurses := true, apart := false, narrowed := true }
def OpsAllUptoSaid : Prop := opsAllUptoRow.holds Try.pinned (OpenSpec.upto opsAllSpec)

/-- 'tenancylaw25.OpsBack', WHERE WHAT IT READS IS OF BULK AT MOST 1048576: true; the input reads as it did. -/
def opsBackUptoRow : OpenClaim := { program := "ytmjgiplgghmapaa", sum := "31221e6052716bf516504a36d10bb726cc17c196586021386f1be2d13b82baaa", func := "tenancy/tenancylaw25.OpsBack", spec := "opsBack", unfollowed := true, recurses := true, apart := false, narrowed := true }
def OpsBackUptoSaid : Prop := opsBackUptoRow.holds Try.pinned (OpenSpec.upto opsBackSpec)

/-- 'tenancylaw25.OpsJoins', WHERE WHAT IT READS IS OF BULK AT MOST 1048576: true; the input reads as it did. -/
def opsJoinsUptoRow : OpenClaim := { program := "ytmjgiplgghmapaa", sum := "31221e6052716bf516504a36d10bb726cc17c196586021386f1be2d13b82baaa", func := "tenancy/tenancylaw25.OpsJoins", spec := "opsJoins", unfollowed := true, recurses := true, apart := false, narrowed := true }
def OpsJoinsUptoSaid : Prop := opsJoinsUptoRow.holds Try.pinned (OpenSpec.upto opsJoinsSpec)

/-- 'tenancylaw25.OpsForms', WHERE WHAT IT READS IS OF BULK AT MOST 1048576: true; the input reads as it did. -/
def opsFormsUptoRow : OpenClaim := { program := "ytmjgiplgghmapaa", sum := "31221e6052716bf516504a36d10bb726cc17c196586021386f1be2d13b82baaa", func := "tenancy/tenancylaw25.OpsForms", spec := "opsForms", unfollowed := true, recurses := true, apart := false, narrowed := true }
def OpsFormsUptoSaid : Prop := opsFormsUptoRow.holds Try.pinned (OpenSpec.upto opsFormsSpec)

/-- 'tenancylaw25.OpsOne', WHERE WHAT IT READS IS OF BULK AT MOST 1048576: true; the input reads as it did. -/
def opsOneUptoRow : OpenClaim := { program := "ytmjgiplgghmapaa", sum := "31221e6052716bf516504a36d10bb726cc17c196586021386f1be2d13b82baaa", func := "tenancy/tenancylaw25.OpsOne", spec := "opsOne", unfollowed := true, recurses := true, apart := false, narrowed := true }
def OpsOneUptoSaid : Prop := opsOneUptoRow.holds Try.pinned (OpenSpec.upto opsOneSpec)

/-- 'tenancylaw25.OpsShort', WHERE WHAT IT READS IS OF BULK AT MOST 1048576: true; the input reads as it did. -/
def opsShortUptoRow : OpenClaim := { program := "ytmjgiplgghmapaa", sum := "31221e6052716bf516504a36d10bb726cc17c196586021386f1be2d13b82baaa", func := "tenancy/tenancylaw25.OpsShort", spec := "opsShort", unfollowed := true, recurses := true, apart := false, narrowed := true }
def OpsShortUptoSaid : Prop := opsShortUptoRow.holds Try.pinned (OpenSpec.upto opsShortSpec)

end Rows
end Go.Proofs.Ytmjgiplgghmapaa
