/-
  No cell of these rows narrows 'for every input' (looked for: loops, veiled, ifaces, maps, wideKeys, modest, calm, conditions, laid).
  DERIVED. THE GIVEN ROWS OF THIS SEAT. 3 by the template 'for every input the law returns true; each argument reads behind the call as it read before'; 0 by the template 'total and deterministic' (their statements: YthdmjojanccjfaaTotals.lean).
  GIVEN WITH THE SEED: the statements are not yours to turn. If you find one false, say at which input.
  Laid BY PROGRAM, IN A SANDBOX (cutbox-rows.mjs): the forced cells as the released guide's own fill.sh prints them over the translation f088d0be8b0395a4… (all of the seat's roots in one cut). By AI agents, Wed Nov 11 2026. No macro, syntax, notation, axiom, sorry.
-/
import Derived.Test.YthdmjojanccjfaaChecked
import GoSem.Claim
import GoSem.ClaimJoined
import GoSem.ClaimMapViews
import Derived.JoinedTies
import Derived.KernelRfl
namespace Go.Proofs.Ythdmjojanccjfaa
/- THE CELL 'sum', in the pinned program and in every row, IS THE sha256 OF THE DUMP (.gsa) THAT YthdmjojanccjfaaProg.lean LOADS. Nothing in Lean hashes anything: it is a label: what it is worth is what the hold of that sum in a sandbox is worth. -/
noncomputable def Try.pinned : Pinned := { name := "ythdmjojanccjfaa", sum := "f088d0be8b0395a4761828b01460486c9fbe8305ed48c2d2c34249c6b0896313", checked := Try.checked }
namespace Rows
def none {H : Type} : Left H := { results := [], args := [] }

/-- 'tenancylaw9.MarkAll': WHATEVER THE INPUT: true; the input reads as it did. -/
def markAllSpec : ChangeSpec := { name := "markAll", fn := fun _ => fun
  | [d1, d2, d3, d4, d5] => { results := [.lit (.bool true)], args := [d1, d2, d3, d4, d5] }
  | _ => none }
def markAllRow : OpenClaim := { program := "ythdmjojanccjfaa", sum := "f088d0be8b0395a4761828b01460486c9fbe8305ed48c2d2c34249c6b0896313", func := "tenancy/tenancylaw9.MarkAll", spec := "markAll", apart := false }
def MarkAllSaid : Prop := markAllRow.holds Try.pinned (OpenSpec.ofChange markAllSpec)

/-- ITS FALSE NEIGHBOUR: 'it returns false'. Refute it at one input. -/
def markAllWrong : ChangeSpec := { name := "markAll", fn := fun _ => fun
  | [d1, d2, d3, d4, d5] => { results := [.lit (.bool false)], args := [d1, d2, d3, d4, d5] }
  | _ => none }
def MarkAllWrongFalsely : Prop := markAllRow.holds Try.pinned (OpenSpec.ofChange markAllWrong)

/-- 'tenancylaw9.MarkLast': WHATEVER THE INPUT: true; the input reads as it did. -/
def markLastSpec : ChangeSpec := { name := "markLast", fn := fun _ => fun
  | [d] => { results := [.lit (.bool true)], args := [d] }
  | _ => none }
def markLastRow : OpenClaim := { program := "ythdmjojanccjfaa", sum := "f088d0be8b0395a4761828b01460486c9fbe8305ed48c2d2c34249c6b0896313", func := "tenancy/tenancylaw9.MarkLast", spec := "markLast", apart := false }
def MarkLastSaid : Prop := markLastRow.holds Try.pinned (OpenSpec.ofChange markLastSpec)

/-- ITS FALSE NEIGHBOUR: 'it returns false'. Refute it at one input. -/
def markLastWrong : ChangeSpec := { name := "markLast", fn := fun _ => fun
  | [d] => { results := [.lit (.bool false)], args := [d] }
  | _ => none }
def MarkLastWrongFalsely : Prop := markLastRow.holds Try.pinned (OpenSpec.ofChange markLastWrong)

/-- 'tenancylaw9.MarkForms': WHATEVER THE INPUT: true; the input reads as it did. -/
def markFormsSpec : ChangeSpec := { name := "markForms", fn := fun _ => fun
  | [] => { results := [.lit (.bool true)], args := [] }
  | _ => none }
def markFormsRow : OpenClaim := { program := "ythdmjojanccjfaa", sum := "f088d0be8b0395a4761828b01460486c9fbe8305ed48c2d2c34249c6b0896313", func := "tenancy/tenancylaw9.MarkForms", spec := "markForms", apart := false }
def MarkFormsSaid : Prop := markFormsRow.holds Try.pinned (OpenSpec.ofChange markFormsSpec)

/-- ITS FALSE NEIGHBOUR: 'it returns false'. Refute it at one input. -/
def markFormsWrong : ChangeSpec := { name := "markForms", fn := fun _ => fun
  | [] => { results := [.lit (.bool false)], args := [] }
  | _ => none }
def MarkFormsWrongFalsely : Prop := markFormsRow.holds Try.pinned (OpenSpec.ofChange markFormsWrong)

/- THE SECOND FORM. 'bulk': how many values and letters a reading holds, each counted each time it is reached (what is shared counts as often as it is met; a slice's spare places count too). A statement '..UptoSaid' is the law's where the arguments, and the package variables that the reading takes, are together of bulk at most 1048576: NARROWER than '..Said'. Prove '..Said' where nothing that the law and all that it calls make is longer than what came in: it says more and counts as full. Else prove '..UptoSaid'. A law counts once. -/
mutual
def uptoBulk {H : Type} : DataW H → Nat
  | .lit (.string bytes) => bytes.length + 1
  | .lit _ => 1
  | .nil => 1
  | .ptr d => uptoBulk d + 1
  | .slice elems spare => uptoBulkAll elems + uptoBulkAll spare + 1
  | .agg parts => uptoBulkAll parts + 1
  | .iface _ d => uptoBulk d + 1
  | .map entries => uptoBulkEntries entries + 1
  | .held _ => 1
def uptoBulkAll {H : Type} : List (DataW H) → Nat
  | [] => 0
  | d :: r => uptoBulk d + uptoBulkAll r
def uptoBulkEntries {H : Type} : List (Lit × DataW H) → Nat
  | [] => 0
  | x :: r => uptoBulkEntry x + uptoBulkEntries r
def uptoBulkEntry {H : Type} : Lit × DataW H → Nat
  | (.string bytes, d) => bytes.length + uptoBulk d + 1
  | (_, d) => uptoBulk d + 1
 end
def uptoSmall : (H : Type) → List (DataW H) → Bool := fun _ ds => decide (uptoBulkAll ds ≤ 1048576)
def OpenSpec.upto (s : _root_.Go.ChangeSpec) : _root_.Go.OpenSpec := { _root_.Go.OpenSpec.ofChange s with cond := some uptoSmall }

/-- 'tenancylaw9.MarkAll', WHERE WHAT IT READS IS OF BULK AT MOST 1048576: true; the input reads as it did. -/
def markAllUptoRow : OpenClaim := { program := "ythdmjojanccjfaa", sum := "f088d0be8b0395a4761828b01460486c9fbe8305ed48c2d2c34249c6b0896313", func := "tenancy/tenancylaw9.MarkAll", spec := "markAll", apart := false, narrowed := true }
def MarkAllUptoSaid : Prop := markAllUptoRow.holds Try.pinned (OpenSpec.upto markAllSpec)

/-- 'tenancylaw9.MarkLast', WHERE WHAT IT READS IS OF BULK AT MOST 1048576: true; the input reads as it did. -/
def markLastUptoRow : OpenClaim := { program := "ythdmjojanccjfaa", sum := "f088d0be8b0395a4761828b01460486c9fbe8305ed48c2d2c34249c6b0896313", func := "tenancy/tenancylaw9.MarkLast", spec := "markLast", apart := false, narrowed := true }
def MarkLastUptoSaid : Prop := markLastUptoRow.holds Try.pinned (OpenSpec.upto markLastSpec)

/-- 'tenancylaw9.MarkForms', WHERE WHAT IT READS IS OF BULK AT MOST 1048576: true; the input reads as it did. -/
def markFormsUptoRow : OpenClaim := { program := "ythdmjojanccjfaa", sum := "f088d0be8b0395a4761828b01460486c9fbe8305ed48c2d2c34249c6b0896313", func := "tenancy/tenancylaw9.MarkForms", spec := "markForms", apart := false, narrowed := true }
def MarkFormsUptoSaid : Prop := markFormsUptoRow.holds Try.pinned (OpenSpec.upto markFormsSpec)

end Rows
end Go.Proofs.Ythdmjojanccjfaa
