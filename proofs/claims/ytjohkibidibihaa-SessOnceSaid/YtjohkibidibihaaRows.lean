/-
  No cell of these rows narrows 'for every input' (looked for: loops, veiled, ifaces, maps, wideKeys, modest, calm, conditions, laid).
  DERIVED. THE GIVEN ROWS OF THIS SEAT. 4 by the template 'for every input the law returns true; each argument reads behind the call as it read before'; 0 by the template 'total and deterministic' (their statements: YtjohkibidibihaaTotals.lean).
  GIVEN WITH THE SEED: the statements are not yours to turn. If you find one false, say at which input.
  Laid BY PROGRAM, IN A SANDBOX (cutbox-rows.mjs): the forced cells as the released guide's own fill.sh prints them over the translation 585e13e62b985187… (all of the seat's roots in one cut). By AI agents, Wed Nov 11 2026. No macro, syntax, notation, axiom, sorry.
-/
import Derived.Test.YtjohkibidibihaaChecked
import GoSem.Claim
import GoSem.ClaimJoined
import GoSem.ClaimMapViews
import Derived.JoinedTies
import Derived.KernelRfl
namespace Go.Proofs.Ytjohkibidibihaa
/- THE CELL 'sum', in the pinned program and in every row, IS THE sha256 OF THE DUMP (.gsa) THAT YtjohkibidibihaaProg.lean LOADS. Nothing in Lean hashes anything: it is a label: what it is worth is what the hold of that sum in a sandbox is worth. -/
noncomputable def Try.pinned : Pinned := { name := "ytjohkibidibihaa", sum := "585e13e62b98518715b8c8151d2d6f342fb534a78b23a89df6db9058430462ba", checked := Try.checked }
namespace Rows
def none {H : Type} : Left H := { results := [], args := [] }

/-- 'tenancylaw17.SessAll': WHATEVER THE INPUT: true; the input reads as it did. -/
def sessAllSpec : ChangeSpec := { name := "sessAll", fn := fun _ => fun
  | [d1, d2, d3, d4, d5, d6, d7, d8, d9] => { results := [.lit (.bool true)], args := [d1, d2, d3, d4, d5, d6, d7, d8, d9] }
  | _ => none }
def sessAllRow : OpenClaim := { program := "ytjohkibidibihaa", sum := "585e13e62b98518715b8c8151d2d6f342fb534a78b23a89df6db9058430462ba", func := "tenancy/tenancylaw17.SessAll", spec := "sessAll", apart := false }
def SessAllSaid : Prop := sessAllRow.holds Try.pinned (OpenSpec.ofChange sessAllSpec)

/-- ITS FALSE NEIGHBOUR: 'it returns false'. Refute it at one input. -/
def sessAllWrong : ChangeSpec := { name := "sessAll", fn := fun _ => fun
  | [d1, d2, d3, d4, d5, d6, d7, d8, d9] => { results := [.lit (.bool false)], args := [d1, d2, d3, d4, d5, d6, d7, d8, d9] }
  | _ => none }
def SessAllWrongFalsely : Prop := sessAllRow.holds Try.pinned (OpenSpec.ofChange sessAllWrong)

/-- 'tenancylaw17.SessOnce': WHATEVER THE INPUT: true; the input reads as it did. -/
def sessOnceSpec : ChangeSpec := { name := "sessOnce", fn := fun _ => fun
  | [d] => { results := [.lit (.bool true)], args := [d] }
  | _ => none }
def sessOnceRow : OpenClaim := { program := "ytjohkibidibihaa", sum := "585e13e62b98518715b8c8151d2d6f342fb534a78b23a89df6db9058430462ba", func := "tenancy/tenancylaw17.SessOnce", spec := "sessOnce", apart := false }
def SessOnceSaid : Prop := sessOnceRow.holds Try.pinned (OpenSpec.ofChange sessOnceSpec)

/-- ITS FALSE NEIGHBOUR: 'it returns false'. Refute it at one input. -/
def sessOnceWrong : ChangeSpec := { name := "sessOnce", fn := fun _ => fun
  | [d] => { results := [.lit (.bool false)], args := [d] }
  | _ => none }
def SessOnceWrongFalsely : Prop := sessOnceRow.holds Try.pinned (OpenSpec.ofChange sessOnceWrong)

/-- 'tenancylaw17.SessForms': WHATEVER THE INPUT: true; the input reads as it did. -/
def sessFormsSpec : ChangeSpec := { name := "sessForms", fn := fun _ => fun
  | [] => { results := [.lit (.bool true)], args := [] }
  | _ => none }
def sessFormsRow : OpenClaim := { program := "ytjohkibidibihaa", sum := "585e13e62b98518715b8c8151d2d6f342fb534a78b23a89df6db9058430462ba", func := "tenancy/tenancylaw17.SessForms", spec := "sessForms", apart := false }
def SessFormsSaid : Prop := sessFormsRow.holds Try.pinned (OpenSpec.ofChange sessFormsSpec)

/-- ITS FALSE NEIGHBOUR: 'it returns false'. Refute it at one input. -/
def sessFormsWrong : ChangeSpec := { name := "sessForms", fn := fun _ => fun
  | [] => { results := [.lit (.bool false)], args := [] }
  | _ => none }
def SessFormsWrongFalsely : Prop := sessFormsRow.holds Try.pinned (OpenSpec.ofChange sessFormsWrong)

/-- 'tenancylaw17.SessNext': WHATEVER THE INPUT: true; the input reads as it did. -/
def sessNextSpec : ChangeSpec := { name := "sessNext", fn := fun _ => fun
  | [d] => { results := [.lit (.bool true)], args := [d] }
  | _ => none }
def sessNextRow : OpenClaim := { program := "ytjohkibidibihaa", sum := "585e13e62b98518715b8c8151d2d6f342fb534a78b23a89df6db9058430462ba", func := "tenancy/tenancylaw17.SessNext", spec := "sessNext", apart := false }
def SessNextSaid : Prop := sessNextRow.holds Try.pinned (OpenSpec.ofChange sessNextSpec)

/-- ITS FALSE NEIGHBOUR: 'it returns false'. Refute it at one input. -/
def sessNextWrong : ChangeSpec := { name := "sessNext", fn := fun _ => fun
  | [d] => { results := [.lit (.bool false)], args := [d] }
  | _ => none }
def SessNextWrongFalsely : Prop := sessNextRow.holds Try.pinned (OpenSpec.ofChange sessNextWrong)

/- THE SECOND FORM. 'bulk': how many values and letters a reading holds, each counted each time it is reached (what is shared counts as often as it is met; a slice's spare places count too). A statement '..UptoSaid' is the law's where the arguments, and the package variables that the reading takes, are together of bulk at most 1048576: NARROWER than '..Said'. Prove '..Said' where nothing that the law and all that it calls make is longer than what came in: it says more and counts as full. Else prove '..UptoSaid'. A law counts once. -/
mutual
def uptoBulk {H : Type} : DataW H → Nat
  | .lit (.string bytes) => bytes.length + 1
  | .lit _ => 1
  | .nil => 1
  | .ptr d => uptoBulk d + 1
  | .slice elems spare => uptoBulkAll elems + uptoBulkAll spare + 1
  | .agg parts => uptoBulkAll parts + 1
  | .iface _ d => uptoBulk d + 1
  | .map entries => uptoBulkEntries entries + 1
  | .held _ => 1
def uptoBulkAll {H : Type} : List (DataW H) → Nat
  | [] => 0
  | d :: r => uptoBulk d + uptoBulkAll r
def uptoBulkEntries {H : Type} : List (Lit × DataW H) → Nat
  | [] => 0
  | x :: r => uptoBulkEntry x + uptoBulkEntries r
def uptoBulkEntry {H : Type} : Lit × DataW H → Nat
  | (.string bytes, d) => bytes.length + uptoBulk d + 1
  | (_, d) => uptoBulk d + 1
 end
def uptoSmall : (H : Type) → List (DataW H) → Bool := fun _ ds => decide (uptoBulkAll ds ≤ 1048576)
def OpenSpec.upto (s : _root_.Go.ChangeSpec) : _root_.Go.OpenSpec := { _root_.Go.OpenSpec.ofChange s with cond := some uptoSmall }

/-- 'tenancylaw17.SessAll', WHERE WHAT IT READS IS OF BULK AT MOST 1048576: true; the input reads as it did. -/
def sessAllUptoRow : OpenClaim := { program := "ytjohkibidibihaa", sum := "585e13e62b98518715b8c8151d2d6f342fb534a78b23a89df6db9058430462ba", func := "tenancy/tenancylaw17.SessAll", spec := "sessAll", apart := false, narrowed := true }
def SessAllUptoSaid : Prop := sessAllUptoRow.holds Try.pinned (OpenSpec.upto sessAllSpec)

/-- 'tenancylaw17.SessOnce', WHERE WHAT IT READS IS OF BULK AT MOST 1048576: true; the input reads as it did. -/
def sessOnceUptoRow : OpenClaim := { program := "ytjohkibidibihaa", sum := "585e13e62b98518715b8c8151d2d6f342fb534a78b23a89df6db9058430462ba", func := "tenancy/tenancylaw17.SessOnce", spec := "sessOnce", apart := false, narrowed := true }
def SessOnceUptoSaid : Prop := sessOnceUptoRow.holds Try.pinned (OpenSpec.upto sessOnceSpec)

/-- 'tenancylaw17.SessForms', WHERE WHAT IT READS IS OF BULK AT MOST 1048576: true; the input reads as it did. -/
def sessFormsUptoRow : OpenClaim := { program := "ytjohkibidibihaa", sum := "585e13e62b98518715b8c8151d2d6f342fb534a78b23a89df6db9058430462ba", func := "tenancy/tenancylaw17.SessForms", spec := "sessForms", apart := false, narrowed := true }
def SessFormsUptoSaid : Prop := sessFormsUptoRow.holds Try.pinned (OpenSpec.upto sessFormsSpec)

/-- 'tenancylaw17.SessNext', WHERE WHAT IT READS IS OF BULK AT MOST 1048576: true; the input reads as it did. -/
def sessNextUptoRow : OpenClaim := { program := "ytjohkibidibihaa", sum := "585e13e62b98518715b8c8151d2d6f342fb534a78b23a89df6db9058430462ba", func := "tenancy/tenancylaw17.SessNext", spec := "sessNext", apart := false, narrowed := true }
def SessNextUptoSaid : Prop := sessNextUptoRow.holds Try.pinned (OpenSpec.upto sessNextSpec)

end Rows
end Go.Proofs.Ytjohkibidibihaa
