/-
  No cell of these rows narrows 'for every input' (looked for: loops, veiled, ifaces, maps, wideKeys, modest, calm, conditions, laid).
  DERIVED. THE GIVEN ROWS OF THIS SEAT. 5 by the template 'for every input the law returns true; each argument reads behind the call as it read before'; 0 by the template 'total and deterministic' (their statements: YtlhnpfpdjlcakaaTotals.lean).
  GIVEN WITH THE SEED: the statements are not yours to turn. If you find one false, say at which input.
  Laid BY PROGRAM, IN A SANDBOX (cutbox-rows.mjs): the forced cells as the released guide's own fill.sh prints them over the translation 6615e626ee7be7ea… (all of the seat's roots in one cut). By AI agents, Wed Nov 11 2026. No macro, syntax, notation, axiom, sorry.
-/
import Derived.Test.YtlhnpfpdjlcakaaChecked
import GoSem.Claim
import GoSem.ClaimJoined
import GoSem.ClaimMapViews
import Derived.JoinedTies
import Derived.KernelRfl
namespace Go.Proofs.Ytlhnpfpdjlcakaa
/- THE CELL 'sum', in the pinned program and in every row, IS THE sha256 OF THE DUMP (.gsa) THAT YtlhnpfpdjlcakaaProg.lean LOADS. Nothing in Lean hashes anything: it is a label: what it is worth is what the hold of that sum in a sandbox is worth. -/
noncomputable def Try.pinned : Pinned := { name := "ytlhnpfpdjlcakaa", sum := "6615e626ee7be7ea5962b5fa258a9a4f7f615e6bc8b45e800ebe40d51555fc1a", checked := Try.checked }
namespace Rows
def none {H : Type} : Left H := { results := [], args := [] }

/-- 'tenancylaw19.CacheAll': WHATEVER THE INPUT: true; the input reads as it did. -/
def cacheAllSpec : ChangeSpec := { name := "cacheAll", fn := fun _ => fun
  | [d1, d2, d3, d4, d5, d6, d7, d8, d9] => { results := [.lit (.bool true)], args := [d1, d2, d3, d4, d5, d6, d7, d8, d9] }
  | _ => none }
def cacheAllRow : OpenClaim := { program := "ytlhnpfpdjlcakaa", sum := "6615e626ee7be7ea5962b5fa258a9a4f7f615e6bc8b45e800ebe40d51555fc1a", func := "tenancy/tenancylaw19.CacheAll", spec := "cacheAll", inPlace := ["internal/abi.NoEscape", "internal/bytealg.MakeNoZero"], unfollowed := true, recurses := true, apart := false }
def CacheAllSaid : Prop := cacheAllRow.holds Try.pinned (OpenSpec.ofChange cacheAllSpec)

/-- ITS FALSE NEIGHBOUR: 'it returns false'. Refute it at one input. -/
def cacheAllWrong : ChangeSpec := { name := "cacheAll", fn := fun _ => fun
  | [d1, d2, d3, d4, d5, d6, d7, d8, d9] => { results := [.lit (.bool false)], args := [d1, d2, d3, d4, d5, d6, d7, d8, d9] }
  | _ => none }
def CacheAllWrongFalsely : Prop := cacheAllRow.holds Try.pinned (OpenSpec.ofChange cacheAllWrong)

/-- 'tenancylaw19.CacheReads': WHATEVER THE INPUT: true; the input reads as it did. -/
def cacheReadsSpec : ChangeSpec := { name := "cacheReads", fn := fun _ => fun
  | [d1, d2] => { results := [.lit (.bool true)], args := [d1, d2] }
  | _ => none }
def cacheReadsRow : OpenClaim := { program := "ytlhnpfpdjlcakaa", sum := "6615e626ee7be7ea5962b5fa258a9a4f7f615e6bc8b45e800ebe40d51555fc1a", func := "tenancy/tenancylaw19.CacheReads", spec := "cacheReads", inPlace := ["internal/abi.NoEscape", "internal/bytealg.MakeNoZero"], unfollowed := true, recurses := true, apart := false }
def CacheReadsSaid : Prop := cacheReadsRow.holds Try.pinned (OpenSpec.ofChange cacheReadsSpec)

/-- ITS FALSE NEIGHBOUR: 'it returns false'. Refute it at one input. -/
def cacheReadsWrong : ChangeSpec := { name := "cacheReads", fn := fun _ => fun
  | [d1, d2] => { results := [.lit (.bool false)], args := [d1, d2] }
  | _ => none }
def CacheReadsWrongFalsely : Prop := cacheReadsRow.holds Try.pinned (OpenSpec.ofChange cacheReadsWrong)

/-- 'tenancylaw19.CacheForms': WHATEVER THE INPUT: true; the input reads as it did. -/
def cacheFormsSpec : ChangeSpec := { name := "cacheForms", fn := fun _ => fun
  | [] => { results := [.lit (.bool true)], args := [] }
  | _ => none }
def cacheFormsRow : OpenClaim := { program := "ytlhnpfpdjlcakaa", sum := "6615e626ee7be7ea5962b5fa258a9a4f7f615e6bc8b45e800ebe40d51555fc1a", func := "tenancy/tenancylaw19.CacheForms", spec := "cacheForms", inPlace := ["internal/abi.NoEscape", "internal/bytealg.MakeNoZero"], unfollowed := true, recurses := true, apart := false }
def CacheFormsSaid : Prop := cacheFormsRow.holds Try.pinned (OpenSpec.ofChange cacheFormsSpec)

/-- ITS FALSE NEIGHBOUR: 'it returns false'. Refute it at one input. -/
def cacheFormsWrong : ChangeSpec := { name := "cacheForms", fn := fun _ => fun
  | [] => { results := [.lit (.bool false)], args := [] }
  | _ => none }
def CacheFormsWrongFalsely : Prop := cacheFormsRow.holds Try.pinned (OpenSpec.ofChange cacheFormsWrong)

/-- 'tenancylaw19.CacheLapse': WHATEVER THE INPUT: true; the input reads as it did. -/
def cacheLapseSpec : ChangeSpec := { name := "cacheLapse", fn := fun _ => fun
  | [d1, d2] => { results := [.lit (.bool true)], args := [d1, d2] }
  | _ => none }
def cacheLapseRow : OpenClaim := { program := "ytlhnpfpdjlcakaa", sum := "6615e626ee7be7ea5962b5fa258a9a4f7f615e6bc8b45e800ebe40d51555fc1a", func := "tenancy/tenancylaw19.CacheLapse", spec := "cacheLapse", inPlace := ["internal/abi.NoEscape", "internal/bytealg.MakeNoZero"], unfollowed := true, recurses := true, apart := false }
def CacheLapseSaid : Prop := cacheLapseRow.holds Try.pinned (OpenSpec.ofChange cacheLapseSpec)

/-- ITS FALSE NEIGHBOUR: 'it returns false'. Refute it at one input. -/
def cacheLapseWrong : ChangeSpec := { name := "cacheLapse", fn := fun _ => fun
  | [d1, d2] => { results := [.lit (.bool false)], args := [d1, d2] }
  | _ => none }
def CacheLapseWrongFalsely : Prop := cacheLapseRow.holds Try.pinned (OpenSpec.ofChange cacheLapseWrong)

/-- 'tenancylaw19.CacheRoom': WHATEVER THE INPUT: true; the input reads as it did. -/
def cacheRoomSpec : ChangeSpec := { name := "cacheRoom", fn := fun _ => fun
  | [d1, d2] => { results := [.lit (.bool true)], args := [d1, d2] }
  | _ => none }
def cacheRoomRow : OpenClaim := { program := "ytlhnpfpdjlcakaa", sum := "6615e626ee7be7ea5962b5fa258a9a4f7f615e6bc8b45e800ebe40d51555fc1a", func := "tenancy/tenancylaw19.CacheRoom", spec := "cacheRoom", inPlace := ["internal/abi.NoEscape", "internal/bytealg.MakeNoZero"], unfollowed := true, recurses := true, apart := false }
def CacheRoomSaid : Prop := cacheRoomRow.holds Try.pinned (OpenSpec.ofChange cacheRoomSpec)

/-- ITS FALSE NEIGHBOUR: 'it returns false'. Refute it at one input. -/
def cacheRoomWrong : ChangeSpec := { name := "cacheRoom", fn := fun _ => fun
  | [d1, d2] => { results := [.lit (.bool false)], args := [d1, d2] }
  | _ => none }
def CacheRoomWrongFalsely : Prop := cacheRoomRow.holds Try.pinned (OpenSpec.ofChange cacheRoomWrong)

/- THE SECOND FORM. 'bulk': how many values and letters a reading holds, each counted each time it is reached (what is shared counts as often as it is met; a slice's spare places count too). A statement '..UptoSaid' is the law's where the arguments, and the package variables that the reading takes, are together of bulk at most 1048576: NARROWER than '..Said'. Prove '..Said' where nothing that the law and all that it calls make is longer than what came in: it says more and counts as full. Else prove '..UptoSaid'. A law counts once. -/
mutual
def uptoBulk {H : Type} : DataW H → Nat
  | .lit (.string bytes) => bytes.length + 1
  | .lit _ => 1
  | .nil => 1
  | .ptr d => uptoBulk d + 1
  | .slice elems spare => uptoBulkAll elems + uptoBulkAll spare + 1
  | .agg parts => uptoBulkAll parts + 1
  | .iface _ d => uptoBulk d + 1
  | .map entries => uptoBulkEntries entries + 1
  | .held _ => 1
def uptoBulkAll {H : Type} : List (DataW H) → Nat
  | [] => 0
  | d :: r => uptoBulk d + uptoBulkAll r
def uptoBulkEntries {H : Type} : List (Lit × DataW H) → Nat
  | [] => 0
  | x :: r => uptoBulkEntry x + uptoBulkEntries r
def uptoBulkEntry {H : Type} : Lit × DataW H → Nat
  | (.string bytes, d) => bytes.length + uptoBulk d + 1
  | (_, d) => uptoBulk d + 1
 end
def uptoSmall : (H : Type) → List (DataW H) → Bool := fun _ ds => decide (uptoBulkAll ds ≤ 1048576)
def OpenSpec.upto (s : _root_.Go.ChangeSpec) : _root_.Go.OpenSpec := { _root_.Go.OpenSpec.ofChange s with cond := some uptoSmall }

/-- 'tenancylaw19.CacheAll', WHERE WHAT IT READS IS OF BULK AT MOST 1048576: true; the input reads as it did. -/
def cacheAllUptoRow : OpenClaim := { program := "ytlhnpfpdjlcakaa", sum := "6615e626ee7be7ea5962b5fa258a9a4f7f615e6bc8b45e800ebe40d51555fc1a", func := "tenancy/tenancylaw19.CacheAll", spec := "cacheAll", inPlace := ["internal/abi.NoEscape", "internal/bytealg.MakeNoZero"], unfollowed := true, recurses := true, apart := false, narrowed := true }
def CacheAllUptoSaid : Prop := cacheAllUptoRow.holds Try.pinned (OpenSpec.upto cacheAllSpec)

/-- 'tenancylaw19.CacheReads', WHERE WHAT IT READS IS OF BULK AT MOST 1048576: true; the input reads as it did. -/
def cacheReadsUptoRow : OpenClaim := { program := "ytlhnpfpdjlcakaa", sum := "6615e626ee7be7ea5962b5fa258a9a4f7f615e6bc8b45e800ebe40d51555fc1a", func := "tenancy/tenancylaw19.CacheReads", spec := "cacheReads", inPlace := ["internal/abi.NoEscape", "internal/bytealg.MakeNoZero"], unfollowed := true, recurses := true, apart := false, narrowed := true }
def CacheReadsUptoSaid : Prop := cacheReadsUptoRow.holds Try.pinned (OpenSpec.upto cacheReadsSpec)

/-- 'tenancylaw19.CacheForms', WHERE WHAT IT READS IS OF BULK AT MOST 1048576: true; the input reads as it did. -/
def cacheFormsUptoRow : OpenClaim := { program := "ytlhnpfpdjlcakaa", sum := "6615e626ee7be7ea5962b5fa258a9a4f7f615e6bc8b45e800ebe40d51555fc1a", func := "tenancy/tenancylaw19.CacheForms", spec := "cacheForms", inPlace := ["internal/abi.NoEscape", "internal/bytealg.MakeNoZero"], unfollowed := true, recurses := true, apart := false, narrowed := true }
def CacheFormsUptoSaid : Prop := cacheFormsUptoRow.holds Try.pinned (OpenSpec.upto cacheFormsSpec)

/-- 'tenancylaw19.CacheLapse', WHERE WHAT IT READS IS OF BULK AT MOST 1048576: true; the input reads as it did. -/
def cacheLapseUptoRow : OpenClaim := { program := "ytlhnpfpdjlcakaa", sum := "6615e626ee7be7ea5962b5fa258a9a4f7f615e6bc8b45e800ebe40d51555fc1a", func := "tenancy/tenancylaw19.CacheLapse", spec := "cacheLapse", inPlace := ["internal/abi.NoEscape", "internal/bytealg.MakeNoZero"], unfollowed := true, recurses := true, apart := false, narrowed := true }
def CacheLapseUptoSaid : Prop := cacheLapseUptoRow.holds Try.pinned (OpenSpec.upto cacheLapseSpec)

/-- 'tenancylaw19.CacheRoom', WHERE WHAT IT READS IS OF BULK AT MOST 1048576: true; the input reads as it did. -/
def cacheRoomUptoRow : OpenClaim := { program := "ytlhnpfpdjlcakaa", sum := "6615e626ee7be7ea5962b5fa258a9a4f7f615e6bc8b45e800ebe40d51555fc1a", func := "tenancy/tenancylaw19.CacheRoom", spec := "cacheRoom", inPlace := ["internal/abi.NoEscape", "internal/bytealg.MakeNoZero"], unfollowed := true, recurses := true, apart := false, narrowed := true }
def CacheRoomUptoSaid : Prop := cacheRoomUptoRow.holds Try.pinned (OpenSpec.upto cacheRoomSpec)

end Rows
end Go.Proofs.Ytlhnpfpdjlcakaa
