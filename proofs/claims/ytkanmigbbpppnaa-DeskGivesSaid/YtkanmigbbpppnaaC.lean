/- A part of the proof: contracts of functions. -/
import Derived.Test.YtkanmigbbpppnaaA
import Derived.Test.YtkanmigbbpppnaaAbAny
set_option linter.unusedVariables false
set_option linter.unusedSimpArgs false
set_option maxRecDepth 100000
namespace Go.Proofs.Ytkanmigbbpppnaa
open Go Go.Ab
abbrev I1_tfs : List Lf := [.fi .i64]
def okE (w : Lease_T) : Bool := decide (1 ≤ w.1) && decide (w.1 ≤ 3) && (decide (1 ≤ w.2.1) && decide (w.2.1 ≤ 6)) && (decide (1 ≤ w.2.2.1) && decide (w.2.2.1 ≤ 2)) && decide (0 ≤ w.2.2.2)
def mayB (l : List Lease_T) (i : Nat) : Bool := okE (l.getD i zL) && (decide (i = 0) || decide (ordF (l.getD (i - 1) zL) (l.getD i zL) < 0))
def mayN (l : List Lease_T) : Nat → Nat → Bool
 | 0, _ => true
 | k + 1, i => mayB l i && mayN l k (i + 1)
def mayQ (l : List Lease_T) : Bool := mayN l l.length 0
end Go.Proofs.Ytkanmigbbpppnaa
