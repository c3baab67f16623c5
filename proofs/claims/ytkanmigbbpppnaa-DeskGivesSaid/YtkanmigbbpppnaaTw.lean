/- A part of the proof: contracts of functions. -/
import Derived.Test.YtkanmigbbpppnaaUw
import Derived.Test.YtkanmigbbpppnaaAbAny
set_option linter.unusedVariables false
set_option linter.unusedSimpArgs false
set_option maxRecDepth 100000
namespace Go.Proofs.Ytkanmigbbpppnaa
open Go Go.Ab
def putFw (l : List Wait_T) (w : Wait_T) : List Wait_T × Bool :=
 if 0 ≤ placeFw l w.1 ∧ (l.getD (placeFw l w.1).toNat (0, 0, 0, 0)).2.2.1 = w.2.2.1 then (l.set (placeFw l w.1).toNat w, true)
 else if 4 ≤ (dropFw l w.1).length then (l, false) else (dropFw l w.1 ++ [w], true)
def putQw (l : List Wait_T) (w : Wait_T) : List Wait_T × Bool := putFw l w
end Go.Proofs.Ytkanmigbbpppnaa
