/- A part of the proof: contracts of functions. -/
import Derived.Test.YtkanmigbbpppnaaZw
import Derived.Test.YtkanmigbbpppnaaAbAny
set_option linter.unusedVariables false
set_option linter.unusedSimpArgs false
set_option maxRecDepth 100000
namespace Go.Proofs.Ytkanmigbbpppnaa
open Go Go.Ab
end Go.Proofs.Ytkanmigbbpppnaa
