/- A part of the proof: contracts of functions. -/
import Derived.Test.YtbifdenekkijfaaBase
import Derived.Test.YtbifdenekkijfaaAbAny

set_option linter.unusedVariables false
set_option linter.unusedSimpArgs false
set_option maxRecDepth 100000
namespace Go.Proofs.Ytbifdenekkijfaa
open Go Go.Ab
noncomputable def PKs0 : PKs := PKs.add (fun _ => none) 29 (clonePK Try.prog 29)
theorem clone29_empty : PrimOk Try.prog 29 primEmpty := primEmpty_of Try.func29 rfl (by kernel_rfl) (by kernel_rfl) (by kernel_rfl) (by kernel_rfl) (by kernel_rfl)
theorem PKs0_ok : PKsOk Try.prog PKs0 := (PKsOk.clone PKsOk.none (by kernel_rfl) (by kernel_rfl) clone29_empty)
def LP0 : LPs := fun _ _ => none

end Go.Proofs.Ytbifdenekkijfaa
