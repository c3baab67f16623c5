/- A part of the proof: contracts of functions. -/
import Derived.Test.YtkanmigbbpppnaaH3
import Derived.Test.YtkanmigbbpppnaaAbAny
set_option linter.unusedVariables false
set_option linter.unusedSimpArgs false
set_option maxRecDepth 100000
namespace Go.Proofs.Ytkanmigbbpppnaa
open Go Go.Ab
theorem wf8 {l : List Int} (h : ∀ d ∈ l, Tu.wf [.fi .u8] d) : ∀ v ∈ l, 0 ≤ v ∧ v < 256 := fun v hv => by
  have : (0 : Int) ≤ v ∧ v ≤ 255 := h v hv
  omega
theorem tm_lt (c : Int) (n : Int) (h : 0 ≤ c ∧ c ≤ 255) (hn : 1 ≤ n ∧ n ≤ 255) : IntKind.i64.wrap (1 + IntKind.i64.wrap (c.tmod n)) = 1 + c.tmod n ∧ 0 ≤ c.tmod n ∧ c.tmod n < n := by
  have h1 := Int.tmod_nonneg n h.1
  have h2 := Int.tmod_lt_of_pos c (show 0 < n by omega)
  rw [w64 (n := c.tmod n) (by omega) (by omega), w64 (by omega) (by omega)]
  exact ⟨rfl, h1, h2⟩
abbrev Row4 : Type := Int × Int × Int × Int
abbrev Row4_fs : List Lf := [.fi .u8, .fi .u8, .fi .u8, .fi .u8]
noncomputable def La1 : PKs := Md4.add 12 dgiveS.pk
noncomputable def La2 : PKs := La1.add 14 drunS.pk
noncomputable def La3 : PKs := La2.add 17 daskS.pk
noncomputable def La4 : PKs := La3.add 21 aheadRSw.pk
noncomputable def La5 : PKs := La4.add 22 hrefS.pk
noncomputable def La6 : PKs := La5.add 23 mrefS.pk
theorem La1_ok : PKsOk Try.prog La1 := PKsOk.anyF Md4_ok 12 dgiveS dgiveO
theorem La2_ok : PKsOk Try.prog La2 := PKsOk.anyF La1_ok 14 drunS drunO
theorem La3_ok : PKsOk Try.prog La3 := PKsOk.anyF La2_ok 17 daskS daskO
theorem La4_ok : PKsOk Try.prog La4 := PKsOk.anyF La3_ok 21 aheadRSw aheadROw
theorem La5_ok : PKsOk Try.prog La5 := PKsOk.anyF La4_ok 22 hrefS hrefO
theorem La6_ok : PKsOk Try.prog La6 := PKsOk.anyF La5_ok 23 mrefS mrefO
end Go.Proofs.Ytkanmigbbpppnaa
