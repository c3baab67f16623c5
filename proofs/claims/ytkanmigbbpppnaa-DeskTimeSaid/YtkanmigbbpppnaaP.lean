/- A part of the proof: contracts of functions. -/
import Derived.Test.YtkanmigbbpppnaaF
import Derived.Test.YtkanmigbbpppnaaAbAny
import Derived.Test.YtkanmigbbpppnaaAbDel
set_option linter.unusedVariables false
set_option linter.unusedSimpArgs false
set_option maxRecDepth 100000
namespace Go.Proofs.Ytkanmigbbpppnaa
open Go Go.Ab
noncomputable def PKz : PKs := fun _ => none
theorem PKz_ok : PKsOk Try.prog PKz := PKsOk.none
def begunS : FS := ⟨[], [], [none], [.fb], fun _ => True, fun _ => true, none⟩
theorem begun_e : evF Try.prog (cfg.with PKs0) 21 9 [] [] = some { pan := false, res := .bool true, out := [], new := [] } := by kernel_rfl
theorem begunO : ∀ d : Tu begunS.fs, begunS.pre d → CallOk Try.prog 9 (begunS.args d) [] (begunS.ret d) := fun _ _ => ⟨(fnOk PKs0_ok 21).there begun_e, (fnOk PKs0_ok 21).ok begun_e⟩
noncomputable def PK0 : PKs := PKz.add 9 begunS.pk
theorem PK0_ok : PKsOk Try.prog PK0 := PKsOk.anyF PKz_ok 9 begunS begunO
abbrev num_id : Nat := 25
abbrev num_sh : Shp := [none]
abbrev num_fs : List Lf := [.fi .i64]
abbrev num_bs : List Lf := [.fl false [.fi .u8], .fi .i64]
abbrev num_rsh : Shp := [none]
abbrev num_rfs : List Lf := [.fi .i64]
noncomputable def num_r (p_l_x : Bool) (p_l : List Int) (p_n : Int) (m : Int) : Option Ret :=
 bK (decide ((↑(List.map (mkV false [Lf.fi .u8]) p_l).length : Int) ≤ p_n)) (some { pan := false, res := i6 0, out := [(bx [.slc p_l_x (List.map (mkV false [Lf.fi .u8]) p_l), i6 p_n])], new := [] }) (bK (decide (m < 1)) (some { pan := false, res := i6 0, out := [(bx [.slc p_l_x (List.map (mkV false [Lf.fi .u8]) p_l), i6 p_n])], new := [] }) (oK (elemAt false [Lf.fi .u8] (List.map (mkV false [Lf.fi .u8]) p_l) (IntKind.i64.wrap (IntKind.i64.wrap (p_n + 1) - 1))) fun (d0 : Int) => bK (decide (m = 0)) none (some { pan := false, res := i6 ((IntKind.i64.wrap d0).tmod m), out := [(bx [.slc p_l_x (List.map (mkV false [Lf.fi .u8]) p_l), i6 (IntKind.i64.wrap (p_n + 1))])], new := [] })))
theorem num_w (p_l_x : Bool) (p_l : List Int) (p_n : Int) (m : Int) : unitQ Try.prog cfg PK0 LP0 false 25 (.ptr outBase 0 0 0 :: groupA num_sh (Tu.mk num_fs m)) [boxB (Tu.mk num_bs ((p_l_x, p_l), p_n))] = num_r p_l_x p_l p_n m := by kernel_rfl

def numF (b : Picks_T) (m : Int) : Picks_T × Int := if (b.1.2.length : Int) ≤ b.2 ∨ m < 1 then (b, 0) else ((b.1, b.2 + 1), (b.1.2.getD b.2.toNat 0).tmod m)
def pkOk (b : Picks_T) : Prop := 0 ≤ b.2 ∧ b.2 ≤ 2 ^ 62 ∧ b.1.2.length ≤ 2 ^ 62 ∧ ∀ v ∈ b.1.2, 0 ≤ v ∧ v < 256
def numS : MS := ⟨num_bs, num_sh, num_fs, num_rsh, num_rfs, fun b _ => pkOk b, numF, none⟩
theorem getD_mem {l : List Int} {i : Nat} (h : ∀ v ∈ l, 0 ≤ v ∧ v < 256) : 0 ≤ l.getD i 0 ∧ l.getD i 0 < 256 := by
 by_cases hi : i < l.length
 ·rw [getD_at hi]; exact h _ (List.getElem_mem hi)
 ·simp [List.getD, List.getElem?_eq_none (show l.length ≤ i by omega)]
theorem numF_ok {b : Picks_T} {m : Int} (h : pkOk b) : pkOk (numF b m).1 := by
 unfold numF
 split
 ·exact h
 ·obtain ⟨h1, h2, h3, h4⟩ := h
  refine ⟨?_, ?_, h3, h4⟩
  ·show 0 ≤ b.2 + 1
   omega
  ·show b.2 + 1 ≤ 2 ^ 62
   omega
theorem numF_lt {b : Picks_T} {m : Int} (h : pkOk b) (hm : 1 ≤ m) : 0 ≤ (numF b m).2 ∧ (numF b m).2 < m := by
 unfold numF
 split
 ·exact ⟨Int.le_refl _, by show (0 : Int) < m; omega⟩
 ·obtain ⟨h1, h2, h3, h4⟩ := h
  have := getD_mem (i := b.2.toNat) h4
  exact ⟨Int.tmod_nonneg _ this.1, Int.tmod_lt_of_pos _ (by omega)⟩
theorem num_v (p_l_x : Bool) (p_l : List Int) (p_n : Int) (m : Int) (h : pkOk ((p_l_x, p_l), p_n)) : num_r p_l_x p_l p_n m = some (numS.ret ((p_l_x, p_l), p_n) m) := by
 obtain ⟨h1, h2, h3, h4⟩ := h
 simp only at h1 h2 h3 h4
 show _ = some (numS.out (numF ((p_l_x, p_l), p_n) m))
 unfold num_r numF
 simp only [List.length_map]
 refine bK_i (fun c1 => ?_) (fun c1 => bK_i (fun c2 => ?_) (fun c2 => ?_))
 ·rw [if_pos (.inl c1)]; rfl
 ·rw [if_pos (.inr c2)]; rfl
 ·rw [if_neg (by intro hh; rcases hh with hh | hh; exact c1 hh; exact c2 hh)]
  have e1 : IntKind.i64.wrap (p_n + 1) = p_n + 1 := w64 (by omega) (by omega)
  have e2 : IntKind.i64.wrap (p_n + 1 - 1) = p_n := by rw [w64 (by omega) (by omega)]; omega
  rw [e1, e2, oK_atD rfl 0 h1 (by omega)]
  have := getD_mem (i := p_n.toNat) h4
  refine bK_i (fun c3 => by omega) (fun _ => ?_)
  rw [w64 (by omega) (by omega)]
  rfl
theorem num_ok : ∀ (b : Tu num_bs) (d : Tu num_fs), numS.pre b d → unitQ Try.prog cfg PK0 LP0 false 25 (numS.args d) (numS.out0 b) = some (numS.ret b d)
 | ((p_l_x, p_l), p_n), m, h => (num_w p_l_x p_l p_n m).trans (num_v p_l_x p_l p_n m h)
noncomputable def PK1 : PKs := PK0.add 25 numS.pk
theorem PK1_ok : PKsOk Try.prog PK1 := PKsOk.ms (cfg := cfg) PK0_ok (fnOk PK0_ok 21) 25 rfl LP0 fLoops_none numS num_ok

end Go.Proofs.Ytkanmigbbpppnaa
