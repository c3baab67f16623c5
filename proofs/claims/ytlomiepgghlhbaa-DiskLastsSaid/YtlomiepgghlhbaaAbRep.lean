/- A part of the proof: an evaluator of code on values and its soundness. -/
import Derived.Test.YtlomiepgghlhbaaAbK3
import Derived.Test.YtlomiepgghlhbaaAbAny
import Derived.Below
import Derived.Lib.Repeat
set_option linter.unusedVariables false
set_option linter.unusedSimpArgs false
/- strings.Repeat, told: from the library's contract. -/
namespace Go.Ab
open Go
open Go.RowKit

section
variable {P : Program} {w0 : World} {G X Lo : Nat → Prop} {c : Cx}

/-- A world that has more blocks, all else is as it was. -/
theorem WR.below (h : WR w0 G X Lo c) {w' : World} (hb : Below c.w.heap.size c.w w') : WR w0 G X Lo { c with w := w' } ∧ Le c { c with w := w' } := by
  have hold : ∀ i, i < c.w.heap.size → w'.heap[i]? = c.w.heap[i]? := hb.block
  have L : Le c { c with w := w' } := by
    refine ⟨hb.size, fun _ _ hf => hf, fun i hi _ => hold i hi, fun b x hx => ⟨x, hx, Nat.le_refl _, fun _ hd => ⟨rfl, rfl, rfl, fun _ => rfl, id, fun cells t fr hc => ⟨cells, t, fr, ?_, rfl⟩⟩⟩⟩
    show w'.heap[c.R b]? = _
    rw [hold _ (Array.getElem?_eq_some_iff.1 hc).1]; exact hc
  refine ⟨⟨Nat.le_trans h.size L.size, fun i hi hg => ?_, hb.os.trans h.os, hb.output.trans h.out, h.xs, h.own, h.low, h.inj, fun b x hx hd => ?_, h.hF⟩, L⟩
  · show w'.heap[i]? = _
    rw [hold i (Nat.lt_of_lt_of_le hi h.size)]; exact h.kept i hi hg
  · obtain ⟨cells, t, lo, hi, g1, g2, g3, g4⟩ := (h.blk b x hx hd).here
    refine ⟨cells, t, lo, hi, ?_, g2, fun k => (g3 k).mono L, fun k => ⟨(g4 k).1, (g4 k).2.mono L⟩⟩
    show w'.heap[c.R b]? = _
    rw [hold _ (Array.getElem?_eq_some_iff.1 g1).1]; exact g1

def repG (args : List AV) (out : List Blk) : Option Ret :=
  match args with
  | [.str s, .int .i64 n] => if 0 ≤ n ∧ n ≤ 100000 ∧ s.length ≤ 100000 ∧ (out.all fun x => decide (x.v = 0)) = true then some { pan := false, res := .str (Lib.repeatL s n.toNat), out := out, new := [] } else none
  | _ => none

def RepSaid (P : Program) (f : FuncId) : Prop := ∀ (s : ByteArray) (c : Nat) (w : World), c ≤ 9223372036854775807 → s.size * c ≤ 140737488355328 →
  Calls P f #[.string s, .int .i64 c] w fun e w' => e = .returned (.string ⟨(Lib.repeatL s.data.toList c).toArray⟩) ∧ Below w.heap.size w w'

theorem repG_ok {f : FuncId} {fn : Func} {b : Code} (hf : P.funcs[f]? = some fn) (hb : fn.body = some b) (hnm : (fn.name == "runtime.NumGoroutine") = false) (h : RepSaid P f) : PrimOk P f repG := by
  intro args out r hr
  unfold repG at hr
  split at hr
  · split at hr
    · rename_i s n hn
      cases hr
      refine ⟨⟨fn, b, hf, hb, hnm⟩, ?_⟩
      intro c w0 G X Lo vs hS hout hW hv
      obtain ⟨v1, r1, rfl, h1, h2⟩ := VL.of_cons hv
      obtain ⟨v2, r2, rfl, h3, h4⟩ := VL.of_cons h2
      have : r2 = [] := List.eq_nil_of_length_eq_zero (by simpa using h4.1.symm)
      subst this
      obtain ⟨m, rfl⟩ := Int.eq_ofNat_of_zero_le hn.1
      have e1 : v1 = .string ⟨s.toArray⟩ := by cases h1 with | pure h => cases h; rfl
      have e2 : v2 = .int .i64 (m : Int) := by cases h3 with | pure h => cases h; rfl
      subst e1
      subst e2
      have hsz : (⟨s.toArray⟩ : ByteArray).size = s.length := by simp [ByteArray.size]
      refine (h ⟨s.toArray⟩ m c.w (by omega) ?_).mono ?_
      · rw [hsz]
        have : s.length * m ≤ 100000 * 100000 := Nat.mul_le_mul hn.2.2.1 (by omega)
        omega
      · rintro en W' ⟨rfl, hb'⟩
        obtain ⟨g1, g2⟩ := hW.below hb'
        refine ⟨_, _, rfl, by simpa [withKeys] using hS, g1, g2, ?_, rfl⟩
        exact .pure (.str _)
    · cases hr
  · cases hr

def repPK : PK := { D := Ret, dec := repG, out := .leaf }

theorem repPK_G : repPK.G = repG := by
  funext args out
  unfold PK.G repPK
  cases h : repG args out with
  | none => simp only [h]
  | some r => simp only [h]; rfl

theorem PKsOk.rep {pk : PKs} (h : PKsOk P pk) {f : FuncId} (hf : PrimOk P f repG) : PKsOk P (pk.add f repPK) := by
  intro g q hq
  unfold PKs.add at hq
  split at hq
  · rename_i hg
    cases hq
    subst hg
    rw [repPK_G]
    exact hf
  · exact h g q hq

end
end Go.Ab
