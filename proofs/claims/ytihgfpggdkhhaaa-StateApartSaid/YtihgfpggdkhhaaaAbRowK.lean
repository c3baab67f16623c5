/- The row's end: a call that keeps all that was there. -/
import Derived.Test.YtihgfpggdkhhaaaAbReg
import Derived.ProofKit
set_option linter.unusedVariables false
set_option linter.unusedSimpArgs false
namespace Go.Ab
open Go Go.ChangeShapes Go.WideShapes

section
variable {H : Type} {enc : TypeId × Value → H} {P : Program}

/-- Nothing of what was there has turned: the row's 'post'. -/
theorem post_of_old {f : Func} {s : ChangeSpec} {apart fresh handsOn again : Bool} {W W' : World} {args : Array Value} {v : Value} {ds gs : List (DataW H)} {before pa pv : List MemPlace}
    (hW : DataW.Whole enc P f.params.toList s.vars apart W args.toList ds gs before)
    (hres : ∀ (b : Nat) (sp : Nat → Bool) (hd : Bool), DataW.TrodAll enc P W' b sp hd f.resultTypes.toList (v.resultList f.resultTypes.size) (s.fn H (ds ++ gs)).results [])
    (hargs : ∀ sp : Nat → Bool, (∀ p ∈ before, sp p.block = true) → DataW.TrodAll enc P W' 0 sp true f.params.toList args.toList (s.fn H (ds ++ gs)).args pa)
    (hvars : ∀ sp : Nat → Bool, (∀ p ∈ before, sp p.block = true) → DataW.TrodVars enc P W' sp s.vars (s.fn H (ds ++ gs)).vars pv)
    (hps : before = pa ++ pv) (hos : W'.os = W.os) (hou : W'.output = W.output) (hk : ∀ i, i < W.heap.size → W'.heap[i]? = W.heap[i]?)
    (hok : ∀ (j : Nat) (t : TypeId) (r : Value), f.resultTypes[j]? = some t → (v.resultList f.resultTypes.size)[j]? = some r → Value.okWide P W' .any 0 t r) :
    s.post enc P f apart fresh handsOn again W args v W' := by
  have hold : ∀ p ∈ before, (fun b => decide (b < W.heap.size)) p.block = true := fun p hp => by simpa using hW.lt p hp
  have hkept : W.keptBut W' (· ∈ before) := by
    refine ⟨hos, hou, fun i hi => ?_⟩
    rw [hk i hi]
    split <;> simp_all
  refine ⟨ds, gs, before, [], pa, pv, hW, hres _ _ _, hargs _ hold, hvars _ hold, World.keptBut_mono (fun p hp => ⟨hp, ?_⟩) hkept, fun _ => ?_⟩
  · rw [hps, List.mem_append] at hp
    exact Or.inr hp
  · have hlt := hW.lt
    obtain ⟨_, _, _, _, _, hz, hn⟩ := hW
    refine ⟨hok, _, _, ([] ++ pa) ++ pv, ⟨[] ++ pa, pv, trodAll_append (hargs _ (fun _ _ => rfl)) (hres _ _ _), hvars _ (fun _ _ => rfl), rfl, ?_, ?_⟩, ?_⟩
    · intro b off hp
      have hp' : MemPlace.cell b off ∈ before := by rw [hps]; simpa using hp
      have hb : b < W.heap.size := hlt _ hp'
      rw [World.frozen?_of_block (w := W) (hk b hb)]
      exact hz b off hp'
    · intro ha
      have := hn ha
      rw [hps] at this
      simpa using this
    · intro p hp _
      rw [hps]
      simpa using hp
end

/-- A call of the evaluator's with nothing handed in, which says 'true'. -/
theorem calls_closed {P : Program} {callF : CallF} (hF : FnOk P callF) {f : FuncId} {r : Ret} (h : callF f [] [] = some r) (hr : ∃ out new, r = { pan := false, res := .bool true, out := out, new := new }) (W : World) :
    Calls P f #[] W fun e W' => e = .returned (.bool true) ∧ W'.os = W.os ∧ W'.output = W.output ∧ ∀ i, i < W.heap.size → W'.heap[i]? = W.heap[i]? := by
  obtain ⟨out, new, rfl⟩ := hr
  let c : Cx := { w := W, F := fOf (fun _ => False) (fun _ => 0) [], R := fun _ => 0, S := [] }
  have hW : WR W (fun _ => False) (fun _ => False) (fun _ => False) c :=
    ⟨Nat.le_refl _, fun _ _ _ => rfl, rfl, rfl, fun _ h => h.elim, fun b x h => by simp [c, look] at h, fun b x h => by simp [c, look] at h, fun b b' x x' h => by simp [c, look] at h, fun b x h => by simp [c, look] at h, fun _ => Iff.rfl⟩
  have := hF.ok h (c := c) (w0 := W) (vs := []) rfl (fun x hx => by simp at hx) hW VL.nil
  refine this.mono ?_
  rintro e W' ⟨c', v, rfl, _, h3, _, h5, h6⟩
  have hv := h5.bool_inv
  subst hv
  exact ⟨h6, h3.os, h3.out, fun i hi => h3.kept i hi (fun h => h)⟩

def isTrue : Option Ret → Bool
  | some { pan := false, res := .bool true, .. } => true
  | _ => false

theorem isTrue_spec {o : Option Ret} (h : isTrue o = true) : ∃ r, o = some r ∧ ∃ out new, r = { pan := false, res := .bool true, out := out, new := new } := by
  unfold isTrue at h
  split at h
  · exact ⟨_, rfl, _, _, rfl⟩
  · cases h

end Go.Ab
