/- slices.Clone, told of open lists: the empty one by hand. -/
import Derived.Test.YtnmkpfhihjonkaaAbLp
set_option linter.unusedVariables false
set_option linter.unusedSimpArgs false
namespace Go.Ab
open Go

section
variable {P : Program}

theorem unitT_ok {cfg : Cfg} {pk : PKs} {lp : LPs} {f : FuncId} (hp : pk f = none) (hl : FLoopsOk P (cfg.with pk) (evF P (cfg.with pk) 20) lp f) {args : List AV} {out : List Blk} {r : Ret} (h : unitQ P cfg pk lp true f args out = some r) :
    evF P (cfg.with pk) 21 f args out = some r := by
  obtain ⟨q, h1, h2⟩ := funcK_ok (evK_ok 20) hl h
  have : (cfg.with pk).prim f = none := by simp only [Cfg.with, hp]
  rw [if_pos rfl] at h2
  cases h2
  simp only [evF, this]
  exact h1

theorem PKsOk.cl {cfg : Cfg} {pk : PKs} (h : PKsOk P pk) (hF : FnOk P (evF P (cfg.with pk) 21)) (f : FuncId) (hf : pk f = Option.none) (he : PrimOk P f primEmpty) (lp : LPs) (hl : FLoopsOk P (cfg.with pk) (evF P (cfg.with pk) 20) lp f) (p : FS)
    (hu : ∀ d, p.pre d → (∃ x, p.args d = [.slc x []] ∧ p.ret d = { pan := false, res := .slc true [], out := [], new := [] }) ∨ unitQ P cfg pk lp true f (p.args d) [] = some (p.ret d)) : PKsOk P (pk.add f p.pk) := by
  intro g q hq
  unfold PKs.add at hq
  split at hq
  · rename_i hg
    cases hq
    subst hg
    intro args out r hr
    unfold PK.G at hr
    split at hr
    · rename_i d hd
      cases hr
      obtain ⟨rfl, rfl, hp⟩ := FS.dec_ok hd
      rcases hu d hp with ⟨x, h1, h2⟩ | h1
      · exact he (by rw [h1]; show some _ = some (p.ret d); rw [h2])
      · have := unitT_ok hf hl h1
        exact ⟨hF.there this, hF.ok this⟩
    · cases hr
  · exact h g q hq

theorem PKsOk.take {pk pk' : PKs} (h : PKsOk P pk) (h' : PKsOk P pk') {f : FuncId} {q : PK} (hf : pk' f = some q) : PKsOk P (pk.add f q) := by
  intro g r hr
  unfold PKs.add at hr
  split at hr
  · rename_i hg
    cases hr
    subst hg
    exact h' g q hf
  · exact h g r hr

end
end Go.Ab
