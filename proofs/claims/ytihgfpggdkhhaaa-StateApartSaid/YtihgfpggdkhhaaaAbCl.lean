/- slices.Clone, told of open lists: the empty one by hand. -/
import Derived.Test.YtihgfpggdkhhaaaAbLp
set_option linter.unusedVariables false
set_option linter.unusedSimpArgs false
namespace Go.Ab
open Go

section
variable {P : Program}

theorem unitT_ok {cfg : Cfg} {pk : PKs} {lp : LPs} {f : FuncId} (hp : pk f = none) (hl : FLoopsOk P (cfg.with pk) (evF P (cfg.with pk) 20) lp f) {args : List AV} {out : List Blk} {r : Ret} (h : unitQ P cfg pk lp true f args out = some r) :
    evF P (cfg.with pk) 21 f args out = some r := by
  obtain ⟨q, h1, h2⟩ := funcK_ok (evK_ok 20) hl h
  have : (cfg.with pk).prim f = none := by simp only [Cfg.with, hp]
  rw [if_pos rfl] at h2
  cases h2
  simp only [evF, this]
  exact h1

theorem PKsOk.cl {cfg : Cfg} {pk : PKs} (h : PKsOk P pk) (hF : FnOk P (evF P (cfg.with pk) 21)) (f : FuncId) (hf : pk f = Option.none) (he : PrimOk P f primEmpty) (lp : LPs) (hl : FLoopsOk P (cfg.with pk) (evF P (cfg.with pk) 20) lp f) (p : FS)
    (hu : ∀ d, p.pre d → (∃ x, p.args d = [.slc x []] ∧ p.ret d = { pan := false, res := .slc true [], out := [], new := [] }) ∨ unitQ P cfg pk lp true f (p.args d) [] = some (p.ret d)) : PKsOk P (pk.add f p.pk) := by
  intro g q hq
  unfold PKs.add at hq
  split at hq
  · rename_i hg
    cases hq
    subst hg
    intro args out r hr
    unfold PK.G at hr
    split at hr
    · rename_i d hd
      cases hr
      obtain ⟨rfl, rfl, hp⟩ := FS.dec_ok hd
      rcases hu d hp with ⟨x, h1, h2⟩ | h1
      · exact he (by rw [h1]; show some _ = some (p.ret d); rw [h2])
      · have := unitT_ok hf hl h1
        exact ⟨hF.there this, hF.ok this⟩
    · cases hr
  · exact h g q hq

theorem PKsOk.take {pk pk' : PKs} (h : PKsOk P pk) (h' : PKsOk P pk') {f : FuncId} {q : PK} (hf : pk' f = some q) : PKsOk P (pk.add f q) := by
  intro g r hr
  unfold PKs.add at hr
  split at hr
  · rename_i hg
    cases hr
    subst hg
    exact h' g q hf
  · exact h g r hr

/-- What is told of a function, by what it is called with. -/
noncomputable def PK.of {D : Type} (arg : D → List AV × List Blk) (pre : D → Prop) (out : D → Alt Ret) : PK :=
  open Classical in { D := D, dec := fun a o => if h : ∃ d, pre d ∧ (a, o) = arg d then some (Classical.choose h) else none, out := out }

theorem PK.of_dec {D : Type} {arg : D → List AV × List Blk} {pre : D → Prop} {out : D → Alt Ret} {a : List AV} {o : List Blk} {d : D} (h : (PK.of arg pre out).dec a o = some d) : pre d ∧ (a, o) = arg d := by
  unfold PK.of at h
  simp only at h
  split at h
  · rename_i hx
    cases h
    exact Classical.choose_spec hx
  · cases h

theorem oK_pkq {R : Type} {D : Type} {arg : D → List AV × List Blk} {pre : D → Prop} {out : D → Alt Ret} (hinj : ∀ d d', arg d = arg d' → d = d') (d : D) (hp : pre d) {k : D → Option R} {Q : Option R → Prop} (hz : Q (k d)) :
    Q (oK ((PK.of arg pre out).dec (arg d).1 (arg d).2) k) := by
  have hx : ∃ d', pre d' ∧ ((arg d).1, (arg d).2) = arg d' := ⟨d, hp, rfl⟩
  have : (PK.of arg pre out).dec (arg d).1 (arg d).2 = some d := by
    unfold PK.of
    simp only
    rw [dif_pos hx]
    congr 1
    exact (hinj _ _ (Classical.choose_spec hx).2).symm
  rw [this]
  show Q (oK (α := D) (some d) k)
  rw [oK_some]
  exact hz

theorem PKsOk.of {cfg : Cfg} {pk : PKs} (h : PKsOk P pk) (hF : FnOk P (evF P (cfg.with pk) 21)) (f : FuncId) (hf : pk f = Option.none) (lp : LPs) (hl : FLoopsOk P (cfg.with pk) (evF P (cfg.with pk) 20) lp f) {D : Type} (arg : D → List AV × List Blk) (pre : D → Prop) (out : D → Alt Ret) (o : Bool)
    (hs : ∀ d, (arg d).2.length ≤ 1000) (hu : ∀ d, pre d → unitQ P cfg pk lp o f (arg d).1 (arg d).2 = some (out d).val) : PKsOk P (pk.add f (PK.of arg pre out)) :=
  h.addW hF fun args ou d hd => by
    obtain ⟨hp, hargs⟩ := PK.of_dec hd
    have e1 : args = (arg d).1 := congrArg Prod.fst hargs
    have e2 : ou = (arg d).2 := congrArg Prod.snd hargs
    subst e1
    subst e2
    obtain ⟨q, h1, h2⟩ := unitQ_ok hf hl (hu d hp)
    exact ⟨hs d, q, h1, h2⟩

theorem PKsOk.prim {pk : PKs} (h : PKsOk P pk) {f : FuncId} {g : List AV → List Blk → Option Ret} (hg : PrimOk P f g) (p : FS) (hu : ∀ d, p.pre d → g (p.args d) [] = some (p.ret d)) : PKsOk P (pk.add f p.pk) := by
  intro k q hq
  unfold PKs.add at hq
  split at hq
  · rename_i hk
    cases hq
    subst hk
    intro args out r hr
    unfold PK.G at hr
    split at hr
    · rename_i d hd
      cases hr
      obtain ⟨rfl, rfl, hp⟩ := FS.dec_ok hd
      exact hg (hu d hp)
    · cases hr
  · exact h k q hq

end
end Go.Ab
