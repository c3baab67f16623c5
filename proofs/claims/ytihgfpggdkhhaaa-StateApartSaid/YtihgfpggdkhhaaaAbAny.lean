/- What is told of one call, whatever it was shown with. -/
import Derived.Test.YtihgfpggdkhhaaaAbCl
set_option linter.unusedVariables false
set_option linter.unusedSimpArgs false
namespace Go.Ab
open Go

section
variable {P : Program}

/-- A call comes back so. -/
def CallOk (P : Program) (f : FuncId) (args : List AV) (out : List Blk) (r : Ret) : Prop := Callable P f ∧
  ∀ {c : Cx} {w0 : World} {G X Lo : Nat → Prop} {vs : List Value}, c.S = outerSt out → (∀ x ∈ out, x.v = 0) → WR w0 G X Lo c → VL c args vs → Calls P f vs.toArray c.w (CallPost w0 G X Lo c r)

theorem CallOk.unit {cfg : Cfg} {pk : PKs} (hF : FnOk P (evF P (cfg.with pk) 21)) {f : FuncId} (hf : pk f = Option.none) {lp : LPs} (hl : FLoopsOk P (cfg.with pk) (evF P (cfg.with pk) 20) lp f) {o : Bool} {args : List AV} {out : List Blk} {r : Ret}
    (hlen : out.length ≤ 1000) (hu : unitQ P cfg pk lp o f args out = some r) : CallOk P f args out r := by
  obtain ⟨q, h1, h2⟩ := unitQ_ok hf hl hu
  refine ⟨hF.there h1, fun hS hout hW hv => ?_⟩
  rcases h2 with rfl | h2
  · exact hF.ok h1 hS hout hW hv
  · exact (hF.ok h1 hS hout hW hv).mono fun e w' hpost => weaken_ok hpost hS hlen h2

theorem CallOk.prim {f : FuncId} {g : List AV → List Blk → Option Ret} (hg : PrimOk P f g) {args : List AV} {out : List Blk} {r : Ret} (h : g args out = some r) : CallOk P f args out r := hg h

theorem PKsOk.any {pk : PKs} (h : PKsOk P pk) (f : FuncId) {D : Type} (arg : D → List AV × List Blk) (pre : D → Prop) (out : D → Alt Ret) (hu : ∀ d, pre d → CallOk P f (arg d).1 (arg d).2 (out d).val) : PKsOk P (pk.add f (PK.of arg pre out)) := by
  intro g q hq
  unfold PKs.add at hq
  split at hq
  · rename_i hg
    cases hq
    subst hg
    intro args ou r hr
    unfold PK.G at hr
    split at hr
    · rename_i d hd
      cases hr
      obtain ⟨hp, hargs⟩ := PK.of_dec hd
      have e1 : args = (arg d).1 := congrArg Prod.fst hargs
      have e2 : ou = (arg d).2 := congrArg Prod.snd hargs
      subst e1
      subst e2
      exact hu d hp
    · cases hr
  · exact h g q hq

theorem PKsOk.anyF {pk : PKs} (h : PKsOk P pk) (f : FuncId) (p : FS) (hu : ∀ d, p.pre d → CallOk P f (p.args d) [] (p.ret d)) : PKsOk P (pk.add f p.pk) := by
  intro g q hq
  unfold PKs.add at hq
  split at hq
  · rename_i hg
    cases hq
    subst hg
    intro args ou r hr
    unfold PK.G at hr
    split at hr
    · rename_i d hd
      cases hr
      obtain ⟨rfl, rfl, hp⟩ := FS.dec_ok hd
      exact hu d hp
    · cases hr
  · exact h g q hq

theorem PKsOk.anyM {pk : PKs} (h : PKsOk P pk) (f : FuncId) (p : MS) (hu : ∀ b d, p.pre b d → CallOk P f (p.args d) (p.out0 b) (p.ret b d)) : PKsOk P (pk.add f p.pk) := by
  intro g q hq
  unfold PKs.add at hq
  split at hq
  · rename_i hg
    cases hq
    subst hg
    intro args ou r hr
    unfold PK.G at hr
    split at hr
    · rename_i d hd
      cases hr
      obtain ⟨rfl, rfl, hp⟩ := MS.dec_ok hd
      exact hu d.1 d.2 hp
    · cases hr
  · exact h g q hq
end
end Go.Ab
