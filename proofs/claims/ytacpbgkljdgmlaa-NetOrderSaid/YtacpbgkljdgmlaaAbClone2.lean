/- slices.Clone, told. -/
import Derived.Test.YtacpbgkljdgmlaaAbClone
import Derived.Test.YtacpbgkljdgmlaaAbK3
set_option linter.unusedVariables false
set_option linter.unusedSimpArgs false
namespace Go.Ab
open Go

section
variable {P : Program}

def cloneCfg (f : FuncId) : Cfg := { isF := fun g => decide (g = f), prim := fun _ => none, dyn := fun _ _ => [], keep := fun _ _ => none, byref := fun _ => false, thaw := fun _ => false }

def cloneG (P : Program) (f : FuncId) (args : List AV) (out : List Blk) : Option Ret :=
  match args with
  | [.slc x []] => primEmpty [.slc x []] out
  | [.slc x (e :: es)] => evF P (cloneCfg f) 1 f [.slc x (e :: es)] out
  | _ => none

def clonePK (P : Program) (f : FuncId) : PK := { D := Ret, dec := cloneG P f, out := .leaf }

theorem clonePK_G (f : FuncId) : (clonePK P f).G = cloneG P f := by
  funext args out
  unfold PK.G clonePK
  cases h : cloneG P f args out with
  | none => simp only [h]
  | some r => simp only [h]; rfl

theorem cloneG_ok (hm : P.follows .mixedOrders = true) {f : FuncId} (h : fnOkB P (cloneCfg f) f = true) (he : PrimOk P f primEmpty) : PrimOk P f (cloneG P f) := by
  have hF : FnOk P (evF P (cloneCfg f) 1) := ev_sound (cfg_ok hm (l := [f]) (fun g hg => by simpa [cloneCfg] using hg) (by simp [h]) (fun g q hq => by cases hq)) 1
  intro args out r hr
  unfold cloneG at hr
  split at hr
  · exact he hr
  · exact ⟨hF.there hr, hF.ok hr⟩
  · cases hr

def elemOfT (P : Program) (t : TypeId) : TypeId := match P.underlying t with | some (.slice e) => e | _ => 0

theorem primEmpty_of {f : FuncId} {fn : Func} {t t4 : TypeId} {i0 i1 i2 i3 : Nat} {ta tb tc td te tf tg th : TypeId} {sa sb sc sd se sf sg sh : String} {ea eb ec ed ee ef eg eh : Array Edge} (hf : P.funcs[f]? = some fn) (hb : fn.body = some (cloneCode t t4 i0 i1 i2 i3 (ta, sa, ea) (tb, sb, eb) (tc, sc, ec) (td, sd, ed) (te, se, ee) (tf, sf, ef) (tg, sg, eg) (th, sh, eh)))
    (hnm : (fn.name == "runtime.NumGoroutine") = false) (hn : fn.ntmps = 8) (hres : fn.results = #[.tmp 2]) (ht : P.underlying t = some (.slice (elemOfT P t))) (he : (P.info? (elemOfT P t)).isSome = true) : PrimOk P f primEmpty := by
  obtain ⟨ei, h⟩ := Option.isSome_iff_exists.1 he
  exact primEmpty_ok hf hnm hb hn hres ht h

theorem PKsOk.clone {pk : PKs} (h : PKsOk P pk) (hm : P.follows .mixedOrders = true) {f : FuncId} (hf : fnOkB P (cloneCfg f) f = true) (he : PrimOk P f primEmpty) : PKsOk P (pk.add f (clonePK P f)) := by
  intro g q hq
  unfold PKs.add at hq
  split at hq
  · rename_i hg
    cases hq
    subst hg
    rw [clonePK_G]
    exact cloneG_ok hm hf he
  · exact h g q hq

end
end Go.Ab
