/- What is told of methods on a struct. -/
import Derived.Test.YtihgfpggdkhhaaaAbLaw
set_option linter.unusedVariables false
set_option linter.unusedSimpArgs false
namespace Go.Ab
open Go

def boxB (cs : List AV) : Blk := { v := 0, k := .box, fz := false, sz := 0, es := cs }

/-- A function of a struct that it turns, and of values. -/
structure MS where
  bs : List Lf
  sh : Shp
  fs : List Lf
  rsh : Shp
  rfs : List Lf
  pre : Tu bs → Tu fs → Prop
  F : Tu bs → Tu fs → Tu bs × Tu rfs
  own : Option (Nat × Nat) := none

def MS.args (p : MS) (d : Tu p.fs) : List AV := .ptr outBase 0 0 0 :: groupA p.sh (Tu.mk p.fs d)
def MS.out0 (p : MS) (b : Tu p.bs) : List Blk := [boxB (Tu.mk p.bs b)]
def MS.out (p : MS) (y : Tu p.bs × Tu p.rfs) : Ret := { pan := false, res := resA p.rsh (Tu.mk p.rfs y.2), out := [boxB (Tu.mk p.bs y.1)], new := [] }
def MS.alts (p : MS) (b : Tu p.bs) (d : Tu p.fs) : Alt Ret := ownAlt p.own p.rsh (Tu.mk p.rfs (p.F b d).2) [boxB (Tu.mk p.bs (p.F b d).1)]
def MS.ret (p : MS) (b : Tu p.bs) (d : Tu p.fs) : Ret := (p.alts b d).val

def isBox (x : Blk) : Bool := match x.k with
  | .box => decide (x.v = 0) && !x.fz && decide (x.sz = 0)
  | _ => false

open Classical in
noncomputable def MS.dec (p : MS) (args : List AV) (out : List Blk) : Option (Tu p.bs × Tu p.fs) :=
  match out with
  | [x] => if isBox x = true ∧ x.es.length = p.bs.length then match Tu.dec p.bs x.es with
      | some b => match args with
        | .ptr q v i off :: r => if q = outBase ∧ v = 0 ∧ i = 0 ∧ off = 0 then match flatA p.sh r with
            | some cs => if cs.length = p.fs.length then match Tu.dec p.fs cs with
                | some d => if p.pre b d then some (b, d) else none
                | none => none
              else none
            | none => none
          else none
        | _ => none
      | none => none
    else none
  | _ => none

noncomputable def MS.pk (p : MS) : PK := { D := Tu p.bs × Tu p.fs, dec := p.dec, out := fun d => p.alts d.1 d.2 }

theorem MS.dec_ok {p : MS} {args : List AV} {out : List Blk} {d : Tu p.bs × Tu p.fs} (h : p.dec args out = some d) : out = p.out0 d.1 ∧ args = p.args d.2 ∧ p.pre d.1 d.2 := by
  unfold MS.dec at h
  split at h
  case h_2 => cases h
  rename_i x
  split at h
  case isFalse => cases h
  rename_i hx
  split at h
  case h_2 => cases h
  rename_i b hb
  split at h
  case h_2 => cases h
  rename_i q v i off r
  split at h
  case isFalse => cases h
  rename_i hq
  obtain ⟨rfl, rfl, rfl, rfl⟩ := hq
  split at h
  case h_2 => cases h
  rename_i cs hcs
  split at h
  case isFalse => cases h
  rename_i hl
  split at h
  case h_2 => cases h
  rename_i d' hd
  split at h
  case isFalse => cases h
  rename_i hp
  cases h
  refine ⟨?_, ?_, hp⟩
  · obtain ⟨h1, _⟩ := Tu.dec_mk hb
    rw [← hx.2, List.take_length] at h1
    have hbox := hx.1
    obtain ⟨xv, xk, xfz, xsz, xes⟩ := x
    unfold isBox at hbox
    cases xk <;> simp at hbox
    obtain ⟨⟨rfl, rfl⟩, rfl⟩ := hbox
    simp only [MS.out0, boxB, ← h1]
  · obtain ⟨h1, _⟩ := Tu.dec_mk hd
    rw [← hl, List.take_length] at h1
    simp only [MS.args, flatA_group hcs, h1]

theorem MS.dec_of (p : MS) (hok : shOk p.sh p.fs = true) (hb : Tu.ok p.bs = true) (b : Tu p.bs) (d : Tu p.fs) (h : p.pre b d) : p.dec (p.args d) (p.out0 b) = some (b, d) := by
  unfold shOk at hok
  simp only [Bool.and_eq_true, decide_eq_true_eq] at hok
  have h1 := Tu.dec_of hok.2 d []
  have h2 := Tu.dec_of hb b []
  rw [List.append_nil] at h1 h2
  unfold MS.dec MS.args MS.out0 boxB
  simp only [isBox, Tu.mk_length, h2]
  simp only [flatA_of (Tu.mk_length _ _) hok.1 (mk_notAgg d), Tu.mk_length, h1, if_pos h]
  simp

theorem oK_ms {R : Type} (p : MS) (b : Tu p.bs) (d : Tu p.fs) (h : p.pre b d) {k : Tu p.bs × Tu p.fs → Option R} {z : Option R} (hz : k (b, d) = z) (hok : shOk p.sh p.fs = true := by decide) (hb : Tu.ok p.bs = true := by decide) :
    oK (p.pk.dec (p.args d) (p.out0 b)) k = z := by
  show oK (p.dec (p.args d) (p.out0 b)) k = z
  rw [MS.dec_of p hok hb b d h, oK_some]
  exact hz

theorem oK_msq {R : Type} (p : MS) (b : Tu p.bs) (d : Tu p.fs) (h : p.pre b d) {k : Tu p.bs × Tu p.fs → Option R} {Q : Option R → Prop} (hz : Q (k (b, d))) (hok : shOk p.sh p.fs = true := by decide) (hb : Tu.ok p.bs = true := by decide) :
    Q (oK (p.dec (p.args d) (p.out0 b)) k) := by
  rw [MS.dec_of p hok hb b d h, oK_some]
  exact hz

section
variable {P : Program}
theorem PKsOk.ms {cfg : Cfg} {pk : PKs} (h : PKsOk P pk) (hF : FnOk P (evF P (cfg.with pk) 21)) (f : FuncId) (hf : pk f = Option.none) (lp : LPs) (hl : FLoopsOk P (cfg.with pk) (evF P (cfg.with pk) 20) lp f) (p : MS)
    (hu : ∀ b d, p.pre b d → unitQ P cfg pk lp p.own.isSome f (p.args d) (p.out0 b) = some (p.ret b d)) : PKsOk P (pk.add f p.pk) :=
  h.addW hF fun args out d hd => by
    obtain ⟨rfl, rfl, hp⟩ := MS.dec_ok hd
    obtain ⟨q, h1, h2⟩ := unitQ_ok hf hl (hu d.1 d.2 hp)
    exact ⟨by simp [MS.out0], q, h1, h2⟩
end
end Go.Ab
