/- More of what only reads: slices, tests, numbers, texts, what is built. -/
import Derived.Test.YtacpbgkljdgmlaaAbOps
import Derived.Laws.Strings
import Derived.Laws.Strings2
import Derived.Lib.Strings
import Derived.Laws.StructEq
import Derived.ChangeKeysEq
set_option linter.unusedVariables false
set_option linter.unusedSimpArgs false
namespace Go.Ab
open Go

section
variable {P : Program} {w0 : World} {G X Lo : Nat → Prop} {c : Cx}

/-- An operand that may be missing. -/
inductive OV (c : Cx) : Option AV → Option Value → Prop
  | none : OV c none none
  | some {a : AV} {v : Value} (h : V c a v) : OV c (some a) (some v)

theorem sb_ok (w : World) {d n y : Nat} (code : BoundsCode) {a : AV} {v : Value} (h : V c a v) (hb : boundOf d (some a) = some n) (hn : n ≤ y) :
    (Instr.sliceBound v y code).run P w = .ok n w := by
  cases a with
  | int k m =>
    have := h.int_inv
    subst this
    simp only [boundOf] at hb
    split at hb
    · rename_i h0
      cases hb
      have : 0 ≤ m ∧ m ≤ (y : Int) := by omega
      simp [Instr.sliceBound, asIntOf, this]
    · cases hb
  | _ => simp [boundOf] at hb

theorem bounds_ok (w : World) (isS : Bool) {len cap l h m : Nat} {lo hi mx : Option AV} {vlo vhi vmx : Option Value} (hlo : OV c lo vlo) (hhi : OV c hi vhi) (hmx : OV c mx vmx)
    (hl : boundOf 0 lo = some l) (hh : boundOf len hi = some h) (hm : boundOf cap mx = some m) (h1 : l ≤ h) (h2 : h ≤ m) (h3 : m ≤ cap) (hs : mx.isSome = true → hi.isSome = true) :
    (Instr.sliceBounds isS len cap vlo vhi vmx).run P w = .ok (l, h, m) w := by
  cases hmx with
  | none =>
    simp [boundOf] at hm
    subst hm
    cases hhi with
    | none =>
      simp [boundOf] at hh
      subst hh
      cases hlo with
      | none => simp [boundOf] at hl; subst hl; simp [Instr.sliceBounds]
      | some hv => simp [Instr.sliceBounds, sb_ok (P := P) w _ hv hl h1]
    | some hv2 =>
      cases hlo with
      | none => simp [boundOf] at hl; subst hl; simp [Instr.sliceBounds, sb_ok (P := P) w _ hv2 hh h2]
      | some hv => simp [Instr.sliceBounds, sb_ok (P := P) w _ hv hl h1, sb_ok (P := P) w _ hv2 hh h2]
  | some hv3 =>
    cases hhi with
    | none => simp at hs
    | some hv2 =>
      cases hlo with
      | none => simp [boundOf] at hl; subst hl; simp [Instr.sliceBounds, sb_ok (P := P) w _ hv2 hh h2, sb_ok (P := P) w _ hv3 hm h3]
      | some hv => simp [Instr.sliceBounds, sb_ok (P := P) w _ hv hl h1, sb_ok (P := P) w _ hv2 hh h2, sb_ok (P := P) w _ hv3 hm h3]

theorem take_cells (es : List AV) (l n : Nat) (sz : Nat) (h : ∀ e ∈ es, e.cells.length = sz) : ((es.drop l).take n).flatMap AV.cells = ((es.flatMap AV.cells).drop (l * sz)).take (n * sz) := by
  have hd : ∀ (l : Nat) (es : List AV), (∀ e ∈ es, e.cells.length = sz) → (es.drop l).flatMap AV.cells = (es.flatMap AV.cells).drop (l * sz) := by
    intro l
    induction l with
    | zero => intro es _; simp
    | succ l ih =>
      intro es h
      cases es with
      | nil => simp
      | cons a r =>
        rw [List.drop_succ_cons, List.flatMap_cons, ih r (fun e he => h e (by simp [he]))]
        have ha := h a (by simp)
        have e1 : List.drop ((l + 1) * sz) a.cells = [] := List.drop_eq_nil_of_le (by rw [ha, Nat.succ_mul]; omega)
        rw [List.drop_append, show (l + 1) * sz - a.cells.length = l * sz by rw [ha, Nat.succ_mul]; omega, e1, List.nil_append]
  have ht : ∀ (n : Nat) (es : List AV), (∀ e ∈ es, e.cells.length = sz) → (es.take n).flatMap AV.cells = (es.flatMap AV.cells).take (n * sz) := by
    intro n
    induction n with
    | zero => intro es _; simp
    | succ n ih =>
      intro es h
      cases es with
      | nil => simp
      | cons a r =>
        have ha := h a (by simp)
        rw [List.take_succ_cons, List.flatMap_cons, List.flatMap_cons, ih r (fun e he => h e (by simp [he]))]
        rw [List.take_append, show (n + 1) * sz - a.cells.length = n * sz by rw [ha, Nat.succ_mul]; omega,
          List.take_of_length_le (l := a.cells) (by rw [ha, Nat.succ_mul]; omega)]
  rw [ht n _ (fun e he => h e (List.mem_of_mem_drop he)), hd l es h]

/-- A piece of a slice that nobody writes. -/
theorem slc_piece {w : World} {F : Nat → Prop} {x : Bool} {es : List AV} {a : Option Addr} {n cap : Nat} {sz : Nat} (h : PV w F (.slc x es) (.slice a n cap)) (hsz : ∀ e ∈ es, e.cells.length = sz)
    {l m cap' : Nat} (hl : l + m ≤ es.length) (x' : Bool) (hx' : x' = true → cap' = m) (hcap : m ≤ cap') (a' : Option Addr) (ha' : m ≠ 0 → a' = a.map fun b => ⟨b.block, b.off + l * sz, none⟩) :
    PV w F (.slc x' ((es.drop l).take m)) (.slice a' m cap') := by
  cases h with
  | slc _ _ _ _ sz' vals hx hc hs ha hl' hv =>
    have hlen : ((es.drop l).take m).length = m := by rw [List.length_take, List.length_drop]; omega
    have hmem : ∀ e ∈ (es.drop l).take m, e ∈ es := fun e he => List.mem_of_mem_drop (List.mem_of_mem_take he)
    have key := PV.slc (w := w) (F := F) x' ((es.drop l).take m) a' cap' sz ((vals.drop (l * sz)).take (m * sz)) (fun h => by rw [hlen]; exact hx' h) (by rw [hlen]; exact hcap)
      (fun e he => ⟨hsz e (hmem e he), (hs e (hmem e he)).2⟩) (fun hne => ?_) ?_ (fun k cc v h1 h2 => ?_)
    · rw [hlen] at key; exact key
    · have hm : m ≠ 0 := by rintro rfl; simp at hne
      obtain ⟨b, o, rfl, h1, h2, h3⟩ := ha (by rintro rfl; simp at hne)
      refine ⟨b, o + l * sz, by rw [ha' hm]; rfl, h1, h2, fun k v hk => ?_⟩
      rw [List.getElem?_take] at hk
      split at hk
      · rw [List.getElem?_drop] at hk
        rw [Nat.add_assoc]; exact h3 _ v hk
      · cases hk
    · rw [take_cells es l m sz hsz, List.length_take, List.length_take, List.length_drop, List.length_drop, hl']
    · rw [take_cells es l m sz hsz, List.getElem?_take] at h1
      rw [List.getElem?_take] at h2
      split at h1
      · rename_i hk
        rw [if_pos hk] at h2
        rw [List.getElem?_drop] at h1 h2
        exact hv _ cc v h1 h2
      · cases h1

theorem all_sz {es : List AV} {n : Nat} (h : es.all (fun y => decide (y.cells.length = n)) = true) : ∀ e ∈ es, e.cells.length = n := by
  intro e he
  have := List.all_eq_true.1 h e he
  simpa using this

theorem boundOf_some {d e n : Nat} {o : Option AV} (h : boundOf d o = some n) (ho : o.isSome = true) : boundOf e o = some n := by
  cases o with
  | none => cases ho
  | some a => cases a <;> first | exact h | simp [boundOf] at h

theorem slice_ok (w : World) {t : TypeId} {x r : AV} {val : Value} {lo hi mx : Option AV} {vlo vhi vmx : Option Value} (hx : V c x val) (hlo : OV c lo vlo) (hhi : OV c hi vhi) (hmx : OV c mx vmx)
    (hr : aSlice P c.S t x lo hi mx = some r) : ∃ v, (Instr.sliceAt t val vlo vhi vmx).run P w = .ok v w ∧ V c r v := by
  unfold aSlice at hr
  split at hr
  · cases hr
  · rename_i l hl
    split at hr
    · rename_i s
      split at hr
      · rename_i hu
        split at hr
        · rename_i h hh
          split at hr
          · rename_i hc
            cases hr
            have := hx.str_inv
            subst this
            have hmx' : mx = none := by simpa using hc.2.2
            subst hmx'
            have hsz : (⟨s.toArray⟩ : ByteArray).size = s.length := by simp [ByteArray.size]
            have e : (⟨s.toArray⟩ : ByteArray).extract l h = ⟨((s.drop l).take (h - l)).toArray⟩ := by
              rw [ByteArray.extract_mk]
            have hb := bounds_ok (P := P) w false (len := s.length) (cap := s.length) hlo hhi hmx hl hh rfl hc.1 hc.2.1 (Nat.le_refl _) (by simp)
            cases hmx
            exact ⟨.string ⟨((s.drop l).take (h - l)).toArray⟩, by simp [Instr.sliceAt, run_underlying hu, Instr.slice, hsz, hb, e], .pure (.str _)⟩
          · cases hr
        · cases hr
      · cases hr
    · rename_i cc es
      split at hr
      · rename_i e hu
        split at hr
        · rename_i hall0
          have hall := all_sz hall0.1
          obtain ⟨ti, hti⟩ := info_of_cells hall0.2
          split at hr
          · rename_i h hh
            have hpv := hx.slc_inv
            obtain ⟨a, n, cap, rfl⟩ : ∃ a n cap, val = .slice a n cap := by cases hpv; exact ⟨_, _, _, rfl⟩
            have hn : n = es.length := by cases hpv; rfl
            subst hn
            have hcap : es.length ≤ cap := by cases hpv; assumption
            have hcc : cc = true → cap = es.length := by cases hpv; assumption
            have hsp : es ≠ [] → ∃ b o, a = some ⟨b, o, none⟩ := by
              intro hne
              cases hpv with
              | slc _ _ _ _ _ _ _ _ _ ha => obtain ⟨b, o, h1, _⟩ := ha hne; exact ⟨b, o, h1⟩
            have haddr : ∀ m', (if m' = l then a else a.map fun z => z.add (l * P.cellsOf e)) = a ∨ (if m' = l then a else a.map fun z => z.add (l * P.cellsOf e)) = a.map fun z => z.add (l * P.cellsOf e) := by
              intro m'; split <;> simp
            have piece : ∀ m' (x' : Bool), l ≤ h → h ≤ es.length → h ≤ m' → m' ≤ cap → (x' = true → h = m') →
                PV c.w c.F (.slc x' ((es.drop l).take (h - l))) (.slice (if m' = l then a else a.map fun z => z.add (l * P.cellsOf e)) (h - l) (m' - l)) := by
              intro m' x' g1 g2 g3 g4 g5
              refine slc_piece hpv hall (by omega) x' (fun hx' => by rw [g5 hx']) (by omega) _ (fun hm => ?_)
              rw [if_neg (by omega)]
              obtain ⟨b, o, rfl⟩ := hsp (by rintro rfl; simp at g2; omega)
              simp [add_zero]
            split at hr
            · rename_i hmxn
              split at hr
              · rename_i hc
                cases hr
                have hb := bounds_ok (P := P) w true (len := es.length) (cap := cap) hlo hhi hmx hl hh (m := cap) rfl hc.1 (by omega) (Nat.le_refl _) (by simp)
                refine ⟨_, by simp [Instr.sliceAt, run_underlying hu, Instr.slice, hb, run_sizeOf hti], .pure (piece cap _ hc.1 hc.2 (by omega) (Nat.le_refl _) (fun hx' => ?_))⟩
                simp at hx'
                rw [hcc hx'.1, hx'.2]
              · cases hr
            · rename_i mm hmxs
              split at hr
              · rename_i m hm
                split at hr
                · rename_i hc
                  cases hr
                  have hb := bounds_ok (P := P) w true (len := es.length) (cap := cap) hlo hhi hmx hl hh (m := m) (boundOf_some hm rfl) hc.1 hc.2.1 (by omega) (fun _ => hc.2.2.2)
                  refine ⟨_, by simp [Instr.sliceAt, run_underlying hu, Instr.slice, hb, run_sizeOf hti], .pure (piece m _ hc.1 (by omega) hc.2.1 (by omega) (fun hx' => ?_))⟩
                  simpa using hx'
                · cases hr
              · cases hr
          · cases hr
        · cases hr
      · cases hr
    · rename_i b v off len
      split at hr
      · rename_i e hu
        split at hr
        · rename_i y hy
          split at hr
          · rename_i hk
            obtain ⟨ti, hti⟩ := info_of_cells hk.2.2
            obtain ⟨h1, h2, h3⟩ := ldBlk_some hy
            obtain ⟨x, hx1, hx2, hx3⟩ := hx.sref_inv
            have : y = x := Option.some.inj (h1.symm.trans hx1)
            subst this
            obtain ⟨cap, cells, tt, fr, rfl, e2, e3, e4, e5⟩ := hx3 h2.symm hk.1
            split at hr
            · rename_i h hh
              split at hr
              · split at hr
                · rename_i hc
                  have hb := bounds_ok (P := P) w true (len := len) (cap := cap) hlo hhi hmx hl hh (m := cap) rfl hc.1 (by omega) (Nat.le_refl _) (by simp)
                  split at hr
                  · rename_i hcase
                    cases hr
                    refine ⟨_, by simp [Instr.sliceAt, run_underlying hu, Instr.slice, hb, run_sizeOf hti]; rfl, ?_⟩
                    refine .sref _ _ _ _ _ rfl y hx1 hx2 (fun _ _ => ⟨cap - l, cells, tt, fr, ?_, by omega, by omega, e4, ?_⟩)
                    · congr 1
                      split
                      · rename_i hcl
                        have : l = 0 := by omega
                        subst this
                        rfl
                      · simp [add_zero, hk.2.1, Nat.add_mul]
                    · rw [show off + l + (cap - l) = off + cap by omega]; exact e5
                  · rename_i hcase
                    cases hr
                    refine ⟨_, by simp [Instr.sliceAt, run_underlying hu, Instr.slice, hb, run_sizeOf hti]; rfl, .pure ?_⟩
                    have : h - l = 0 := by omega
                    rw [this]
                    exact .slc false [] _ _ 0 [] (fun h => by cases h) (Nat.zero_le _) (fun e he => by simp at he) (fun h => absurd rfl h) rfl (fun _ _ _ h => by simp at h)
                · cases hr
              · split at hr
                · rename_i m hm
                  split at hr
                  · rename_i hc
                    have hb := bounds_ok (P := P) w true (len := len) (cap := cap) hlo hhi hmx hl hh (m := m) (boundOf_some hm rfl) hc.1 hc.2.1 (by omega) (fun _ => hc.2.2.2)
                    split at hr
                    · rename_i hml
                      cases hr
                      subst hml
                      refine ⟨_, by simp [Instr.sliceAt, run_underlying hu, Instr.slice, hb, run_sizeOf hti]; rfl, .pure ?_⟩
                      have : h - m = 0 := by omega
                      rw [this]
                      exact .slc true [] _ _ 0 [] (fun _ => by simp) (Nat.zero_le _) (fun e he => by simp at he) (fun h => absurd rfl h) rfl (fun _ _ _ h => by simp at h)
                    · cases hr
                      exact ⟨_, by simp [Instr.sliceAt, run_underlying hu, Instr.slice, hb, run_sizeOf hti]; rfl, .pure (.undef _)⟩
                  · cases hr
                · cases hr
            · cases hr
          · cases hr
        · cases hr
      · cases hr
    · cases hr


theorem toList_str (s : List UInt8) : (⟨s.toArray⟩ : ByteArray).toList = s := by rw [ByteArray.toList_eq]

theorem aEqF_ok (w : World) (D : Nat) {eq : TypeId → AV → AV → Option Bool} (heq : ∀ t a b r x y, eq t a b = some r → V c a x → V c b y → (Op.equalIn D t x y).run P w = .ok r w)
    {xs ys : List AV} {us vs : List Value} (hl1 : xs.length = us.length) (hc1 : ∀ a ∈ xs, a.okC = true) (hp1 : ∀ (i : Nat) a u, xs[i]? = some a → us[i]? = some u → V c a u)
    (hl2 : ys.length = vs.length) (hc2 : ∀ a ∈ ys, a.okC = true) (hp2 : ∀ (i : Nat) a u, ys[i]? = some a → vs[i]? = some u → V c a u) :
    ∀ (fs : List Field) (r : Bool), aEqF P eq xs ys fs = some r → (Op.eqFields D us.toArray vs.toArray fs).run P w = .ok r w
  | [], r, h => by simp [aEqF] at h; subst h; simp [Op.eqFields]
  | f :: fs, r, h => by
    simp only [aEqF] at h
    split at h
    · rename_i hn
      have ih := aEqF_ok w D heq hl1 hc1 hp1 hl2 hc2 hp2 fs r h
      simp [Op.eqFields, hn, ih]
    · rename_i hn
      split at h
      · rename_i a ha
        split at h
        · rename_i b hb
          split at h
          · rename_i r1 hr1
            split at h
            · rename_i r2 hr2
              cases h
              obtain ⟨x, hx1, hx2⟩ := part_ok w hl1 hc1 hp1 ha
              obtain ⟨y, hy1, hy2⟩ := part_ok w hl2 hc2 hp2 hb
              have ih := aEqF_ok w D heq hl1 hc1 hp1 hl2 hc2 hp2 fs r2 hr2
              have he := heq _ _ _ _ _ _ hr1 hx2 hy2
              cases r1 <;> simp [Op.eqFields, hn, hx1, hy1, he, ih]
            · cases h
          · cases h
        · cases h
      · cases h

theorem aEqN_ok (w : World) (D : Nat) {eq : TypeId → AV → AV → Option Bool} (heq : ∀ t a b r x y, eq t a b = some r → V c a x → V c b y → (Op.equalIn D t x y).run P w = .ok r w)
    {xs ys : List AV} {us vs : List Value} (hl1 : xs.length = us.length) (hc1 : ∀ a ∈ xs, a.okC = true) (hp1 : ∀ (i : Nat) a u, xs[i]? = some a → us[i]? = some u → V c a u)
    (hl2 : ys.length = vs.length) (hc2 : ∀ a ∈ ys, a.okC = true) (hp2 : ∀ (i : Nat) a u, ys[i]? = some a → vs[i]? = some u → V c a u) (e : TypeId) :
    ∀ (n k : Nat) (r : Bool), aEqN P eq xs ys e n k = some r → (Op.eqItems D e (P.cellsOf e) us.toArray vs.toArray (List.range' k n)).run P w = .ok r w
  | 0, k, r, h => by simp [aEqN] at h; subst h; simp [Op.eqItems]
  | n + 1, k, r, h => by
    simp only [aEqN] at h
    split at h
    · rename_i a ha
      split at h
      · rename_i b hb
        split at h
        · rename_i r1 hr1
          split at h
          · rename_i r2 hr2
            cases h
            obtain ⟨x, hx1, hx2⟩ := part_ok w hl1 hc1 hp1 ha
            obtain ⟨y, hy1, hy2⟩ := part_ok w hl2 hc2 hp2 hb
            have ih := aEqN_ok w D heq hl1 hc1 hp1 hl2 hc2 hp2 e n (k + 1) r2 hr2
            have he := heq _ _ _ _ _ _ hr1 hx2 hy2
            cases r1 <;> simp [Op.eqItems, List.range'_succ, hx1, hy1, he, ih]
          · cases h
        · cases h
      · cases h
    · cases h

theorem aEq_ok (w : World) : ∀ (d : Nat) (D : Nat) (t : TypeId) (a b : AV) (r : Bool) (x y : Value), aEq P d t a b = some r → V c a x → V c b y → (Op.equalIn (d + D) t x y).run P w = .ok r w
  | 0, D, t, a, b, r, x, y, h, _, _ => by simp [aEq] at h
  | d + 1, D, t, a, b, r, x, y, h, hx, hy => by
    have ih := aEq_ok w d D
    rw [show d + 1 + D = (d + D) + 1 by omega]
    simp only [aEq] at h
    split at h
    · rename_i hu
      split at h
      · cases h
        rw [hx.bool_inv, hy.bool_inv]
        exact run_equalIn_bool w _ t _ _ hu
      · cases h
    · rename_i hu
      split at h
      · split at h
        · rename_i hk
          cases h
          subst hk
          rw [hx.int_inv, hy.int_inv]
          rw [run_equalIn_int (P := P) w (d + D) t _ _ _ _ hu]
          rfl
        · cases h
      · cases h
    · rename_i hu
      split at h
      · cases h
        rw [hx.str_inv, hy.str_inv, run_equalIn_string w _ t _ _ hu, toList_str, toList_str]
        congr 1
        rw [Bool.eq_iff_iff]; simp
      · cases h
    · rename_i hu
      split at h
      · cases h; rw [hx.inil_inv, hy.inil_inv]; simp [Op.equalIn, run_underlying hu]
      · cases h; obtain ⟨u, rfl, _⟩ := hy.iface_inv; rw [hx.inil_inv]; simp [Op.equalIn, run_underlying hu]
      · cases h; obtain ⟨u, rfl, _⟩ := hx.iface_inv; rw [hy.inil_inv]; simp [Op.equalIn, run_underlying hu]
      · cases h
    · rename_i fs hu
      split at h
      · split at h
        · cases h
        · rename_i hst
          obtain ⟨us, rfl, hl1, hc1, hp1⟩ := hx.agg_inv
          obtain ⟨vs, rfl, hl2, hc2, hp2⟩ := hy.agg_inv
          have hf : P.fieldsOf t = fs := by simp [Program.fieldsOf, hu]
          have := run_equalIn_struct (P := P) w (d + D) t us.toArray vs.toArray (by rw [hf]; exact hu) (by simpa using hst)
          rw [this, hf]
          exact aEqF_ok w (d + D) ih hl1 hc1 hp1 hl2 hc2 hp2 _ _ h
      · cases h
    · rename_i n e hu
      split at h
      · rename_i xs ys
        obtain ⟨us, rfl, hl1, hc1, hp1⟩ := hx.agg_inv
        obtain ⟨vs, rfl, hl2, hc2, hp2⟩ := hy.agg_inv
        split at h
        · cases h
        · rename_i hne
          obtain ⟨i, hi⟩ := info_of_cells hne
          have := run_equalIn_array (P := P) w (d + D) us.toArray vs.toArray hu hi
          rw [this, List.range_eq_range']
          exact aEqN_ok w (d + D) ih hl1 hc1 hp1 hl2 hc2 hp2 e _ _ _ h
      · cases h
    · cases h


theorem eq_val (w : World) {t : TypeId} {a b : AV} {r : Bool} {x y : Value} (h : aEq P 20 t a b = some r) (hx : V c a x) (hy : V c b y) :
    (Op.equal t x y).run P w = .ok r w := by
  have := aEq_ok w 20 9980 t a b r x y h hx hy
  exact this

theorem eqGuard_ok (w : World) {op : BinOp} {t : TypeId} {ox oy : Operand} {a b : AV} {x y : Value} (h : eqFree P t ox oy a b = true) (hx : V c a x) (hy : V c b y) :
    (eqGuard op t ox oy x y).run P w = .ok () w := by
  unfold eqFree at h
  split at h
  · rw [hx.inil_inv, hy.inil_inv]
    rcases ox with _ | _ | _ | _ <;> rcases oy with _ | _ | _ | _ <;> simp [isConstO] at h <;> cases op <;> simp [eqGuard]
  · obtain ⟨us, rfl, _⟩ := hx.agg_inv
    obtain ⟨vs, rfl, _⟩ := hy.agg_inv
    have h' : P.eqGuardType P.depth t = false := by simpa using h
    cases op <;> simp [eqGuard, h']
  · obtain ⟨u, rfl, _⟩ := hy.iface_inv; rw [hx.inil_inv]; cases op <;> simp [eqGuard]
  · obtain ⟨u, rfl, _⟩ := hx.iface_inv; rw [hy.inil_inv]; cases op <;> simp [eqGuard]
  · rw [hx.int_inv, hy.int_inv]; cases op <;> simp [eqGuard]
  · rw [hx.str_inv, hy.str_inv]; cases op <;> simp [eqGuard]
  · rw [hx.bool_inv, hy.bool_inv]; cases op <;> simp [eqGuard]
  · cases h

theorem ints_ok (w : World) {op : BinOp} {t : TypeId} {k : IntKind} {m n : Int} {r : AV} (h : aInts op k m n = some r) :
    ∃ v, (binOp op t (.int k m) (.int k n)).run P w = .ok v w ∧ V c r v := by
  cases op <;> simp only [aInts] at h
  case add => cases h; exact ⟨_, by simp [binOp, Op.intArith], .pure (.int _ _)⟩
  case sub => cases h; exact ⟨_, by simp [binOp, Op.intArith], .pure (.int _ _)⟩
  case mul => cases h; exact ⟨_, by simp [binOp, Op.intArith], .pure (.int _ _)⟩
  case quo =>
    split at h
    · cases h
    · rename_i hn; cases h; exact ⟨_, by simp [binOp, Op.intDiv, hn], .pure (.int _ _)⟩
  case rem =>
    split at h
    · cases h
    · rename_i hn; cases h; exact ⟨_, by simp [binOp, Op.intDiv, hn], .pure (.int _ _)⟩
  case and => cases h; exact ⟨.int k _, by simp only [binOp, Op.intBits, if_neg (fun h : k ≠ k => h rfl)]; rfl, .pure (.int _ _)⟩
  case or => cases h; exact ⟨.int k _, by simp only [binOp, Op.intBits, if_neg (fun h : k ≠ k => h rfl)]; rfl, .pure (.int _ _)⟩
  case xor => cases h; exact ⟨.int k _, by simp only [binOp, Op.intBits, if_neg (fun h : k ≠ k => h rfl)]; rfl, .pure (.int _ _)⟩
  case andNot => cases h; exact ⟨.int k _, by simp only [binOp, Op.intBits, if_neg (fun h : k ≠ k => h rfl)]; rfl, .pure (.int _ _)⟩
  case eql => cases h; exact ⟨.bool (decide (m = n)), by simp only [binOp, Op.intCmp, if_neg (fun h : k ≠ k => h rfl)]; rfl, .pure (.bool _)⟩
  case neq => cases h; exact ⟨.bool (!decide (m = n)), by simp only [binOp, Op.intCmp, if_neg (fun h : k ≠ k => h rfl)]; rfl, .pure (.bool _)⟩
  case lss => cases h; exact ⟨.bool (decide (m < n)), by simp only [binOp, Op.intCmp, if_neg (fun h : k ≠ k => h rfl)]; rfl, .pure (.bool _)⟩
  case leq => cases h; exact ⟨.bool (decide (m ≤ n)), by simp only [binOp, Op.intCmp, if_neg (fun h : k ≠ k => h rfl)]; rfl, .pure (.bool _)⟩
  case gtr => cases h; exact ⟨.bool (decide (n < m)), by simp only [binOp, Op.intCmp, if_neg (fun h : k ≠ k => h rfl)]; rfl, .pure (.bool _)⟩
  case geq => cases h; exact ⟨.bool (decide (n ≤ m)), by simp only [binOp, Op.intCmp, if_neg (fun h : k ≠ k => h rfl)]; rfl, .pure (.bool _)⟩
  all_goals cases h

theorem append_str (s u : List UInt8) : (⟨s.toArray⟩ : ByteArray) ++ ⟨u.toArray⟩ = ⟨(s ++ u).toArray⟩ := by
  apply ByteArray.ext
  simp [ByteArray.data_append]

theorem run_eql_any (w : World) {t : TypeId} {x y : Value} {r : Bool} (h : (Op.equal t x y).run P w = .ok r w)
    (hx : (∀ k n, x ≠ .int k n) ∧ (∀ s, x ≠ .string s) ∧ (∀ k n, x ≠ .float k n) ∧ (∀ k n m, x ≠ .complex k n m)) :
    (binOp .eql t x y).run P w = .ok (.bool r) w ∧ (binOp .neq t x y).run P w = .ok (.bool (!r)) w := by
  obtain ⟨h1, h2, h3, h4⟩ := hx
  constructor <;> (cases x <;> first | (exact absurd rfl (h1 _ _)) | (exact absurd rfl (h2 _)) | (exact absurd rfl (h3 _ _)) | (exact absurd rfl (h4 _ _ _)) | (simp [binOp, h]))

theorem aEq_shape {d : Nat} {t : TypeId} {a b : AV} {r : Bool} (h : aEq P d t a b = some r) :
    (∃ b, a = .bool b) ∨ (∃ k n, a = .int k n) ∨ (∃ s, a = .str s) ∨ a = .inil ∨ (∃ t v, a = .iface t v) ∨ ∃ cs, a = .agg cs := by
  cases d with
  | zero => simp [aEq] at h
  | succ d =>
    simp only [aEq] at h
    cases a <;> simp
    all_goals (repeat' split at h) <;> simp_all

theorem bin_ok (w : World) {op : BinOp} {t : TypeId} {a b r : AV} {x y : Value} (hx : V c a x) (hy : V c b y) (h : aBin P op t a b = some r) :
    ∃ v, (binOp op t x y).run P w = .ok v w ∧ V c r v := by
  unfold aBin at h
  split at h
  · rename_i k m k' n
    rw [hx.int_inv, hy.int_inv]
    split at h
    · split at h
      · cases h
      · rename_i hn
        cases h
        exact ⟨_, by simp [binOp, Op.shift, hn], .pure (.int _ _)⟩
    · split at h
      · cases h
      · rename_i hn
        cases h
        exact ⟨_, by simp [binOp, Op.shift, hn], .pure (.int _ _)⟩
    · split at h
      · rename_i hk
        subst hk
        exact ints_ok w h
      · cases h
  · rename_i s u
    rw [hx.str_inv, hy.str_inv]
    split at h
    · split at h
      · rename_i hlen
        cases h
        refine ⟨.string ⟨(s ++ u).toArray⟩, ?_, .pure (.str _)⟩
        have h1 : ¬ (((⟨s.toArray⟩ : ByteArray).size + (⟨u.toArray⟩ : ByteArray).size : Nat) : Int) > IntKind.i64.max := by
          simp [ByteArray.size, IntKind.max, IntKind.signed, IntKind.bits]; omega
        simp only [binOp, Op.stringOp, h1, if_false, append_str]
        rfl
      · cases h
    · cases h
      refine ⟨.bool (decide (s = u)), ?_, .pure (.bool _)⟩
      simp only [binOp, Op.stringOp, toList_str]
      rw [show (s == u) = decide (s = u) by rw [Bool.eq_iff_iff]; simp]
      rfl
    · cases h
      refine ⟨.bool (!decide (s = u)), ?_, .pure (.bool _)⟩
      simp only [binOp, Op.stringOp, toList_str]
      rw [show (s == u) = decide (s = u) by rw [Bool.eq_iff_iff]; simp]
      rfl
    · cases h
  · rename_i hni hns
    have hxs : ∀ d r', aEq P d t a b = some r' → (∀ k n, x ≠ .int k n) ∧ (∀ s, x ≠ .string s) ∧ (∀ k n, x ≠ .float k n) ∧ (∀ k n m, x ≠ .complex k n m) := by
      intro d r' hr
      rcases aEq_shape hr with ⟨_, rfl⟩ | ⟨k, n, rfl⟩ | ⟨s, rfl⟩ | rfl | ⟨_, _, rfl⟩ | ⟨_, rfl⟩
      · rw [hx.bool_inv]; simp
      · exfalso
        cases d with
        | zero => simp [aEq] at hr
        | succ d =>
          simp only [aEq] at hr
          cases b <;> first | exact hni _ _ _ _ rfl rfl | ((repeat' split at hr) <;> simp_all)
      · exfalso
        cases d with
        | zero => simp [aEq] at hr
        | succ d =>
          simp only [aEq] at hr
          cases b <;> first | exact hns _ _ rfl rfl | ((repeat' split at hr) <;> simp_all)
      · rw [hx.inil_inv]; simp
      · obtain ⟨u, rfl, _⟩ := hx.iface_inv; simp
      · obtain ⟨u, rfl, _⟩ := hx.agg_inv; simp
    split at h
    · split at h
      · rename_i r' hr
        cases h
        exact ⟨_, (run_eql_any w (eq_val (c := c) w hr hx hy) (hxs _ _ hr)).1, .pure (.bool _)⟩
      · cases h
    · split at h
      · rename_i r' hr
        cases h
        exact ⟨_, (run_eql_any w (eq_val (c := c) w hr hx hy) (hxs _ _ hr)).2, .pure (.bool _)⟩
      · cases h
    · cases h


theorem nil_const {op : BinOp} {t : TypeId} {y : Operand} {x v : AV} (h : aNil P op t y x = some v) : y = .const (.slice none 0 0) := by
  unfold aNil at h
  split at h
  · rfl
  · cases h

theorem run_equalIn_nilS (w : World) (d : Nat) {t e : TypeId} {g : Addr} {n cap : Nat} (hu : P.underlying t = some (.slice e)) :
    (Op.equalIn (d + 1) t (.slice (some g) n cap) (.slice none 0 0)).run P w = .ok false w := by
  simp [Op.equalIn, run_underlying hu]

theorem slc_some {w : World} {F : Nat → Prop} {x : Bool} {e : AV} {es : List AV} {v : Value} (h : PV w F (.slc x (e :: es)) v) : ∃ g n cap, v = .slice (some g) n cap := by
  cases h with
  | slc _ _ a cap sz vals _ _ _ ha =>
    obtain ⟨b, o, rfl, _⟩ := ha (by simp)
    exact ⟨_, _, _, rfl⟩

theorem nil_ok (w : World) {op : BinOp} {t : TypeId} {x y : Operand} {a r : AV} {v : Value} (ha : V c a v) (h : aNil P op t y a = some r) :
    ∃ u, (do eqGuard op t x (.const (.slice none 0 0)) v (.slice none 0 0); binOp op t v (.slice none 0 0)).run P w = .ok u w ∧ V c r u := by
  unfold aNil at h
  split at h
  · split at h
    · rename_i e' hu
      split at h
      · obtain ⟨g, n, cap, rfl⟩ := slc_some ha.slc_inv
        have he : (Op.equal t (.slice (some g) n cap) (.slice none 0 0)).run P w = .ok false w := by
          exact run_equalIn_nilS w 9999 hu
        have hxs : (∀ k m, (Value.slice (some g) n cap) ≠ .int k m) ∧ (∀ s, (Value.slice (some g) n cap) ≠ .string s) ∧ (∀ k m, (Value.slice (some g) n cap) ≠ .float k m) ∧ (∀ k m l, (Value.slice (some g) n cap) ≠ .complex k m l) := by simp
        split at h
        · cases h
          refine ⟨.bool false, ?_, .pure (.bool _)⟩
          have := (run_eql_any w he hxs).1
          simpa [eqGuard] using this
        · cases h
          refine ⟨.bool true, ?_, .pure (.bool _)⟩
          have := (run_eql_any w he hxs).2
          simpa [eqGuard] using this
        · cases h
      · cases h
    · cases h
  · cases h

theorem un_ok (w : World) {op : UnOp} {a r : AV} {x : Value} (hx : V c a x) (h : aUn op a = some r) : ∃ v, (Op.unary op x).run P w = .ok v w ∧ V c r v := by
  unfold aUn at h
  split at h
  · cases h; rw [hx.bool_inv]; exact ⟨_, by simp [Op.unary], .pure (.bool _)⟩
  · rename_i k n
    cases h; rw [hx.int_inv]; exact ⟨.int k (k.wrap (0 - n)), by simp [Op.unary, Op.intArith], .pure (.int _ _)⟩
  · rename_i k n
    cases h; rw [hx.int_inv]; exact ⟨.int k _, by simp only [Op.unary, Op.intBits]; rfl, .pure (.int _ _)⟩
  · cases h

theorem len_ok (w : World) {t ty : TypeId} {x r : AV} {val : Value} {ts : List TypeId} {vs : List Value} (hx : V c x val) (h : aLen P c.S t x = some r) :
    ∃ v, (Builtin.len_ (t :: ts).toArray ty (val :: vs).toArray).run P w = .ok v w ∧ V c r v := by
  unfold aLen at h
  split at h
  · rename_i hu
    split at h
    · rename_i s
      cases h
      rw [hx.str_inv]
      have hsz : (⟨s.toArray⟩ : ByteArray).size = s.length := by simp [ByteArray.size]
      exact ⟨.int .i64 s.length, by simp only [Builtin.len_]; simp [run_underlying hu, goInt, hsz], .pure (.int _ _)⟩
    · cases h
  · rename_i hu
    split at h
    · rename_i cc es
      cases h
      obtain ⟨a, n, cap, rfl, hn⟩ : ∃ a n cap, val = .slice a n cap ∧ n = es.length := by
        have := hx.slc_inv; cases this; exact ⟨_, _, _, rfl, rfl⟩
      exact ⟨_, by simp [Builtin.len_, run_underlying hu, goInt]; rfl, by rw [hn]; exact .pure (.int _ _)⟩
    · rename_i b v off len
      split at h
      · rename_i es hes
        cases h
        unfold rowAt at hes
        split at hes
        · rename_i y hy
          split at hes
          · rename_i hk
            obtain ⟨h1, h2, h3⟩ := ldBlk_some hy
            obtain ⟨x, hx1, hx2, hx3⟩ := hx.sref_inv
            have : y = x := Option.some.inj (h1.symm.trans hx1)
            subst this
            obtain ⟨cap, cells, tt, fr, rfl, e2, e3, e4, e5⟩ := hx3 h2.symm hk.1
            exact ⟨_, by simp [Builtin.len_, run_underlying hu, goInt], .pure (.int _ _)⟩
          · cases hes
        · cases hes
      · cases h
    · cases h
  · rename_i n e hu
    cases h
    exact ⟨.int .i64 n, by simp [Builtin.len_, run_underlying hu, goInt], .pure (.int _ _)⟩
  · cases h

theorem min_ok (w : World) : ∀ {as : List AV} {vs : List Value} {a r : AV} {x : Value} (_ : aMin a as = some r) (_ : V c a x) (_ : as.length = vs.length) (_ : ∀ (i : Nat) a u, as[i]? = some a → vs[i]? = some u → V c a u),
    ∃ v, (vs.foldlM Builtin.min2 x).run P w = .ok v w ∧ V c r v
  | [], [], a, r, x, h, hx, _, _ => by simp [aMin] at h; subst h; exact ⟨x, by simp, hx⟩
  | b :: as, u :: vs, a, r, x, h, hx, hl, hp => by
    cases a <;> cases b <;> simp only [aMin] at h <;> first | cases h | skip
    split at h
    · rename_i k m k' n hk
      rw [hx.int_inv]
      have hu := hp 0 _ _ rfl rfl
      rw [hu.int_inv]
      obtain ⟨v, h1, h2⟩ := min_ok w (as := as) (vs := vs) h (x := .int k (if n < m then n else m)) (.pure (.int _ _)) (by simpa using hl) (fun i a u h1 h2 => hp (i + 1) a u (by simpa using h1) (by simpa using h2))
      exact ⟨v, by simp [List.foldlM, Builtin.min2, h1], h2⟩
    · cases h
  | [], _ :: _, _, _, _, _, _, hl, _ => by simp at hl
  | _ :: _, [], _, _, _, _, _, hl, _ => by simp at hl

theorem max_ok (w : World) : ∀ {as : List AV} {vs : List Value} {a r : AV} {x : Value} (_ : aMax a as = some r) (_ : V c a x) (_ : as.length = vs.length) (_ : ∀ (i : Nat) a u, as[i]? = some a → vs[i]? = some u → V c a u),
    ∃ v, (vs.foldlM Builtin.max2 x).run P w = .ok v w ∧ V c r v
  | [], [], a, r, x, h, hx, _, _ => by simp [aMax] at h; subst h; exact ⟨x, by simp, hx⟩
  | b :: as, u :: vs, a, r, x, h, hx, hl, hp => by
    cases a <;> cases b <;> simp only [aMax] at h <;> first | cases h | skip
    split at h
    · rename_i k m k' n hk
      rw [hx.int_inv]
      have hu := hp 0 _ _ rfl rfl
      rw [hu.int_inv]
      obtain ⟨v, h1, h2⟩ := max_ok w (as := as) (vs := vs) h (x := .int k (if n > m then n else m)) (.pure (.int _ _)) (by simpa using hl) (fun i a u h1 h2 => hp (i + 1) a u (by simpa using h1) (by simpa using h2))
      exact ⟨v, by simp [List.foldlM, Builtin.max2, h1], h2⟩
    · cases h
  | [], _ :: _, _, _, _, _, _, hl, _ => by simp at hl
  | _ :: _, [], _, _, _, _, _, hl, _ => by simp at hl

/-- A value out of the program's tables. -/
theorem ofCell_V (v : Value) : PV c.w c.F (ofCell v) v := by
  unfold ofCell
  split
  · exact .bool _
  · exact .int _ _
  · rename_i s; exact .str s.data.toList
  · exact .pnil
  · exact .slc true [] none 0 0 [] (fun _ => rfl) (Nat.le_refl _) (fun e he => by simp at he) (fun h => absurd rfl h) rfl (fun _ _ _ h => by simp at h)
  · exact .fnil
  · exact .inil
  · exact .undef _

theorem ofVal_V (v : Value) (h : (ofVal v).cells.all AV.okC = true) : PV c.w c.F (ofVal v) v := by
  unfold ofVal at *
  split
  · rename_i cs
    simp only [AV.cells] at h
    have := PV.agg (w := c.w) (F := c.F) (cs.toList.map ofCell) cs.toList (by simp) (fun a ha => List.all_eq_true.1 h a ha) (fun i a u h1 h2 => by
      rw [List.getElem?_map, h2] at h1
      cases h1
      exact ofCell_V u)
    simpa using this
  · exact ofCell_V v

theorem zeroOf_ok (w : World) {t : TypeId} {z : AV} (h : zeroOf P t = some z) : ∃ v, (zeroValue t).run P w = .ok v w ∧ PV c.w c.F z v ∧ z.cells.all AV.okC = true ∧ z.cells.length = P.cellsOf t := by
  unfold zeroOf at h
  split at h
  · rename_i i hi
    split at h
    · rename_i v hv
      split at h
      · rename_i hok
        cases h
        exact ⟨v, by simp [zeroValue, typeInfo, hi, hv], ofVal_V v hok.1, hok⟩
      · cases h
    · cases h
  · cases h

theorem assertI_ok (w : World) {x r : AV} {val : Value} {xT asserted : TypeId} {ok : Bool} {ms : Array (String × TypeId)} (hu : P.underlying asserted = some (.interface ms)) (hx : V c x val) (h : aAssertI P ms x asserted ok = some r) :
    ∃ v, (Instr.typeAssert val xT asserted ok).run P w = .ok v w ∧ V c r v := by
  have hpair : ∀ z, zeroOf P asserted = some z → ∃ v, (zeroValue asserted).run P w = .ok v w ∧ V c (.tup [z, .bool false]) (.tuple #[v, .bool false]) := by
    intro z hz
    obtain ⟨v, h1, h2, _⟩ := zeroOf_ok (c := c) w hz
    refine ⟨v, h1, .tup [z, .bool false] [v, .bool false] rfl (fun i a u h3 h4 => ?_)⟩
    match i with
    | 0 => simp at h3 h4; subst h3; subst h4; exact .pure h2
    | 1 => simp at h3 h4; subst h3; subst h4; exact .pure (.bool _)
    | i + 2 => simp at h3
  unfold aAssertI at h
  split at h
  · split at h
    · rename_i hok
      subst hok
      split at h
      · rename_i z hz
        cases h
        obtain ⟨v, h1, h2⟩ := hpair z hz
        rw [hx.inil_inv]
        exact ⟨_, by simp [Instr.typeAssert, run_underlying hu, h1], h2⟩
      · cases h
    · cases h
  · rename_i t a
    obtain ⟨u, rfl, hs, hu'⟩ := hx.iface_inv
    split at h
    · rename_i i hi
      split at h
      · rename_i hm
        split at h
        · rename_i hok
          subst hok
          cases h
          refine ⟨.tuple #[.iface t u, .bool true], ?_, .tup [.iface t a, .bool true] [.iface t u, .bool true] rfl (fun i a' u' h3 h4 => ?_)⟩
          · simp [Instr.typeAssert, run_underlying hu, typeInfo, hi, hm]
          · match i with
            | 0 => simp at h3 h4; subst h3; subst h4; exact hx
            | 1 => simp at h3 h4; subst h3; subst h4; exact .pure (.bool _)
            | i + 2 => simp at h3
        · rename_i hok
          cases h
          have : ok = false := by simpa using hok
          subst this
          exact ⟨.iface t u, by simp [Instr.typeAssert, run_underlying hu, typeInfo, hi, hm], hx⟩
      · rename_i m hm
        split at h
        · rename_i hok
          subst hok
          split at h
          · rename_i z hz
            cases h
            obtain ⟨v, h1, h2⟩ := hpair z hz
            exact ⟨_, by simp [Instr.typeAssert, run_underlying hu, typeInfo, hi, hm, h1], h2⟩
          · cases h
        · cases h
    · cases h
  · cases h

theorem assert_ok (w : World) {x r : AV} {val : Value} {xT asserted : TypeId} {ok : Bool} (hx : V c x val) (h : aAssert P x asserted ok = some r) :
    ∃ v, (Instr.typeAssert val xT asserted ok).run P w = .ok v w ∧ V c r v := by
  unfold aAssert at h
  split at h
  · rename_i ms hu
    exact assertI_ok w hu hx h
  · rename_i d hni hu
    have hpair : ∀ z, zeroOf P asserted = some z → ∃ v, (zeroValue asserted).run P w = .ok v w ∧ V c (.tup [z, .bool false]) (.tuple #[v, .bool false]) := by
      intro z hz
      obtain ⟨v, h1, h2, _⟩ := zeroOf_ok (c := c) w hz
      refine ⟨v, h1, .tup [z, .bool false] [v, .bool false] rfl (fun i a u h3 h4 => ?_)⟩
      match i with
      | 0 => simp at h3 h4; subst h3; subst h4; exact .pure h2
      | 1 => simp at h3 h4; subst h3; subst h4; exact .pure (.bool _)
      | i + 2 => simp at h3
    split at h
    · split at h
      · rename_i hok
        subst hok
        split at h
        · rename_i z hz
          cases h
          obtain ⟨v, h1, h2⟩ := hpair z hz
          rw [hx.inil_inv]
          refine ⟨_, ?_, h2⟩
          cases d <;> first | exact absurd rfl (hni _) | simp [Instr.typeAssert, run_underlying hu, h1]
        · cases h
      · cases h
    · rename_i t a
      obtain ⟨u, rfl, hs, hu'⟩ := hx.iface_inv
      split at h
      · rename_i ht
        subst ht
        split at h
        · rename_i hok
          subst hok
          cases h
          refine ⟨.tuple #[u, .bool true], ?_, .tup [a, .bool true] [u, .bool true] rfl (fun i a' u' h3 h4 => ?_)⟩
          · cases d <;> first | exact absurd rfl (hni _) | simp [Instr.typeAssert, run_underlying hu]
          · match i with
            | 0 => simp at h3 h4; subst h3; subst h4; exact .pure hu'
            | 1 => simp at h3 h4; subst h3; subst h4; exact .pure (.bool _)
            | i + 2 => simp at h3
        · rename_i hok
          cases h
          refine ⟨u, ?_, .pure hu'⟩
          have : ok = false := by simpa using hok
          subst this
          cases d <;> first | exact absurd rfl (hni _) | simp [Instr.typeAssert, run_underlying hu]
      · rename_i ht
        split at h
        · rename_i hok
          subst hok
          split at h
          · rename_i z hz
            cases h
            obtain ⟨v, h1, h2⟩ := hpair z hz
            refine ⟨_, ?_, h2⟩
            cases d <;> first | exact absurd rfl (hni _) | simp [Instr.typeAssert, run_underlying hu, h1, ht]
          · cases h
        · cases h
    · cases h
  · cases h

end
end Go.Ab
