/- A part of the proof: contracts of functions. -/
import Derived.Test.YtmjgiplgghmapaaD
import Derived.Test.YtmjgiplgghmapaaAbAny

set_option linter.unusedVariables false
set_option linter.unusedSimpArgs false
set_option maxRecDepth 100000
namespace Go.Proofs.Ytmjgiplgghmapaa
open Go Go.Ab
set_option maxHeartbeats 8000000
abbrev zStp : Step_T := (0, 0, 0, 0, 0, 0, 0, [], (true, []))
/-- The next step, and what is left. -/
def nzE (x : Bool) (b : List Int) : Option Step_T × List Int := match nxD b with
  | [] => (none, [])
  | a :: r => stE ((x, r), a.tmod 15)
def nzO (d : Bool × List Int) : Bool := (nzE d.1 d.2).1.isSome
def nzS (d : Bool × List Int) : Step_T := (nzE d.1 d.2).1.getD zStp
def nzB (d : Bool × List Int) : List Int := (nzE d.1 d.2).2
noncomputable def nzR (d : Bool × List Int) : Alt Ret := .ite (nzO d) (.leaf { pan := false, res := .tup [.agg (Tu.mk Step_tfs (nzS d)), .bool true], out := [boxB [.slc d.1 ((nzB d).map (mkV false [.fi .u8]))]], new := [] }) (.leaf { pan := false, res := .tup [.agg zStep, .bool false], out := [boxB [.slc d.1 ((nzB d).map (mkV false [.fi .u8]))]], new := [] })
noncomputable def nzP : PK := PK.of txA nxPre nzR
theorem nzOk (d : Bool × List Int) (h : nxPre d) : CallOk Try.prog 24 (txA d).1 (txA d).2 (nzR d).val := by
  obtain ⟨x, b⟩ := d
  refine CallOk.unit (fnOk Np2_ok 21) rfl nxP_ok.loops (o := false) (by show 1 ≤ 1000; decide) ((nxt_w x b).trans ?_)
  unfold nxt_r
  refine oK_lpf (Q := fun z => z = _) nxHd_inj (x, b) h rfl ?_
  dsimp only
  unfold nzR nzO nzS nzB nzE nxN nxA nxR
  cases hd : nxD b with
  | nil => exact bK_tq (Q := fun z => z = _) rfl rfl
  | cons a r =>
    refine bK_fq (Q := fun z => z = _) rfl ?_
    dsimp only [List.headD_cons, List.tail_cons]
    by_cases ho : stO ((x, r), a.tmod 15) = true
    · refine bK_tq (Q := fun z => z = _) ho ?_
      have ho' : (stE ((x, r), a.tmod 15)).1.isSome = true := ho
      rw [ho']
      rfl
    · have ho2 : stO ((x, r), a.tmod 15) = false := by simpa using ho
      refine bK_fq (Q := fun z => z = _) ho2 ?_
      have ho' : (stE ((x, r), a.tmod 15)).1.isSome = false := ho2
      rw [ho']
      rfl
noncomputable def Tp1 : PKs := PKs0.add 24 nzP
theorem Tp1_ok : PKsOk Try.prog Tp1 := PKsOk.any PKs0_ok 24 txA nxPre nzR nzOk
def tqh0 (x : Bool) (b : List Int) : St := { fr := [(2, .slc true []), (3, .ptr 128 0 0 0)], bs := [(128, boxB [.slc x (b.map (mkV false [.fi .u8]))])], df := [] }
noncomputable def tq_s0 (x : Bool) (b : List Int) : Option (St ⊕ (Ex × St)) := stepK Try.prog cfg Tp1 LP0 14 0 (tqh0 x b)
noncomputable def tq_s0_r (x : Bool) (b : List Int) : Option (St ⊕ Ex × St) :=
  oK (nzP.dec [AV.ptr 1000000 0 0 0] [{ v := 0, k := BK.box, fz := false, sz := 0, es := [AV.slc x (List.map (mkV false [Lf.fi IntKind.u8]) b)] }]) fun (d0 : Bool × List Int) => bK (nzO d0) (some (Sum.inl { fr := [(2, AV.sref 320 0 0 1), (3, AV.ptr 128 0 0 0)], bs := [(128, { v := 0, k := BK.box, fz := false, sz := 0, es := [AV.slc d0.fst (List.map (mkV false [Lf.fi IntKind.u8]) (nzB d0))] }), (320, { v := 0, k := BK.row, fz := false, sz := 9, es := [AV.agg [AV.int IntKind.i64 (nzS d0).fst, AV.int IntKind.i64 (nzS d0).snd.fst, AV.int IntKind.i64 (nzS d0).snd.snd.fst, AV.int IntKind.i64 (nzS d0).snd.snd.snd.fst, AV.int IntKind.i64 (nzS d0).snd.snd.snd.snd.fst, AV.int IntKind.i64 (nzS d0).snd.snd.snd.snd.snd.fst, AV.int IntKind.i64 (nzS d0).snd.snd.snd.snd.snd.snd.fst, AV.str (nzS d0).snd.snd.snd.snd.snd.snd.snd.fst, AV.slc (nzS d0).snd.snd.snd.snd.snd.snd.snd.snd.fst (List.map (mkV false [Lf.fi IntKind.i64]) (nzS d0).snd.snd.snd.snd.snd.snd.snd.snd.snd)]] })], df := [] })) (some (Sum.inr (Ex.ret, { fr := [(2, AV.slc true [])], bs := [], df := [] })))
theorem tq_s0_w (x : Bool) (b : List Int) : tq_s0 x b = tq_s0_r x b := by kernel_rfl

def tqh1 (x : Bool) (b : List Int) (l : List Step_T) : St := { fr := [(2, .sref 320 0 0 (l.map (mkV true Step_tfs)).length), (3, .ptr 128 0 0 0)], bs := [(128, boxB [.slc x (b.map (mkV false [.fi .u8]))]), (320, { v := 0, k := .row, fz := false, sz := 9, es := l.map (mkV true Step_tfs) })], df := [] }
noncomputable def tq_s1 (x : Bool) (b : List Int) (l : List Step_T) : Option (St ⊕ (Ex × St)) := stepK Try.prog cfg Tp1 LP0 14 0 (tqh1 x b l)
noncomputable def tq_s1_r (x : Bool) (b : List Int) (l : List Step_T) : Option (St ⊕ Ex × St) :=
  oK (nzP.dec [AV.ptr 1000000 0 0 0] [{ v := 0, k := BK.box, fz := false, sz := 0, es := [AV.slc x (List.map (mkV false [Lf.fi IntKind.u8]) b)] }]) fun (d0 : Bool × List Int) =>
  bK (nzO d0) (bK (decide (0 + (List.map (mkV true Step_tfs) l).length ≤ (List.map (mkV true Step_tfs) l).length)) (bK (decide (0 = 0 ∧ (List.map (mkV true Step_tfs) l).length = (List.map (mkV true Step_tfs) l).length) && bytesFit Try.prog 27 ((List.map (mkV true Step_tfs) l).length + 1)) (some (Sum.inl { fr := [(2, AV.sref 320 0 0 ((List.map (mkV true Step_tfs) l).length + 1)), (3, AV.ptr 128 0 0 0)], bs := [(128, { v := 0, k := BK.box, fz := false, sz := 0, es := [AV.slc d0.fst (List.map (mkV false [Lf.fi IntKind.u8]) (nzB d0))] }), (320, { v := 0, k := BK.row, fz := false, sz := 9, es := List.take (List.map (mkV true Step_tfs) l).length (List.map (mkV true Step_tfs) l) ++ [AV.agg [AV.int IntKind.i64 (nzS d0).fst, AV.int IntKind.i64 (nzS d0).snd.fst, AV.int IntKind.i64 (nzS d0).snd.snd.fst, AV.int IntKind.i64 (nzS d0).snd.snd.snd.fst, AV.int IntKind.i64 (nzS d0).snd.snd.snd.snd.fst, AV.int IntKind.i64 (nzS d0).snd.snd.snd.snd.snd.fst, AV.int IntKind.i64 (nzS d0).snd.snd.snd.snd.snd.snd.fst, AV.str (nzS d0).snd.snd.snd.snd.snd.snd.snd.fst, AV.slc (nzS d0).snd.snd.snd.snd.snd.snd.snd.snd.fst (List.map (mkV false [Lf.fi IntKind.i64]) (nzS d0).snd.snd.snd.snd.snd.snd.snd.snd.snd)]] })], df := [] })) none) none) (some (Sum.inr (Ex.ret, { fr := [(2, AV.sref 320 0 0 (List.map (mkV true Step_tfs) l).length)], bs := [(320, { v := 0, k := BK.row, fz := false, sz := 9, es := List.map (mkV true Step_tfs) l })], df := [] })))
theorem tq_s1_w (x : Bool) (b : List Int) (l : List Step_T) : tq_s1 x b l = tq_s1_r x b l := by kernel_rfl

theorem sf_nm (d : RdD) : nmB d <:+ d.1.2 := List.drop_suffix _ _
theorem sf_tx (d : Bool × List Int) : txB d <:+ d.2 := List.drop_suffix _ _
theorem sf_gn (d : GnD) : gnB d <:+ d.1.2 := by
  obtain ⟨j, hj⟩ := gnF_rest d.2.2.toNat d.2.1.toNat d.1.2
  have : gnB d = d.1.2.drop j := hj
  rw [this]
  exact List.drop_suffix _ _
theorem sf_if {p : Prop} [Decidable p] {a c b : List Int} (h1 : a <:+ b) (h2 : c <:+ b) : (if p then a else c) <:+ b := by
  by_cases h : p
  · rw [if_pos h]; exact h1
  · rw [if_neg h]; exact h2
theorem sf_st (x : Bool) (b : List Int) (k : Int) : (stE ((x, b), k)).2 <:+ b := by
  unfold stE
  dsimp only
  simp only [apply_ite Prod.snd]
  repeat' (first | exact List.suffix_refl _ | refine sf_if ?_ ?_ | (refine (sf_nm _).trans ?_; dsimp only) | (refine (sf_tx _).trans ?_; dsimp only) | (refine (sf_gn _).trans ?_; dsimp only))
theorem sf_nx : ∀ b : List Int, nxD b <:+ b
  | [] => List.suffix_refl _
  | a :: r => by
    unfold nxD
    split
    · exact List.suffix_refl _
    · exact (sf_nx r).trans (List.suffix_cons _ _)
theorem nz_suf (x : Bool) (b : List Int) (h : nzO (x, b) = true) : nzB (x, b) <:+ b ∧ (nzB (x, b)).length < b.length := by
  have hs := sf_nx b
  have h : (nzE x b).1.isSome = true := h
  show (nzE x b).2 <:+ b ∧ (nzE x b).2.length < b.length
  unfold nzE at h ⊢
  cases hd : nxD b with
  | nil => rw [hd] at h; cases h
  | cons a r =>
    rw [hd] at hs
    dsimp only
    have h1 := sf_st x r (a.tmod 15)
    have h2 := hs.length_le
    have h3 := h1.length_le
    simp only [List.length_cons] at h2
    exact ⟨h1.trans ((List.suffix_cons a r).trans hs), by omega⟩
theorem byt_suf {a b : List Int} (h : a <:+ b) (hb : byt b) : byt a := fun v hv => hb v (h.subset hv)
/-- The steps that bytes say. -/
def tsN (x : Bool) : Nat → List Int → List Step_T
  | 0, _ => []
  | n + 1, b => if nzO (x, b) = true then nzS (x, b) :: tsN x n (nzB (x, b)) else []
theorem tsN_len (x : Bool) : ∀ (n : Nat) (b : List Int), (tsN x n b).length ≤ b.length
  | 0, b => Nat.zero_le _
  | n + 1, b => by
    unfold tsN
    split
    · next h =>
      have h1 := (nz_suf x b h).2
      have h2 := tsN_len x n (nzB (x, b))
      simp only [List.length_cons]
      omega
    · exact Nat.zero_le _
def tqh (x : Bool) (b : List Int) : List Step_T → St
  | [] => tqh0 x b
  | y :: t => tqh1 x b (y :: t)
def tqx : List Step_T → St
  | [] => { fr := [(2, .slc true [])], bs := [], df := [] }
  | y :: t => { fr := [(2, .sref 320 0 0 ((y :: t).map (mkV true Step_tfs)).length)], bs := [(320, { v := 0, k := .row, fz := false, sz := 9, es := (y :: t).map (mkV true Step_tfs) })], df := [] }
theorem by27 : Try.prog.bytesOf 27 = 96 := by kernel_rfl
theorem fit27 {n : Nat} (h : n ≤ 1000000) : bytesFit Try.prog 27 n = true := by
  simp only [bytesFit, by27, decide_eq_true_eq]; omega
theorem tq_e (x : Bool) (b : List Int) (l : List Step_T) (hb : nxPre (x, b)) (hl : l.length ≤ 100000) : stepK Try.prog cfg Tp1 LP0 14 0 (tqh x b l) = if nzO (x, b) = true then some (.inl (tqh x (nzB (x, b)) (l ++ [nzS (x, b)]))) else some (.inr (.ret, tqx l)) := by
  cases l with
  | nil =>
    refine (tq_s0_w x b).trans ?_
    unfold tq_s0_r
    refine oK_pkq (Q := fun z => z = _) txA_inj (x, b) hb ?_
    dsimp only
    by_cases ho : nzO (x, b) = true
    · rw [if_pos ho]; exact bK_tq (Q := fun z => z = _) ho rfl
    · rw [if_neg ho]; exact bK_fq (Q := fun z => z = _) (by simpa using ho) rfl
  | cons y t =>
    refine (tq_s1_w x b (y :: t)).trans ?_
    unfold tq_s1_r
    refine oK_pkq (Q := fun z => z = _) txA_inj (x, b) hb ?_
    dsimp only
    by_cases ho : nzO (x, b) = true
    · rw [if_pos ho]
      refine bK_tq (Q := fun z => z = _) ho (bK_tq (Q := fun z => z = _) (by simp) (bK_tq (Q := fun z => z = _) (by rw [fit27 (by simp only [List.length_map]; omega)]; simp) ?_))
      have e1 : List.take ((y :: t).map (mkV true Step_tfs)).length ((y :: t).map (mkV true Step_tfs)) ++ [mkV true Step_tfs (nzS (x, b))] = ((y :: t) ++ [nzS (x, b)]).map (mkV true Step_tfs) := by rw [List.take_length, List.map_append]; rfl
      have e2 : ((y :: t).map (mkV true Step_tfs)).length + 1 = (((y :: t) ++ [nzS (x, b)]).map (mkV true Step_tfs)).length := by simp
      show some (Sum.inl (St.mk [(2, .sref 320 0 0 (((y :: t).map (mkV true Step_tfs)).length + 1)), (3, .ptr 128 0 0 0)] [(128, boxB [.slc x ((nzB (x, b)).map (mkV false [.fi .u8]))]), (320, { v := 0, k := .row, fz := false, sz := 9, es := List.take ((y :: t).map (mkV true Step_tfs)).length ((y :: t).map (mkV true Step_tfs)) ++ [mkV true Step_tfs (nzS (x, b))] })] [])) = _
      rw [e1, e2]
      rfl
    · rw [if_neg ho]
      refine bK_fq (Q := fun z => z = _) (by simpa using ho) ?_
      first
        | rfl
        | exact bK_tq (Q := fun z => z = _) (by simp) rfl
theorem gl14 : (loopsOf 0 (codeOf Try.prog 14)).map (·.1) = [0] := by kernel_rfl
theorem go14 : OneLoops Try.prog 14 := by unfold OneLoops; rw [gl14]; decide
theorem ga14 : At 0 (codeOf Try.prog 14) 0 (.loop (bodyAt Try.prog 14 0)) := at_body go14 (by rw [gl14]; decide)
theorem tq_run (x : Bool) : ∀ (n : Nat) (b : List Int) (l : List Step_T), b.length ≤ n → nxPre (x, b) → l.length + n ≤ 100000 → ∀ (fu : Nat), n < fu → Runs' Try.prog cfg Tp1 14 0 fu (tqh x b l) (.ret, tqx (l ++ tsN x n b))
  | 0, b, l, hn, hb, hl, fu + 1, hf => by
    have he := tq_e x b l hb (by omega)
    have ho : ¬ nzO (x, b) = true := fun h => by have := (nz_suf x b h).2; omega
    rw [if_neg ho] at he
    show Runs' Try.prog cfg Tp1 14 0 (fu + 1) (tqh x b l) (.ret, tqx (l ++ []))
    rw [List.append_nil]
    exact Runs'.done (lp := LP0) LPok.none ga14 he
  | n + 1, b, l, hn, hb, hl, fu + 1, hf => by
    have he := tq_e x b l hb (by omega)
    unfold tsN
    by_cases ho : nzO (x, b) = true
    · rw [if_pos ho] at he ⊢
      obtain ⟨h1, h2⟩ := nz_suf x b ho
      have hr := tq_run x n (nzB (x, b)) (l ++ [nzS (x, b)]) (by omega) ⟨byt_suf h1 hb.1, by have h3 : b.length ≤ 100000 := hb.2; show (nzB (x, b)).length ≤ 100000; omega⟩ (by rw [List.length_append, List.length_singleton]; omega) fu (by omega)
      rw [List.append_assoc, List.singleton_append] at hr
      exact Runs'.step (lp := LP0) LPok.none ga14 he hr
    · rw [if_neg ho] at he ⊢
      rw [List.append_nil]
      exact Runs'.done (lp := LP0) LPok.none ga14 he
def tqHd (d : Bool × List Int) : St := tqh0 d.1 d.2
theorem tqHd_inj (d d' : Bool × List Int) (h : tqHd d = tqHd d') : d = d' := by
  obtain ⟨x, b⟩ := d
  obtain ⟨x', b'⟩ := d'
  simp only [tqHd, tqh0, boxB, St.mk.injEq, List.cons.injEq, Prod.mk.injEq, AV.slc.injEq, Blk.mk.injEq, and_true, true_and] at h
  rw [h.1, map_inj (fs := [.fi .u8]) rfl h.2]
/-- The steps that bytes say. -/
def tsF (d : Bool × List Int) : List Step_T := tsN d.1 d.2.length d.2
def noS (l : List Step_T) : Bool := l.isEmpty
noncomputable def tqL : LP := LP.of tqHd nxPre fun d => .ite (noS (tsF d)) (.leaf (.ret, { fr := [(2, .slc true [])], bs := [], df := [] })) (.leaf (.ret, { fr := [(2, .sref 320 0 0 ((tsF d).map (mkV true Step_tfs)).length)], bs := [(320, { v := 0, k := .row, fz := false, sz := 9, es := (tsF d).map (mkV true Step_tfs) })], df := [] }))
noncomputable def tqP : LPs := LPs.add LP0 14 0 tqL
theorem tqP_ok : LPok Try.prog cfg Tp1 tqP 14 := LPok.addH LPok.none go14 (by
  rintro ⟨x, b⟩ h
  have hr := tq_run x b.length b [] (Nat.le_refl _) h (by have h2 : b.length ≤ 100000 := h.2; simp only [List.length_nil]; omega) rounds (by have h2 : b.length ≤ 100000 := h.2; simp only [rounds]; omega)
  refine cast ?_ hr
  congr 1
  show (Ex.ret, tqx (tsF (x, b))) = _
  cases tsF (x, b) <;> rfl)
abbrev take_id : Nat := 14
abbrev take_sh : Shp := [none]
abbrev take_fs : List Lf := [.fl false [.fi .u8]]
abbrev take_rsh : Shp := [none]
abbrev take_rfs : List Lf := [.fl true Step_tfs]
noncomputable def take_r (b_x : Bool) (b : List Int) : Option Ret :=
  oK (tqL.dec { fr := [(2, AV.slc true []), (3, AV.ptr 128 0 0 0)], bs := [(128, { v := 0, k := BK.box, fz := false, sz := 0, es := [AV.slc b_x (List.map (mkV false [Lf.fi IntKind.u8]) b)] })], df := [] }) fun (d0 : Bool × List Int) => bK (noS (tsF d0)) (some { pan := false, res := AV.slc true [], out := [], new := [] }) (bK (decide (0 + (List.map (mkV true Step_tfs) (tsF d0)).length ≤ (List.map (mkV true Step_tfs) (tsF d0)).length)) (some { pan := false, res := AV.slc false (List.take (List.map (mkV true Step_tfs) (tsF d0)).length (List.drop 0 (List.map (mkV true Step_tfs) (tsF d0)))), out := [], new := [] }) none)
theorem take_w (b_x : Bool) (b : List Int) : unitQ Try.prog cfg Tp1 tqP false 14 (groupA take_sh (Tu.mk take_fs (b_x, b))) [] = take_r b_x b := by kernel_rfl

def takeS : FS := ⟨take_sh, take_fs, take_rsh, take_rfs, fun d => nxPre d, fun d => ((tsF d).isEmpty, tsF d), none⟩
theorem takeO : ∀ d : Tu takeS.fs, takeS.pre d → CallOk Try.prog 14 (takeS.args d) [] (takeS.ret d) := by
  rintro ⟨x, b⟩ h
  refine CallOk.unit (fnOk Tp1_ok 21) rfl tqP_ok.loops (o := false) (by show 0 ≤ 1000; decide) ((take_w x b).trans ?_)
  show _ = some (takeS.out ((tsF (x, b)).isEmpty, tsF (x, b)))
  unfold take_r
  refine oK_lpf (Q := fun z => z = _) tqHd_inj (x, b) h rfl ?_
  cases tsF (x, b) with
  | nil => exact bK_tq (Q := fun z => z = _) rfl rfl
  | cons y t =>
    refine bK_fq (Q := fun z => z = _) rfl ?_
    refine bK_tq (Q := fun z => z = _) (by simp) ?_
    rw [List.drop_zero, List.take_length]
    rfl

end Go.Proofs.Ytmjgiplgghmapaa
