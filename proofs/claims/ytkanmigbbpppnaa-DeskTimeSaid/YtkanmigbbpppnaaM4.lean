/- A part of the proof: contracts of functions. -/
import Derived.Test.YtkanmigbbpppnaaL4
import Derived.Test.YtkanmigbbpppnaaAbAny

set_option linter.unusedVariables false
set_option linter.unusedSimpArgs false
set_option maxRecDepth 100000
namespace Go.Proofs.Ytkanmigbbpppnaa
open Go Go.Ab
def dlh (now : Int) (w : Wait_T) (D : Desk_T) (x : Bool) (a : List Wait_T) (b : Bool) (i : Int) : St := { fr := [(12, .int .i64 now), (13, .ptr 208 0 0 0), (20, .ptr 320 0 0 0), (21, .slc x (a.map (mkV true Wait_tfs))), (23, .bool b), (24, .int .i64 i)], bs := [(208, boxB (Tu.mk Wait_tfs w)), (320, boxB (Tu.mk Desk_tfs D))], df := [] }
noncomputable def dl_s (now : Int) (w : Wait_T) (D : Desk_T) (x : Bool) (a : List Wait_T) (b : Bool) (i : Int) : Option (St ⊕ (Ex × St)) := stepK Try.prog cfg Lt4 dtP 4 2 (dlh now w D x a b i)
noncomputable def dl_s_r (now : Int) (w : Wait_T) (D : Desk_T) (x : Bool) (a : List Wait_T) (b : Bool) (i : Int) : Option (St ⊕ Ex × St) :=
 bK (decide (i < (↑(mW a).length : Int)))
 (bK b (some (.inl (sf [(12, i6 now), (13, pt 208), (20, pt 320), (21, sl x a), (23, .bool true), (24, i6 (IntKind.i64.wrap (i + 1)))] [(208, (bx [i6 w.1, i6 w.2.1, i6 w.2.2.1, i6 w.2.2.2])), (320, (bx [sl D.1.1 D.1.2, sl D.2.1 D.2.2]))]))) (oK (elemAt true Wait_tfs (mW a) i) fun (d0 : Int × Int × Int × Int) => some (.inl (sf [(12, i6 now), (13, pt 208), (20, pt 320), (21, sl x a), (23, .bool (decide (d0.1 = w.1) && (decide (d0.2.1 = w.2.1) && (decide (d0.2.2.1 = w.2.2.1) && (decide (d0.2.2.2 = w.2.2.2) && true))))), (24, i6 (IntKind.i64.wrap (i + 1)))] [(208, (bx [i6 w.1, i6 w.2.1, i6 w.2.2.1, i6 w.2.2.2])), (320, (bx [sl D.1.1 D.1.2, sl D.2.1 D.2.2]))]))))
 (some (.inr (.exit 2, (sf [(12, i6 now), (13, pt 208), (20, pt 320), (23, .bool b)] [(208, (bx [i6 w.1, i6 w.2.1, i6 w.2.2.1, i6 w.2.2.2])), (320, (bx [sl D.1.1 D.1.2, sl D.2.1 D.2.2]))]))))
theorem dl_s_w (now : Int) (w : Wait_T) (D : Desk_T) (x : Bool) (a : List Wait_T) (b : Bool) (i : Int) : dl_s now w D x a b i = dl_s_r now w D x a b i := by kernel_rfl

theorem eqW4 (x w : Wait_T) : (decide (x.1 = w.1) && (decide (x.2.1 = w.2.1) && (decide (x.2.2.1 = w.2.2.1) && (decide (x.2.2.2 = w.2.2.2) && true)))) = decide (x = w) := by
 obtain ⟨x1, x2, x3, x4⟩ := x
 obtain ⟨w1, w2, w3, w4⟩ := w
 by_cases h1 : x1 = w1 <;> by_cases h2 : x2 = w2 <;> by_cases h3 : x3 = w3 <;> by_cases h4 : x4 = w4 <;> simp [h1, h2, h3, h4]
def dlx (now : Int) (w : Wait_T) (D : Desk_T) (b : Bool) : St := { fr := [(12, .int .i64 now), (13, .ptr 208 0 0 0), (20, .ptr 320 0 0 0), (23, .bool b)], bs := [(208, boxB (Tu.mk Wait_tfs w)), (320, boxB (Tu.mk Desk_tfs D))], df := [] }
theorem dl_run (now : Int) (w : Wait_T) (D : Desk_T) (x : Bool) (a : List Wait_T) (hb : a.length ≤ 10000) : ∀ (j n : Nat), n + j = a.length → ∀ (th : Bool) (fu : Nat), j < fu → Runs' Try.prog cfg Lt4 4 2 fu (dlh now w D x a th n) (.exit 2, dlx now w D (th || (a.drop n).any (fun v => decide (v = w))))
 | 0, n, hn, th, fu + 1, hf => by
  rw [List.drop_of_length_le (by omega), List.any_nil, Bool.or_false]
  refine Runs'.done (lp := dtP) dtP_ok ga42 ((dl_s_w now w D x a th n).trans ?_)
  unfold dl_s_r
  exact bK_neg (by simp; omega)
 | j + 1, n, hn, th, fu + 1, hf => by
  have hn' : n < a.length := by omega
  have e1 : IntKind.i64.wrap ((n : Int) + 1) = ((n + 1 : Nat) : Int) := by rw [w64 (by omega) (by omega)]; omega
  have e2 : a.getD (n : Int).toNat (0, 0, 0, 0) = a[n] := by rw [Int.toNat_natCast, getD_at hn']
  have hr := dl_run now w D x a hb j (n + 1) (by omega) (th || decide (a[n] = w)) fu (by omega)
  rw [List.drop_eq_getElem_cons hn', List.any_cons, ← Bool.or_assoc]
  refine Runs'.step (lp := dtP) dtP_ok ga42 ((dl_s_w now w D x a th n).trans ?_) hr
  unfold dl_s_r
  refine bK_tq (Q := (· = _)) (by simp; omega) ?_
  rw [e1]
  cases th with
  | true => exact bK_tq (Q := (· = _)) rfl rfl
  | false =>
   refine bK_fq (Q := (· = _)) rfl ?_
   refine oK_atq (Q := (· = _)) (fs := Wait_tfs) (0, 0, 0, 0) (by omega) (by simpa using hn') ?_
   rw [e2, ← eqW4 a[n] w]
   rfl
abbrev DlD : Type := (Int × Wait_T) × Desk_T × (Bool × List Wait_T)
def dlHd (d : DlD) : St := dlh d.1.1 d.1.2 d.2.1 d.2.2.1 d.2.2.2 false 0
theorem dlHd_inj (d d' : DlD) (h : dlHd d = dlHd d') : d = d' := by
 obtain ⟨⟨now, w⟩, D, x, a⟩ := d
 obtain ⟨⟨now', w'⟩, D', x', a'⟩ := d'
 simp only [dlHd, dlh, boxB, St.mk.injEq, List.cons.injEq, Prod.mk.injEq, AV.slc.injEq, AV.int.injEq, Blk.mk.injEq, and_true, true_and] at h
 obtain ⟨⟨h1, h2, h3⟩, h7, h8⟩ := h
 rw [h1, h2, map_inj (fs := Wait_tfs) rfl h3, mk_inj (fs := Wait_tfs) rfl h7, mk_inj (fs := Desk_tfs) rfl h8]
def anyE (a : List Wait_T) (w : Wait_T) : Bool := a.any (fun v => decide (v = w))
noncomputable def dlL : LP := LP.of dlHd (fun d => d.2.2.2.length ≤ 10000) fun d => .leaf (.exit 2, dlx d.1.1 d.1.2 d.2.1 (anyE d.2.2.2 d.1.2))
noncomputable def dlP : LPs := LPs.add dtP 4 2 dlL
theorem dlP_ok : LPok Try.prog cfg Lt4 dlP 4 := LPok.addH dtP_ok go4 (by
 rintro ⟨⟨now, w⟩, D, x, a⟩ h
 have hr := dl_run now w D x a h a.length 0 (by omega) false rounds (by have h : a.length ≤ 10000 := h; simp only [rounds]; omega)
 rw [List.drop_zero] at hr
 exact hr)
abbrev deskTime_id : Nat := 4
abbrev deskTime_sh : Shp := [none, none, none, none, none]
abbrev deskTime_fs : List Lf := [.fl false [.fi .u8], .fi .u8, .fi .u8, .fi .u8, .fl true [.fi .u8, .fi .u8, .fi .u8]]
abbrev deskTime_rsh : Shp := [none]
abbrev deskTime_rfs : List Lf := [.fb]
noncomputable def deskTime_r (picks_x : Bool) (picks : List Int) (c : Int) (f : Int) (m : Int) (l_x : Bool) (l : List (Int × Int × Int)) : Option Ret :=
 oK (begunS.dec [] []) fun (d0 : PUnit) =>
 bK (decide (100 < (↑(List.map (mkV false [Lf.fi .u8]) picks).length : Int))) (some (rt (.bool true)))
 (bK (decide (10 < (↑(List.map (mkV true [Lf.fi .u8, Lf.fi .u8, Lf.fi .u8]) l).length : Int))) (some (rt (.bool true)))
 (oK (ndskS.dec [pt 1000000, i6 25] [(bx [.slc picks_x (List.map (mkV false [Lf.fi .u8]) picks), i6 0])]) fun (d1 : ((Bool × List Int) × Int) × Int) =>
 oK (daskS.dec [AV.agg [.slc (ndR (d1.1, d1.2)).2.1.1 (mW (ndR (d1.1, d1.2)).2.1.2), .slc (ndR (d1.1, d1.2)).2.2.1.1 (mW (ndR (d1.1, d1.2)).2.2.1.2)], i6 (ndR (d1.1, d1.2)).2.2.2, AV.agg [i6 (IntKind.i64.wrap (1 + IntKind.i64.wrap (c.tmod 3))), i6 500, i6 (IntKind.i64.wrap (1 + IntKind.i64.wrap (f.tmod 3))), i6 (IntKind.i64.wrap (1 + IntKind.i64.wrap (m.tmod 2)))]] []) fun (d2 : LW × LW × Int × Int × Int × Int × Int) =>
 bK (askQ d2.1.2 d2.2.1.2 d2.2.2.1 d2.2.2.2).2.2.1 (bK (decide ((askQ d2.1.2 d2.2.1.2 d2.2.2.1 d2.2.2.2).2.2.2.2 = 0)) (some (rt (.bool true))) (some (rt (.bool (decide ((askQ d2.1.2 d2.2.1.2 d2.2.2.1 d2.2.2.2).2.2.2.2 = 3))))))
 (bK (!decide ((askQ d2.1.2 d2.2.1.2 d2.2.2.1 d2.2.2.2).2.2.2.2 = 0)) (bK (decide ((askQ d2.1.2 d2.2.1.2 d2.2.2.1 d2.2.2.2).2.2.2.2 = 0)) (some (rt (.bool true))) (some (rt (.bool (decide ((askQ d2.1.2 d2.2.1.2 d2.2.2.1 d2.2.2.2).2.2.2.2 = 3))))))
 (oK (aheadRSw.dec [.slc (askQ d2.1.2 d2.2.1.2 d2.2.2.1 d2.2.2.2).2.1.1 (mW (askQ d2.1.2 d2.2.1.2 d2.2.2.1 d2.2.2.2).2.1.2), i6 (IntKind.i64.wrap (1 + IntKind.i64.wrap (c.tmod 3))), i6 (IntKind.i64.wrap (1 + IntKind.i64.wrap (f.tmod 3)))] []) fun (d3 : LW × Int × Int) =>
 bK (aheadQw d3) (bK (decide ((askQ d2.1.2 d2.2.1.2 d2.2.2.1 d2.2.2.2).2.2.2.2 = 0)) (some (rt (.bool true))) (some (rt (.bool (decide ((askQ d2.1.2 d2.2.1.2 d2.2.2.1 d2.2.2.2).2.2.2.2 = 3))))))
 (oK (dtL.dec (sf [(4, .slc l_x (List.map (mkV true [Lf.fi .u8, Lf.fi .u8, Lf.fi .u8]) l)), (11, pt 176), (12, i6 (ndR (d1.1, d1.2)).2.2.2), (13, pt 208), (17, i6 (ndR (d1.1, d1.2)).2.2.2), (18, i6 0)] [(176, (bx [.slc (askQ d2.1.2 d2.2.1.2 d2.2.2.1 d2.2.2.2).1.1 (mW (askQ d2.1.2 d2.2.1.2 d2.2.2.1 d2.2.2.2).1.2), .slc (askQ d2.1.2 d2.2.1.2 d2.2.2.1 d2.2.2.2).2.1.1 (mW (askQ d2.1.2 d2.2.1.2 d2.2.2.1 d2.2.2.2).2.1.2)])), (208, (bx [i6 (IntKind.i64.wrap (1 + IntKind.i64.wrap (c.tmod 3))), i6 500, i6 (IntKind.i64.wrap (1 + IntKind.i64.wrap (f.tmod 3))), i6 (IntKind.i64.wrap (1 + IntKind.i64.wrap (m.tmod 2)))]))])) fun (d4 : (Bool × List (Int × Int × Int)) × Desk_T × Int × Int × Int × Int × Int) =>
 oK (drunS.dec [AV.agg [.slc (dtR d4).1.1 (mW (dtR d4).1.2), .slc (dtR d4).2.1 (mW (dtR d4).2.2)], i6 (IntKind.i64.wrap (d4.2.2.1 + 60))] []) fun (d5 : LW × LW × Int) =>
 oK (dlL.dec (sf [(12, i6 d4.2.2.1), (13, pt 208), (20, pt 320), (21, .slc (runQ (d5.1, d5.2.1) d5.2.2).2.2.1.1 (mW (runQ (d5.1, d5.2.1) d5.2.2).2.2.1.2)), (23, .bool false), (24, i6 0)] [(208, (bx [i6 d4.2.2.2.1, i6 d4.2.2.2.2.1, i6 d4.2.2.2.2.2.1, i6 d4.2.2.2.2.2.2])), (320, (bx [.slc (runQ (d5.1, d5.2.1) d5.2.2).1.1 (mW (runQ (d5.1, d5.2.1) d5.2.2).1.2), .slc (runQ (d5.1, d5.2.1) d5.2.2).2.1.1 (mW (runQ (d5.1, d5.2.1) d5.2.2).2.1.2)]))])) fun (d6 : (Int × Int × Int × Int × Int) × Desk_T × Bool × List Wait_T) =>
 bK (anyE d6.2.2.2 d6.1.2) (oK (hrefS.dec [sl d6.2.1.1.1 d6.2.1.1.2, i6 (IntKind.i64.wrap (d6.1.1 + 60)), i6 d6.1.2.1, i6 d6.1.2.2.2.1] []) fun (d7 : LW × Int × Int × Int) => some (rt (.bool (decide (d6.1.2.2.2.2 ≤ rhQ d7.1.2 d7.2.1 d7.2.2.1 d7.2.2.2))))) (some (rt (.bool false))))))))
theorem deskTime_w (picks_x : Bool) (picks : List Int) (c : Int) (f : Int) (m : Int) (l_x : Bool) (l : List (Int × Int × Int)) : unitQ Try.prog cfg Lt4 dlP true 4 (groupA deskTime_sh (Tu.mk deskTime_fs ((picks_x, picks), c, f, m, (l_x, l)))) [] = deskTime_r picks_x picks c f m l_x l := by kernel_rfl

theorem rnN_alen (now : Int) : ∀ (n : Nat) (D : Desk_T) (a : List Wait_T), (rnN now n D a).2.length ≤ a.length + n
 | 0, D, a => Nat.le_refl _
 | n + 1, D, a => by
  unfold rnN
  by_cases hc : posR D now < 0
  ·rw [if_pos hc]; exact Nat.le_add_right _ _
  ·rw [if_neg hc]
   have := rnN_alen now n (nextD D now (D.2.2.getD (posR D now).toNat (0, 0, 0, 0))) (a ++ [D.2.2.getD (posR D now).toNat (0, 0, 0, 0)])
   rw [List.length_append, List.length_singleton] at this
   omega
theorem ask_err (L : List Lease_T) (W : List Wait_T) (now : Int) (w : Wait_T) : (askQ L W now w).2.2.2.2 = 0 ∨ (askQ L W now w).2.2.2.2 = 3 := by
 have e : askQ L W now w = if mayQd (pruneQ L now) W now w = true then ((false, letsL (pruneQ L now) now w), (W.isEmpty, letsW W w), true, (true, []), 0)
  else if (putQw W w).2 = false then ((L.isEmpty, pruneQ L now), (W.isEmpty, W), false, (true, []), 3)
  else ((L.isEmpty, pruneQ L now), (false, (putQw W w).1), false, ((csF (pruneQ L now) now w.1 w.2.2.1 w.2.2.2).isEmpty, csF (pruneQ L now) now w.1 w.2.2.1 w.2.2.2), 0) := rfl
 rw [e]
 split
 ·exact .inl rfl
 ·split
  ·exact .inr rfl
  ·exact .inl rfl
theorem put_mem {W : List Wait_T} {w : Wait_T} (h : ¬ (putQw W w).2 = false) : w ∈ (putQw W w).1 := by
 have e : putQw W w = if 0 ≤ placeFw W w.1 ∧ (W.getD (placeFw W w.1).toNat (0, 0, 0, 0)).2.2.1 = w.2.2.1 then (W.set (placeFw W w.1).toNat w, true) else if 4 ≤ (dropFw W w.1).length then (W, false) else (dropFw W w.1 ++ [w], true) := rfl
 rw [e] at h ⊢
 split at h
 ·next hc =>
  rw [if_pos hc]
  have hp : placeFw W w.1 = -1 ∨ (0 ≤ placeFw W w.1 ∧ placeFw W w.1 < W.length) := firstN_lt _ _
  exact List.mem_set (by omega) _
 ·next hc =>
  rw [if_neg hc]
  split at h
  ·exact absurd rfl h
  ·next h4 => rw [if_neg h4]; simp
theorem ask_wait {now : Int} (hn : 0 ≤ now) {L : List Lease_T} {W : List Wait_T} (h : EInv 3 now L W) {w : Wait_T} (hw : wOk w) (hf : w.2.2.1 ≤ 3) (hok : ¬ (askQ L W now w).2.2.1 = true) (he : (askQ L W now w).2.2.2.2 = 0) (ha : aheadNw w.1 w.2.2.1 (askQ L W now w).2.1.2 = false) : WInv (now + 60) now w (askQ L W now w).1.2 (askQ L W now w).2.1.2 := by
 have hE := ask_E hn h hw hf
 refine ⟨hE, ?_, ha, fun x hx _ => hE.u x hx⟩
 have e : askQ L W now w = if mayQd (pruneQ L now) W now w = true then ((false, letsL (pruneQ L now) now w), (W.isEmpty, letsW W w), true, (true, []), 0)
  else if (putQw W w).2 = false then ((L.isEmpty, pruneQ L now), (W.isEmpty, W), false, (true, []), 3)
  else ((L.isEmpty, pruneQ L now), (false, (putQw W w).1), false, ((csF (pruneQ L now) now w.1 w.2.2.1 w.2.2.2).isEmpty, csF (pruneQ L now) now w.1 w.2.2.1 w.2.2.2), 0) := rfl
 rw [e] at hok he ⊢
 split at hok
 ·exact absurd rfl hok
 ·next h1 =>
  rw [if_neg h1] at he ⊢
  split at he
  ·cases he
  ·next h2 => rw [if_neg h2]; exact put_mem h2
theorem deskTime_yes (picks_x : Bool) (picks : List Int) (c : Int) (f : Int) (m : Int) (l_x : Bool) (l : List (Int × Int × Int)) (h : Tu.wf deskTime_fs ((picks_x, picks), c, f, m, (l_x, l))) : Yes (deskTime_r picks_x picks c f m l_x l) := by
 have hp : ∀ v ∈ picks, 0 ≤ v ∧ v < 256 := wf8 h.1.2
 have hcb : (0 : Int) ≤ c ∧ c ≤ 255 := h.2.1
 have hfb : (0 : Int) ≤ f ∧ f ≤ 255 := h.2.2.1
 have hmb : (0 : Int) ≤ m ∧ m ≤ 255 := h.2.2.2.1
 have hl : ∀ r ∈ l, Tu.wf Row3b_fs r := h.2.2.2.2.2
 obtain ⟨c1, c2, c3⟩ := tm_lt c 3 hcb (by omega)
 obtain ⟨f1, f2, f3⟩ := tm_lt f 3 hfb (by omega)
 obtain ⟨m1, m2, m3⟩ := tm_lt m 2 hmb (by omega)
 unfold deskTime_r
 refine oK_fsq (Q := Yes) begunS () trivial ?_
 refine bK_iq (Q := Yes) (fun _ => yes_leaf) (fun k1 => bK_iq (Q := Yes) (fun _ => yes_leaf) (fun k2 => ?_))
 rw [List.length_map] at k1 k2
 rw [c1, f1, m1]
 have hk : pkOk ((picks_x, picks), 0) := ⟨Int.le_refl _, by show (0 : Int) ≤ 2 ^ 62; decide, by show picks.length ≤ 2 ^ 62; omega, hp⟩
 refine oK_msq (Q := Yes) ndskS ((picks_x, picks), 0) (25 : Int) ⟨hk, by show (0 : Int) ≤ 25; decide, by show (25 : Int) ≤ 25; decide⟩ ?_
 have hs := (ndR_spec (((picks_x, picks), 0), 25) ⟨hk, by show (0 : Int) ≤ 25; decide, by show (25 : Int) ≤ 25; decide⟩).1.2
 dsimp only
 generalize ndR (((picks_x, picks), 0), 25) = y at hs ⊢
 obtain ⟨b, DL, DW, now⟩ := y
 obtain ⟨hE, hn0, hn1, hlen⟩ := hs
 dsimp only at hE hn0 hn1 hlen ⊢
 have hwk : wOk (1 + c.tmod 3, 500, 1 + f.tmod 3, 1 + m.tmod 2) := ⟨⟨by show 1 ≤ 1 + c.tmod 3; omega, by show 1 + c.tmod 3 ≤ 3; omega⟩, ⟨by show 1 ≤ 1 + f.tmod 3; omega, by show 1 + f.tmod 3 ≤ 6; omega⟩, ⟨by show 1 ≤ 1 + m.tmod 2; omega, by show 1 + m.tmod 2 ≤ 2; omega⟩⟩
 have hwf : (1 + c.tmod 3, (500 : Int), 1 + f.tmod 3, 1 + m.tmod 2).2.2.1 ≤ 3 := by show 1 + f.tmod 3 ≤ 3; omega
 refine oK_fsq (Q := Yes) daskS (DL, DW, now, (1 + c.tmod 3, 500, 1 + f.tmod 3, 1 + m.tmod 2)) ⟨⟨by show DL.2.length ≤ 100000; omega, by show DW.2.length ≤ 100000; omega⟩, by show 0 ≤ now; omega, by show now ≤ 1000000; omega⟩ ?_
 dsimp only
 have hle := ask_len DL.2 hE.d.l now (1 + c.tmod 3, 500, 1 + f.tmod 3, 1 + m.tmod 2)
 have her := ask_err DL.2 DW.2 now (1 + c.tmod 3, 500, 1 + f.tmod 3, 1 + m.tmod 2)
 have hwt := ask_wait hn0 hE hwk hwf
 generalize hw : (1 + c.tmod 3, (500 : Int), 1 + f.tmod 3, 1 + m.tmod 2) = w at hwk hwf hle her hwt ⊢
 have w1 : 1 + c.tmod 3 = w.1 := by rw [← hw]
 have w2 : 1 + f.tmod 3 = w.2.2.1 := by rw [← hw]
 generalize askQ DL.2 DW.2 now w = r at hle her hwt ⊢
 have hret : ∀ {z : Option Ret}, Yes (bK (decide (r.2.2.2.2 = 0)) (some { pan := false, res := AV.bool true, out := [], new := [] }) (some { pan := false, res := AV.bool (decide (r.2.2.2.2 = 3)), out := [], new := [] })) := by
  intro _
  refine bK_iq (Q := Yes) (fun _ => yes_leaf) (fun k => ?_)
  rw [decide_eq_true (her.resolve_left k)]
  exact yes_leaf
 by_cases hok : r.2.2.1 = true
 ·exact bK_tq (Q := Yes) hok (hret (z := none))
 ·refine bK_fq (Q := Yes) (by simpa using hok) ?_
  refine bK_nq (Q := Yes) (fun _ => hret (z := none)) (fun he => ?_)
  refine oK_fsq (Q := Yes) aheadRSw (r.2.1, 1 + c.tmod 3, 1 + f.tmod 3) (by show r.2.1.2.length ≤ 100000; omega) ?_
  by_cases hah : aheadQw (r.2.1, 1 + c.tmod 3, 1 + f.tmod 3) = true
  ·exact bK_tq (Q := Yes) hah (hret (z := none))
  ·refine bK_fq (Q := Yes) (by simpa using hah) ?_
   have hW := hwt hok he (by rw [← w1, ← w2]; show aheadQw (r.2.1, 1 + c.tmod 3, 1 + f.tmod 3) = false; simpa using hah)
   have hpre : dtPre ((l_x, l), (r.1, r.2.1), now, w) := ⟨hl, by show l.length ≤ 10; omega, ⟨hn0, Int.le_refl _, by show now ≤ now + 59; omega, ⟨Int.le_refl _, by show now ≤ 1000; omega⟩, hW, by show r.1.2.length + r.2.1.2.length ≤ 26 + 0; omega⟩⟩
   obtain ⟨⟨s, t, hT⟩, _⟩ := dtR_spec _ hpre
   refine oK_lpf (Q := Yes) dtHd_inj ((l_x, l), (r.1, r.2.1), now, w) hpre (by rw [← hw]; rfl) ?_
   dsimp only
   generalize dtR ((l_x, l), (r.1, r.2.1), now, w) = D at hT ⊢
   obtain ⟨t0, t1, t2, ⟨t3, t4⟩, tW, tl⟩ := hT
   dsimp only at t0 t1 t2 t3 t4 tW tl
   rw [w64 (n := now + 60) (by omega) (by omega)]
   refine oK_fsq (Q := Yes) drunS (D.1, D.2, now + 60) ⟨by show D.1.2.length + D.2.2.length ≤ 50; omega, by show 0 ≤ now + 60; omega, by show now + 60 ≤ 1000000; omega⟩ ?_
   dsimp only
   obtain ⟨g1, g2⟩ := run_W (till := now + 60) (by omega) (by omega) tW
   have ga : (runQ D (now + 60)).2.2.1.2.length ≤ 0 + D.2.2.length := rnN_alen (now + 60) D.2.2.length (pruD D (now + 60)) []
   have gl := (run_inv (now' := now + 60) (by omega) tW.e.d).2
   generalize runQ D (now + 60) = z at g1 g2 ga gl ⊢
   refine oK_lpf (Q := Yes) dlHd_inj ((now, w), (z.1, z.2.1), z.2.2.1) (by show z.2.2.1.2.length ≤ 10000; omega) rfl ?_
   dsimp only
   refine bK_tq (Q := Yes) (by show z.2.2.1.2.any (fun v => decide (v = w)) = true; rw [List.any_eq_true]; exact ⟨w, g1, decide_eq_true rfl⟩) ?_
   rw [w64 (n := now + 60) (by omega) (by omega)]
   refine oK_fsq (Q := Yes) hrefS (z.1, now + 60, w.1, w.2.2.1) (by show z.1.2.length ≤ 100000; omega) ?_
   rw [decide_eq_true (show w.2.2.2 ≤ rhQ z.1.2 (now + 60) w.1 w.2.2.1 from g2)]
   exact yes_leaf

end Go.Proofs.Ytkanmigbbpppnaa
