/- A part of the proof: contracts of functions. -/
import Derived.Test.YtkanmigbbpppnaaG4
import Derived.Test.YtkanmigbbpppnaaAbAny

set_option linter.unusedVariables false
set_option linter.unusedSimpArgs false
set_option maxRecDepth 100000
namespace Go.Proofs.Ytkanmigbbpppnaa
open Go Go.Ab
structure NInv (k : Nat) (D : Desk_T) (now : Int) : Prop where
 d : EInv 3 now D.1.2 D.2.2
 n0 : 0 ≤ now
 n1 : now ≤ 39 * k
 len : D.1.2.length + D.2.2.length ≤ k
theorem NInv.mono {k k' : Nat} {D : Desk_T} {now : Int} (h : NInv k D now) (hk : k ≤ k') : NInv k' D now := ⟨h.d, h.n0, by have := h.n1; omega, Nat.le_trans h.len hk⟩
def ndGood (most : Int) (k : Nat) (r : Option (St ⊕ (Ex × St))) : Prop := ∃ y : Picks_T × Desk_T × Int, (pkOk y.1 ∧ NInv (k + 1) y.2.1 y.2.2) ∧ r = some (.inl (mdh y.1 y.2.1 y.2.2 ((k + 1 : Nat) : Int) most))
theorem nd_step (b : Picks_T) (D : Desk_T) (now most : Int) (k : Nat) (hk : (k : Int) < most) (hm : most ≤ 30) (hp : pkOk b) (hov : ¬ (b.1.2.length : Int) ≤ b.2) (h : NInv k D now) : ndGood most k (md_s_r b D now k most) := by
 obtain ⟨hd, hn0, hn1, hlen⟩ := h
 unfold md_s_r
 refine bK_tq (Q := ndGood most k) (decide_eq_true hk) ?_
 refine oK_msq (Q := ndGood most k) overS b () trivial ?_
 refine bK_tq (Q := ndGood most k) (by simpa using hov) ?_
 have e1 : IntKind.i64.wrap ((k : Int) + 1) = ((k + 1 : Nat) : Int) := by rw [w64 (by omega) (by omega)]; omega
 rw [e1]
 refine oK_msq (Q := ndGood most k) numS b (3 : Int) hp ?_
 have p1 := numF_ok (m := 3) hp
 have r1 := numF_lt (m := 3) hp (by omega)
 dsimp only
 generalize numF b 3 = z1 at p1 r1 ⊢
 refine oK_msq (Q := ndGood most k) numS z1.1 (3 : Int) p1 ?_
 have p2 := numF_ok (m := 3) p1
 have r2 := numF_lt (m := 3) p1 (by omega)
 dsimp only
 generalize numF z1.1 3 = z2 at p2 r2 ⊢
 refine oK_msq (Q := ndGood most k) numS z2.1 (6 : Int) p2 ?_
 have p3 := numF_ok (m := 6) p2
 dsimp only
 generalize numF z2.1 6 = z3 at p3 ⊢
 rw [w64 (n := 1 + z1.2) (by omega) (by omega), w64 (n := 1 + z2.2) (by omega) (by omega)]
 have hl1 : D.1.2.length ≤ 400 := by omega
 have hl2 : D.2.2.length ≤ 50 := by omega
 refine bK_iq (Q := ndGood most k) (fun _ => ?_) (fun _ => bK_iq (Q := ndGood most k) (fun _ => ?_) (fun _ => ?_))
 ·refine oK_fsq (Q := ndGood most k) girefS (D.1, D.2, 1 + z1.2, 1 + z2.2) (Nat.le_trans hl1 (by decide)) ?_
  refine ⟨(z3.1, (((dropQ D.1.2 (1 + z1.2) (1 + z2.2)).isEmpty, dropQ D.1.2 (1 + z1.2) (1 + z2.2)), D.2), now), ⟨p3, ⟨hd.drop _ _, hn0, by show now ≤ 39 * ((k + 1 : Nat) : Int); omega, ?_⟩⟩, rfl⟩
  have := drop_len D.1.2 (1 + z1.2) (1 + z2.2)
  show (dropQ D.1.2 (1 + z1.2) (1 + z2.2)).length + D.2.2.length ≤ k + 1
  omega
 ·refine oK_msq (Q := ndGood most k) numS z3.1 (40 : Int) p3 ?_
  have p4 := numF_ok (m := 40) p3
  have r4 := numF_lt (m := 40) p3 (by omega)
  dsimp only
  generalize numF z3.1 40 = z4 at p4 r4 ⊢
  rw [w64 (n := now + z4.2) (by omega) (by omega)]
  refine oK_fsq (Q := ndGood most k) rrunS (D.1, D.2, now + z4.2) ⟨⟨hl1, hl2⟩, by show 0 ≤ now + z4.2; omega, by show now + z4.2 ≤ 1000000; omega⟩ ?_
  obtain ⟨_, i2⟩ := ruR_inv (now' := now + z4.2) (by omega) hd.d
  have i1 : EInv 3 (now + z4.2) (ruRQ D (now + z4.2)).1.2 (ruRQ D (now + z4.2)).2.1.2 := by
   have q := run_eq (now' := now + z4.2) (by omega) (by omega) hd
   rw [q.1, q.2.1]
   exact run_E (by omega) (by omega) hd
  exact ⟨(z4.1, ((ruRQ D (now + z4.2)).1, (ruRQ D (now + z4.2)).2.1), now + z4.2), ⟨p4, ⟨i1, by show 0 ≤ now + z4.2; omega, by show now + z4.2 ≤ 39 * ((k + 1 : Nat) : Int); omega, Nat.le_trans i2 (by omega)⟩⟩, rfl⟩
 ·refine oK_msq (Q := ndGood most k) numS z3.1 (2 : Int) p3 ?_
  have p4 := numF_ok (m := 2) p3
  have r4 := numF_lt (m := 2) p3 (by omega)
  dsimp only
  generalize numF z3.1 2 = z4 at p4 r4 ⊢
  rw [w64 (n := 1 + z4.2) (by omega) (by omega)]
  generalize IntKind.i64.wrap (1 + (k : Int)) = q
  refine oK_fsq (Q := ndGood most k) arefS (D.1, D.2, now, (1 + z1.2, q, 1 + z2.2, 1 + z4.2)) ⟨⟨Nat.le_trans hl1 (by decide), Nat.le_trans hl2 (by decide)⟩, by show 0 ≤ now; omega, by show now ≤ 1000000; omega⟩ ?_
  have hwk : wOk (1 + z1.2, q, 1 + z2.2, 1 + z4.2) := ⟨⟨by show 1 ≤ 1 + z1.2; omega, by show 1 + z1.2 ≤ 3; omega⟩, ⟨by show 1 ≤ 1 + z2.2; omega, by show 1 + z2.2 ≤ 6; omega⟩, ⟨by show 1 ≤ 1 + z4.2; omega, by show 1 + z4.2 ≤ 2; omega⟩⟩
  obtain ⟨_, i2⟩ := asR_inv hn0 hd.d hwk
  have i1 : EInv 3 now (asRQ D now (1 + z1.2, q, 1 + z2.2, 1 + z4.2)).1.2 (asRQ D now (1 + z1.2, q, 1 + z2.2, 1 + z4.2)).2.1.2 := by
   have q := ask_eq hn0 hd hwk
   rw [q.1, q.2.1]
   exact ask_E hn0 hd hwk (by show 1 + z2.2 ≤ 3; omega)
  exact ⟨(z4.1, ((asRQ D now (1 + z1.2, q, 1 + z2.2, 1 + z4.2)).1, (asRQ D now (1 + z1.2, q, 1 + z2.2, 1 + z4.2)).2.1), now), ⟨p4, ⟨i1, hn0, by show now ≤ 39 * ((k + 1 : Nat) : Int); omega, Nat.le_trans i2 (by omega)⟩⟩, rfl⟩
def ndEnd (b : Picks_T) (D : Desk_T) (now : Int) : St := { fr := [(4, .ptr 64 0 0 0), (6, .ptr 96 0 0 0), (7, .int .i64 now)], bs := [(64, boxB [.slc true [], .slc true []]), (96, boxB (Tu.mk Desk_tfs D)), (1000000, boxB (Tu.mk num_bs b))], df := [] }
theorem loopsND : (loopsOf 0 (codeOf Try.prog 11)).map (·.1) = [0] := by kernel_rfl
theorem oneND : OneLoops Try.prog 11 := by unfold OneLoops; rw [loopsND]; decide
theorem atND : At 0 (codeOf Try.prog 11) 0 (.loop (bodyAt Try.prog 11 0)) := at_body oneND (by rw [loopsND]; decide)
theorem nd_run (most : Int) (hm : most ≤ 30) : ∀ (j k : Nat), (k : Int) + j = most → ∀ (b : Picks_T) (D : Desk_T) (now : Int), pkOk b → NInv k D now → ∀ (m : Nat), j < m → ∃ y : Picks_T × Desk_T × Int, (pkOk y.1 ∧ NInv (k + j) y.2.1 y.2.2) ∧ Runs' Try.prog cfg Md3 11 0 m (mdh b D now k most) (.exit 0, ndEnd y.1 y.2.1 y.2.2)
 | 0, k, hk, b, D, now, hb, hs, m + 1, hlt => by
  refine ⟨(b, D, now), ⟨hb, hs⟩, Runs'.done (lp := LP0) LPok.none atND ((md_s_w b D now k most).trans ?_)⟩
  unfold md_s_r
  rw [bK_neg (by exact decide_eq_false (by omega))]
  rfl
 | j + 1, k, hk, b, D, now, hb, hs, m + 1, hlt => by
  by_cases hov : (b.1.2.length : Int) ≤ b.2
  ·refine ⟨(b, D, now), ⟨hb, hs.mono (by omega)⟩, Runs'.done (lp := LP0) LPok.none atND ((md_s_w b D now k most).trans ?_)⟩
   unfold md_s_r
   rw [bK_pos (by exact decide_eq_true (by omega))]
   refine oK_msq (Q := (· = _)) overS b () trivial ?_
   rw [bK_neg (by simpa using hov)]
   rfl
  ·obtain ⟨y, ⟨h1, h2⟩, he⟩ := nd_step b D now most k (by omega) hm hb hov hs
   obtain ⟨z, ⟨h3, h4⟩, hr⟩ := nd_run most hm j (k + 1) (by omega) y.1 y.2.1 y.2.2 h1 h2 m (by omega)
   exact ⟨z, ⟨h3, h4.mono (by omega)⟩, Runs'.step (lp := LP0) LPok.none atND ((md_s_w b D now k most).trans he) hr⟩
abbrev NdD : Type := Picks_T × Int
def ndH (d : NdD) : St := mdh d.1 ((true, []), (true, [])) 0 0 d.2
def ndPre (d : NdD) : Prop := pkOk d.1 ∧ 0 ≤ d.2 ∧ d.2 ≤ 25
theorem nd_ex (d : NdD) (h : ndPre d) : ∃ y : Picks_T × Desk_T × Int, (pkOk y.1 ∧ NInv 25 y.2.1 y.2.2) ∧ Runs' Try.prog cfg Md3 11 0 rounds (ndH d) (.exit 0, ndEnd y.1 y.2.1 y.2.2) := by
 obtain ⟨h1, h2, h3⟩ := h
 have h0 : NInv 0 ((true, []), (true, [])) 0 := ⟨⟨⟨⟨LInv.nil, fun _ h => (by cases h), fun _ h => (by cases h)⟩, fun _ h => (by cases h), Nat.zero_le _⟩, ⟨Nat.zero_le _, List.nodup_nil⟩, fun _ h => (by cases h), fun _ h => (by cases h), fun _ h => (by cases h)⟩, Int.le_refl _, by omega, Nat.le_refl _⟩
 obtain ⟨y, ⟨h4, h5⟩, h6⟩ := nd_run d.2 (by omega) d.2.toNat 0 (by omega) d.1 ((true, []), (true, [])) 0 h1 h0 rounds (by simp only [rounds]; omega)
 exact ⟨y, ⟨h4, h5.mono (by omega)⟩, h6⟩
abbrev NdR : Type := Picks_T × (Bool × List Lease_T) × (Bool × List Wait_T) × Int
noncomputable def ndR (d : NdD) : NdR := open Classical in if h : ndPre d then ((Classical.choose (nd_ex d h)).1, (Classical.choose (nd_ex d h)).2.1.1, (Classical.choose (nd_ex d h)).2.1.2, (Classical.choose (nd_ex d h)).2.2) else (d.1, (true, []), (true, []), 0)
theorem ndR_spec (d : NdD) (h : ndPre d) : (pkOk (ndR d).1 ∧ NInv 25 ((ndR d).2.1, (ndR d).2.2.1) (ndR d).2.2.2) ∧ Runs' Try.prog cfg Md3 11 0 rounds (ndH d) (.exit 0, ndEnd (ndR d).1 ((ndR d).2.1, (ndR d).2.2.1) (ndR d).2.2.2) := by
 unfold ndR
 rw [dif_pos h]
 exact Classical.choose_spec (nd_ex d h)
noncomputable def ndL : LP := LP.of (D := NdD) ndH ndPre fun d => .leaf (.exit 0, ndEnd (ndR d).1 ((ndR d).2.1, (ndR d).2.2.1) (ndR d).2.2.2)
noncomputable def ndP : LPs := LPs.add LP0 11 0 ndL
theorem ndP_ok : LPok Try.prog cfg Md3 ndP 11 := LPok.addH LPok.none oneND fun d h => (ndR_spec d h).2
theorem ndH_inj (d d' : NdD) (h : ndH d = ndH d') : d = d' := by
 obtain ⟨b, m⟩ := d
 obtain ⟨b', m'⟩ := d'
 simp only [ndH, mdh, boxB, St.mk.injEq, List.cons.injEq, Prod.mk.injEq, AV.int.injEq, Blk.mk.injEq, and_true, true_and] at h
 rw [h.1, mk_inj (fs := num_bs) rfl h.2]
abbrev ndsk_id : Nat := 11
abbrev ndsk_sh : Shp := [none]
abbrev ndsk_fs : List Lf := [.fi .i64]
abbrev ndsk_bs : List Lf := [.fl false [.fi .u8], .fi .i64]
abbrev ndsk_rsh : Shp := [some 2, none]
abbrev ndsk_rfs : List Lf := [.fl true Lease_tfs, .fl true Wait_tfs, .fi .i64]
noncomputable def ndsk_r (p_l_x : Bool) (p_l : List Int) (p_n : Int) (most : Int) : Option Ret :=
 oK (ndL.dec (sf [(0, pt 1000000), (1, i6 most), (4, pt 64), (6, pt 96), (7, i6 0), (8, i6 0)] [(64, (bx [.slc true [], .slc true []])), (96, (bx [.slc true [], .slc true []])), (1000000, (bx [.slc p_l_x (List.map (mkV false [Lf.fi .u8]) p_l), i6 p_n]))])) fun (d0 : ((Bool × List Int) × Int) × Int) => some { pan := false, res := .tup [AV.agg [.slc (ndR d0).2.1.1 (mW (ndR d0).2.1.2), .slc (ndR d0).2.2.1.1 (mW (ndR d0).2.2.1.2)], i6 (ndR d0).2.2.2], out := [(bx [.slc (ndR d0).1.1.1 (List.map (mkV false [Lf.fi .u8]) (ndR d0).1.1.2), i6 (ndR d0).1.2])], new := [] }
theorem ndsk_w (p_l_x : Bool) (p_l : List Int) (p_n : Int) (most : Int) : unitQ Try.prog cfg Md3 ndP false 11 (.ptr outBase 0 0 0 :: groupA ndsk_sh (Tu.mk ndsk_fs most)) [boxB (Tu.mk ndsk_bs ((p_l_x, p_l), p_n))] = ndsk_r p_l_x p_l p_n most := by kernel_rfl

noncomputable def ndskS : MS := ⟨ndsk_bs, ndsk_sh, ndsk_fs, ndsk_rsh, ndsk_rfs, fun b most => pkOk b ∧ 0 ≤ (most : Int) ∧ (most : Int) ≤ 25, fun b most => ndR (b, most), none⟩
theorem ndsk_v (p_l_x : Bool) (p_l : List Int) (p_n : Int) (most : Int) (h : ndskS.pre ((p_l_x, p_l), p_n) most) : ndsk_r p_l_x p_l p_n most = some (ndskS.ret ((p_l_x, p_l), p_n) most) := by
 unfold ndsk_r
 exact oK_lpq (Q := (· = _)) ndH_inj (((p_l_x, p_l), p_n), most) h rfl
theorem ndsk_ok : ∀ (b : Tu ndsk_bs) (d : Tu ndsk_fs), ndskS.pre b d → unitQ Try.prog cfg Md3 ndP false 11 (ndskS.args d) (ndskS.out0 b) = some (ndskS.ret b d)
 | ((p_l_x, p_l), p_n), most, h => (ndsk_w p_l_x p_l p_n most).trans (ndsk_v p_l_x p_l p_n most h)
noncomputable def Nd4 : PKs := Md3.add 11 ndskS.pk
theorem Nd4_ok : PKsOk Try.prog Nd4 := PKsOk.ms (cfg := cfg) Md3_ok (fnOk Md3_ok 21) 11 rfl ndP ndP_ok.loops ndskS ndsk_ok

end Go.Proofs.Ytkanmigbbpppnaa
