/- A part of the proof: contracts of functions. -/
import Derived.Test.YtkanmigbbpppnaaG3
import Derived.Test.YtkanmigbbpppnaaAbAny
set_option linter.unusedVariables false
set_option linter.unusedSimpArgs false
set_option maxRecDepth 100000
namespace Go.Proofs.Ytkanmigbbpppnaa
open Go Go.Ab
structure MInv (k : Nat) (D : Desk_T) (now : Int) : Prop where
  d : DInv now D.1.2 D.2.2
  n0 : 0 ≤ now
  n1 : now ≤ 39 * k
  len : D.1.2.length + D.2.2.length ≤ k
theorem MInv.mono {k k' : Nat} {D : Desk_T} {now : Int} (h : MInv k D now) (hk : k ≤ k') : MInv k' D now := ⟨h.d, h.n0, by have := h.n1; omega, Nat.le_trans h.len hk⟩
def mdGood (most : Int) (k : Nat) (r : Option (St ⊕ (Ex × St))) : Prop := ∃ y : Picks_T × Desk_T × Int, (pkOk y.1 ∧ MInv (k + 1) y.2.1 y.2.2) ∧ r = some (.inl (mdh y.1 y.2.1 y.2.2 ((k + 1 : Nat) : Int) most))
theorem md_step (b : Picks_T) (D : Desk_T) (now most : Int) (k : Nat) (hk : (k : Int) < most) (hm : most ≤ 30) (hp : pkOk b) (hov : ¬ (b.1.2.length : Int) ≤ b.2) (h : MInv k D now) : mdGood most k (md_s_r b D now k most) := by
  obtain ⟨hd, hn0, hn1, hlen⟩ := h
  unfold md_s_r
  refine bK_tq (decide_eq_true hk) ?_
  refine oK_msq overS b () trivial ?_
  refine bK_tq (by simpa using hov) ?_
  have e1 : IntKind.i64.wrap ((k : Int) + 1) = ((k + 1 : Nat) : Int) := by rw [w64 (by omega) (by omega)]; omega
  rw [e1]
  refine oK_msq numS b (3 : Int) hp ?_
  have p1 := numF_ok (m := 3) hp
  have r1 := numF_lt (m := 3) hp (by omega)
  dsimp only
  generalize numF b 3 = z1 at p1 r1 ⊢
  refine oK_msq numS z1.1 (3 : Int) p1 ?_
  have p2 := numF_ok (m := 3) p1
  have r2 := numF_lt (m := 3) p1 (by omega)
  dsimp only
  generalize numF z1.1 3 = z2 at p2 r2 ⊢
  refine oK_msq numS z2.1 (6 : Int) p2 ?_
  have p3 := numF_ok (m := 6) p2
  dsimp only
  generalize numF z2.1 6 = z3 at p3 ⊢
  rw [w64 (n := 1 + z1.2) (by omega) (by omega), w64 (n := 1 + z2.2) (by omega) (by omega)]
  have hl1 : D.1.2.length ≤ 400 := by omega
  have hl2 : D.2.2.length ≤ 50 := by omega
  refine bK_iq (fun _ => ?_) (fun _ => bK_iq (fun _ => ?_) (fun _ => ?_))
  · refine oK_fsq girefS (D.1, D.2, 1 + z1.2, 1 + z2.2) (Nat.le_trans hl1 (by decide)) ?_
    refine ⟨(z3.1, (((dropQ D.1.2 (1 + z1.2) (1 + z2.2)).isEmpty, dropQ D.1.2 (1 + z1.2) (1 + z2.2)), D.2), now), ⟨p3, ⟨⟨hd.a.drop _ _, hd.w, hd.l⟩, hn0, by show now ≤ 39 * ((k + 1 : Nat) : Int); omega, ?_⟩⟩, rfl⟩
    have := drop_len D.1.2 (1 + z1.2) (1 + z2.2)
    show (dropQ D.1.2 (1 + z1.2) (1 + z2.2)).length + D.2.2.length ≤ k + 1
    omega
  · refine oK_msq numS z3.1 (40 : Int) p3 ?_
    have p4 := numF_ok (m := 40) p3
    have r4 := numF_lt (m := 40) p3 (by omega)
    dsimp only
    generalize numF z3.1 40 = z4 at p4 r4 ⊢
    rw [w64 (n := now + z4.2) (by omega) (by omega)]
    refine oK_fsq rrunS (D.1, D.2, now + z4.2) ⟨⟨hl1, hl2⟩, by show 0 ≤ now + z4.2; omega, by show now + z4.2 ≤ 1000000; omega⟩ ?_
    obtain ⟨i1, i2⟩ := ruR_inv (now' := now + z4.2) (by omega) hd
    exact ⟨(z4.1, ((ruRQ D (now + z4.2)).1, (ruRQ D (now + z4.2)).2.1), now + z4.2), ⟨p4, ⟨i1, by show 0 ≤ now + z4.2; omega, by show now + z4.2 ≤ 39 * ((k + 1 : Nat) : Int); omega, Nat.le_trans i2 (by omega)⟩⟩, rfl⟩
  · refine oK_msq numS z3.1 (2 : Int) p3 ?_
    have p4 := numF_ok (m := 2) p3
    have r4 := numF_lt (m := 2) p3 (by omega)
    dsimp only
    generalize numF z3.1 2 = z4 at p4 r4 ⊢
    rw [w64 (n := 1 + z4.2) (by omega) (by omega)]
    generalize IntKind.i64.wrap (1 + (k : Int)) = q
    refine oK_fsq arefS (D.1, D.2, now, (1 + z1.2, q, 1 + z2.2, 1 + z4.2)) ⟨⟨Nat.le_trans hl1 (by decide), Nat.le_trans hl2 (by decide)⟩, by show 0 ≤ now; omega, by show now ≤ 1000000; omega⟩ ?_
    obtain ⟨i1, i2⟩ := asR_inv hn0 hd (w := (1 + z1.2, q, 1 + z2.2, 1 + z4.2)) ⟨⟨by show 1 ≤ 1 + z1.2; omega, by show 1 + z1.2 ≤ 3; omega⟩, ⟨by show 1 ≤ 1 + z2.2; omega, by show 1 + z2.2 ≤ 6; omega⟩, ⟨by show 1 ≤ 1 + z4.2; omega, by show 1 + z4.2 ≤ 2; omega⟩⟩
    exact ⟨(z4.1, ((asRQ D now (1 + z1.2, q, 1 + z2.2, 1 + z4.2)).1, (asRQ D now (1 + z1.2, q, 1 + z2.2, 1 + z4.2)).2.1), now), ⟨p4, ⟨i1, hn0, by show now ≤ 39 * ((k + 1 : Nat) : Int); omega, Nat.le_trans i2 (by omega)⟩⟩, rfl⟩
def mdEnd (b : Picks_T) (D : Desk_T) (now : Int) : St := { fr := [(4, .ptr 64 0 0 0), (6, .ptr 96 0 0 0), (7, .int .i64 now)], bs := [(64, boxB [.slc true [], .slc true []]), (96, boxB (Tu.mk Desk_tfs D)), (1000000, boxB (Tu.mk num_bs b))], df := [] }
theorem loopsMD : (loopsOf 0 (codeOf Try.prog 11)).map (·.1) = [0] := by kernel_rfl
theorem oneMD : OneLoops Try.prog 11 := by unfold OneLoops; rw [loopsMD]; decide
theorem atMD : At 0 (codeOf Try.prog 11) 0 (.loop (bodyAt Try.prog 11 0)) := at_body oneMD (by rw [loopsMD]; decide)
theorem md_run (most : Int) (hm : most ≤ 30) : ∀ (j k : Nat), (k : Int) + j = most → ∀ (b : Picks_T) (D : Desk_T) (now : Int), pkOk b → MInv k D now → ∀ (m : Nat), j < m → ∃ y : Picks_T × Desk_T × Int, (pkOk y.1 ∧ MInv (k + j) y.2.1 y.2.2) ∧ Runs' Try.prog cfg Md3 11 0 m (mdh b D now k most) (.exit 0, mdEnd y.1 y.2.1 y.2.2)
  | 0, k, hk, b, D, now, hb, hs, m + 1, hlt => by
    refine ⟨(b, D, now), ⟨hb, hs⟩, Runs'.done (lp := LP0) LPok.none atMD ((md_s_w b D now k most).trans ?_)⟩
    unfold md_s_r
    rw [bK_neg (by exact decide_eq_false (by omega))]
    rfl
  | j + 1, k, hk, b, D, now, hb, hs, m + 1, hlt => by
    by_cases hov : (b.1.2.length : Int) ≤ b.2
    · refine ⟨(b, D, now), ⟨hb, hs.mono (by omega)⟩, Runs'.done (lp := LP0) LPok.none atMD ((md_s_w b D now k most).trans ?_)⟩
      unfold md_s_r
      rw [bK_pos (by exact decide_eq_true (by omega))]
      refine oK_msq (Q := (· = _)) overS b () trivial ?_
      rw [bK_neg (by simpa using hov)]
      rfl
    · obtain ⟨y, ⟨h1, h2⟩, he⟩ := md_step b D now most k (by omega) hm hb hov hs
      obtain ⟨z, ⟨h3, h4⟩, hr⟩ := md_run most hm j (k + 1) (by omega) y.1 y.2.1 y.2.2 h1 h2 m (by omega)
      exact ⟨z, ⟨h3, h4.mono (by omega)⟩, Runs'.step (lp := LP0) LPok.none atMD ((md_s_w b D now k most).trans he) hr⟩
abbrev MdD : Type := Picks_T × Int
def mdH (d : MdD) : St := mdh d.1 ((true, []), (true, [])) 0 0 d.2
def mdPre (d : MdD) : Prop := pkOk d.1 ∧ 0 ≤ d.2 ∧ d.2 ≤ 25
theorem md_ex (d : MdD) (h : mdPre d) : ∃ y : Picks_T × Desk_T × Int, (pkOk y.1 ∧ MInv 25 y.2.1 y.2.2) ∧ Runs' Try.prog cfg Md3 11 0 rounds (mdH d) (.exit 0, mdEnd y.1 y.2.1 y.2.2) := by
  obtain ⟨h1, h2, h3⟩ := h
  have h0 : MInv 0 ((true, []), (true, [])) 0 := ⟨⟨⟨LInv.nil, fun _ h => (by cases h), fun _ h => (by cases h)⟩, fun _ h => (by cases h), Nat.zero_le _⟩, Int.le_refl _, by omega, Nat.le_refl _⟩
  obtain ⟨y, ⟨h4, h5⟩, h6⟩ := md_run d.2 (by omega) d.2.toNat 0 (by omega) d.1 ((true, []), (true, [])) 0 h1 h0 rounds (by simp only [rounds]; omega)
  exact ⟨y, ⟨h4, h5.mono (by omega)⟩, h6⟩
abbrev MdR : Type := Picks_T × (Bool × List Lease_T) × (Bool × List Wait_T) × Int
noncomputable def mdR (d : MdD) : MdR := open Classical in if h : mdPre d then ((Classical.choose (md_ex d h)).1, (Classical.choose (md_ex d h)).2.1.1, (Classical.choose (md_ex d h)).2.1.2, (Classical.choose (md_ex d h)).2.2) else (d.1, (true, []), (true, []), 0)
theorem mdR_spec (d : MdD) (h : mdPre d) : (pkOk (mdR d).1 ∧ MInv 25 ((mdR d).2.1, (mdR d).2.2.1) (mdR d).2.2.2) ∧ Runs' Try.prog cfg Md3 11 0 rounds (mdH d) (.exit 0, mdEnd (mdR d).1 ((mdR d).2.1, (mdR d).2.2.1) (mdR d).2.2.2) := by
  unfold mdR
  rw [dif_pos h]
  exact Classical.choose_spec (md_ex d h)
noncomputable def mdL : LP := LP.of (D := MdD) mdH mdPre fun d => .leaf (.exit 0, mdEnd (mdR d).1 ((mdR d).2.1, (mdR d).2.2.1) (mdR d).2.2.2)
noncomputable def mdP : LPs := LPs.add LP0 11 0 mdL
theorem mdP_ok : LPok Try.prog cfg Md3 mdP 11 := LPok.addH LPok.none oneMD fun d h => (mdR_spec d h).2
theorem mdH_inj (d d' : MdD) (h : mdH d = mdH d') : d = d' := by
  obtain ⟨b, m⟩ := d
  obtain ⟨b', m'⟩ := d'
  simp only [mdH, mdh, boxB, St.mk.injEq, List.cons.injEq, Prod.mk.injEq, AV.int.injEq, Blk.mk.injEq, and_true, true_and] at h
  rw [h.1, mk_inj (fs := num_bs) rfl h.2]
abbrev mdsk_sh : Shp := [none]
abbrev mdsk_fs : List Lf := [.fi .i64]
abbrev mdsk_bs : List Lf := [.fl false [.fi .u8], .fi .i64]
abbrev mdsk_rsh : Shp := [some 2, none]
abbrev mdsk_rfs : List Lf := [.fl true Lease_tfs, .fl true Wait_tfs, .fi .i64]
noncomputable def mdsk_r (p_l_x : Bool) (p_l : List Int) (p_n : Int) (most : Int) : Option Ret :=
  oK (mdL.dec (sf [(0, pt 1000000), (1, i6 most), (4, pt 64), (6, pt 96), (7, i6 0), (8, i6 0)] [(64, (bx [.slc true [], .slc true []])), (96, (bx [.slc true [], .slc true []])), (1000000, (bx [.slc p_l_x (List.map (mkV false [Lf.fi .u8]) p_l), i6 p_n]))])) fun (d0 : ((Bool × List Int) × Int) × Int) => some { pan := false, res := .tup [AV.agg [.slc (mdR d0).2.1.1 (mW (mdR d0).2.1.2), .slc (mdR d0).2.2.1.1 (mW (mdR d0).2.2.1.2)], i6 (mdR d0).2.2.2], out := [(bx [.slc (mdR d0).1.1.1 (List.map (mkV false [Lf.fi .u8]) (mdR d0).1.1.2), i6 (mdR d0).1.2])], new := [] }
theorem mdsk_w (p_l_x : Bool) (p_l : List Int) (p_n : Int) (most : Int) : unitQ Try.prog cfg Md3 mdP false 11 (.ptr outBase 0 0 0 :: groupA mdsk_sh (Tu.mk mdsk_fs most)) [boxB (Tu.mk mdsk_bs ((p_l_x, p_l), p_n))] = mdsk_r p_l_x p_l p_n most := by kernel_rfl
noncomputable def mdskS : MS := ⟨mdsk_bs, mdsk_sh, mdsk_fs, mdsk_rsh, mdsk_rfs, fun b most => pkOk b ∧ 0 ≤ (most : Int) ∧ (most : Int) ≤ 25, fun b most => mdR (b, most), none⟩
theorem mdsk_v (p_l_x : Bool) (p_l : List Int) (p_n : Int) (most : Int) (h : mdskS.pre ((p_l_x, p_l), p_n) most) : mdsk_r p_l_x p_l p_n most = some (mdskS.ret ((p_l_x, p_l), p_n) most) := by
  unfold mdsk_r
  exact oK_lpq (Q := (· = _)) mdH_inj (((p_l_x, p_l), p_n), most) h rfl
theorem mdsk_ok : ∀ (b : Tu mdsk_bs) (d : Tu mdsk_fs), mdskS.pre b d → unitQ Try.prog cfg Md3 mdP false 11 (mdskS.args d) (mdskS.out0 b) = some (mdskS.ret b d)
  | ((p_l_x, p_l), p_n), most, h => (mdsk_w p_l_x p_l p_n most).trans (mdsk_v p_l_x p_l p_n most h)
noncomputable def Md4 : PKs := Md3.add 11 mdskS.pk
theorem Md4_ok : PKsOk Try.prog Md4 := PKsOk.ms (cfg := cfg) Md3_ok (fnOk Md3_ok 21) 11 rfl mdP mdP_ok.loops mdskS mdsk_ok
end Go.Proofs.Ytkanmigbbpppnaa
