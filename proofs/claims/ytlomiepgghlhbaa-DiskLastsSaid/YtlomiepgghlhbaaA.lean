/- A part of the proof: contracts of functions. -/
import Derived.Test.YtlomiepgghlhbaaZ
import Derived.Test.YtlomiepgghlhbaaAbAny

set_option linter.unusedVariables false
set_option linter.unusedSimpArgs false
set_option maxRecDepth 100000
namespace Go.Proofs.Ytlomiepgghlhbaa
open Go Go.Ab
set_option maxHeartbeats 8000000
def dl4E (Lx : List (List UInt8)) : Ex × St := (.exit 4, { fr := [(11, .ptr 176 0 0 0)], bs := [(176, dskB false Lx true [])], df := [] })
abbrev Dl4D : Type := (Bool × List Row2) × List (List UInt8) × List (List UInt8)
def dl4H (d : Dl4D) : St := dl4 d.1.1 d.1.2 d.2.1 d.2.2 0
/-- Each byte of each sector is one of the two. -/
def dl4Pre (d : Dl4D) : Prop := d.1.2.length ≤ 10 ∧ (∀ r ∈ d.1.2, (0 : Int) ≤ r.1) ∧ (d.2.1.length = 5 ∧ ∀ s ∈ d.2.1, s.length = 32) ∧ (d.2.2.length = 5 ∧ ∀ s ∈ d.2.2, s.length = 32) ∧ ∀ (i k : Nat), i < 5 → k < 32 → (d.2.2.getD i []).getD k 0 = (d.2.1.getD i []).getD k 0 ∨ anyM d.1.2 i (d.2.2.getD i []) k = true
noncomputable def dl4L : LP := LP.of dl4H dl4Pre fun d => .leaf (dl4E d.2.2)
noncomputable def dl4P : LPs := LPs.add dl6P 4 4 dl4L
theorem rea_5 (L : List (List UInt8)) (i : Nat) (h : i < L.length) : reaQ L [] false (i : Int) = (L.getD i [], true) := by
  rw [rea_cur L [] i i rfl h]; rfl
theorem getD_mem {L : List (List UInt8)} {i : Nat} (h : i < L.length) : L.getD i [] ∈ L := by
  rw [List.getD, List.getElem?_eq_getElem h]; exact List.getElem_mem h
theorem dl4_step (mx : Bool) (m : List Row2) (La Lx : List (List UInt8)) (i : Nat) (hi : i < 5) (h : dl4Pre ((mx, m), La, Lx)) : dl4_s_r mx m La Lx i = some (.inl (dl4 mx m La Lx ((i : Int) + 1))) := by
  obtain ⟨h1, h2, ⟨h3, h4⟩, ⟨h5, h6⟩, h7⟩ := h
  have h3 : La.length = 5 := h3
  have h5 : Lx.length = 5 := h5
  have ia : i < La.length := by omega
  have ix : i < Lx.length := by omega
  have sa : (La.getD i []).length = 32 := h4 _ (getD_mem ia)
  have sx : (Lx.getD i []).length = 32 := h6 _ (getD_mem ix)
  have qa := rea_5 La i ia
  have qx := rea_5 Lx i ix
  have h7 : ∀ (k : Nat), k < 32 → (Lx.getD i []).getD k 0 = (La.getD i []).getD k 0 ∨ anyM m i (Lx.getD i []) k = true := fun k hk => h7 i k hi hk
  generalize La.getD i [] = t at sa qa h7
  generalize Lx.getD i [] = s at sx qx h7
  unfold dl4_s_r
  refine bK_tq (Q := fun z => z = _) (decide_eq_true (by omega)) ?_
  refine oK_fsq (Q := fun z => z = _) reaS ((false, Lx), (true, []), 0, false, (i : Int)) ⟨by show Lx.length ≤ 1000; omega, by show 0 ≤ 1000; decide⟩ ?_
  refine oK_fsq (Q := fun z => z = _) reaS ((false, La), (true, []), 0, false, (i : Int)) ⟨by show La.length ≤ 1000; omega, by show 0 ≤ 1000; decide⟩ ?_
  simp only [qx, qa]
  refine bK_fq (Q := fun z => z = _) rfl (bK_fq (Q := fun z => z = _) rfl (bK_fq (Q := fun z => z = _) (by rw [sx]; rfl) (bK_fq (Q := fun z => z = _) (by rw [sa]; rfl) ?_)))
  refine oK_lpf (Q := fun z => z = _) dl6H_inj ((mx, m), La, Lx, (i : Int), s, t) ⟨h1, h2, sx, sa, h7⟩ rfl ?_
  show some (Sum.inl (St.mk [_, _, _, (12, .int .i64 (IntKind.i64.wrap ((i : Int) + 1)))] _ _)) = _
  rw [w64 (n := (i : Int) + 1) (by omega) (by omega)]
  rfl
theorem dl4_run (mx : Bool) (m : List Row2) (La Lx : List (List UInt8)) (h : dl4Pre ((mx, m), La, Lx)) : ∀ (j i : Nat), i + j = 5 → ∀ (fu : Nat), j < fu → Runs' Try.prog cfg B7 4 4 fu (dl4 mx m La Lx i) (dl4E Lx)
  | 0, i, hi, fu + 1, hf => by
    refine Runs'.done (lp := dl6P) dl6P_ok dla4 ((dl4_s_w mx m La Lx i).trans ?_)
    unfold dl4_s_r
    rw [bK_neg (decide_eq_false (by omega))]
    rfl
  | j + 1, i, hi, fu + 1, hf => Runs'.step (lp := dl6P) dl6P_ok dla4 ((dl4_s_w mx m La Lx i).trans (dl4_step mx m La Lx i (by omega) h)) (dl4_run mx m La Lx h j (i + 1) (by omega) fu (by omega))
theorem dl4P_ok : LPok Try.prog cfg B7 dl4P 4 := LPok.addH dl6P_ok dlo (by
  rintro ⟨⟨mx, m⟩, La, Lx⟩ h
  exact dl4_run mx m La Lx h 5 0 (by omega) rounds (by simp only [rounds]; omega))
theorem dl4H_inj (d d' : Dl4D) (h : dl4H d = dl4H d') : d = d' := by
  obtain ⟨⟨mx, m⟩, La, Lx⟩ := d
  obtain ⟨⟨mx', m'⟩, La', Lx'⟩ := d'
  simp only [dl4H, dl4, dskB, boxB, St.mk.injEq, List.cons.injEq, Prod.mk.injEq, AV.slc.injEq, Blk.mk.injEq, and_true, true_and] at h
  obtain ⟨⟨h1, h2⟩, h8, h9⟩ := h
  rw [h1, map_inj (fs := Row2_fs) rfl h2, map_inj (agg := false) (fs := [.fs]) rfl h8, map_inj (agg := false) (fs := [.fs]) rfl h9]
theorem mixF_byte (b d : List UInt8) (n : Int) (k : Nat) : (mixF b d n).getD k 0 = d.getD k 0 ∨ (mixF b d n).getD k 0 = b.getD k 0 := by
  have hm := @mm n b.length d.length
  unfold mixF
  generalize (maxI (minI (minI n (b.length : Int)) (d.length : Int)) 0) = N at hm ⊢
  obtain ⟨_, m2, m3⟩ := hm
  simp only [List.getD]
  by_cases hk : k < N.toNat
  · right
    rw [List.getElem?_append_left (by simp; omega), List.getElem?_take, if_pos hk]
  · left
    have e : (List.take N.toNat b).length = N.toNat := by simp; omega
    rw [List.getElem?_append_right (by omega), e, List.getElem?_drop]
    congr 2
    omega
theorem lastF_byte (L : List (List UInt8)) (p : Put_T) (n : Int) (i k : Nat) (hi : i < L.length) : ((lastF L p n).getD i []).getD k 0 = (L.getD i []).getD k 0 ∨ (p.1 = (i : Int) ∧ p.2.getD k 0 = ((lastF L p n).getD i []).getD k 0) := by
  unfold lastF
  split
  · rename_i hc
    by_cases h : p.1.toNat = i
    · have e : (L.set p.1.toNat (mixF p.2 (L.getD p.1.toNat []) n)).getD i [] = mixF p.2 (L.getD i []) n := by
        rw [h]; simp [List.getD, hi]
      rw [e]
      rcases mixF_byte p.2 (L.getD i []) n k with h1 | h1
      · exact .inl h1
      · exact .inr ⟨by omega, h1.symm⟩
    · left
      simp only [List.getD]
      rw [List.getElem?_set_ne h]
  · exact .inl rfl
theorem crash_byte (keep : List Int) (i k : Nat) : ∀ (W : List Put_T) (j : Nat) (L : List (List UInt8)), i < L.length → ((crashF keep W j L).getD i []).getD k 0 = (L.getD i []).getD k 0 ∨ ∃ p ∈ W, p.1 = (i : Int) ∧ p.2.getD k 0 = ((crashF keep W j L).getD i []).getD k 0
  | [], _, L, _ => .inl rfl
  | p :: W, j, L, hi => by
    show ((crashF keep W (j + 1) (if j < keep.length then lastF L p (minI (keep.getD j 0) 32) else L)).getD i []).getD k 0 = _ ∨ ∃ q ∈ p :: W, q.1 = (i : Int) ∧ q.2.getD k 0 = ((crashF keep W (j + 1) (if j < keep.length then lastF L p (minI (keep.getD j 0) 32) else L)).getD i []).getD k 0
    have hl : i < (if j < keep.length then lastF L p (minI (keep.getD j 0) 32) else L).length := by
      split
      · rw [lastF_len]; exact hi
      · exact hi
    rcases crash_byte keep i k W (j + 1) _ hl with h | ⟨q, hq, h1, h2⟩
    · rw [h]
      split
      · rcases lastF_byte L p (minI (keep.getD j 0) 32) i k hi with h3 | ⟨h3, h4⟩
        · exact .inl h3
        · exact .inr ⟨p, by simp, h3, h4⟩
      · exact .inl rfl
    · exact .inr ⟨q, by simp [hq], h1, h2⟩
theorem crash_any (keep : List Int) (m : List Row2) (L : List (List UInt8)) (i k : Nat) (hi : i < L.length) : ((crashF keep (wM m) 0 L).getD i []).getD k 0 = (L.getD i []).getD k 0 ∨ anyM m i ((crashF keep (wM m) 0 L).getD i []) k = true := by
  rcases crash_byte keep i k (wM m) 0 L hi with h | ⟨p, hp, h1, h2⟩
  · exact .inl h
  · right
    obtain ⟨r, hr, rfl⟩ := List.mem_map.1 hp
    refine List.any_eq_true.2 ⟨r, hr, ?_⟩
    rw [Int.toNat_natCast, decide_eq_true h1, decide_eq_true h2]; rfl
theorem crashF_32 (keep : List Int) : ∀ (W : List Put_T) (j : Nat) (L : List (List UInt8)), (∀ s ∈ L, s.length = 32) → ∀ s ∈ crashF keep W j L, s.length = 32
  | [], _, _, h => h
  | p :: W, j, L, h => by
    refine crashF_32 keep W (j + 1) _ ?_
    split
    · exact lastF_32 p _ h
    · exact h
theorem wM_32 (m : List Row2) : ∀ p ∈ wM m, p.2.length = 32 := fun p hp => by
  obtain ⟨r, _, rfl⟩ := List.mem_map.1 hp
  exact secQ_len _
theorem newL_32 (n : Nat) : ∀ s ∈ newL n, s.length = 32 := fun s hs => by rw [List.eq_of_mem_replicate hs]; rfl
abbrev diskLasts_id : Nat := 4
abbrev diskLasts_sh : Shp := [none, none, none]
abbrev diskLasts_fs : List Lf := [.fl true [.fi .u8, .fi .u8], .fl true [.fi .u8, .fi .u8], .fl false [.fi .i64]]
abbrev diskLasts_rsh : Shp := [none]
abbrev diskLasts_rfs : List Lf := [.fb]
noncomputable def diskLasts_r (l_x : Bool) (l : List (Int × Int)) (m_x : Bool) (m : List (Int × Int)) (keep_x : Bool) (keep : List Int) : Option Ret :=
  oK (begunS.dec [] []) fun (d0 : PUnit) =>
  bK (decide (20 < (↑(List.map (mkV true [Lf.fi IntKind.u8, Lf.fi IntKind.u8]) l).length : Int))) (some { pan := false, res := AV.bool true, out := [], new := [] })
    (bK (decide (10 < (↑(List.map (mkV true [Lf.fi IntKind.u8, Lf.fi IntKind.u8]) m).length : Int))) (some { pan := false, res := AV.bool true, out := [], new := [] })
      (bK (decide (10 < (↑(List.map (mkV false [Lf.fi IntKind.i64]) keep).length : Int))) (some { pan := false, res := AV.bool true, out := [], new := [] })
        (oK (newS.dec [AV.int IntKind.i64 5] []) fun (d1 : Int) =>
          oK (dl0L.dec { fr := [(0, AV.slc l_x (List.map (mkV true [Lf.fi IntKind.u8, Lf.fi IntKind.u8]) l)), (1, AV.slc m_x (List.map (mkV true [Lf.fi IntKind.u8, Lf.fi IntKind.u8]) m)), (2, AV.slc keep_x (List.map (mkV false [Lf.fi IntKind.i64]) keep)), (7, AV.ptr 112 0 0 0), (8, AV.int IntKind.i64 0)], bs := [(112, { v := 0, k := BK.box, fz := false, sz := 0, es := [AV.slc (newQ d1).fst.fst (List.map (mkV false [Lf.fs]) (newQ d1).fst.snd), AV.slc (newQ d1).snd.fst.fst (List.map (mkV true Put_tfs) (newQ d1).snd.fst.snd), AV.int IntKind.i64 (newQ d1).snd.snd.fst, AV.bool (newQ d1).snd.snd.snd] })], df := [] }) fun (d2 : ((Bool × List (Int × Int)) × (Bool × List (Int × Int)) × Bool × List Int) × List (List UInt8)) =>
            oK (fluS.dec [AV.agg [AV.slc false (List.map (mkV false [Lf.fs]) d2.snd), AV.slc d2.fst.fst.snd.isEmpty (List.map (mkV true Put_tfs) (wM d2.fst.fst.snd)), AV.int IntKind.i64 0, AV.bool false]] []) fun (d3 : (Bool × List (List UInt8)) × (Bool × List (Int × List UInt8)) × Int × Bool) =>
              oK
                (dl2L.dec
                  { fr := [(1, AV.slc d2.fst.snd.fst.fst (List.map (mkV true [Lf.fi IntKind.u8, Lf.fi IntKind.u8]) d2.fst.snd.fst.snd)), (2, AV.slc d2.fst.snd.snd.fst (List.map (mkV false [Lf.fi IntKind.i64]) d2.fst.snd.snd.snd)), (7, AV.ptr 112 0 0 0), (9, AV.ptr 144 0 0 0), (10, AV.int IntKind.i64 0)],
                    bs := [(112, { v := 0, k := BK.box, fz := false, sz := 0, es := [AV.slc (fluQ d3.fst.snd d3.snd.fst.snd d3.snd.snd.fst d3.snd.snd.snd).fst.fst (List.map (mkV false [Lf.fs]) (fluQ d3.fst.snd d3.snd.fst.snd d3.snd.snd.fst d3.snd.snd.snd).fst.snd), AV.slc (fluQ d3.fst.snd d3.snd.fst.snd d3.snd.snd.fst d3.snd.snd.snd).snd.fst.fst (List.map (mkV true Put_tfs) (fluQ d3.fst.snd d3.snd.fst.snd d3.snd.snd.fst d3.snd.snd.snd).snd.fst.snd), AV.int IntKind.i64 (fluQ d3.fst.snd d3.snd.fst.snd d3.snd.snd.fst d3.snd.snd.snd).snd.snd.fst, AV.bool (fluQ d3.fst.snd d3.snd.fst.snd d3.snd.snd.fst d3.snd.snd.snd).snd.snd.snd.fst] }), (144, { v := 0, k := BK.box, fz := false, sz := 0, es := [AV.slc (fluQ d3.fst.snd d3.snd.fst.snd d3.snd.snd.fst d3.snd.snd.snd).fst.fst (List.map (mkV false [Lf.fs]) (fluQ d3.fst.snd d3.snd.fst.snd d3.snd.snd.fst d3.snd.snd.snd).fst.snd), AV.slc (fluQ d3.fst.snd d3.snd.fst.snd d3.snd.snd.fst d3.snd.snd.snd).snd.fst.fst (List.map (mkV true Put_tfs) (fluQ d3.fst.snd d3.snd.fst.snd d3.snd.snd.fst d3.snd.snd.snd).snd.fst.snd), AV.int IntKind.i64 (fluQ d3.fst.snd d3.snd.fst.snd d3.snd.snd.fst d3.snd.snd.snd).snd.snd.fst, AV.bool (fluQ d3.fst.snd d3.snd.fst.snd d3.snd.snd.fst d3.snd.snd.snd).snd.snd.snd.fst] })], df := [] })
                fun (d4 : ((Bool × List (Int × Int)) × Bool × List Int) × List (List UInt8)) =>
                oK (cruS.dec [AV.agg [AV.slc false (List.map (mkV false [Lf.fs]) d4.snd), AV.slc d4.fst.fst.snd.isEmpty (List.map (mkV true Put_tfs) (wM d4.fst.fst.snd)), AV.int IntKind.i64 0, AV.bool false], AV.slc d4.fst.snd.fst (List.map (mkV false [Lf.fi IntKind.i64]) d4.fst.snd.snd)] []) fun (d5 : (Bool × List (List UInt8)) × (Bool × List (Int × List UInt8)) × Int × Bool × Bool × List Int) =>
                  oK (dl4L.dec { fr := [(1, AV.slc d4.fst.fst.fst (List.map (mkV true [Lf.fi IntKind.u8, Lf.fi IntKind.u8]) d4.fst.fst.snd)), (9, AV.ptr 144 0 0 0), (11, AV.ptr 176 0 0 0), (12, AV.int IntKind.i64 0)], bs := [(144, { v := 0, k := BK.box, fz := false, sz := 0, es := [AV.slc false (List.map (mkV false [Lf.fs]) d4.snd), AV.slc true [], AV.int IntKind.i64 0, AV.bool false] }), (176, { v := 0, k := BK.box, fz := false, sz := 0, es := [AV.slc (cruQ d5.fst.snd d5.snd.fst.snd d5.snd.snd.snd.snd.snd).fst.fst (List.map (mkV false [Lf.fs]) (cruQ d5.fst.snd d5.snd.fst.snd d5.snd.snd.snd.snd.snd).fst.snd), AV.slc (cruQ d5.fst.snd d5.snd.fst.snd d5.snd.snd.snd.snd.snd).snd.fst.fst (List.map (mkV true Put_tfs) (cruQ d5.fst.snd d5.snd.fst.snd d5.snd.snd.snd.snd.snd).snd.fst.snd), AV.int IntKind.i64 (cruQ d5.fst.snd d5.snd.fst.snd d5.snd.snd.snd.snd.snd).snd.snd.fst, AV.bool (cruQ d5.fst.snd d5.snd.fst.snd d5.snd.snd.snd.snd.snd).snd.snd.snd] })], df := [] }) fun (d6 : (Bool × List (Int × Int)) × List (List UInt8) × List (List UInt8)) => some { pan := false, res := AV.bool true, out := [], new := [] })))
theorem diskLasts_w (l_x : Bool) (l : List (Int × Int)) (m_x : Bool) (m : List (Int × Int)) (keep_x : Bool) (keep : List Int) : unitQ Try.prog cfg B7 dl4P true 4 (groupA diskLasts_sh (Tu.mk diskLasts_fs ((l_x, l), (m_x, m), (keep_x, keep)))) [] = diskLasts_r l_x l m_x m keep_x keep := by kernel_rfl

theorem diskLasts_yes (l_x : Bool) (l : List (Int × Int)) (m_x : Bool) (m : List (Int × Int)) (keep_x : Bool) (keep : List Int) (h : Tu.wf diskLasts_fs ((l_x, l), (m_x, m), (keep_x, keep))) : Yes (diskLasts_r l_x l m_x m keep_x keep) := by
  have hl : ∀ r ∈ l, Tu.wf Row2_fs r := h.1.2
  have hm : ∀ r ∈ m, Tu.wf Row2_fs r := h.2.1.2
  have hl' : ∀ r ∈ l, (0 : Int) ≤ r.1 := fun r hr => (hl r hr).1.1
  have hm' : ∀ r ∈ m, (0 : Int) ≤ r.1 := fun r hr => (hm r hr).1.1
  unfold diskLasts_r
  refine oK_fsq (Q := Yes) begunS () trivial ?_
  refine bK_iq (Q := Yes) (fun _ => yes_leaf) (fun c1 => bK_iq (Q := Yes) (fun _ => yes_leaf) (fun c2 => bK_iq (Q := Yes) (fun _ => yes_leaf) (fun c3 => ?_)))
  rw [List.length_map] at c1 c2 c3
  refine oK_fsq (Q := Yes) newS (5 : Int) (.inr rfl) ?_
  refine oK_lpf (Q := Yes) dl0H_inj (((l_x, l), (m_x, m), (keep_x, keep)), newL 5) ⟨by show l.length ≤ 20; omega, hl', rfl⟩ rfl ?_
  have wl : (wM l).length ≤ 20 := by simp only [wM, List.length_map]; omega
  have wm : (wM m).length ≤ 10 := by simp only [wM, List.length_map]; omega
  refine oK_fsq (Q := Yes) fluS ((false, newL 5), (l.isEmpty, wM l), 0, false) ⟨by show newL 5 ≠ []; decide, by show (newL 5).length ≤ 1000; decide, by show (wM l).length ≤ 1000; omega, fun s hs => by rw [newL_32 5 s hs]; decide, fun p hp => by rw [wM_32 l p hp]; decide⟩ ?_
  have hA : (flushF (newL 5) (wM l)).length = 5 := flushF_len _ _
  have hA2 := flushF_32 (wM l) (newL 5) (newL_32 5)
  have hq : fluQ (newL 5) (wM l) 0 false = ((false, flushF (newL 5) (wM l)), (true, []), 0, false, true) := rfl
  simp only [hq]
  generalize flushF (newL 5) (wM l) = La at hA hA2 ⊢
  refine oK_lpf (Q := Yes) dl2H_inj (((m_x, m), (keep_x, keep)), La) ⟨by show m.length ≤ 10; omega, hm', hA⟩ rfl ?_
  refine oK_fsq (Q := Yes) cruS ((false, La), (m.isEmpty, wM m), 0, false, keep_x, keep) ⟨(fun (e : La = []) => by rw [e] at hA; simp at hA), by show La.length ≤ 1000; omega, by show (wM m).length ≤ 1000; omega, fun s hs => by rw [hA2 s hs]; decide, fun p hp => by rw [wM_32 m p hp]; decide⟩ ?_
  have hq2 : cruQ La (wM m) keep = ((false, crashF keep (wM m) 0 La), (true, []), 0, false) := rfl
  simp only [hq2]
  refine oK_lpf (Q := Yes) dl4H_inj ((m_x, m), La, crashF keep (wM m) 0 La) ⟨by show m.length ≤ 10; omega, hm', ⟨hA, hA2⟩, ⟨(crashF_len _ _ _ _).trans hA, crashF_32 _ _ _ _ hA2⟩, fun i k hi hk => crash_any keep m La i k (by show i < La.length; omega)⟩ rfl ?_
  exact yes_leaf

end Go.Proofs.Ytlomiepgghlhbaa
