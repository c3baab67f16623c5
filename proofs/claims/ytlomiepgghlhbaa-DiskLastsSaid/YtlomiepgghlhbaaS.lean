/- A part of the proof: contracts of functions. -/
import Derived.Test.YtlomiepgghlhbaaR
import Derived.Test.YtlomiepgghlhbaaAbAny

set_option linter.unusedVariables false
set_option linter.unusedSimpArgs false
set_option maxRecDepth 100000
namespace Go.Proofs.Ytlomiepgghlhbaa
open Go Go.Ab
set_option maxHeartbeats 8000000
/-- The front of a write, and what is behind it. -/
def mixF (b d : List UInt8) (n : Int) : List UInt8 := b.take (maxI (minI (minI n (b.length : Int)) (d.length : Int)) 0).toNat ++ d.drop (maxI (minI (minI n (b.length : Int)) (d.length : Int)) 0).toNat
def lastF (L : List (List UInt8)) (p : Put_T) (n : Int) : List (List UInt8) := if 0 ≤ p.1 ∧ p.1 < (L.length : Int) then L.set p.1.toNat (mixF p.2 (L.getD p.1.toNat []) n) else L
theorem lastF_len (L : List (List UInt8)) (p : Put_T) (n : Int) : (lastF L p n).length = L.length := by unfold lastF; split <;> simp
theorem ldS (L : List (List UInt8)) (i : Nat) (h : i < L.length) : ldRow [Lf.fs] (List.map (mkV false [Lf.fs]) L) i 0 = some (L.getD i []) := by
  have e : (List.map (mkV false [Lf.fs]) L)[i]? = some (AV.str L[i]) := by rw [List.getElem?_map, List.getElem?_eq_getElem h]; rfl
  unfold ldRow
  rw [e]
  have : L.getD i [] = L[i] := by simp [List.getD, h]
  rw [this]; rfl
theorem stS (L : List (List UInt8)) (i : Nat) (h : i < L.length) (s : List UInt8) : stRow (List.map (mkV false [Lf.fs]) L) i 0 [AV.str s] = some (List.map (mkV false [Lf.fs]) (L.set i s)) := by
  have e : (List.map (mkV false [Lf.fs]) L)[i]? = some (AV.str L[i]) := by rw [List.getElem?_map, List.getElem?_eq_getElem h]; rfl
  unfold stRow
  rw [e]
  show (match splice [AV.str L[i]] 0 [AV.str s] with | some cs => some ((List.map (mkV false [Lf.fs]) L).set i (AV.recell (AV.str L[i]) cs)) | none => none) = _
  rw [List.map_set]
  rfl
theorem oK_of {R α : Type} {o : Option α} {a : α} (h : o = some a) {k : α → Option R} {Q : Option R → Prop} (hz : Q (k a)) : Q (oK o k) := by rw [h]; exact hz
theorem mm {n : Int} {a b : Nat} : 0 ≤ maxI (minI (minI n a) b) 0 ∧ (maxI (minI (minI n a) b) 0).toNat ≤ a ∧ (maxI (minI (minI n a) b) 0).toNat ≤ b := by
  unfold maxI minI
  repeat' split
  all_goals omega
theorem lasts_q {R : Type} (L : List (List UInt8)) (At : Int) (B : List UInt8) (n : Int) (K : List AV → Option R) {Q : Option R → Prop} (hB : B.length ≤ 1000) (hL : ∀ s ∈ L, s.length ≤ 1000) (h : Q (K (List.map (mkV false [Lf.fs]) (lastF L (At, B) n)))) :
    Q (bK (decide (At < 0)) (K (List.map (mkV false [Lf.fs]) L))
      (bK (decide (0 + (List.map (mkV false [Lf.fs]) L).length ≤ (List.map (mkV false [Lf.fs]) L).length))
        (bK (decide (((List.map (mkV false [Lf.fs]) L).length : Int) ≤ At)) (K (List.map (mkV false [Lf.fs]) L))
          (bK (decide (0 ≤ At ∧ At < ((List.map (mkV false [Lf.fs]) L).length : Int)))
            (oK (ldRow [Lf.fs] (List.map (mkV false [Lf.fs]) L) (0 + Int.toNat At) 0) fun (d1 : List UInt8) =>
              bK (decide (0 ≤ maxI (minI (minI n (B.length : Int)) (d1.length : Int)) 0))
                (bK (decide (0 ≤ (maxI (minI (minI n (B.length : Int)) (d1.length : Int)) 0).toNat ∧ (maxI (minI (minI n (B.length : Int)) (d1.length : Int)) 0).toNat ≤ B.length))
                  (bK (decide (0 ≤ At ∧ At < ((List.map (mkV false [Lf.fs]) L).length : Int)))
                    (oK (ldRow [Lf.fs] (List.map (mkV false [Lf.fs]) L) (0 + Int.toNat At) 0) fun (d2 : List UInt8) =>
                      bK (decide (0 ≤ maxI (minI (minI n (B.length : Int)) (d1.length : Int)) 0))
                        (bK (decide ((maxI (minI (minI n (B.length : Int)) (d1.length : Int)) 0).toNat ≤ d2.length ∧ d2.length ≤ d2.length))
                          (bK (decide ((List.take ((maxI (minI (minI n (B.length : Int)) (d1.length : Int)) 0).toNat - 0) (List.drop 0 B)).length + (List.take (d2.length - (maxI (minI (minI n (B.length : Int)) (d1.length : Int)) 0).toNat) (List.drop (maxI (minI (minI n (B.length : Int)) (d1.length : Int)) 0).toNat d2)).length < 1000000000))
                            (bK (decide (0 ≤ At ∧ At < ((List.map (mkV false [Lf.fs]) L).length : Int))) (oK (stRow (List.map (mkV false [Lf.fs]) L) (0 + Int.toNat At) 0 [AV.str (List.take ((maxI (minI (minI n (B.length : Int)) (d1.length : Int)) 0).toNat - 0) (List.drop 0 B) ++ List.take (d2.length - (maxI (minI (minI n (B.length : Int)) (d1.length : Int)) 0).toNat) (List.drop (maxI (minI (minI n (B.length : Int)) (d1.length : Int)) 0).toNat d2))]) fun (d3 : List AV) => K d3) none) none)
                          none)
                        none)
                    none)
                  none)
                none)
            none))
        none)) := by
  by_cases h1 : At < 0
  · rw [decide_eq_true h1, bK_true]
    have : lastF L (At, B) n = L := if_neg (fun hh => by have := hh.1; simp only at this; omega)
    rw [this] at h; exact h
  · rw [decide_eq_false h1, bK_false]
    refine bK_tq (by simp) ?_
    rw [List.length_map]
    by_cases h2 : (L.length : Int) ≤ At
    · rw [decide_eq_true h2, bK_true]
      have : lastF L (At, B) n = L := if_neg (fun hh => by have := hh.2; simp only at this; omega)
      rw [this] at h; exact h
    · rw [decide_eq_false h2, bK_false]
      have hin : 0 ≤ At ∧ At < (L.length : Int) := by omega
      have hi : 0 + At.toNat < L.length := by omega
      refine bK_tq (decide_eq_true hin) (oK_of (ldS L _ hi) ?_)
      have hm := @mm n B.length (L.getD (0 + At.toNat) []).length
      have hd : (L.getD (0 + At.toNat) []).length ≤ 1000 := by
        have : L.getD (0 + At.toNat) [] = L[0 + At.toNat] := by rw [List.getD, List.getElem?_eq_getElem hi]; rfl
        rw [this]; exact hL _ (List.getElem_mem hi)
      have hlast : lastF L (At, B) n = L.set (0 + At.toNat) (mixF B (L.getD (0 + At.toNat) []) n) := by
        rw [Nat.zero_add]; exact if_pos hin
      rw [hlast] at h
      unfold mixF at h
      generalize hdd : L.getD (0 + At.toNat) [] = d at hm hd h ⊢
      generalize (maxI (minI (minI n (B.length : Int)) (d.length : Int)) 0) = N at hm h ⊢
      obtain ⟨m1, m2, m3⟩ := hm
      have hlen : List.take (d.length - N.toNat) (List.drop N.toNat d) = List.drop N.toNat d := List.take_of_length_le (by simp)
      refine bK_tq (decide_eq_true m1) (bK_tq (decide_eq_true ⟨Nat.zero_le _, m2⟩) (bK_tq (decide_eq_true hin) (oK_of (ldS L _ hi) ?_)))
      have hd2 : L.getD (0 + At.toNat) [] = d := hdd
      rw [hd2]
      refine bK_tq (decide_eq_true m1) (bK_tq (decide_eq_true ⟨m3, Nat.le_refl _⟩) (bK_tq (decide_eq_true ?_) (bK_tq (decide_eq_true hin) ?_)))
      · simp only [List.length_take, List.length_drop]; omega
      · rw [hlen, List.drop_zero, Nat.sub_zero]
        exact oK_of (stS L _ hi _) h
def sh1 (L : List (List UInt8)) : Prop := ∀ s ∈ L, s.length ≤ 1000
def sh2 (W : List Put_T) : Prop := ∀ p ∈ W, p.2.length ≤ 1000
theorem mixF_len (b d : List UInt8) (n : Int) : (mixF b d n).length = d.length := by
  have := @mm n b.length d.length
  unfold mixF
  simp only [List.length_append, List.length_take, List.length_drop]
  omega
theorem lastF_mem {L : List (List UInt8)} {p : Put_T} {n : Int} {s : List UInt8} (h : s ∈ lastF L p n) : ∃ t ∈ L, s.length = t.length := by
  unfold lastF at h
  split at h
  · rename_i hc
    have hi : p.1.toNat < L.length := by omega
    rcases List.mem_or_eq_of_mem_set h with h | rfl
    · exact ⟨s, h, rfl⟩
    · refine ⟨L[p.1.toNat], List.getElem_mem hi, ?_⟩
      rw [mixF_len, List.getD, List.getElem?_eq_getElem hi]; rfl
  · exact ⟨s, h, rfl⟩
theorem lastF_sh {L : List (List UInt8)} (p : Put_T) (n : Int) (h : sh1 L) : sh1 (lastF L p n) := fun s hs => by
  obtain ⟨t, ht, e⟩ := lastF_mem hs
  rw [e]; exact h t ht
def flushF (L : List (List UInt8)) (W : List Put_T) : List (List UInt8) := W.foldl (fun L p => lastF L p 32) L
theorem flushF_len (W : List Put_T) : ∀ (L : List (List UInt8)), (flushF L W).length = L.length := by
  induction W with
  | nil => intro L; rfl
  | cons p W ih => intro L; show (flushF (lastF L p 32) W).length = _; rw [ih, lastF_len]
theorem flushF_sh (W : List Put_T) : ∀ (L : List (List UInt8)), sh1 L → sh1 (flushF L W) := by
  induction W with
  | nil => intro L h; exact h
  | cons p W ih => intro L h; exact ih _ (lastF_sh p 32 h)
theorem fl_step (wx : Bool) (L : List (List UInt8)) (W : List Put_T) (arm : Int) (i : Nat) (hi : i < W.length) (hW : W.length ≤ 100000) (h1 : sh1 L) (h2 : sh2 W) : fl_s_r wx L W arm i = some (.inl (flh wx (lastF L W[i] 32) W arm false ((i : Int) + 1))) := by
  unfold fl_s_r
  have e1 : IntKind.i64.wrap ((i : Int) + 1) = (i : Int) + 1 := w64 (by omega) (by omega)
  rw [e1]
  refine bK_tq (Q := fun z => z = _) (by simp; omega) ?_
  refine oK_atq (Q := fun z => z = _) (fs := Put_tfs) (0, []) (by omega) (by simpa using hi) ?_
  rw [Int.toNat_natCast, getD_at hi]
  have hB := h2 _ (List.getElem_mem hi)
  generalize W[i] = p at hB ⊢
  obtain ⟨At, B⟩ := p
  have hlen : ∀ (M : List (List UInt8)), M.length = L.length → (List.map (mkV false [Lf.fs]) M).length = (List.map (mkV false [Lf.fs]) L).length := fun M h => by simp [h]
  refine lasts_q (R := St ⊕ (Ex × St)) (Q := fun z => z = some (.inl (flh wx (lastF L (At, B) 32) W arm false ((i : Int) + 1)))) L At B 32 (fun es => some (Sum.inl { fr := [(2, AV.ptr 32 0 0 0), (4, AV.ptr 160 0 0 0), (18, AV.slc wx (List.map (mkV true Put_tfs) W)), (19, AV.int IntKind.i64 ((List.map (mkV true Put_tfs) W).length : Int)), (20, AV.int IntKind.i64 ((i : Int) + 1))], bs := [(32, { v := 0, k := BK.box, fz := false, sz := 0, es := [AV.slc true [], AV.slc true [], AV.int IntKind.i64 0, AV.bool false] }), (128, { v := 0, k := BK.row, fz := false, sz := 1, es := es }), (129, { v := 0, k := BK.row, fz := false, sz := 2, es := List.map (mkV true Put_tfs) W }), (160, { v := 0, k := BK.box, fz := false, sz := 0, es := [AV.sref 128 0 0 (List.map (mkV false [Lf.fs]) L).length, AV.sref 129 0 0 (List.map (mkV true Put_tfs) W).length, AV.int IntKind.i64 arm, AV.bool false] })], df := [] })) hB h1 ?_
  show some (Sum.inl (St.mk _ _ _)) = some (Sum.inl (St.mk _ _ _))
  rw [← hlen (lastF L (At, B) 32) (lastF_len _ _ _)]
  rfl
theorem foldl_at {α β : Type} (f : β → α → β) (l : List α) (i : Nat) (h : i < l.length) (b : β) : (l.drop i).foldl f b = (l.drop (i + 1)).foldl f (f b l[i]) := by
  rw [List.drop_eq_getElem_cons h]; rfl
def flE (L : List (List UInt8)) (W : List Put_T) (arm : Int) (e : Bool) : Ex × St := (.exit 0, { fr := [(2, .ptr 32 0 0 0), (4, .ptr 160 0 0 0)], bs := flb L W arm e, df := [] })
theorem fll : (loopsOf 0 (codeOf Try.prog 10)).map (·.1) = [0] := by kernel_rfl
theorem flo : OneLoops Try.prog 10 := by unfold OneLoops; rw [fll]; decide
theorem fla : At 0 (codeOf Try.prog 10) 0 (.loop (bodyAt Try.prog 10 0)) := at_body flo (by rw [fll]; decide)
theorem fl_run (wx : Bool) (W : List Put_T) (arm : Int) (hW : W.length ≤ 100000) (h2 : sh2 W) : ∀ (j i : Nat), i + j = W.length → ∀ (L : List (List UInt8)), sh1 L → ∀ (m : Nat), j < m → Runs' Try.prog cfg PK2 10 0 m (flh wx L W arm false i) (flE (flushF L (W.drop i)) W arm false)
  | 0, i, hi, L, h1, m + 1, hm => by
    refine Runs'.done (lp := LP0) LPok.none fla ((fl_s_w wx L W arm i).trans ?_)
    unfold fl_s_r
    rw [bK_neg (by simp; omega), List.drop_eq_nil_of_le (by omega)]
    rfl
  | j + 1, i, hi, L, h1, m + 1, hm => by
    have hlt : i < W.length := by omega
    have hs := fl_run wx W arm hW h2 j (i + 1) (by omega) (lastF L W[i] 32) (lastF_sh _ _ h1) m (by omega)
    have e : flushF L (W.drop i) = flushF (lastF L W[i] 32) (W.drop (i + 1)) := foldl_at _ W i hlt L
    rw [e]
    exact Runs'.step (lp := LP0) LPok.none fla ((fl_s_w wx L W arm i).trans (fl_step wx L W arm i hlt hW h1 h2)) hs
abbrev FlD : Type := (Bool × List Put_T) × List (List UInt8) × Int
def flH (d : FlD) : St := flh d.1.1 d.2.1 d.1.2 d.2.2 d.1.2.isEmpty 0
theorem fl_all (d : FlD) (h : d.1.2.length ≤ 100000 ∧ sh1 d.2.1 ∧ sh2 d.1.2) : Runs' Try.prog cfg PK2 10 0 rounds (flH d) (flE (flushF d.2.1 d.1.2) d.1.2 d.2.2 d.1.2.isEmpty) := by
  obtain ⟨⟨wx, W⟩, L, arm⟩ := d
  cases W with
  | nil =>
    exact Runs'.done (lp := LP0) LPok.none fla (fl_0_w wx L arm)
  | cons p W =>
    exact fl_run wx (p :: W) arm h.1 h.2.2 (p :: W).length 0 (by omega) L h.2.1 rounds (by have := h.1; simp only [rounds] at this ⊢; omega)
noncomputable def flL : LP := LP.of (D := FlD) flH (fun d => d.1.2.length ≤ 100000 ∧ sh1 d.2.1 ∧ sh2 d.1.2) fun d => .ite d.1.2.isEmpty (.leaf (flE (flushF d.2.1 d.1.2) d.1.2 d.2.2 true)) (.leaf (flE (flushF d.2.1 d.1.2) d.1.2 d.2.2 false))
noncomputable def flP : LPs := LPs.add LP0 10 0 flL
theorem flP_ok : LPok Try.prog cfg PK2 flP 10 := LPok.addH LPok.none flo fun d h => by
  have := fl_all d h
  show Runs' _ _ _ _ _ _ _ (Alt.val (.ite d.1.2.isEmpty (.leaf _) (.leaf _)))
  cases hw : d.1.2.isEmpty with
  | true => rw [hw] at this; exact this
  | false => rw [hw] at this; exact this
theorem flH_inj (d d' : FlD) (h : flH d = flH d') : d = d' := by
  obtain ⟨⟨wx, W⟩, L, arm⟩ := d
  obtain ⟨⟨wx', W'⟩, L', arm'⟩ := d'
  simp only [flH, flh, St.mk.injEq, List.cons.injEq, Prod.mk.injEq, AV.slc.injEq, and_true, true_and] at h
  have e1 := map_inj (fs := Put_tfs) rfl h.1.1.2
  subst e1
  have hb := h.2
  cases W with
  | nil =>
    simp only [List.isEmpty_nil, flb, boxB, rowS, List.cons.injEq, Prod.mk.injEq, Blk.mk.injEq, AV.int.injEq, and_true, true_and] at hb
    rw [h.1.1.1, map_inj (agg := false) (fs := [.fs]) rfl hb.1, hb.2.2]
  | cons p W =>
    simp only [List.isEmpty_cons, flb, boxB, rowS, List.cons.injEq, Prod.mk.injEq, Blk.mk.injEq, AV.int.injEq, and_true, true_and] at hb
    rw [h.1.1.1, map_inj (agg := false) (fs := [.fs]) rfl hb.1, hb.2.2]
abbrev flu_id : Nat := 10
abbrev flu_sh : Shp := [some 4]
abbrev flu_fs : List Lf := [.fl false [.fs], .fl true Put_tfs, .fi .i64, .fb]
abbrev flu_rsh : Shp := [some 4, none]
abbrev flu_rfs : List Lf := [.fl false [.fs], .fl true Put_tfs, .fi .i64, .fb, .fb]
noncomputable def flu_r (d_Last_x : Bool) (d_Last : List (List UInt8)) (d_Wait_x : Bool) (d_Wait : List Put_T) (d_Arm : Int) (d_Down : Bool) : Option Ret :=
  oK (cloneS.dec [AV.slc d_Last_x (List.map (mkV false [Lf.fs]) d_Last)] []) fun (d0 : Bool × List (List UInt8)) =>
  bK (List.map (mkV false [Lf.fs]) (cloneF d0).snd).isEmpty
    (oK (clonS.dec [AV.slc d_Wait_x (List.map (mkV true Put_tfs) d_Wait)] []) fun (d1 : Bool × List (Int × List UInt8)) =>
      bK (List.map (mkV true Put_tfs) (cloneG d1).snd).isEmpty
        (bK d_Down (some { pan := false, res := AV.tup [AV.agg [AV.slc true [], AV.slc true [], AV.int IntKind.i64 d_Arm, AV.bool d_Down], AV.bool false], out := [], new := [] })
          (oK (flL.dec { fr := [(2, AV.ptr 32 0 0 0), (4, AV.ptr 160 0 0 0), (18, AV.slc d_Wait_x (List.map (mkV true Put_tfs) d_Wait)), (19, AV.int IntKind.i64 (↑(List.map (mkV true Put_tfs) d_Wait).length : Int)), (20, AV.int IntKind.i64 0)], bs := [(32, { v := 0, k := BK.box, fz := false, sz := 0, es := [AV.slc true [], AV.slc true [], AV.int IntKind.i64 0, AV.bool false] }), (160, { v := 0, k := BK.box, fz := false, sz := 0, es := [AV.slc true [], AV.slc true [], AV.int IntKind.i64 d_Arm, AV.bool d_Down] })], df := [] }) fun (d2 : (Bool × List (Int × List UInt8)) × List (List UInt8) × Int) =>
            bK d2.fst.snd.isEmpty (bK (decide (0 + (List.map (mkV false [Lf.fs]) (flushF d2.snd.fst d2.fst.snd)).length ≤ (List.map (mkV false [Lf.fs]) (flushF d2.snd.fst d2.fst.snd)).length)) (some { pan := false, res := AV.tup [AV.agg [AV.slc false (List.take (List.map (mkV false [Lf.fs]) (flushF d2.snd.fst d2.fst.snd)).length (List.drop 0 (List.map (mkV false [Lf.fs]) (flushF d2.snd.fst d2.fst.snd)))), AV.slc true [], AV.int IntKind.i64 d2.snd.snd, AV.bool false], AV.bool true], out := [], new := [] }) none) (bK (decide (0 + (List.map (mkV false [Lf.fs]) (flushF d2.snd.fst d2.fst.snd)).length ≤ (List.map (mkV false [Lf.fs]) (flushF d2.snd.fst d2.fst.snd)).length)) (some { pan := false, res := AV.tup [AV.agg [AV.slc false (List.take (List.map (mkV false [Lf.fs]) (flushF d2.snd.fst d2.fst.snd)).length (List.drop 0 (List.map (mkV false [Lf.fs]) (flushF d2.snd.fst d2.fst.snd)))), AV.slc true [], AV.int IntKind.i64 d2.snd.snd, AV.bool false], AV.bool true], out := [], new := [] }) none)))
        (bK d_Down (bK (decide (0 + (List.map (mkV true Put_tfs) (cloneG d1).snd).length ≤ (List.map (mkV true Put_tfs) (cloneG d1).snd).length)) (some { pan := false, res := AV.tup [AV.agg [AV.slc true [], AV.slc false (List.take (List.map (mkV true Put_tfs) (cloneG d1).snd).length (List.drop 0 (List.map (mkV true Put_tfs) (cloneG d1).snd))), AV.int IntKind.i64 d_Arm, AV.bool d_Down], AV.bool false], out := [], new := [] }) none)
          (oK (flL.dec { fr := [(2, AV.ptr 32 0 0 0), (4, AV.ptr 160 0 0 0), (18, AV.slc d_Wait_x (List.map (mkV true Put_tfs) d_Wait)), (19, AV.int IntKind.i64 (↑(List.map (mkV true Put_tfs) d_Wait).length : Int)), (20, AV.int IntKind.i64 0)], bs := [(32, { v := 0, k := BK.box, fz := false, sz := 0, es := [AV.slc true [], AV.slc true [], AV.int IntKind.i64 0, AV.bool false] }), (128, { v := 0, k := BK.row, fz := false, sz := 2, es := List.map (mkV true Put_tfs) (cloneG d1).snd }), (160, { v := 0, k := BK.box, fz := false, sz := 0, es := [AV.slc true [], AV.sref 128 0 0 (List.map (mkV true Put_tfs) (cloneG d1).snd).length, AV.int IntKind.i64 d_Arm, AV.bool d_Down] })], df := [] }) fun (d3 : (Bool × List (Int × List UInt8)) × List (List UInt8) × Int) =>
            bK d3.fst.snd.isEmpty (bK (decide (0 + (List.map (mkV false [Lf.fs]) (flushF d3.snd.fst d3.fst.snd)).length ≤ (List.map (mkV false [Lf.fs]) (flushF d3.snd.fst d3.fst.snd)).length)) (some { pan := false, res := AV.tup [AV.agg [AV.slc false (List.take (List.map (mkV false [Lf.fs]) (flushF d3.snd.fst d3.fst.snd)).length (List.drop 0 (List.map (mkV false [Lf.fs]) (flushF d3.snd.fst d3.fst.snd)))), AV.slc true [], AV.int IntKind.i64 d3.snd.snd, AV.bool false], AV.bool true], out := [], new := [] }) none) (bK (decide (0 + (List.map (mkV false [Lf.fs]) (flushF d3.snd.fst d3.fst.snd)).length ≤ (List.map (mkV false [Lf.fs]) (flushF d3.snd.fst d3.fst.snd)).length)) (some { pan := false, res := AV.tup [AV.agg [AV.slc false (List.take (List.map (mkV false [Lf.fs]) (flushF d3.snd.fst d3.fst.snd)).length (List.drop 0 (List.map (mkV false [Lf.fs]) (flushF d3.snd.fst d3.fst.snd)))), AV.slc true [], AV.int IntKind.i64 d3.snd.snd, AV.bool false], AV.bool true], out := [], new := [] }) none))))
    (oK (clonS.dec [AV.slc d_Wait_x (List.map (mkV true Put_tfs) d_Wait)] []) fun (d4 : Bool × List (Int × List UInt8)) =>
      bK (List.map (mkV true Put_tfs) (cloneG d4).snd).isEmpty
        (bK d_Down (bK (decide (0 + (List.map (mkV false [Lf.fs]) (cloneF d0).snd).length ≤ (List.map (mkV false [Lf.fs]) (cloneF d0).snd).length)) (some { pan := false, res := AV.tup [AV.agg [AV.slc false (List.take (List.map (mkV false [Lf.fs]) (cloneF d0).snd).length (List.drop 0 (List.map (mkV false [Lf.fs]) (cloneF d0).snd))), AV.slc true [], AV.int IntKind.i64 d_Arm, AV.bool d_Down], AV.bool false], out := [], new := [] }) none)
          (oK (flL.dec { fr := [(2, AV.ptr 32 0 0 0), (4, AV.ptr 160 0 0 0), (18, AV.slc d_Wait_x (List.map (mkV true Put_tfs) d_Wait)), (19, AV.int IntKind.i64 (↑(List.map (mkV true Put_tfs) d_Wait).length : Int)), (20, AV.int IntKind.i64 0)], bs := [(32, { v := 0, k := BK.box, fz := false, sz := 0, es := [AV.slc true [], AV.slc true [], AV.int IntKind.i64 0, AV.bool false] }), (128, { v := 0, k := BK.row, fz := false, sz := 1, es := List.map (mkV false [Lf.fs]) (cloneF d0).snd }), (160, { v := 0, k := BK.box, fz := false, sz := 0, es := [AV.sref 128 0 0 (List.map (mkV false [Lf.fs]) (cloneF d0).snd).length, AV.slc true [], AV.int IntKind.i64 d_Arm, AV.bool d_Down] })], df := [] }) fun (d5 : (Bool × List (Int × List UInt8)) × List (List UInt8) × Int) =>
            bK d5.fst.snd.isEmpty (bK (decide (0 + (List.map (mkV false [Lf.fs]) (flushF d5.snd.fst d5.fst.snd)).length ≤ (List.map (mkV false [Lf.fs]) (flushF d5.snd.fst d5.fst.snd)).length)) (some { pan := false, res := AV.tup [AV.agg [AV.slc false (List.take (List.map (mkV false [Lf.fs]) (flushF d5.snd.fst d5.fst.snd)).length (List.drop 0 (List.map (mkV false [Lf.fs]) (flushF d5.snd.fst d5.fst.snd)))), AV.slc true [], AV.int IntKind.i64 d5.snd.snd, AV.bool false], AV.bool true], out := [], new := [] }) none) (bK (decide (0 + (List.map (mkV false [Lf.fs]) (flushF d5.snd.fst d5.fst.snd)).length ≤ (List.map (mkV false [Lf.fs]) (flushF d5.snd.fst d5.fst.snd)).length)) (some { pan := false, res := AV.tup [AV.agg [AV.slc false (List.take (List.map (mkV false [Lf.fs]) (flushF d5.snd.fst d5.fst.snd)).length (List.drop 0 (List.map (mkV false [Lf.fs]) (flushF d5.snd.fst d5.fst.snd)))), AV.slc true [], AV.int IntKind.i64 d5.snd.snd, AV.bool false], AV.bool true], out := [], new := [] }) none)))
        (bK d_Down (bK (decide (0 + (List.map (mkV false [Lf.fs]) (cloneF d0).snd).length ≤ (List.map (mkV false [Lf.fs]) (cloneF d0).snd).length)) (bK (decide (0 + (List.map (mkV true Put_tfs) (cloneG d4).snd).length ≤ (List.map (mkV true Put_tfs) (cloneG d4).snd).length)) (some { pan := false, res := AV.tup [AV.agg [AV.slc false (List.take (List.map (mkV false [Lf.fs]) (cloneF d0).snd).length (List.drop 0 (List.map (mkV false [Lf.fs]) (cloneF d0).snd))), AV.slc false (List.take (List.map (mkV true Put_tfs) (cloneG d4).snd).length (List.drop 0 (List.map (mkV true Put_tfs) (cloneG d4).snd))), AV.int IntKind.i64 d_Arm, AV.bool d_Down], AV.bool false], out := [], new := [] }) none) none)
          (oK (flL.dec { fr := [(2, AV.ptr 32 0 0 0), (4, AV.ptr 160 0 0 0), (18, AV.slc d_Wait_x (List.map (mkV true Put_tfs) d_Wait)), (19, AV.int IntKind.i64 (↑(List.map (mkV true Put_tfs) d_Wait).length : Int)), (20, AV.int IntKind.i64 0)], bs := [(32, { v := 0, k := BK.box, fz := false, sz := 0, es := [AV.slc true [], AV.slc true [], AV.int IntKind.i64 0, AV.bool false] }), (128, { v := 0, k := BK.row, fz := false, sz := 1, es := List.map (mkV false [Lf.fs]) (cloneF d0).snd }), (129, { v := 0, k := BK.row, fz := false, sz := 2, es := List.map (mkV true Put_tfs) (cloneG d4).snd }), (160, { v := 0, k := BK.box, fz := false, sz := 0, es := [AV.sref 128 0 0 (List.map (mkV false [Lf.fs]) (cloneF d0).snd).length, AV.sref 129 0 0 (List.map (mkV true Put_tfs) (cloneG d4).snd).length, AV.int IntKind.i64 d_Arm, AV.bool d_Down] })], df := [] }) fun (d6 : (Bool × List (Int × List UInt8)) × List (List UInt8) × Int) =>
            bK d6.fst.snd.isEmpty (bK (decide (0 + (List.map (mkV false [Lf.fs]) (flushF d6.snd.fst d6.fst.snd)).length ≤ (List.map (mkV false [Lf.fs]) (flushF d6.snd.fst d6.fst.snd)).length)) (some { pan := false, res := AV.tup [AV.agg [AV.slc false (List.take (List.map (mkV false [Lf.fs]) (flushF d6.snd.fst d6.fst.snd)).length (List.drop 0 (List.map (mkV false [Lf.fs]) (flushF d6.snd.fst d6.fst.snd)))), AV.slc true [], AV.int IntKind.i64 d6.snd.snd, AV.bool false], AV.bool true], out := [], new := [] }) none) (bK (decide (0 + (List.map (mkV false [Lf.fs]) (flushF d6.snd.fst d6.fst.snd)).length ≤ (List.map (mkV false [Lf.fs]) (flushF d6.snd.fst d6.fst.snd)).length)) (some { pan := false, res := AV.tup [AV.agg [AV.slc false (List.take (List.map (mkV false [Lf.fs]) (flushF d6.snd.fst d6.fst.snd)).length (List.drop 0 (List.map (mkV false [Lf.fs]) (flushF d6.snd.fst d6.fst.snd)))), AV.slc true [], AV.int IntKind.i64 d6.snd.snd, AV.bool false], AV.bool true], out := [], new := [] }) none))))
theorem flu_w (d_Last_x : Bool) (d_Last : List (List UInt8)) (d_Wait_x : Bool) (d_Wait : List Put_T) (d_Arm : Int) (d_Down : Bool) : unitQ Try.prog cfg PK2 flP false 10 (groupA flu_sh (Tu.mk flu_fs ((d_Last_x, d_Last), (d_Wait_x, d_Wait), d_Arm, d_Down))) [] = flu_r d_Last_x d_Last d_Wait_x d_Wait d_Arm d_Down := by kernel_rfl

end Go.Proofs.Ytlomiepgghlhbaa
