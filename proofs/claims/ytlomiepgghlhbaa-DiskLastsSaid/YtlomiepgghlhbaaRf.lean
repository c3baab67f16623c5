/- A part of the proof: contracts of functions. -/
import Derived.Test.YtlomiepgghlhbaaRe
import Derived.Test.YtlomiepgghlhbaaAbAny
import Derived.Test.YtlomiepgghlhbaaAbRep
set_option linter.unusedVariables false
set_option linter.unusedSimpArgs false
set_option maxRecDepth 100000
namespace Go.Proofs.Ytlomiepgghlhbaa
open Go Go.Ab
set_option maxHeartbeats 4000000
set_option maxRecDepth 100000
open Go.RowKit Go.Shelf
attribute [local go_sem] Oper.semAt_some
/-- Who reads, where there is no such sector, or no power. -/
theorem read_no_in (F : Fence) (n : Nat) (h14 : F.fn 14) (h26 : F.fn 26) (hro : F.round = none) (hn : 4 ≤ n) (a1 a2 : Option Addr) (l1 c1 l2 c2 : Nat) (arm i : Int) (down : Bool) (w : World) (hno : (!down && (decide (0 ≤ i) && decide (i < (l1 : Int)))) = false) :
    CallsIn F n Try.prog 14 #[.agg #[.slice a1 l1 c1, .slice a2 l2 c2, .int .i64 arm, .bool down], .int .i64 i] w fun e w' => e = .returned (.tuple #[.string ⟨#[]⟩, .bool false]) ∧ Below w.heap.size w w' := by
  have u3 := run_underlying tI; have u4 := run_underlying tB; have u26 := run_underlying tP; have u25 := run_underlying tS
  have h1 : 1 ≤ n := by omega
  refine callsIn_of_wp_marks Try.func14 rfl h14 ?_ hro
  simp only [nt14, List.size_toArray, List.length_cons, List.length_nil, Nat.reduceAdd, Nat.reduceSub, Array.replicate_succ, Array.replicate_zero, List.push_toArray, List.append_toArray, List.nil_append, List.cons_append]
  gi_wp2_with ((gi_at_call 26; refine (there_in F (n - 1) h26 hro _ _ _ _ _ _ _ _ _ _).mono ?_; rintro e w' ⟨rfl, rfl⟩; rw [hno]))
  refine ⟨.tuple #[.string ⟨#[]⟩, .bool false], ?_, rfl, (((((Below.refl _ w).alloc (Nat.le_refl _) _).alloc (by simp) _).alloc (by simp; omega) _).alloc (by simp; omega) _).alloc (by simp; omega) _⟩
  simp [results, Try.f14, go_sem]
theorem flat2 (l : List (Int × List UInt8)) : ∀ (j : Nat), j < l.length → (l.flatMap fun p => [AV.int .i64 p.1, AV.str p.2])[j * 2]? = some (.int .i64 (l[j]?.getD (0, [])).1) ∧ (l.flatMap fun p => [AV.int .i64 p.1, AV.str p.2])[j * 2 + 1]? = some (.str (l[j]?.getD (0, [])).2) := by
  induction l with
  | nil => intro j hj; simp at hj
  | cons p l ih =>
    intro j hj
    cases j with
    | zero => simp
    | succ j =>
      have := ih j (by simpa using hj)
      rw [show (j + 1) * 2 = j * 2 + 1 + 1 by omega]
      simpa using this
abbrev Dk : Type := (Bool × List (List UInt8)) × (Bool × List (Int × List UInt8)) × Int × Bool
abbrev Dk_fs : List Lf := [.fl false [.fs], .fl true [.fi .i64, .fs], .fi .i64, .fb]
/-- Is there a sector, and power? -/
def thereQ (d : Dk) (i : Int) : Bool := !d.2.2.2 && (decide (0 ≤ i) && decide (i < (d.1.2.length : Int)))
/-- What is read where there is one. -/
def lastQ (W : List (Int × List UInt8)) (i : Int) (s : List UInt8) : List UInt8 := W.foldl (fun s p => if p.1 = i then p.2 else s) s
def readQ (d : Dk) (i : Int) : List UInt8 × Bool := if thereQ d i then (lastQ d.2.1.2 i (d.1.2[i.toNat]?.getD []), true) else ([], false)
theorem lastQ_none : ∀ (W : List (Int × List UInt8)) (i : Int) (s : List UInt8), (∀ j, j < W.length → (W[j]?.getD (0, [])).1 ≠ i) → lastQ W i s = s
  | [], _, _, _ => rfl
  | p :: W, i, s, h => by
    have h0 := h 0 (by simp)
    simp only [List.getElem?_cons_zero, Option.getD_some] at h0
    show lastQ W i (if p.1 = i then p.2 else s) = s
    rw [if_neg h0]
    exact lastQ_none W i s fun j hj => by simpa using h (j + 1) (by simpa using hj)
theorem lastQ_at : ∀ (W : List (Int × List UInt8)) (i : Int) (s : List UInt8) (m : Nat), m < W.length → (W[m]?.getD (0, [])).1 = i → (∀ j, m < j → j < W.length → (W[j]?.getD (0, [])).1 ≠ i) → lastQ W i s = (W[m]?.getD (0, [])).2
  | [], _, _, m, h, _, _ => by simp at h
  | p :: W, i, s, 0, _, h1, h2 => by
    simp only [List.getElem?_cons_zero, Option.getD_some] at h1 ⊢
    show lastQ W i (if p.1 = i then p.2 else s) = _
    rw [if_pos h1]
    exact lastQ_none W i _ fun j hj => by simpa using h2 (j + 1) (by omega) (by simpa using hj)
  | p :: W, i, s, m + 1, h0, h1, h2 => by
    show lastQ W i (if p.1 = i then p.2 else s) = _
    simp only [List.getElem?_cons_succ] at h1 ⊢
    exact lastQ_at W i _ m (by simpa using h0) h1 fun j hj hj2 => by simpa using h2 (j + 1) (by omega) (by simpa using hj2)
theorem strs_cells : ∀ (l : List (List UInt8)), (l.map AV.str).flatMap AV.cells = l.map AV.str
  | [] => rfl
  | y :: l => by
    have := strs_cells l
    simp only [List.map_cons, List.flatMap_cons, this]; rfl
section
variable {c : Cx}
theorem slc1 {x : Bool} {l : List (List UInt8)} {v : Value} (h : V c (.slc x (l.map AV.str)) v) : ∃ a cap, v = .slice a l.length cap ∧ ∀ k, k < l.length → ∃ b o, a = some ⟨b, o, none⟩ ∧ b < c.w.heap.size ∧ c.w.cell? ⟨b, o + k, none⟩ = some (.string ⟨(l[k]?.getD []).toArray⟩) := by
  have h := h.slc_inv
  generalize he : l.map AV.str = es at h
  cases h with
  | slc x es a cap sz vals hx hcap hsz ha hl hv =>
    subst he
    rw [strs_cells] at hl hv
    refine ⟨a, cap, by simp, fun k hk => ?_⟩
    obtain ⟨b, o, e1, e2, _, e4⟩ := ha (by intro e; have := congrArg List.length e; simp at this; rw [this] at hk; simp at hk)
    have hkv : k < vals.length := by rw [hl]; simpa using hk
    have hq := hv k (.str l[k]) vals[k] (by simp [hk]) (List.getElem?_eq_getElem hkv)
    refine ⟨b, o, e1, e2, ?_⟩
    rw [e4 k vals[k] (List.getElem?_eq_getElem hkv)]
    generalize vals[k] = vv at hq
    cases hq
    simp [List.getElem?_eq_getElem hk]
theorem slc2 {x : Bool} {l : List (Int × List UInt8)} {v : Value} (h : V c (.slc x (l.map fun p => AV.agg [.int .i64 p.1, .str p.2])) v) : ∃ a cap, v = .slice a l.length cap ∧ Puts c.w.heap.size c.w a l.length (fun j => .int .i64 (l[j]?.getD (0, [])).1) (fun j => .string ⟨(l[j]?.getD (0, [])).2.toArray⟩) := by
  have h := h.slc_inv
  generalize he : (l.map fun p => AV.agg [.int .i64 p.1, .str p.2]) = es at h
  cases h with
  | slc x es a cap sz vals hx hcap hsz ha hl hv =>
    subst he
    have hf : (l.map fun p => AV.agg [.int .i64 p.1, .str p.2]).flatMap AV.cells = l.flatMap fun p => [AV.int .i64 p.1, AV.str p.2] := by
      rw [List.flatMap_map]; rfl
    rw [hf] at hl hv
    refine ⟨a, cap, by simp, ?_⟩
    rcases Nat.eq_zero_or_pos l.length with h0 | hpos
    · exact .inl h0
    · obtain ⟨b, o, e1, e2, _, e4⟩ := ha (by intro e; have := congrArg List.length e; simp at this; rw [this] at hpos; simp at hpos)
      refine .inr ⟨b, o, e1, e2, fun j hj => ?_⟩
      obtain ⟨f1, f2⟩ := flat2 l j hj
      have g1 : j * 2 < vals.length := by rw [hl]; exact (List.getElem?_eq_some_iff.1 f1).1
      have g2 : j * 2 + 1 < vals.length := by rw [hl]; exact (List.getElem?_eq_some_iff.1 f2).1
      have q1 := hv (j * 2) _ vals[j * 2] f1 (List.getElem?_eq_getElem g1)
      have q2 := hv (j * 2 + 1) _ vals[j * 2 + 1] f2 (List.getElem?_eq_getElem g2)
      constructor
      · rw [e4 (j * 2) vals[j * 2] (List.getElem?_eq_getElem g1)]
        generalize vals[j * 2] = vv at q1
        cases q1; rfl
      · rw [Nat.add_assoc, e4 (j * 2 + 1) vals[j * 2 + 1] (List.getElem?_eq_getElem g2)]
        generalize vals[j * 2 + 1] = vv at q2
        cases q2; rfl
def strsA : List AV → Option (List (List UInt8))
  | [] => some []
  | .str s :: r => match strsA r with
    | some l => some (s :: l)
    | none => none
  | _ => none
def putsA : List AV → Option (List (Int × List UInt8))
  | [] => some []
  | .agg [.int .i64 n, .str s] :: r => match putsA r with
    | some l => some ((n, s) :: l)
    | none => none
  | _ => none
theorem strsA_ok : ∀ {es : List AV} {l : List (List UInt8)}, strsA es = some l → es = l.map AV.str
  | [], l, h => by cases h; rfl
  | e :: es, l, h => by
    unfold strsA at h
    split at h
    · rename_i h1; cases h1
    · rename_i s r h1
      cases h1
      split at h
      · rename_i l' h2
        cases h
        rw [strsA_ok h2]; rfl
      · cases h
    · cases h
theorem putsA_ok : ∀ {es : List AV} {l : List (Int × List UInt8)}, putsA es = some l → es = l.map fun p => AV.agg [.int .i64 p.1, .str p.2]
  | [], l, h => by cases h; rfl
  | e :: es, l, h => by
    unfold putsA at h
    split at h
    · rename_i h1; cases h1
    · rename_i n s r h1
      cases h1
      split at h
      · rename_i l' h2
        cases h
        rw [putsA_ok h2]; rfl
      · cases h
    · cases h
theorem strsA_map : ∀ (l : List (List UInt8)), strsA (l.map AV.str) = some l
  | [] => rfl
  | s :: l => by simp only [List.map_cons, strsA, strsA_map l]
theorem putsA_map : ∀ (l : List (Int × List UInt8)), putsA (l.map fun p => AV.agg [.int .i64 p.1, .str p.2]) = some l
  | [] => rfl
  | (n, s) :: l => by simp only [List.map_cons, putsA, putsA_map l]
def readG (args : List AV) (out : List Blk) : Option Ret :=
  match args with
  | [.agg [.slc x es1, .slc y es2, .int .i64 arm, .bool down], .int .i64 i] => match strsA es1, putsA es2 with
    | some l, some W => if l.length ≤ 100000 ∧ W.length ≤ 100000 ∧ (out.all fun x => decide (x.v = 0)) = true then some { pan := false, res := .tup [.str (readQ ((x, l), (y, W), arm, down) i).1, .bool (readQ ((x, l), (y, W), arm, down) i).2], out := out, new := [] } else none
    | _, _ => none
  | _ => none
theorem readG_ok : PrimOk Try.prog 14 readG := by
  intro args out r hr
  unfold readG at hr
  split at hr
  · rename_i x es1 y es2 arm down i
    split at hr
    · rename_i l W hl hW
      split at hr
      · rename_i hn
        cases hr
        cases strsA_ok hl
        cases putsA_ok hW
        refine ⟨⟨Try.f14, _, Try.func14, rfl, by kernel_rfl⟩, ?_⟩
        intro c w0 G X Lo vs hS hout hWR hv
        obtain ⟨v1, r1, rfl, h1, h2⟩ := VL.of_cons hv
        obtain ⟨v2, r2, rfl, h3, h4⟩ := VL.of_cons h2
        have : r2 = [] := List.eq_nil_of_length_eq_zero (by simpa using h4.1.symm)
        subst this
        cases h3.int_inv
        obtain ⟨us, rfl, e1, _, e2⟩ := h1.agg_inv
        obtain ⟨u1, u2, u3, u4, rfl⟩ : ∃ u1 u2 u3 u4, us = [u1, u2, u3, u4] := by
          match us, e1 with
          | [u1, u2, u3, u4], _ => exact ⟨u1, u2, u3, u4, rfl⟩
        obtain ⟨a1, c1, rfl, g1⟩ := slc1 (e2 0 _ u1 rfl rfl)
        obtain ⟨a2, c2, rfl, g2⟩ := slc2 (e2 1 _ u2 rfl rfl)
        cases (e2 2 _ u3 rfl rfl).int_inv
        cases (e2 3 _ u4 rfl rfl).bool_inv
        have hcall : Calls Try.prog 14 #[.agg #[.slice a1 l.length c1, .slice a2 W.length c2, .int .i64 arm, .bool down], .int .i64 i] c.w fun e w' => e = .returned (.tuple #[.string ⟨(readQ ((x, l), (y, W), arm, down) i).1.toArray⟩, .bool (readQ ((x, l), (y, W), arm, down) i).2]) ∧ Below c.w.heap.size c.w w' := by
          by_cases ht : thereQ ((x, l), (y, W), arm, down) i = true
          · have ht' := ht
            simp only [thereQ, Bool.and_eq_true, Bool.not_eq_true', decide_eq_true_eq] at ht'
            obtain ⟨hd, hi0, hi1⟩ := ht'
            subst hd
            obtain ⟨k, rfl⟩ := Int.eq_ofNat_of_zero_le hi0
            have hk : k < l.length := by omega
            obtain ⟨b1, o1, q1, q2, q3⟩ := g1 k hk
            refine (callsIn_wide.1 (read_in Fence.wide 8 trivial trivial trivial trivial rfl (by omega) a1 a2 l.length c1 W.length c2 arm k (fun j => (W[j]?.getD (0, [])).1) (fun j => (W[j]?.getD (0, [])).2) (by omega) c.w g2 k rfl hk (by omega) (l[k]?.getD []) b1 o1 q1 q2 q3)).mono ?_
            rintro e w' ⟨he, hb⟩
            refine ⟨?_, hb⟩
            unfold readQ
            rw [if_pos ht]
            rcases he with ⟨rfl, hno⟩ | ⟨m, hm, hm1, hm2, rfl⟩
            · rw [lastQ_none W k _ hno]; rfl
            · rw [lastQ_at W k _ m hm hm1 hm2]
          · refine (callsIn_wide.1 (read_no_in Fence.wide 8 trivial trivial rfl (by omega) a1 a2 l.length c1 W.length c2 arm i down c.w (by simpa [thereQ] using ht))).mono ?_
            rintro e w' ⟨rfl, hb⟩
            refine ⟨?_, hb⟩
            unfold readQ
            rw [if_neg ht]
        refine hcall.mono ?_
        rintro e w' ⟨rfl, hb⟩
        obtain ⟨k1, k2⟩ := hWR.below hb
        refine ⟨_, _, rfl, by simpa [withKeys] using hS, k1, k2, ?_, rfl⟩
        refine .pure (.tup _ [_, _] rfl fun i a v ha hv => ?_)
        match i with
        | 0 => cases ha; cases hv; exact .str _
        | 1 => cases ha; cases hv; exact .bool _
        | n + 2 => simp at ha
      · cases hr
    · cases hr
  · cases hr
def readPK : PK := { D := Ret, dec := readG, out := .leaf }
theorem readPK_G : readPK.G = readG := by
  funext args out
  unfold PK.G readPK
  cases h : readG args out with
  | none => simp only [h]
  | some r => simp only [h]; rfl
theorem PKsOk.read {pk : PKs} (h : PKsOk Try.prog pk) : PKsOk Try.prog (pk.add 14 readPK) := by
  intro g q hq
  unfold PKs.add at hq
  split at hq
  · rename_i hg
    cases hq
    subst hg
    rw [readPK_G]
    exact readG_ok
  · exact h g q hq
end

end Go.Proofs.Ytlomiepgghlhbaa
