/- An operation knows of the store only what it reads. -/
import Derived.Test.YtihgfpggdkhhaaaAbSound
set_option linter.unusedVariables false
set_option linter.unusedSimpArgs false
namespace Go.Ab
open Go

section
variable {P : Program} {bs bs' : List (Nat × Blk)}

theorem ldBlk_congr {b : Nat} (h : look bs' b = look bs b) (v : Nat) : ldBlk bs' b v = ldBlk bs b v := by unfold ldBlk; rw [h]
theorem nextV_congr {b : Nat} (h : look bs' b = look bs b) : nextV bs' b = nextV bs b := by unfold nextV; rw [h]

theorem mapO_eq {α β : Type} {f g : α → Option β} : ∀ {l : List α}, (∀ a ∈ l, f a = g a) → mapO f l = mapO g l
  | [], _ => rfl
  | a :: l, h => by simp only [mapO]; rw [h a (by simp), mapO_eq (fun x hx => h x (by simp [hx]))]

theorem mapN_eq {α : Type} {f g : Nat → Option α} : ∀ {l : List Nat}, (∀ a ∈ l, f a = g a) → mapN f l = mapN g l
  | [], _ => rfl
  | a :: l, h => by simp only [mapN]; rw [h a (by simp), mapN_eq (fun x hx => h x (by simp [hx]))]

theorem freeze_congr : ∀ {l : List Nat}, (∀ b ∈ l, look bs' b = look bs b) → freeze bs' l = freeze bs l
  | [], _ => rfl
  | b :: r, h => by simp only [freeze]; rw [h b (by simp), freeze_congr (fun x hx => h x (by simp [hx]))]

theorem pureC_congr {a : AV} (h : ∀ b ∈ rowsC a, look bs' b = look bs b) : pureC bs' a = pureC bs a := by
  cases a <;> first | rfl | skip
  · rename_i b v off len
    have : pureM bs' b v = pureM bs b v := by unfold pureM; rw [ldBlk_congr (h b (by simp [rowsC]))]
    simp only [pureC, renC, this]
  · rename_i f fs cs
    cases fs <;> cases cs <;> rfl

theorem pureA_not {a : AV} (h : ∀ l, a ≠ .agg l) (bs : List (Nat × Blk)) : pureA bs a = pureC bs a := by
  unfold pureA
  split
  · exact absurd rfl (h _)
  · rfl
theorem rowsA_not {a : AV} (h : ∀ l, a ≠ .agg l) : rowsA a = rowsC a := by
  unfold rowsA
  split
  · exact absurd rfl (h _)
  · rfl

theorem pureA_congr {a : AV} (h : ∀ b ∈ rowsA a, look bs' b = look bs b) : pureA bs' a = pureA bs a := by
  cases a with
  | agg cs =>
    simp only [pureA]
    rw [mapO_eq (fun x hx => pureC_congr (fun b hb => h b (List.mem_flatMap.2 ⟨x, hx, hb⟩)))]
  | _ =>
    rw [pureA_not (by simp), pureA_not (by simp)]
    exact pureC_congr (fun b hb => h b (by rw [rowsA_not (by simp)]; exact hb))

theorem argOf_congr {byref : Bool} {a : AV} (h : ∀ b ∈ rowsA a, look bs' b = look bs b) : argOf bs' byref a = argOf bs byref a := by
  unfold argOf
  split
  · rfl
  · split
    · rfl
    · rfl
    · exact pureA_congr h

theorem addNew_sub : ∀ (l acc : List Nat), (∀ x ∈ acc, x ∈ addNew acc l)
  | [], acc => fun x h => h
  | y :: r, acc => fun x h => by
    simp only [addNew]
    split
    · exact addNew_sub r acc x h
    · exact addNew_sub r _ x (by simp [h])

theorem closeR_sub (bs : List (Nat × Blk)) : ∀ (n : Nat) (l : List Nat), ∀ x ∈ l, x ∈ closeR bs n l
  | 0, _ => fun x h => h
  | n + 1, l => fun x h => closeR_sub bs n _ x (addNew_sub _ l x h)

theorem blkRefs_congr {b : Nat} (h : look bs' b = look bs b) : blkRefs bs' b = blkRefs bs b := by unfold blkRefs; rw [h]

theorem flatMap_eq {α β : Type} {f g : α → List β} : ∀ {l : List α}, (∀ a ∈ l, f a = g a) → l.flatMap f = l.flatMap g
  | [], _ => rfl
  | a :: l, h => by rw [List.flatMap_cons, List.flatMap_cons, h a (by simp), flatMap_eq (fun x hx => h x (by simp [hx]))]

theorem closeR_congr : ∀ (n : Nat) (l : List Nat), (∀ b ∈ closeR bs n l, look bs' b = look bs b) → closeR bs' n l = closeR bs n l
  | 0, _, _ => rfl
  | n + 1, l, h => by
    simp only [closeR]
    rw [flatMap_eq (f := blkRefs bs') (g := blkRefs bs) (fun b hb => blkRefs_congr (h b (closeR_sub bs _ _ b hb)))]
    exact closeR_congr n _ h

theorem nameM_congr {ks : List Nat} (h : ∀ b ∈ ks, look bs' b = look bs b) (base : Nat) : nameM bs' ks base = nameM bs ks base := by
  funext b v
  unfold nameM
  by_cases hb : b ∈ ks
  · rw [ldBlk_congr (h b hb)]
  · have : idx? ks b 0 = none := by
      cases hi : idx? ks b 0 with
      | none => rfl
      | some i => exact absurd (List.mem_of_getElem? (idx_some hi).2) hb
    rw [this]
    cases ldBlk bs' b v <;> cases ldBlk bs b v <;> rfl

theorem callIn_congr {byref : Bool} {args : List AV} (h : ∀ b ∈ callReads bs byref args, look bs' b = look bs b) : callIn bs' byref args = callIn bs byref args := by
  have h1 : mapO (argOf bs' byref) args = mapO (argOf bs byref) args :=
    mapO_eq (fun a ha => argOf_congr (fun b hb => h b (List.mem_append.2 (.inl (List.mem_flatMap.2 ⟨a, ha, hb⟩)))))
  unfold callIn
  rw [h1]
  cases hm : mapO (argOf bs byref) args with
  | none => rfl
  | some args1 =>
    simp only
    have h2 : ∀ b ∈ closeR bs 3 (addNew [] (args1.flatMap refsA)), look bs' b = look bs b := fun b hb => h b (by
      unfold callReads
      rw [hm]
      exact List.mem_append.2 (.inr hb))
    rw [closeR_congr 3 _ h2, nameM_congr h2]
    have : mapN (renAt bs' (nameM bs (closeR bs 3 (addNew [] (args1.flatMap refsA))) outBase)) (closeR bs 3 (addNew [] (args1.flatMap refsA))) =
        mapN (renAt bs (nameM bs (closeR bs 3 (addNew [] (args1.flatMap refsA))) outBase)) (closeR bs 3 (addNew [] (args1.flatMap refsA))) :=
      mapN_eq (fun b hb => by unfold renAt; rw [h2 b hb])
    rw [this]

theorem callIn_ks {byref : Bool} {args args2 : List AV} {ks : List Nat} {out : List Blk} (h : callIn bs byref args = some (args2, ks, out)) : ∀ b ∈ ks, b ∈ callReads bs byref args := by
  unfold callIn at h
  unfold callReads
  split at h
  · cases h
  · rename_i args1 hm
    dsimp only at h
    rw [hm]
    (repeat' split at h) <;> first | cases h | skip
    exact fun b hb => List.mem_append.2 (.inr hb)

theorem backOut_congr {m : Nat → Nat → Option Nm} : ∀ {ks : List Nat} {xs : List Blk}, (∀ b ∈ ks, look bs' b = look bs b) → backOut bs' m ks xs = backOut bs m ks xs
  | [], [], _ => rfl
  | [], _ :: _, _ => rfl
  | _ :: _, [], _ => rfl
  | k :: ks, x :: xs, h => by simp only [backOut]; rw [h k (by simp), backOut_congr (fun b hb => h b (by simp [hb]))]

theorem backNew_congr {m : Nat → Nat → Option Nm} {d : Nat} : ∀ {j : Nat} {xs : List Blk}, (∀ i, j ≤ i → i < j + xs.length → look bs' (16 * d + i) = look bs (16 * d + i)) → backNew bs' m d j xs = backNew bs m d j xs
  | _, [], _ => rfl
  | j, x :: xs, h => by
    simp only [backNew]
    rw [nextV_congr (h j (Nat.le_refl _) (by simp)), backNew_congr (fun i h1 h2 => h i (by omega) (by simp; omega))]

theorem own_mem {t j : Nat} (h : j < 16) : 16 * t + j ∈ ownK (some t) := List.mem_map.2 ⟨j, List.mem_range.2 h, rfl⟩

theorem callOut_congr {thaw : Bool} {d : Option Tmp} {ks l : List Nat} {r : Ret} {res : Res} (hk : ∀ b ∈ ks, look bs' b = look bs b) (hl : ∀ b ∈ l, look bs' b = look bs b) (hd : ∀ b ∈ ownK d, look bs' b = look bs b)
    (h : callOut bs thaw d ks l r = some res) : callOut bs' thaw d ks l r = some res := by
  rw [← h]
  unfold callOut at h ⊢
  dsimp only at h ⊢
  generalize hfull : ((thaw || r.new.any fun x => decide (x.k = .box)) && d.isSome) = full at h ⊢
  split at h
  case isFalse => cases h
  rename_i hchk
  rw [if_pos hchk, if_pos hchk]
  by_cases hf : full = true
  · have hds : d.isSome = true := by
      rw [← hfull] at hf
      simp only [Bool.and_eq_true] at hf
      exact hf.2
    obtain ⟨t, rfl⟩ := Option.isSome_iff_exists.1 hds
    have hlen : r.new.length ≤ 16 := by
      rcases Nat.lt_or_ge 16 r.new.length with hgt | hle
      · exfalso
        simp only [if_pos hf, if_neg (show ¬ r.new.length ≤ 16 by omega)] at h
        split at h
        · cases h
        · split at h <;> cases h
      · exact hle
    have hnew : ∀ i, i < 16 → look bs' (16 * t + i) = look bs (16 * t + i) := fun i hi => hd _ (own_mem hi)
    have hm : backM bs' ks r full t = backM bs ks r full t := by
      funext b v
      unfold backM
      split
      · rfl
      split
      · rfl
      split
      · split
        · rename_i x k hx hk'
          rw [hk k (List.mem_of_getElem? hk')]
        · rfl
      · split
        · rename_i x hx
          have hlt := (List.getElem?_eq_some_iff.1 hx).1
          rw [nextV_congr (hnew (b - newBase) (by omega))]
        · rfl
    simp only [Option.getD_some]
    rw [hm, freeze_congr hl, backOut_congr hk, backNew_congr (fun i _ h2 => hnew i (by omega))]
  · have hm : backM bs' ks r full (d.getD 0) = backM bs ks r full (d.getD 0) := by
      funext b v
      unfold backM
      split
      · rfl
      split
      · rfl
      split
      · split
        · rename_i x k hx hk'
          rw [hk k (List.mem_of_getElem? hk')]
        · rfl
      · simp only [if_neg hf]
    rw [hm, freeze_congr hl, backOut_congr hk]
    simp only [if_neg hf]

theorem aCall_congr {cfg : Cfg} {callF : CallF} {d : Option Tmp} {f : FuncId} {args : List AV} {res : Res} (h1 : ∀ b ∈ callReads bs (cfg.byref f) args, look bs' b = look bs b) (h2 : ∀ b ∈ ownK d, look bs' b = look bs b)
    (h : aCall cfg callF bs d f args = some res) : aCall cfg callF bs' d f args = some res := by
  unfold aCall at h ⊢
  rw [callIn_congr h1]
  split at h
  · cases h
  rename_i args2 ks out hin
  split at h
  · cases h
  rename_i r hr
  refine callOut_congr (fun b hb => h1 b (callIn_ks hin b hb)) (fun b hb => h1 b ?_) h2 h
  unfold callReads
  refine List.mem_append.2 (.inl ?_)
  obtain ⟨a, ha, hb⟩ := List.mem_flatMap.1 hb
  refine List.mem_flatMap.2 ⟨a, ha, ?_⟩
  unfold argRows at hb
  split at hb
  · simp at hb
  · exact hb

theorem cellsAt_congr {p : AV} (h : ∀ b ∈ refsT p, look bs' b = look bs b) : cellsAt bs' p = cellsAt bs p := by
  cases p <;> first | rfl | skip
  rename_i b v i off
  simp only [cellsAt]
  rw [ldBlk_congr (h b (by simp [refsT, refsA, refsC]))]

theorem rowAt_congr {b v off len : Nat} (h : look bs' b = look bs b) : rowAt bs' b v off len = rowAt bs b v off len := by
  unfold rowAt
  rw [ldBlk_congr h]

theorem elemsOf_congr {x : AV} (h : ∀ b ∈ refsT x, look bs' b = look bs b) : elemsOf bs' x = elemsOf bs x := by
  cases x <;> first | rfl | skip
  rename_i b v off len
  exact rowAt_congr (h b (by simp [refsT, refsA, refsC]))

theorem appended_congr {e : TypeId} {x : AV} (h : ∀ b ∈ refsT x, look bs' b = look bs b) : appended P bs' e x = appended P bs e x := by
  cases x <;> first | rfl | simp only [appended, elemsOf_congr h]

theorem slc_refs {b v off len : Nat} : b ∈ refsT (.sref b v off len) := by simp [refsT, refsA, refsC]
theorem ptr_refs {b v off len : Nat} : b ∈ refsT (.ptr b v off len) := by simp [refsT, refsA, refsC]

theorem own0 {t : Nat} : 16 * t ∈ ownK (some t) := List.mem_map.2 ⟨0, by simp, by omega⟩

theorem newBox_congr {d : Option Tmp} {cs : List AV} (hd : ∀ b ∈ ownK d, look bs' b = look bs b) : newBox bs' d cs = newBox bs d cs := by
  unfold newBox
  cases d with
  | none => rfl
  | some t => simp only [keyOf, newBlk, nextV_congr (hd _ own0)]

theorem newRow_congr {d : Option Tmp} {sz : Nat} {es : List AV} {more : List (Nat × Blk)} (hd : ∀ b ∈ ownK d, look bs' b = look bs b) : newRow bs' d sz es more = newRow bs d sz es more := by
  unfold newRow
  cases d with
  | none => rfl
  | some t => simp only [keyOf, newBlk, nextV_congr (hd _ own0)]

theorem aIndexAddr_congr {t : TypeId} {x i : AV} (h : ∀ b ∈ refsT x, look bs' b = look bs b) : aIndexAddr P bs' t x i = aIndexAddr P bs t x i := by
  cases x <;> first | rfl | skip
  · rename_i b v off len
    simp only [aIndexAddr, ldBlk_congr (h b slc_refs)]
  · rename_i b v off len
    simp only [aIndexAddr, cellsAt_congr h]

theorem aFieldAddr_congr {t : TypeId} {x : AV} {f : Nat} (h : ∀ b ∈ refsT x, look bs' b = look bs b) : aFieldAddr P bs' t x f = aFieldAddr P bs t x f := by
  cases x <;> first | rfl | skip
  simp only [aFieldAddr, cellsAt_congr h]

theorem aSlice_congr {t : TypeId} {x : AV} {lo hi mx : Option AV} (h : ∀ b ∈ refsT x, look bs' b = look bs b) : aSlice P bs' t x lo hi mx = aSlice P bs t x lo hi mx := by
  cases x <;> first | rfl | skip
  rename_i b v off len
  simp only [aSlice, ldBlk_congr (h b slc_refs)]

theorem aLen_congr {t : TypeId} {x : AV} (h : ∀ b ∈ refsT x, look bs' b = look bs b) : aLen P bs' t x = aLen P bs t x := by
  cases x <;> first | rfl | skip
  rename_i b v off len
  simp only [aLen, rowAt_congr (h b slc_refs)]

theorem aConv_congr {d : Option Tmp} {src dst : TypeId} {x : AV} (h : ∀ b ∈ refsT x, look bs' b = look bs b) (hd : ∀ b ∈ ownK d, look bs' b = look bs b) : aConv P bs' d src dst x = aConv P bs d src dst x := by
  cases x <;> first | rfl | skip
  · simp only [aConv, newRow_congr hd]
  · rename_i b v off len
    simp only [aConv, elemsOf_congr h, ldBlk_congr (h b slc_refs)]

theorem aAppend_congr {d : Option Tmp} {sT xT : TypeId} {s x : AV} (h1 : ∀ b ∈ refsT s, look bs' b = look bs b) (h2 : ∀ b ∈ refsT x, look bs' b = look bs b) (hd : ∀ b ∈ ownK d, look bs' b = look bs b) :
    aAppend P bs' d sT xT s x = aAppend P bs d sT xT s x := by
  unfold aAppend
  rw [appended_congr h2]
  cases s <;> first | rfl | skip
  · simp only [newRow_congr hd]
  · rename_i b v off len
    simp only [ldBlk_congr (h1 b slc_refs)]
    cases d with
    | none => rfl
    | some t => simp only [keyOf, nextV_congr (hd _ own0)]

theorem aCopy_congr {dT : TypeId} {s x : AV} (h1 : ∀ b ∈ refsT s, look bs' b = look bs b) (h2 : ∀ b ∈ refsT x, look bs' b = look bs b) : aCopy P bs' dT s x = aCopy P bs dT s x := by
  cases x <;> simp only [aCopy, elemsOf_congr h2] <;> cases s <;> first | rfl | simp only [ldBlk_congr (h1 _ slc_refs)]

theorem aClear_congr {t : TypeId} {x : AV} (h : ∀ b ∈ refsT x, look bs' b = look bs b) : aClear P bs' t x = aClear P bs t x := by
  cases x with
  | slc x es => cases es <;> rfl
  | sref b v off len => simp only [aClear, ldBlk_congr (h b slc_refs)]
  | _ => rfl

theorem rowsC_refs {a : AV} : ∀ b ∈ rowsC a, b ∈ refsC a := by
  cases a <;> intro b hb <;> simp [rowsC] at hb
  simp [refsC, hb]

theorem rowsA_refs {a : AV} : ∀ b ∈ rowsA a, b ∈ refsT a := by
  cases a with
  | agg cs =>
    intro b hb
    obtain ⟨x, h1, h2⟩ := List.mem_flatMap.1 hb
    exact List.mem_flatMap.2 ⟨x, h1, rowsC_refs b h2⟩
  | sref b' v off len => intro b hb; simp [rowsA, rowsC] at hb; subst hb; exact slc_refs
  | _ => intro b hb; simp [rowsA, rowsC] at hb

theorem rowsA_cells {a x : AV} (hx : x ∈ a.cells) : ∀ b ∈ rowsC x, b ∈ rowsA a := by
  cases a with
  | agg cs => exact fun b hb => List.mem_flatMap.2 ⟨x, hx, hb⟩
  | _ => simp [AV.cells] at hx; subst hx; exact fun b hb => hb

theorem aStore_congr {t : TypeId} {p x : AV} (h1 : ∀ b ∈ refsT p, look bs' b = look bs b) (h2 : ∀ b ∈ refsT x, look bs' b = look bs b) : aStore P bs' t p x = aStore P bs t p x := by
  have h3 : mapO (pureC bs') x.cells = mapO (pureC bs) x.cells := mapO_eq (fun a ha => pureC_congr (fun b hb => h2 b (rowsA_refs b (rowsA_cells ha b hb))))
  have h4 : freeze bs' (rowsA x) = freeze bs (rowsA x) := freeze_congr (fun b hb => h2 b (rowsA_refs b hb))
  unfold aStore
  rw [h3, h4]
  cases p <;> first | rfl | skip
  rename_i b v i off
  simp only [ldBlk_congr (h1 b ptr_refs)]

theorem setAll_congr {sz : Nat} : ∀ {parts : List (Nat × AV)} {es : List AV}, (∀ q ∈ parts, ∀ b ∈ rowsA q.2, look bs' b = look bs b) → setAll bs' sz es parts = setAll bs sz es parts
  | [], _, _ => rfl
  | (i, x) :: r, es, h => by
    simp only [setAll]
    rw [pureA_congr (h (i, x) (by simp))]
    cases pureA bs x with
    | none => rfl
    | some y =>
      simp only
      rw [setAll_congr (fun q hq => h q (by simp [hq]))]

theorem aBuildSlice_congr {d : Option Tmp} {t : TypeId} {len : Nat} {parts : List (Nat × AV)} (h : ∀ q ∈ parts, ∀ b ∈ rowsA q.2, look bs' b = look bs b) (hd : ∀ b ∈ ownK d, look bs' b = look bs b) :
    aBuildSlice P bs' d t len parts = aBuildSlice P bs d t len parts := by
  unfold aBuildSlice
  rw [freeze_congr (fun b hb => let ⟨q, h1, h2⟩ := List.mem_flatMap.1 hb; h q h1 b h2)]
  simp only [setAll_congr h, newRow_congr hd]

theorem frame {cfg : Cfg} {callF : CallF} {s s' : St} {o : Oper} (hev : ∀ x ∈ o.op.operands, s'.ev x = s.ev x) (hA : ∀ b ∈ readsK cfg s o, look s'.bs b = look s.bs b) {v : AV} {ds : List (Nat × Blk)}
    (h : aOp P cfg callF s o = some (.val v ds)) : aOp P cfg callF s' o = some (.val v ds) := by
  obtain ⟨dst, op, type, pos, after, guard⟩ := o
  have hmap : ∀ (l : Array Operand), (∀ x ∈ l, x ∈ op.operands) → l.toList.map s'.ev = l.toList.map s.ev := fun l hl => List.map_congr_left (fun x hx => hev x (hl x (by simpa using hx)))
  have hrd : valueOp op = false → (∀ c, op ≠ .call c) → (∀ x ∈ op.operands, ∀ b ∈ refsT (s.ev x), look s'.bs b = look s.bs b) ∧ ∀ b ∈ ownK dst, look s'.bs b = look s.bs b := by
    intro hv hc
    have e : readsK cfg s { dst := dst, op := op, type := type, pos := pos, after := after, guard := guard } = op.operands.toList.flatMap (fun x => refsT (s.ev x)) ++ ownK dst := by
      cases op <;> first | exact absurd rfl (hc _) | (simp only [readsK, hv]; rfl) | cases hv
    rw [e] at hA
    exact ⟨fun x hx b hb => hA b (List.mem_append.2 (.inl (List.mem_flatMap.2 ⟨x, by simpa using hx, hb⟩))), fun b hb => hA b (List.mem_append.2 (.inr hb))⟩
  cases op <;> simp only [aOp] at h ⊢ <;> try (cases h; done)
  case move x => rw [hev x (by simp [Op.operands])]; exact h
  case assign x => rw [hev x (by simp [Op.operands])]; exact h
  case pick q x y => rw [hev q (by simp [Op.operands]), hev x (by simp [Op.operands]), hev y (by simp [Op.operands])]; exact h
  case alloc t =>
    obtain ⟨_, h2⟩ := hrd rfl (by simp)
    simp only [newBox_congr h2]; exact h
  case box t x =>
    obtain ⟨_, h2⟩ := hrd rfl (by simp)
    rw [hev x (by simp [Op.operands])]
    simp only [newBox_congr h2]; exact h
  case build t ps =>
    have : ps.toList.map (fun x => (x.1, s'.ev x.2)) = ps.toList.map (fun x => (x.1, s.ev x.2)) :=
      List.map_congr_left (fun x hx => by rw [hev x.2 (by simp only [Op.operands]; exact List.mem_toArray.2 (List.mem_map.2 ⟨x, hx, rfl⟩))])
    rw [this]; exact h
  case buildSlice t len ps =>
    obtain ⟨h1, h2⟩ := hrd rfl (by simp)
    have hp : ∀ x ∈ ps.toList, x.2 ∈ Op.operands (.buildSlice t len ps) := fun x hx => by simp only [Op.operands]; exact List.mem_toArray.2 (List.mem_map.2 ⟨x, hx, rfl⟩)
    have : ps.toList.map (fun x => (x.1, s'.ev x.2)) = ps.toList.map (fun x => (x.1, s.ev x.2)) := List.map_congr_left (fun x hx => by rw [hev x.2 (hp x hx)])
    rw [this, aBuildSlice_congr ?_ h2]
    · exact h
    · intro q hq b hb
      obtain ⟨x, hx, rfl⟩ := List.mem_map.1 hq
      exact h1 x.2 (hp x hx) b (rowsA_refs b hb)
  case load t x =>
    obtain ⟨h1, _⟩ := hrd rfl (by simp)
    rw [hev x (by simp [Op.operands])]
    simp only [aLoad, cellsAt_congr (h1 x (by simp [Op.operands]))] at h ⊢
    exact h
  case store t x y =>
    obtain ⟨h1, _⟩ := hrd rfl (by simp)
    rw [hev x (by simp [Op.operands]), hev y (by simp [Op.operands]), aStore_congr (h1 x (by simp [Op.operands])) (h1 y (by simp [Op.operands]))]
    exact h
  case nilCheck x =>
    obtain ⟨h1, _⟩ := hrd rfl (by simp)
    rw [hev x (by simp [Op.operands])]
    have hx := h1 x (by simp [Op.operands])
    generalize s.ev x = y at h hx ⊢
    cases y <;> first | exact h | skip
    simp only at h ⊢
    rw [cellsAt_congr hx]
    exact h
  case binOp op t x y _ => rw [hev x (by simp [Op.operands]), hev y (by simp [Op.operands])]; exact h
  case unOp op t x => rw [hev x (by simp [Op.operands])]; exact h
  case convert src d x =>
    obtain ⟨h1, h2⟩ := hrd rfl (by simp)
    rw [hev x (by simp [Op.operands]), aConv_congr (h1 x (by simp [Op.operands])) h2]; exact h
  case makeInterface t x => rw [hev x (by simp [Op.operands])]; exact h
  case makeFunc fn first captured =>
    cases fn <;> simp only at h ⊢ <;> try (cases h; done)
    rw [hmap first (fun x hx => by simp [Op.operands, hx]), hmap captured (fun x hx => by simp [Op.operands, hx])]; exact h
  case makeSlice t l m =>
    obtain ⟨_, h2⟩ := hrd rfl (by simp)
    rw [hev l (by simp [Op.operands]), hev m (by simp [Op.operands])]
    simp only [aMakeSlice, newRow_congr h2] at h ⊢
    exact h
  case slice t x lo hi mx =>
    obtain ⟨h1, _⟩ := hrd rfl (by simp)
    have e1 : lo.map s'.ev = lo.map s.ev := by cases lo with | none => rfl | some y => simp [hev y (by simp [Op.operands])]
    have e2 : hi.map s'.ev = hi.map s.ev := by cases hi with | none => rfl | some y => simp [hev y (by simp [Op.operands])]
    have e3 : mx.map s'.ev = mx.map s.ev := by cases mx with | none => rfl | some y => simp [hev y (by simp [Op.operands])]
    rw [hev x (by simp [Op.operands]), e1, e2, e3, aSlice_congr (h1 x (by simp [Op.operands]))]; exact h
  case fieldAddr t x f =>
    obtain ⟨h1, _⟩ := hrd rfl (by simp)
    rw [hev x (by simp [Op.operands]), aFieldAddr_congr (h1 x (by simp [Op.operands]))]; exact h
  case field t x f => rw [hev x (by simp [Op.operands])]; exact h
  case indexAddr t x i =>
    obtain ⟨h1, _⟩ := hrd rfl (by simp)
    rw [hev x (by simp [Op.operands]), hev i (by simp [Op.operands]), aIndexAddr_congr (h1 x (by simp [Op.operands]))]; exact h
  case index t x i => rw [hev x (by simp [Op.operands]), hev i (by simp [Op.operands])]; exact h
  case extract t i => rw [hev t (by simp [Op.operands])]; exact h
  case typeAssert x xT asserted ok => rw [hev x (by simp [Op.operands])]; exact h
  case panic x =>
    split at h
    · split at h <;> cases h
    · cases h
  case call cl =>
    obtain ⟨callee, args, argTypes⟩ := cl
    cases callee with
    | value f =>
      simp only at h ⊢
      rw [hev f (by simp [Op.operands, Call.operands])]
      have hargs : args.toList.map s'.ev = args.toList.map s.ev := hmap args (fun x hx => by simp [Op.operands, Call.operands, hx])
      rw [hargs]
      cases hf : s.ev f <;> rw [hf] at h <;> simp only at h ⊢ <;> try (cases h; done)
      have e : ∀ g first captured, s.ev f = .fn g first captured → readsK cfg s { dst := dst, op := .call { callee := .value f, args := args, argTypes := argTypes }, type := type, pos := pos, after := after, guard := guard } =
          callReads s.bs (cfg.byref g) (first ++ args.toList.map s.ev ++ captured) ++ ownK dst := by
        intro g first captured hg
        simp only [readsK, hg]
      rw [e _ _ _ hf] at hA
      exact aCall_congr (fun b hb => hA b (List.mem_append.2 (.inl hb))) (fun b hb => hA b (List.mem_append.2 (.inr hb))) h
    | invoke r m => simp at h
    | builtin b =>
      simp only at h ⊢
      have e : readsK cfg s { dst := dst, op := .call { callee := .builtin b, args := args, argTypes := argTypes }, type := type, pos := pos, after := after, guard := guard } =
          args.toList.flatMap (fun x => refsT (s.ev x)) ++ ownK dst := by
        simp [readsK, valueOp, Op.operands, Call.operands]
      rw [e] at hA
      have h1 : ∀ x ∈ args.toList.map s.ev, ∀ b ∈ refsT x, look s'.bs b = look s.bs b := by
        intro x hx b hb
        obtain ⟨y, hy, rfl⟩ := List.mem_map.1 hx
        exact hA b (List.mem_append.2 (.inl (List.mem_flatMap.2 ⟨y, hy, hb⟩)))
      have h2 : ∀ b ∈ ownK dst, look s'.bs b = look s.bs b := fun b hb => hA b (List.mem_append.2 (.inr hb))
      have hargs : args.toList.map s'.ev = args.toList.map s.ev := hmap args (fun x hx => by simp [Op.operands, Call.operands, hx])
      rw [hargs]
      generalize args.toList.map s.ev = as at h h1 ⊢
      unfold aBuiltin at h ⊢
      cases b <;> simp only at h ⊢ <;> try (cases h; done)
      case len =>
        split at h
        · split at h
          · rename_i x r
            simp only [aLen_congr (h1 x (by simp))]; exact h
          · cases h
        · cases h
      case append =>
        split at h
        · split at h
          · rename_i x y
            simp only [aAppend_congr (h1 x (by simp)) (h1 y (by simp)) h2]; exact h
          · cases h
        · cases h
      case copy =>
        split at h
        · split at h
          · rename_i x y
            simp only [aCopy_congr (h1 x (by simp)) (h1 y (by simp))]; exact h
          · cases h
        · cases h
      case clear =>
        split at h
        · split at h
          · rename_i x r
            simp only [aClear_congr (h1 x (by simp))]; exact h
          · cases h
        · cases h
      case min => exact h
      case max => exact h
  case defer cl =>
    obtain ⟨callee, args, argTypes⟩ := cl
    cases callee <;> simp only at h <;> first | (cases h; done) | (split at h <;> cases h)

end
end Go.Ab
