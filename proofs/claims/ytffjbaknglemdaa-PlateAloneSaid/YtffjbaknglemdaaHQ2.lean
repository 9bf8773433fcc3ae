import Derived.Test.YtffjbaknglemdaaHL0
namespace Go.Proofs.Ytffjbaknglemdaa.X
open Go.RowKit Go.Maps Go.Proofs.YtffjbaknglemdaaW.PrintWords Go.Proofs.YtffjbaknglemdaaW.PrintLast Go.Proofs.YtffjbaknglemdaaW.PrintMore
set_option linter.unusedSimpArgs false
set_option linter.unusedVariables false

/-! ### plans: the reference's errors are the program's -/
theorem has_f (a b c d : Int) : plate_Range_has.f a b c d = some (decide (a ≤ c) && decide (wrap64 (wrap64 (c + d) - 1) ≤ b)) := by
  unfold plate_Range_has.f
  by_cases h : a ≤ c
  · rw [if_pos h]; simp [h]
  · rw [if_neg h]; simp [h]
theorem fits_ref (x : S82) (p : S88) : fitsB (toW x) (toP p) = fitR x p := by
  unfold fitsB fitR fitsR plate_Wanted_fits.f
  simp only [has_f, Option.bind_some, toW, toP]
  rw [← Bool.and_assoc (decide (x.f4.f0 ≤ p.f0))]
  generalize (decide (x.f4.f0 ≤ p.f0) && decide (wrap64 (wrap64 (p.f0 + p.f2) - 1) ≤ x.f4.f1)) = X
  generalize (decide (x.f5.f0 ≤ p.f1) && decide (wrap64 (wrap64 (p.f1 + p.f3) - 1) ≤ x.f5.f1)) = Y
  by_cases h0 : p.f2 = x.f0 <;> by_cases h1 : p.f3 = x.f1 <;> by_cases h2 : p.f2 = x.f1 <;> by_cases h3 : p.f3 = x.f0 <;> simp only [h0, h1, h2, h3, if_true, if_false, beq_iff_eq, Bool.and_eq_true, Bool.or_eq_true] <;> cases x.f2 <;> cases X <;> cases Y <;> simp [h0, h1, h2, h3] <;> simp_all
theorem range_ref (m : Nat) (n : Int) : useOk m n = rangeR m n := by
  rw [Bool.eq_iff_iff, useOk_iff]; unfold rangeR; rw [inB_iff]; omega
theorem used_ref {ps : List S88} {cs : List Bool} : ∀ (r : List (Int × S82)) (used prev : List Int), (∀ x ∈ r, -1 ≤ x.1) → (∀ n, 0 ≤ n → (n ∈ used ↔ n ∈ prev)) → useLoop (ps.map toP) cs used (r.map fun x => (x.1, toW x.2)) = usedR ps cs prev r
  | [], _, _, _, _ => rfl
  | (n, x) :: r, used, prev, hr, hu => by
    rw [List.map_cons, usedR]
    show useLoop (ps.map toP) cs used ((n, toW x) :: r.map fun x => (x.1, toW x.2)) = _
    rw [useLoop_cons]
    have hn := hr (n, x) (by simp)
    simp only at hn
    by_cases h1 : n = -1
    · rw [if_pos h1, if_pos (show n < 0 by omega)]
      exact used_ref r used (prev ++ [n]) (fun y hy => hr y (by simp [hy])) (fun k hk => by rw [hu k hk]; simp; omega)
    · have e := hu n (by omega)
      have e2 : cs.getD n.toNat false = rdOf false cs n := rfl
      rw [if_neg h1, if_neg (show ¬ n < 0 by omega), rd_toP, fits_ref, e2, used_ref r (n :: used) (prev ++ [n]) (fun y hy => hr y (by simp [hy])) (fun k hk => by simp [hu k hk]; exact Or.comm)]
      by_cases h2 : n ∈ prev
      · rw [if_pos (e.2 h2), if_pos h2]; simp
      · rw [if_neg (fun h => h2 (e.1 h)), if_neg h2]
theorem idxI_nil (n : Int) (i : Nat) : idxI [] n i = -1 := rfl
/-- What a right plan is. -/
structure Right (a0 a1 a2 : Int) (l : List S82) (cuts : List S107) (uses : List Int) (st : List S88 × List Bool) : Prop where
  ok : PlOk a0 a1 a2 (l.map toW)
  steps : stepsR a2 ([⟨0, 0, a0, a1⟩], [false]) cuts = some st
  in8 : All8 (cv st).1
  len : uses.length = l.length
  l4 : l.length ≤ 4
  c40 : cuts.length ≤ 40
  rng : ∀ n ∈ uses, -1 ≤ n ∧ n < st.1.length
  used : usedR st.1 st.2 [] (uses.zip l) = true
  planned : plannedOf a0 a1 a2 (l.map toW) (cuts.map toC) uses = (0, some (cv st))
theorem planned_ref {a0 a1 a2 : Int} {l : List S82} {cuts : List S107} {uses : List Int} (hc : WB107 cuts) : (∃ er, er ≠ 0 ∧ plannedR a0 a1 a2 l cuts uses = er ∧ plannedOf a0 a1 a2 (l.map toW) (cuts.map toC) uses = (er, none)) ∨ (plannedR a0 a1 a2 l cuts uses = 0 ∧ ∃ st, Right a0 a1 a2 l cuts uses st) := by
  unfold plannedR
  by_cases hf : faultR a0 a1 a2 l = 0
  · rw [if_pos hf]
    have hl4 : l.length ≤ 4 := by have := (fault_ok hf).len; simpa using this
    unfold planFaultR
    by_cases h40 : 40 < cuts.length
    · rw [if_pos h40]
      refine .inl ⟨3, by decide, rfl, ?_⟩
      unfold plannedOf doOf
      rw [chk_ref, hf, if_neg (by simp), List.length_map, if_pos h40]
    · rw [if_neg h40]
      obtain ⟨hdo, h8⟩ := do_ref hf hc (by omega)
      cases hst : stepsR a2 ([⟨0, 0, a0, a1⟩], [false]) cuts with
      | none =>
        refine .inl ⟨11, by decide, rfl, ?_⟩
        unfold plannedOf
        rw [hdo, hst]; rfl
      | some st =>
        have hpl : plannedOf a0 a1 a2 (l.map toW) (cuts.map toC) uses = plannedFin (l.map toW) uses (cv st) := by unfold plannedOf; rw [hdo, hst]; rfl
        rw [hpl]
        have h8 := h8 st hst
        unfold plannedFin
        have hall : uses.all (useOk (cv st).1.length) = uses.all (rangeR st.1.length) := by
          have e : (cv st).1.length = st.1.length := by simp [cv]
          rw [e]; congr 1; funext n; exact range_ref _ n
        rw [List.length_map, hall]
        dsimp only
        by_cases hlen : uses.length ≠ l.length
        · rw [if_pos hlen, if_pos hlen]; exact .inl ⟨2, by decide, rfl, rfl⟩
        rw [if_neg hlen, if_neg hlen]
        by_cases hr : uses.all (rangeR st.1.length) = true
        · rw [if_pos hr, if_pos hr]
          have hrng : ∀ n ∈ uses, -1 ≤ n ∧ n < st.1.length := fun n hn => by
            have := List.all_eq_true.1 hr n hn
            unfold rangeR at this; rw [inB_iff] at this; omega
          have hu : useLoop (cv st).1 (cv st).2 [] (uses.zip (l.map toW)) = usedR st.1 st.2 [] (uses.zip l) := by
            rw [List.zip_map_right]
            exact used_ref (uses.zip l) [] [] (fun x hx => (hrng x.1 (List.of_mem_zip hx).1).1) (fun _ _ => Iff.rfl)
          unfold finR
          by_cases hz : usedR st.1 st.2 [] (uses.zip l) = true
          · rw [if_pos hz]
            refine .inr ⟨rfl, st, fault_ok hf, hst, h8, by omega, hl4, by omega, hrng, hz, ?_⟩
            rw [hpl]; unfold plannedFin
            rw [List.length_map, if_neg hlen, hall, if_pos hr, hu, if_pos hz]
          · rw [if_neg hz]
            refine .inl ⟨11, by decide, rfl, ?_⟩
            rw [hu, if_neg hz]
        · rw [if_neg hr, if_neg hr]; exact .inl ⟨2, by decide, rfl, rfl⟩
  · rw [if_neg hf]
    refine .inl ⟨_, hf, rfl, ?_⟩
    unfold plannedOf doOf
    rw [chk_ref, if_pos hf]
/-! what a unit has become -/
def Cov (p : S103) (x y : Int) : Prop := p.f0 ≤ x ∧ x < p.f0 + p.f2 ∧ p.f1 ≤ y ∧ y < p.f1 + p.f3
theorem coversB_iff {p : S103} (hp : In8 p) {x y : Int} (hx : 0 ≤ x ∧ x < 8) (hy : 0 ≤ y ∧ y < 8) : coversB p x y = true ↔ Cov p x y := by
  obtain ⟨x0, y0, w0, l0, x1, y1⟩ := hp
  unfold coversB plate_Piece_covers.f Cov
  rw [within_f, within_f, w64 (z := x - p.f0) (by omega) (by omega), w64 (z := y - p.f1) (by omega) (by omega), w64 (z := p.f2 - 1) (by omega) (by omega), w64 (z := p.f3 - 1) (by omega) (by omega)]
  simp only [Option.bind_some]
  by_cases h : 0 ≤ x - p.f0 ∧ x - p.f0 ≤ p.f2 - 1
  · rw [if_pos (decide_eq_true h)]
    show decide _ = true ↔ _
    rw [decide_eq_true_eq]; omega
  · rw [if_neg (by rw [decide_eq_true_eq]; exact h)]
    show false = true ↔ _
    constructor
    · intro hh; cases hh
    · rintro ⟨h1, h2, h3, h4⟩; exact absurd ⟨by omega, by omega⟩ h
theorem coverR_iff {p : S88} (hp : In8 (toP p)) {x y : Int} : coverR p x y = true ↔ Cov (toP p) x y := by
  obtain ⟨x0, y0, w0, l0, x1, y1⟩ := hp
  simp only [toP] at x0 y0 w0 l0 x1 y1
  unfold coverR Cov
  rw [w64 (z := p.f0 + p.f2) (by omega) (by omega), w64 (z := p.f1 + p.f3) (by omega) (by omega), w64 (z := p.f0 + p.f2 - 1) (by omega) (by omega), w64 (z := p.f1 + p.f3 - 1) (by omega) (by omega), Bool.and_eq_true, inB_iff, inB_iff]
  simp only [toP]; omega
theorem cover_ref {p : S88} (hp : In8 (toP p)) {x y : Int} (hx : 0 ≤ x ∧ x < 8) (hy : 0 ≤ y ∧ y < 8) : coversB (toP p) x y = coverR p x y := by
  rw [Bool.eq_iff_iff, coversB_iff hp hx hy, coverR_iff hp]
theorem pieceAt_ref {x y : Int} (hx : 0 ≤ x ∧ x < 8) (hy : 0 ≤ y ∧ y < 8) : ∀ (n : Nat) (r : List (S88 × Bool)), (∀ p ∈ r, In8 (toP p.1)) → pieceAt x y n (r.map fun p => (toP p.1, p.2)) = traceR x y n r
  | _, [], _ => rfl
  | n, p :: r, h => by
    simp only [List.map_cons, pieceAt, traceR]
    rw [cover_ref (h p (by simp)) hx hy, pieceAt_ref hx hy (n + 1) r (fun q hq => h q (by simp [hq]))]
theorem trace_ref {x y : Int} (hx : 0 ≤ x ∧ x < 8) (hy : 0 ≤ y ∧ y < 8) {st : List S88 × List Bool} (h8 : All8 (cv st).1) : pieceAt x y 0 ((cv st).1.zip (cv st).2) = traceR x y 0 (st.1.zip st.2) := by
  have e : (cv st).1.zip (cv st).2 = (st.1.zip st.2).map fun p => (toP p.1, p.2) := by
    show (st.1.map toP).zip st.2 = _
    rw [List.zip_map_left]; rfl
  rw [e]
  exact pieceAt_ref hx hy 0 _ (fun p hp => h8 _ (List.mem_map.2 ⟨p.1, (List.of_mem_zip hp).1, rfl⟩))
end Go.Proofs.Ytffjbaknglemdaa.X
