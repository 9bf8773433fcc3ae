import Derived.Test.YtffjbaknglemdaaHR6
import Derived.Test.YtffjbaknglemdaaHZ
namespace Go.Proofs.Ytffjbaknglemdaa.X
open Go.RowKit Go.Maps Go.Proofs.YtffjbaknglemdaaW.PrintWords Go.Proofs.YtffjbaknglemdaaW.PrintLast Go.Proofs.YtffjbaknglemdaaW.PrintMore
set_option linter.unusedSimpArgs false
set_option linter.unusedVariables false

/-! ### the reference and the program: the plain law of plates, cuts, plans -/
def toP (x : S88) : S103 := ⟨x.f0, x.f1, x.f2, x.f3⟩
theorem inB_iff {n lo hi : Int} : inB n lo hi = true ↔ lo ≤ n ∧ n ≤ hi := by simp [inB]
theorem wantB_iff (x : S82) : wantB x = true ↔ WOk (toW x) := by
  unfold wantB
  simp only [Bool.and_eq_true, inB_iff, Bool.not_eq_true', decide_eq_false_iff_not]
  constructor
  · rintro ⟨h1, h2, h3, h4, h5, h6, h7⟩
    exact ⟨h1, h2, h3, ⟨h4.1, h4.2, by simp only [toW]; omega⟩, ⟨h6.1, h6.2, by simp only [toW]; omega⟩⟩
  · rintro ⟨h1, h2, h3, h4, h5⟩
    simp only [toW] at h4 h5
    exact ⟨h1, h2, h3, ⟨h4.1, h4.2.1⟩, by omega, ⟨h5.1, h5.2.1⟩, by omega⟩
theorem validB_ref (x : S82) : validB (toW x) = wantB x := by
  rw [Bool.eq_iff_iff, validB_iff, wantB_iff]
theorem chk_ref (a0 a1 a2 : Int) (l : List S82) : chk a0 a1 a2 (l.map toW) = faultR a0 a1 a2 l := by
  unfold chk plate_CheckPlate.f faultR
  rw [side_f, side_f, within_f]
  unfold plate_all_Wanted.f
  have h1 : (l.map toW).all validB = l.all wantB := by rw [List.all_map]; congr 1; funext x; exact validB_ref x
  rw [h1]
  simp only [Option.bind_some, List.length_map]
  by_cases h4 : 4 < l.length
  · rw [if_pos h4, if_pos (by omega)]; rfl
  · rw [if_neg h4, if_neg (by omega)]
    have e0 : inB a0 1 8 = decide (1 ≤ a0 ∧ a0 ≤ 8) := by rw [Bool.eq_iff_iff, inB_iff]; simp
    have e1 : inB a1 1 8 = decide (1 ≤ a1 ∧ a1 ≤ 8) := by rw [Bool.eq_iff_iff, inB_iff]; simp
    have e2 : inB a2 0 2 = decide (0 ≤ a2 ∧ a2 ≤ 2) := by rw [Bool.eq_iff_iff, inB_iff]; simp
    rw [e0, e1, e2]
    cases decide (1 ≤ a0 ∧ a0 ≤ 8) <;> cases decide (1 ≤ a1 ∧ a1 ≤ 8) <;> cases decide (0 ≤ a2 ∧ a2 ≤ 2) <;> cases l.all wantB <;> rfl
theorem fault_ok {a0 a1 a2 : Int} {l : List S82} (h : faultR a0 a1 a2 l = 0) : PlOk a0 a1 a2 (l.map toW) := chk_zero.1 (by rw [chk_ref]; exact h)
theorem part_ref (p : S88) (ac : Bool) (f m : Int) (h1 : -100 ≤ p.f0 ∧ p.f0 ≤ 100) (h2 : -100 ≤ p.f1 ∧ p.f1 ≤ 100) (h3 : -100 ≤ f ∧ f ≤ 100) : toP (partR p ac f m) = part_ ac (toP p) f m := by
  unfold partR part_
  cases ac
  · simp only [toP, Bool.false_eq_true, if_false]; rw [w64 (by omega) (by omega)]
  · simp only [toP, if_true]; rw [w64 (by omega) (by omega)]
theorem parts_ref {p : S88} {ac : Bool} {at_ saw : Int} (hp : In8 (toP p)) (hs : 0 ≤ saw ∧ saw ≤ 2) (ha : I64 at_) : (partsR p ac at_ saw).map toP = partsN ac (toP p) at_ saw := by
  obtain ⟨x0, y0, w0, l0, x1, y1⟩ := hp
  have ef : farR p ac = far ac (toP p) := by unfold farR far; cases ac <;> rfl
  have hf : 1 ≤ far ac (toP p) ∧ far ac (toP p) ≤ 8 := by unfold far; split <;> omega
  simp only [toP] at x0 y0 w0 l0 x1 y1
  unfold partsR badR partsN
  rw [ef]
  by_cases h1 : at_ < 0
  · rw [if_pos (by simp [h1]), if_pos (.inl h1)]; rfl
  by_cases h2 : far ac (toP p) < at_
  · rw [if_pos (by simp [h2]), if_pos (.inr (.inl (by omega)))]; rfl
  have ew : wrap64 (at_ + saw) = at_ + saw := w64 (by omega) (by omega)
  rw [ew]
  by_cases h3 : far ac (toP p) < at_ + saw
  · rw [if_pos (by simp [h3]), if_pos (.inr (.inl (by omega)))]; rfl
  unfold goodR
  rw [ef, ew]
  by_cases h4 : at_ + saw = far ac (toP p) ∧ (at_ = 0 ∨ saw = 0)
  · rw [if_pos (by simp [h4.1]; rcases h4.2 with h | h <;> simp [h])]
    by_cases h5 : saw = 0
    · rw [if_pos (.inr (.inr ⟨h5, .inr (by omega)⟩))]; rfl
    · rw [if_neg (by omega), if_neg (by omega), if_neg (by omega)]; rfl
  by_cases h5 : at_ = 0 ∧ saw = 0
  · rw [if_pos (by simp [h5.1, h5.2]), if_pos (.inr (.inr ⟨h5.2, .inl h5.1⟩))]; rfl
  rw [if_neg (fun hb => by simp only [Bool.or_eq_true, Bool.and_eq_true, decide_eq_true_eq, beq_iff_eq] at hb; omega), if_neg (show ¬ (at_ < 0 ∨ far ac (toP p) - at_ - saw < 0 ∨ (saw = 0 ∧ (at_ = 0 ∨ far ac (toP p) - at_ - saw = 0))) by omega), List.map_append]
  congr 1
  · split
    · rw [List.map_cons, List.map_nil, part_ref p ac 0 at_ (by omega) (by omega) (by omega)]
    · rfl
  · by_cases h6 : at_ + saw < far ac (toP p)
    · rw [if_pos h6, if_pos (by omega), List.map_cons, List.map_nil, part_ref p ac _ _ (by omega) (by omega) (by omega), w64 (z := far ac (toP p) - at_) (by omega) (by omega), w64 (by omega) (by omega)]
    · rw [if_neg h6, if_neg (by omega)]; rfl

/-! cuts -/
def cv (st : List S88 × List Bool) : List S103 × List Bool := (st.1.map toP, st.2)
def All8 (ps : List S103) : Prop := ∀ p ∈ ps, In8 p
theorem rd_toP (ps : List S88) (n : Int) : (ps.map toP).getD n.toNat z103 = toP (rd_T88 ps n) := by
  unfold rd_T88
  simp only [List.getD_eq_getElem?_getD, List.getElem?_map]
  cases ps[n.toNat]? <;> rfl
theorem rd_in8 {ps : List S88} (h : All8 (ps.map toP)) {n : Int} (h0 : 0 ≤ n) (h1 : n < ps.length) : In8 (toP (rd_T88 ps n)) := by
  have hl : n.toNat < ps.length := by omega
  refine h _ (List.mem_map.2 ⟨_, ?_, rfl⟩)
  unfold rd_T88
  rw [List.getD_eq_getElem?_getD, List.getElem?_eq_getElem hl]
  exact List.getElem_mem hl
theorem step_ref {saw : Int} (hs : 0 ≤ saw ∧ saw ≤ 2) {st : List S88 × List Bool} {x : S107} (h8 : All8 (cv st).1) (hx : I64 x.f2) (hm : st.1.length ≤ 1000000) : doStep saw (cv st) (toC x) = (stepR saw st x).map cv ∧ ∀ s', stepR saw st x = some s' → All8 (cv s').1 := by
  have hw : wrap64 ((st.1.length : Int) - 1) = (st.1.length : Int) - 1 := w64 (by omega) (by omega)
  unfold doStep stepR
  rw [hw]
  by_cases hin : 0 ≤ x.f0 ∧ x.f0 < st.1.length
  · rw [if_pos (by simpa [cv, toC] using hin), if_pos (inB_iff.2 (by omega))]
    by_cases hc : rdOf false st.2 x.f0 = true
    · rw [if_pos (show (cv st).2.getD (toC x).f0.toNat false = true from hc), if_pos hc]; exact ⟨rfl, fun _ h => by cases h⟩
    · rw [if_neg (show ¬ (cv st).2.getD (toC x).f0.toNat false = true from hc), if_neg hc]
      have h8p := rd_in8 h8 hin.1 hin.2
      have e1 : partsOf (toC x).f1 ((cv st).1.getD (toC x).f0.toNat z103) (toC x).f2 saw = (partsR (rd_T88 st.1 x.f0) x.f1 x.f2 saw).map toP := by
        show partsOf x.f1 ((st.1.map toP).getD x.f0.toNat z103) x.f2 saw = _
        rw [rd_toP, partsOf_eq h8p hs hx.2, parts_ref h8p hs hx]
      have e2 := parts_ref (ac := x.f1) h8p hs hx
      dsimp only
      rw [e1, List.length_map]
      generalize hL : partsR (rd_T88 st.1 x.f0) x.f1 x.f2 saw = L at *
      by_cases hl : L.length = 0
      · rw [if_pos hl, if_pos hl]; exact ⟨rfl, fun _ h => by cases h⟩
      · rw [if_neg hl, if_neg hl]
        refine ⟨by simp [cv, toC], fun s' h => ?_⟩
        cases h
        intro p hp
        simp only [cv, List.map_append, List.mem_append] at hp
        rcases hp with hp | hp
        · exact h8 p hp
        · rw [e2] at hp; exact (partsN_in8 h8p hs p hp).1
  · rw [if_neg (by simpa [cv, toC] using hin), if_neg (fun h => hin (by have := inB_iff.1 h; omega))]
    exact ⟨rfl, fun _ h => by cases h⟩
theorem steps_ref {saw : Int} (hs : 0 ≤ saw ∧ saw ≤ 2) : ∀ (cuts : List S107) {st : List S88 × List Bool}, All8 (cv st).1 → WB107 cuts → st.2.length = st.1.length → st.1.length + 2 * cuts.length ≤ 1000000 → doAll saw (cv st) (cuts.map toC) = (stepsR saw st cuts).map cv ∧ ∀ s', stepsR saw st cuts = some s' → All8 (cv s').1
  | [], st, h8, _, _, _ => ⟨rfl, fun _ h => by cases h; exact h8⟩
  | x :: cuts, st, h8, hx, hl, hm => by
    simp only [List.length_cons] at hm
    obtain ⟨h1, h2⟩ := step_ref hs h8 (hx x (by simp)).2.2 (by omega)
    simp only [List.map_cons, doAll, stepsR]
    rw [h1]
    cases hst : stepR saw st x with
    | none => exact ⟨rfl, fun _ h => by cases h⟩
    | some s1 =>
      have h3 := stepR_len hst hl
      exact steps_ref hs cuts (h2 s1 hst) (fun y hy => hx y (by simp [hy])) h3.1 (by omega)
theorem do_ref {a0 a1 a2 : Int} {l : List S82} {cuts : List S107} (hf : faultR a0 a1 a2 l = 0) (hc : WB107 cuts) (h40 : cuts.length ≤ 40) : doOf a0 a1 a2 (l.map toW) (cuts.map toC) = doFin ((stepsR a2 ([⟨0, 0, a0, a1⟩], [false]) cuts).map cv) ∧ ∀ s', stepsR a2 ([⟨0, 0, a0, a1⟩], [false]) cuts = some s' → All8 (cv s').1 := by
  have ho := fault_ok hf
  obtain ⟨h1, h2⟩ := steps_ref ho.saw cuts (st := ([⟨0, 0, a0, a1⟩], [false])) (fun p hp => by simp [cv] at hp; subst hp; exact ho.in8) hc rfl (by simp; omega)
  refine ⟨?_, h2⟩
  unfold doOf
  rw [chk_ref, hf, if_neg (by simp), List.length_map, if_neg (by omega), ← h1]
  rfl
end Go.Proofs.Ytffjbaknglemdaa.X
