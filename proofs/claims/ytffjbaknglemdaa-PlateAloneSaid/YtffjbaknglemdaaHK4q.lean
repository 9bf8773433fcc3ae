import Derived.Test.YtffjbaknglemdaaHK4p
namespace Go.Proofs.Ytffjbaknglemdaa.X
open Go.RowKit Go.Maps Go.Proofs.YtffjbaknglemdaaW.PrintWords Go.Proofs.YtffjbaknglemdaaW.PrintLast Go.Proofs.YtffjbaknglemdaaW.PrintMore
set_option linter.unusedSimpArgs false
set_option linter.unusedVariables false

/-! ### a plate that is valid -/
structure WOk (x : S115) : Prop where
 wid : 1 ≤ x.f0 ∧ x.f0 ≤ 8
 lng : 1 ≤ x.f1 ∧ x.f1 ≤ 8
 worth : 0 ≤ x.f3 ∧ x.f3 ≤ 1000
 xz : 0 ≤ x.f4.f0 ∧ x.f4.f0 ≤ x.f4.f1 ∧ x.f4.f1 < 8
 yz : 0 ≤ x.f5.f0 ∧ x.f5.f0 ≤ x.f5.f1 ∧ x.f5.f1 < 8
structure PlOk (a0 a1 a2 : Int) (l : List S115) : Prop where
 wid : 1 ≤ a0 ∧ a0 ≤ 8
 lng : 1 ≤ a1 ∧ a1 ≤ 8
 saw : 0 ≤ a2 ∧ a2 ≤ 2
 len : l.length ≤ 4
 all : ∀ x ∈ l, WOk x
theorem within_f (a b c : Int) : plate_within.f a b c = some (decide (b ≤ a ∧ a ≤ c)) := by
 by_cases h : b ≤ a ∧ a ≤ c
 ·rw [within_yes h, decide_eq_true h]
 ·rw [within_no h, decide_eq_false h]
theorem side_f (a : Int) : plate_side.f a = some (decide (1 ≤ a ∧ a ≤ 8)) := by unfold plate_side.f; rw [within_f]; rfl
theorem zone_f (a b : Int) : plate_Range_zone.f a b = some (decide (0 ≤ a ∧ a ≤ b ∧ b < 8)) := by
 unfold plate_Range_zone.f
 by_cases h0 : 0 ≤ a
 ·rw [if_pos h0]
  by_cases h1 : a ≤ b
  ·rw [if_pos h1]; simp [h0, h1]
  ·rw [if_neg h1]; simp [h0, h1]
 ·rw [if_neg h0]; simp [h0]
theorem validB_iff (x : S115) : validB x = true ↔ WOk x := by
 unfold validB plate_Wanted_valid.f
 rw [side_f, side_f, within_f, zone_f, zone_f]
 simp only [Option.bind_some]
 constructor
 ·intro h
  by_cases h1 : 1 ≤ x.f0 ∧ x.f0 ≤ 8
  ·rw [if_pos (decide_eq_true h1)] at h
   by_cases h2 : 1 ≤ x.f1 ∧ x.f1 ≤ 8
   ·rw [if_pos (decide_eq_true h2)] at h
    by_cases h3 : 0 ≤ x.f3 ∧ x.f3 ≤ 1000
    ·rw [if_pos (decide_eq_true h3)] at h
     by_cases h4 : 0 ≤ x.f4.f0 ∧ x.f4.f0 ≤ x.f4.f1 ∧ x.f4.f1 < 8
     ·rw [if_pos (decide_eq_true h4)] at h
      exact ⟨h1, h2, h3, h4, by simpa using h⟩
     ·rw [decide_eq_false h4] at h; simp at h
    ·rw [decide_eq_false h3] at h; simp at h
   ·rw [decide_eq_false h2] at h; simp at h
  ·rw [decide_eq_false h1] at h; simp at h
 ·rintro ⟨h1, h2, h3, h4, h5⟩
  simp [h1, h2, h3, h4, h5]
theorem chk_zero {a0 a1 a2 : Int} {l : List S115} : chk a0 a1 a2 l = 0 ↔ PlOk a0 a1 a2 l := by
 unfold chk plate_CheckPlate.f
 rw [side_f, side_f, within_f]
 unfold plate_all_Wanted.f
 simp only [Option.bind_some]
 constructor
 ·intro h
  by_cases h0 : (l.length : Int) > 4
  ·rw [if_pos h0] at h; simp at h
  ·rw [if_neg h0] at h
   by_cases h1 : 1 ≤ a0 ∧ a0 ≤ 8
   ·rw [if_pos (decide_eq_true h1)] at h
    by_cases h2 : 1 ≤ a1 ∧ a1 ≤ 8
    ·rw [if_pos (decide_eq_true h2)] at h
     by_cases h3 : 0 ≤ a2 ∧ a2 ≤ 2
     ·rw [if_pos (decide_eq_true h3)] at h
      by_cases h4 : l.all validB = true
      ·exact ⟨h1, h2, h3, by omega, fun x hx => (validB_iff x).1 (List.all_eq_true.1 h4 x hx)⟩
      ·rw [if_neg h4] at h; simp at h
     ·rw [decide_eq_false h3] at h; simp at h
    ·rw [decide_eq_false h2] at h; simp at h
   ·rw [decide_eq_false h1] at h; simp at h
 ·rintro ⟨h1, h2, h3, h4, h5⟩
  have h6 : l.all validB = true := List.all_eq_true.2 (fun x hx => (validB_iff x).2 (h5 x hx))
  rw [if_neg (by omega), if_pos (decide_eq_true h1), if_pos (decide_eq_true h2), if_pos (decide_eq_true h3), if_pos h6]
  rfl
theorem PlOk.lok {a0 a1 a2 : Int} {l : List S115} (h : PlOk a0 a1 a2 l) : LOk l := ⟨h.len, fun x hx => (h.all x hx).worth⟩
/-- The whole plate. -/
def p0 (a0 a1 : Int) : S103 := ⟨0, 0, a0, a1⟩
theorem PlOk.in8 {a0 a1 a2 : Int} {l : List S115} (h : PlOk a0 a1 a2 l) : In8 (p0 a0 a1) := by
 obtain ⟨h1, h2, _, _, _⟩ := h; constructor <;> simp only [p0] <;> omega
/-- All that is wanted. -/
def wholeW (n : Nat) : W4 := ⟨decide (0 < n), decide (1 < n), decide (2 < n), decide (3 < n)⟩
def bestSt (a0 a1 a2 : Int) (l : List S115) : PSt := planF l a2 17 0 (wholeW l.length) ⟨[p0 a0 a1], [], List.replicate l.length (-1)⟩
def plate_Best.f (a0 a1 a2 : Int) (l : List S115) : Option (List S112 × List Int × Int × Int) :=
 some (if chk a0 a1 a2 l = 0 then ((bestSt a0 a1 a2 l).cuts, (bestSt a0 a1 a2 l).uses, (bestP l a2 (p0 a0 a1) (wholeW l.length)).worth, 0) else ([], [], 0, chk a0 a1 a2 l))
end Go.Proofs.Ytffjbaknglemdaa.X
