import Derived.Test.YtffjbaknglemdaaHK4q
import Derived.Test.YtffjbaknglemdaaHF
namespace Go.Proofs.Ytffjbaknglemdaa.X
open Go.RowKit Go.Maps Go.Proofs.YtffjbaknglemdaaW.PrintWords Go.Proofs.YtffjbaknglemdaaW.PrintLast Go.Proofs.YtffjbaknglemdaaW.PrintMore
set_option linter.unusedSimpArgs false
set_option linter.unusedVariables false

/-! ### the cuts of a best plan -/
theorem planF_cuts {l : List S115} (hl : LOk l) {saw : Int} (hs : 0 ≤ saw ∧ saw ≤ 2) : ∀ (k n : Nat) (w : W4) (st : PSt), n < st.pieces.length → In8 (st.pieces.getD n z103) → msr (st.pieces.getD n z103) < k →
  ((planF l saw k n w st).cuts.length : Int) = st.cuts.length + (bestP l saw (st.pieces.getD n z103) w).cuts := by
 intro k
 induction k with
 | zero => intro n w st _ _ h; omega
 | succ k ih =>
  intro n w st hn hp hk
  rcases best_cases hl hs hp w with h | ⟨i, x, h1, h3, h4, h⟩ | ⟨ac, at_, a, c1, c2, c3, c4, c5, c6, h⟩ | ⟨ac, at_, a, b, u, c1, c2, c3, c4, c5, c6, c7, c8, c9, h⟩
  ·rw [planF_none h, h]; simp [stp0]
  ·rw [planF_use h, h]; simp
  ·rw [planF_one h c3, h]
   have e1 := getD_at st.pieces a []
   have g := ih st.pieces.length w ⟨st.pieces ++ [a], st.cuts ++ [⟨n, ac, at_⟩], st.uses⟩ (by simp) (by rw [e1]; exact c5) (by rw [e1]; omega)
   rw [g]
   simp only [e1, List.length_append, List.length_cons, List.length_nil]
   omega
  ·rw [planF_two h c3, h]
   have e1 := getD_at st.pieces a [b]
   have e2 := getD_at1 st.pieces a b
   obtain ⟨g1, g2, g3, g4⟩ := planF_grows hl hs k st.pieces.length u ⟨st.pieces ++ [a, b], st.cuts ++ [⟨n, ac, at_⟩], st.uses⟩ (by simp) (by rw [e1]; exact c6)
   have g := ih st.pieces.length u ⟨st.pieces ++ [a, b], st.cuts ++ [⟨n, ac, at_⟩], st.uses⟩ (by simp) (by rw [e1]; exact c6) (by rw [e1]; omega)
   generalize planF l saw k st.pieces.length u ⟨st.pieces ++ [a, b], st.cuts ++ [⟨n, ac, at_⟩], st.uses⟩ = st2 at *
   have e3 : st2.pieces.getD (st.pieces.length + 1) z103 = b := by rw [getD_pre g1 (by simp), e2]
   have hl2 := g1.length_le
   simp only [List.length_append, List.length_cons, List.length_nil] at hl2
   rw [ih (st.pieces.length + 1) (w.less u) st2 (by omega) (by rw [e3]; exact c8) (by rw [e3]; omega), g, e3]
   simp only [e1, List.length_append, List.length_cons, List.length_nil]
   omega
theorem msr_p0 {a0 a1 a2 : Int} {l : List S115} (h : PlOk a0 a1 a2 l) : msr (p0 a0 a1) < 17 := by have := h.wid; have := h.lng; unfold msr p0; simp only; omega
theorem best_cuts {a0 a1 a2 : Int} {l : List S115} (h : PlOk a0 a1 a2 l) : ((bestSt a0 a1 a2 l).cuts.length : Int) = (bestP l a2 (p0 a0 a1) (wholeW l.length)).cuts := by
 have := planF_cuts h.lok h.saw 17 0 (wholeW l.length) ⟨[p0 a0 a1], [], List.replicate l.length (-1)⟩ (by simp) h.in8 (msr_p0 h)
 unfold bestSt
 rw [this]
 simp

/-! ### the plate of the examples -/
def sheetL : List S115 := [⟨2, 4, false, 5, ⟨0, 7⟩, ⟨0, 7⟩⟩, ⟨3, 1, true, 4, ⟨0, 7⟩, ⟨0, 7⟩⟩, ⟨1, 3, false, 3, ⟨0, 2⟩, ⟨0, 7⟩⟩]
theorem sheet_ok : PlOk 6 4 1 sheetL := chk_zero.1 (by kernel_rfl)
def full0 (p : S103) (w : W4) : Bool := decide (w = W4.none4) || (decide (w = ⟨true, false, false, false⟩) && fitsB ⟨2, 4, false, 5, ⟨0, 7⟩, ⟨0, 7⟩⟩ p) || (decide (w = ⟨false, true, false, false⟩) && fitsB ⟨3, 1, true, 4, ⟨0, 7⟩, ⟨0, 7⟩⟩ p) || (decide (w = ⟨false, false, true, false⟩) && fitsB ⟨1, 3, false, 3, ⟨0, 2⟩, ⟨0, 7⟩⟩ p)
def anyCut (p : S103) (w : W4) (f : S103 → W4 → Bool) (g : S103 → W4 → S103 → W4 → Bool) : Bool :=
 [false, true].any fun ac => (List.range 9).any fun at_ => match partsN ac p (at_ : Int) 1 with
  | [a] => f a w
  | [a, b] => w.parts.any fun u => g a u b (w.less u)
  | _ => false
def full1 (p : S103) (w : W4) : Bool := full0 p w || anyCut p w full0 (fun a u b v => full0 a u && full0 b v)
def full2 (p : S103) (w : W4) : Bool := full0 p w || anyCut p w full1 (fun a u b v => (full0 a u && full1 b v) || (full1 a u && full0 b v))
theorem full2_sheet : full2 (p0 6 4) (wholeW 3) = false := by kernel_rfl
theorem tot_sheet (b0 b1 b2 : Bool) : tot sheetL ⟨b0, b1, b2, false⟩ = (if b0 = true then 5 else 0) + (if b1 = true then 4 else 0) + (if b2 = true then 3 else 0) := by
 cases b0 <;> cases b1 <;> cases b2 <;> rfl
theorem at_range {p : S103} {ac : Bool} {at_ : Int} (hp : In8 p) (h : partsN ac p at_ 1 ≠ []) : ∃ n : Nat, at_ = n ∧ n < 9 := by
 obtain ⟨x0, y0, w0, l0, x1, y1⟩ := id hp
 have hb : 0 ≤ at_ ∧ at_ ≤ 8 := by
  rcases partsN_cases hp (saw := 1) (by omega) (across := ac) (at_ := at_) with h' | ⟨h', c1, c2, c3⟩ | ⟨h', c1, c2, c3⟩ | ⟨h', c1, c2⟩
  ·exact absurd h' h
  ·unfold far at c3; cases ac <;> simp only [Bool.false_eq_true, if_false, if_true] at c3 <;> omega
  ·omega
  ·unfold far at c2; cases ac <;> simp only [Bool.false_eq_true, if_false, if_true] at c2 <;> omega
 exact ⟨at_.toNat, by omega, by omega⟩
theorem anyCut_one {p a : S103} {w : W4} {ac : Bool} {at_ : Int} {f : S103 → W4 → Bool} {g : S103 → W4 → S103 → W4 → Bool} (hp : In8 p) (h : partsN ac p at_ 1 = [a]) (hf : f a w = true) : anyCut p w f g = true := by
 obtain ⟨n, rfl, hn⟩ := at_range hp (ac := ac) (at_ := at_) (by rw [h]; simp)
 unfold anyCut
 refine List.any_eq_true.2 ⟨ac, by cases ac <;> simp, List.any_eq_true.2 ⟨n, List.mem_range.2 hn, ?_⟩⟩
 rw [h]; exact hf
theorem anyCut_two {p a b : S103} {w u : W4} {ac : Bool} {at_ : Int} {f : S103 → W4 → Bool} {g : S103 → W4 → S103 → W4 → Bool} (hp : In8 p) (h : partsN ac p at_ 1 = [a, b]) (hu : u.sub w) (hg : g a u b (w.less u) = true) : anyCut p w f g = true := by
 obtain ⟨n, rfl, hn⟩ := at_range hp (ac := ac) (at_ := at_) (by rw [h]; simp)
 unfold anyCut
 refine List.any_eq_true.2 ⟨ac, by cases ac <;> simp, List.any_eq_true.2 ⟨n, List.mem_range.2 hn, ?_⟩⟩
 rw [h]; exact List.any_eq_true.2 ⟨u, (mem_parts u w).2 hu, hg⟩
theorem sub_b3 {u w : W4} (h : u.sub w) (hw : w.b3 = false) : u.b3 = false := by cases e : u.b3 with | false => rfl | true => have := h.2.2.2 e; rw [hw] at this; exact this.symm
theorem full0_of {p : S103} {w : W4} {g k : Int} (h : Tr sheetL 1 p w g k) (hw : w.b3 = false) (hg : g = tot sheetL w) (hk : k ≤ 0) : full0 p w = true := by
 obtain ⟨b0, b1, b2, b3⟩ := w
 simp only at hw
 subst hw
 rw [tot_sheet] at hg
 cases h with
 | none => revert hg; unfold full0; cases b0 <;> cases b1 <;> cases b2 <;> simp [W4.none4]
 | use _ _ i x h1 h2 h3 =>
  match i, h1, h2 with
  | 0, h1, h2 =>
   simp [sheetL] at h1; subst h1
   simp only [W4.get] at h2; subst h2
   revert hg; unfold full0; cases b1 <;> cases b2 <;> simp [W4.none4, h3]
  | 1, h1, h2 =>
   simp [sheetL] at h1; subst h1
   simp only [W4.get] at h2; subst h2
   revert hg; unfold full0; cases b0 <;> cases b2 <;> simp [W4.none4, h3]
  | 2, h1, h2 =>
   simp [sheetL] at h1; subst h1
   simp only [W4.get] at h2; subst h2
   revert hg; unfold full0; cases b0 <;> cases b1 <;> simp [W4.none4, h3]
  | n + 3, h1, h2 => simp [sheetL] at h1
 | one _ _ ac at_ a g k h1 h2 => have := (h2.bd sheet_ok.lok).2.2; omega
 | two _ _ ac at_ a b u g h k m h1 h2 h3 h4 => have := (h3.bd sheet_ok.lok).2.2; have := (h4.bd sheet_ok.lok).2.2; omega
theorem full1_of {p : S103} {w : W4} {g k : Int} (h : Tr sheetL 1 p w g k) (hp : In8 p) (hw : w.b3 = false) (hg : g = tot sheetL w) (hk : k ≤ 1) : full1 p w = true := by
 unfold full1
 rw [Bool.or_eq_true]
 cases h with
 | none => exact .inl (full0_of (.none p w) hw hg (by omega))
 | use _ _ i x h1 h2 h3 => exact .inl (full0_of (.use p w i x h1 h2 h3) hw hg (by omega))
 | one _ _ ac at_ a g k h1 h2 =>
  have h0 := full0_of h2 hw hg (by omega)
  exact .inr (anyCut_one hp h1 h0)
 | two _ _ ac at_ a b u g h k m h1 h2 h3 h4 =>
  have t := tot_split sheetL h2
  have b1 := h3.bd sheet_ok.lok
  have b2 := h4.bd sheet_ok.lok
  have hl : (w.less u).b3 = false := sub_b3 (W4.less_sub w u) hw
  have f1 := full0_of h3 (sub_b3 h2 hw) (by omega) (by omega)
  have f2 := full0_of h4 hl (by omega) (by omega)
  exact .inr (anyCut_two hp h1 h2 (by rw [f1, f2]; rfl))
theorem full2_of {p : S103} {w : W4} {g k : Int} (h : Tr sheetL 1 p w g k) (hp : In8 p) (hw : w.b3 = false) (hg : g = tot sheetL w) (hk : k ≤ 2) : full2 p w = true := by
 unfold full2
 rw [Bool.or_eq_true]
 cases h with
 | none => exact .inl (full0_of (.none p w) hw hg (by omega))
 | use _ _ i x h1 h2 h3 => exact .inl (full0_of (.use p w i x h1 h2 h3) hw hg (by omega))
 | one _ _ ac at_ a g k h1 h2 =>
  have h0 := full1_of h2 (partsN_in8 hp (saw := 1) (by omega) a (by rw [h1]; simp)).1 hw hg (by omega)
  exact .inr (anyCut_one hp h1 h0)
 | two _ _ ac at_ a b u g h k m h1 h2 h3 h4 =>
  have t := tot_split sheetL h2
  have b1 := h3.bd sheet_ok.lok
  have b2 := h4.bd sheet_ok.lok
  have hl : (w.less u).b3 = false := sub_b3 (W4.less_sub w u) hw
  have ha := (partsN_in8 hp (saw := 1) (by omega) a (by rw [h1]; simp)).1
  have hb := (partsN_in8 hp (saw := 1) (by omega) b (by rw [h1]; simp)).1
  refine .inr (anyCut_two hp h1 h2 ?_)
  rw [Bool.or_eq_true, Bool.and_eq_true, Bool.and_eq_true]
  by_cases hk0 : k ≤ 0
  ·have f1 := full0_of h3 (sub_b3 h2 hw) (by omega) hk0
   have f2 := full1_of h4 hb hl (by omega) (by omega)
   exact .inl ⟨f1, f2⟩
  ·have f1 := full1_of h3 ha (sub_b3 h2 hw) (by omega) (by omega)
   have f2 := full0_of h4 hl (by omega) (by omega)
   exact .inr ⟨f1, f2⟩
/-- A plan of worth 12 with three cuts. -/
theorem sheet_tr : Tr sheetL 1 (p0 6 4) (wholeW 3) 12 3 := by
 have h4 : Tr sheetL 1 ⟨0, 0, 1, 3⟩ ⟨false, false, true, false⟩ 3 0 := .use _ _ 2 ⟨1, 3, false, 3, ⟨0, 2⟩, ⟨0, 7⟩⟩ rfl rfl (by kernel_rfl)
 have h5 : Tr sheetL 1 ⟨2, 0, 1, 3⟩ ⟨false, true, false, false⟩ 4 0 := .use _ _ 1 ⟨3, 1, true, 4, ⟨0, 7⟩, ⟨0, 7⟩⟩ rfl rfl (by kernel_rfl)
 have h3 : Tr sheetL 1 ⟨0, 0, 3, 3⟩ ⟨false, true, true, false⟩ (3 + 4) (0 + 0 + 1) := .two _ _ false 1 ⟨0, 0, 1, 3⟩ ⟨2, 0, 1, 3⟩ ⟨false, false, true, false⟩ 3 4 0 0 (by kernel_rfl) (by unfold W4.sub; decide) h4 h5
 have h1 : Tr sheetL 1 ⟨0, 0, 3, 4⟩ ⟨false, true, true, false⟩ (3 + 4) (0 + 0 + 1 + 1) := .one _ _ true 3 ⟨0, 0, 3, 3⟩ _ _ (by kernel_rfl) h3
 have h2 : Tr sheetL 1 ⟨4, 0, 2, 4⟩ ⟨true, false, false, false⟩ 5 0 := .use _ _ 0 ⟨2, 4, false, 5, ⟨0, 7⟩, ⟨0, 7⟩⟩ rfl rfl (by kernel_rfl)
 exact .two _ _ false 3 ⟨0, 0, 3, 4⟩ ⟨4, 0, 2, 4⟩ ⟨false, true, true, false⟩ (3 + 4) 5 (0 + 0 + 1 + 1) 0 (by kernel_rfl) (by unfold W4.sub; decide) h1 h2
theorem sheet_best : (bestP sheetL 1 (p0 6 4) (wholeW 3)).worth = 12 ∧ (bestP sheetL 1 (p0 6 4) (wholeW 3)).cuts = 3 := by
 have h1 := best_ge sheet_ok.lok sheet_ok.saw sheet_ok.in8 sheet_tr
 have h2 := best_tr sheet_ok.lok sheet_ok.saw sheet_ok.in8 (wholeW 3)
 have h3 := h2.bd sheet_ok.lok
 have ht : tot sheetL (wholeW 3) = 12 := by kernel_rfl
 rw [ht] at h3
 have h4 : ¬ (bestP sheetL 1 (p0 6 4) (wholeW 3)).cuts ≤ 2 := fun hk => by
  have := full2_of h2 sheet_ok.in8 rfl (by rw [ht]; unfold Ge at h1; omega) hk
  rw [full2_sheet] at this; exact absurd this (by decide)
 unfold Ge at h1
 omega
theorem sheet_best_f : ∃ c u, plate_Best.f 6 4 1 sheetL = some (c, u, 12, 0) ∧ c.length = 3 := by
 refine ⟨_, _, by unfold plate_Best.f; rw [if_pos (chk_zero.2 sheet_ok)]; rw [show wholeW sheetL.length = wholeW 3 from rfl, sheet_best.1], ?_⟩
 have := best_cuts sheet_ok
 rw [show wholeW sheetL.length = wholeW 3 from rfl, sheet_best.2] at this
 omega
def sawnC : List S112 := [⟨0, false, 2⟩, ⟨2, true, 1⟩]
def sawnU : List Int := [1, 3, -1]
theorem sheet_weigh : plate_Weigh.f 6 4 1 sheetL sawnC sawnU = some (11, 6, 7, 9, 0) := by kernel_rfl
theorem sheet_trace : plate_Trace.f 6 4 1 sheetL sawnC sawnU 4 0 = some (3, 1, 0) := by kernel_rfl
end Go.Proofs.Ytffjbaknglemdaa.X
