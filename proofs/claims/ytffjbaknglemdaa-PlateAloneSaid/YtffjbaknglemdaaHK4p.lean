import Derived.Test.YtffjbaknglemdaaHP1
namespace Go.Proofs.Ytffjbaknglemdaa.X
open Go.RowKit Go.Maps Go.Proofs.YtffjbaknglemdaaW.PrintWords Go.Proofs.YtffjbaknglemdaaW.PrintLast Go.Proofs.YtffjbaknglemdaaW.PrintMore
set_option linter.unusedSimpArgs false
set_option linter.unusedVariables false

/-! ### the plan that Best makes -/
structure PSt where
 pieces : List S103
 cuts : List S112
 uses : List Int
def planF (l : List S115) (saw : Int) : Nat → Nat → W4 → PSt → PSt
 | 0, _, _, st => st
 | k + 1, n, w, st =>
  if (bestP l saw (st.pieces.getD n z103) w).cut = false then (if (bestP l saw (st.pieces.getD n z103) w).use = -1 then st else { st with uses := st.uses.set (bestP l saw (st.pieces.getD n z103) w).use.toNat n }) else
  ([(st.pieces.length, (bestP l saw (st.pieces.getD n z103) w).first), (st.pieces.length + 1, w.less (bestP l saw (st.pieces.getD n z103) w).first)].take (partsOf (bestP l saw (st.pieces.getD n z103) w).how.f1 (st.pieces.getD n z103) (bestP l saw (st.pieces.getD n z103) w).how.f2 saw).length).foldl (fun st x => planF l saw k x.1 x.2 st)
   ⟨st.pieces ++ partsOf (bestP l saw (st.pieces.getD n z103) w).how.f1 (st.pieces.getD n z103) (bestP l saw (st.pieces.getD n z103) w).how.f2 saw, st.cuts ++ [⟨n, (bestP l saw (st.pieces.getD n z103) w).how.f1, (bestP l saw (st.pieces.getD n z103) w).how.f2⟩], st.uses⟩
section
variable {l : List S115} {saw : Int} {k n : Nat} {w : W4} {st : PSt}
theorem planF_none (h : bestP l saw (st.pieces.getD n z103) w = stp0) : planF l saw (k + 1) n w st = st := by
 simp only [planF, h]; rfl
theorem planF_use {i : Nat} {x : Int} (h : bestP l saw (st.pieces.getD n z103) w = ⟨x, 0, i, false, ⟨0, false, 0⟩, W4.none4⟩) : planF l saw (k + 1) n w st = { st with uses := st.uses.set i n } := by
 simp only [planF, h, if_true]
 rw [if_neg (by omega)]
 rfl
theorem planF_one {ac : Bool} {at_ g c : Int} {a : S103} {u : W4} (h : bestP l saw (st.pieces.getD n z103) w = ⟨g, c, -1, true, ⟨0, ac, at_⟩, u⟩) (hp : partsOf ac (st.pieces.getD n z103) at_ saw = [a]) :
  planF l saw (k + 1) n w st = planF l saw k st.pieces.length u ⟨st.pieces ++ [a], st.cuts ++ [⟨n, ac, at_⟩], st.uses⟩ := by
 simp only [planF, h, hp]
 rw [if_neg (by decide)]
 rfl
theorem planF_two {ac : Bool} {at_ g c : Int} {a b : S103} {u : W4} (h : bestP l saw (st.pieces.getD n z103) w = ⟨g, c, -1, true, ⟨0, ac, at_⟩, u⟩) (hp : partsOf ac (st.pieces.getD n z103) at_ saw = [a, b]) :
  planF l saw (k + 1) n w st = planF l saw k (st.pieces.length + 1) (w.less u) (planF l saw k st.pieces.length u ⟨st.pieces ++ [a, b], st.cuts ++ [⟨n, ac, at_⟩], st.uses⟩) := by
 simp only [planF, h, hp]
 rw [if_neg (by decide)]
 rfl
end
/-- What best says of a piece, in four cases; the parts as the code reckons them. -/
theorem best_cases {l : List S115} (hl : LOk l) {saw : Int} (hs : 0 ≤ saw ∧ saw ≤ 2) {p : S103} (hp : In8 p) (w : W4) :
  bestP l saw p w = stp0 ∨
  (∃ (i : Nat) (x : S115), l[i]? = some x ∧ w.get i = true ∧ fitsB x p = true ∧ bestP l saw p w = ⟨x.f3, 0, i, false, ⟨0, false, 0⟩, W4.none4⟩) ∨
  (∃ (ac : Bool) (at_ : Int) (a : S103), 0 ≤ at_ ∧ at_ ≤ 8 ∧ partsOf ac p at_ saw = [a] ∧ partsN ac p at_ saw = [a] ∧ In8 a ∧ msr a < msr p ∧ bestP l saw p w = ⟨(bestP l saw a w).worth, (bestP l saw a w).cuts + 1, -1, true, ⟨0, ac, at_⟩, w⟩) ∨
  (∃ (ac : Bool) (at_ : Int) (a b : S103) (u : W4), 0 ≤ at_ ∧ at_ ≤ 8 ∧ partsOf ac p at_ saw = [a, b] ∧ partsN ac p at_ saw = [a, b] ∧ u.sub w ∧ In8 a ∧ msr a < msr p ∧ In8 b ∧ msr b < msr p ∧
   bestP l saw p w = ⟨(bestP l saw a u).worth + (bestP l saw b (w.less u)).worth, (bestP l saw a u).cuts + (bestP l saw b (w.less u)).cuts + 1, -1, true, ⟨0, ac, at_⟩, u⟩) := by
 have hk := best_ok hl hs hp w
 have hat : ∀ ac at_, partsN ac p at_ saw ≠ [] → 0 ≤ at_ ∧ at_ ≤ 8 := by
  intro ac at_ hn
  obtain ⟨x0, y0, w0, l0, x1, y1⟩ := id hp
  rcases partsN_cases hp hs (across := ac) (at_ := at_) with h' | ⟨h', c1, c2, c3⟩ | ⟨h', c1, c2, c3⟩ | ⟨h', c1, c2⟩
  ·exact absurd h' hn
  ·unfold far at c3; cases ac <;> simp only [Bool.false_eq_true, if_false, if_true] at c3 <;> omega
  ·omega
  ·unfold far at c2; cases ac <;> simp only [Bool.false_eq_true, if_false, if_true] at c2 <;> omega
 generalize bestP l saw p w = s at hk ⊢
 cases hk with
 | none => exact .inl rfl
 | use i x h1 h2 h3 => exact .inr (.inl ⟨i, x, h1, h2, h3, rfl⟩)
 | one ac at_ a h =>
  obtain ⟨h1, h2⟩ := hat ac at_ (by rw [h]; simp)
  obtain ⟨h3, h4⟩ := partsN_in8 hp hs a (by rw [h]; simp)
  exact .inr (.inr (.inl ⟨ac, at_, a, h1, h2, (partsOf_eq hp hs (by omega)).trans h, h, h3, h4, rfl⟩))
 | two ac at_ a b u h hu =>
  obtain ⟨h1, h2⟩ := hat ac at_ (by rw [h]; simp)
  obtain ⟨h3, h4⟩ := partsN_in8 hp hs a (by rw [h]; simp)
  obtain ⟨h5, h6⟩ := partsN_in8 hp hs b (by rw [h]; simp)
  exact .inr (.inr (.inr ⟨ac, at_, a, b, u, h1, h2, (partsOf_eq hp hs (by omega)).trans h, h, hu, h3, h4, h5, h6, rfl⟩))
theorem getD_app {l m : List S103} {n : Nat} (h : n < l.length) : (l ++ m).getD n z103 = l.getD n z103 := by
 simp [List.getD_eq_getElem?_getD, List.getElem?_append_left h]
theorem getD_pre {l m : List S103} (h : l <+: m) {n : Nat} (hn : n < l.length) : m.getD n z103 = l.getD n z103 := by
 obtain ⟨r, rfl⟩ := h; exact getD_app hn
theorem getD_at (l : List S103) (a : S103) (r : List S103) : (l ++ a :: r).getD l.length z103 = a := by simp [List.getD_eq_getElem?_getD]
theorem getD_at1 (l : List S103) (a b : S103) : (l ++ [a, b]).getD (l.length + 1) z103 = b := by simp [List.getD_eq_getElem?_getD]
theorem pow2_lt {a b : Nat} (h : a < b) : 2 ^ (a + 1) ≤ 2 ^ b := Nat.pow_le_pow_right (by decide) h
theorem pow2_pos (a : Nat) : 2 ≤ 2 ^ (a + 1) := by have := Nat.pow_le_pow_right (n := 2) (by decide) (Nat.succ_le_succ (Nat.zero_le a)); simpa using this
/-- How the plan grows. -/
theorem planF_grows {l : List S115} (hl : LOk l) {saw : Int} (hs : 0 ≤ saw ∧ saw ≤ 2) : ∀ (k n : Nat) (w : W4) (st : PSt), n < st.pieces.length → In8 (st.pieces.getD n z103) →
  st.pieces <+: (planF l saw k n w st).pieces ∧ (planF l saw k n w st).pieces.length + 2 ≤ st.pieces.length + 2 ^ (msr (st.pieces.getD n z103) + 1) ∧ (planF l saw k n w st).uses.length = st.uses.length ∧ (st.cuts.length ≤ st.pieces.length → (planF l saw k n w st).cuts.length ≤ (planF l saw k n w st).pieces.length) := by
 intro k
 induction k with
 | zero => intro n w st hn hp; have := pow2_pos (msr (st.pieces.getD n z103)); exact ⟨List.prefix_refl _, by simp only [planF]; omega, rfl, id⟩
 | succ k ih =>
  intro n w st hn hp
  have h2 := pow2_pos (msr (st.pieces.getD n z103))
  rcases best_cases hl hs hp w with h | ⟨i, x, h1, h3, h4, h⟩ | ⟨ac, at_, a, c1, c2, c3, c4, c5, c6, h⟩ | ⟨ac, at_, a, b, u, c1, c2, c3, c4, c5, c6, c7, c8, c9, h⟩
  ·rw [planF_none h]; exact ⟨List.prefix_refl _, by omega, rfl, id⟩
  ·rw [planF_use h]; exact ⟨List.prefix_refl _, by simp only; omega, by simp, id⟩
  ·rw [planF_one h c3]
   have e1 := getD_at st.pieces a []
   obtain ⟨g1, g2, g3, g4⟩ := ih st.pieces.length w ⟨st.pieces ++ [a], st.cuts ++ [⟨n, ac, at_⟩], st.uses⟩ (by simp) (by rw [e1]; exact c5)
   simp only [e1] at g1 g2 g3 g4
   have := pow2_lt c6
   have hd : 2 ^ (msr (st.pieces.getD n z103) + 1) = 2 * 2 ^ msr (st.pieces.getD n z103) := by rw [Nat.pow_succ]; omega
   simp only [List.length_append, List.length_cons, List.length_nil] at g2 g4
   exact ⟨(List.prefix_append _ _).trans g1, by omega, g3, fun hc => g4 (by omega)⟩
  ·rw [planF_two h c3]
   have e1 := getD_at st.pieces a [b]
   have e2 := getD_at1 st.pieces a b
   obtain ⟨g1, g2, g3, g4⟩ := ih st.pieces.length u ⟨st.pieces ++ [a, b], st.cuts ++ [⟨n, ac, at_⟩], st.uses⟩ (by simp) (by rw [e1]; exact c6)
   simp only [e1] at g1 g2 g3 g4
   generalize planF l saw k st.pieces.length u ⟨st.pieces ++ [a, b], st.cuts ++ [⟨n, ac, at_⟩], st.uses⟩ = st2 at *
   have e3 : st2.pieces.getD (st.pieces.length + 1) z103 = b := by rw [getD_pre g1 (by simp), e2]
   have hl2 := g1.length_le
   simp only [List.length_append, List.length_cons, List.length_nil] at g2 g4 hl2
   obtain ⟨f1, f2, f3, f4⟩ := ih (st.pieces.length + 1) (w.less u) st2 (by omega) (by rw [e3]; exact c8)
   rw [e3] at f2
   have := pow2_lt c7
   have := pow2_lt c9
   have hd : 2 ^ (msr (st.pieces.getD n z103) + 1) = 2 * 2 ^ msr (st.pieces.getD n z103) := by rw [Nat.pow_succ]; omega
   exact ⟨((List.prefix_append _ _).trans g1).trans f1, by omega, by rw [f3, g3], fun hc => f4 (g4 (by omega))⟩
end Go.Proofs.Ytffjbaknglemdaa.X
