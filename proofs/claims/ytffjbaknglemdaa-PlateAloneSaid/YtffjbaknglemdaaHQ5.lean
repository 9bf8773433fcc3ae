import Derived.Test.YtffjbaknglemdaaHQ3
namespace Go.Proofs.Ytffjbaknglemdaa.X
open Go.RowKit Go.Maps Go.Proofs.YtffjbaknglemdaaW.PrintWords Go.Proofs.YtffjbaknglemdaaW.PrintLast Go.Proofs.YtffjbaknglemdaaW.PrintMore
set_option linter.unusedSimpArgs false
set_option linter.unusedVariables false

/-! ### a cutting turned into another one -/
def worthP (a0 a1 a2 : Int) (l : List S115) : Stp := bestP l a2 (p0 a0 a1) (wholeW l.length)
theorem W4.less_less (w u : W4) : u.sub (w.less (w.less u)) ∨ ¬ u.sub w := by
  obtain ⟨a, b, c, d⟩ := u
  obtain ⟨e, f, g, h⟩ := w
  cases a <;> cases b <;> cases c <;> cases d <;> cases e <;> cases f <;> cases g <;> cases h <;> simp [W4.less, W4.sub]
theorem Tr.map {l l' : List S115} {saw saw' : Int} (I : S103 → Prop) (φ : S103 → S103) (π : W4 → W4)
    (hI : ∀ p ac at_, I p → ∀ q ∈ partsN ac p at_ saw, I q)
    (h1 : ∀ p ac at_ a, I p → partsN ac p at_ saw = [a] → ∃ ac' at', partsN ac' (φ p) at' saw' = [φ a])
    (h2 : ∀ p ac at_ a b, I p → partsN ac p at_ saw = [a, b] → ∃ ac' at', partsN ac' (φ p) at' saw' = [φ a, φ b] ∨ partsN ac' (φ p) at' saw' = [φ b, φ a])
    (hs : ∀ u w : W4, u.sub w → (π u).sub (π w)) (hl : ∀ u w : W4, π (w.less u) = (π w).less (π u))
    (hu : ∀ i x p w, l[i]? = some x → w.get i = true → I p → fitsB x p = true → ∃ j x', l'[j]? = some x' ∧ (π w).get j = true ∧ x.f3 ≤ x'.f3 ∧ fitsB x' (φ p) = true)
    {p : S103} {w : W4} {g k : Int} (h : Tr l saw p w g k) : I p → ∃ g', g ≤ g' ∧ Tr l' saw' (φ p) (π w) g' k := by
  induction h with
  | none p w => intro _; exact ⟨0, Int.le_refl _, .none _ _⟩
  | use p w i x e1 e2 e3 =>
    intro hp
    obtain ⟨j, x', f1, f2, f3, f4⟩ := hu i x p w e1 e2 hp e3
    exact ⟨x'.f3, f3, .use _ _ j x' f1 f2 f4⟩
  | one p w ac at_ a g k e1 e2 ih =>
    intro hp
    obtain ⟨g', hg, ht⟩ := ih (hI p ac at_ hp a (by rw [e1]; simp))
    obtain ⟨ac', at', e⟩ := h1 p ac at_ a hp e1
    exact ⟨g', hg, .one _ _ ac' at' _ _ _ e ht⟩
  | two p w ac at_ a b u g h k m e1 e2 e3 e4 ih1 ih2 =>
    intro hp
    obtain ⟨g1, hg1, ht1⟩ := ih1 (hI p ac at_ hp a (by rw [e1]; simp))
    obtain ⟨g2, hg2, ht2⟩ := ih2 (hI p ac at_ hp b (by rw [e1]; simp))
    obtain ⟨ac', at', e | e⟩ := h2 p ac at_ a b hp e1
    · rw [hl] at ht2
      exact ⟨g1 + g2, by omega, .two _ _ ac' at' _ _ (π u) g1 g2 k m e (hs _ _ e2) ht1 ht2⟩
    · rw [hl] at ht2
      have hsub : ((π w).less (π u)).sub (π w) := W4.less_sub _ _
      have h3 : (π u).sub ((π w).less ((π w).less (π u))) := by
        rcases W4.less_less (π w) (π u) with h | h
        · exact h
        · exact absurd (hs _ _ e2) h
      refine ⟨g2 + g1, by omega, ?_⟩
      have := Tr.two (φ p) (π w) ac' at' (φ b) (φ a) ((π w).less (π u)) g2 g1 m k e hsub ht2 (ht1.mono h3)
      rw [show k + m + 1 = m + k + 1 by omega]; exact this
/-- Gains in order: what Tr.map brings is at least as good. -/
theorem best_of_map {l l' : List S115} {saw saw' : Int} (hl : LOk l) (hs : 0 ≤ saw ∧ saw ≤ 2) (hl' : LOk l') (hs' : 0 ≤ saw' ∧ saw' ≤ 2) {p p' : S103} {w w' : W4} (hp : In8 p) (hp' : In8 p')
    (h : ∀ g k, Tr l saw p w g k → ∃ g', g ≤ g' ∧ Tr l' saw' p' w' g' k) : Ge (bestP l' saw' p' w').worth (bestP l' saw' p' w').cuts (bestP l saw p w).worth (bestP l saw p w).cuts := by
  obtain ⟨g', hg, ht⟩ := h _ _ (best_tr hl hs hp w)
  have := best_ge hl' hs' hp' ht
  unfold Ge at *
  omega
theorem Ge.antisymm {a b c d : Int} (h : Ge a b c d) (k : Ge c d a b) : a = c ∧ b = d := by unfold Ge at *; omega
/-- Wants by number. -/
def W4.re (τ : Nat → Nat) (w : W4) : W4 := ⟨w.get (τ 0), w.get (τ 1), w.get (τ 2), w.get (τ 3)⟩
theorem re_sub (τ : Nat → Nat) {u w : W4} (h : u.sub w) : (u.re τ).sub (w.re τ) := ⟨W4.sub_get h, W4.sub_get h, W4.sub_get h, W4.sub_get h⟩
theorem get_less (w u : W4) (i : Nat) : (w.less u).get i = (w.get i && !u.get i) := by
  match i with
  | 0 => rfl
  | 1 => rfl
  | 2 => rfl
  | _ + 3 => rfl
theorem re_less (τ : Nat → Nat) (u w : W4) : (w.less u).re τ = (w.re τ).less (u.re τ) := by
  unfold W4.re
  simp only [get_less]
  rfl
theorem re_get (τ : Nat → Nat) (w : W4) {j : Nat} (h : j < 4) : (w.re τ).get j = w.get (τ j) := by
  have : j = 0 ∨ j = 1 ∨ j = 2 ∨ j = 3 := by omega
  rcases this with rfl | rfl | rfl | rfl <;> rfl
theorem whole_get {n i : Nat} (h : i < n) (h4 : n ≤ 4) : (wholeW n).get i = true := by
  have : i = 0 ∨ i = 1 ∨ i = 2 ∨ i = 3 := by omega
  rcases this with rfl | rfl | rfl | rfl <;> simp [wholeW, W4.get] <;> omega
theorem sub_whole {n : Nat} {w : W4} (h : ∀ i, i < 4 → w.get i = true → i < n) : w.sub (wholeW n) := by
  refine ⟨fun e => ?_, fun e => ?_, fun e => ?_, fun e => ?_⟩
  · have := h 0 (by omega) e; simp [wholeW, this]
  · have := h 1 (by omega) e; simp [wholeW, this]
  · have := h 2 (by omega) e; simp [wholeW, this]
  · have := h 3 (by omega) e; simp [wholeW, this]
def W4.and (w v : W4) : W4 := ⟨w.b0 && v.b0, w.b1 && v.b1, w.b2 && v.b2, w.b3 && v.b3⟩
theorem and_get (w v : W4) (i : Nat) : (w.and v).get i = (w.get i && v.get i) := by
  match i with
  | 0 => rfl
  | 1 => rfl
  | 2 => rfl
  | _ + 3 => rfl
theorem and_sub (w v : W4) : (w.and v).sub v := by
  unfold W4.and W4.sub
  refine ⟨?_, ?_, ?_, ?_⟩ <;> simp_all
theorem and_mono {u w v : W4} (h : u.sub w) : (u.and v).sub (w.and v) := by
  obtain ⟨h0, h1, h2, h3⟩ := h
  unfold W4.and W4.sub
  refine ⟨?_, ?_, ?_, ?_⟩ <;> simp_all
theorem and_less (w u v : W4) : (w.less u).and v = (w.and v).less (u.and v) := by
  obtain ⟨a, b, c, d⟩ := u
  obtain ⟨e, f, g, h⟩ := w
  obtain ⟨i, j, k, l⟩ := v
  cases a <;> cases b <;> cases c <;> cases d <;> cases e <;> cases f <;> cases g <;> cases h <;> simp [W4.less, W4.and]
/-- What is wanted beyond the specimens does not matter. -/
theorem Tr.cap {l : List S115} (hl : l.length ≤ 4) {saw : Int} {p : S103} {w : W4} {g k : Int} (h : Tr l saw p w g k) : Tr l saw p (wholeW l.length) g k := by
  have : Tr l saw p (w.and (wholeW l.length)) g k := by
    induction h with
    | none p w => exact .none _ _
    | use p w i x e1 e2 e3 =>
      have hi := (List.getElem?_eq_some_iff.1 e1).1
      exact .use _ _ i x e1 (by rw [and_get, e2, whole_get hi hl]; rfl) e3
    | one p w ac at_ a g k e1 e2 ih => exact .one _ _ ac at_ a _ _ e1 ih
    | two p w ac at_ a b u g h k m e1 e2 e3 e4 ih1 ih2 =>
      rw [and_less] at ih2
      exact .two _ _ ac at_ a b _ _ _ _ _ e1 (and_mono e2) ih1 ih2
  exact this.mono (and_sub _ _)
/-- With the specimens numbered anew, each of them at least as good: the best is not worse. -/
theorem best_renum {l l' : List S115} {saw : Int} (hl : LOk l) (hl' : LOk l') (hs : 0 ≤ saw ∧ saw ≤ 2) {p : S103} (hp : In8 p) (τ : Nat → Nat)
    (h : ∀ (i : Nat) (x : S115), l[i]? = some x → ∃ j x', l'[j]? = some x' ∧ τ j = i ∧ x.f3 ≤ x'.f3 ∧ ∀ q, fitsB x q = true → fitsB x' q = true) :
    Ge (bestP l' saw p (wholeW l'.length)).worth (bestP l' saw p (wholeW l'.length)).cuts (bestP l saw p (wholeW l.length)).worth (bestP l saw p (wholeW l.length)).cuts := by
  refine best_of_map hl hs hl' hs hp hp (fun g k ht => ?_)
  obtain ⟨g', hg, ht'⟩ := Tr.map (l := l) (l' := l') (saw := saw) (saw' := saw) (fun _ => True) id (fun w => (w.re τ)) (fun _ _ _ _ _ _ => trivial) (fun p ac at_ a _ e => ⟨ac, at_, e⟩) (fun p ac at_ a b _ e => ⟨ac, at_, .inl e⟩) (fun u w hsub => re_sub τ hsub) (fun u w => re_less τ u w)
    (fun i x q w e1 e2 _ e3 => by
      obtain ⟨j, x', f1, f2, f3, f4⟩ := h i x e1
      have hj : j < 4 := by have := (List.getElem?_eq_some_iff.1 f1).1; have := hl'.len; omega
      exact ⟨j, x', f1, by show (w.re τ).get j = true; rw [re_get τ w hj, f2]; exact e2, f3, f4 q e3⟩) ht trivial
  exact ⟨g', hg, ht'.cap hl'.len⟩
/-! ### PlateOrder -/
theorem rot_get {α : Type} (l : List α) (t : Nat) (ht : t ≤ l.length) (j : Nat) : (l.drop t ++ l.take t)[j]? = if j < l.length - t then l[j + t]? else if j < l.length then l[j - (l.length - t)]? else none := by
  by_cases h : j < l.length - t
  · rw [if_pos h, List.getElem?_append_left (by rw [List.length_drop]; omega), List.getElem?_drop, Nat.add_comm]
  · rw [if_neg h, List.getElem?_append_right (by rw [List.length_drop]; omega), List.length_drop]
    by_cases h2 : j < l.length
    · rw [if_pos h2, List.getElem?_take_of_lt (by omega)]
    · rw [if_neg h2, List.getElem?_eq_none (by rw [List.length_take]; omega)]
theorem lok_rot {l : List S115} (h : LOk l) (t : Nat) : LOk (l.drop t ++ l.take t) := ⟨by have := h.len; simp; omega, fun x hx => h.worth x (by
  rcases List.mem_append.1 hx with hx | hx
  · exact List.mem_of_mem_drop hx
  · exact List.mem_of_mem_take hx)⟩
theorem order_ge {l : List S115} (hl : LOk l) {saw : Int} (hs : 0 ≤ saw ∧ saw ≤ 2) {p : S103} (hp : In8 p) {t : Nat} (ht : t ≤ l.length) :
    Ge (bestP (l.drop t ++ l.take t) saw p (wholeW (l.drop t ++ l.take t).length)).worth (bestP (l.drop t ++ l.take t) saw p (wholeW (l.drop t ++ l.take t).length)).cuts (bestP l saw p (wholeW l.length)).worth (bestP l saw p (wholeW l.length)).cuts := by
  refine best_renum hl (lok_rot hl t) hs hp (fun j => if j < l.length - t then j + t else j - (l.length - t)) (fun i x hi => ?_)
  have hlt := (List.getElem?_eq_some_iff.1 hi).1
  by_cases h : i < t
  · refine ⟨i + (l.length - t), x, ?_, ?_, Int.le_refl _, fun _ h => h⟩
    · rw [rot_get l t ht, if_neg (by omega), if_pos (by omega), show i + (l.length - t) - (l.length - t) = i by omega]; exact hi
    · show (if i + (l.length - t) < l.length - t then _ else _) = i
      rw [if_neg (by omega)]; omega
  · refine ⟨i - t, x, ?_, ?_, Int.le_refl _, fun _ h => h⟩
    · rw [rot_get l t ht, if_pos (by omega), show i - t + t = i by omega]; exact hi
    · show (if i - t < l.length - t then _ else _) = i
      rw [if_pos (by omega)]; omega
theorem rot_rot {α : Type} (l : List α) (t : Nat) (ht : t ≤ l.length) : ((l.drop t ++ l.take t).drop (l.length - t) ++ (l.drop t ++ l.take t).take (l.length - t)) = l := by
  have h : (l.drop t).length = l.length - t := List.length_drop
  rw [← h, List.drop_left, List.take_left, List.take_append_drop]
theorem order_law {a0 a1 a2 : Int} {l : List S115} (h : PlOk a0 a1 a2 l) {t : Nat} (ht : t ≤ l.length) : (worthP a0 a1 a2 (l.drop t ++ l.take t)).worth = (worthP a0 a1 a2 l).worth ∧ (worthP a0 a1 a2 (l.drop t ++ l.take t)).cuts = (worthP a0 a1 a2 l).cuts := by
  have h1 := order_ge h.lok h.saw h.in8 ht
  have hlen : (l.drop t ++ l.take t).length = l.length := by simp; omega
  have h2 := order_ge (lok_rot h.lok t) h.saw h.in8 (t := l.length - t) (by rw [hlen]; omega)
  rw [rot_rot l t ht] at h2
  unfold worthP
  exact Ge.antisymm h1 h2
theorem ok_rot {a0 a1 a2 : Int} {l : List S115} (h : PlOk a0 a1 a2 l) (t : Nat) : PlOk a0 a1 a2 (l.drop t ++ l.take t) := ⟨h.wid, h.lng, h.saw, (lok_rot h.lok t).len, fun x hx => h.all x (by
  rcases List.mem_append.1 hx with hx | hx
  · exact List.mem_of_mem_drop hx
  · exact List.mem_of_mem_take hx)⟩
end Go.Proofs.Ytffjbaknglemdaa.X
