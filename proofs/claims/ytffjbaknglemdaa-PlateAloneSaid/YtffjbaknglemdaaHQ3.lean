import Derived.Test.YtffjbaknglemdaaHQ2
namespace Go.Proofs.Ytffjbaknglemdaa.X
open Go.RowKit Go.Maps Go.Proofs.YtffjbaknglemdaaW.PrintWords Go.Proofs.YtffjbaknglemdaaW.PrintLast Go.Proofs.YtffjbaknglemdaaW.PrintMore
set_option linter.unusedSimpArgs false
set_option linter.unusedVariables false

/-! ### weights: pieces that were not cut are apart, and lie in the plate -/
def In (a0 a1 : Int) (p : S103) : Prop := 0 ≤ p.f0 ∧ 0 ≤ p.f1 ∧ 1 ≤ p.f2 ∧ 1 ≤ p.f3 ∧ p.f0 + p.f2 ≤ a0 ∧ p.f1 + p.f3 ≤ a1
def Apart (p q : S103) : Prop := ∀ x y, ¬ (Cov p x y ∧ Cov q x y)
theorem parts_in {ac : Bool} {p : S103} {at_ saw a0 a1 : Int} (hp : In8 p) (hi : In a0 a1 p) (hs : 0 ≤ saw ∧ saw ≤ 2) : ∀ q ∈ partsN ac p at_ saw, In a0 a1 q ∧ ∀ x y, Cov q x y → Cov p x y := by
  intro q hq
  have h8 := (partsN_in8 hp hs q hq).1
  obtain ⟨i0, i1, i2, i3, i4, i5⟩ := hi
  obtain ⟨x0, y0, w0, l0, x1, y1⟩ := h8
  rcases partsN_cases hp hs (across := ac) (at_ := at_) with h | ⟨h, c1, c2, c3⟩ | ⟨h, c1, c2, c3⟩ | ⟨h, c1, c2⟩
  · rw [h] at hq; cases hq
  all_goals
    rw [h] at hq
    simp only [List.mem_cons, List.not_mem_nil, or_false] at hq
    unfold far at *
  · subst hq; unfold part_ at *; cases ac <;> simp only [Bool.false_eq_true, if_false, if_true] at * <;> refine ⟨⟨by simp only; omega, by simp only; omega, by simp only; omega, by simp only; omega, by simp only; omega, by simp only; omega⟩, fun x y hc => ?_⟩ <;> unfold Cov at * <;> simp only at hc <;> omega
  · subst hq; unfold part_ at *; cases ac <;> simp only [Bool.false_eq_true, if_false, if_true] at * <;> refine ⟨⟨by simp only; omega, by simp only; omega, by simp only; omega, by simp only; omega, by simp only; omega, by simp only; omega⟩, fun x y hc => ?_⟩ <;> unfold Cov at * <;> simp only at hc <;> omega
  · rcases hq with rfl | rfl
    · unfold part_ at *; cases ac <;> simp only [Bool.false_eq_true, if_false, if_true] at * <;> refine ⟨⟨by simp only; omega, by simp only; omega, by simp only; omega, by simp only; omega, by simp only; omega, by simp only; omega⟩, fun x y hc => ?_⟩ <;> unfold Cov at * <;> simp only at hc <;> omega
    · unfold part_ at *; cases ac <;> simp only [Bool.false_eq_true, if_false, if_true] at * <;> refine ⟨⟨by simp only; omega, by simp only; omega, by simp only; omega, by simp only; omega, by simp only; omega, by simp only; omega⟩, fun x y hc => ?_⟩ <;> unfold Cov at * <;> simp only at hc <;> omega
theorem parts_apart {ac : Bool} {p : S103} {at_ saw : Int} (hp : In8 p) (hs : 0 ≤ saw ∧ saw ≤ 2) : (partsN ac p at_ saw).Pairwise Apart := by
  rcases partsN_cases hp hs (across := ac) (at_ := at_) with h | ⟨h, c1, c2, c3⟩ | ⟨h, c1, c2, c3⟩ | ⟨h, c1, c2⟩
  · rw [h]; exact List.Pairwise.nil
  · rw [h]; exact List.pairwise_singleton _ _
  · rw [h]; exact List.pairwise_singleton _ _
  · rw [h]
    refine List.pairwise_pair.2 ?_
    intro x y hc
    obtain ⟨h1, h2⟩ := hc
    unfold Cov part_ at *
    cases ac <;> simp only [Bool.false_eq_true, if_false, if_true] at * <;> omega
/-- What is known of pieces behind cuts. -/
structure Laid (a0 a1 : Int) (ps : List S103) (cs : List Bool) : Prop where
  len : cs.length = ps.length
  in8 : All8 ps
  ins : ∀ p ∈ ps, In a0 a1 p
  apart : ∀ (i j : Nat) (p q : S103), i < j → ps[i]? = some p → ps[j]? = some q → cs[i]? = some false → cs[j]? = some false → Apart p q
theorem Apart.symm {p q : S103} (h : Apart p q) : Apart q p := fun x y hc => h x y ⟨hc.2, hc.1⟩
theorem laid_step {a0 a1 : Int} {ps : List S103} {cs : List Bool} (h : Laid a0 a1 ps cs) {n : Nat} {p : S103} {ac : Bool} {at_ saw : Int} (hs : 0 ≤ saw ∧ saw ≤ 2) (hp : ps[n]? = some p) (hn : cs[n]? = some false) :
    Laid a0 a1 (ps ++ partsN ac p at_ saw) (cs.set n true ++ (partsN ac p at_ saw).map fun _ => false) := by
  have hp8 := h.in8 p (List.mem_of_getElem? hp)
  have hpi := h.ins p (List.mem_of_getElem? hp)
  have hin := parts_in (ac := ac) (at_ := at_) hp8 hpi hs
  have h8 := fun q hq => (partsN_in8 (across := ac) (at_ := at_) hp8 hs q hq).1
  have hap := parts_apart (ac := ac) (at_ := at_) hp8 hs
  generalize partsN ac p at_ saw = L at *
  refine ⟨by simp [h.len], ?_, ?_, ?_⟩
  · intro q hq
    rcases List.mem_append.1 hq with hq | hq
    · exact h.in8 q hq
    · exact h8 q hq
  · intro q hq
    rcases List.mem_append.1 hq with hq | hq
    · exact h.ins q hq
    · exact (hin q hq).1
  · intro i j a b hij ha hb hci hcj
    have hsl : (cs.set n true).length = ps.length := by rw [List.length_set, h.len]
    have low : ∀ {i : Nat}, i < ps.length → (cs.set n true ++ L.map fun _ => false)[i]? = some false → cs[i]? = some false ∧ i ≠ n := by
      intro i hi hc
      rw [List.getElem?_append_left (by omega), List.getElem?_set] at hc
      by_cases e : n = i
      · rw [if_pos e] at hc; split at hc <;> cases hc
      · rw [if_neg e] at hc; exact ⟨hc, fun e' => e e'.symm⟩
    by_cases hi : i < ps.length
    · obtain ⟨ci, ni⟩ := low hi hci
      rw [List.getElem?_append_left hi] at ha
      by_cases hj : j < ps.length
      · obtain ⟨cj, nj⟩ := low hj hcj
        rw [List.getElem?_append_left hj] at hb
        exact h.apart i j a b hij ha hb ci cj
      · rw [List.getElem?_append_right (by omega)] at hb
        have hsub := (hin b (List.mem_of_getElem? hb)).2
        have hnp : Apart a p := by
          by_cases h1 : i < n
          · exact h.apart i n a p h1 ha hp ci hn
          · exact (h.apart n i p a (by omega) hp ha hn ci).symm
        exact fun x y hc => hnp x y ⟨hc.1, hsub x y hc.2⟩
    · rw [List.getElem?_append_right (by omega)] at ha hb
      obtain ⟨hi', ea⟩ := List.getElem?_eq_some_iff.1 ha
      obtain ⟨hj', eb⟩ := List.getElem?_eq_some_iff.1 hb
      have := List.pairwise_iff_getElem.1 hap (i - ps.length) (j - ps.length) hi' hj' (by omega)
      rw [ea, eb] at this; exact this
theorem laid_start {a0 a1 : Int} (h0 : 1 ≤ a0 ∧ a0 ≤ 8) (h1 : 1 ≤ a1 ∧ a1 ≤ 8) : Laid a0 a1 [⟨0, 0, a0, a1⟩] [false] := by
  refine ⟨rfl, ?_, ?_, ?_⟩
  · intro p hp; simp at hp; subst hp; exact ⟨by simp, by simp, h0.1, h1.1, by simp; omega, by simp; omega⟩
  · intro p hp; simp at hp; subst hp; exact ⟨by simp, by simp, h0.1, h1.1, by simp, by simp⟩
  · intro i j p q hij hi hj
    have := (List.getElem?_eq_some_iff.1 hj).1
    simp at this; omega
theorem laid_do {a0 a1 saw : Int} (hs : 0 ≤ saw ∧ saw ≤ 2) : ∀ (cuts : List S112) {st st' : List S103 × List Bool}, (∀ c ∈ cuts, I64 c.f2) → Laid a0 a1 st.1 st.2 → doAll saw st cuts = some st' → Laid a0 a1 st'.1 st'.2
  | [], st, st', _, h, hd => by simp only [doAll, Option.some.injEq] at hd; subst hd; exact h
  | c :: cuts, st, st', hc, h, hd => by
    simp only [doAll] at hd
    cases hst : doStep saw st c with
    | none => rw [hst] at hd; cases hd
    | some s1 =>
      rw [hst] at hd
      refine laid_do hs cuts (fun x hx => hc x (by simp [hx])) ?_ hd
      unfold doStep at hst
      split at hst
      · rename_i hin
        split at hst
        · cases hst
        · rename_i hcut
          dsimp only at hst
          have hlt : c.f0.toNat < st.1.length := by omega
          have hp : st.1[c.f0.toNat]? = some (st.1.getD c.f0.toNat z103) := by rw [List.getD_eq_getElem?_getD, List.getElem?_eq_getElem hlt]; rfl
          have hn : st.2[c.f0.toNat]? = some false := by
            have hl2 : c.f0.toNat < st.2.length := by rw [h.len]; exact hlt
            rw [List.getD_eq_getElem?_getD, List.getElem?_eq_getElem hl2] at hcut
            rw [List.getElem?_eq_getElem hl2]
            simpa using hcut
          have hp8 := h.in8 _ (List.mem_of_getElem? hp)
          have := laid_step h (ac := c.f1) (at_ := c.f2) hs hp hn
          rw [partsOf_eq hp8 hs (hc c (by simp)).2] at hst
          split at hst
          · cases hst
          · cases hst; exact this
      · cases hst
end Go.Proofs.Ytffjbaknglemdaa.X
