import Derived.Test.YtffjbaknglemdaaHL6
namespace Go.Proofs.Ytffjbaknglemdaa.X
open Go.RowKit Go.Maps Go.Proofs.YtffjbaknglemdaaW.PrintWords Go.Proofs.YtffjbaknglemdaaW.PrintLast Go.Proofs.YtffjbaknglemdaaW.PrintMore
set_option linter.unusedSimpArgs false
set_option linter.unusedVariables false

/-! ### plates turned -/
theorem fitsB_eq (x : S115) (p : S103) : fitsB x p = fitsR x.f0 x.f1 x.f2 x.f4.f0 x.f4.f1 x.f5.f0 x.f5.f1 p.f0 p.f1 p.f2 p.f3 := fits_ref ⟨x.f0, x.f1, x.f2, x.f3, ⟨x.f4.f0, x.f4.f1⟩, ⟨x.f5.f0, x.f5.f1⟩⟩ ⟨p.f0, p.f1, p.f2, p.f3⟩
def Size (x : S115) (p : S103) : Prop := (p.f2 = x.f0 ∧ p.f3 = x.f1) ∨ (x.f2 = true ∧ p.f2 = x.f1 ∧ p.f3 = x.f0)
theorem fitsB_iff (x : S115) {p : S103} (hp : In8 p) : fitsB x p = true ↔ Size x p ∧ x.f4.f0 ≤ p.f0 ∧ p.f0 + p.f2 - 1 ≤ x.f4.f1 ∧ x.f5.f0 ≤ p.f1 ∧ p.f1 + p.f3 - 1 ≤ x.f5.f1 := by
 obtain ⟨x0, y0, w0, l0, x1, y1⟩ := hp
 rw [fitsB_eq]
 unfold fitsR Size
 rw [w64 (z := p.f0 + p.f2) (by omega) (by omega), w64 (z := p.f1 + p.f3) (by omega) (by omega), w64 (z := p.f0 + p.f2 - 1) (by omega) (by omega), w64 (z := p.f1 + p.f3 - 1) (by omega) (by omega)]
 simp only [Bool.and_eq_true, Bool.or_eq_true, beq_iff_eq, decide_eq_true_eq]
def swapW (x : S115) : S115 := ⟨x.f1, x.f0, x.f2, x.f3, x.f5, x.f4⟩
def swapP (p : S103) : S103 := ⟨p.f1, p.f0, p.f3, p.f2⟩
theorem parts_swap (ac : Bool) (p : S103) (at_ saw : Int) : partsN (!ac) (swapP p) at_ saw = (partsN ac p at_ saw).map swapP := by
 unfold partsN far part_ swapP
 cases ac
 ·simp only [Bool.not_false, if_true, Bool.false_eq_true, if_false]
  split
  ·rfl
  ·rw [List.map_append]; congr 1 <;> split <;> rfl
 ·simp only [Bool.not_true, if_true, Bool.false_eq_true, if_false]
  split
  ·rfl
  ·rw [List.map_append]; congr 1 <;> split <;> rfl
theorem in8_swap {p : S103} (h : In8 p) : In8 (swapP p) := ⟨h.y0, h.x0, h.l0, h.w0, h.y1, h.x1⟩
theorem fits_swap {x : S115} {p : S103} (hp : In8 p) (h : fitsB x p = true) : fitsB (swapW x) (swapP p) = true := by
 rw [fitsB_iff _ (in8_swap hp)]
 obtain ⟨hs, h1, h2, h3, h4⟩ := (fitsB_iff x hp).1 h
 refine ⟨?_, h3, h4, h1, h2⟩
 unfold Size at *
 unfold swapW swapP
 rcases hs with hs | hs
 ·exact .inl ⟨hs.2, hs.1⟩
 ·exact .inr ⟨hs.1, hs.2.2, hs.2.1⟩
theorem lok_map {l : List S115} (h : LOk l) (f : S115 → S115) (hf : ∀ x, (f x).f3 = x.f3) : LOk (l.map f) := ⟨by rw [List.length_map]; exact h.len, fun x hx => by
 obtain ⟨y, hy, rfl⟩ := List.mem_map.1 hx
 rw [hf]; exact h.worth y hy⟩
theorem swap_ge {l : List S115} (hl : LOk l) {saw : Int} (hs : 0 ≤ saw ∧ saw ≤ 2) {p : S103} (hp : In8 p) (w : W4) : Ge (bestP (l.map swapW) saw (swapP p) w).worth (bestP (l.map swapW) saw (swapP p) w).cuts (bestP l saw p w).worth (bestP l saw p w).cuts := by
 refine best_of_map hl hs (lok_map hl swapW (fun _ => rfl)) hs hp (in8_swap hp) (fun g k ht => ?_)
 refine Tr.map In8 swapP id (fun p ac at_ h8 q hq => (partsN_in8 h8 hs q hq).1) (fun p ac at_ a _ e => ⟨!ac, at_, by rw [parts_swap, e]; rfl⟩) (fun p ac at_ a b _ e => ⟨!ac, at_, .inl (by rw [parts_swap, e]; rfl)⟩) (fun u w h => h) (fun u w => rfl) ?_ ht hp
 intro i x p w e1 e2 h8 e3
 exact ⟨i, swapW x, by rw [List.getElem?_map, e1]; rfl, e2, Int.le_refl _, fits_swap h8 e3⟩
theorem swap_swap (l : List S115) : (l.map swapW).map swapW = l := by rw [List.map_map]; exact List.map_id'' (fun _ => rfl) l
theorem swap_ok {a0 a1 a2 : Int} {l : List S115} (h : PlOk a0 a1 a2 l) : PlOk a1 a0 a2 (l.map swapW) := ⟨h.lng, h.wid, h.saw, by rw [List.length_map]; exact h.len, fun x hx => by
 obtain ⟨y, hy, rfl⟩ := List.mem_map.1 hx
 have := h.all y hy
 exact ⟨this.lng, this.wid, this.worth, this.yz, this.xz⟩⟩
theorem swap_law {a0 a1 a2 : Int} {l : List S115} (h : PlOk a0 a1 a2 l) : (worthP a1 a0 a2 (l.map swapW)).worth = (worthP a0 a1 a2 l).worth ∧ (worthP a1 a0 a2 (l.map swapW)).cuts = (worthP a0 a1 a2 l).cuts := by
 unfold worthP
 rw [List.length_map]
 have h1 := swap_ge h.lok h.saw h.in8 (wholeW l.length)
 have h2 := swap_ge (swap_ok h).lok h.saw (in8_swap h.in8) (wholeW l.length)
 rw [swap_swap] at h2
 exact Ge.antisymm h1 h2
/-! turned over -/
def reflW (W : Int) (x : S115) : S115 := ⟨x.f0, x.f1, x.f2, x.f3, ⟨max 0 (W - 1 - x.f4.f1), max 0 (W - 1 - x.f4.f0)⟩, x.f5⟩
def reflP (W : Int) (p : S103) : S103 := ⟨W - p.f0 - p.f2, p.f1, p.f2, p.f3⟩
theorem parts_refl_ac (W : Int) (p : S103) (at_ saw : Int) : partsN true (reflP W p) at_ saw = (partsN true p at_ saw).map (reflP W) := by
 unfold partsN far part_ reflP
 simp only [if_true]
 split
 ·rfl
 ·rw [List.map_append]; congr 1 <;> split <;> rfl
theorem parts_refl (W : Int) (p : S103) (at_ saw : Int) : partsN false (reflP W p) (p.f2 - at_ - saw) saw = ((partsN false p at_ saw).map (reflP W)).reverse := by
 unfold partsN far part_ reflP
 simp only [Bool.false_eq_true, if_false]
 by_cases hb : at_ < 0 ∨ p.f2 - at_ - saw < 0 ∨ (saw = 0 ∧ (at_ = 0 ∨ p.f2 - at_ - saw = 0))
 ·rw [if_pos hb, if_pos (by omega)]; rfl
 ·rw [if_neg hb, if_neg (by omega)]
  have e1 : p.f2 - (p.f2 - at_ - saw) - saw = at_ := by omega
  rw [e1]
  by_cases h1 : 0 < at_ <;> by_cases h2 : 0 < p.f2 - at_ - saw
  ·rw [if_pos h1, if_pos h1, if_pos h2, if_pos h2]
   simp only [List.map_append, List.map_cons, List.map_nil, List.reverse_append, List.reverse_cons, List.reverse_nil, List.nil_append, List.cons_append, List.cons.injEq, S103.mk.injEq, and_true, true_and]
   omega
  ·rw [if_pos h1, if_pos h1, if_neg h2, if_neg h2]
   simp only [List.map_append, List.map_cons, List.map_nil, List.reverse_append, List.reverse_cons, List.reverse_nil, List.nil_append, List.append_nil, List.cons_append, List.cons.injEq, S103.mk.injEq, and_true, true_and]
   omega
  ·rw [if_neg h1, if_neg h1, if_pos h2, if_pos h2]
   simp only [List.map_append, List.map_cons, List.map_nil, List.reverse_append, List.reverse_cons, List.reverse_nil, List.nil_append, List.append_nil, List.cons_append, List.cons.injEq, S103.mk.injEq, and_true, true_and]
   omega
  ·rw [if_neg h1, if_neg h1, if_neg h2, if_neg h2]; rfl
def IW (a0 a1 : Int) (p : S103) : Prop := In8 p ∧ In a0 a1 p
theorem refl_in8 {a0 a1 : Int} (h0 : 1 ≤ a0 ∧ a0 ≤ 8) {p : S103} (h : IW a0 a1 p) : In8 (reflP a0 p) := by
 obtain ⟨⟨x0, y0, w0, l0, x1, y1⟩, ⟨i0, i1, i2, i3, i4, i5⟩⟩ := h
 exact ⟨by simp only [reflP]; omega, y0, w0, l0, by simp only [reflP]; omega, y1⟩
theorem refl_map {a0 a1 : Int} (h0 : 1 ≤ a0 ∧ a0 ≤ 8) {l l' : List S115} {saw : Int} (hs : 0 ≤ saw ∧ saw ≤ 2)
  (hu : ∀ (i : Nat) (x : S115) (p : S103), l[i]? = some x → IW a0 a1 p → fitsB x p = true → ∃ x', l'[i]? = some x' ∧ x.f3 ≤ x'.f3 ∧ fitsB x' (reflP a0 p) = true)
  {p : S103} {w : W4} {g k : Int} (h : Tr l saw p w g k) (hp : IW a0 a1 p) : ∃ g', g ≤ g' ∧ Tr l' saw (reflP a0 p) w g' k := by
 refine Tr.map (IW a0 a1) (reflP a0) id (fun p ac at_ hi q hq => ⟨(partsN_in8 hi.1 hs q hq).1, (parts_in hi.1 hi.2 hs q hq).1⟩) (fun p ac at_ a _ e => ?_) (fun p ac at_ a b _ e => ?_) (fun u w h => h) (fun u w => rfl) ?_ h hp
 ·cases ac with
  | true => exact ⟨true, at_, by rw [parts_refl_ac, e]; rfl⟩
  | false => exact ⟨false, p.f2 - at_ - saw, by rw [parts_refl, e]; rfl⟩
 ·cases ac with
  | true => exact ⟨true, at_, .inl (by rw [parts_refl_ac, e]; rfl)⟩
  | false => exact ⟨false, p.f2 - at_ - saw, .inr (by rw [parts_refl, e]; rfl)⟩
 ·intro i x q w e1 e2 hi e3
  obtain ⟨x', f1, f2, f3⟩ := hu i x q e1 hi e3
  exact ⟨i, x', f1, e2, f2, f3⟩
theorem fits_refl {a0 a1 : Int} (h0 : 1 ≤ a0 ∧ a0 ≤ 8) {x : S115} {p : S103} (hi : IW a0 a1 p) (h : fitsB x p = true) : fitsB (reflW a0 x) (reflP a0 p) = true := by
 rw [fitsB_iff _ (refl_in8 h0 hi)]
 obtain ⟨hs, h1, h2, h3, h4⟩ := (fitsB_iff x hi.1).1 h
 obtain ⟨-, ⟨i0, i1, i2, i3, i4, i5⟩⟩ := hi
 refine ⟨hs, ?_, ?_, h3, h4⟩ <;> simp only [reflW, reflP] <;> omega
theorem fits_refl_back {a0 a1 : Int} (h0 : 1 ≤ a0 ∧ a0 ≤ 8) {x : S115} {p : S103} (hi : IW a0 a1 p) (ho : x.f4.f0 ≤ a0 - 1) (h : fitsB (reflW a0 x) p = true) : fitsB x (reflP a0 p) = true := by
 rw [fitsB_iff _ (refl_in8 h0 hi)]
 obtain ⟨hs, h1, h2, h3, h4⟩ := (fitsB_iff _ hi.1).1 h
 obtain ⟨-, ⟨i0, i1, i2, i3, i4, i5⟩⟩ := hi
 simp only [reflW] at h1 h2
 refine ⟨hs, ?_, ?_, h3, h4⟩ <;> simp only [reflP] <;> omega
theorem refl_ok {a0 a1 a2 : Int} {l : List S115} (h : PlOk a0 a1 a2 l) : PlOk a0 a1 a2 (l.map (reflW a0)) := ⟨h.wid, h.lng, h.saw, by rw [List.length_map]; exact h.len, fun x hx => by
 obtain ⟨y, hy, rfl⟩ := List.mem_map.1 hx
 have t := h.all y hy
 have hz := t.xz
 have hw := h.wid
 exact ⟨t.wid, t.lng, t.worth, by simp only [reflW]; omega, t.yz⟩⟩
theorem reflP_p0 (a0 a1 : Int) : reflP a0 (p0 a0 a1) = p0 a0 a1 := by simp only [reflP, p0, S103.mk.injEq, and_true]; omega
theorem refl_law {a0 a1 a2 : Int} {l : List S115} (h : PlOk a0 a1 a2 l) (ho : ∀ x ∈ l, x.f4.f0 ≤ a0 - 1) : (worthP a0 a1 a2 (l.map (reflW a0))).worth = (worthP a0 a1 a2 l).worth ∧ (worthP a0 a1 a2 (l.map (reflW a0))).cuts = (worthP a0 a1 a2 l).cuts := by
 unfold worthP
 rw [List.length_map]
 have hi : IW a0 a1 (p0 a0 a1) := ⟨h.in8, by simp [p0], by simp [p0], h.wid.1, h.lng.1, by simp [p0], by simp [p0]⟩
 have h1 := best_of_map h.lok h.saw (refl_ok h).lok h.saw h.in8 (p' := p0 a0 a1) (w := wholeW l.length) (w' := wholeW l.length) h.in8 (fun g k ht => by
  have := refl_map (l' := l.map (reflW a0)) h.wid h.saw (fun i x p e1 hp e3 => ⟨reflW a0 x, by rw [List.getElem?_map, e1]; rfl, Int.le_refl _, fits_refl h.wid hp e3⟩) ht hi
  rw [reflP_p0] at this; exact this)
 have h2 := best_of_map (refl_ok h).lok h.saw h.lok h.saw h.in8 (p' := p0 a0 a1) (w := wholeW l.length) (w' := wholeW l.length) h.in8 (fun g k ht => by
  have := refl_map (l' := l) h.wid h.saw (fun i x p e1 hp e3 => by
   rw [List.getElem?_map] at e1
   obtain ⟨y, e, rfl⟩ := Option.map_eq_some_iff.1 e1
   exact ⟨y, e, Int.le_refl _, fits_refl_back h.wid hp (ho y (List.mem_of_getElem? e)) e3⟩) ht hi
  rw [reflP_p0] at this; exact this)
 exact Ge.antisymm h1 h2

/-! ### one specimen alone -/
def Free (saw n : Int) : Prop := n = 0 ∨ (1 ≤ n ∧ saw ≤ n)
theorem partsN_two {ac : Bool} {p : S103} {at_ saw : Int} (hs : 0 ≤ saw) (h0 : 0 < at_) (h1 : at_ + saw < far ac p) : partsN ac p at_ saw = [part_ ac p 0 at_, part_ ac p (at_ + saw) (far ac p - at_ - saw)] := by
 unfold partsN
 rw [if_neg (show ¬ (at_ < 0 ∨ far ac p - at_ - saw < 0 ∨ (saw = 0 ∧ (at_ = 0 ∨ far ac p - at_ - saw = 0))) by omega), if_pos h0, if_pos (show 0 < far ac p - at_ - saw by omega)]; rfl
theorem partsN_first {ac : Bool} {p : S103} {at_ saw : Int} (hs : 1 ≤ saw) (h0 : 0 < at_) (h1 : at_ + saw = far ac p) : partsN ac p at_ saw = [part_ ac p 0 at_] := by
 unfold partsN
 rw [if_neg (show ¬ (at_ < 0 ∨ far ac p - at_ - saw < 0 ∨ (saw = 0 ∧ (at_ = 0 ∨ far ac p - at_ - saw = 0))) by omega), if_pos h0, if_neg (show ¬ 0 < far ac p - at_ - saw by omega)]; rfl
theorem partsN_last {ac : Bool} {p : S103} {saw : Int} (hs : 1 ≤ saw) (h1 : saw < far ac p) : partsN ac p 0 saw = [part_ ac p saw (far ac p - saw)] := by
 unfold partsN
 rw [if_neg (show ¬ ((0 : Int) < 0 ∨ far ac p - 0 - saw < 0 ∨ (saw = 0 ∧ ((0 : Int) = 0 ∨ far ac p - 0 - saw = 0))) by omega), if_neg (by omega), if_pos (show 0 < far ac p - 0 - saw by omega), Int.zero_add, Int.sub_zero]; rfl
/-- A part of a piece, from unit f on, m units, both rests free: what is made of it is made of the piece. -/
theorem cut_out {l : List S115} {saw : Int} (hs : 0 ≤ saw) {ac : Bool} {p : S103} {f m : Int} (hf : Free saw f) (hm : 1 ≤ m) (hr : Free saw (far ac p - f - m)) {w : W4} {g k : Int} (h : Tr l saw (part_ ac p f m) w g k) : ∃ k', Tr l saw p w g k' := by
 -- the far rest first
 have h1 : ∃ k', Tr l saw (part_ ac p 0 (f + m)) w g k' := by
  have ef : far ac (part_ ac p 0 (f + m)) = f + m := by unfold far part_; cases ac <;> rfl
  have ep : ∀ a b, part_ ac (part_ ac p 0 (f + m)) a b = part_ ac p a b := fun a b => by unfold part_; cases ac <;> simp
  rcases hf with rfl | ⟨hf1, hf2⟩
  ·rw [Int.zero_add]; exact ⟨k, h⟩
  ·by_cases e : f = saw
   ·subst e
    refine ⟨k + 1, .one _ _ ac 0 (part_ ac p f m) _ _ ?_ h⟩
    rw [partsN_last (by omega) (by rw [ef]; omega), ef, ep, show f + m - f = m by omega]
   ·have e2 : partsN ac (part_ ac p 0 (f + m)) (f - saw) saw = [part_ ac p 0 (f - saw), part_ ac p f m] := by
     rw [partsN_two hs (by omega) (by rw [ef]; omega), ef, ep, ep, show f - saw + saw = f by omega, show f + m - (f - saw) - saw = m by omega]
    have hless : ∀ w : W4, w.less W4.none4 = w := fun w => by obtain ⟨a, b, c, d⟩ := w; simp [W4.less, W4.none4]
    exact ⟨0 + k + 1, by
     have := Tr.two (part_ ac p 0 (f + m)) w ac (f - saw) _ _ W4.none4 0 g 0 k e2 (by unfold W4.sub W4.none4; simp) (.none _ _) (by rw [hless]; exact h)
     rw [Int.zero_add] at this; exact this⟩
 obtain ⟨k1, h1⟩ := h1
 have hf0 : 0 ≤ f := by rcases hf with h | h <;> omega
 have ep0 : far ac p = f + m → part_ ac p 0 (f + m) = p := fun e => by rw [← e]; unfold part_ far; cases ac <;> simp
 rcases hr with hr | ⟨hr1, hr2⟩
 ·rw [ep0 (by omega)] at h1; exact ⟨k1, h1⟩
 ·by_cases e : far ac p - f - m = saw
  ·exact ⟨k1 + 1, .one _ _ ac (f + m) _ _ _ (partsN_first (by omega) (by omega) (by omega)) h1⟩
  ·have e2 := partsN_two (ac := ac) (p := p) (at_ := f + m) hs (by omega) (by omega)
   exact ⟨k1 + 0 + 1, by
    have := Tr.two p w ac (f + m) _ _ w g 0 k1 0 e2 (W4.sub_refl w) h1 (.none _ _)
    rw [Int.add_zero] at this; exact this⟩
/-- A piece of a plate whose rests are free. -/
structure Spot (saw a0 a1 : Int) (q : S103) : Prop where
 ins : IW a0 a1 q
 l : Free saw q.f0
 b : Free saw q.f1
 r : Free saw (a0 - q.f0 - q.f2)
 t : Free saw (a1 - q.f1 - q.f3)
theorem spot_parts {saw a0 a1 : Int} (hs : 0 ≤ saw ∧ saw ≤ 2) {p : S103} (h : Spot saw a0 a1 p) {ac : Bool} {at_ : Int} : ∀ q ∈ partsN ac p at_ saw, Spot saw a0 a1 q := by
 intro q hq
 have hq8 : IW a0 a1 q := ⟨(partsN_in8 h.ins.1 hs q hq).1, (parts_in h.ins.1 h.ins.2 hs q hq).1⟩
 obtain ⟨⟨⟨x0, y0, w0, l0, x1, y1⟩, ⟨i0, i1, i2, i3, i4, i5⟩⟩, hl, hb, hr, ht⟩ := id h
 unfold Free at hl hb hr ht
 have key : ∀ f m : Int, 0 ≤ f → 1 ≤ m → f + m ≤ far ac p → (f = 0 ∨ (1 ≤ f ∧ saw ≤ f)) → (far ac p - f - m = 0 ∨ (1 ≤ far ac p - f - m ∧ saw ≤ far ac p - f - m)) → IW a0 a1 (part_ ac p f m) → Spot saw a0 a1 (part_ ac p f m) := by
  intro f m h1 h2 h3 h4 h5 h6
  refine ⟨h6, ?_, ?_, ?_, ?_⟩ <;> unfold Free part_ <;> unfold far at h3 h5 <;> cases ac <;> simp only [Bool.false_eq_true, if_false, if_true] at * <;> omega
 rcases partsN_cases h.ins.1 hs (across := ac) (at_ := at_) with e | ⟨e, c1, c2, c3⟩ | ⟨e, c1, c2, c3⟩ | ⟨e, c1, c2⟩
 ·rw [e] at hq; cases hq
 ·rw [e] at hq
  simp only [List.mem_cons, List.not_mem_nil, or_false] at hq
  subst hq
  exact key 0 at_ (Int.le_refl _) (by omega) (by omega) (.inl rfl) (.inr ⟨by omega, by omega⟩) hq8
 ·rw [e] at hq
  simp only [List.mem_cons, List.not_mem_nil, or_false] at hq
  subst hq
  exact key saw _ (by omega) (by omega) (by omega) (.inr ⟨by omega, by omega⟩) (.inl (by omega)) hq8
 ·rw [e] at hq
  simp only [List.mem_cons, List.not_mem_nil, or_false] at hq
  rcases hq with rfl | rfl
  ·exact key 0 at_ (Int.le_refl _) (by omega) (by omega) (.inl rfl) (.inr ⟨by omega, by omega⟩) hq8
  ·exact key (at_ + saw) _ (by omega) (by omega) (by omega) (.inr ⟨by omega, by omega⟩) (.inl (by omega)) hq8
theorem tr_spot {x : S115} {saw a0 a1 : Int} (hs : 0 ≤ saw ∧ saw ≤ 2) {p : S103} {w : W4} {g k : Int} (h : Tr [x] saw p w g k) : Spot saw a0 a1 p → g ≠ 0 → ∃ q, Spot saw a0 a1 q ∧ fitsB x q = true := by
 induction h with
 | none p w => intro _ h; exact absurd rfl h
 | use p w i y e1 e2 e3 =>
  intro hp _
  have : y = x := by
   match i, e1 with
   | 0, e1 => simpa using e1.symm
   | n + 1, e1 => simp at e1
  subst this
  exact ⟨p, hp, e3⟩
 | one p w ac at_ a g k e1 e2 ih => intro hp hg; exact ih (spot_parts hs hp a (by rw [e1]; simp)) hg
 | two p w ac at_ a b u g h k m e1 e2 e3 e4 ih1 ih2 =>
  intro hp hg
  by_cases h0 : g = 0
  ·exact ih2 (spot_parts hs hp b (by rw [e1]; simp)) (by omega)
  ·exact ih1 (spot_parts hs hp a (by rw [e1]; simp)) h0
theorem spot_tr {x : S115} {saw a0 a1 : Int} (hs : 0 ≤ saw ∧ saw ≤ 2) {q : S103} (hq : Spot saw a0 a1 q) (hf : fitsB x q = true) : ∃ k, Tr [x] saw (p0 a0 a1) (wholeW 1) x.f3 k := by
 have h0 : Tr [x] saw q (wholeW 1) x.f3 0 := .use _ _ 0 x rfl rfl hf
 obtain ⟨-, hl, hb, hr, ht⟩ := id hq
 have h8 := hq.ins.1
 have e1 : part_ true (part_ false (p0 a0 a1) q.f0 q.f2) q.f1 q.f3 = q := by unfold part_ p0; simp
 obtain ⟨k1, h1⟩ := cut_out (l := [x]) hs.1 (ac := true) (p := part_ false (p0 a0 a1) q.f0 q.f2) (f := q.f1) (m := q.f3) hb h8.l0 ht (by rw [e1]; exact h0)
 exact cut_out hs.1 (ac := false) (p := p0 a0 a1) (f := q.f0) (m := q.f2) hl h8.w0 hr h1
theorem alone_law {a0 a1 a2 : Int} {x : S115} (h : PlOk a0 a1 a2 [x]) (hx : x.f3 ≠ 0) : ((∃ q, Spot a2 a0 a1 q ∧ fitsB x q = true) → (worthP a0 a1 a2 [x]).worth = x.f3) ∧ (¬ (∃ q, Spot a2 a0 a1 q ∧ fitsB x q = true) → (worthP a0 a1 a2 [x]).worth = 0) := by
 have hb := (best_tr h.lok h.saw h.in8 (wholeW 1)).bd h.lok
 have ht : tot [x] (wholeW 1) = x.f3 := by unfold tot wholeW wIf; simp
 rw [ht] at hb
 have e : worthP a0 a1 a2 [x] = bestP [x] a2 (p0 a0 a1) (wholeW 1) := rfl
 rw [e]
 constructor
 ·rintro ⟨q, hq, hf⟩
  obtain ⟨k, hk⟩ := spot_tr h.saw hq hf
  have := best_ge h.lok h.saw h.in8 hk
  unfold Ge at this
  omega
 ·intro hn
  refine Classical.byContradiction fun h0 => hn ?_
  refine tr_spot h.saw (best_tr h.lok h.saw h.in8 (wholeW 1)) ⟨⟨h.in8, by simp [p0], by simp [p0], h.wid.1, h.lng.1, by simp [p0], by simp [p0]⟩, ?_, ?_, ?_, ?_⟩ h0
  all_goals unfold Free p0; simp

/-! ### PlateAlone 9 -/
theorem mxa_int (k k' : IntKind) (x y : Int) : Builtin.max2 (.int k x) (.int k' y) = pure (.int k (if x < y then y else x)) := by simp only [Builtin.max2, gt_iff_lt]
theorem mxa_two (ats : Array TypeId) (ty : TypeId) (a b : Value) : Builtin.max_ ats ty #[a, b] = (Builtin.max2 a b >>= fun s => pure s) := by simp only [Builtin.max_, List.foldlM_cons, List.foldlM_nil]
attribute [local go_sem] mxa_int mxa_two
theorem add0_ (a : Addr) : a.add 0 = a := by cases a; rfl
def freeR (n saw : Int) : Bool := (n == 0) || decide ((if 1 < saw then saw else 1) ≤ n)
theorem freeR_iff {n saw : Int} : freeR n saw = true ↔ Free saw n := by
 unfold freeR Free
 rw [Bool.or_eq_true, beq_iff_eq, decide_eq_true_eq]
 split <;> omega
theorem free_calls (n saw : Int) (w : World) : Calls Try.prog 45 #[.int .i64 n, .int .i64 saw] w fun e w' => e = .returned (.bool (freeR n saw)) ∧ Below w.heap.size w w' := by
 unfold freeR
 by_cases h : 1 < saw
 ·rw [if_pos h]
  cases c0 : (n == 0) <;> (go_enter Try.func45, Try.ntmps45; go_wp2; go_ret; exact ⟨rfl, Below.refl _ _⟩)
 ·rw [if_neg h]
  cases c0 : (n == 0) <;> (go_enter Try.func45, Try.ntmps45; go_wp2; go_ret; exact ⟨rfl, Below.refl _ _⟩)
def placeY (x : S82) (ux uy : Int) (t : Nat) : S88 := ⟨ux, uy, if t = 1 then x.f1 else x.f0, if t = 1 then x.f0 else x.f1⟩
def placeC (x : S82) (a0 a1 saw ux uy : Int) (t : Nat) : Bool :=
 fitR x (placeY x ux uy t) && (decide (0 ≤ a0 - ux - (placeY x ux uy t).f2) && (decide (0 ≤ a1 - uy - (placeY x ux uy t).f3) && (freeR ux saw && (freeR uy saw && (freeR (a0 - ux - (placeY x ux uy t).f2) saw && freeR (a1 - uy - (placeY x ux uy t).f3) saw)))))
def anyT (x : S82) (a0 a1 saw ux uy : Int) (n : Nat) : Bool := (List.range n).any fun t => placeC x a0 a1 saw ux uy t
def anyY (x : S82) (a0 a1 saw ux : Int) (n : Nat) : Bool := (List.range n).any fun (uy : Nat) => anyT x a0 a1 saw ux uy 2
def anyX (x : S82) (a0 a1 saw : Int) (m n : Nat) : Bool := (List.range n).any fun (ux : Nat) => anyY x a0 a1 saw ux m
theorem any_succ (f : Nat → Bool) (n : Nat) : (List.range (n + 1)).any f = ((List.range n).any f || f n) := by rw [List.range_succ, List.any_append]; simp
theorem C_take {w : World} {A : Option Addr} {n m : Nat} {l : List S82} (h : Kd.C k82 w A n l) (hm : m ≤ n) : Kd.C k82 w A m (l.take m) := by
 obtain ⟨h1, h2, h3⟩ := h
 refine ⟨by rw [List.length_take]; omega, by omega, fun h0 => ?_⟩
 obtain ⟨ad, e, hc⟩ := h3 (by omega)
 refine ⟨ad, e, fun j p hj => hc j p ?_⟩
 rw [List.getElem?_take] at hj
 split at hj
 ·exact hj
 ·cases hj
theorem place_iff {x : S82} {m : Nat} {a1 : Nat} {saw : Int} (hw : WOk (toW x)) (h8 : m ≤ 8 := by omega) (h8' : a1 ≤ 8 := by omega) : anyX x m a1 saw a1 m = true ↔ ∃ q, Spot saw m a1 q ∧ fitsB (toW x) q = true := by
 have hx0 := hw.wid
 have hx1 := hw.lng
 simp only [toW] at hx0 hx1
 unfold anyX anyY anyT
 simp only [List.any_eq_true, List.mem_range]
 constructor
 ·rintro ⟨ux, hux, uy, huy, t, ht, hp⟩
  unfold placeC at hp
  simp only [Bool.and_eq_true, decide_eq_true_eq, freeR_iff] at hp
  obtain ⟨p1, p2, p3, p4, p5, p6, p7⟩ := hp
  have hs : 1 ≤ (placeY x ux uy t).f2 ∧ 1 ≤ (placeY x ux uy t).f3 := by unfold placeY; simp only; split <;> omega
  have e0 : (placeY x ux uy t).f0 = ux := rfl
  have e1 : (placeY x ux uy t).f1 = uy := rfl
  refine ⟨toP (placeY x ux uy t), ⟨⟨⟨?_, ?_, ?_, ?_, ?_, ?_⟩, ⟨?_, ?_, ?_, ?_, ?_, ?_⟩⟩, ?_, ?_, ?_, ?_⟩, by rw [fits_ref]; exact p1⟩
  all_goals simp only [toP, e0, e1]
  all_goals first | exact p4 | exact p5 | exact p6 | exact p7 | omega
 ·rintro ⟨q, hq, hf⟩
  obtain ⟨⟨h8q, ⟨i0, i1, i2, i3, i4, i5⟩⟩, hl, hb, hr, ht⟩ := hq
  have hfb := (fitsB_iff _ h8q).1 hf
  have hsz := hfb.1
  unfold Size at hsz
  simp only [toW] at hsz
  have mk : ∀ t : Nat, t < 2 → placeY x q.f0 q.f1 t = ⟨q.f0, q.f1, q.f2, q.f3⟩ → ∃ ux : Nat, ux < m ∧ ∃ uy : Nat, uy < a1 ∧ ∃ t : Nat, t < 2 ∧ placeC x m a1 saw ux uy t = true := by
   intro t ht2 he
   refine ⟨q.f0.toNat, by omega, q.f1.toNat, by omega, t, ht2, ?_⟩
   rw [show ((q.f0.toNat : Nat) : Int) = q.f0 by omega, show ((q.f1.toNat : Nat) : Int) = q.f1 by omega]
   unfold placeC
   rw [he]
   simp only [Bool.and_eq_true, decide_eq_true_eq, freeR_iff]
   refine ⟨?_, by omega, by omega, hl, hb, hr, ht⟩
   rw [← fits_ref]; exact hf
  rcases hsz with ⟨s1, s2⟩ | ⟨-, s1, s2⟩
  ·exact mk 0 (by omega) (by unfold placeY; simp [s1, s2])
  ·exact mk 1 (by omega) (by unfold placeY; simp [s1, s2])
structure AlI (w : World) (a0 a1 a2 : Int) (sv u : Value) (g3 : Nat) (wr : World) : Prop where
 b0 : wr.heap[w.heap.size]? = some (.cells #[.int .i64 a0, .int .i64 a1, .int .i64 a2, sv] 24 (0, 0))
 b3 : wr.heap[g3]? = some (.cells #[.int .i64 a0, .int .i64 a1, .int .i64 a2, u] 24 (0, 0))
 low : Below w.heap.size w wr
theorem AlI.below {w wr W : World} {a0 a1 a2 : Int} {sv u : Value} {g3 : Nat} (h : AlI w a0 a1 a2 sv u g3 wr) (hb : Below wr.heap.size wr W) : AlI w a0 a1 a2 sv u g3 W := ⟨blk_below h.b0 hb, blk_below h.b3 hb, below_step h.low hb⟩
set_option maxRecDepth 100000 in
set_option maxHeartbeats 4000000 in
theorem plateAlone_calls (a0 a1 a2 : Int) (A : Option Addr) (c : Nat) (l : List S82) (w : World) (hl : Kd.C k82 w A l.length l) (hlc : l.length ≤ c) :
  Calls Try.prog 9 #[.agg #[.int .i64 a0, .int .i64 a1, .int .i64 a2, .slice A l.length c]] w fun e w' => e = .returned (.bool true) ∧ Below w.heap.size w w' := by
 have HL := Lib.hid hl
 have HI : Hid (LI w a0 a1 a2 (.slice A l.length c) (w.alloc (.cells #[.int .i64 a0, .int .i64 a1, .int .i64 a2, .slice A l.length c] 24))) := Lib.hid ⟨alloc_at rfl, below_alloc (Below.refl _ _) _⟩
 have h43 := fun w h => ready_calls a0 a1 a2 A c l w h hlc
 cases hre : readyR a0 a1 a2 l with
 | false =>
  rw [hre] at h43
  have H43 := Lib.hid h43
  clear h43 hre hl
  go_enter Try.func9, Try.ntmps9
  go_wp2_with (first | (go_at_call 43; refine (H43.out _ (Kd.C_below HL.out HI.out.low)).mono ?_; rintro e V1 ⟨rfl, hs⟩; have HI := Lib.hid (HI.out.below hs); have hz0 : V1.cell? ⟨w.heap.size, 0, none⟩ = some (.int .i64 a0) := (blk_cell HI.out.b0 0).trans rfl; have hz1 : V1.cell? ⟨w.heap.size, 1, none⟩ = some (.int .i64 a1) := (blk_cell HI.out.b0 1).trans rfl; have hz2 : V1.cell? ⟨w.heap.size, 2, none⟩ = some (.int .i64 a2) := (blk_cell HI.out.b0 2).trans rfl; have hz3 : V1.cell? ⟨w.heap.size, 3, none⟩ = some (.slice A l.length c) := (blk_cell HI.out.b0 3).trans rfl) | (go_at_call 25; refine (wakes_calls _).mono ?_; rintro e V9 ⟨rfl, hs⟩; have HI := Lib.hid (HI.out.below hs)))
  go_ret
  exact ⟨rfl, HI.out.low⟩
 | true =>
 rw [hre] at h43
 have H43 := Lib.hid h43
 have ho : PlOk a0 a1 a2 (l.map toW) := by
  unfold readyR at hre
  simp only [Bool.and_eq_true, beq_iff_eq] at hre
  exact fault_ok hre.2
 clear h43 hre
 by_cases hl0 : l.length = 0
 ·have hb : ((l.length : Int) == 0) = true := by rw [hl0]; rfl
  clear ho hl0 hl
  go_enter Try.func9, Try.ntmps9
  go_wp2_with (first | (go_at_call 43; refine (H43.out _ (Kd.C_below HL.out HI.out.low)).mono ?_; rintro e V1 ⟨rfl, hs⟩; have HI := Lib.hid (HI.out.below hs); have hz0 : V1.cell? ⟨w.heap.size, 0, none⟩ = some (.int .i64 a0) := (blk_cell HI.out.b0 0).trans rfl; have hz1 : V1.cell? ⟨w.heap.size, 1, none⟩ = some (.int .i64 a1) := (blk_cell HI.out.b0 1).trans rfl; have hz2 : V1.cell? ⟨w.heap.size, 2, none⟩ = some (.int .i64 a2) := (blk_cell HI.out.b0 2).trans rfl; have hz3 : V1.cell? ⟨w.heap.size, 3, none⟩ = some (.slice A l.length c) := (blk_cell HI.out.b0 3).trans rfl) | (go_at_call 25; refine (wakes_calls _).mono ?_; rintro e V9 ⟨rfl, hs⟩; have HI := Lib.hid (HI.out.below hs)))
  go_ret
  exact ⟨rfl, HI.out.low⟩
 have hb : ((l.length : Int) == 0) = false := by rw [beq_eq_false_iff_ne]; omega
 have hlen0 : (0 : Int) < (l.length : Int) := by omega
 have HLN := Lib.hid hlen0
 obtain ⟨ad, rfl, -⟩ := at_T82 hl 0 (Int.le_refl _) hlen0
 obtain ⟨x, hxe⟩ : ∃ x, rd_T82 l 0 = x := ⟨_, rfl⟩
 have HXE := Lib.hid hxe
 have HOK := Lib.hid ho
 clear hl ho
 by_cases hw0 : x.f3 = 0
 ·have hb2 : (x.f3 == 0) = true := by rw [hw0]; rfl
  clear hxe hw0
  go_enter Try.func9, Try.ntmps9
  go_wp2_with (first | (go_at_call 43; refine (H43.out _ (Kd.C_below HL.out HI.out.low)).mono ?_; rintro e V1 ⟨rfl, hs⟩; have HI := Lib.hid (HI.out.below hs); have hz0 : V1.cell? ⟨w.heap.size, 0, none⟩ = some (.int .i64 a0) := (blk_cell HI.out.b0 0).trans rfl; have hz1 : V1.cell? ⟨w.heap.size, 1, none⟩ = some (.int .i64 a1) := (blk_cell HI.out.b0 1).trans rfl; have hz2 : V1.cell? ⟨w.heap.size, 2, none⟩ = some (.int .i64 a2) := (blk_cell HI.out.b0 2).trans rfl; have hz3 : V1.cell? ⟨w.heap.size, 3, none⟩ = some (.slice (some ad) l.length c) := (blk_cell HI.out.b0 3).trans rfl; obtain ⟨ad9, e9, hx0, hx1, hx2, hx3, hx4, hx5, hx6, hx7⟩ := at_T82 (Kd.C_below HL.out HI.out.low) 0 (Int.le_refl _) HLN.out; cases e9; rw [HXE.out] at hx0 hx1 hx2 hx3 hx4 hx5 hx6 hx7; simp only [Int.toNat_zero, Nat.zero_mul, add0_] at hx0 hx1 hx2 hx3 hx4 hx5 hx6 hx7) | (go_at_call 25; refine (wakes_calls _).mono ?_; rintro e V9 ⟨rfl, hs⟩; have HI := Lib.hid (HI.out.below hs)))
  go_ret
  exact ⟨rfl, HI.out.low⟩
 have hb2 : (x.f3 == 0) = false := by simpa using hw0
 by_cases hbig : 40 < wrap64 (a0 * a1)
 ·have hb3 : decide (40 < wrap64 (a0 * a1)) = true := decide_eq_true hbig
  clear hxe hw0 hbig
  go_enter Try.func9, Try.ntmps9
  go_wp2_with (first | (go_at_call 43; refine (H43.out _ (Kd.C_below HL.out HI.out.low)).mono ?_; rintro e V1 ⟨rfl, hs⟩; have HI := Lib.hid (HI.out.below hs); have hz0 : V1.cell? ⟨w.heap.size, 0, none⟩ = some (.int .i64 a0) := (blk_cell HI.out.b0 0).trans rfl; have hz1 : V1.cell? ⟨w.heap.size, 1, none⟩ = some (.int .i64 a1) := (blk_cell HI.out.b0 1).trans rfl; have hz2 : V1.cell? ⟨w.heap.size, 2, none⟩ = some (.int .i64 a2) := (blk_cell HI.out.b0 2).trans rfl; have hz3 : V1.cell? ⟨w.heap.size, 3, none⟩ = some (.slice (some ad) l.length c) := (blk_cell HI.out.b0 3).trans rfl; obtain ⟨ad9, e9, hx0, hx1, hx2, hx3, hx4, hx5, hx6, hx7⟩ := at_T82 (Kd.C_below HL.out HI.out.low) 0 (Int.le_refl _) HLN.out; cases e9; rw [HXE.out] at hx0 hx1 hx2 hx3 hx4 hx5 hx6 hx7; simp only [Int.toNat_zero, Nat.zero_mul, add0_] at hx0 hx1 hx2 hx3 hx4 hx5 hx6 hx7) | (go_at_call 25; refine (wakes_calls _).mono ?_; rintro e V9 ⟨rfl, hs⟩; have HI := Lib.hid (HI.out.below hs)))
  go_ret
  exact ⟨rfl, HI.out.low⟩
 have hb3 : decide (40 < wrap64 (a0 * a1)) = false := decide_eq_false hbig
 clear hbig
 go_enter Try.func9, Try.ntmps9
 go_upto_region 4 with (first | (go_at_call 43; refine (H43.out _ (Kd.C_below HL.out HI.out.low)).mono ?_; rintro e V1 ⟨rfl, hs⟩; have HI := Lib.hid (HI.out.below hs); have hz0 : V1.cell? ⟨w.heap.size, 0, none⟩ = some (.int .i64 a0) := (blk_cell HI.out.b0 0).trans rfl; have hz1 : V1.cell? ⟨w.heap.size, 1, none⟩ = some (.int .i64 a1) := (blk_cell HI.out.b0 1).trans rfl; have hz2 : V1.cell? ⟨w.heap.size, 2, none⟩ = some (.int .i64 a2) := (blk_cell HI.out.b0 2).trans rfl; have hz3 : V1.cell? ⟨w.heap.size, 3, none⟩ = some (.slice (some ad) l.length c) := (blk_cell HI.out.b0 3).trans rfl; obtain ⟨ad9, e9, hx0, hx1, hx2, hx3, hx4, hx5, hx6, hx7⟩ := at_T82 (Kd.C_below HL.out HI.out.low) 0 (Int.le_refl _) HLN.out; cases e9; rw [HXE.out] at hx0 hx1 hx2 hx3 hx4 hx5 hx6 hx7; simp only [Int.toNat_zero, Nat.zero_mul, add0_] at hx0 hx1 hx2 hx3 hx4 hx5 hx6 hx7))
 obtain ⟨V2, hV2⟩ : ∃ V2, V2 = V1.alloc (.cells #[.int .i64 a0, .int .i64 a1, .int .i64 a2, .slice (some ad) l.length c] 24) := ⟨_, rfl⟩
 rw [← hV2]
 have hs2 : Below V1.heap.size V1 V2 := by rw [hV2]; exact below_alloc (Below.refl _ _) _
 have q3 : V2.heap[V1.heap.size]? = some (.cells #[.int .i64 a0, .int .i64 a1, .int .i64 a2, .slice (some ad) l.length c] 24 (0, 0)) := by rw [hV2]; exact alloc_at rfl
 have hn3 : w.heap.size < V1.heap.size := blk_lt HI.out.b0
 have HI2 := HI.out.below hs2
 generalize V1.heap.size = g3 at q3 hn3 ⊢
 clear hV2 hs2 hs hz0 hz1 hz2 hz3 hx0 hx1 hx2 hx3 hx4 hx5 hx6 hx7
 have hz3 : V2.cell? ⟨w.heap.size, 3, none⟩ = some (.slice (some ad) l.length c) := (blk_cell HI2.b0 3).trans rfl
 have hg3 : V2.cell? ⟨g3, 3, none⟩ = some (.slice (some ad) l.length c) := (blk_cell q3 3).trans rfl
 have fg3 := blk_frozen q3 3
 have h1c : (1 : Int) ≤ (c : Int) := by omega
 have h1l : (1 : Int) ≤ (l.length : Int) := by omega
 go_upto_region 5 with fail
 obtain ⟨Q, hQ⟩ : ∃ Q, Q = V2.setCell ⟨g3, 3, none⟩ (.slice (some ad) 1 c) := ⟨_, rfl⟩
 rw [← hQ]
 have HA : Hid (AlI w a0 a1 a2 (.slice (some ad) l.length c) (.slice (some ad) 1 c) g3 Q) := Lib.hid (by rw [hQ]; exact ⟨blk_far HI2.b0 (by dsimp only; omega) _, blk_put q3 3 _ rfl, below_set HI2.low (by omega)⟩)
 have hwx : WOk (toW x) := HOK.out.all (toW x) (List.mem_map.2 ⟨x, by rw [← hxe]; unfold rd_T82; rw [List.getD_eq_getElem?_getD, List.getElem?_eq_getElem (by simpa using (by omega : 0 < l.length))]; exact List.getElem_mem _, rfl⟩)
 have hx0w := hwx.wid
 have hx1w := hwx.lng
 simp only [toW] at hx0w hx1w
 have hp0 := HOK.out.wid
 have hp1 := HOK.out.lng
 have hp2 := HOK.out.saw
 have HWX := Lib.hid hwx
 obtain ⟨X, rfl⟩ : ∃ X : Nat, a0 = X := ⟨a0.toNat, by omega⟩
 obtain ⟨Y, rfl⟩ : ∃ Y : Nat, a1 = Y := ⟨a1.toNat, by omega⟩
 clear hQ HI2 q3 hz3 hg3 fg3 HI H43 hxe hwx
 have HB0 : Hid (false = anyX x X Y a2 Y 0) := Lib.hid rfl
 go_wp2
 go_loopw [4, 5] (fun v4 v wr => ∃ (i : Nat) (b : Bool), v = .int .i64 i ∧ i ≤ X ∧ v4 = .bool b ∧ Hid (b = anyX x X Y a2 Y i) ∧ Hid (AlI w X Y a2 (.slice (some ad) l.length c) (.slice (some ad) 1 c) g3 wr)) (fun _ v _ => X - (intOf v).toNat)
 case atStart => exact ⟨0, _, rfl, Nat.zero_le _, rfl, HB0, HA⟩
 case round =>
 clear HA HB0
 obtain ⟨i, b, rfl, hi, rfl, HB, HA⟩ := hrel
 have hz0 : wr.cell? ⟨w.heap.size, 0, none⟩ = some (.int .i64 X) := (blk_cell HA.out.b0 0).trans rfl
 by_cases hiX : i < X
 ·have hi0 : (0 : Int) ≤ (i : Int) := by omega
  have hi1 : (i : Int) < (X : Int) := by omega
  have HB0 : Hid (b = (anyX x X Y a2 Y i || anyY x X Y a2 i 0)) := Lib.hid (by rw [← HB.out]; simp [anyY])
  go_wp2
  go_loopw [4, 6] (fun v4 v wr => ∃ (j : Nat) (b : Bool), v = .int .i64 j ∧ j ≤ Y ∧ v4 = .bool b ∧ Hid (b = (anyX x X Y a2 Y i || anyY x X Y a2 i j)) ∧ Hid (AlI w X Y a2 (.slice (some ad) l.length c) (.slice (some ad) 1 c) g3 wr)) (fun _ v _ => Y - (intOf v).toNat)
  case atStart => exact ⟨0, _, rfl, Nat.zero_le _, rfl, HB0, HA⟩
  case round =>
  clear HA HB HB0 hz0
  obtain ⟨j, b, rfl, hj, rfl, HB, HA⟩ := hrel
  have hz1 : wr.cell? ⟨w.heap.size, 1, none⟩ = some (.int .i64 Y) := (blk_cell HA.out.b0 1).trans rfl
  by_cases hjY : j < Y
  rotate_left
  ·obtain rfl : j = Y := by omega
   have HB2 : Hid (b = anyX x X j a2 j (i + 1)) := Lib.hid (by rw [HB.out]; unfold anyX; rw [any_succ])
   clear HB
   go_wp2
   go_roundw
   case rel => exact ⟨i + 1, b, by go_num, by omega, rfl, HB2, HA⟩
   case measure => simp [intOf]; omega
  have hj0 : (0 : Int) ≤ (j : Int) := by omega
  have hj1 : (j : Int) < (Y : Int) := by omega
  have HB0 : Hid (b = (anyX x X Y a2 Y i || (anyY x X Y a2 i j || anyT x X Y a2 i j 0))) := Lib.hid (by rw [HB.out]; simp [anyT])
  go_wp2
  go_loopw [4, 7] (fun v4 v wr => ∃ (k : Nat) (b : Bool), v = .int .i64 k ∧ k ≤ 2 ∧ v4 = .bool b ∧ Hid (b = (anyX x X Y a2 Y i || (anyY x X Y a2 i j || anyT x X Y a2 i j k))) ∧ Hid (AlI w X Y a2 (.slice (some ad) l.length c) (.slice (some ad) 1 c) g3 wr)) (fun _ v _ => 2 - (intOf v).toNat)
  case atStart => exact ⟨0, _, rfl, Nat.zero_le _, rfl, HB0, HA⟩
  case round =>
  clear HA HB HB0 hz1
  obtain ⟨k, b, rfl, hk, rfl, HB, HA⟩ := hrel
  by_cases hk2 : k < 2
  rotate_left
  ·obtain rfl : k = 2 := by omega
   have HB2 : Hid (b = (anyX x X Y a2 Y i || anyY x X Y a2 i (j + 1))) := Lib.hid (by rw [HB.out]; unfold anyY; rw [any_succ])
   clear HB
   go_wp2
   go_roundw
   case rel => exact ⟨j + 1, b, by go_num, by omega, rfl, HB2, HA⟩
   case measure => simp [intOf]; omega
  go_upto_region 15 with fail
  obtain ⟨ad9, e9, hx0, hx1, hx2, hx3, hx4, hx5, hx6, hx7⟩ := at_T82 (Kd.C_below HL.out HA.out.low) 0 (Int.le_refl _) HLN.out
  cases e9
  rw [HXE.out] at hx0 hx1 hx2 hx3 hx4 hx5 hx6 hx7
  simp only [Int.toNat_zero, Nat.zero_mul, add0_] at hx0 hx1 hx2 hx3 hx4 hx5 hx6 hx7
  clear hx2 hx3 hx4 hx5 hx6 hx7
  have HAd := Lib.hid (HA.out.below (below_drew1 (Below.refl _ _)))
  have hlenN : 0 < l.length := by omega
  refine s_ 15 (fun w' => w'.cell? ⟨w.heap.size, 3, none⟩ = some (.slice (some ad) l.length c) ∧ w'.cell? ad = some (.int .i64 x.f0) ∧ w'.cell? ⟨ad.block, ad.off + 1, none⟩ = some (.int .i64 x.f1)) [14] ⟨(cB HAd.out.b0), hx0, hx1⟩ (fun hHeld => ?_)
  refine p_ 0 (some 61) ?_
  refine p_ 1 (some 62) ?_
  refine p_ 2 (some 63) ?_
  refine p_ 7 (some 68) ?_
  refine t_ 3 (some 64) hHeld ?_
  refine p_ 4 (some 65) ?_
  refine p_ 5 (some 66) ?_
  refine t_ 6 (some 67) hHeld ?_
  refine t_ 8 (some 69) hHeld ?_
  refine p_ 9 (some 70) ?_
  refine p_ 10 (some 71) ?_
  refine t_ 11 (some 72) hHeld ?_
  refine p_ 12 (some 73) ?_
  refine e_ 13 (some 8) (fun K hK => ?_)
  refine pbox_ (.cells #[.int .i64 0, .int .i64 0, .int .i64 0, .int .i64 0] 88 (0, 0)) (by rfl) rfl ?_ ?_
  ·first | (go_simp; done) | (go_simp; rfl)
  intro g8 V3 hg8 hl8 hs
  have HA3 := Lib.hid (HAd.out.below hs)
  have cz_ := cf4 hg8
  refine hK.out _ _ (mv3 hs hHeld) (fun hHeld => ?_)
  clear hK K
  refine n_ ?_
  refine l_ 14 none (fun K hK => ?_)
  refine skip_ (w1 := ?_) (by rfl) rfl ?_ ?_
  rotate_left
  ·go_simp
   rfl
  refine hK.out _ _ ?_
  clear hK K
  refine done_ (by kernel_rfl) ?_
  obtain ⟨Q4, hQ4⟩ : ∃ Q, Q = (((V3.setCell ⟨g8, 0, none⟩ (.int .i64 i)).setCell ⟨g8, 1, none⟩ (.int .i64 j)).setCell ⟨g8, 2, none⟩ (.int .i64 x.f0)).setCell ⟨g8, 3, none⟩ (.int .i64 x.f1) := ⟨_, rfl⟩
  rw [← hQ4]
  have n0 := blk_ne HA3.out.b0 hg8 (by decide)
  have n3 := blk_ne HA3.out.b3 hg8 (by decide)
  have hl9 : w.heap.size ≤ g8 := Nat.le_trans HAd.out.low.size hl8
  have HA4 : Hid (AlI w X Y a2 (.slice (some ad) l.length c) (.slice (some ad) 1 c) g3 Q4) := Lib.hid (by
   rw [hQ4]
   exact ⟨blk_far (blk_far (blk_far (blk_far HA3.out.b0 n0 _) n0 _) n0 _) n0 _, blk_far (blk_far (blk_far (blk_far HA3.out.b3 n3 _) n3 _) n3 _) n3 _, below_set (below_set (below_set (below_set HA3.out.low hl9) hl9) hl9) hl9⟩)
  have q8 : Q4.heap[g8]? = some (.cells #[.int .i64 i, .int .i64 j, .int .i64 x.f0, .int .i64 x.f1] 88 (0, 0)) := by
   rw [hQ4]
   exact blk_put (blk_put (blk_put (blk_put hg8 0 _ (cs' := #[.int .i64 i, .int .i64 0, .int .i64 0, .int .i64 0]) rfl) 1 _ (cs' := #[.int .i64 i, .int .i64 j, .int .i64 0, .int .i64 0]) rfl) 2 _ (cs' := #[.int .i64 i, .int .i64 j, .int .i64 x.f0, .int .i64 0]) rfl) 3 _ rfl
  clear hQ4 HA3 hg8 hs hl8 HAd HA hx0 hx1 hHeld cz_
  have hcase : k = 0 ∨ k = 1 := by omega
  rcases hcase with rfl | rfl
  ·go_upto_region 18 with fail
   have HA5 := Lib.hid (HA4.out.below (below_drew1 (Below.refl _ _)))
   refine s_ 16 (fun w' => w'.cell? ⟨w.heap.size, 0, none⟩ = some (.int .i64 X) ∧ w'.cell? ⟨w.heap.size, 1, none⟩ = some (.int .i64 Y) ∧ w'.cell? ⟨g8, 2, none⟩ = some (.int .i64 x.f0) ∧ w'.cell? ⟨g8, 3, none⟩ = some (.int .i64 x.f1)) [] ⟨(cB HA5.out.b0), (cB HA5.out.b0), (cB q8), (cB q8)⟩ (fun hHeld => ?_)
   refine p_ 0 (some 82) ?_
   refine p_ 2 (some 84) ?_
   refine p_ 4 (some 86) ?_
   refine p_ 7 (some 89) ?_
   refine p_ 9 (some 91) ?_
   refine p_ 11 (some 93) ?_
   refine t_ 1 (some 83) hHeld ?_
   refine p_ 3 (some 85) ?_
   refine t_ 5 (some 87) hHeld ?_
   refine p_ 6 (some 88) ?_
   refine p_ 14 (some 9) ?_
   refine t_ 8 (some 90) hHeld ?_
   refine p_ 10 (some 92) ?_
   refine t_ 12 (some 94) hHeld ?_
   refine p_ 13 (some 95) ?_
   refine p_ 15 (some 10) ?_
   refine done_ (by kernel_rfl) ?_
   obtain ⟨R, hR⟩ : ∃ R, wrap64 (wrap64 ((X : Int) - i) - x.f0) = R := ⟨_, rfl⟩
   obtain ⟨F, hF⟩ : ∃ F, wrap64 (wrap64 ((Y : Int) - j) - x.f1) = F := ⟨_, rfl⟩
   rw [hR, hF]
   have hRe : (X : Int) - i - x.f0 = R := by rw [← hR, w64 (z := (X : Int) - i) (by omega) (by omega), w64 (by omega) (by omega)]
   have hFe : (Y : Int) - j - x.f1 = F := by rw [← hF, w64 (z := (Y : Int) - j) (by omega) (by omega), w64 (by omega) (by omega)]
   have hpc : placeC x X Y a2 i j 0 = (fitR x ⟨i, j, x.f0, x.f1⟩ && (decide (0 ≤ R) && (decide (0 ≤ F) && (freeR i a2 && (freeR j a2 && (freeR R a2 && freeR F a2)))))) := by rw [← hRe, ← hFe]; rfl
   have hat : anyT x X Y a2 i j (0 + 1) = (anyT x X Y a2 i j 0 || placeC x X Y a2 i j 0) := by unfold anyT; rw [any_succ]
   rw [hpc] at hat
   have h44 := fits_calls x.f0 x.f1 x.f2 x.f3 x.f4.f0 x.f4.f1 x.f5.f0 x.f5.f1 i j x.f0 x.f1
   rw [show fitsR x.f0 x.f1 x.f2 x.f4.f0 x.f4.f1 x.f5.f0 x.f5.f1 i j x.f0 x.f1 = fitR x ⟨i, j, x.f0, x.f1⟩ from rfl] at h44
   generalize fitR x ⟨i, j, x.f0, x.f1⟩ = fr at hat h44
   have h45i := free_calls i a2
   have h45j := free_calls j a2
   have h45R := free_calls R a2
   have h45F := free_calls F a2
   generalize freeR i a2 = f1 at hat h45i
   generalize freeR j a2 = f2 at hat h45j
   generalize freeR R a2 = f3 at hat h45R
   generalize freeR F a2 = f4 at hat h45F
   have H44 := Lib.hid h44
   have H45i := Lib.hid h45i
   have H45j := Lib.hid h45j
   have H45R := Lib.hid h45R
   have H45F := Lib.hid h45F
   have HAT := Lib.hid hat
   clear h44 h45i h45j h45R h45F hat hpc hR hF hRe hFe hHeld HA4
   obtain ⟨ad9, e9, hx0, hx1, hx2, hx3, hx4, hx5, hx6, hx7⟩ := at_T82 (Kd.C_below HL.out HA5.out.low) 0 (Int.le_refl _) HLN.out
   cases e9
   rw [HXE.out] at hx0 hx1 hx2 hx3 hx4 hx5 hx6 hx7
   simp only [Int.toNat_zero, Nat.zero_mul, add0_] at hx0 hx1 hx2 hx3 hx4 hx5 hx6 hx7
   replace HA5 := Lib.hid (HA5.out.below (below_drew1 (Below.refl _ _)))
   go_wp2
   cases fr with
   | false =>
    refine s_ 38 (fun w' => w'.cell? ⟨w.heap.size, 3, none⟩ = some (.slice (some ad) l.length c) ∧ w'.cell? ad = some (.int .i64 x.f0) ∧ w'.cell? ⟨ad.block, ad.off + 1, none⟩ = some (.int .i64 x.f1) ∧ w'.cell? ⟨ad.block, ad.off + 2, none⟩ = some (.bool x.f2) ∧ w'.cell? ⟨ad.block, ad.off + 3, none⟩ = some (.int .i64 x.f3) ∧ w'.cell? ⟨ad.block, ad.off + 4, none⟩ = some (.int .i64 x.f4.f0) ∧ w'.cell? ⟨ad.block, ad.off + 5, none⟩ = some (.int .i64 x.f4.f1) ∧ w'.cell? ⟨ad.block, ad.off + 6, none⟩ = some (.int .i64 x.f5.f0) ∧ w'.cell? ⟨ad.block, ad.off + 7, none⟩ = some (.int .i64 x.f5.f1) ∧ w'.cell? ⟨g8, 0, none⟩ = some (.int .i64 i) ∧ w'.cell? ⟨g8, 1, none⟩ = some (.int .i64 j) ∧ w'.cell? ⟨g8, 2, none⟩ = some (.int .i64 x.f0) ∧ w'.cell? ⟨g8, 3, none⟩ = some (.int .i64 x.f1) ∧ w'.cell? ⟨w.heap.size, 2, none⟩ = some (.int .i64 a2)) [] ⟨(cB HA5.out.b0), hx0, hx1, hx2, hx3, hx4, hx5, hx6, hx7, (cB q8), (cB q8), (cB q8), (cB q8), (cB HA5.out.b0)⟩ (fun hHeld => ?_)
    refine p_ 0 (some 96) ?_
    refine t_ 1 (some 97) hHeld ?_
    refine p_ 2 (some 98) ?_
    refine t_ 3 (some 99) hHeld ?_
    refine t_ 4 (some 100) hHeld ?_
    refine e_ 5 (some 101) (fun K hK => ?_)
    refine goes_ Try.func44 (by kernel_rfl) rfl #[.agg #[.int .i64 x.f0, .int .i64 x.f1, .bool x.f2, .int .i64 x.f3, .int .i64 x.f4.f0, .int .i64 x.f4.f1, .int .i64 x.f5.f0, .int .i64 x.f5.f1], .agg #[.int .i64 i, .int .i64 j, .int .i64 x.f0, .int .i64 x.f1]] (by rfl) rfl rfl (by simp only [List.map_toArray, List.map_cons, List.map_nil]; rfl) ?_
    with_reducible refine (H44.out _).mono ?_
    rintro e W0 ⟨rfl, hs⟩
    replace HA5 := Lib.hid (HA5.out.below hs)
    refine ⟨_, rfl, ?_⟩
    refine hK.out _ _ (mv14 hs hHeld) (fun hHeld => ?_)
    clear hK K
    refine n_ ?_
    refine p_ 6 (some 102) ?_
    refine o_ 7 (some 103) ?_
    refine o_ 8 (some 104) ?_
    refine p_ 9 (some 105) ?_
    refine p_ 10 (some 106) ?_
    refine o_ 11 (some 107) ?_
    refine o_ 12 (some 108) ?_
    refine p_ 13 (some 109) ?_
    refine p_ 14 (some 110) ?_
    refine o_ 15 (some 111) ?_
    refine o_ 16 (some 112) ?_
    refine o_ 17 (some 113) ?_
    refine o_ 18 (some 114) ?_
    refine p_ 19 (some 115) ?_
    refine p_ 20 (some 116) ?_
    refine o_ 21 (some 117) ?_
    refine o_ 22 (some 118) ?_
    refine o_ 23 (some 119) ?_
    refine o_ 24 (some 120) ?_
    refine p_ 25 (some 121) ?_
    refine p_ 26 (some 122) ?_
    refine o_ 27 (some 123) ?_
    refine o_ 28 (some 124) ?_
    refine o_ 29 (some 125) ?_
    refine o_ 30 (some 126) ?_
    refine p_ 31 (some 127) ?_
    refine p_ 32 (some 128) ?_
    refine o_ 33 (some 129) ?_
    refine o_ 34 (some 130) ?_
    refine o_ 35 (some 131) ?_
    refine o_ 36 (some 132) ?_
    refine p_ 37 (some 133) ?_
    refine done_ (by kernel_rfl) ?_
    go_wp2
    go_roundw
    case rel => exact ⟨1, b, by go_num, by omega, rfl, Lib.hid (by rw [HAT.out, HB.out]; simp []), HA5⟩
    case measure => simp [intOf]
   | true =>
   cases c1 : decide (0 ≤ R) with
   | false =>
    refine s_ 38 (fun w' => w'.cell? ⟨w.heap.size, 3, none⟩ = some (.slice (some ad) l.length c) ∧ w'.cell? ad = some (.int .i64 x.f0) ∧ w'.cell? ⟨ad.block, ad.off + 1, none⟩ = some (.int .i64 x.f1) ∧ w'.cell? ⟨ad.block, ad.off + 2, none⟩ = some (.bool x.f2) ∧ w'.cell? ⟨ad.block, ad.off + 3, none⟩ = some (.int .i64 x.f3) ∧ w'.cell? ⟨ad.block, ad.off + 4, none⟩ = some (.int .i64 x.f4.f0) ∧ w'.cell? ⟨ad.block, ad.off + 5, none⟩ = some (.int .i64 x.f4.f1) ∧ w'.cell? ⟨ad.block, ad.off + 6, none⟩ = some (.int .i64 x.f5.f0) ∧ w'.cell? ⟨ad.block, ad.off + 7, none⟩ = some (.int .i64 x.f5.f1) ∧ w'.cell? ⟨g8, 0, none⟩ = some (.int .i64 i) ∧ w'.cell? ⟨g8, 1, none⟩ = some (.int .i64 j) ∧ w'.cell? ⟨g8, 2, none⟩ = some (.int .i64 x.f0) ∧ w'.cell? ⟨g8, 3, none⟩ = some (.int .i64 x.f1) ∧ w'.cell? ⟨w.heap.size, 2, none⟩ = some (.int .i64 a2)) [] ⟨(cB HA5.out.b0), hx0, hx1, hx2, hx3, hx4, hx5, hx6, hx7, (cB q8), (cB q8), (cB q8), (cB q8), (cB HA5.out.b0)⟩ (fun hHeld => ?_)
    refine p_ 0 (some 96) ?_
    refine t_ 1 (some 97) hHeld ?_
    refine p_ 2 (some 98) ?_
    refine t_ 3 (some 99) hHeld ?_
    refine t_ 4 (some 100) hHeld ?_
    refine e_ 5 (some 101) (fun K hK => ?_)
    refine goes_ Try.func44 (by kernel_rfl) rfl #[.agg #[.int .i64 x.f0, .int .i64 x.f1, .bool x.f2, .int .i64 x.f3, .int .i64 x.f4.f0, .int .i64 x.f4.f1, .int .i64 x.f5.f0, .int .i64 x.f5.f1], .agg #[.int .i64 i, .int .i64 j, .int .i64 x.f0, .int .i64 x.f1]] (by rfl) rfl rfl (by simp only [List.map_toArray, List.map_cons, List.map_nil]; rfl) ?_
    with_reducible refine (H44.out _).mono ?_
    rintro e W0 ⟨rfl, hs⟩
    replace HA5 := Lib.hid (HA5.out.below hs)
    refine ⟨_, rfl, ?_⟩
    refine hK.out _ _ (mv14 hs hHeld) (fun hHeld => ?_)
    clear hK K
    refine n_ ?_
    refine p_ 6 (some 102) ?_
    refine p_ 7 (some 103) ?_
    refine p_ 8 (some 104) ?_
    refine p_ 9 (some 105) ?_
    refine p_ 10 (some 106) ?_
    refine o_ 11 (some 107) ?_
    refine o_ 12 (some 108) ?_
    refine p_ 13 (some 109) ?_
    refine p_ 14 (some 110) ?_
    refine o_ 15 (some 111) ?_
    refine o_ 16 (some 112) ?_
    refine o_ 17 (some 113) ?_
    refine o_ 18 (some 114) ?_
    refine p_ 19 (some 115) ?_
    refine p_ 20 (some 116) ?_
    refine o_ 21 (some 117) ?_
    refine o_ 22 (some 118) ?_
    refine o_ 23 (some 119) ?_
    refine o_ 24 (some 120) ?_
    refine p_ 25 (some 121) ?_
    refine p_ 26 (some 122) ?_
    refine o_ 27 (some 123) ?_
    refine o_ 28 (some 124) ?_
    refine o_ 29 (some 125) ?_
    refine o_ 30 (some 126) ?_
    refine p_ 31 (some 127) ?_
    refine p_ 32 (some 128) ?_
    refine o_ 33 (some 129) ?_
    refine o_ 34 (some 130) ?_
    refine o_ 35 (some 131) ?_
    refine o_ 36 (some 132) ?_
    refine p_ 37 (some 133) ?_
    refine done_ (by kernel_rfl) ?_
    go_wp2
    go_roundw
    case rel => exact ⟨1, b, by go_num, by omega, rfl, Lib.hid (by rw [HAT.out, HB.out]; simp [c1]), HA5⟩
    case measure => simp [intOf]
   | true =>
   cases c2 : decide (0 ≤ F) with
   | false =>
    refine s_ 38 (fun w' => w'.cell? ⟨w.heap.size, 3, none⟩ = some (.slice (some ad) l.length c) ∧ w'.cell? ad = some (.int .i64 x.f0) ∧ w'.cell? ⟨ad.block, ad.off + 1, none⟩ = some (.int .i64 x.f1) ∧ w'.cell? ⟨ad.block, ad.off + 2, none⟩ = some (.bool x.f2) ∧ w'.cell? ⟨ad.block, ad.off + 3, none⟩ = some (.int .i64 x.f3) ∧ w'.cell? ⟨ad.block, ad.off + 4, none⟩ = some (.int .i64 x.f4.f0) ∧ w'.cell? ⟨ad.block, ad.off + 5, none⟩ = some (.int .i64 x.f4.f1) ∧ w'.cell? ⟨ad.block, ad.off + 6, none⟩ = some (.int .i64 x.f5.f0) ∧ w'.cell? ⟨ad.block, ad.off + 7, none⟩ = some (.int .i64 x.f5.f1) ∧ w'.cell? ⟨g8, 0, none⟩ = some (.int .i64 i) ∧ w'.cell? ⟨g8, 1, none⟩ = some (.int .i64 j) ∧ w'.cell? ⟨g8, 2, none⟩ = some (.int .i64 x.f0) ∧ w'.cell? ⟨g8, 3, none⟩ = some (.int .i64 x.f1) ∧ w'.cell? ⟨w.heap.size, 2, none⟩ = some (.int .i64 a2)) [] ⟨(cB HA5.out.b0), hx0, hx1, hx2, hx3, hx4, hx5, hx6, hx7, (cB q8), (cB q8), (cB q8), (cB q8), (cB HA5.out.b0)⟩ (fun hHeld => ?_)
    refine p_ 0 (some 96) ?_
    refine t_ 1 (some 97) hHeld ?_
    refine p_ 2 (some 98) ?_
    refine t_ 3 (some 99) hHeld ?_
    refine t_ 4 (some 100) hHeld ?_
    refine e_ 5 (some 101) (fun K hK => ?_)
    refine goes_ Try.func44 (by kernel_rfl) rfl #[.agg #[.int .i64 x.f0, .int .i64 x.f1, .bool x.f2, .int .i64 x.f3, .int .i64 x.f4.f0, .int .i64 x.f4.f1, .int .i64 x.f5.f0, .int .i64 x.f5.f1], .agg #[.int .i64 i, .int .i64 j, .int .i64 x.f0, .int .i64 x.f1]] (by rfl) rfl rfl (by simp only [List.map_toArray, List.map_cons, List.map_nil]; rfl) ?_
    with_reducible refine (H44.out _).mono ?_
    rintro e W0 ⟨rfl, hs⟩
    replace HA5 := Lib.hid (HA5.out.below hs)
    refine ⟨_, rfl, ?_⟩
    refine hK.out _ _ (mv14 hs hHeld) (fun hHeld => ?_)
    clear hK K
    refine n_ ?_
    refine p_ 6 (some 102) ?_
    refine p_ 7 (some 103) ?_
    refine p_ 8 (some 104) ?_
    refine p_ 9 (some 105) ?_
    refine p_ 10 (some 106) ?_
    refine p_ 11 (some 107) ?_
    refine p_ 12 (some 108) ?_
    refine p_ 13 (some 109) ?_
    refine p_ 14 (some 110) ?_
    refine o_ 15 (some 111) ?_
    refine o_ 16 (some 112) ?_
    refine o_ 17 (some 113) ?_
    refine o_ 18 (some 114) ?_
    refine p_ 19 (some 115) ?_
    refine p_ 20 (some 116) ?_
    refine o_ 21 (some 117) ?_
    refine o_ 22 (some 118) ?_
    refine o_ 23 (some 119) ?_
    refine o_ 24 (some 120) ?_
    refine p_ 25 (some 121) ?_
    refine p_ 26 (some 122) ?_
    refine o_ 27 (some 123) ?_
    refine o_ 28 (some 124) ?_
    refine o_ 29 (some 125) ?_
    refine o_ 30 (some 126) ?_
    refine p_ 31 (some 127) ?_
    refine p_ 32 (some 128) ?_
    refine o_ 33 (some 129) ?_
    refine o_ 34 (some 130) ?_
    refine o_ 35 (some 131) ?_
    refine o_ 36 (some 132) ?_
    refine p_ 37 (some 133) ?_
    refine done_ (by kernel_rfl) ?_
    go_wp2
    go_roundw
    case rel => exact ⟨1, b, by go_num, by omega, rfl, Lib.hid (by rw [HAT.out, HB.out]; simp [c2]), HA5⟩
    case measure => simp [intOf]
   | true =>
   cases f1 with
   | false =>
    refine s_ 38 (fun w' => w'.cell? ⟨w.heap.size, 3, none⟩ = some (.slice (some ad) l.length c) ∧ w'.cell? ad = some (.int .i64 x.f0) ∧ w'.cell? ⟨ad.block, ad.off + 1, none⟩ = some (.int .i64 x.f1) ∧ w'.cell? ⟨ad.block, ad.off + 2, none⟩ = some (.bool x.f2) ∧ w'.cell? ⟨ad.block, ad.off + 3, none⟩ = some (.int .i64 x.f3) ∧ w'.cell? ⟨ad.block, ad.off + 4, none⟩ = some (.int .i64 x.f4.f0) ∧ w'.cell? ⟨ad.block, ad.off + 5, none⟩ = some (.int .i64 x.f4.f1) ∧ w'.cell? ⟨ad.block, ad.off + 6, none⟩ = some (.int .i64 x.f5.f0) ∧ w'.cell? ⟨ad.block, ad.off + 7, none⟩ = some (.int .i64 x.f5.f1) ∧ w'.cell? ⟨g8, 0, none⟩ = some (.int .i64 i) ∧ w'.cell? ⟨g8, 1, none⟩ = some (.int .i64 j) ∧ w'.cell? ⟨g8, 2, none⟩ = some (.int .i64 x.f0) ∧ w'.cell? ⟨g8, 3, none⟩ = some (.int .i64 x.f1) ∧ w'.cell? ⟨w.heap.size, 2, none⟩ = some (.int .i64 a2)) [] ⟨(cB HA5.out.b0), hx0, hx1, hx2, hx3, hx4, hx5, hx6, hx7, (cB q8), (cB q8), (cB q8), (cB q8), (cB HA5.out.b0)⟩ (fun hHeld => ?_)
    refine p_ 0 (some 96) ?_
    refine t_ 1 (some 97) hHeld ?_
    refine p_ 2 (some 98) ?_
    refine t_ 3 (some 99) hHeld ?_
    refine t_ 4 (some 100) hHeld ?_
    refine e_ 5 (some 101) (fun K hK => ?_)
    refine goes_ Try.func44 (by kernel_rfl) rfl #[.agg #[.int .i64 x.f0, .int .i64 x.f1, .bool x.f2, .int .i64 x.f3, .int .i64 x.f4.f0, .int .i64 x.f4.f1, .int .i64 x.f5.f0, .int .i64 x.f5.f1], .agg #[.int .i64 i, .int .i64 j, .int .i64 x.f0, .int .i64 x.f1]] (by rfl) rfl rfl (by simp only [List.map_toArray, List.map_cons, List.map_nil]; rfl) ?_
    with_reducible refine (H44.out _).mono ?_
    rintro e W0 ⟨rfl, hs⟩
    replace HA5 := Lib.hid (HA5.out.below hs)
    refine ⟨_, rfl, ?_⟩
    refine hK.out _ _ (mv14 hs hHeld) (fun hHeld => ?_)
    clear hK K
    refine n_ ?_
    refine p_ 6 (some 102) ?_
    refine p_ 7 (some 103) ?_
    refine p_ 8 (some 104) ?_
    refine p_ 9 (some 105) ?_
    refine p_ 10 (some 106) ?_
    refine p_ 11 (some 107) ?_
    refine p_ 12 (some 108) ?_
    refine p_ 13 (some 109) ?_
    refine p_ 14 (some 110) ?_
    refine p_ 15 (some 111) ?_
    refine p_ 16 (some 112) ?_
    refine t_ 17 (some 113) hHeld ?_
    refine e_ 18 (some 114) (fun K hK => ?_)
    refine goes_ Try.func45 (by kernel_rfl) rfl #[.int .i64 i, .int .i64 a2] (by rfl) rfl rfl (by simp only [List.map_toArray, List.map_cons, List.map_nil]; rfl) ?_
    with_reducible refine (H45i.out _).mono ?_
    rintro e Wi ⟨rfl, hs⟩
    replace HA5 := Lib.hid (HA5.out.below hs)
    refine ⟨_, rfl, ?_⟩
    refine hK.out _ _ (mv14 hs hHeld) (fun hHeld => ?_)
    clear hK K
    refine n_ ?_
    refine p_ 19 (some 115) ?_
    refine p_ 20 (some 116) ?_
    refine o_ 21 (some 117) ?_
    refine o_ 22 (some 118) ?_
    refine o_ 23 (some 119) ?_
    refine o_ 24 (some 120) ?_
    refine p_ 25 (some 121) ?_
    refine p_ 26 (some 122) ?_
    refine o_ 27 (some 123) ?_
    refine o_ 28 (some 124) ?_
    refine o_ 29 (some 125) ?_
    refine o_ 30 (some 126) ?_
    refine p_ 31 (some 127) ?_
    refine p_ 32 (some 128) ?_
    refine o_ 33 (some 129) ?_
    refine o_ 34 (some 130) ?_
    refine o_ 35 (some 131) ?_
    refine o_ 36 (some 132) ?_
    refine p_ 37 (some 133) ?_
    refine done_ (by kernel_rfl) ?_
    go_wp2
    go_roundw
    case rel => exact ⟨1, b, by go_num, by omega, rfl, Lib.hid (by rw [HAT.out, HB.out]; simp []), HA5⟩
    case measure => simp [intOf]
   | true =>
   cases f2 with
   | false =>
    refine s_ 38 (fun w' => w'.cell? ⟨w.heap.size, 3, none⟩ = some (.slice (some ad) l.length c) ∧ w'.cell? ad = some (.int .i64 x.f0) ∧ w'.cell? ⟨ad.block, ad.off + 1, none⟩ = some (.int .i64 x.f1) ∧ w'.cell? ⟨ad.block, ad.off + 2, none⟩ = some (.bool x.f2) ∧ w'.cell? ⟨ad.block, ad.off + 3, none⟩ = some (.int .i64 x.f3) ∧ w'.cell? ⟨ad.block, ad.off + 4, none⟩ = some (.int .i64 x.f4.f0) ∧ w'.cell? ⟨ad.block, ad.off + 5, none⟩ = some (.int .i64 x.f4.f1) ∧ w'.cell? ⟨ad.block, ad.off + 6, none⟩ = some (.int .i64 x.f5.f0) ∧ w'.cell? ⟨ad.block, ad.off + 7, none⟩ = some (.int .i64 x.f5.f1) ∧ w'.cell? ⟨g8, 0, none⟩ = some (.int .i64 i) ∧ w'.cell? ⟨g8, 1, none⟩ = some (.int .i64 j) ∧ w'.cell? ⟨g8, 2, none⟩ = some (.int .i64 x.f0) ∧ w'.cell? ⟨g8, 3, none⟩ = some (.int .i64 x.f1) ∧ w'.cell? ⟨w.heap.size, 2, none⟩ = some (.int .i64 a2)) [] ⟨(cB HA5.out.b0), hx0, hx1, hx2, hx3, hx4, hx5, hx6, hx7, (cB q8), (cB q8), (cB q8), (cB q8), (cB HA5.out.b0)⟩ (fun hHeld => ?_)
    refine p_ 0 (some 96) ?_
    refine t_ 1 (some 97) hHeld ?_
    refine p_ 2 (some 98) ?_
    refine t_ 3 (some 99) hHeld ?_
    refine t_ 4 (some 100) hHeld ?_
    refine e_ 5 (some 101) (fun K hK => ?_)
    refine goes_ Try.func44 (by kernel_rfl) rfl #[.agg #[.int .i64 x.f0, .int .i64 x.f1, .bool x.f2, .int .i64 x.f3, .int .i64 x.f4.f0, .int .i64 x.f4.f1, .int .i64 x.f5.f0, .int .i64 x.f5.f1], .agg #[.int .i64 i, .int .i64 j, .int .i64 x.f0, .int .i64 x.f1]] (by rfl) rfl rfl (by simp only [List.map_toArray, List.map_cons, List.map_nil]; rfl) ?_
    with_reducible refine (H44.out _).mono ?_
    rintro e W0 ⟨rfl, hs⟩
    replace HA5 := Lib.hid (HA5.out.below hs)
    refine ⟨_, rfl, ?_⟩
    refine hK.out _ _ (mv14 hs hHeld) (fun hHeld => ?_)
    clear hK K
    refine n_ ?_
    refine p_ 6 (some 102) ?_
    refine p_ 7 (some 103) ?_
    refine p_ 8 (some 104) ?_
    refine p_ 9 (some 105) ?_
    refine p_ 10 (some 106) ?_
    refine p_ 11 (some 107) ?_
    refine p_ 12 (some 108) ?_
    refine p_ 13 (some 109) ?_
    refine p_ 14 (some 110) ?_
    refine p_ 15 (some 111) ?_
    refine p_ 16 (some 112) ?_
    refine t_ 17 (some 113) hHeld ?_
    refine e_ 18 (some 114) (fun K hK => ?_)
    refine goes_ Try.func45 (by kernel_rfl) rfl #[.int .i64 i, .int .i64 a2] (by rfl) rfl rfl (by simp only [List.map_toArray, List.map_cons, List.map_nil]; rfl) ?_
    with_reducible refine (H45i.out _).mono ?_
    rintro e Wi ⟨rfl, hs⟩
    replace HA5 := Lib.hid (HA5.out.below hs)
    refine ⟨_, rfl, ?_⟩
    refine hK.out _ _ (mv14 hs hHeld) (fun hHeld => ?_)
    clear hK K
    refine n_ ?_
    refine p_ 19 (some 115) ?_
    refine p_ 20 (some 116) ?_
    refine p_ 21 (some 117) ?_
    refine p_ 22 (some 118) ?_
    refine t_ 23 (some 119) hHeld ?_
    refine e_ 24 (some 120) (fun K hK => ?_)
    refine goes_ Try.func45 (by kernel_rfl) rfl #[.int .i64 j, .int .i64 a2] (by rfl) rfl rfl (by simp only [List.map_toArray, List.map_cons, List.map_nil]; rfl) ?_
    with_reducible refine (H45j.out _).mono ?_
    rintro e Wj ⟨rfl, hs⟩
    replace HA5 := Lib.hid (HA5.out.below hs)
    refine ⟨_, rfl, ?_⟩
    refine hK.out _ _ (mv14 hs hHeld) (fun hHeld => ?_)
    clear hK K
    refine n_ ?_
    refine p_ 25 (some 121) ?_
    refine p_ 26 (some 122) ?_
    refine o_ 27 (some 123) ?_
    refine o_ 28 (some 124) ?_
    refine o_ 29 (some 125) ?_
    refine o_ 30 (some 126) ?_
    refine p_ 31 (some 127) ?_
    refine p_ 32 (some 128) ?_
    refine o_ 33 (some 129) ?_
    refine o_ 34 (some 130) ?_
    refine o_ 35 (some 131) ?_
    refine o_ 36 (some 132) ?_
    refine p_ 37 (some 133) ?_
    refine done_ (by kernel_rfl) ?_
    go_wp2
    go_roundw
    case rel => exact ⟨1, b, by go_num, by omega, rfl, Lib.hid (by rw [HAT.out, HB.out]; simp []), HA5⟩
    case measure => simp [intOf]
   | true =>
   cases f3 with
   | false =>
    refine s_ 38 (fun w' => w'.cell? ⟨w.heap.size, 3, none⟩ = some (.slice (some ad) l.length c) ∧ w'.cell? ad = some (.int .i64 x.f0) ∧ w'.cell? ⟨ad.block, ad.off + 1, none⟩ = some (.int .i64 x.f1) ∧ w'.cell? ⟨ad.block, ad.off + 2, none⟩ = some (.bool x.f2) ∧ w'.cell? ⟨ad.block, ad.off + 3, none⟩ = some (.int .i64 x.f3) ∧ w'.cell? ⟨ad.block, ad.off + 4, none⟩ = some (.int .i64 x.f4.f0) ∧ w'.cell? ⟨ad.block, ad.off + 5, none⟩ = some (.int .i64 x.f4.f1) ∧ w'.cell? ⟨ad.block, ad.off + 6, none⟩ = some (.int .i64 x.f5.f0) ∧ w'.cell? ⟨ad.block, ad.off + 7, none⟩ = some (.int .i64 x.f5.f1) ∧ w'.cell? ⟨g8, 0, none⟩ = some (.int .i64 i) ∧ w'.cell? ⟨g8, 1, none⟩ = some (.int .i64 j) ∧ w'.cell? ⟨g8, 2, none⟩ = some (.int .i64 x.f0) ∧ w'.cell? ⟨g8, 3, none⟩ = some (.int .i64 x.f1) ∧ w'.cell? ⟨w.heap.size, 2, none⟩ = some (.int .i64 a2)) [] ⟨(cB HA5.out.b0), hx0, hx1, hx2, hx3, hx4, hx5, hx6, hx7, (cB q8), (cB q8), (cB q8), (cB q8), (cB HA5.out.b0)⟩ (fun hHeld => ?_)
    refine p_ 0 (some 96) ?_
    refine t_ 1 (some 97) hHeld ?_
    refine p_ 2 (some 98) ?_
    refine t_ 3 (some 99) hHeld ?_
    refine t_ 4 (some 100) hHeld ?_
    refine e_ 5 (some 101) (fun K hK => ?_)
    refine goes_ Try.func44 (by kernel_rfl) rfl #[.agg #[.int .i64 x.f0, .int .i64 x.f1, .bool x.f2, .int .i64 x.f3, .int .i64 x.f4.f0, .int .i64 x.f4.f1, .int .i64 x.f5.f0, .int .i64 x.f5.f1], .agg #[.int .i64 i, .int .i64 j, .int .i64 x.f0, .int .i64 x.f1]] (by rfl) rfl rfl (by simp only [List.map_toArray, List.map_cons, List.map_nil]; rfl) ?_
    with_reducible refine (H44.out _).mono ?_
    rintro e W0 ⟨rfl, hs⟩
    replace HA5 := Lib.hid (HA5.out.below hs)
    refine ⟨_, rfl, ?_⟩
    refine hK.out _ _ (mv14 hs hHeld) (fun hHeld => ?_)
    clear hK K
    refine n_ ?_
    refine p_ 6 (some 102) ?_
    refine p_ 7 (some 103) ?_
    refine p_ 8 (some 104) ?_
    refine p_ 9 (some 105) ?_
    refine p_ 10 (some 106) ?_
    refine p_ 11 (some 107) ?_
    refine p_ 12 (some 108) ?_
    refine p_ 13 (some 109) ?_
    refine p_ 14 (some 110) ?_
    refine p_ 15 (some 111) ?_
    refine p_ 16 (some 112) ?_
    refine t_ 17 (some 113) hHeld ?_
    refine e_ 18 (some 114) (fun K hK => ?_)
    refine goes_ Try.func45 (by kernel_rfl) rfl #[.int .i64 i, .int .i64 a2] (by rfl) rfl rfl (by simp only [List.map_toArray, List.map_cons, List.map_nil]; rfl) ?_
    with_reducible refine (H45i.out _).mono ?_
    rintro e Wi ⟨rfl, hs⟩
    replace HA5 := Lib.hid (HA5.out.below hs)
    refine ⟨_, rfl, ?_⟩
    refine hK.out _ _ (mv14 hs hHeld) (fun hHeld => ?_)
    clear hK K
    refine n_ ?_
    refine p_ 19 (some 115) ?_
    refine p_ 20 (some 116) ?_
    refine p_ 21 (some 117) ?_
    refine p_ 22 (some 118) ?_
    refine t_ 23 (some 119) hHeld ?_
    refine e_ 24 (some 120) (fun K hK => ?_)
    refine goes_ Try.func45 (by kernel_rfl) rfl #[.int .i64 j, .int .i64 a2] (by rfl) rfl rfl (by simp only [List.map_toArray, List.map_cons, List.map_nil]; rfl) ?_
    with_reducible refine (H45j.out _).mono ?_
    rintro e Wj ⟨rfl, hs⟩
    replace HA5 := Lib.hid (HA5.out.below hs)
    refine ⟨_, rfl, ?_⟩
    refine hK.out _ _ (mv14 hs hHeld) (fun hHeld => ?_)
    clear hK K
    refine n_ ?_
    refine p_ 25 (some 121) ?_
    refine p_ 26 (some 122) ?_
    refine p_ 27 (some 123) ?_
    refine p_ 28 (some 124) ?_
    refine t_ 29 (some 125) hHeld ?_
    refine e_ 30 (some 126) (fun K hK => ?_)
    refine goes_ Try.func45 (by kernel_rfl) rfl #[.int .i64 R, .int .i64 a2] (by rfl) rfl rfl (by simp only [List.map_toArray, List.map_cons, List.map_nil]; rfl) ?_
    with_reducible refine (H45R.out _).mono ?_
    rintro e WR ⟨rfl, hs⟩
    replace HA5 := Lib.hid (HA5.out.below hs)
    refine ⟨_, rfl, ?_⟩
    refine hK.out _ _ (mv14 hs hHeld) (fun hHeld => ?_)
    clear hK K
    refine n_ ?_
    refine p_ 31 (some 127) ?_
    refine p_ 32 (some 128) ?_
    refine o_ 33 (some 129) ?_
    refine o_ 34 (some 130) ?_
    refine o_ 35 (some 131) ?_
    refine o_ 36 (some 132) ?_
    refine p_ 37 (some 133) ?_
    refine done_ (by kernel_rfl) ?_
    go_wp2
    go_roundw
    case rel => exact ⟨1, b, by go_num, by omega, rfl, Lib.hid (by rw [HAT.out, HB.out]; simp []), HA5⟩
    case measure => simp [intOf]
   | true =>
   refine s_ 38 (fun w' => w'.cell? ⟨w.heap.size, 3, none⟩ = some (.slice (some ad) l.length c) ∧ w'.cell? ad = some (.int .i64 x.f0) ∧ w'.cell? ⟨ad.block, ad.off + 1, none⟩ = some (.int .i64 x.f1) ∧ w'.cell? ⟨ad.block, ad.off + 2, none⟩ = some (.bool x.f2) ∧ w'.cell? ⟨ad.block, ad.off + 3, none⟩ = some (.int .i64 x.f3) ∧ w'.cell? ⟨ad.block, ad.off + 4, none⟩ = some (.int .i64 x.f4.f0) ∧ w'.cell? ⟨ad.block, ad.off + 5, none⟩ = some (.int .i64 x.f4.f1) ∧ w'.cell? ⟨ad.block, ad.off + 6, none⟩ = some (.int .i64 x.f5.f0) ∧ w'.cell? ⟨ad.block, ad.off + 7, none⟩ = some (.int .i64 x.f5.f1) ∧ w'.cell? ⟨g8, 0, none⟩ = some (.int .i64 i) ∧ w'.cell? ⟨g8, 1, none⟩ = some (.int .i64 j) ∧ w'.cell? ⟨g8, 2, none⟩ = some (.int .i64 x.f0) ∧ w'.cell? ⟨g8, 3, none⟩ = some (.int .i64 x.f1) ∧ w'.cell? ⟨w.heap.size, 2, none⟩ = some (.int .i64 a2)) [] ⟨(cB HA5.out.b0), hx0, hx1, hx2, hx3, hx4, hx5, hx6, hx7, (cB q8), (cB q8), (cB q8), (cB q8), (cB HA5.out.b0)⟩ (fun hHeld => ?_)
   refine p_ 0 (some 96) ?_
   refine t_ 1 (some 97) hHeld ?_
   refine p_ 2 (some 98) ?_
   refine t_ 3 (some 99) hHeld ?_
   refine t_ 4 (some 100) hHeld ?_
   refine e_ 5 (some 101) (fun K hK => ?_)
   refine goes_ Try.func44 (by kernel_rfl) rfl #[.agg #[.int .i64 x.f0, .int .i64 x.f1, .bool x.f2, .int .i64 x.f3, .int .i64 x.f4.f0, .int .i64 x.f4.f1, .int .i64 x.f5.f0, .int .i64 x.f5.f1], .agg #[.int .i64 i, .int .i64 j, .int .i64 x.f0, .int .i64 x.f1]] (by rfl) rfl rfl (by simp only [List.map_toArray, List.map_cons, List.map_nil]; rfl) ?_
   with_reducible refine (H44.out _).mono ?_
   rintro e W0 ⟨rfl, hs⟩
   replace HA5 := Lib.hid (HA5.out.below hs)
   refine ⟨_, rfl, ?_⟩
   refine hK.out _ _ (mv14 hs hHeld) (fun hHeld => ?_)
   clear hK K
   refine n_ ?_
   refine p_ 6 (some 102) ?_
   refine p_ 7 (some 103) ?_
   refine p_ 8 (some 104) ?_
   refine p_ 9 (some 105) ?_
   refine p_ 10 (some 106) ?_
   refine p_ 11 (some 107) ?_
   refine p_ 12 (some 108) ?_
   refine p_ 13 (some 109) ?_
   refine p_ 14 (some 110) ?_
   refine p_ 15 (some 111) ?_
   refine p_ 16 (some 112) ?_
   refine t_ 17 (some 113) hHeld ?_
   refine e_ 18 (some 114) (fun K hK => ?_)
   refine goes_ Try.func45 (by kernel_rfl) rfl #[.int .i64 i, .int .i64 a2] (by rfl) rfl rfl (by simp only [List.map_toArray, List.map_cons, List.map_nil]; rfl) ?_
   with_reducible refine (H45i.out _).mono ?_
   rintro e Wi ⟨rfl, hs⟩
   replace HA5 := Lib.hid (HA5.out.below hs)
   refine ⟨_, rfl, ?_⟩
   refine hK.out _ _ (mv14 hs hHeld) (fun hHeld => ?_)
   clear hK K
   refine n_ ?_
   refine p_ 19 (some 115) ?_
   refine p_ 20 (some 116) ?_
   refine p_ 21 (some 117) ?_
   refine p_ 22 (some 118) ?_
   refine t_ 23 (some 119) hHeld ?_
   refine e_ 24 (some 120) (fun K hK => ?_)
   refine goes_ Try.func45 (by kernel_rfl) rfl #[.int .i64 j, .int .i64 a2] (by rfl) rfl rfl (by simp only [List.map_toArray, List.map_cons, List.map_nil]; rfl) ?_
   with_reducible refine (H45j.out _).mono ?_
   rintro e Wj ⟨rfl, hs⟩
   replace HA5 := Lib.hid (HA5.out.below hs)
   refine ⟨_, rfl, ?_⟩
   refine hK.out _ _ (mv14 hs hHeld) (fun hHeld => ?_)
   clear hK K
   refine n_ ?_
   refine p_ 25 (some 121) ?_
   refine p_ 26 (some 122) ?_
   refine p_ 27 (some 123) ?_
   refine p_ 28 (some 124) ?_
   refine t_ 29 (some 125) hHeld ?_
   refine e_ 30 (some 126) (fun K hK => ?_)
   refine goes_ Try.func45 (by kernel_rfl) rfl #[.int .i64 R, .int .i64 a2] (by rfl) rfl rfl (by simp only [List.map_toArray, List.map_cons, List.map_nil]; rfl) ?_
   with_reducible refine (H45R.out _).mono ?_
   rintro e WR ⟨rfl, hs⟩
   replace HA5 := Lib.hid (HA5.out.below hs)
   refine ⟨_, rfl, ?_⟩
   refine hK.out _ _ (mv14 hs hHeld) (fun hHeld => ?_)
   clear hK K
   refine n_ ?_
   refine p_ 31 (some 127) ?_
   refine p_ 32 (some 128) ?_
   refine p_ 33 (some 129) ?_
   refine p_ 34 (some 130) ?_
   refine t_ 35 (some 131) hHeld ?_
   refine e_ 36 (some 132) (fun K hK => ?_)
   refine goes_ Try.func45 (by kernel_rfl) rfl #[.int .i64 F, .int .i64 a2] (by rfl) rfl rfl (by simp only [List.map_toArray, List.map_cons, List.map_nil]; rfl) ?_
   with_reducible refine (H45F.out _).mono ?_
   rintro e WF ⟨rfl, hs⟩
   replace HA5 := Lib.hid (HA5.out.below hs)
   refine ⟨_, rfl, ?_⟩
   refine hK.out _ _ (mv14 hs hHeld) (fun hHeld => ?_)
   clear hK K
   refine n_ ?_
   refine p_ 37 (some 133) ?_
   refine done_ (by kernel_rfl) ?_
   cases f4 with
   | false =>
    go_wp2
    go_roundw
    case rel => exact ⟨1, b, by go_num, by omega, rfl, Lib.hid (by rw [HAT.out, HB.out]; simp), HA5⟩
    case measure => simp [intOf]
   | true =>
    go_wp2
    go_roundw
    case rel => exact ⟨1, true, by go_num, by omega, rfl, Lib.hid (by rw [HAT.out]; simp [c1, c2]), HA5⟩
    case measure => simp [intOf]
  ·have y2 : Q4.cell? ⟨g8, 2, none⟩ = some (.int .i64 x.f0) := (blk_cell q8 2).trans rfl
   have y3 : Q4.cell? ⟨g8, 3, none⟩ = some (.int .i64 x.f1) := (blk_cell q8 3).trans rfl
   have yf2 := blk_frozen q8 2
   have yf3 := blk_frozen q8 3
   go_upto_region 18 with fail
   obtain ⟨Q5, hQ5⟩ : ∃ Q, Q = (Q4.setCell ⟨g8, 2, none⟩ (.int .i64 x.f1)).setCell ⟨g8, 3, none⟩ (.int .i64 x.f0) := ⟨_, rfl⟩
   rw [← hQ5]
   have n0 := blk_ne HA4.out.b0 q8 (by decide)
   have n3 := blk_ne HA4.out.b3 q8 (by decide)
   replace HA4 : Hid (AlI w X Y a2 (.slice (some ad) l.length c) (.slice (some ad) 1 c) g3 Q5) := Lib.hid (by rw [hQ5]; exact ⟨blk_far (blk_far HA4.out.b0 n0 _) n0 _, blk_far (blk_far HA4.out.b3 n3 _) n3 _, below_set (below_set HA4.out.low hl9) hl9⟩)
   replace q8 : Q5.heap[g8]? = some (.cells #[.int .i64 i, .int .i64 j, .int .i64 x.f1, .int .i64 x.f0] 88 (0, 0)) := by rw [hQ5]; exact blk_put (blk_put q8 2 _ (cs' := #[.int .i64 i, .int .i64 j, .int .i64 x.f1, .int .i64 x.f1]) rfl) 3 _ rfl
   clear hQ5 y2 y3 yf2 yf3
   have HA5 := Lib.hid (HA4.out.below (below_drew1 (Below.refl _ _)))
   refine s_ 16 (fun w' => w'.cell? ⟨w.heap.size, 0, none⟩ = some (.int .i64 X) ∧ w'.cell? ⟨w.heap.size, 1, none⟩ = some (.int .i64 Y) ∧ w'.cell? ⟨g8, 2, none⟩ = some (.int .i64 x.f1) ∧ w'.cell? ⟨g8, 3, none⟩ = some (.int .i64 x.f0)) [] ⟨(cB HA5.out.b0), (cB HA5.out.b0), (cB q8), (cB q8)⟩ (fun hHeld => ?_)
   refine p_ 0 (some 82) ?_
   refine p_ 2 (some 84) ?_
   refine p_ 4 (some 86) ?_
   refine p_ 7 (some 89) ?_
   refine p_ 9 (some 91) ?_
   refine p_ 11 (some 93) ?_
   refine t_ 1 (some 83) hHeld ?_
   refine p_ 3 (some 85) ?_
   refine t_ 5 (some 87) hHeld ?_
   refine p_ 6 (some 88) ?_
   refine p_ 14 (some 9) ?_
   refine t_ 8 (some 90) hHeld ?_
   refine p_ 10 (some 92) ?_
   refine t_ 12 (some 94) hHeld ?_
   refine p_ 13 (some 95) ?_
   refine p_ 15 (some 10) ?_
   refine done_ (by kernel_rfl) ?_
   obtain ⟨R, hR⟩ : ∃ R, wrap64 (wrap64 ((X : Int) - i) - x.f1) = R := ⟨_, rfl⟩
   obtain ⟨F, hF⟩ : ∃ F, wrap64 (wrap64 ((Y : Int) - j) - x.f0) = F := ⟨_, rfl⟩
   rw [hR, hF]
   have hRe : (X : Int) - i - x.f1 = R := by rw [← hR, w64 (z := (X : Int) - i) (by omega) (by omega), w64 (by omega) (by omega)]
   have hFe : (Y : Int) - j - x.f0 = F := by rw [← hF, w64 (z := (Y : Int) - j) (by omega) (by omega), w64 (by omega) (by omega)]
   have hpc : placeC x X Y a2 i j 1 = (fitR x ⟨i, j, x.f1, x.f0⟩ && (decide (0 ≤ R) && (decide (0 ≤ F) && (freeR i a2 && (freeR j a2 && (freeR R a2 && freeR F a2)))))) := by rw [← hRe, ← hFe]; rfl
   have hat : anyT x X Y a2 i j (1 + 1) = (anyT x X Y a2 i j 1 || placeC x X Y a2 i j 1) := by unfold anyT; rw [any_succ]
   rw [hpc] at hat
   have h44 := fits_calls x.f0 x.f1 x.f2 x.f3 x.f4.f0 x.f4.f1 x.f5.f0 x.f5.f1 i j x.f1 x.f0
   rw [show fitsR x.f0 x.f1 x.f2 x.f4.f0 x.f4.f1 x.f5.f0 x.f5.f1 i j x.f1 x.f0 = fitR x ⟨i, j, x.f1, x.f0⟩ from rfl] at h44
   generalize fitR x ⟨i, j, x.f1, x.f0⟩ = fr at hat h44
   have h45i := free_calls i a2
   have h45j := free_calls j a2
   have h45R := free_calls R a2
   have h45F := free_calls F a2
   generalize freeR i a2 = f1 at hat h45i
   generalize freeR j a2 = f2 at hat h45j
   generalize freeR R a2 = f3 at hat h45R
   generalize freeR F a2 = f4 at hat h45F
   have H44 := Lib.hid h44
   have H45i := Lib.hid h45i
   have H45j := Lib.hid h45j
   have H45R := Lib.hid h45R
   have H45F := Lib.hid h45F
   have HAT := Lib.hid hat
   clear h44 h45i h45j h45R h45F hat hpc hR hF hRe hFe hHeld HA4
   obtain ⟨ad9, e9, hx0, hx1, hx2, hx3, hx4, hx5, hx6, hx7⟩ := at_T82 (Kd.C_below HL.out HA5.out.low) 0 (Int.le_refl _) HLN.out
   cases e9
   rw [HXE.out] at hx0 hx1 hx2 hx3 hx4 hx5 hx6 hx7
   simp only [Int.toNat_zero, Nat.zero_mul, add0_] at hx0 hx1 hx2 hx3 hx4 hx5 hx6 hx7
   replace HA5 := Lib.hid (HA5.out.below (below_drew1 (Below.refl _ _)))
   go_wp2
   cases fr with
   | false =>
    refine s_ 38 (fun w' => w'.cell? ⟨w.heap.size, 3, none⟩ = some (.slice (some ad) l.length c) ∧ w'.cell? ad = some (.int .i64 x.f0) ∧ w'.cell? ⟨ad.block, ad.off + 1, none⟩ = some (.int .i64 x.f1) ∧ w'.cell? ⟨ad.block, ad.off + 2, none⟩ = some (.bool x.f2) ∧ w'.cell? ⟨ad.block, ad.off + 3, none⟩ = some (.int .i64 x.f3) ∧ w'.cell? ⟨ad.block, ad.off + 4, none⟩ = some (.int .i64 x.f4.f0) ∧ w'.cell? ⟨ad.block, ad.off + 5, none⟩ = some (.int .i64 x.f4.f1) ∧ w'.cell? ⟨ad.block, ad.off + 6, none⟩ = some (.int .i64 x.f5.f0) ∧ w'.cell? ⟨ad.block, ad.off + 7, none⟩ = some (.int .i64 x.f5.f1) ∧ w'.cell? ⟨g8, 0, none⟩ = some (.int .i64 i) ∧ w'.cell? ⟨g8, 1, none⟩ = some (.int .i64 j) ∧ w'.cell? ⟨g8, 2, none⟩ = some (.int .i64 x.f1) ∧ w'.cell? ⟨g8, 3, none⟩ = some (.int .i64 x.f0) ∧ w'.cell? ⟨w.heap.size, 2, none⟩ = some (.int .i64 a2)) [] ⟨(cB HA5.out.b0), hx0, hx1, hx2, hx3, hx4, hx5, hx6, hx7, (cB q8), (cB q8), (cB q8), (cB q8), (cB HA5.out.b0)⟩ (fun hHeld => ?_)
    refine p_ 0 (some 96) ?_
    refine t_ 1 (some 97) hHeld ?_
    refine p_ 2 (some 98) ?_
    refine t_ 3 (some 99) hHeld ?_
    refine t_ 4 (some 100) hHeld ?_
    refine e_ 5 (some 101) (fun K hK => ?_)
    refine goes_ Try.func44 (by kernel_rfl) rfl #[.agg #[.int .i64 x.f0, .int .i64 x.f1, .bool x.f2, .int .i64 x.f3, .int .i64 x.f4.f0, .int .i64 x.f4.f1, .int .i64 x.f5.f0, .int .i64 x.f5.f1], .agg #[.int .i64 i, .int .i64 j, .int .i64 x.f1, .int .i64 x.f0]] (by rfl) rfl rfl (by simp only [List.map_toArray, List.map_cons, List.map_nil]; rfl) ?_
    with_reducible refine (H44.out _).mono ?_
    rintro e W0 ⟨rfl, hs⟩
    replace HA5 := Lib.hid (HA5.out.below hs)
    refine ⟨_, rfl, ?_⟩
    refine hK.out _ _ (mv14 hs hHeld) (fun hHeld => ?_)
    clear hK K
    refine n_ ?_
    refine p_ 6 (some 102) ?_
    refine o_ 7 (some 103) ?_
    refine o_ 8 (some 104) ?_
    refine p_ 9 (some 105) ?_
    refine p_ 10 (some 106) ?_
    refine o_ 11 (some 107) ?_
    refine o_ 12 (some 108) ?_
    refine p_ 13 (some 109) ?_
    refine p_ 14 (some 110) ?_
    refine o_ 15 (some 111) ?_
    refine o_ 16 (some 112) ?_
    refine o_ 17 (some 113) ?_
    refine o_ 18 (some 114) ?_
    refine p_ 19 (some 115) ?_
    refine p_ 20 (some 116) ?_
    refine o_ 21 (some 117) ?_
    refine o_ 22 (some 118) ?_
    refine o_ 23 (some 119) ?_
    refine o_ 24 (some 120) ?_
    refine p_ 25 (some 121) ?_
    refine p_ 26 (some 122) ?_
    refine o_ 27 (some 123) ?_
    refine o_ 28 (some 124) ?_
    refine o_ 29 (some 125) ?_
    refine o_ 30 (some 126) ?_
    refine p_ 31 (some 127) ?_
    refine p_ 32 (some 128) ?_
    refine o_ 33 (some 129) ?_
    refine o_ 34 (some 130) ?_
    refine o_ 35 (some 131) ?_
    refine o_ 36 (some 132) ?_
    refine p_ 37 (some 133) ?_
    refine done_ (by kernel_rfl) ?_
    go_wp2
    go_roundw
    case rel => exact ⟨2, b, by go_num, by omega, rfl, Lib.hid (by rw [HAT.out, HB.out]; simp []), HA5⟩
    case measure => simp [intOf]
   | true =>
   cases c1 : decide (0 ≤ R) with
   | false =>
    refine s_ 38 (fun w' => w'.cell? ⟨w.heap.size, 3, none⟩ = some (.slice (some ad) l.length c) ∧ w'.cell? ad = some (.int .i64 x.f0) ∧ w'.cell? ⟨ad.block, ad.off + 1, none⟩ = some (.int .i64 x.f1) ∧ w'.cell? ⟨ad.block, ad.off + 2, none⟩ = some (.bool x.f2) ∧ w'.cell? ⟨ad.block, ad.off + 3, none⟩ = some (.int .i64 x.f3) ∧ w'.cell? ⟨ad.block, ad.off + 4, none⟩ = some (.int .i64 x.f4.f0) ∧ w'.cell? ⟨ad.block, ad.off + 5, none⟩ = some (.int .i64 x.f4.f1) ∧ w'.cell? ⟨ad.block, ad.off + 6, none⟩ = some (.int .i64 x.f5.f0) ∧ w'.cell? ⟨ad.block, ad.off + 7, none⟩ = some (.int .i64 x.f5.f1) ∧ w'.cell? ⟨g8, 0, none⟩ = some (.int .i64 i) ∧ w'.cell? ⟨g8, 1, none⟩ = some (.int .i64 j) ∧ w'.cell? ⟨g8, 2, none⟩ = some (.int .i64 x.f1) ∧ w'.cell? ⟨g8, 3, none⟩ = some (.int .i64 x.f0) ∧ w'.cell? ⟨w.heap.size, 2, none⟩ = some (.int .i64 a2)) [] ⟨(cB HA5.out.b0), hx0, hx1, hx2, hx3, hx4, hx5, hx6, hx7, (cB q8), (cB q8), (cB q8), (cB q8), (cB HA5.out.b0)⟩ (fun hHeld => ?_)
    refine p_ 0 (some 96) ?_
    refine t_ 1 (some 97) hHeld ?_
    refine p_ 2 (some 98) ?_
    refine t_ 3 (some 99) hHeld ?_
    refine t_ 4 (some 100) hHeld ?_
    refine e_ 5 (some 101) (fun K hK => ?_)
    refine goes_ Try.func44 (by kernel_rfl) rfl #[.agg #[.int .i64 x.f0, .int .i64 x.f1, .bool x.f2, .int .i64 x.f3, .int .i64 x.f4.f0, .int .i64 x.f4.f1, .int .i64 x.f5.f0, .int .i64 x.f5.f1], .agg #[.int .i64 i, .int .i64 j, .int .i64 x.f1, .int .i64 x.f0]] (by rfl) rfl rfl (by simp only [List.map_toArray, List.map_cons, List.map_nil]; rfl) ?_
    with_reducible refine (H44.out _).mono ?_
    rintro e W0 ⟨rfl, hs⟩
    replace HA5 := Lib.hid (HA5.out.below hs)
    refine ⟨_, rfl, ?_⟩
    refine hK.out _ _ (mv14 hs hHeld) (fun hHeld => ?_)
    clear hK K
    refine n_ ?_
    refine p_ 6 (some 102) ?_
    refine p_ 7 (some 103) ?_
    refine p_ 8 (some 104) ?_
    refine p_ 9 (some 105) ?_
    refine p_ 10 (some 106) ?_
    refine o_ 11 (some 107) ?_
    refine o_ 12 (some 108) ?_
    refine p_ 13 (some 109) ?_
    refine p_ 14 (some 110) ?_
    refine o_ 15 (some 111) ?_
    refine o_ 16 (some 112) ?_
    refine o_ 17 (some 113) ?_
    refine o_ 18 (some 114) ?_
    refine p_ 19 (some 115) ?_
    refine p_ 20 (some 116) ?_
    refine o_ 21 (some 117) ?_
    refine o_ 22 (some 118) ?_
    refine o_ 23 (some 119) ?_
    refine o_ 24 (some 120) ?_
    refine p_ 25 (some 121) ?_
    refine p_ 26 (some 122) ?_
    refine o_ 27 (some 123) ?_
    refine o_ 28 (some 124) ?_
    refine o_ 29 (some 125) ?_
    refine o_ 30 (some 126) ?_
    refine p_ 31 (some 127) ?_
    refine p_ 32 (some 128) ?_
    refine o_ 33 (some 129) ?_
    refine o_ 34 (some 130) ?_
    refine o_ 35 (some 131) ?_
    refine o_ 36 (some 132) ?_
    refine p_ 37 (some 133) ?_
    refine done_ (by kernel_rfl) ?_
    go_wp2
    go_roundw
    case rel => exact ⟨2, b, by go_num, by omega, rfl, Lib.hid (by rw [HAT.out, HB.out]; simp [c1]), HA5⟩
    case measure => simp [intOf]
   | true =>
   cases c2 : decide (0 ≤ F) with
   | false =>
    refine s_ 38 (fun w' => w'.cell? ⟨w.heap.size, 3, none⟩ = some (.slice (some ad) l.length c) ∧ w'.cell? ad = some (.int .i64 x.f0) ∧ w'.cell? ⟨ad.block, ad.off + 1, none⟩ = some (.int .i64 x.f1) ∧ w'.cell? ⟨ad.block, ad.off + 2, none⟩ = some (.bool x.f2) ∧ w'.cell? ⟨ad.block, ad.off + 3, none⟩ = some (.int .i64 x.f3) ∧ w'.cell? ⟨ad.block, ad.off + 4, none⟩ = some (.int .i64 x.f4.f0) ∧ w'.cell? ⟨ad.block, ad.off + 5, none⟩ = some (.int .i64 x.f4.f1) ∧ w'.cell? ⟨ad.block, ad.off + 6, none⟩ = some (.int .i64 x.f5.f0) ∧ w'.cell? ⟨ad.block, ad.off + 7, none⟩ = some (.int .i64 x.f5.f1) ∧ w'.cell? ⟨g8, 0, none⟩ = some (.int .i64 i) ∧ w'.cell? ⟨g8, 1, none⟩ = some (.int .i64 j) ∧ w'.cell? ⟨g8, 2, none⟩ = some (.int .i64 x.f1) ∧ w'.cell? ⟨g8, 3, none⟩ = some (.int .i64 x.f0) ∧ w'.cell? ⟨w.heap.size, 2, none⟩ = some (.int .i64 a2)) [] ⟨(cB HA5.out.b0), hx0, hx1, hx2, hx3, hx4, hx5, hx6, hx7, (cB q8), (cB q8), (cB q8), (cB q8), (cB HA5.out.b0)⟩ (fun hHeld => ?_)
    refine p_ 0 (some 96) ?_
    refine t_ 1 (some 97) hHeld ?_
    refine p_ 2 (some 98) ?_
    refine t_ 3 (some 99) hHeld ?_
    refine t_ 4 (some 100) hHeld ?_
    refine e_ 5 (some 101) (fun K hK => ?_)
    refine goes_ Try.func44 (by kernel_rfl) rfl #[.agg #[.int .i64 x.f0, .int .i64 x.f1, .bool x.f2, .int .i64 x.f3, .int .i64 x.f4.f0, .int .i64 x.f4.f1, .int .i64 x.f5.f0, .int .i64 x.f5.f1], .agg #[.int .i64 i, .int .i64 j, .int .i64 x.f1, .int .i64 x.f0]] (by rfl) rfl rfl (by simp only [List.map_toArray, List.map_cons, List.map_nil]; rfl) ?_
    with_reducible refine (H44.out _).mono ?_
    rintro e W0 ⟨rfl, hs⟩
    replace HA5 := Lib.hid (HA5.out.below hs)
    refine ⟨_, rfl, ?_⟩
    refine hK.out _ _ (mv14 hs hHeld) (fun hHeld => ?_)
    clear hK K
    refine n_ ?_
    refine p_ 6 (some 102) ?_
    refine p_ 7 (some 103) ?_
    refine p_ 8 (some 104) ?_
    refine p_ 9 (some 105) ?_
    refine p_ 10 (some 106) ?_
    refine p_ 11 (some 107) ?_
    refine p_ 12 (some 108) ?_
    refine p_ 13 (some 109) ?_
    refine p_ 14 (some 110) ?_
    refine o_ 15 (some 111) ?_
    refine o_ 16 (some 112) ?_
    refine o_ 17 (some 113) ?_
    refine o_ 18 (some 114) ?_
    refine p_ 19 (some 115) ?_
    refine p_ 20 (some 116) ?_
    refine o_ 21 (some 117) ?_
    refine o_ 22 (some 118) ?_
    refine o_ 23 (some 119) ?_
    refine o_ 24 (some 120) ?_
    refine p_ 25 (some 121) ?_
    refine p_ 26 (some 122) ?_
    refine o_ 27 (some 123) ?_
    refine o_ 28 (some 124) ?_
    refine o_ 29 (some 125) ?_
    refine o_ 30 (some 126) ?_
    refine p_ 31 (some 127) ?_
    refine p_ 32 (some 128) ?_
    refine o_ 33 (some 129) ?_
    refine o_ 34 (some 130) ?_
    refine o_ 35 (some 131) ?_
    refine o_ 36 (some 132) ?_
    refine p_ 37 (some 133) ?_
    refine done_ (by kernel_rfl) ?_
    go_wp2
    go_roundw
    case rel => exact ⟨2, b, by go_num, by omega, rfl, Lib.hid (by rw [HAT.out, HB.out]; simp [c2]), HA5⟩
    case measure => simp [intOf]
   | true =>
   cases f1 with
   | false =>
    refine s_ 38 (fun w' => w'.cell? ⟨w.heap.size, 3, none⟩ = some (.slice (some ad) l.length c) ∧ w'.cell? ad = some (.int .i64 x.f0) ∧ w'.cell? ⟨ad.block, ad.off + 1, none⟩ = some (.int .i64 x.f1) ∧ w'.cell? ⟨ad.block, ad.off + 2, none⟩ = some (.bool x.f2) ∧ w'.cell? ⟨ad.block, ad.off + 3, none⟩ = some (.int .i64 x.f3) ∧ w'.cell? ⟨ad.block, ad.off + 4, none⟩ = some (.int .i64 x.f4.f0) ∧ w'.cell? ⟨ad.block, ad.off + 5, none⟩ = some (.int .i64 x.f4.f1) ∧ w'.cell? ⟨ad.block, ad.off + 6, none⟩ = some (.int .i64 x.f5.f0) ∧ w'.cell? ⟨ad.block, ad.off + 7, none⟩ = some (.int .i64 x.f5.f1) ∧ w'.cell? ⟨g8, 0, none⟩ = some (.int .i64 i) ∧ w'.cell? ⟨g8, 1, none⟩ = some (.int .i64 j) ∧ w'.cell? ⟨g8, 2, none⟩ = some (.int .i64 x.f1) ∧ w'.cell? ⟨g8, 3, none⟩ = some (.int .i64 x.f0) ∧ w'.cell? ⟨w.heap.size, 2, none⟩ = some (.int .i64 a2)) [] ⟨(cB HA5.out.b0), hx0, hx1, hx2, hx3, hx4, hx5, hx6, hx7, (cB q8), (cB q8), (cB q8), (cB q8), (cB HA5.out.b0)⟩ (fun hHeld => ?_)
    refine p_ 0 (some 96) ?_
    refine t_ 1 (some 97) hHeld ?_
    refine p_ 2 (some 98) ?_
    refine t_ 3 (some 99) hHeld ?_
    refine t_ 4 (some 100) hHeld ?_
    refine e_ 5 (some 101) (fun K hK => ?_)
    refine goes_ Try.func44 (by kernel_rfl) rfl #[.agg #[.int .i64 x.f0, .int .i64 x.f1, .bool x.f2, .int .i64 x.f3, .int .i64 x.f4.f0, .int .i64 x.f4.f1, .int .i64 x.f5.f0, .int .i64 x.f5.f1], .agg #[.int .i64 i, .int .i64 j, .int .i64 x.f1, .int .i64 x.f0]] (by rfl) rfl rfl (by simp only [List.map_toArray, List.map_cons, List.map_nil]; rfl) ?_
    with_reducible refine (H44.out _).mono ?_
    rintro e W0 ⟨rfl, hs⟩
    replace HA5 := Lib.hid (HA5.out.below hs)
    refine ⟨_, rfl, ?_⟩
    refine hK.out _ _ (mv14 hs hHeld) (fun hHeld => ?_)
    clear hK K
    refine n_ ?_
    refine p_ 6 (some 102) ?_
    refine p_ 7 (some 103) ?_
    refine p_ 8 (some 104) ?_
    refine p_ 9 (some 105) ?_
    refine p_ 10 (some 106) ?_
    refine p_ 11 (some 107) ?_
    refine p_ 12 (some 108) ?_
    refine p_ 13 (some 109) ?_
    refine p_ 14 (some 110) ?_
    refine p_ 15 (some 111) ?_
    refine p_ 16 (some 112) ?_
    refine t_ 17 (some 113) hHeld ?_
    refine e_ 18 (some 114) (fun K hK => ?_)
    refine goes_ Try.func45 (by kernel_rfl) rfl #[.int .i64 i, .int .i64 a2] (by rfl) rfl rfl (by simp only [List.map_toArray, List.map_cons, List.map_nil]; rfl) ?_
    with_reducible refine (H45i.out _).mono ?_
    rintro e Wi ⟨rfl, hs⟩
    replace HA5 := Lib.hid (HA5.out.below hs)
    refine ⟨_, rfl, ?_⟩
    refine hK.out _ _ (mv14 hs hHeld) (fun hHeld => ?_)
    clear hK K
    refine n_ ?_
    refine p_ 19 (some 115) ?_
    refine p_ 20 (some 116) ?_
    refine o_ 21 (some 117) ?_
    refine o_ 22 (some 118) ?_
    refine o_ 23 (some 119) ?_
    refine o_ 24 (some 120) ?_
    refine p_ 25 (some 121) ?_
    refine p_ 26 (some 122) ?_
    refine o_ 27 (some 123) ?_
    refine o_ 28 (some 124) ?_
    refine o_ 29 (some 125) ?_
    refine o_ 30 (some 126) ?_
    refine p_ 31 (some 127) ?_
    refine p_ 32 (some 128) ?_
    refine o_ 33 (some 129) ?_
    refine o_ 34 (some 130) ?_
    refine o_ 35 (some 131) ?_
    refine o_ 36 (some 132) ?_
    refine p_ 37 (some 133) ?_
    refine done_ (by kernel_rfl) ?_
    go_wp2
    go_roundw
    case rel => exact ⟨2, b, by go_num, by omega, rfl, Lib.hid (by rw [HAT.out, HB.out]; simp []), HA5⟩
    case measure => simp [intOf]
   | true =>
   cases f2 with
   | false =>
    refine s_ 38 (fun w' => w'.cell? ⟨w.heap.size, 3, none⟩ = some (.slice (some ad) l.length c) ∧ w'.cell? ad = some (.int .i64 x.f0) ∧ w'.cell? ⟨ad.block, ad.off + 1, none⟩ = some (.int .i64 x.f1) ∧ w'.cell? ⟨ad.block, ad.off + 2, none⟩ = some (.bool x.f2) ∧ w'.cell? ⟨ad.block, ad.off + 3, none⟩ = some (.int .i64 x.f3) ∧ w'.cell? ⟨ad.block, ad.off + 4, none⟩ = some (.int .i64 x.f4.f0) ∧ w'.cell? ⟨ad.block, ad.off + 5, none⟩ = some (.int .i64 x.f4.f1) ∧ w'.cell? ⟨ad.block, ad.off + 6, none⟩ = some (.int .i64 x.f5.f0) ∧ w'.cell? ⟨ad.block, ad.off + 7, none⟩ = some (.int .i64 x.f5.f1) ∧ w'.cell? ⟨g8, 0, none⟩ = some (.int .i64 i) ∧ w'.cell? ⟨g8, 1, none⟩ = some (.int .i64 j) ∧ w'.cell? ⟨g8, 2, none⟩ = some (.int .i64 x.f1) ∧ w'.cell? ⟨g8, 3, none⟩ = some (.int .i64 x.f0) ∧ w'.cell? ⟨w.heap.size, 2, none⟩ = some (.int .i64 a2)) [] ⟨(cB HA5.out.b0), hx0, hx1, hx2, hx3, hx4, hx5, hx6, hx7, (cB q8), (cB q8), (cB q8), (cB q8), (cB HA5.out.b0)⟩ (fun hHeld => ?_)
    refine p_ 0 (some 96) ?_
    refine t_ 1 (some 97) hHeld ?_
    refine p_ 2 (some 98) ?_
    refine t_ 3 (some 99) hHeld ?_
    refine t_ 4 (some 100) hHeld ?_
    refine e_ 5 (some 101) (fun K hK => ?_)
    refine goes_ Try.func44 (by kernel_rfl) rfl #[.agg #[.int .i64 x.f0, .int .i64 x.f1, .bool x.f2, .int .i64 x.f3, .int .i64 x.f4.f0, .int .i64 x.f4.f1, .int .i64 x.f5.f0, .int .i64 x.f5.f1], .agg #[.int .i64 i, .int .i64 j, .int .i64 x.f1, .int .i64 x.f0]] (by rfl) rfl rfl (by simp only [List.map_toArray, List.map_cons, List.map_nil]; rfl) ?_
    with_reducible refine (H44.out _).mono ?_
    rintro e W0 ⟨rfl, hs⟩
    replace HA5 := Lib.hid (HA5.out.below hs)
    refine ⟨_, rfl, ?_⟩
    refine hK.out _ _ (mv14 hs hHeld) (fun hHeld => ?_)
    clear hK K
    refine n_ ?_
    refine p_ 6 (some 102) ?_
    refine p_ 7 (some 103) ?_
    refine p_ 8 (some 104) ?_
    refine p_ 9 (some 105) ?_
    refine p_ 10 (some 106) ?_
    refine p_ 11 (some 107) ?_
    refine p_ 12 (some 108) ?_
    refine p_ 13 (some 109) ?_
    refine p_ 14 (some 110) ?_
    refine p_ 15 (some 111) ?_
    refine p_ 16 (some 112) ?_
    refine t_ 17 (some 113) hHeld ?_
    refine e_ 18 (some 114) (fun K hK => ?_)
    refine goes_ Try.func45 (by kernel_rfl) rfl #[.int .i64 i, .int .i64 a2] (by rfl) rfl rfl (by simp only [List.map_toArray, List.map_cons, List.map_nil]; rfl) ?_
    with_reducible refine (H45i.out _).mono ?_
    rintro e Wi ⟨rfl, hs⟩
    replace HA5 := Lib.hid (HA5.out.below hs)
    refine ⟨_, rfl, ?_⟩
    refine hK.out _ _ (mv14 hs hHeld) (fun hHeld => ?_)
    clear hK K
    refine n_ ?_
    refine p_ 19 (some 115) ?_
    refine p_ 20 (some 116) ?_
    refine p_ 21 (some 117) ?_
    refine p_ 22 (some 118) ?_
    refine t_ 23 (some 119) hHeld ?_
    refine e_ 24 (some 120) (fun K hK => ?_)
    refine goes_ Try.func45 (by kernel_rfl) rfl #[.int .i64 j, .int .i64 a2] (by rfl) rfl rfl (by simp only [List.map_toArray, List.map_cons, List.map_nil]; rfl) ?_
    with_reducible refine (H45j.out _).mono ?_
    rintro e Wj ⟨rfl, hs⟩
    replace HA5 := Lib.hid (HA5.out.below hs)
    refine ⟨_, rfl, ?_⟩
    refine hK.out _ _ (mv14 hs hHeld) (fun hHeld => ?_)
    clear hK K
    refine n_ ?_
    refine p_ 25 (some 121) ?_
    refine p_ 26 (some 122) ?_
    refine o_ 27 (some 123) ?_
    refine o_ 28 (some 124) ?_
    refine o_ 29 (some 125) ?_
    refine o_ 30 (some 126) ?_
    refine p_ 31 (some 127) ?_
    refine p_ 32 (some 128) ?_
    refine o_ 33 (some 129) ?_
    refine o_ 34 (some 130) ?_
    refine o_ 35 (some 131) ?_
    refine o_ 36 (some 132) ?_
    refine p_ 37 (some 133) ?_
    refine done_ (by kernel_rfl) ?_
    go_wp2
    go_roundw
    case rel => exact ⟨2, b, by go_num, by omega, rfl, Lib.hid (by rw [HAT.out, HB.out]; simp []), HA5⟩
    case measure => simp [intOf]
   | true =>
   cases f3 with
   | false =>
    refine s_ 38 (fun w' => w'.cell? ⟨w.heap.size, 3, none⟩ = some (.slice (some ad) l.length c) ∧ w'.cell? ad = some (.int .i64 x.f0) ∧ w'.cell? ⟨ad.block, ad.off + 1, none⟩ = some (.int .i64 x.f1) ∧ w'.cell? ⟨ad.block, ad.off + 2, none⟩ = some (.bool x.f2) ∧ w'.cell? ⟨ad.block, ad.off + 3, none⟩ = some (.int .i64 x.f3) ∧ w'.cell? ⟨ad.block, ad.off + 4, none⟩ = some (.int .i64 x.f4.f0) ∧ w'.cell? ⟨ad.block, ad.off + 5, none⟩ = some (.int .i64 x.f4.f1) ∧ w'.cell? ⟨ad.block, ad.off + 6, none⟩ = some (.int .i64 x.f5.f0) ∧ w'.cell? ⟨ad.block, ad.off + 7, none⟩ = some (.int .i64 x.f5.f1) ∧ w'.cell? ⟨g8, 0, none⟩ = some (.int .i64 i) ∧ w'.cell? ⟨g8, 1, none⟩ = some (.int .i64 j) ∧ w'.cell? ⟨g8, 2, none⟩ = some (.int .i64 x.f1) ∧ w'.cell? ⟨g8, 3, none⟩ = some (.int .i64 x.f0) ∧ w'.cell? ⟨w.heap.size, 2, none⟩ = some (.int .i64 a2)) [] ⟨(cB HA5.out.b0), hx0, hx1, hx2, hx3, hx4, hx5, hx6, hx7, (cB q8), (cB q8), (cB q8), (cB q8), (cB HA5.out.b0)⟩ (fun hHeld => ?_)
    refine p_ 0 (some 96) ?_
    refine t_ 1 (some 97) hHeld ?_
    refine p_ 2 (some 98) ?_
    refine t_ 3 (some 99) hHeld ?_
    refine t_ 4 (some 100) hHeld ?_
    refine e_ 5 (some 101) (fun K hK => ?_)
    refine goes_ Try.func44 (by kernel_rfl) rfl #[.agg #[.int .i64 x.f0, .int .i64 x.f1, .bool x.f2, .int .i64 x.f3, .int .i64 x.f4.f0, .int .i64 x.f4.f1, .int .i64 x.f5.f0, .int .i64 x.f5.f1], .agg #[.int .i64 i, .int .i64 j, .int .i64 x.f1, .int .i64 x.f0]] (by rfl) rfl rfl (by simp only [List.map_toArray, List.map_cons, List.map_nil]; rfl) ?_
    with_reducible refine (H44.out _).mono ?_
    rintro e W0 ⟨rfl, hs⟩
    replace HA5 := Lib.hid (HA5.out.below hs)
    refine ⟨_, rfl, ?_⟩
    refine hK.out _ _ (mv14 hs hHeld) (fun hHeld => ?_)
    clear hK K
    refine n_ ?_
    refine p_ 6 (some 102) ?_
    refine p_ 7 (some 103) ?_
    refine p_ 8 (some 104) ?_
    refine p_ 9 (some 105) ?_
    refine p_ 10 (some 106) ?_
    refine p_ 11 (some 107) ?_
    refine p_ 12 (some 108) ?_
    refine p_ 13 (some 109) ?_
    refine p_ 14 (some 110) ?_
    refine p_ 15 (some 111) ?_
    refine p_ 16 (some 112) ?_
    refine t_ 17 (some 113) hHeld ?_
    refine e_ 18 (some 114) (fun K hK => ?_)
    refine goes_ Try.func45 (by kernel_rfl) rfl #[.int .i64 i, .int .i64 a2] (by rfl) rfl rfl (by simp only [List.map_toArray, List.map_cons, List.map_nil]; rfl) ?_
    with_reducible refine (H45i.out _).mono ?_
    rintro e Wi ⟨rfl, hs⟩
    replace HA5 := Lib.hid (HA5.out.below hs)
    refine ⟨_, rfl, ?_⟩
    refine hK.out _ _ (mv14 hs hHeld) (fun hHeld => ?_)
    clear hK K
    refine n_ ?_
    refine p_ 19 (some 115) ?_
    refine p_ 20 (some 116) ?_
    refine p_ 21 (some 117) ?_
    refine p_ 22 (some 118) ?_
    refine t_ 23 (some 119) hHeld ?_
    refine e_ 24 (some 120) (fun K hK => ?_)
    refine goes_ Try.func45 (by kernel_rfl) rfl #[.int .i64 j, .int .i64 a2] (by rfl) rfl rfl (by simp only [List.map_toArray, List.map_cons, List.map_nil]; rfl) ?_
    with_reducible refine (H45j.out _).mono ?_
    rintro e Wj ⟨rfl, hs⟩
    replace HA5 := Lib.hid (HA5.out.below hs)
    refine ⟨_, rfl, ?_⟩
    refine hK.out _ _ (mv14 hs hHeld) (fun hHeld => ?_)
    clear hK K
    refine n_ ?_
    refine p_ 25 (some 121) ?_
    refine p_ 26 (some 122) ?_
    refine p_ 27 (some 123) ?_
    refine p_ 28 (some 124) ?_
    refine t_ 29 (some 125) hHeld ?_
    refine e_ 30 (some 126) (fun K hK => ?_)
    refine goes_ Try.func45 (by kernel_rfl) rfl #[.int .i64 R, .int .i64 a2] (by rfl) rfl rfl (by simp only [List.map_toArray, List.map_cons, List.map_nil]; rfl) ?_
    with_reducible refine (H45R.out _).mono ?_
    rintro e WR ⟨rfl, hs⟩
    replace HA5 := Lib.hid (HA5.out.below hs)
    refine ⟨_, rfl, ?_⟩
    refine hK.out _ _ (mv14 hs hHeld) (fun hHeld => ?_)
    clear hK K
    refine n_ ?_
    refine p_ 31 (some 127) ?_
    refine p_ 32 (some 128) ?_
    refine o_ 33 (some 129) ?_
    refine o_ 34 (some 130) ?_
    refine o_ 35 (some 131) ?_
    refine o_ 36 (some 132) ?_
    refine p_ 37 (some 133) ?_
    refine done_ (by kernel_rfl) ?_
    go_wp2
    go_roundw
    case rel => exact ⟨2, b, by go_num, by omega, rfl, Lib.hid (by rw [HAT.out, HB.out]; simp []), HA5⟩
    case measure => simp [intOf]
   | true =>
   refine s_ 38 (fun w' => w'.cell? ⟨w.heap.size, 3, none⟩ = some (.slice (some ad) l.length c) ∧ w'.cell? ad = some (.int .i64 x.f0) ∧ w'.cell? ⟨ad.block, ad.off + 1, none⟩ = some (.int .i64 x.f1) ∧ w'.cell? ⟨ad.block, ad.off + 2, none⟩ = some (.bool x.f2) ∧ w'.cell? ⟨ad.block, ad.off + 3, none⟩ = some (.int .i64 x.f3) ∧ w'.cell? ⟨ad.block, ad.off + 4, none⟩ = some (.int .i64 x.f4.f0) ∧ w'.cell? ⟨ad.block, ad.off + 5, none⟩ = some (.int .i64 x.f4.f1) ∧ w'.cell? ⟨ad.block, ad.off + 6, none⟩ = some (.int .i64 x.f5.f0) ∧ w'.cell? ⟨ad.block, ad.off + 7, none⟩ = some (.int .i64 x.f5.f1) ∧ w'.cell? ⟨g8, 0, none⟩ = some (.int .i64 i) ∧ w'.cell? ⟨g8, 1, none⟩ = some (.int .i64 j) ∧ w'.cell? ⟨g8, 2, none⟩ = some (.int .i64 x.f1) ∧ w'.cell? ⟨g8, 3, none⟩ = some (.int .i64 x.f0) ∧ w'.cell? ⟨w.heap.size, 2, none⟩ = some (.int .i64 a2)) [] ⟨(cB HA5.out.b0), hx0, hx1, hx2, hx3, hx4, hx5, hx6, hx7, (cB q8), (cB q8), (cB q8), (cB q8), (cB HA5.out.b0)⟩ (fun hHeld => ?_)
   refine p_ 0 (some 96) ?_
   refine t_ 1 (some 97) hHeld ?_
   refine p_ 2 (some 98) ?_
   refine t_ 3 (some 99) hHeld ?_
   refine t_ 4 (some 100) hHeld ?_
   refine e_ 5 (some 101) (fun K hK => ?_)
   refine goes_ Try.func44 (by kernel_rfl) rfl #[.agg #[.int .i64 x.f0, .int .i64 x.f1, .bool x.f2, .int .i64 x.f3, .int .i64 x.f4.f0, .int .i64 x.f4.f1, .int .i64 x.f5.f0, .int .i64 x.f5.f1], .agg #[.int .i64 i, .int .i64 j, .int .i64 x.f1, .int .i64 x.f0]] (by rfl) rfl rfl (by simp only [List.map_toArray, List.map_cons, List.map_nil]; rfl) ?_
   with_reducible refine (H44.out _).mono ?_
   rintro e W0 ⟨rfl, hs⟩
   replace HA5 := Lib.hid (HA5.out.below hs)
   refine ⟨_, rfl, ?_⟩
   refine hK.out _ _ (mv14 hs hHeld) (fun hHeld => ?_)
   clear hK K
   refine n_ ?_
   refine p_ 6 (some 102) ?_
   refine p_ 7 (some 103) ?_
   refine p_ 8 (some 104) ?_
   refine p_ 9 (some 105) ?_
   refine p_ 10 (some 106) ?_
   refine p_ 11 (some 107) ?_
   refine p_ 12 (some 108) ?_
   refine p_ 13 (some 109) ?_
   refine p_ 14 (some 110) ?_
   refine p_ 15 (some 111) ?_
   refine p_ 16 (some 112) ?_
   refine t_ 17 (some 113) hHeld ?_
   refine e_ 18 (some 114) (fun K hK => ?_)
   refine goes_ Try.func45 (by kernel_rfl) rfl #[.int .i64 i, .int .i64 a2] (by rfl) rfl rfl (by simp only [List.map_toArray, List.map_cons, List.map_nil]; rfl) ?_
   with_reducible refine (H45i.out _).mono ?_
   rintro e Wi ⟨rfl, hs⟩
   replace HA5 := Lib.hid (HA5.out.below hs)
   refine ⟨_, rfl, ?_⟩
   refine hK.out _ _ (mv14 hs hHeld) (fun hHeld => ?_)
   clear hK K
   refine n_ ?_
   refine p_ 19 (some 115) ?_
   refine p_ 20 (some 116) ?_
   refine p_ 21 (some 117) ?_
   refine p_ 22 (some 118) ?_
   refine t_ 23 (some 119) hHeld ?_
   refine e_ 24 (some 120) (fun K hK => ?_)
   refine goes_ Try.func45 (by kernel_rfl) rfl #[.int .i64 j, .int .i64 a2] (by rfl) rfl rfl (by simp only [List.map_toArray, List.map_cons, List.map_nil]; rfl) ?_
   with_reducible refine (H45j.out _).mono ?_
   rintro e Wj ⟨rfl, hs⟩
   replace HA5 := Lib.hid (HA5.out.below hs)
   refine ⟨_, rfl, ?_⟩
   refine hK.out _ _ (mv14 hs hHeld) (fun hHeld => ?_)
   clear hK K
   refine n_ ?_
   refine p_ 25 (some 121) ?_
   refine p_ 26 (some 122) ?_
   refine p_ 27 (some 123) ?_
   refine p_ 28 (some 124) ?_
   refine t_ 29 (some 125) hHeld ?_
   refine e_ 30 (some 126) (fun K hK => ?_)
   refine goes_ Try.func45 (by kernel_rfl) rfl #[.int .i64 R, .int .i64 a2] (by rfl) rfl rfl (by simp only [List.map_toArray, List.map_cons, List.map_nil]; rfl) ?_
   with_reducible refine (H45R.out _).mono ?_
   rintro e WR ⟨rfl, hs⟩
   replace HA5 := Lib.hid (HA5.out.below hs)
   refine ⟨_, rfl, ?_⟩
   refine hK.out _ _ (mv14 hs hHeld) (fun hHeld => ?_)
   clear hK K
   refine n_ ?_
   refine p_ 31 (some 127) ?_
   refine p_ 32 (some 128) ?_
   refine p_ 33 (some 129) ?_
   refine p_ 34 (some 130) ?_
   refine t_ 35 (some 131) hHeld ?_
   refine e_ 36 (some 132) (fun K hK => ?_)
   refine goes_ Try.func45 (by kernel_rfl) rfl #[.int .i64 F, .int .i64 a2] (by rfl) rfl rfl (by simp only [List.map_toArray, List.map_cons, List.map_nil]; rfl) ?_
   with_reducible refine (H45F.out _).mono ?_
   rintro e WF ⟨rfl, hs⟩
   replace HA5 := Lib.hid (HA5.out.below hs)
   refine ⟨_, rfl, ?_⟩
   refine hK.out _ _ (mv14 hs hHeld) (fun hHeld => ?_)
   clear hK K
   refine n_ ?_
   refine p_ 37 (some 133) ?_
   refine done_ (by kernel_rfl) ?_
   cases f4 with
   | false =>
    go_wp2
    go_roundw
    case rel => exact ⟨2, b, by go_num, by omega, rfl, Lib.hid (by rw [HAT.out, HB.out]; simp), HA5⟩
    case measure => simp [intOf]
   | true =>
    go_wp2
    go_roundw
    case rel => exact ⟨2, true, by go_num, by omega, rfl, Lib.hid (by rw [HAT.out]; simp [c1, c2]), HA5⟩
    case measure => simp [intOf]
 obtain rfl : i = X := by omega
 have hcx := C_take (m := 1) (Kd.C_below HL.out HA.out.low) (by omega)
 have hl1 : l.take 1 = [x] := by
  have e := HXE.out
  cases l with
  | nil => simp at hl0
  | cons y r => simp [rd_T82] at e; subst e; rfl
 rw [hl1] at hcx
 have hok1 : PlOk i Y a2 ([x].map toW) := ⟨HOK.out.wid, HOK.out.lng, HOK.out.saw, by simp, fun z hz => by simp at hz; subst hz; exact HWX.out⟩
 have hlaw := alone_law hok1 (x := toW x) hw0
 have h42 := fun w h => worth_calls i Y a2 (some ad) c [x] w h hok1
 have hpl := place_iff (m := i) (a1 := Y) (saw := a2) HWX.out
 rw [← HB.out] at hpl
 obtain ⟨wo, hwo⟩ : ∃ wo, (worthP i Y a2 ([x].map toW)).worth = wo := ⟨_, rfl⟩
 have hlaw' : (b = true → wo = x.f3) ∧ (b = false → wo = 0) := by
  rw [← hwo]
  exact ⟨fun h => hlaw.1 (hpl.1 h), fun h => hlaw.2 (fun hh => by rw [hpl.2 hh] at h; cases h)⟩
 rw [hwo] at h42
 generalize (worthP i Y a2 ([x].map toW)).cuts = ku at h42
 have H42 := Lib.hid h42
 have HCX := Lib.hid hcx
 have hk_ := c4 HA.out.b3
 have hlenN : 0 < l.length := by omega
 clear h42 hcx hl1 hok1 hlaw hpl hwo HB
 cases b with
 | true =>
  obtain rfl := hlaw'.1 rfl
  have hb9 : (x.f3 == x.f3) = true := by simp
  clear hlaw'
  go_wp2_with (first | (go_at_call 42; refine (H42.out _ HCX.out).mono ?_; rintro e X1 ⟨rfl, hs⟩; have HA := Lib.hid (HA.out.below hs); have hz3 : X1.cell? ⟨w.heap.size, 3, none⟩ = some (.slice (some ad) l.length c) := (blk_cell HA.out.b0 3).trans rfl; obtain ⟨ad9, e9, hx0, hx1, hx2, hx3, hx4, hx5, hx6, hx7⟩ := at_T82 (Kd.C_below HL.out HA.out.low) 0 (Int.le_refl _) HLN.out; cases e9; rw [HXE.out] at hx3; simp only [Int.toNat_zero, Nat.zero_mul, add0_] at hx3; clear hx0 hx1 hx2 hx4 hx5 hx6 hx7) | (go_at_call 25; refine (wakes_calls _).mono ?_; rintro e V9 ⟨rfl, hs⟩; have HA := Lib.hid (HA.out.below hs)))
  go_ret
  exact ⟨rfl, HA.out.low⟩
 | false =>
  obtain rfl := hlaw'.2 rfl
  have hb9 : ((0 : Int) == x.f3) = false := by rw [beq_eq_false_iff_ne]; omega
  clear hlaw'
  go_wp2_with (first | (go_at_call 42; refine (H42.out _ HCX.out).mono ?_; rintro e X1 ⟨rfl, hs⟩; have HA := Lib.hid (HA.out.below hs); have hz3 : X1.cell? ⟨w.heap.size, 3, none⟩ = some (.slice (some ad) l.length c) := (blk_cell HA.out.b0 3).trans rfl; obtain ⟨ad9, e9, hx0, hx1, hx2, hx3, hx4, hx5, hx6, hx7⟩ := at_T82 (Kd.C_below HL.out HA.out.low) 0 (Int.le_refl _) HLN.out; cases e9; rw [HXE.out] at hx3; simp only [Int.toNat_zero, Nat.zero_mul, add0_] at hx3; clear hx0 hx1 hx2 hx4 hx5 hx6 hx7) | (go_at_call 25; refine (wakes_calls _).mono ?_; rintro e V9 ⟨rfl, hs⟩; have HA := Lib.hid (HA.out.below hs)))
  go_ret
  exact ⟨rfl, HA.out.low⟩
end Go.Proofs.Ytffjbaknglemdaa.X
