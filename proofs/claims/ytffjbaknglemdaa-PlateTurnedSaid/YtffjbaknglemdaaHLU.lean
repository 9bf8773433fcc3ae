import Derived.Test.YtffjbaknglemdaaHL6
namespace Go.Proofs.Ytffjbaknglemdaa.X
open Go.RowKit Go.Maps Go.Proofs.YtffjbaknglemdaaW.PrintWords Go.Proofs.YtffjbaknglemdaaW.PrintLast Go.Proofs.YtffjbaknglemdaaW.PrintMore
set_option linter.unusedSimpArgs false
set_option linter.unusedVariables false

/-! ### plates turned -/
theorem fitsB_eq (x : S115) (p : S103) : fitsB x p = fitsR x.f0 x.f1 x.f2 x.f4.f0 x.f4.f1 x.f5.f0 x.f5.f1 p.f0 p.f1 p.f2 p.f3 := fits_ref ⟨x.f0, x.f1, x.f2, x.f3, ⟨x.f4.f0, x.f4.f1⟩, ⟨x.f5.f0, x.f5.f1⟩⟩ ⟨p.f0, p.f1, p.f2, p.f3⟩
def Size (x : S115) (p : S103) : Prop := (p.f2 = x.f0 ∧ p.f3 = x.f1) ∨ (x.f2 = true ∧ p.f2 = x.f1 ∧ p.f3 = x.f0)
theorem fitsB_iff (x : S115) {p : S103} (hp : In8 p) : fitsB x p = true ↔ Size x p ∧ x.f4.f0 ≤ p.f0 ∧ p.f0 + p.f2 - 1 ≤ x.f4.f1 ∧ x.f5.f0 ≤ p.f1 ∧ p.f1 + p.f3 - 1 ≤ x.f5.f1 := by
  obtain ⟨x0, y0, w0, l0, x1, y1⟩ := hp
  rw [fitsB_eq]
  unfold fitsR Size
  rw [w64 (z := p.f0 + p.f2) (by omega) (by omega), w64 (z := p.f1 + p.f3) (by omega) (by omega), w64 (z := p.f0 + p.f2 - 1) (by omega) (by omega), w64 (z := p.f1 + p.f3 - 1) (by omega) (by omega)]
  simp only [Bool.and_eq_true, Bool.or_eq_true, beq_iff_eq, decide_eq_true_eq]
def swapW (x : S115) : S115 := ⟨x.f1, x.f0, x.f2, x.f3, x.f5, x.f4⟩
def swapP (p : S103) : S103 := ⟨p.f1, p.f0, p.f3, p.f2⟩
theorem parts_swap (ac : Bool) (p : S103) (at_ saw : Int) : partsN (!ac) (swapP p) at_ saw = (partsN ac p at_ saw).map swapP := by
  unfold partsN far part_ swapP
  cases ac
  · simp only [Bool.not_false, if_true, Bool.false_eq_true, if_false]
    split
    · rfl
    · rw [List.map_append]; congr 1 <;> split <;> rfl
  · simp only [Bool.not_true, if_true, Bool.false_eq_true, if_false]
    split
    · rfl
    · rw [List.map_append]; congr 1 <;> split <;> rfl
theorem in8_swap {p : S103} (h : In8 p) : In8 (swapP p) := ⟨h.y0, h.x0, h.l0, h.w0, h.y1, h.x1⟩
theorem fits_swap {x : S115} {p : S103} (hp : In8 p) (h : fitsB x p = true) : fitsB (swapW x) (swapP p) = true := by
  rw [fitsB_iff _ (in8_swap hp)]
  obtain ⟨hs, h1, h2, h3, h4⟩ := (fitsB_iff x hp).1 h
  refine ⟨?_, h3, h4, h1, h2⟩
  unfold Size at *
  unfold swapW swapP
  rcases hs with hs | hs
  · exact .inl ⟨hs.2, hs.1⟩
  · exact .inr ⟨hs.1, hs.2.2, hs.2.1⟩
theorem lok_map {l : List S115} (h : LOk l) (f : S115 → S115) (hf : ∀ x, (f x).f3 = x.f3) : LOk (l.map f) := ⟨by rw [List.length_map]; exact h.len, fun x hx => by
  obtain ⟨y, hy, rfl⟩ := List.mem_map.1 hx
  rw [hf]; exact h.worth y hy⟩
theorem swap_ge {l : List S115} (hl : LOk l) {saw : Int} (hs : 0 ≤ saw ∧ saw ≤ 2) {p : S103} (hp : In8 p) (w : W4) : Ge (bestP (l.map swapW) saw (swapP p) w).worth (bestP (l.map swapW) saw (swapP p) w).cuts (bestP l saw p w).worth (bestP l saw p w).cuts := by
  refine best_of_map hl hs (lok_map hl swapW (fun _ => rfl)) hs hp (in8_swap hp) (fun g k ht => ?_)
  refine Tr.map In8 swapP id (fun p ac at_ h8 q hq => (partsN_in8 h8 hs q hq).1) (fun p ac at_ a _ e => ⟨!ac, at_, by rw [parts_swap, e]; rfl⟩) (fun p ac at_ a b _ e => ⟨!ac, at_, .inl (by rw [parts_swap, e]; rfl)⟩) (fun u w h => h) (fun u w => rfl) ?_ ht hp
  intro i x p w e1 e2 h8 e3
  exact ⟨i, swapW x, by rw [List.getElem?_map, e1]; rfl, e2, Int.le_refl _, fits_swap h8 e3⟩
theorem swap_swap (l : List S115) : (l.map swapW).map swapW = l := by rw [List.map_map]; exact List.map_id'' (fun _ => rfl) l
theorem swap_ok {a0 a1 a2 : Int} {l : List S115} (h : PlOk a0 a1 a2 l) : PlOk a1 a0 a2 (l.map swapW) := ⟨h.lng, h.wid, h.saw, by rw [List.length_map]; exact h.len, fun x hx => by
  obtain ⟨y, hy, rfl⟩ := List.mem_map.1 hx
  have := h.all y hy
  exact ⟨this.lng, this.wid, this.worth, this.yz, this.xz⟩⟩
theorem swap_law {a0 a1 a2 : Int} {l : List S115} (h : PlOk a0 a1 a2 l) : (worthP a1 a0 a2 (l.map swapW)).worth = (worthP a0 a1 a2 l).worth ∧ (worthP a1 a0 a2 (l.map swapW)).cuts = (worthP a0 a1 a2 l).cuts := by
  unfold worthP
  rw [List.length_map]
  have h1 := swap_ge h.lok h.saw h.in8 (wholeW l.length)
  have h2 := swap_ge (swap_ok h).lok h.saw (in8_swap h.in8) (wholeW l.length)
  rw [swap_swap] at h2
  exact Ge.antisymm h1 h2
/-! turned over -/
def reflW (W : Int) (x : S115) : S115 := ⟨x.f0, x.f1, x.f2, x.f3, ⟨max 0 (W - 1 - x.f4.f1), max 0 (W - 1 - x.f4.f0)⟩, x.f5⟩
def reflP (W : Int) (p : S103) : S103 := ⟨W - p.f0 - p.f2, p.f1, p.f2, p.f3⟩
theorem parts_refl_ac (W : Int) (p : S103) (at_ saw : Int) : partsN true (reflP W p) at_ saw = (partsN true p at_ saw).map (reflP W) := by
  unfold partsN far part_ reflP
  simp only [if_true]
  split
  · rfl
  · rw [List.map_append]; congr 1 <;> split <;> rfl
theorem parts_refl (W : Int) (p : S103) (at_ saw : Int) : partsN false (reflP W p) (p.f2 - at_ - saw) saw = ((partsN false p at_ saw).map (reflP W)).reverse := by
  unfold partsN far part_ reflP
  simp only [Bool.false_eq_true, if_false]
  by_cases hb : at_ < 0 ∨ p.f2 - at_ - saw < 0 ∨ (saw = 0 ∧ (at_ = 0 ∨ p.f2 - at_ - saw = 0))
  · rw [if_pos hb, if_pos (by omega)]; rfl
  · rw [if_neg hb, if_neg (by omega)]
    have e1 : p.f2 - (p.f2 - at_ - saw) - saw = at_ := by omega
    rw [e1]
    by_cases h1 : 0 < at_ <;> by_cases h2 : 0 < p.f2 - at_ - saw
    · rw [if_pos h1, if_pos h1, if_pos h2, if_pos h2]
      simp only [List.map_append, List.map_cons, List.map_nil, List.reverse_append, List.reverse_cons, List.reverse_nil, List.nil_append, List.cons_append, List.cons.injEq, S103.mk.injEq, and_true, true_and]
      omega
    · rw [if_pos h1, if_pos h1, if_neg h2, if_neg h2]
      simp only [List.map_append, List.map_cons, List.map_nil, List.reverse_append, List.reverse_cons, List.reverse_nil, List.nil_append, List.append_nil, List.cons_append, List.cons.injEq, S103.mk.injEq, and_true, true_and]
      omega
    · rw [if_neg h1, if_neg h1, if_pos h2, if_pos h2]
      simp only [List.map_append, List.map_cons, List.map_nil, List.reverse_append, List.reverse_cons, List.reverse_nil, List.nil_append, List.append_nil, List.cons_append, List.cons.injEq, S103.mk.injEq, and_true, true_and]
      omega
    · rw [if_neg h1, if_neg h1, if_neg h2, if_neg h2]; rfl
def IW (a0 a1 : Int) (p : S103) : Prop := In8 p ∧ In a0 a1 p
theorem refl_in8 {a0 a1 : Int} (h0 : 1 ≤ a0 ∧ a0 ≤ 8) {p : S103} (h : IW a0 a1 p) : In8 (reflP a0 p) := by
  obtain ⟨⟨x0, y0, w0, l0, x1, y1⟩, ⟨i0, i1, i2, i3, i4, i5⟩⟩ := h
  exact ⟨by simp only [reflP]; omega, y0, w0, l0, by simp only [reflP]; omega, y1⟩
theorem refl_map {a0 a1 : Int} (h0 : 1 ≤ a0 ∧ a0 ≤ 8) {l l' : List S115} {saw : Int} (hs : 0 ≤ saw ∧ saw ≤ 2)
    (hu : ∀ (i : Nat) (x : S115) (p : S103), l[i]? = some x → IW a0 a1 p → fitsB x p = true → ∃ x', l'[i]? = some x' ∧ x.f3 ≤ x'.f3 ∧ fitsB x' (reflP a0 p) = true)
    {p : S103} {w : W4} {g k : Int} (h : Tr l saw p w g k) (hp : IW a0 a1 p) : ∃ g', g ≤ g' ∧ Tr l' saw (reflP a0 p) w g' k := by
  refine Tr.map (IW a0 a1) (reflP a0) id (fun p ac at_ hi q hq => ⟨(partsN_in8 hi.1 hs q hq).1, (parts_in hi.1 hi.2 hs q hq).1⟩) (fun p ac at_ a _ e => ?_) (fun p ac at_ a b _ e => ?_) (fun u w h => h) (fun u w => rfl) ?_ h hp
  · cases ac with
    | true => exact ⟨true, at_, by rw [parts_refl_ac, e]; rfl⟩
    | false => exact ⟨false, p.f2 - at_ - saw, by rw [parts_refl, e]; rfl⟩
  · cases ac with
    | true => exact ⟨true, at_, .inl (by rw [parts_refl_ac, e]; rfl)⟩
    | false => exact ⟨false, p.f2 - at_ - saw, .inr (by rw [parts_refl, e]; rfl)⟩
  · intro i x q w e1 e2 hi e3
    obtain ⟨x', f1, f2, f3⟩ := hu i x q e1 hi e3
    exact ⟨i, x', f1, e2, f2, f3⟩
theorem fits_refl {a0 a1 : Int} (h0 : 1 ≤ a0 ∧ a0 ≤ 8) {x : S115} {p : S103} (hi : IW a0 a1 p) (h : fitsB x p = true) : fitsB (reflW a0 x) (reflP a0 p) = true := by
  rw [fitsB_iff _ (refl_in8 h0 hi)]
  obtain ⟨hs, h1, h2, h3, h4⟩ := (fitsB_iff x hi.1).1 h
  obtain ⟨-, ⟨i0, i1, i2, i3, i4, i5⟩⟩ := hi
  refine ⟨hs, ?_, ?_, h3, h4⟩ <;> simp only [reflW, reflP] <;> omega
theorem fits_refl_back {a0 a1 : Int} (h0 : 1 ≤ a0 ∧ a0 ≤ 8) {x : S115} {p : S103} (hi : IW a0 a1 p) (ho : x.f4.f0 ≤ a0 - 1) (h : fitsB (reflW a0 x) p = true) : fitsB x (reflP a0 p) = true := by
  rw [fitsB_iff _ (refl_in8 h0 hi)]
  obtain ⟨hs, h1, h2, h3, h4⟩ := (fitsB_iff _ hi.1).1 h
  obtain ⟨-, ⟨i0, i1, i2, i3, i4, i5⟩⟩ := hi
  simp only [reflW] at h1 h2
  refine ⟨hs, ?_, ?_, h3, h4⟩ <;> simp only [reflP] <;> omega
theorem refl_ok {a0 a1 a2 : Int} {l : List S115} (h : PlOk a0 a1 a2 l) : PlOk a0 a1 a2 (l.map (reflW a0)) := ⟨h.wid, h.lng, h.saw, by rw [List.length_map]; exact h.len, fun x hx => by
  obtain ⟨y, hy, rfl⟩ := List.mem_map.1 hx
  have t := h.all y hy
  have hz := t.xz
  have hw := h.wid
  exact ⟨t.wid, t.lng, t.worth, by simp only [reflW]; omega, t.yz⟩⟩
theorem reflP_p0 (a0 a1 : Int) : reflP a0 (p0 a0 a1) = p0 a0 a1 := by simp only [reflP, p0, S103.mk.injEq, and_true]; omega
theorem refl_law {a0 a1 a2 : Int} {l : List S115} (h : PlOk a0 a1 a2 l) (ho : ∀ x ∈ l, x.f4.f0 ≤ a0 - 1) : (worthP a0 a1 a2 (l.map (reflW a0))).worth = (worthP a0 a1 a2 l).worth ∧ (worthP a0 a1 a2 (l.map (reflW a0))).cuts = (worthP a0 a1 a2 l).cuts := by
  unfold worthP
  rw [List.length_map]
  have hi : IW a0 a1 (p0 a0 a1) := ⟨h.in8, by simp [p0], by simp [p0], h.wid.1, h.lng.1, by simp [p0], by simp [p0]⟩
  have h1 := best_of_map h.lok h.saw (refl_ok h).lok h.saw h.in8 (p' := p0 a0 a1) (w := wholeW l.length) (w' := wholeW l.length) h.in8 (fun g k ht => by
    have := refl_map (l' := l.map (reflW a0)) h.wid h.saw (fun i x p e1 hp e3 => ⟨reflW a0 x, by rw [List.getElem?_map, e1]; rfl, Int.le_refl _, fits_refl h.wid hp e3⟩) ht hi
    rw [reflP_p0] at this; exact this)
  have h2 := best_of_map (refl_ok h).lok h.saw h.lok h.saw h.in8 (p' := p0 a0 a1) (w := wholeW l.length) (w' := wholeW l.length) h.in8 (fun g k ht => by
    have := refl_map (l' := l) h.wid h.saw (fun i x p e1 hp e3 => by
      rw [List.getElem?_map] at e1
      obtain ⟨y, e, rfl⟩ := Option.map_eq_some_iff.1 e1
      exact ⟨y, e, Int.le_refl _, fits_refl_back h.wid hp (ho y (List.mem_of_getElem? e)) e3⟩) ht hi
    rw [reflP_p0] at this; exact this)
  exact Ge.antisymm h1 h2

/-! ### PlateTurned 8 -/
theorem light_ok {a0 a1 a2 : Int} {l : List S82} (h : lightR a0 a1 a2 l = true) : PlOk a0 a1 a2 (l.map toW) := by
  unfold lightR readyR at h
  simp only [Bool.and_eq_true, beq_iff_eq] at h
  exact fault_ok h.1.2
theorem mx2_int (k k' : IntKind) (x y : Int) : Builtin.max2 (.int k x) (.int k' y) = pure (.int k (if x < y then y else x)) := by simp only [Builtin.max2, gt_iff_lt]
theorem mx_two (ats : Array TypeId) (ty : TypeId) (a b : Value) : Builtin.max_ ats ty #[a, b] = (Builtin.max2 a b >>= fun s => pure s) := by simp only [Builtin.max_, List.foldlM_cons, List.foldlM_nil]
attribute [local go_sem] mx2_int mx_two
def swapS (x : S82) : S82 := ⟨x.f1, x.f0, x.f2, x.f3, x.f5, x.f4⟩
def reflS (W : Int) (x : S82) : S82 := ⟨x.f0, x.f1, x.f2, x.f3, ⟨max 0 (W - 1 - x.f4.f1), max 0 (W - 1 - x.f4.f0)⟩, x.f5⟩
theorem swapS_W (l : List S82) : (l.map swapS).map toW = (l.map toW).map swapW := by rw [List.map_map, List.map_map]; rfl
theorem reflS_W (W : Int) (l : List S82) : (l.map (reflS W)).map toW = (l.map toW).map (reflW W) := by rw [List.map_map, List.map_map]; rfl
def overB (a0 : Int) (x : S82) : Bool := decide (x.f4.f0 ≤ a0 - 1)
structure TuI (w : World) (a0 a1 a2 : Int) (sv : Value) (g3 g4 : Nat) (u3 u4 : Value) (j3 j4 : Nat) (x3 x4 : List S82) (wr : World) : Prop where
  b0 : wr.heap[w.heap.size]? = some (.cells #[.int .i64 a0, .int .i64 a1, .int .i64 a2, sv] 24 (0, 0))
  b3 : wr.heap[g3]? = some (.cells #[.int .i64 a1, .int .i64 a0, .int .i64 a2, u3] 24 (0, 0))
  b4 : wr.heap[g4]? = some (.cells #[.int .i64 a0, .int .i64 a1, .int .i64 a2, u4] 24 (0, 0))
  o3 : wr.ownsRow w.heap.size 82 8 u3 j3 (x3.flatMap c82)
  o4 : wr.ownsRow w.heap.size 82 8 u4 j4 (x4.flatMap c82)
  ne : NeRow u3 u4
  low : Below w.heap.size w wr
theorem TuI.below {w wr W : World} {a0 a1 a2 : Int} {sv u3 u4 : Value} {g3 g4 j3 j4 : Nat} {x3 x4 : List S82} (h : TuI w a0 a1 a2 sv g3 g4 u3 u4 j3 j4 x3 x4 wr) (hb : Below wr.heap.size wr W) : TuI w a0 a1 a2 sv g3 g4 u3 u4 j3 j4 x3 x4 W :=
  ⟨blk_below h.b0 hb, blk_below h.b3 hb, blk_below h.b4 hb, pw_own_below h.o3 hb, pw_own_below h.o4 hb, h.ne, below_step h.low hb⟩
theorem TuI.put {w W : World} {a0 a1 a2 : Int} {sv u3 u4 : Value} {g3 g4 j3 j4 : Nat} {x3 x4 : List S82} (h : TuI w a0 a1 a2 sv g3 g4 u3 u4 j3 j4 x3 x4 W) {b : Nat} (h0 : w.heap.size < b) (h3 : g3 ≠ b) (h4 : g4 ≠ b) (n3 : some b ≠ u3.ownBlock) (n4 : some b ≠ u4.ownBlock) (i : Nat) (v : Value) : TuI w a0 a1 a2 sv g3 g4 u3 u4 j3 j4 x3 x4 (W.setCell ⟨b, i, none⟩ v) :=
  ⟨blk_far h.b0 (by dsimp only; omega) _, blk_far h.b3 h3 _, blk_far h.b4 h4 _, own_setCell h.o3 n3 _, own_setCell h.o4 n4 _, h.ne, below_set h.low (Nat.le_of_lt h0)⟩
set_option maxRecDepth 100000 in
set_option maxHeartbeats 4000000 in
theorem plateTurned_calls (a0 a1 a2 : Int) (A : Option Addr) (c : Nat) (l : List S82) (w : World) (hl : Kd.C k82 w A l.length l) (hlc : l.length ≤ c) :
    Calls Try.prog 8 #[.agg #[.int .i64 a0, .int .i64 a1, .int .i64 a2, .slice A l.length c]] w fun e w' => e = .returned (.bool true) ∧ Below w.heap.size w w' := by
  have HL := Lib.hid hl
  have HI : Hid (LI w a0 a1 a2 (.slice A l.length c) (w.alloc (.cells #[.int .i64 a0, .int .i64 a1, .int .i64 a2, .slice A l.length c] 24))) := Lib.hid ⟨alloc_at rfl, below_alloc (Below.refl _ _) _⟩
  have h41 := fun w h => light_calls a0 a1 a2 A c l w h hlc
  clear hl
  cases hli : lightR a0 a1 a2 l with
  | false =>
    rw [hli] at h41
    have H41 := Lib.hid h41
    clear h41 hli
    go_enter Try.func8, Try.ntmps8
    go_wp2_with (first | (go_at_call 41; refine (H41.out _ (Kd.C_below HL.out HI.out.low)).mono ?_; rintro e V1 ⟨rfl, hs⟩; have HI := Lib.hid (HI.out.below hs); have hz0 : V1.cell? ⟨w.heap.size, 0, none⟩ = some (.int .i64 a0) := (blk_cell HI.out.b0 0).trans rfl; have hz1 : V1.cell? ⟨w.heap.size, 1, none⟩ = some (.int .i64 a1) := (blk_cell HI.out.b0 1).trans rfl; have hz2 : V1.cell? ⟨w.heap.size, 2, none⟩ = some (.int .i64 a2) := (blk_cell HI.out.b0 2).trans rfl; have hz3 : V1.cell? ⟨w.heap.size, 3, none⟩ = some (.slice A l.length c) := (blk_cell HI.out.b0 3).trans rfl) | (go_at_call 25; refine (wakes_calls _).mono ?_; rintro e V9 ⟨rfl, hs⟩; have HI := Lib.hid (HI.out.below hs)))
    go_ret
    exact ⟨rfl, HI.out.low⟩
  | true =>
  rw [hli] at h41
  have H41 := Lib.hid h41
  have ho := light_ok hli
  have hl4 : l.length ≤ 4 := by have := ho.len; simpa using this
  have HOK := Lib.hid ho
  clear h41 hli ho
  go_enter Try.func8, Try.ntmps8
  go_wp2_with (first | (go_at_call 41; refine (H41.out _ (Kd.C_below HL.out HI.out.low)).mono ?_; rintro e V1 ⟨rfl, hs⟩; have HI := Lib.hid (HI.out.below hs); have hz0 : V1.cell? ⟨w.heap.size, 0, none⟩ = some (.int .i64 a0) := (blk_cell HI.out.b0 0).trans rfl; have hz1 : V1.cell? ⟨w.heap.size, 1, none⟩ = some (.int .i64 a1) := (blk_cell HI.out.b0 1).trans rfl; have hz2 : V1.cell? ⟨w.heap.size, 2, none⟩ = some (.int .i64 a2) := (blk_cell HI.out.b0 2).trans rfl; have hz3 : V1.cell? ⟨w.heap.size, 3, none⟩ = some (.slice A l.length c) := (blk_cell HI.out.b0 3).trans rfl))
  replace HI := Lib.hid (HI.out.below (below_drew1 (Below.refl _ _)))
  clear hz0 hz1 hz2 hz3
  refine start_ (n := 18) (S := fun w' => w'.cell? ⟨w.heap.size, 0, none⟩ = some (.int .i64 a0) ∧ w'.cell? ⟨w.heap.size, 1, none⟩ = some (.int .i64 a1) ∧ w'.cell? ⟨w.heap.size, 2, none⟩ = some (.int .i64 a2)) (ds := []) #[false, false, false, false, false, false, false, false, false, false, false, false, false, false, false, false, false, false] (by kernel_rfl) rfl rfl ⟨((blk_cell HI.out.b0 0).trans rfl), ((blk_cell HI.out.b0 1).trans rfl), ((blk_cell HI.out.b0 2).trans rfl)⟩ (fun hHeld => ?_)
  refine pure_ (i := 0) (N := some 22) (v := ?_) (a' := ?_) #[true, false, false, false, false, false, false, false, false, false, false, false, false, false, false, false, false, false] rfl rfl (by kernel_rfl) (fun _ _ _ h => h) (Or.inl ⟨by rfl, ?_⟩) ?_ ?_
  rotate_left
  · intro w'
    go_simp
    with_reducible rfl
  rotate_left
  · simp only [Act.put, List.setIfInBounds_toArray, List.set_cons_zero, List.set_cons_succ, i64_w, i32_w]
    rfl
  refine pure_ (i := 2) (N := some 24) (v := ?_) (a' := ?_) #[true, false, true, false, false, false, false, false, false, false, false, false, false, false, false, false, false, false] rfl rfl (by kernel_rfl) (fun _ _ _ h => h) (Or.inl ⟨by rfl, ?_⟩) ?_ ?_
  rotate_left
  · intro w'
    go_simp
    with_reducible rfl
  rotate_left
  · simp only [Act.put, List.setIfInBounds_toArray, List.set_cons_zero, List.set_cons_succ, i64_w, i32_w]
    rfl
  refine pure_ (i := 4) (N := some 26) (v := ?_) (a' := ?_) #[true, false, true, false, true, false, false, false, false, false, false, false, false, false, false, false, false, false] rfl rfl (by kernel_rfl) (fun _ _ _ h => h) (Or.inl ⟨by rfl, ?_⟩) ?_ ?_
  rotate_left
  · intro w'
    go_simp
    with_reducible rfl
  rotate_left
  · simp only [Act.put, List.setIfInBounds_toArray, List.set_cons_zero, List.set_cons_succ, i64_w, i32_w]
    rfl
  refine pure_ (i := 7) (N := some 29) (v := ?_) (a' := ?_) #[true, false, true, false, true, false, false, true, false, false, false, false, false, false, false, false, false, false] rfl rfl (by kernel_rfl) (fun _ _ _ h => h) (Or.inl ⟨by rfl, ?_⟩) ?_ ?_
  rotate_left
  · intro w'
    go_simp
    with_reducible rfl
  rotate_left
  · simp only [Act.put, List.setIfInBounds_toArray, List.set_cons_zero, List.set_cons_succ, i64_w, i32_w]
    rfl
  refine pure_ (i := 9) (N := some 31) (v := ?_) (a' := ?_) #[true, false, true, false, true, false, false, true, false, true, false, false, false, false, false, false, false, false] rfl rfl (by kernel_rfl) (fun _ _ _ h => h) (Or.inl ⟨by rfl, ?_⟩) ?_ ?_
  rotate_left
  · intro w'
    go_simp
    with_reducible rfl
  rotate_left
  · simp only [Act.put, List.setIfInBounds_toArray, List.set_cons_zero, List.set_cons_succ, i64_w, i32_w]
    rfl
  refine pure_ (i := 11) (N := some 33) (v := ?_) (a' := ?_) #[true, false, true, false, true, false, false, true, false, true, false, true, false, false, false, false, false, false] rfl rfl (by kernel_rfl) (fun _ _ _ h => h) (Or.inl ⟨by rfl, ?_⟩) ?_ ?_
  rotate_left
  · intro w'
    go_simp
    with_reducible rfl
  rotate_left
  · simp only [Act.put, List.setIfInBounds_toArray, List.set_cons_zero, List.set_cons_succ, i64_w, i32_w]
    rfl
  refine take_ (i := 1) (N := some 23) (v := ?_) (a' := ?_) #[true, true, true, false, true, false, false, true, false, true, false, true, false, false, false, false, false, false] rfl rfl (by kernel_rfl) (fun _ _ _ h => h) (Or.inl ⟨by rfl, ?_⟩) hHeld ?_ ?_
  rotate_left
  · rintro w' ⟨s0, s1, s2⟩
    go_simp
    with_reducible rfl
  rotate_left
  · simp only [Act.put, List.setIfInBounds_toArray, List.set_cons_zero, List.set_cons_succ, i64_w, i32_w]
    rfl
  refine take_ (i := 3) (N := some 25) (v := ?_) (a' := ?_) #[true, true, true, true, true, false, false, true, false, true, false, true, false, false, false, false, false, false] rfl rfl (by kernel_rfl) (fun _ _ _ h => h) (Or.inl ⟨by rfl, ?_⟩) hHeld ?_ ?_
  rotate_left
  · rintro w' ⟨s0, s1, s2⟩
    go_simp
    with_reducible rfl
  rotate_left
  · simp only [Act.put, List.setIfInBounds_toArray, List.set_cons_zero, List.set_cons_succ, i64_w, i32_w]
    rfl
  refine take_ (i := 5) (N := some 27) (v := ?_) (a' := ?_) #[true, true, true, true, true, true, false, true, false, true, false, true, false, false, false, false, false, false] rfl rfl (by kernel_rfl) (fun _ _ _ h => h) (Or.inl ⟨by rfl, ?_⟩) hHeld ?_ ?_
  rotate_left
  · rintro w' ⟨s0, s1, s2⟩
    go_simp
    with_reducible rfl
  rotate_left
  · simp only [Act.put, List.setIfInBounds_toArray, List.set_cons_zero, List.set_cons_succ, i64_w, i32_w]
    rfl
  refine pure_ (i := 6) (N := some 28) (v := ?_) (a' := ?_) #[true, true, true, true, true, true, true, true, false, true, false, true, false, false, false, false, false, false] rfl rfl (by kernel_rfl) (fun _ _ _ h => h) (Or.inl ⟨by rfl, ?_⟩) ?_ ?_
  rotate_left
  · intro w'
    go_simp
    with_reducible rfl
  rotate_left
  · simp only [Act.put, List.setIfInBounds_toArray, List.set_cons_zero, List.set_cons_succ, i64_w, i32_w]
    rfl
  refine take_ (i := 8) (N := some 30) (v := ?_) (a' := ?_) #[true, true, true, true, true, true, true, true, true, true, false, true, false, false, false, false, false, false] rfl rfl (by kernel_rfl) (fun _ _ _ h => h) (Or.inl ⟨by rfl, ?_⟩) hHeld ?_ ?_
  rotate_left
  · rintro w' ⟨s0, s1, s2⟩
    go_simp
    with_reducible rfl
  rotate_left
  · simp only [Act.put, List.setIfInBounds_toArray, List.set_cons_zero, List.set_cons_succ, i64_w, i32_w]
    rfl
  refine take_ (i := 10) (N := some 32) (v := ?_) (a' := ?_) #[true, true, true, true, true, true, true, true, true, true, true, true, false, false, false, false, false, false] rfl rfl (by kernel_rfl) (fun _ _ _ h => h) (Or.inl ⟨by rfl, ?_⟩) hHeld ?_ ?_
  rotate_left
  · rintro w' ⟨s0, s1, s2⟩
    go_simp
    with_reducible rfl
  rotate_left
  · simp only [Act.put, List.setIfInBounds_toArray, List.set_cons_zero, List.set_cons_succ, i64_w, i32_w]
    rfl
  refine take_ (i := 12) (N := some 34) (v := ?_) (a' := ?_) #[true, true, true, true, true, true, true, true, true, true, true, true, true, false, false, false, false, false] rfl rfl (by kernel_rfl) (fun _ _ _ h => h) (Or.inl ⟨by rfl, ?_⟩) hHeld ?_ ?_
  rotate_left
  · rintro w' ⟨s0, s1, s2⟩
    go_simp
    with_reducible rfl
  rotate_left
  · simp only [Act.put, List.setIfInBounds_toArray, List.set_cons_zero, List.set_cons_succ, i64_w, i32_w]
    rfl
  refine pure_ (i := 13) (N := some 35) (v := ?_) (a' := ?_) #[true, true, true, true, true, true, true, true, true, true, true, true, true, true, false, false, false, false] rfl rfl (by kernel_rfl) (fun _ _ _ h => h) (Or.inl ⟨by rfl, ?_⟩) ?_ ?_
  rotate_left
  · intro w'
    go_simp
    with_reducible rfl
  rotate_left
  · simp only [Act.put, List.setIfInBounds_toArray, List.set_cons_zero, List.set_cons_succ, i64_w, i32_w]
    rfl
  refine join_ (σ := Nat × Nat) 2 #[true, true, true, true, true, true, true, true, true, true, true, true, true, true, true, true, false, false] (fun s => [(3, .pointer (some ⟨s.1, 0, none⟩)), (4, .pointer (some ⟨s.2, 0, none⟩))]) (fun s w' => Hid (LI w a0 a1 a2 (.slice A l.length c) w') ∧ w'.heap[s.1]? = some (.cells #[.int .i64 0, .int .i64 0, .int .i64 0, .slice none 0 0] 24 (0, 0)) ∧ w'.heap[s.2]? = some (.cells #[.int .i64 0, .int .i64 0, .int .i64 0, .slice none 0 0] 24 (0, 0)) ∧ w.heap.size < s.1 ∧ w.heap.size < s.2 ∧ s.1 ≠ s.2) ?_ ?_
  rotate_left
  · intro hCont
    refine two_ (i := 14) (j := 15) (Ni := some 3) (Nj := some 4) #[true, true, true, true, true, true, true, true, true, true, true, true, true, true, true, false, false, false] #[true, true, true, true, true, true, true, true, true, true, true, true, true, true, false, true, false, false] rfl rfl rfl rfl (by kernel_rfl) (by decide) (by decide) (fun K hK => ?_) (fun K hK => ?_)
    · skip
      refine pbox_ (.cells #[.int .i64 0, .int .i64 0, .int .i64 0, .slice none 0 0] 24 (0, 0)) (by rfl) rfl ?_ ?_
      · first | (go_simp; done) | (go_simp; rfl)
      intro g3 V2 hg3 hm3 hs
      have hl3 := Nat.lt_of_lt_of_le (blk_lt HI.out.b0) hm3
      replace HI := Lib.hid (HI.out.below hs)
      clear hs hm3
      refine hK.out _ _ ⟨((blk_cell HI.out.b0 0).trans rfl), ((blk_cell HI.out.b0 1).trans rfl), ((blk_cell HI.out.b0 2).trans rfl)⟩ (fun hHeld => ?_)
      clear hK K
      refine norm_ (a' := ?_) ?_ ?_
      rotate_left
      · show Act.put _ (some 3) _ = _
        simp only [Act.put, List.setIfInBounds_toArray, List.set_cons_zero, List.set_cons_succ, i64_w, i32_w]
        rfl
      refine one_ (i := 15) (N := some 4) #[true, true, true, true, true, true, true, true, true, true, true, true, true, true, true, true, false, false] rfl rfl (by kernel_rfl) (by decide) (fun K hK => ?_)
      refine pbox_ (.cells #[.int .i64 0, .int .i64 0, .int .i64 0, .slice none 0 0] 24 (0, 0)) (by rfl) rfl ?_ ?_
      · first | (go_simp; done) | (go_simp; rfl)
      intro g4 V3 hg4 hm4 hs
      have hl4 := Nat.lt_of_lt_of_le (blk_lt HI.out.b0) hm4
      have hne : g3 ≠ g4 := fun e => by have := blk_lt hg3; omega
      replace hg3 := blk_below hg3 hs
      replace HI := Lib.hid (HI.out.below hs)
      clear hs hm4
      refine hK.out _ _ ⟨((blk_cell HI.out.b0 0).trans rfl), ((blk_cell HI.out.b0 1).trans rfl), ((blk_cell HI.out.b0 2).trans rfl)⟩ (fun hHeld => ?_)
      clear hK K
      refine norm_ (a' := ?_) ?_ ?_
      rotate_left
      · show Act.put _ (some 4) _ = _
        simp only [Act.put, List.setIfInBounds_toArray, List.set_cons_zero, List.set_cons_succ, i64_w, i32_w]
        rfl
      exact norm_ (by simp only [putAll, Act.put, List.setIfInBounds_toArray, List.set_cons_zero, List.set_cons_succ]) (hCont (g3, g4) _ ⟨HI, hg3, hg4, hl3, hl4, hne⟩)
    · skip
      refine pbox_ (.cells #[.int .i64 0, .int .i64 0, .int .i64 0, .slice none 0 0] 24 (0, 0)) (by rfl) rfl ?_ ?_
      · first | (go_simp; done) | (go_simp; rfl)
      intro g4 V2 hg4 hm4 hs
      have hl4 := Nat.lt_of_lt_of_le (blk_lt HI.out.b0) hm4
      replace HI := Lib.hid (HI.out.below hs)
      clear hs hm4
      refine hK.out _ _ ⟨((blk_cell HI.out.b0 0).trans rfl), ((blk_cell HI.out.b0 1).trans rfl), ((blk_cell HI.out.b0 2).trans rfl)⟩ (fun hHeld => ?_)
      clear hK K
      refine norm_ (a' := ?_) ?_ ?_
      rotate_left
      · show Act.put _ (some 4) _ = _
        simp only [Act.put, List.setIfInBounds_toArray, List.set_cons_zero, List.set_cons_succ, i64_w, i32_w]
        rfl
      refine one_ (i := 14) (N := some 3) #[true, true, true, true, true, true, true, true, true, true, true, true, true, true, true, true, false, false] rfl rfl (by kernel_rfl) (by decide) (fun K hK => ?_)
      refine pbox_ (.cells #[.int .i64 0, .int .i64 0, .int .i64 0, .slice none 0 0] 24 (0, 0)) (by rfl) rfl ?_ ?_
      · first | (go_simp; done) | (go_simp; rfl)
      intro g3 V3 hg3 hm3 hs
      have hl3 := Nat.lt_of_lt_of_le (blk_lt HI.out.b0) hm3
      have hne : g3 ≠ g4 := fun e => by have := blk_lt hg4; omega
      replace hg4 := blk_below hg4 hs
      replace HI := Lib.hid (HI.out.below hs)
      clear hs hm3
      refine hK.out _ _ ⟨((blk_cell HI.out.b0 0).trans rfl), ((blk_cell HI.out.b0 1).trans rfl), ((blk_cell HI.out.b0 2).trans rfl)⟩ (fun hHeld => ?_)
      clear hK K
      refine norm_ (a' := ?_) ?_ ?_
      rotate_left
      · show Act.put _ (some 3) _ = _
        simp only [Act.put, List.setIfInBounds_toArray, List.set_cons_zero, List.set_cons_succ, i64_w, i32_w]
        rfl
      exact norm_ (by simp only [putAll, Act.put, List.setIfInBounds_toArray, List.set_cons_zero, List.set_cons_succ]) (hCont (g3, g4) _ ⟨HI, hg3, hg4, hl3, hl4, hne⟩)
  clear hHeld HI
  rintro ⟨g3, g4⟩ V4 ⟨HI, hg3, hg4, hl3, hl4, hne⟩
  dsimp only at hg3 hg4 hl3 hl4 hne
  have hHeld : V4.cell? ⟨w.heap.size, 0, none⟩ = some (.int .i64 a0) ∧ V4.cell? ⟨w.heap.size, 1, none⟩ = some (.int .i64 a1) ∧ V4.cell? ⟨w.heap.size, 2, none⟩ = some (.int .i64 a2) := ⟨((blk_cell HI.out.b0 0).trans rfl), ((blk_cell HI.out.b0 1).trans rfl), ((blk_cell HI.out.b0 2).trans rfl)⟩
  refine norm_ (a' := ?_) ?_ ?_
  rotate_left
  · simp only [putAll, Act.put, List.setIfInBounds_toArray, List.set_cons_zero, List.set_cons_succ]
    rfl
  refine one_ (i := 16) (N := none) #[true, true, true, true, true, true, true, true, true, true, true, true, true, true, true, true, true, false] rfl rfl (by kernel_rfl) (by decide) (fun K hK => ?_)
  have cx0 : (V4).cell? ⟨g3, 0, none⟩ = some (.int .i64 0) := (blk_cell hg3 0).trans rfl
  have cxf0 : (V4).frozen? ⟨g3, 0, none⟩ = false := blk_frozen hg3 0
  have cx1 : (V4).cell? ⟨g3, 1, none⟩ = some (.int .i64 0) := (blk_cell hg3 1).trans rfl
  have cxf1 : (V4).frozen? ⟨g3, 1, none⟩ = false := blk_frozen hg3 1
  have cx2 : (V4).cell? ⟨g3, 2, none⟩ = some (.int .i64 0) := (blk_cell hg3 2).trans rfl
  have cxf2 : (V4).frozen? ⟨g3, 2, none⟩ = false := blk_frozen hg3 2
  have cx3 : (V4).cell? ⟨g3, 3, none⟩ = some (.slice none 0 0) := (blk_cell hg3 3).trans rfl
  have cxf3 : (V4).frozen? ⟨g3, 3, none⟩ = false := blk_frozen hg3 3
  refine skip_ (w1 := ?_) (by rfl) rfl ?_ ?_
  rotate_left
  · go_simp
    rfl
  obtain ⟨V5, hV⟩ : ∃ V, V = ((((V4).setCell ⟨g3, 0, none⟩ (.int .i64 a1)).setCell ⟨g3, 1, none⟩ (.int .i64 a0)).setCell ⟨g3, 2, none⟩ (.int .i64 a2)).setCell ⟨g3, 3, none⟩ (.slice none 0 0) := ⟨_, rfl⟩
  rw [← hV]
  replace HI : Hid (LI w a0 a1 a2 (.slice A l.length c) V5) := Lib.hid (by rw [hV]; exact ⟨(blk_far (blk_far (blk_far (blk_far HI.out.b0 (by dsimp only; omega) _) (by dsimp only; omega) _) (by dsimp only; omega) _) (by dsimp only; omega) _), (below_set (below_set (below_set (below_set HI.out.low (by first | omega | (dsimp only; omega))) (by first | omega | (dsimp only; omega))) (by first | omega | (dsimp only; omega))) (by first | omega | (dsimp only; omega)))⟩)
  replace hg4 : V5.heap[g4]? = some (.cells #[.int .i64 0, .int .i64 0, .int .i64 0, .slice none 0 0] 24 (0, 0)) := by rw [hV]; exact (blk_far (blk_far (blk_far (blk_far hg4 (by dsimp only; omega) _) (by dsimp only; omega) _) (by dsimp only; omega) _) (by dsimp only; omega) _)
  replace hg3 : V5.heap[g3]? = some (.cells #[.int .i64 a1, .int .i64 a0, .int .i64 a2, .slice none 0 0] 24 (0, 0)) := by rw [hV]; exact (blk_put (blk_put (blk_put (blk_put hg3 0 _ (cs' := #[.int .i64 a1, .int .i64 0, .int .i64 0, .slice none 0 0]) rfl) 1 _ (cs' := #[.int .i64 a1, .int .i64 a0, .int .i64 0, .slice none 0 0]) rfl) 2 _ (cs' := #[.int .i64 a1, .int .i64 a0, .int .i64 a2, .slice none 0 0]) rfl) 3 _ (cs' := #[.int .i64 a1, .int .i64 a0, .int .i64 a2, .slice none 0 0]) rfl)
  clear hV
  clear cx0 cxf0
  clear cx1 cxf1
  clear cx2 cxf2
  clear cx3 cxf3
  refine hK.out _ _ ⟨((blk_cell HI.out.b0 0).trans rfl), ((blk_cell HI.out.b0 1).trans rfl), ((blk_cell HI.out.b0 2).trans rfl)⟩ (fun hHeld => ?_)
  clear hK K
  refine one_ (i := 17) (N := none) #[true, true, true, true, true, true, true, true, true, true, true, true, true, true, true, true, true, true] rfl rfl (by kernel_rfl) (by decide) (fun K hK => ?_)
  have cx0 : (V5).cell? ⟨g4, 0, none⟩ = some (.int .i64 0) := (blk_cell hg4 0).trans rfl
  have cxf0 : (V5).frozen? ⟨g4, 0, none⟩ = false := blk_frozen hg4 0
  have cx1 : (V5).cell? ⟨g4, 1, none⟩ = some (.int .i64 0) := (blk_cell hg4 1).trans rfl
  have cxf1 : (V5).frozen? ⟨g4, 1, none⟩ = false := blk_frozen hg4 1
  have cx2 : (V5).cell? ⟨g4, 2, none⟩ = some (.int .i64 0) := (blk_cell hg4 2).trans rfl
  have cxf2 : (V5).frozen? ⟨g4, 2, none⟩ = false := blk_frozen hg4 2
  have cx3 : (V5).cell? ⟨g4, 3, none⟩ = some (.slice none 0 0) := (blk_cell hg4 3).trans rfl
  have cxf3 : (V5).frozen? ⟨g4, 3, none⟩ = false := blk_frozen hg4 3
  refine skip_ (w1 := ?_) (by rfl) rfl ?_ ?_
  rotate_left
  · go_simp
    rfl
  obtain ⟨V6, hV⟩ : ∃ V, V = ((((V5).setCell ⟨g4, 0, none⟩ (.int .i64 a0)).setCell ⟨g4, 1, none⟩ (.int .i64 a1)).setCell ⟨g4, 2, none⟩ (.int .i64 a2)).setCell ⟨g4, 3, none⟩ (.slice none 0 0) := ⟨_, rfl⟩
  rw [← hV]
  replace HI : Hid (LI w a0 a1 a2 (.slice A l.length c) V6) := Lib.hid (by rw [hV]; exact ⟨(blk_far (blk_far (blk_far (blk_far HI.out.b0 (by dsimp only; omega) _) (by dsimp only; omega) _) (by dsimp only; omega) _) (by dsimp only; omega) _), (below_set (below_set (below_set (below_set HI.out.low (by first | omega | (dsimp only; omega))) (by first | omega | (dsimp only; omega))) (by first | omega | (dsimp only; omega))) (by first | omega | (dsimp only; omega)))⟩)
  replace hg3 : V6.heap[g3]? = some (.cells #[.int .i64 a1, .int .i64 a0, .int .i64 a2, .slice none 0 0] 24 (0, 0)) := by rw [hV]; exact (blk_far (blk_far (blk_far (blk_far hg3 (by dsimp only; omega) _) (by dsimp only; omega) _) (by dsimp only; omega) _) (by dsimp only; omega) _)
  replace hg4 : V6.heap[g4]? = some (.cells #[.int .i64 a0, .int .i64 a1, .int .i64 a2, .slice none 0 0] 24 (0, 0)) := by rw [hV]; exact (blk_put (blk_put (blk_put (blk_put hg4 0 _ (cs' := #[.int .i64 a0, .int .i64 0, .int .i64 0, .slice none 0 0]) rfl) 1 _ (cs' := #[.int .i64 a0, .int .i64 a1, .int .i64 0, .slice none 0 0]) rfl) 2 _ (cs' := #[.int .i64 a0, .int .i64 a1, .int .i64 a2, .slice none 0 0]) rfl) 3 _ (cs' := #[.int .i64 a0, .int .i64 a1, .int .i64 a2, .slice none 0 0]) rfl)
  clear hV
  clear cx0 cxf0
  clear cx1 cxf1
  clear cx2 cxf2
  clear cx3 cxf3
  refine hK.out _ _ ⟨((blk_cell HI.out.b0 0).trans rfl), ((blk_cell HI.out.b0 1).trans rfl), ((blk_cell HI.out.b0 2).trans rfl)⟩ (fun hHeld => ?_)
  clear hK K
  refine done_ (by kernel_rfl) ?_
  have hT : Hid (TuI w a0 a1 a2 (.slice A l.length c) g3 g4 (.slice none 0 0) (.slice none 0 0) 0 0 ((l.take 0).map swapS) ((l.take 0).map (reflS a0)) V6) := Lib.hid ⟨HI.out.b0, hg3, hg4, World.ownsRow_nil _ _ _ _, World.ownsRow_nil _ _ _ _, fun k h => by simp [Value.ownBlock] at h, HI.out.low⟩
  clear hg3 hg4 hHeld HI
  go_wp2
  go_loopw [5, 6] (fun v5 v wr => ∃ (j : Nat) (u3 u4 : Value), v = .int .i64 j ∧ j ≤ l.length ∧ v5 = .bool ((l.take j).all (overB a0)) ∧ Hid (TuI w a0 a1 a2 (.slice A l.length c) g3 g4 u3 u4 j j ((l.take j).map swapS) ((l.take j).map (reflS a0)) wr)) (fun _ v _ => l.length - (intOf v).toNat)
  case atStart => exact ⟨0, _, _, rfl, Nat.zero_le _, rfl, hT⟩
  case round =>
  clear hT
  obtain ⟨j, u3, u4, rfl, hj, rfl, HT⟩ := hrel
  have hz0 : wr.cell? ⟨w.heap.size, 0, none⟩ = some (.int .i64 a0) := (blk_cell HT.out.b0 0).trans rfl
  have hz3 : wr.cell? ⟨w.heap.size, 3, none⟩ = some (.slice A l.length c) := (blk_cell HT.out.b0 3).trans rfl
  by_cases hlt : j < l.length
  · have hj0 : (0 : Int) ≤ (j : Int) := by omega
    have hj1 : (j : Int) < (l.length : Int) := by omega
    obtain ⟨ad, rfl, hx0, hx1, hx2, hx3, hx4, hx5, hx6, hx7⟩ := at_T82 (Kd.C_below HL.out HT.out.low) (j : Int) hj0 hj1
    simp only [Int.toNat_natCast] at hx0 hx1 hx2 hx3 hx4 hx5 hx6 hx7
    have e : rd_T82 l (j : Int) = l[j] := by simp [rd_T82, hlt, List.getD_eq_getElem?_getD]
    have htk : l.take (j + 1) = l.take j ++ [rd_T82 l (j : Int)] := by rw [e]; exact List.take_succ_eq_append_getElem hlt
    have hxm : rd_T82 l (j : Int) ∈ l := by rw [e]; exact List.getElem_mem hlt
    have HTK := Lib.hid htk
    have hwx := HOK.out.all (toW (rd_T82 l (j : Int))) (List.mem_map.2 ⟨_, hxm, rfl⟩)
    generalize hxe : rd_T82 l (j : Int) = x at hx0 hx1 hx2 hx3 hx4 hx5 hx6 hx7 hwx HTK
    have HXE := Lib.hid hxe
    have HWX := Lib.hid hwx
    clear e htk hxm hxe hwx
    go_upto_region 10 with fail
    obtain ⟨V0, hV0⟩ : ∃ V0, V0 = wr.alloc (.cells #[.int .i64 x.f1, .int .i64 x.f0, .bool x.f2, .int .i64 x.f3, .int .i64 x.f5.f0, .int .i64 x.f5.f1, .int .i64 x.f4.f0, .int .i64 x.f4.f1] 82) := ⟨_, rfl⟩
    rw [← hV0]
    have hs : Below wr.heap.size wr V0 := by rw [hV0]; exact below_alloc (Below.refl _ _) _
    have hC : V0.heap[wr.heap.size]? = some (.cells #[.int .i64 x.f1, .int .i64 x.f0, .bool x.f2, .int .i64 x.f3, .int .i64 x.f5.f0, .int .i64 x.f5.f1, .int .i64 x.f4.f0, .int .i64 x.f4.f1] 82 (0, 0)) := by rw [hV0]; exact alloc_at rfl
    have hb3 : ∀ k, u3.ownBlock = some k → k < wr.heap.size := own_lt HT.out.o3
    have hb4 : ∀ k, u4.ownBlock = some k → k < wr.heap.size := own_lt HT.out.o4
    have HB3 := Lib.hid hb3
    have HB4 := Lib.hid hb4
    have HT0 := Lib.hid (HT.out.below hs)
    have hlow7 := HT.out.low.size
    have HB7 : Hid (w.heap.size < wr.heap.size) := Lib.hid (blk_lt HT.out.b0)
    clear hV0 hb3 hb4 HT hs hx0 hx1 hx2 hx3 hx4 hx5 hx6 hx7 hz0 hz3
    generalize wr.heap.size = b7 at hC hlow7 HB3 HB4 HB7 ⊢
    have HC := Lib.hid hC
    obtain ⟨A3, c3, rfl⟩ := own_form HT0.out.o3
    obtain ⟨i0, hinf, hq0, hq1, hq2⟩ := info_parts infoS82
    have cb0 : (V0).cell? ⟨b7, 0, none⟩ = some (.int .i64 x.f1) := (blk_cell hC 0).trans rfl; have cb1 : (V0).cell? ⟨b7, 1, none⟩ = some (.int .i64 x.f0) := (blk_cell hC 1).trans rfl; have cb2 : (V0).cell? ⟨b7, 2, none⟩ = some (.bool x.f2) := (blk_cell hC 2).trans rfl; have cb3 : (V0).cell? ⟨b7, 3, none⟩ = some (.int .i64 x.f3) := (blk_cell hC 3).trans rfl; have cb4 : (V0).cell? ⟨b7, 4, none⟩ = some (.int .i64 x.f5.f0) := (blk_cell hC 4).trans rfl; have cb5 : (V0).cell? ⟨b7, 5, none⟩ = some (.int .i64 x.f5.f1) := (blk_cell hC 5).trans rfl; have cb6 : (V0).cell? ⟨b7, 6, none⟩ = some (.int .i64 x.f4.f0) := (blk_cell hC 6).trans rfl; have cb7 : (V0).cell? ⟨b7, 7, none⟩ = some (.int .i64 x.f4.f1) := (blk_cell hC 7).trans rfl
    have cg3 : V0.cell? ⟨g3, 3, none⟩ = some (.slice A3 j c3) := (blk_cell HT0.out.b3 3).trans rfl
    have hT1 := HT0.out.below (below_alloc (Below.refl V0.heap.size V0) (.cells #[.int .i64 x.f1, .int .i64 x.f0, .bool x.f2, .int .i64 x.f3, .int .i64 x.f5.f0, .int .i64 x.f5.f1, .int .i64 x.f4.f0, .int .i64 x.f4.f1] 82))
    have hC1 := blk_below hC (below_alloc (Below.refl V0.heap.size V0) (.cells #[.int .i64 x.f1, .int .i64 x.f0, .bool x.f2, .int .i64 x.f3, .int .i64 x.f5.f0, .int .i64 x.f5.f1, .int .i64 x.f4.f0, .int .i64 x.f4.f1] 82))
    have hj9 : j ≤ 1000 := by omega
    clear hC
    go_upto_region 11 with (at_builtin; refine wpList_append_own_at _ rfl _ _ 22 rfl w.heap.size 82 i0 _ 8 64 Try.underlying22 hinf hq0 hq1 hq2 rfl (by decide) _ _ _ rfl hT1.o3 ⟨V0.heap.size, 0, none⟩ 1 1 (c82 (swapS x)) rfl rfl (World.news_of_block (alloc_at (by simp [c82, swapS]))) (by simp [c82, swapS, Value.oneCell']) (by simp [maxLen]; omega) (by omega) hT1.low.size ?_; intro v7 V7 own7 hgr _ hat; obtain ⟨g7, c7, rfl⟩ := ownsRow_succ own7; have d3 := blk_grown hT1.b3 hgr (own_ne hT1.o3 hT1.b3 (by decide)); have cg3' : V7.cell? ⟨g3, 3, none⟩ = some (.slice A3 j c3) := (blk_cell d3 3).trans rfl; have fg3 := blk_frozen d3 3)
    obtain ⟨Q1, hQ1⟩ : ∃ Q, Q = V7.setCell ⟨g3, 3, none⟩ (.slice (some ⟨g7, 0, none⟩) (j + 1) c7) := ⟨_, rfl⟩
    rw [← hQ1]
    have hn37 := own_ne own7 d3 (by decide)
    have p4 := own_other hT1.o4 hgr (ne_other HT0.out.ne)
    have hn34 := own_ne p4 d3 (by decide)
    have dC := blk_grown hC1 hgr (fun e => by have := HB3.out b7 e.symm; omega)
    have hCl := blk_lt hC1
    have hne' : NeRow (.slice (some ⟨g7, 0, none⟩) (j + 1) c7) u4 := fun k h1 h2 => by
      rcases hat with e | e
      · exact HT0.out.ne k (e.symm.trans h1) h2
      · rw [h1] at e
        have := HB4.out k h2
        cases e; omega
    have HT1 : Hid (TuI w a0 a1 a2 (.slice (some ad) l.length c) g3 g4 (.slice (some ⟨g7, 0, none⟩) (j + 1) c7) u4 (j + 1) j ((l.take (j + 1)).map swapS) ((l.take j).map (reflS a0)) Q1) := Lib.hid (by
      rw [hQ1]
      refine ⟨blk_far (blk_grown hT1.b0 hgr (own_ne hT1.o3 hT1.b0 (by decide))) (by dsimp only; omega) _, blk_put d3 3 _ rfl, blk_far (blk_grown hT1.b4 hgr (own_ne hT1.o3 hT1.b4 (by decide))) (by dsimp only; omega) _, ?_, own_setCell p4 hn34 _, hne', below_set (pw_below_grown hT1.low _ hT1.low.size hgr (own_base hT1.o3)) (by first | omega | (dsimp only; omega))⟩
      rw [HTK.out, List.map_append, List.flatMap_append, List.map_cons, List.map_nil, List.flatMap_singleton]
      exact own_setCell own7 hn37 _)
    have HN7 : Hid (g7 ≠ b7) := Lib.hid (fun e0 => by
      rcases hat with e | e
      · have := HB3.out b7 (e.symm.trans (by rw [← e0]; rfl)); omega
      · have e2 : g7 = (V0.alloc (.cells #[.int .i64 x.f1, .int .i64 x.f0, .bool x.f2, .int .i64 x.f3, .int .i64 x.f5.f0, .int .i64 x.f5.f1, .int .i64 x.f4.f0, .int .i64 x.f4.f1] 82)).heap.size := by cases e; rfl
        omega)
    have hC2 : Q1.heap[b7]? = some (.cells #[.int .i64 x.f1, .int .i64 x.f0, .bool x.f2, .int .i64 x.f3, .int .i64 x.f5.f0, .int .i64 x.f5.f1, .int .i64 x.f4.f0, .int .i64 x.f4.f1] 82 (0, 0)) := by rw [hQ1]; exact blk_far dC (blk_ne dC d3 (by decide)) _
    clear hQ1 hn37 p4 hn34 dC hCl hne' hT1 hC1 own7 hgr hat d3 cg3 cg3' fg3 cb0 cb1 cb2 cb3 cb4 cb5 cb6 cb7 HT0 HC HB3
    have cb0 : (Q1).cell? ⟨b7, 0, none⟩ = some (.int .i64 x.f1) := (blk_cell hC2 0).trans rfl; have cbf0 : (Q1).frozen? ⟨b7, 0, none⟩ = false := blk_frozen hC2 0; have cb1 : (Q1).cell? ⟨b7, 1, none⟩ = some (.int .i64 x.f0) := (blk_cell hC2 1).trans rfl; have cbf1 : (Q1).frozen? ⟨b7, 1, none⟩ = false := blk_frozen hC2 1; have cb2 : (Q1).cell? ⟨b7, 2, none⟩ = some (.bool x.f2) := (blk_cell hC2 2).trans rfl; have cbf2 : (Q1).frozen? ⟨b7, 2, none⟩ = false := blk_frozen hC2 2; have cb3 : (Q1).cell? ⟨b7, 3, none⟩ = some (.int .i64 x.f3) := (blk_cell hC2 3).trans rfl; have cbf3 : (Q1).frozen? ⟨b7, 3, none⟩ = false := blk_frozen hC2 3; have cb4 : (Q1).cell? ⟨b7, 4, none⟩ = some (.int .i64 x.f5.f0) := (blk_cell hC2 4).trans rfl; have cbf4 : (Q1).frozen? ⟨b7, 4, none⟩ = false := blk_frozen hC2 4; have cb5 : (Q1).cell? ⟨b7, 5, none⟩ = some (.int .i64 x.f5.f1) := (blk_cell hC2 5).trans rfl; have cbf5 : (Q1).frozen? ⟨b7, 5, none⟩ = false := blk_frozen hC2 5; have cb6 : (Q1).cell? ⟨b7, 6, none⟩ = some (.int .i64 x.f4.f0) := (blk_cell hC2 6).trans rfl; have cbf6 : (Q1).frozen? ⟨b7, 6, none⟩ = false := blk_frozen hC2 6; have cb7 : (Q1).cell? ⟨b7, 7, none⟩ = some (.int .i64 x.f4.f1) := (blk_cell hC2 7).trans rfl; have cbf7 : (Q1).frozen? ⟨b7, 7, none⟩ = false := blk_frozen hC2 7
    obtain ⟨ad9, e9, hx0, hx1, hx2, hx3, hx4, hx5, hx6, hx7⟩ := at_T82 (Kd.C_below HL.out HT1.out.low) (j : Int) hj0 hj1
    cases e9
    rw [HXE.out] at hx0 hx1 hx2 hx3 hx4 hx5 hx6 hx7
    simp only [Int.toNat_natCast] at hx0 hx1 hx2 hx3 hx4 hx5 hx6 hx7
    have hz0 : Q1.cell? ⟨w.heap.size, 0, none⟩ = some (.int .i64 a0) := (blk_cell HT1.out.b0 0).trans rfl
    have hz3 : Q1.cell? ⟨w.heap.size, 3, none⟩ = some (.slice (some ad) l.length c) := (blk_cell HT1.out.b0 3).trans rfl
    have hw0 := HOK.out.wid
    have hxz := HWX.out.xz
    simp only [toW] at hxz
    have hall : (l.take (j + 1)).all (overB a0) = ((l.take j).all (overB a0) && overB a0 x) := by rw [HTK.out, List.all_append]; simp
    have HALL := Lib.hid hall
    clear hall
    have H0 : w.heap.size < b7 := HB7.out
    have H3 : g3 ≠ b7 := blk_ne HT1.out.b3 hC2 (by decide)
    have H4 : g4 ≠ b7 := blk_ne HT1.out.b4 hC2 (by decide)
    have N3 : some b7 ≠ (Value.slice (some ⟨g7, 0, none⟩) (j + 1) c7).ownBlock := fun e => HN7.out (by cases e; rfl)
    have N4 : some b7 ≠ u4.ownBlock := fun e => by have := HB4.out b7 e.symm; omega
    have HN := Lib.hid (And.intro H0 (And.intro H3 (And.intro H4 (And.intro N3 N4))))
    clear H0 H3 H4 N3 N4
    go_upto_region 12 with fail
    obtain ⟨Q2, hQ2⟩ : ∃ Q, Q = ((((((((Q1).setCell ⟨b7, 0, none⟩ (.int .i64 x.f0)).setCell ⟨b7, 1, none⟩ (.int .i64 x.f1)).setCell ⟨b7, 2, none⟩ (.bool x.f2)).setCell ⟨b7, 3, none⟩ (.int .i64 x.f3)).setCell ⟨b7, 4, none⟩ (.int .i64 x.f4.f0)).setCell ⟨b7, 5, none⟩ (.int .i64 x.f4.f1)).setCell ⟨b7, 6, none⟩ (.int .i64 x.f5.f0)).setCell ⟨b7, 7, none⟩ (.int .i64 x.f5.f1) := ⟨_, rfl⟩
    rw [← hQ2]
    have HT2 : Hid (TuI w a0 a1 a2 (.slice (some ad) l.length c) g3 g4 (.slice (some ⟨g7, 0, none⟩) (j + 1) c7) u4 (j + 1) j ((l.take (j + 1)).map swapS) ((l.take j).map (reflS a0)) Q2) := Lib.hid (by
      rw [hQ2]
      obtain ⟨H0, H3, H4, N3, N4⟩ := HN.out
      exact ((((((((HT1.out.put H0 H3 H4 N3 N4 0 _).put H0 H3 H4 N3 N4 1 _).put H0 H3 H4 N3 N4 2 _).put H0 H3 H4 N3 N4 3 _).put H0 H3 H4 N3 N4 4 _).put H0 H3 H4 N3 N4 5 _).put H0 H3 H4 N3 N4 6 _).put H0 H3 H4 N3 N4 7 _))
    have hC3 : Q2.heap[b7]? = some (.cells #[.int .i64 x.f0, .int .i64 x.f1, .bool x.f2, .int .i64 x.f3, .int .i64 x.f4.f0, .int .i64 x.f4.f1, .int .i64 x.f5.f0, .int .i64 x.f5.f1] 82 (0, 0)) := by rw [hQ2]; exact (blk_put (blk_put (blk_put (blk_put (blk_put (blk_put (blk_put (blk_put hC2 0 _ (cs' := #[.int .i64 x.f0, .int .i64 x.f0, .bool x.f2, .int .i64 x.f3, .int .i64 x.f5.f0, .int .i64 x.f5.f1, .int .i64 x.f4.f0, .int .i64 x.f4.f1]) rfl) 1 _ (cs' := #[.int .i64 x.f0, .int .i64 x.f1, .bool x.f2, .int .i64 x.f3, .int .i64 x.f5.f0, .int .i64 x.f5.f1, .int .i64 x.f4.f0, .int .i64 x.f4.f1]) rfl) 2 _ (cs' := #[.int .i64 x.f0, .int .i64 x.f1, .bool x.f2, .int .i64 x.f3, .int .i64 x.f5.f0, .int .i64 x.f5.f1, .int .i64 x.f4.f0, .int .i64 x.f4.f1]) rfl) 3 _ (cs' := #[.int .i64 x.f0, .int .i64 x.f1, .bool x.f2, .int .i64 x.f3, .int .i64 x.f5.f0, .int .i64 x.f5.f1, .int .i64 x.f4.f0, .int .i64 x.f4.f1]) rfl) 4 _ (cs' := #[.int .i64 x.f0, .int .i64 x.f1, .bool x.f2, .int .i64 x.f3, .int .i64 x.f4.f0, .int .i64 x.f5.f1, .int .i64 x.f4.f0, .int .i64 x.f4.f1]) rfl) 5 _ (cs' := #[.int .i64 x.f0, .int .i64 x.f1, .bool x.f2, .int .i64 x.f3, .int .i64 x.f4.f0, .int .i64 x.f4.f1, .int .i64 x.f4.f0, .int .i64 x.f4.f1]) rfl) 6 _ (cs' := #[.int .i64 x.f0, .int .i64 x.f1, .bool x.f2, .int .i64 x.f3, .int .i64 x.f4.f0, .int .i64 x.f4.f1, .int .i64 x.f5.f0, .int .i64 x.f4.f1]) rfl) 7 _ (cs' := #[.int .i64 x.f0, .int .i64 x.f1, .bool x.f2, .int .i64 x.f3, .int .i64 x.f4.f0, .int .i64 x.f4.f1, .int .i64 x.f5.f0, .int .i64 x.f5.f1]) rfl)
    clear hQ2 hC2 HT1 hx0 hx1 hx2 hx3 hx4 hx5 hx6 hx7 hz0 hz3 cb0 cbf0 cb1 cbf1 cb2 cbf2 cb3 cbf3 cb4 cbf4 cb5 cbf5 cb6 cbf6 cb7 cbf7
    have cb0 : (Q2).cell? ⟨b7, 0, none⟩ = some (.int .i64 x.f0) := (blk_cell hC3 0).trans rfl; have cbf0 : (Q2).frozen? ⟨b7, 0, none⟩ = false := blk_frozen hC3 0; have cb1 : (Q2).cell? ⟨b7, 1, none⟩ = some (.int .i64 x.f1) := (blk_cell hC3 1).trans rfl; have cbf1 : (Q2).frozen? ⟨b7, 1, none⟩ = false := blk_frozen hC3 1; have cb2 : (Q2).cell? ⟨b7, 2, none⟩ = some (.bool x.f2) := (blk_cell hC3 2).trans rfl; have cbf2 : (Q2).frozen? ⟨b7, 2, none⟩ = false := blk_frozen hC3 2; have cb3 : (Q2).cell? ⟨b7, 3, none⟩ = some (.int .i64 x.f3) := (blk_cell hC3 3).trans rfl; have cbf3 : (Q2).frozen? ⟨b7, 3, none⟩ = false := blk_frozen hC3 3; have cb4 : (Q2).cell? ⟨b7, 4, none⟩ = some (.int .i64 x.f4.f0) := (blk_cell hC3 4).trans rfl; have cbf4 : (Q2).frozen? ⟨b7, 4, none⟩ = false := blk_frozen hC3 4; have cb5 : (Q2).cell? ⟨b7, 5, none⟩ = some (.int .i64 x.f4.f1) := (blk_cell hC3 5).trans rfl; have cbf5 : (Q2).frozen? ⟨b7, 5, none⟩ = false := blk_frozen hC3 5; have cb6 : (Q2).cell? ⟨b7, 6, none⟩ = some (.int .i64 x.f5.f0) := (blk_cell hC3 6).trans rfl; have cbf6 : (Q2).frozen? ⟨b7, 6, none⟩ = false := blk_frozen hC3 6; have cb7 : (Q2).cell? ⟨b7, 7, none⟩ = some (.int .i64 x.f5.f1) := (blk_cell hC3 7).trans rfl; have cbf7 : (Q2).frozen? ⟨b7, 7, none⟩ = false := blk_frozen hC3 7
    have hz0 : Q2.cell? ⟨w.heap.size, 0, none⟩ = some (.int .i64 a0) := (blk_cell HT2.out.b0 0).trans rfl
    cases hov : (l.take j).all (overB a0) with
    | true =>
      go_upto_region 15 with fail
      obtain ⟨Q3, hQ3⟩ : ∃ Q, Q = (Q2.setCell ⟨b7, 4, none⟩ (.int .i64 (if x.f4.f1 < a0 - 1 then a0 - 1 - x.f4.f1 else 0))).setCell ⟨b7, 5, none⟩ (.int .i64 (if x.f4.f0 < a0 - 1 then a0 - 1 - x.f4.f0 else 0)) := ⟨_, rfl⟩
      rw [← hQ3]
      have e4 : (if x.f4.f1 < a0 - 1 then a0 - 1 - x.f4.f1 else 0) = max 0 (a0 - 1 - x.f4.f1) := by split <;> omega
      have e5 : (if x.f4.f0 < a0 - 1 then a0 - 1 - x.f4.f0 else 0) = max 0 (a0 - 1 - x.f4.f0) := by split <;> omega
      have HT3 : Hid (TuI w a0 a1 a2 (.slice (some ad) l.length c) g3 g4 (.slice (some ⟨g7, 0, none⟩) (j + 1) c7) u4 (j + 1) j ((l.take (j + 1)).map swapS) ((l.take j).map (reflS a0)) Q3) := Lib.hid (by
        rw [hQ3]
        obtain ⟨H0, H3, H4, N3, N4⟩ := HN.out
        exact (HT2.out.put H0 H3 H4 N3 N4 4 _).put H0 H3 H4 N3 N4 5 _)
      have hC4 : Q3.heap[b7]? = some (.cells #[.int .i64 x.f0, .int .i64 x.f1, .bool x.f2, .int .i64 x.f3, .int .i64 (max 0 (a0 - 1 - x.f4.f1)), .int .i64 (max 0 (a0 - 1 - x.f4.f0)), .int .i64 x.f5.f0, .int .i64 x.f5.f1] 82 (0, 0)) := by rw [hQ3, e4, e5]; exact (blk_put (blk_put hC3 4 _ (cs' := #[.int .i64 x.f0, .int .i64 x.f1, .bool x.f2, .int .i64 x.f3, .int .i64 (max 0 (a0 - 1 - x.f4.f1)), .int .i64 x.f4.f1, .int .i64 x.f5.f0, .int .i64 x.f5.f1]) rfl) 5 _ (cs' := #[.int .i64 x.f0, .int .i64 x.f1, .bool x.f2, .int .i64 x.f3, .int .i64 (max 0 (a0 - 1 - x.f4.f1)), .int .i64 (max 0 (a0 - 1 - x.f4.f0)), .int .i64 x.f5.f0, .int .i64 x.f5.f1]) rfl)
      clear hQ3 hC3 HT2 hz0 e4 e5 cb0 cbf0 cb1 cbf1 cb2 cbf2 cb3 cbf3 cb4 cbf4 cb5 cbf5 cb6 cbf6 cb7 cbf7
      have cb0 : (Q3).cell? ⟨b7, 0, none⟩ = some (.int .i64 x.f0) := (blk_cell hC4 0).trans rfl; have cb1 : (Q3).cell? ⟨b7, 1, none⟩ = some (.int .i64 x.f1) := (blk_cell hC4 1).trans rfl; have cb2 : (Q3).cell? ⟨b7, 2, none⟩ = some (.bool x.f2) := (blk_cell hC4 2).trans rfl; have cb3 : (Q3).cell? ⟨b7, 3, none⟩ = some (.int .i64 x.f3) := (blk_cell hC4 3).trans rfl; have cb4 : (Q3).cell? ⟨b7, 4, none⟩ = some (.int .i64 (max 0 (a0 - 1 - x.f4.f1))) := (blk_cell hC4 4).trans rfl; have cb5 : (Q3).cell? ⟨b7, 5, none⟩ = some (.int .i64 (max 0 (a0 - 1 - x.f4.f0))) := (blk_cell hC4 5).trans rfl; have cb6 : (Q3).cell? ⟨b7, 6, none⟩ = some (.int .i64 x.f5.f0) := (blk_cell hC4 6).trans rfl; have cb7 : (Q3).cell? ⟨b7, 7, none⟩ = some (.int .i64 x.f5.f1) := (blk_cell hC4 7).trans rfl
      obtain ⟨A4, c4, rfl⟩ := own_form HT3.out.o4
      have cg4 : Q3.cell? ⟨g4, 3, none⟩ = some (.slice A4 j c4) := (blk_cell HT3.out.b4 3).trans rfl
      have hT5 := HT3.out.below (below_alloc (Below.refl Q3.heap.size Q3) (.cells #[.int .i64 x.f0, .int .i64 x.f1, .bool x.f2, .int .i64 x.f3, .int .i64 (max 0 (a0 - 1 - x.f4.f1)), .int .i64 (max 0 (a0 - 1 - x.f4.f0)), .int .i64 x.f5.f0, .int .i64 x.f5.f1] 82))
      go_wp2_with (at_builtin; refine wpList_append_own_at _ rfl _ _ 22 rfl w.heap.size 82 i0 _ 8 64 Try.underlying22 hinf hq0 hq1 hq2 rfl (by decide) _ _ _ rfl hT5.o4 ⟨Q3.heap.size, 0, none⟩ 1 1 (c82 (reflS a0 x)) rfl rfl (World.news_of_block (alloc_at (by simp [c82, reflS]))) (by simp [c82, reflS, Value.oneCell']) (by simp [maxLen]; omega) (by omega) hT5.low.size ?_; intro v8 V8 own8 hgr _ hat; obtain ⟨g8, c8, rfl⟩ := ownsRow_succ own8; have d4 := blk_grown hT5.b4 hgr (own_ne hT5.o4 hT5.b4 (by decide)); have cg4' : V8.cell? ⟨g4, 3, none⟩ = some (.slice A4 j c4) := (blk_cell d4 3).trans rfl; have fg4 := blk_frozen d4 3)
      have hn48 := own_ne own8 d4 (by decide)
      have p3 := own_other hT5.o3 hgr (ne_other (ne_symm HT3.out.ne))
      have hn43 := own_ne p3 d4 (by decide)
      have hl3 := own_lt hT5.o3
      have hne8 : NeRow (.slice (some ⟨g7, 0, none⟩) (j + 1) c7) (.slice (some ⟨g8, 0, none⟩) (j + 1) c8) := fun k h1 h2 => by
        rcases hat with e | e
        · exact HT3.out.ne k h1 (e.symm.trans h2)
        · rw [h2] at e
          have := hl3 k h1
          cases e; omega
      have HT6 : Hid (TuI w a0 a1 a2 (.slice (some ad) l.length c) g3 g4 (.slice (some ⟨g7, 0, none⟩) (j + 1) c7) (.slice (some ⟨g8, 0, none⟩) (j + 1) c8) (j + 1) (j + 1) ((l.take (j + 1)).map swapS) ((l.take (j + 1)).map (reflS a0)) (V8.setCell ⟨g4, 3, none⟩ (.slice (some ⟨g8, 0, none⟩) (j + 1) c8))) := Lib.hid (by
        refine ⟨blk_far (blk_grown hT5.b0 hgr (own_ne hT5.o4 hT5.b0 (by decide))) (by dsimp only; omega) _, blk_far (blk_grown hT5.b3 hgr (own_ne hT5.o4 hT5.b3 (by decide))) (by dsimp only; omega) _, blk_put d4 3 _ rfl, own_setCell p3 hn43 _, ?_, hne8, below_set (pw_below_grown hT5.low _ hT5.low.size hgr (own_base hT5.o4)) (by first | omega | (dsimp only; omega))⟩
        have e9 : ((l.take (j + 1)).map (reflS a0)).flatMap c82 = ((l.take j).map (reflS a0)).flatMap c82 ++ c82 (reflS a0 x) := by rw [HTK.out, List.map_append, List.flatMap_append, List.map_cons, List.map_nil, List.flatMap_singleton]
        rw [e9]
        exact own_setCell own8 hn48 _)
      clear hn48 p3 hn43 hl3 hne8 hT5 own8 hgr hat d4 cg4 cg4' fg4
      go_roundw
      case rel => exact ⟨j + 1, _, _, by go_num, by omega, by rw [HALL.out, hov]; simp [overB], HT6⟩
      case measure => simp [intOf]; omega
    | false =>
      go_upto_region 15 with fail
      obtain ⟨Q3, hQ3⟩ : ∃ Q, Q = (Q2.setCell ⟨b7, 4, none⟩ (.int .i64 (if x.f4.f1 < a0 - 1 then a0 - 1 - x.f4.f1 else 0))).setCell ⟨b7, 5, none⟩ (.int .i64 (if x.f4.f0 < a0 - 1 then a0 - 1 - x.f4.f0 else 0)) := ⟨_, rfl⟩
      rw [← hQ3]
      have e4 : (if x.f4.f1 < a0 - 1 then a0 - 1 - x.f4.f1 else 0) = max 0 (a0 - 1 - x.f4.f1) := by split <;> omega
      have e5 : (if x.f4.f0 < a0 - 1 then a0 - 1 - x.f4.f0 else 0) = max 0 (a0 - 1 - x.f4.f0) := by split <;> omega
      have HT3 : Hid (TuI w a0 a1 a2 (.slice (some ad) l.length c) g3 g4 (.slice (some ⟨g7, 0, none⟩) (j + 1) c7) u4 (j + 1) j ((l.take (j + 1)).map swapS) ((l.take j).map (reflS a0)) Q3) := Lib.hid (by
        rw [hQ3]
        obtain ⟨H0, H3, H4, N3, N4⟩ := HN.out
        exact (HT2.out.put H0 H3 H4 N3 N4 4 _).put H0 H3 H4 N3 N4 5 _)
      have hC4 : Q3.heap[b7]? = some (.cells #[.int .i64 x.f0, .int .i64 x.f1, .bool x.f2, .int .i64 x.f3, .int .i64 (max 0 (a0 - 1 - x.f4.f1)), .int .i64 (max 0 (a0 - 1 - x.f4.f0)), .int .i64 x.f5.f0, .int .i64 x.f5.f1] 82 (0, 0)) := by rw [hQ3, e4, e5]; exact (blk_put (blk_put hC3 4 _ (cs' := #[.int .i64 x.f0, .int .i64 x.f1, .bool x.f2, .int .i64 x.f3, .int .i64 (max 0 (a0 - 1 - x.f4.f1)), .int .i64 x.f4.f1, .int .i64 x.f5.f0, .int .i64 x.f5.f1]) rfl) 5 _ (cs' := #[.int .i64 x.f0, .int .i64 x.f1, .bool x.f2, .int .i64 x.f3, .int .i64 (max 0 (a0 - 1 - x.f4.f1)), .int .i64 (max 0 (a0 - 1 - x.f4.f0)), .int .i64 x.f5.f0, .int .i64 x.f5.f1]) rfl)
      clear hQ3 hC3 HT2 hz0 e4 e5 cb0 cbf0 cb1 cbf1 cb2 cbf2 cb3 cbf3 cb4 cbf4 cb5 cbf5 cb6 cbf6 cb7 cbf7
      have cb0 : (Q3).cell? ⟨b7, 0, none⟩ = some (.int .i64 x.f0) := (blk_cell hC4 0).trans rfl; have cb1 : (Q3).cell? ⟨b7, 1, none⟩ = some (.int .i64 x.f1) := (blk_cell hC4 1).trans rfl; have cb2 : (Q3).cell? ⟨b7, 2, none⟩ = some (.bool x.f2) := (blk_cell hC4 2).trans rfl; have cb3 : (Q3).cell? ⟨b7, 3, none⟩ = some (.int .i64 x.f3) := (blk_cell hC4 3).trans rfl; have cb4 : (Q3).cell? ⟨b7, 4, none⟩ = some (.int .i64 (max 0 (a0 - 1 - x.f4.f1))) := (blk_cell hC4 4).trans rfl; have cb5 : (Q3).cell? ⟨b7, 5, none⟩ = some (.int .i64 (max 0 (a0 - 1 - x.f4.f0))) := (blk_cell hC4 5).trans rfl; have cb6 : (Q3).cell? ⟨b7, 6, none⟩ = some (.int .i64 x.f5.f0) := (blk_cell hC4 6).trans rfl; have cb7 : (Q3).cell? ⟨b7, 7, none⟩ = some (.int .i64 x.f5.f1) := (blk_cell hC4 7).trans rfl
      obtain ⟨A4, c4, rfl⟩ := own_form HT3.out.o4
      have cg4 : Q3.cell? ⟨g4, 3, none⟩ = some (.slice A4 j c4) := (blk_cell HT3.out.b4 3).trans rfl
      have hT5 := HT3.out.below (below_alloc (Below.refl Q3.heap.size Q3) (.cells #[.int .i64 x.f0, .int .i64 x.f1, .bool x.f2, .int .i64 x.f3, .int .i64 (max 0 (a0 - 1 - x.f4.f1)), .int .i64 (max 0 (a0 - 1 - x.f4.f0)), .int .i64 x.f5.f0, .int .i64 x.f5.f1] 82))
      go_wp2_with (at_builtin; refine wpList_append_own_at _ rfl _ _ 22 rfl w.heap.size 82 i0 _ 8 64 Try.underlying22 hinf hq0 hq1 hq2 rfl (by decide) _ _ _ rfl hT5.o4 ⟨Q3.heap.size, 0, none⟩ 1 1 (c82 (reflS a0 x)) rfl rfl (World.news_of_block (alloc_at (by simp [c82, reflS]))) (by simp [c82, reflS, Value.oneCell']) (by simp [maxLen]; omega) (by omega) hT5.low.size ?_; intro v8 V8 own8 hgr _ hat; obtain ⟨g8, c8, rfl⟩ := ownsRow_succ own8; have d4 := blk_grown hT5.b4 hgr (own_ne hT5.o4 hT5.b4 (by decide)); have cg4' : V8.cell? ⟨g4, 3, none⟩ = some (.slice A4 j c4) := (blk_cell d4 3).trans rfl; have fg4 := blk_frozen d4 3)
      have hn48 := own_ne own8 d4 (by decide)
      have p3 := own_other hT5.o3 hgr (ne_other (ne_symm HT3.out.ne))
      have hn43 := own_ne p3 d4 (by decide)
      have hl3 := own_lt hT5.o3
      have hne8 : NeRow (.slice (some ⟨g7, 0, none⟩) (j + 1) c7) (.slice (some ⟨g8, 0, none⟩) (j + 1) c8) := fun k h1 h2 => by
        rcases hat with e | e
        · exact HT3.out.ne k h1 (e.symm.trans h2)
        · rw [h2] at e
          have := hl3 k h1
          cases e; omega
      have HT6 : Hid (TuI w a0 a1 a2 (.slice (some ad) l.length c) g3 g4 (.slice (some ⟨g7, 0, none⟩) (j + 1) c7) (.slice (some ⟨g8, 0, none⟩) (j + 1) c8) (j + 1) (j + 1) ((l.take (j + 1)).map swapS) ((l.take (j + 1)).map (reflS a0)) (V8.setCell ⟨g4, 3, none⟩ (.slice (some ⟨g8, 0, none⟩) (j + 1) c8))) := Lib.hid (by
        refine ⟨blk_far (blk_grown hT5.b0 hgr (own_ne hT5.o4 hT5.b0 (by decide))) (by dsimp only; omega) _, blk_far (blk_grown hT5.b3 hgr (own_ne hT5.o4 hT5.b3 (by decide))) (by dsimp only; omega) _, blk_put d4 3 _ rfl, own_setCell p3 hn43 _, ?_, hne8, below_set (pw_below_grown hT5.low _ hT5.low.size hgr (own_base hT5.o4)) (by first | omega | (dsimp only; omega))⟩
        have e9 : ((l.take (j + 1)).map (reflS a0)).flatMap c82 = ((l.take j).map (reflS a0)).flatMap c82 ++ c82 (reflS a0 x) := by rw [HTK.out, List.map_append, List.flatMap_append, List.map_cons, List.map_nil, List.flatMap_singleton]
        rw [e9]
        exact own_setCell own8 hn48 _)
      clear hn48 p3 hn43 hl3 hne8 hT5 own8 hgr hat d4 cg4 cg4' fg4
      go_roundw
      case rel => exact ⟨j + 1, _, _, by go_num, by omega, by rw [HALL.out, hov]; rfl, HT6⟩
      case measure => simp [intOf]; omega
  obtain rfl : j = l.length := by omega
  rw [List.take_length] at HT
  obtain ⟨A3, c3, rfl⟩ := own_form HT.out.o3
  obtain ⟨A4, c4, rfl⟩ := own_form HT.out.o4
  have hokS : PlOk a1 a0 a2 ((l.map swapS).map toW) := by rw [swapS_W]; exact swap_ok HOK.out
  have hokR : PlOk a0 a1 a2 ((l.map (reflS a0)).map toW) := by rw [reflS_W]; exact refl_ok HOK.out
  have h42a := fun w h => worth_calls a0 a1 a2 A c l w h HOK.out
  have h42b := fun w h => worth_calls a1 a0 a2 A3 c3 (l.map swapS) w h hokS
  have h42c := fun w h => worth_calls a0 a1 a2 A4 c4 (l.map (reflS a0)) w h hokR
  rw [swapS_W, (swap_law HOK.out).1, (swap_law HOK.out).2, List.length_map] at h42b
  rw [List.length_map] at h42c
  have hrl : l.all (overB a0) = true → (worthP a0 a1 a2 ((l.map (reflS a0)).map toW)).worth = (worthP a0 a1 a2 (l.map toW)).worth ∧ (worthP a0 a1 a2 ((l.map (reflS a0)).map toW)).cuts = (worthP a0 a1 a2 (l.map toW)).cuts := fun h => by
    rw [reflS_W]
    refine refl_law HOK.out (fun x hx => ?_)
    obtain ⟨y, hy, rfl⟩ := List.mem_map.1 hx
    have := List.all_eq_true.1 h y hy
    unfold overB at this
    exact of_decide_eq_true this
  obtain ⟨wo, hwo⟩ : ∃ wo, (worthP a0 a1 a2 (l.map toW)).worth = wo := ⟨_, rfl⟩
  obtain ⟨ku, hku⟩ : ∃ ku, (worthP a0 a1 a2 (l.map toW)).cuts = ku := ⟨_, rfl⟩
  rw [hwo, hku] at h42a h42b hrl
  have H42a := Lib.hid h42a
  have H42b := Lib.hid h42b
  have hC3 : Kd.C k82 wr A3 l.length (l.map swapS) := (own_C82 HT.out.o3 (by simp)).2
  have hC4 : Kd.C k82 wr A4 l.length (l.map (reflS a0)) := (own_C82 HT.out.o4 (by simp)).2
  have HC3 := Lib.hid hC3
  have HC4 := Lib.hid hC4
  have hb1 : (wo != wo) = false := by simp
  have hb2 : (ku != ku) = false := by simp
  have hb3 : (wo == wo) = true := by simp
  have hb4 : (ku == ku) = true := by simp
  have hz1 : wr.cell? ⟨w.heap.size, 1, none⟩ = some (.int .i64 a1) := (blk_cell HT.out.b0 1).trans rfl
  have hz2 : wr.cell? ⟨w.heap.size, 2, none⟩ = some (.int .i64 a2) := (blk_cell HT.out.b0 2).trans rfl
  clear h42a h42b hokS hokR hwo hku hC3 hC4
  cases hov : l.all (overB a0) with
  | false =>
    clear hrl h42c
    go_wp2_with (first | (go_at_call 42; with_reducible refine (H42a.out _ (Kd.C_below HL.out HT.out.low)).mono ?_; rintro e X1 ⟨rfl, hs⟩; have HC3 := Lib.hid (Kd.C_below HC3.out hs); have HC4 := Lib.hid (Kd.C_below HC4.out hs); have HT := Lib.hid (HT.out.below hs); have hg0 : X1.cell? ⟨g3, 0, none⟩ = some (.int .i64 a1) := (blk_cell HT.out.b3 0).trans rfl; have hg1 : X1.cell? ⟨g3, 1, none⟩ = some (.int .i64 a0) := (blk_cell HT.out.b3 1).trans rfl; have hg2 : X1.cell? ⟨g3, 2, none⟩ = some (.int .i64 a2) := (blk_cell HT.out.b3 2).trans rfl; have hg3 : X1.cell? ⟨g3, 3, none⟩ = some (.slice A3 l.length c3) := (blk_cell HT.out.b3 3).trans rfl) | (go_at_call 42; with_reducible refine (H42b.out _ HC3.out).mono ?_; rintro e X2 ⟨rfl, hs⟩; have HC4 := Lib.hid (Kd.C_below HC4.out hs); have HT := Lib.hid (HT.out.below hs); have hk0 : X2.cell? ⟨g4, 0, none⟩ = some (.int .i64 a0) := (blk_cell HT.out.b4 0).trans rfl; have hk1 : X2.cell? ⟨g4, 1, none⟩ = some (.int .i64 a1) := (blk_cell HT.out.b4 1).trans rfl; have hk2 : X2.cell? ⟨g4, 2, none⟩ = some (.int .i64 a2) := (blk_cell HT.out.b4 2).trans rfl; have hk3 : X2.cell? ⟨g4, 3, none⟩ = some (.slice A4 l.length c4) := (blk_cell HT.out.b4 3).trans rfl) | (go_at_call 25; refine (wakes_calls _).mono ?_; rintro e V9 ⟨rfl, hs⟩; have HT := Lib.hid (HT.out.below hs)))
    go_ret
    exact ⟨rfl, HT.out.low⟩
  | true =>
    rw [(hrl hov).1, (hrl hov).2] at h42c
    have H42c := Lib.hid h42c
    clear hrl h42c
    go_wp2_with (first | (go_at_call 42; with_reducible refine (H42a.out _ (Kd.C_below HL.out HT.out.low)).mono ?_; rintro e X1 ⟨rfl, hs⟩; have HC3 := Lib.hid (Kd.C_below HC3.out hs); have HC4 := Lib.hid (Kd.C_below HC4.out hs); have HT := Lib.hid (HT.out.below hs); have hg0 : X1.cell? ⟨g3, 0, none⟩ = some (.int .i64 a1) := (blk_cell HT.out.b3 0).trans rfl; have hg1 : X1.cell? ⟨g3, 1, none⟩ = some (.int .i64 a0) := (blk_cell HT.out.b3 1).trans rfl; have hg2 : X1.cell? ⟨g3, 2, none⟩ = some (.int .i64 a2) := (blk_cell HT.out.b3 2).trans rfl; have hg3 : X1.cell? ⟨g3, 3, none⟩ = some (.slice A3 l.length c3) := (blk_cell HT.out.b3 3).trans rfl) | (go_at_call 42; with_reducible refine (H42b.out _ HC3.out).mono ?_; rintro e X2 ⟨rfl, hs⟩; have HC4 := Lib.hid (Kd.C_below HC4.out hs); have HT := Lib.hid (HT.out.below hs); have hk0 : X2.cell? ⟨g4, 0, none⟩ = some (.int .i64 a0) := (blk_cell HT.out.b4 0).trans rfl; have hk1 : X2.cell? ⟨g4, 1, none⟩ = some (.int .i64 a1) := (blk_cell HT.out.b4 1).trans rfl; have hk2 : X2.cell? ⟨g4, 2, none⟩ = some (.int .i64 a2) := (blk_cell HT.out.b4 2).trans rfl; have hk3 : X2.cell? ⟨g4, 3, none⟩ = some (.slice A4 l.length c4) := (blk_cell HT.out.b4 3).trans rfl) | (go_at_call 42; with_reducible refine (H42c.out _ HC4.out).mono ?_; rintro e X3 ⟨rfl, hs⟩; have HT := Lib.hid (HT.out.below hs)) | (go_at_call 25; refine (wakes_calls _).mono ?_; rintro e V9 ⟨rfl, hs⟩; have HT := Lib.hid (HT.out.below hs)))
    go_ret
    exact ⟨rfl, HT.out.low⟩
end Go.Proofs.Ytffjbaknglemdaa.X
