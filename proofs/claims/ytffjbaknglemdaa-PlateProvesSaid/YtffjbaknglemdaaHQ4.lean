import Derived.Test.YtffjbaknglemdaaHQ3
namespace Go.Proofs.Ytffjbaknglemdaa.X
open Go.RowKit Go.Maps Go.Proofs.YtffjbaknglemdaaW.PrintWords Go.Proofs.YtffjbaknglemdaaW.PrintLast Go.Proofs.YtffjbaknglemdaaW.PrintMore
set_option linter.unusedSimpArgs false
set_option linter.unusedVariables false

/-! ### sums over units -/
instance covDec (p : S103) (x y : Int) : Decidable (Cov p x y) := by unfold Cov; infer_instance
def s1 : Nat → (Int → Int) → Int
  | 0, _ => 0
  | n + 1, f => s1 n f + f n
theorem s1_congr {f g : Int → Int} : ∀ n, (∀ i : Nat, i < n → f i = g i) → s1 n f = s1 n g
  | 0, _ => rfl
  | n + 1, h => by simp only [s1]; rw [s1_congr n (fun i hi => h i (by omega)), h n (by omega)]
theorem s1_add (f g : Int → Int) : ∀ n, s1 n (fun i => f i + g i) = s1 n f + s1 n g
  | 0 => rfl
  | n + 1 => by simp only [s1]; rw [s1_add f g n]; omega
theorem s1_mul (c : Int) (f : Int → Int) : ∀ n, s1 n (fun i => c * f i) = c * s1 n f
  | 0 => by simp [s1]
  | n + 1 => by simp only [s1]; rw [s1_mul c f n, Int.mul_add]
theorem s1_zero : ∀ n, s1 n (fun _ => 0) = 0
  | 0 => rfl
  | n + 1 => by simp only [s1]; rw [s1_zero n]; rfl
theorem s1_one : ∀ n : Nat, s1 n (fun _ => 1) = n
  | 0 => rfl
  | n + 1 => by simp only [s1]; rw [s1_one n]; omega
theorem s1_bd {f : Int → Int} {b : Int} : ∀ n : Nat, (∀ i : Nat, i < n → 0 ≤ f i ∧ f i ≤ b) → 0 ≤ s1 n f ∧ s1 n f ≤ n * b
  | 0, _ => by simp [s1]
  | n + 1, h => by
    simp only [s1]
    have h1 := s1_bd (b := b) n (fun i hi => h i (by omega))
    have h2 := h n (by omega)
    have e : ((n + 1 : Nat) : Int) * b = n * b + b := by rw [Int.natCast_add, Int.add_mul]; simp
    omega
theorem s1_range {lo w : Int} (h0 : 0 ≤ lo) (h1 : 0 ≤ w) : ∀ n : Nat, s1 n (fun i => if lo ≤ i ∧ i < lo + w then 1 else 0) = if (n : Int) ≤ lo then 0 else if (n : Int) ≤ lo + w then n - lo else w
  | 0 => by simp only [s1]; rw [if_pos (by omega)]
  | n + 1 => by
    simp only [s1]
    rw [s1_range h0 h1 n]
    repeat' split
    all_goals omega
theorem s1_pick {u w : Int} {m : Nat} (h0 : 0 ≤ u) (h1 : u < m) : s1 m (fun i => if i = u then w else 0) = w := by
  have : ∀ n : Nat, s1 n (fun i => if i = u then w else 0) = if u < n then w else 0 := by
    intro n
    induction n with
    | zero => simp only [s1]; rw [if_neg (by omega)]
    | succ n ih =>
      simp only [s1]; rw [ih]
      by_cases h : u < n
      · rw [if_pos h, if_neg (by omega), if_pos (by omega)]; omega
      · by_cases h' : (n : Int) = u
        · rw [if_neg h, if_pos h', if_pos (by omega)]; omega
        · rw [if_neg h, if_neg h', if_neg (by omega)]; rfl
  rw [this, if_pos h1]
def su (X Y : Nat) (f : Int → Int → Int) : Int := s1 X fun x => s1 Y fun y => f x y
theorem su_congr {X Y : Nat} {f g : Int → Int → Int} (h : ∀ x y : Nat, x < X → y < Y → f x y = g x y) : su X Y f = su X Y g := s1_congr X fun x hx => s1_congr Y fun y hy => h x y hx hy
theorem su_add (X Y : Nat) (f g : Int → Int → Int) : su X Y (fun x y => f x y + g x y) = su X Y f + su X Y g := by
  unfold su
  rw [← s1_add]
  exact s1_congr X fun x _ => s1_add _ _ Y
theorem su_zero (X Y : Nat) : su X Y (fun _ _ => 0) = 0 := by
  unfold su
  rw [s1_congr X (g := fun _ => 0) (fun x _ => s1_zero Y), s1_zero]
theorem su_area {X Y : Nat} {p : S103} (hi : In X Y p) : su X Y (fun x y => if Cov p x y then 1 else 0) = p.f2 * p.f3 := by
  obtain ⟨i0, i1, i2, i3, i4, i5⟩ := hi
  have e : ∀ x : Nat, x < X → s1 Y (fun y => if Cov p x y then 1 else 0) = p.f3 * (if p.f0 ≤ (x : Int) ∧ (x : Int) < p.f0 + p.f2 then 1 else 0) := by
    intro x hx
    by_cases h : p.f0 ≤ (x : Int) ∧ (x : Int) < p.f0 + p.f2
    · have e2 : ∀ y : Nat, y < Y → (fun y : Int => if Cov p x y then (1 : Int) else 0) y = (fun y : Int => if p.f1 ≤ y ∧ y < p.f1 + p.f3 then (1 : Int) else 0) y := by
        intro y _
        dsimp only
        by_cases hy : p.f1 ≤ (y : Int) ∧ (y : Int) < p.f1 + p.f3
        · rw [if_pos ⟨h.1, h.2, hy.1, hy.2⟩, if_pos hy]
        · rw [if_neg (fun hh => hy hh.2.2), if_neg hy]
      rw [if_pos h, s1_congr Y (g := fun y : Int => if p.f1 ≤ y ∧ y < p.f1 + p.f3 then (1 : Int) else 0) e2, s1_range i1 (by omega), if_neg (by omega)]
      split <;> omega
    · rw [if_neg h, s1_congr Y (g := fun _ => 0) (fun y _ => if_neg (fun hh => h ⟨hh.1, hh.2.1⟩)), s1_zero, Int.mul_zero]
  unfold su
  rw [s1_congr X (g := fun x => p.f3 * (if p.f0 ≤ x ∧ x < p.f0 + p.f2 then 1 else 0)) e, s1_mul, s1_range i0 (by omega), if_neg (by omega)]
  split
  · have : (X : Int) - p.f0 = p.f2 := by omega
    rw [this, Int.mul_comm]
  · rw [Int.mul_comm]

/-! ### which piece has a unit: the areas -/
theorem traceR_none {x y : Int} : ∀ (n : Nat) (r : List (S88 × Bool)), (∀ q ∈ r, q.2 = false → coverR q.1 x y = false) → traceR x y n r = -1
  | _, [], _ => rfl
  | n, p :: r, h => by
    simp only [traceR]
    have ih := traceR_none (n + 1) r (fun q hq => h q (by simp [hq]))
    cases hp : p.2 with
    | true => simp only [if_true]; exact ih
    | false => rw [h p (by simp) hp]; simp only [Bool.false_eq_true, if_false]; exact ih
def asum (C : Int → Bool) : Nat → List (S88 × Bool) → Int
  | _, [] => 0
  | n, p :: r => (if p.2 = false ∧ C n = true then p.1.f2 * p.1.f3 else 0) + asum C (n + 1) r
def hit (C : Int → Bool) (t : Int) : Int := if 0 ≤ t ∧ C t = true then 1 else 0
theorem su_trace {X Y : Nat} (C : Int → Bool) : ∀ (n : Nat) (r : List (S88 × Bool)), (∀ p ∈ r, In8 (toP p.1) ∧ In X Y (toP p.1)) → r.Pairwise (fun p q => p.2 = false → q.2 = false → Apart (toP p.1) (toP q.1)) → su X Y (fun x y => hit C (traceR x y n r)) = asum C n r
  | n, [], _, _ => by
    have e : ∀ x y : Int, hit C (traceR x y n []) = 0 := fun x y => by simp [traceR, hit]
    rw [su_congr (g := fun _ _ => 0) (fun x y _ _ => e x y), su_zero]; rfl
  | n, p :: r, hi, hp => by
    obtain ⟨hp1, hp2⟩ := List.pairwise_cons.1 hp
    have ih := su_trace (X := X) (Y := Y) C (n + 1) r (fun q hq => hi q (by simp [hq])) hp2
    obtain ⟨h8, hin⟩ := hi p (by simp)
    simp only [asum]
    cases hc : p.2 with
    | true =>
      have e : ∀ x y : Int, traceR x y n (p :: r) = traceR x y (n + 1) r := fun x y => by simp only [traceR, hc, if_true]
      rw [su_congr (g := fun x y => hit C (traceR x y (n + 1) r)) (fun x y _ _ => by rw [e]), ih, if_neg (by simp)]; omega
    | false =>
      have e : ∀ x y : Nat, x < X → y < Y → hit C (traceR x y n (p :: r)) = (if Cov (toP p.1) x y then (if C n = true then 1 else 0) else 0) + hit C (traceR x y (n + 1) r) := by
        intro x y hx hy
        simp only [traceR, hc, Bool.false_eq_true, if_false]
        by_cases hcv : Cov (toP p.1) x y
        · rw [if_pos ((coverR_iff h8).2 hcv), if_pos hcv, traceR_none (n + 1) r (fun q hq hq2 => by
            cases hcq : coverR q.1 x y with
            | false => rfl
            | true => exact absurd ⟨hcv, (coverR_iff (hi q (by simp [hq])).1).1 hcq⟩ (hp1 q hq hc hq2 x y))]
          simp [hit]
        · rw [if_neg (fun h => hcv ((coverR_iff h8).1 h)), if_neg hcv]; omega
      rw [su_congr (g := fun x y => (if Cov (toP p.1) x y then (if C n = true then 1 else 0) else 0) + hit C (traceR x y (n + 1) r)) e, su_add, ih]
      congr 1
      cases hC : C n with
      | true =>
        simp only [and_self, if_true]
        exact su_area hin
      | false =>
        simp only [Bool.false_eq_true, and_false, if_false]
        rw [su_congr (g := fun _ _ => 0) (fun x y _ _ => by simp), su_zero]

/-! ### the reference's counts -/
def used01 (uses : List Int) (i : Int) : Bool := decide (0 ≤ idx uses i)
def iS (uses : List Int) (t : Int) : Int := hit (used01 uses) t
def iR (uses : List Int) (t : Int) : Int := hit (fun i => !used01 uses i) t
def iC (t : Int) : Int := if t < 0 then 1 else 0
theorem ind_bd (uses : List Int) (t : Int) : (0 ≤ iS uses t ∧ iS uses t ≤ 1) ∧ (0 ≤ iR uses t ∧ iR uses t ≤ 1) ∧ (0 ≤ iC t ∧ iC t ≤ 1) := by
  unfold iS iR iC hit
  repeat' split
  all_goals omega
theorem ind_sum (uses : List Int) (t : Int) : iS uses t + iR uses t + iC t = 1 := by
  unfold iS iR iC hit
  dsimp only
  by_cases h : t < 0
  · rw [if_neg (by omega), if_neg (by omega), if_pos h]; rfl
  · by_cases hu : used01 uses t = true
    · rw [if_pos ⟨by omega, hu⟩, if_neg (by simp [hu]), if_neg h]; rfl
    · rw [if_neg (fun hh => hu hh.2), if_pos ⟨by omega, by simpa using hu⟩, if_neg h]; rfl
theorem stepW_eq (uses : List Int) {s r h : Int} (hs : 0 ≤ s ∧ s ≤ 1000) (hr : 0 ≤ r ∧ r ≤ 1000) (hh : 0 ≤ h ∧ h ≤ 1000) (t : Int) : stepW uses (s, r, h) t = (s + iS uses t, r + iR uses t, h + iC t) := by
  unfold stepW iS iR iC hit used01
  dsimp only
  by_cases h0 : t < 0
  · rw [if_pos h0, if_neg (by omega), if_neg (by omega), if_pos h0, w64 (by omega) (by omega)]; simp
  · rw [if_neg h0]
    by_cases h1 : 0 ≤ idx uses t
    · rw [if_pos h1, if_pos ⟨by omega, decide_eq_true h1⟩, if_neg (by simp [h1]), if_neg h0, w64 (by omega) (by omega)]; simp
    · rw [if_neg h1, if_neg (by simp [h1]), if_pos ⟨by omega, by simp [h1]⟩, if_neg h0, w64 (by omega) (by omega)]; simp
theorem colW_eq (uses : List Int) (T : Int → Int → Int) (x : Int) {s r h : Int} (hs : 0 ≤ s ∧ s ≤ 900) (hr : 0 ≤ r ∧ r ≤ 900) (hh : 0 ≤ h ∧ h ≤ 900) : ∀ n : Nat, n ≤ 100 → colW uses T x n (s, r, h) = (s + s1 n (fun y => iS uses (T x y)), r + s1 n (fun y => iR uses (T x y)), h + s1 n (fun y => iC (T x y)))
  | 0, _ => by simp [colW, s1]
  | n + 1, hn => by
    have b1 := s1_bd (f := fun y => iS uses (T x y)) (b := 1) n (fun i _ => (ind_bd uses _).1)
    have b2 := s1_bd (f := fun y => iR uses (T x y)) (b := 1) n (fun i _ => (ind_bd uses _).2.1)
    have b3 := s1_bd (f := fun y => iC (T x y)) (b := 1) n (fun i _ => (ind_bd uses _).2.2)
    rw [colW_succ, colW_eq uses T x hs hr hh n (by omega), stepW_eq uses (by omega) (by omega) (by omega)]
    simp only [s1]
    refine Prod.ext (by simp only; omega) (Prod.ext (by simp only; omega) (by simp only; omega))
theorem allW_eq (uses : List Int) (T : Int → Int → Int) {Y : Nat} (hY : Y ≤ 8) : ∀ n : Nat, n ≤ 100 → allW uses T n Y = (su n Y (fun x y => iS uses (T x y)), su n Y (fun x y => iR uses (T x y)), su n Y (fun x y => iC (T x y)))
  | 0, _ => by simp [allW, su, s1]
  | n + 1, hn => by
    have bb : ∀ f : Int → Int, (∀ i : Nat, i < Y → 0 ≤ f i ∧ f i ≤ 1) → 0 ≤ s1 Y f ∧ s1 Y f ≤ 8 := fun f hf => by have := s1_bd (b := 1) Y hf; omega
    have b1 := s1_bd (f := fun x => s1 Y fun y => iS uses (T x y)) (b := 8) n (fun i _ => bb _ (fun j _ => (ind_bd uses _).1))
    have b2 := s1_bd (f := fun x => s1 Y fun y => iR uses (T x y)) (b := 8) n (fun i _ => bb _ (fun j _ => (ind_bd uses _).2.1))
    have b3 := s1_bd (f := fun x => s1 Y fun y => iC (T x y)) (b := 8) n (fun i _ => bb _ (fun j _ => (ind_bd uses _).2.2))
    rw [allW_succ, allW_eq uses T hY n (by omega), colW_eq uses T n (by simp only [su]; omega) (by simp only [su]; omega) (by simp only [su]; omega) Y (by omega)]
    rfl

/-! ### the program's tally -/
def wsum (l : List S115) (uses : List Int) : Nat → List (S103 × Bool) → Int
  | _, [] => 0
  | n, p :: r => (if p.2 = false ∧ 0 ≤ idx uses n then (l.getD (idx uses n).toNat z115).f3 else 0) + wsum l uses (n + 1) r
def asumP (C : Int → Bool) : Nat → List (S103 × Bool) → Int
  | _, [] => 0
  | n, p :: r => (if p.2 = false ∧ C n = true then p.1.f2 * p.1.f3 else 0) + asumP C (n + 1) r
theorem asumP_ref (C : Int → Bool) : ∀ (n : Nat) (r : List (S88 × Bool)), asumP C n (r.map fun p => (toP p.1, p.2)) = asum C n r
  | _, [] => rfl
  | n, p :: r => by simp only [List.map_cons, asumP, asum]; rw [asumP_ref C (n + 1) r]; rfl
theorem area_bd {p : S103} (h : In8 p) : 1 ≤ p.f2 * p.f3 ∧ p.f2 * p.f3 ≤ 64 := by
  obtain ⟨x0, y0, w0, l0, x1, y1⟩ := h
  have h2 : p.f2 = 1 ∨ p.f2 = 2 ∨ p.f2 = 3 ∨ p.f2 = 4 ∨ p.f2 = 5 ∨ p.f2 = 6 ∨ p.f2 = 7 ∨ p.f2 = 8 := by omega
  rcases h2 with h | h | h | h | h | h | h | h <;> rw [h] <;> omega
theorem sum2_eq {a b : Int} (ha : 0 ≤ a ∧ a ≤ 1000000) (hb : 0 ≤ b ∧ b ≤ 1000000) : sum2 a b = a + b := by unfold sum2; rw [w64 (z := 0 + a) (by omega) (by omega), w64 (by omega) (by omega)]; omega
theorem tally_eq {l : List S115} (hw : ∀ x ∈ l, 0 ≤ x.f3 ∧ x.f3 ≤ 1000) (uses : List Int) : ∀ (r : List (S103 × Bool)) (n : Nat) (t : Tally), (∀ p ∈ r, In8 p.1) → n + r.length ≤ 500 → 0 ≤ t.sp ∧ t.sp ≤ 64 * n → 0 ≤ t.rm ∧ t.rm ≤ 64 * n → 0 ≤ t.wo ∧ t.wo ≤ 1000 * n → tally l uses n r t = ⟨t.sp + asumP (used01 uses) n r, t.rm + asumP (fun i => !used01 uses i) n r, t.wo + wsum l uses n r⟩
  | [], n, t, _, _, _, _, _ => by simp [tally, asumP, wsum]
  | p :: r, n, t, h8, hn, h1, h2, h3 => by
    simp only [List.length_cons] at hn
    have ha := area_bd (h8 p (by simp))
    have hu : unitsOf p.1 = p.1.f2 * p.1.f3 := by unfold unitsOf; rw [w64 (by omega) (by omega)]
    have hwi : 0 ≤ (l.getD (idx uses n).toNat z115).f3 ∧ (l.getD (idx uses n).toNat z115).f3 ≤ 1000 := by
      rw [List.getD_eq_getElem?_getD]
      cases h : l[(idx uses n).toNat]? with
      | none => decide
      | some x => exact hw x (List.mem_of_getElem? h)
    simp only [tally]
    have h8r : ∀ q ∈ r, In8 q.1 := fun q hq => h8 q (by simp [hq])
    cases hc : p.2 with
    | true =>
      simp only [if_true]
      rw [tally_eq hw uses r (n + 1) t h8r (by omega) (by omega) (by omega) (by omega)]
      simp only [asumP, wsum, hc, Bool.true_eq_false, false_and, if_false, Int.zero_add]
    | false =>
      simp only [Bool.false_eq_true, if_false]
      by_cases hi : 0 ≤ idx uses n
      · rw [tally1_use hi, hu, sum2_eq (by omega) (by omega), sum2_eq (by omega) (by omega), tally_eq hw uses r (n + 1) _ h8r (by omega) (by simp only; omega) (by simp only; omega) (by simp only; omega)]
        simp only [asumP, wsum, hc, used01, hi, decide_true, Bool.not_true, true_and, and_self, if_true, Bool.false_eq_true, and_false, if_false]
        congr 1 <;> omega
      · rw [tally1_rem hi, hu, sum2_eq (by omega) (by omega), tally_eq hw uses r (n + 1) _ h8r (by omega) (by simp only; omega) (by simp only; omega) (by simp only; omega)]
        simp only [asumP, wsum, hc, used01, hi, decide_false, Bool.not_false, true_and, and_self, if_true, Bool.false_eq_true, and_false, if_false]
        congr 1 <;> omega

/-! ### the worth -/
def wz : List (Int × S82) → Int → Int
  | [], _ => 0
  | p :: r, n => if n = p.1 then p.2.f3 else wz r n
theorem wz_idx : ∀ (uses : List Int) (l : List S82) (n : Int) (i : Nat), uses.length = l.length → (if 0 ≤ idxI uses n i then ((l.map toW).getD (idxI uses n i - i).toNat z115).f3 else 0) = wz (uses.zip l) n
  | [], [], _, _, _ => rfl
  | u :: us, x :: xs, n, i, h => by
    simp only [List.length_cons, Nat.succ.injEq] at h
    simp only [List.zip_cons_cons, wz]
    by_cases hu : n = u
    · have e1 : idxI (u :: us) n i = i := by simp only [idxI]; rw [if_pos hu]
      rw [e1, if_pos hu, if_pos (by omega)]
      simp [toW]
    · have e1 : idxI (u :: us) n i = idxI us n (i + 1) := by simp only [idxI]; rw [if_neg hu]
      rw [e1, if_neg hu, ← wz_idx us xs n (i + 1) h]
      rcases idxI_range us n (i + 1) with h1 | h1
      · rw [h1]; rfl
      · rw [if_pos (by omega), if_pos (by omega)]
        have e : (idxI us n (i + 1) - i).toNat = (idxI us n (i + 1) - ((i + 1 : Nat) : Int)).toNat + 1 := by omega
        rw [e]
        simp [List.getD_eq_getElem?_getD]
theorem used_tail {ps : List S88} {cs : List Bool} : ∀ (r : List (Int × S82)) (prev : List Int), usedR ps cs prev r = true → ∀ p ∈ r, 0 ≤ p.1 → p.1 ∉ prev ∧ rdOf false cs p.1 = false
  | [], _, _, p, hp, _ => by cases hp
  | (u, x) :: r, prev, h, p, hp, h0 => by
    rw [usedR] at h
    by_cases hu : u < 0
    · rw [if_pos hu] at h
      rcases List.mem_cons.1 hp with rfl | hp
      · simp only at h0; omega
      · have := used_tail r _ h p hp h0
        exact ⟨fun hm => this.1 (by simp [hm]), this.2⟩
    · rw [if_neg hu] at h
      by_cases hc : rdOf false cs u = true
      · rw [if_pos hc] at h; cases h
      · rw [if_neg hc] at h
        by_cases hf : fitR x (rd_T88 ps u) = true
        · rw [if_pos hf] at h
          by_cases hm : u ∈ prev
          · rw [if_pos hm] at h; cases h
          · rw [if_neg hm] at h
            rcases List.mem_cons.1 hp with rfl | hp
            · exact ⟨hm, by simpa using hc⟩
            · have := used_tail r _ h p hp h0
              exact ⟨fun hm => this.1 (by simp [hm]), this.2⟩
        · rw [if_neg hf] at h; cases h
theorem wz_none : ∀ (r : List (Int × S82)) (n : Int), (∀ p ∈ r, p.1 ≠ n) → wz r n = 0
  | [], _, _ => rfl
  | p :: r, n, h => by
    simp only [wz]
    rw [if_neg (fun e => h p (by simp) e.symm), wz_none r n (fun q hq => h q (by simp [hq]))]
def worthS : List (Int × S82) → Int
  | [] => 0
  | p :: r => (if 0 ≤ p.1 then p.2.f3 else 0) + worthS r
theorem wz_sum {ps : List S88} {cs : List Bool} {m : Nat} : ∀ (r : List (Int × S82)) (prev : List Int), usedR ps cs prev r = true → (∀ p ∈ r, p.1 < m) → s1 m (fun n => if rdOf false cs n = false then wz r n else 0) = worthS r
  | [], _, _, _ => by
    simp only [worthS]
    rw [s1_congr m (g := fun _ => 0) (fun i _ => by simp [wz]), s1_zero]
  | (u, x) :: r, prev, h, hm => by
    have hr := hm (u, x) (by simp)
    simp only at hr
    have h' := h
    rw [usedR] at h
    simp only [worthS]
    by_cases hu : u < 0
    · rw [if_pos hu] at h
      rw [if_neg (show ¬ 0 ≤ u by omega), ← wz_sum r _ h (fun p hp => hm p (by simp [hp])), Int.zero_add]
      exact s1_congr m (fun i _ => by simp only [wz]; rw [if_neg (show ¬ (i : Int) = u by omega)])
    · rw [if_neg hu] at h
      have hc : rdOf false cs u = false := (used_tail ((u, x) :: r) prev h' (u, x) (by simp) (by simp only; omega)).2
      rw [if_neg (by rw [hc]; simp)] at h
      by_cases hf : fitR x (rd_T88 ps u) = true
      · rw [if_pos hf] at h
        by_cases hmm : u ∈ prev
        · rw [if_pos hmm] at h; cases h
        · rw [if_neg hmm] at h
          have hz : wz r u = 0 := wz_none r u (fun p hp e => by
            by_cases hp0 : 0 ≤ p.1
            · exact (used_tail r _ h p hp hp0).1 (by rw [e]; simp)
            · omega)
          rw [if_pos (show 0 ≤ u by omega), ← wz_sum r _ h (fun p hp => hm p (by simp [hp]))]
          have e : ∀ i : Nat, i < m → (fun n : Int => if rdOf false cs n = false then wz ((u, x) :: r) n else 0) i = (fun n : Int => (if n = u then x.f3 else 0) + (if rdOf false cs n = false then wz r n else 0)) i := by
            intro i _
            dsimp only
            simp only [wz]
            by_cases hi : (i : Int) = u
            · rw [hi, if_pos hc, if_pos rfl, if_pos rfl, if_pos hc, hz]; omega
            · rw [if_neg hi, if_neg hi, Int.zero_add]
          rw [s1_congr m (g := fun n : Int => (if n = u then x.f3 else 0) + (if rdOf false cs n = false then wz r n else 0)) e, s1_add, s1_pick (by omega) hr]
      · rw [if_neg hf] at h; cases h
theorem worthW_eq : ∀ (r : List (Int × S82)) (a : Int), (∀ p ∈ r, 0 ≤ p.2.f3 ∧ p.2.f3 ≤ 1000) → r.length ≤ 1000 → 0 ≤ a → a + 1000 * r.length ≤ 10000000 → r.foldl (fun a p => if 0 ≤ p.1 then wrap64 (a + p.2.f3) else a) a = a + worthS r
  | [], a, _, _, _, _ => by simp [worthS]
  | p :: r, a, hw, hn, h0, h1 => by
    simp only [List.length_cons] at hn h1
    have hp := hw p (by simp)
    simp only [List.foldl_cons, worthS]
    have hw' : ∀ q ∈ r, 0 ≤ q.2.f3 ∧ q.2.f3 ≤ 1000 := fun q hq => hw q (by simp [hq])
    by_cases h : 0 ≤ p.1
    · rw [if_pos h, if_pos h, w64 (by omega) (by omega), worthW_eq r _ hw' (by omega) (by omega) (by omega)]; omega
    · rw [if_neg h, if_neg h, worthW_eq r a hw' (by omega) (by omega) (by omega)]; omega
theorem wsum_eq {l : List S82} {uses : List Int} (hl : uses.length = l.length) : ∀ (r : List (S103 × Bool)) (n m : Nat), m = n + r.length → ∀ cs : List Bool, (∀ i : Nat, i < r.length → ∀ p, r[i]? = some p → rdOf false cs ((n + i : Nat) : Int) = p.2) → s1 n (fun i => if rdOf false cs i = false then wz (uses.zip l) i else 0) + wsum (l.map toW) uses n r = s1 m (fun i => if rdOf false cs i = false then wz (uses.zip l) i else 0)
  | [], n, m, hm, _, _ => by simp at hm; subst hm; simp [wsum]
  | p :: r, n, m, hm, cs, h => by
    simp only [List.length_cons] at hm
    have h0 := h 0 (by simp) p (by simp)
    simp only [Nat.add_zero] at h0
    have ih := wsum_eq hl r (n + 1) m (by omega) cs (fun i hi q hq => by
      have := h (i + 1) (by simp; omega) q (by simpa using hq)
      rw [show n + 1 + i = n + (i + 1) by omega]; exact this)
    rw [← ih]
    simp only [wsum, s1]
    have e := wz_idx uses l n 0 hl
    simp only [Int.ofNat_eq_natCast, Int.natCast_zero, Int.sub_zero] at e
    rw [h0, ← e]
    unfold idx
    cases p.2 with
    | true => simp
    | false =>
      simp only [true_and, if_true]
      omega

/-! ### a right plan is weighed as the reference says -/
theorem steps_laid {a0 a1 a2 : Int} {l : List S82} {cuts : List S107} {st : List S88 × List Bool} (ho : PlOk a0 a1 a2 (l.map toW)) (hc : WB107 cuts) (hcm : cuts.length ≤ 1000) (hst : stepsR a2 ([⟨0, 0, a0, a1⟩], [false]) cuts = some st) : Laid a0 a1 (cv st).1 (cv st).2 := by
  obtain ⟨h1, -⟩ := steps_ref ho.saw cuts (st := ([⟨0, 0, a0, a1⟩], [false])) (fun p hp => by simp [cv] at hp; subst hp; exact ho.in8) hc rfl (by simp; omega)
  rw [hst] at h1
  exact laid_do ho.saw (cuts.map toC) (st := cv ([⟨0, 0, a0, a1⟩], [false])) (fun c hm => by
    obtain ⟨x, hx, rfl⟩ := List.mem_map.1 hm
    exact (hc x hx).2.2) (laid_start ho.wid ho.lng) h1
theorem zip_cv (st : List S88 × List Bool) : (cv st).1.zip (cv st).2 = (st.1.zip st.2).map fun p => (toP p.1, p.2) := by
  show (st.1.map toP).zip st.2 = _
  rw [List.zip_map_left]; rfl
theorem laid_zip {a0 a1 : Int} {st : List S88 × List Bool} (h : Laid a0 a1 (cv st).1 (cv st).2) : (∀ p ∈ st.1.zip st.2, In8 (toP p.1) ∧ In a0 a1 (toP p.1)) ∧ (st.1.zip st.2).Pairwise (fun p q => p.2 = false → q.2 = false → Apart (toP p.1) (toP q.1)) := by
  constructor
  · intro p hp
    have hm : toP p.1 ∈ (cv st).1 := List.mem_map.2 ⟨p.1, (List.of_mem_zip hp).1, rfl⟩
    exact ⟨h.in8 _ hm, h.ins _ hm⟩
  · rw [List.pairwise_iff_getElem]
    intro i j hi hj hij hpi hpj
    rw [List.length_zip] at hi hj
    rw [List.getElem_zip] at hpi hpj ⊢
    rw [List.getElem_zip]
    refine h.apart i j _ _ hij ?_ ?_ ?_ ?_
    · show (st.1.map toP)[i]? = _
      rw [List.getElem?_map, List.getElem?_eq_getElem (by omega)]; rfl
    · show (st.1.map toP)[j]? = _
      rw [List.getElem?_map, List.getElem?_eq_getElem (by omega)]; rfl
    · show st.2[i]? = _
      rw [List.getElem?_eq_getElem (by omega)]; rw [← hpi]
    · show st.2[j]? = _
      rw [List.getElem?_eq_getElem (by omega)]; rw [← hpj]
theorem weigh_law {a0 a1 a2 : Int} {l : List S82} {cuts : List S107} {uses : List Int} {st : List S88 × List Bool} (hc : WB107 cuts) (h : Right a0 a1 a2 l cuts uses st) :
    plate_Weigh.f a0 a1 a2 (l.map toW) (cuts.map toC) uses = some ((allW uses (fun x y => traceR x y 0 (st.1.zip st.2)) a0.toNat a1.toNat).1, (allW uses (fun x y => traceR x y 0 (st.1.zip st.2)) a0.toNat a1.toNat).2.1, (allW uses (fun x y => traceR x y 0 (st.1.zip st.2)) a0.toNat a1.toNat).2.2, worthW (uses.zip l), 0) ∧
    (tallyOf (l.map toW) uses (cv st)).wo = worthW (uses.zip l) := by
  have hL := steps_laid h.ok hc (by have := h.c40; omega) h.steps
  obtain ⟨hz1, hz2⟩ := laid_zip hL
  have hlen : st.2.length = st.1.length := by have := hL.len; simpa [cv] using this
  have hm : st.1.length ≤ 81 := by have := (stepsR_len cuts h.steps rfl).2.2; have h40 := h.c40; simp at this; omega
  have hw : ∀ x ∈ l.map toW, 0 ≤ x.f3 ∧ x.f3 ≤ 1000 := fun x hx => (h.ok.all x hx).worth
  have hw2 : ∀ x ∈ l, 0 ≤ x.f3 ∧ x.f3 ≤ 1000 := fun x hx => hw (toW x) (List.mem_map.2 ⟨x, hx, rfl⟩)
  obtain ⟨X, hX⟩ : ∃ X : Nat, a0 = X := ⟨a0.toNat, by have := h.ok.wid; omega⟩
  obtain ⟨Y, hY⟩ : ∃ Y : Nat, a1 = Y := ⟨a1.toNat, by have := h.ok.lng; omega⟩
  have hX8 : X ≤ 8 := by have := h.ok.wid; omega
  have hY8 : Y ≤ 8 := by have := h.ok.lng; omega
  subst hX hY
  rw [Int.toNat_natCast, Int.toNat_natCast]
  have hta : tallyOf (l.map toW) uses (cv st) = ⟨asum (used01 uses) 0 (st.1.zip st.2), asum (fun i => !used01 uses i) 0 (st.1.zip st.2), wsum (l.map toW) uses 0 ((cv st).1.zip (cv st).2)⟩ := by
    unfold tallyOf
    rw [tally_eq hw uses _ 0 ⟨0, 0, 0⟩ (fun p hp => hL.in8 _ (List.of_mem_zip hp).1) (by rw [List.length_zip]; simp [cv]; omega) (by simp) (by simp) (by simp), zip_cv, asumP_ref, asumP_ref]
    simp
  have e1 := su_trace (X := X) (Y := Y) (used01 uses) 0 (st.1.zip st.2) hz1 hz2
  have e2 := su_trace (X := X) (Y := Y) (fun i => !used01 uses i) 0 (st.1.zip st.2) hz1 hz2
  obtain ⟨T, hT⟩ : ∃ T : Int → Int → Int, (fun x y => traceR x y 0 (st.1.zip st.2)) = T := ⟨_, rfl⟩
  have hTT : ∀ x y, traceR x y 0 (st.1.zip st.2) = T x y := fun x y => by rw [← hT]
  simp only [hTT] at e1 e2
  rw [hT, allW_eq uses T hY8 X (by omega)]
  have e3 : su X Y (fun x y => iS uses (T x y)) + su X Y (fun x y => iR uses (T x y)) + su X Y (fun x y => iC (T x y)) = X * Y := by
    rw [← su_add, ← su_add, su_congr (g := fun _ _ => 1) (fun x y _ _ => ind_sum uses (T x y))]
    unfold su
    rw [s1_congr X (g := fun _ => (Y : Int) * 1) (fun x _ => by rw [s1_one]; omega), s1_mul, s1_one, Int.mul_comm]
  have b1 : 0 ≤ su X Y (fun x y => iS uses (T x y)) ∧ su X Y (fun x y => iS uses (T x y)) ≤ X * 8 := s1_bd X (fun i _ => by have := s1_bd (f := fun y => iS uses (T i y)) (b := 1) Y (fun j _ => (ind_bd uses _).1); dsimp only; omega)
  have b2 : 0 ≤ su X Y (fun x y => iR uses (T x y)) ∧ su X Y (fun x y => iR uses (T x y)) ≤ X * 8 := s1_bd X (fun i _ => by have := s1_bd (f := fun y => iR uses (T i y)) (b := 1) Y (fun j _ => (ind_bd uses _).2.1); dsimp only; omega)
  have b3 : (0 : Int) ≤ X * Y ∧ (X : Int) * Y ≤ 64 := by
    have h8 : X = 0 ∨ X = 1 ∨ X = 2 ∨ X = 3 ∨ X = 4 ∨ X = 5 ∨ X = 6 ∨ X = 7 ∨ X = 8 := by omega
    rcases h8 with h | h | h | h | h | h | h | h | h <;> rw [h] <;> constructor <;> omega
  have e1' : su X Y (fun x y => iS uses (T x y)) = asum (used01 uses) 0 (st.1.zip st.2) := e1
  have e2' : su X Y (fun x y => iR uses (T x y)) = asum (fun i => !used01 uses i) 0 (st.1.zip st.2) := e2
  have ewo : wsum (l.map toW) uses 0 ((cv st).1.zip (cv st).2) = worthW (uses.zip l) := by
    have f1 := wsum_eq h.len ((cv st).1.zip (cv st).2) 0 st.1.length (by rw [List.length_zip]; simp [cv, hlen]) st.2 (fun i hi p hp => by
      rw [Nat.zero_add]
      obtain ⟨hi', he⟩ := List.getElem?_eq_some_iff.1 hp
      rw [List.getElem_zip] at he
      have h2 : i < st.2.length := by rw [List.length_zip] at hi; exact Nat.lt_of_lt_of_le hi (Nat.min_le_right _ _)
      rw [← he]
      simp [rdOf, cv, List.getD_eq_getElem?_getD, List.getElem?_eq_getElem h2])
    simp only [s1, Int.zero_add] at f1
    rw [f1, wz_sum (uses.zip l) [] h.used (fun p hp => (h.rng p.1 (List.of_mem_zip hp).1).2)]
    unfold worthW
    rw [worthW_eq (uses.zip l) 0 (fun p hp => hw2 p.2 (List.of_mem_zip hp).2) (by rw [List.length_zip]; have := h.l4; omega) (Int.le_refl _) (by rw [List.length_zip]; have := h.l4; omega), Int.zero_add]
  refine ⟨?_, by rw [hta]; exact ewo⟩
  unfold plate_Weigh.f
  rw [h.planned]
  dsimp only
  rw [hta]
  unfold chipsOf
  dsimp only
  rw [sum2_eq (by omega) (by omega), w64 (z := (X : Int) * Y) (by omega) (by omega), w64 (by omega) (by omega), ewo, e1', e2']
  have e4 : (X : Int) * Y - (asum (used01 uses) 0 (st.1.zip st.2) + asum (fun i => !used01 uses i) 0 (st.1.zip st.2)) = su X Y (fun x y => iC (T x y)) := by omega
  rw [e4]
end Go.Proofs.Ytffjbaknglemdaa.X
