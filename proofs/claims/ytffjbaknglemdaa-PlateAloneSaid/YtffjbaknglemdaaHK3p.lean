import Derived.Test.YtffjbaknglemdaaHK2
namespace Go.Proofs.Ytffjbaknglemdaa.X
open Go.RowKit Go.Maps Go.Proofs.YtffjbaknglemdaaW.PrintWords Go.Proofs.YtffjbaknglemdaaW.PrintLast Go.Proofs.YtffjbaknglemdaaW.PrintMore
set_option linter.unusedSimpArgs false
set_option linter.unusedVariables false

/-! ### what best computes -/
structure Stp where
 worth : Int
 cuts : Int
 use : Int
 cut : Bool
 how : S112
 first : W4
def stp0 : Stp := ⟨0, 0, -1, false, ⟨0, false, 0⟩, W4.none4⟩
def stpCells (s : Stp) : List Value := [.int .i64 s.worth, .int .i64 s.cuts, .int .i64 s.use, .bool s.cut, .int .i64 s.how.f0, .bool s.how.f1, .int .i64 s.how.f2, .bool s.first.b0, .bool s.first.b1, .bool s.first.b2, .bool s.first.b3]
def stpV (s : Stp) : Value := .agg (stpCells s).toArray
def stateV (p : S103) (w : W4) : Value := .agg #[.int .i64 p.f0, .int .i64 p.f1, .int .i64 p.f2, .int .i64 p.f3, .bool w.b0, .bool w.b1, .bool w.b2, .bool w.b3]
def better (w1 c1 w2 c2 : Int) : Bool := decide (w1 > w2) || (decide (w1 = w2) && decide (c1 < c2))
/-- The specimens, from number i on. -/
def useAll (p : S103) (w : W4) : List S115 → Nat → Stp → Stp
 | [], _, out => out
 | x :: l, i, out => useAll p w l (i + 1) (if w.get i = true ∧ fitsB x p = true ∧ better x.f3 0 out.worth out.cuts = true then ⟨x.f3, 0, i, false, ⟨0, false, 0⟩, W4.none4⟩ else out)
/-- The gain of a cut whose parts are ps and wants ws. -/
def gains (sub : S103 → W4 → Stp) : List (S103 × W4) → Int × Int → Int × Int
 | [], g => g
 | x :: r, g => gains sub r (wrap64 (g.1 + (sub x.1 x.2).worth), wrap64 (g.2 + (sub x.1 x.2).cuts))
def see1 (sub : S103 → W4 → Stp) (w : W4) (ps : List S103) (c : S112) (out : Stp) (part : W4) : Stp :=
 if ps.length = 1 ∧ part ≠ w then out else
 let g := gains sub (ps.zip [part, w.less part]) (0, 1)
 if better g.1 g.2 out.worth out.cuts = true then ⟨g.1, g.2, -1, true, c, part⟩ else out
def cutAll (sub : S103 → W4 → Stp) (saw : Int) (p : S103) (w : W4) : List S112 → Stp → Stp
 | [], out => out
 | c :: r, out => cutAll sub saw p w r (w.parts.foldl (see1 sub w (partsOf c.f1 p c.f2 saw) c) out)
def bestF (l : List S115) (saw : Int) : Nat → S103 → W4 → Stp
 | 0, _, _ => stp0
 | n + 1, p, w => if w = W4.none4 then stp0 else cutAll (bestF l saw n) saw p w (cutsOf saw p) (useAll p w l 0 stp0)
def msr (p : S103) : Nat := (p.f2 + p.f3).toNat
def bestP (l : List S115) (saw : Int) (p : S103) (w : W4) : Stp := bestF l saw (msr p + 1) p w
theorem better_f (a b c d : Int) : plate_gain_better.f a b c d = some (better a b c d) := by
 unfold plate_gain_better.f better
 by_cases h1 : a > c
 ·rw [if_pos h1]; simp [h1]
 ·rw [if_neg h1]
  by_cases h2 : a = c
  ·rw [if_pos h2]; simp [h2]
  ·rw [if_neg h2]; simp [h1, h2]
/-- A piece of a plate. -/
def POk (p : S103) : Prop := 1 ≤ p.f2 ∧ p.f2 ≤ 8 ∧ 1 ≤ p.f3 ∧ p.f3 ≤ 8
theorem parts_ok {across : Bool} {p : S103} {at_ saw : Int} (hp : POk p) (hs : 0 ≤ saw ∧ saw ≤ 2) (hat : at_ ≤ 9223372036854775807) : ∀ x ∈ partsOf across p at_ saw, POk x ∧ msr x < msr p := by
 intro x hx
 obtain ⟨h1, h2, h3, h4⟩ := hp
 unfold partsOf at hx
 by_cases ha : at_ < 0
 ·rw [if_pos ha] at hx; cases hx
 rw [if_neg ha] at hx
 by_cases hr : restOf across p at_ saw < 0
 ·rw [if_pos hr] at hx; cases hx
 rw [if_neg hr] at hx
 by_cases hz : saw = 0 ∧ (at_ = 0 ∨ restOf across p at_ saw = 0)
 ·rw [if_pos hz] at hx; cases hx
 rw [if_neg hz] at hx
 have hw : ∀ z : Int, -9223372036854775808 ≤ z → z ≤ 9223372036854775807 → wrap64 z = z := fun z h1 h2 => by unfold wrap64; omega
 cases across with
 | false =>
  have hre : restOf false p at_ saw = p.f2 - at_ - saw := by
   unfold restOf farOf; simp only [Bool.false_eq_true, if_false]; rw [hw (p.f2 - at_) (by omega) (by omega), hw _ (by omega) (by omega)]
  rw [hre] at hr hz hx
  rcases List.mem_append.1 hx with hx | hx
  ·split at hx
   ·simp [partOf] at hx; subst hx; unfold POk msr; simp; omega
   ·cases hx
  ·split at hx
   ·simp [partOf] at hx; subst hx; unfold POk msr; simp; omega
   ·cases hx
 | true =>
  have hre : restOf true p at_ saw = p.f3 - at_ - saw := by
   unfold restOf farOf; simp only [if_true]; rw [hw (p.f3 - at_) (by omega) (by omega), hw _ (by omega) (by omega)]
  rw [hre] at hr hz hx
  rcases List.mem_append.1 hx with hx | hx
  ·split at hx
   ·simp [partOf] at hx; subst hx; unfold POk msr; simp; omega
   ·cases hx
  ·split at hx
   ·simp [partOf] at hx; subst hx; unfold POk msr; simp; omega
   ·cases hx
theorem gains_congr {sub sub' : S103 → W4 → Stp} : ∀ (l : List (S103 × W4)) (g : Int × Int), (∀ x ∈ l, sub x.1 x.2 = sub' x.1 x.2) → gains sub l g = gains sub' l g
 | [], g, _ => rfl
 | x :: r, g, h => by
  simp only [gains]
  rw [h x List.mem_cons_self]
  exact gains_congr r _ (fun y hy => h y (List.mem_cons_of_mem _ hy))
theorem see1_congr {sub sub' : S103 → W4 → Stp} {w : W4} {ps : List S103} {c : S112} {out : Stp} {part : W4} (h : ∀ x ∈ ps, ∀ v, sub x v = sub' x v) : see1 sub w ps c out part = see1 sub' w ps c out part := by
 unfold see1
 rw [gains_congr (sub := sub) (sub' := sub') (ps.zip [part, w.less part]) (0, 1) (fun x hx => h x.1 (List.of_mem_zip hx).1 x.2)]
theorem foldl_congr' {α β : Type} {f g : β → α → β} : ∀ (l : List α) (b : β), (∀ b, ∀ x ∈ l, f b x = g b x) → l.foldl f b = l.foldl g b
 | [], b, _ => rfl
 | x :: r, b, h => by
  simp only [List.foldl_cons]
  rw [h b x List.mem_cons_self]
  exact foldl_congr' r _ (fun b y hy => h b y (List.mem_cons_of_mem _ hy))
theorem cutAll_congr {sub sub' : S103 → W4 → Stp} {saw : Int} {p : S103} {w : W4} : ∀ (cs : List S112) (out : Stp), (∀ c ∈ cs, ∀ x ∈ partsOf c.f1 p c.f2 saw, ∀ v, sub x v = sub' x v) → cutAll sub saw p w cs out = cutAll sub' saw p w cs out
 | [], out, _ => rfl
 | c :: r, out, h => by
  simp only [cutAll]
  rw [foldl_congr' (g := see1 sub' w (partsOf c.f1 p c.f2 saw) c) w.parts out (fun b x _ => see1_congr (h c List.mem_cons_self))]
  exact cutAll_congr r _ (fun c' hc' => h c' (List.mem_cons_of_mem _ hc'))
theorem cutsRow_at {saw : Int} {p : S103} {across : Bool} : ∀ n i, ∀ c ∈ cutsRow saw p across n i, (i : Int) ≤ c.f2 ∧ c.f2 < (i : Int) + n
 | 0, _, c, hc => by cases hc
 | n + 1, i, c, hc => by
  simp only [cutsRow] at hc
  rcases List.mem_append.1 hc with hc | hc
  ·split at hc
   ·cases hc
   ·simp at hc; subst hc; simp; omega
  ·have := cutsRow_at n (i + 1) c hc; omega
theorem cutsOf_at {saw : Int} {p : S103} (hp : POk p) : ∀ c ∈ cutsOf saw p, 0 ≤ c.f2 ∧ c.f2 ≤ 8 := by
 intro c hc
 obtain ⟨h1, h2, h3, h4⟩ := hp
 rcases List.mem_append.1 hc with hc | hc
 ·have := cutsRow_at _ _ c hc; omega
 ·have := cutsRow_at _ _ c hc; omega
theorem bestF_stable {l : List S115} {saw : Int} (hs : 0 ≤ saw ∧ saw ≤ 2) : ∀ n m p w, POk p → msr p < n → msr p < m → bestF l saw n p w = bestF l saw m p w := by
 intro n
 induction n with
 | zero => intro m p w _ h _; omega
 | succ n ih =>
  intro m p w hp hn hm
  obtain ⟨m, rfl⟩ : ∃ k, m = k + 1 := ⟨m - 1, by omega⟩
  simp only [bestF]
  split
  ·rfl
  ·refine cutAll_congr _ _ (fun c hc x hx v => ?_)
   have h8 := cutsOf_at hp c hc
   obtain ⟨hx1, hx2⟩ := parts_ok hp hs (by omega) x hx
   exact ih m x v hx1 (by omega) (by omega)
/-- What best says of a state, by what it says of smaller ones. -/
theorem bestP_step {l : List S115} {saw : Int} (hs : 0 ≤ saw ∧ saw ≤ 2) {p : S103} {w : W4} (hp : POk p) : bestP l saw p w = if w = W4.none4 then stp0 else cutAll (bestP l saw) saw p w (cutsOf saw p) (useAll p w l 0 stp0) := by
 unfold bestP
 conv => lhs; unfold bestF
 split
 ·rfl
 ·refine cutAll_congr _ _ (fun c hc x hx v => ?_)
  have h8 := cutsOf_at hp c hc
  obtain ⟨hx1, hx2⟩ := parts_ok hp hs (by omega) x hx
  exact bestF_stable hs _ _ x v hx1 (by omega) (by omega)
end Go.Proofs.Ytffjbaknglemdaa.X
