import Derived.Test.YtffjbaknglemdaaHK3p
namespace Go.Proofs.Ytffjbaknglemdaa.X
open Go.RowKit Go.Maps Go.Proofs.YtffjbaknglemdaaW.PrintWords Go.Proofs.YtffjbaknglemdaaW.PrintLast Go.Proofs.YtffjbaknglemdaaW.PrintMore
set_option linter.unusedSimpArgs false
set_option linter.unusedVariables false

/-! ### wants -/
def W4.sub (u w : W4) : Prop := (u.b0 = true → w.b0 = true) ∧ (u.b1 = true → w.b1 = true) ∧ (u.b2 = true → w.b2 = true) ∧ (u.b3 = true → w.b3 = true)
theorem mem_parts (u w : W4) : u ∈ w.parts ↔ u.sub w := by
 obtain ⟨a, b, c, d⟩ := u
 obtain ⟨e, f, g, h⟩ := w
 cases a <;> cases b <;> cases c <;> cases d <;> cases e <;> cases f <;> cases g <;> cases h <;> simp [W4.parts, W4.from_, W4.sub, W4.get, W4.set, W4.none4]
theorem W4.sub_refl (w : W4) : w.sub w := ⟨id, id, id, id⟩
theorem W4.less_sub (w u : W4) : (w.less u).sub w := by
 obtain ⟨a, b, c, d⟩ := u
 obtain ⟨e, f, g, h⟩ := w
 cases a <;> cases b <;> cases c <;> cases d <;> cases e <;> cases f <;> cases g <;> cases h <;> simp [W4.less, W4.sub]
theorem W4.less_mono {u v w : W4} (h : v.sub w) : (v.less u).sub (w.less u) := by
 obtain ⟨a, b, c, d⟩ := u
 obtain ⟨h0, h1, h2, h3⟩ := h
 unfold W4.sub W4.less
 refine ⟨?_, ?_, ?_, ?_⟩ <;> simp_all
theorem W4.sub_trans {u v w : W4} (h : u.sub v) (k : v.sub w) : u.sub w := ⟨k.1 ∘ h.1, k.2.1 ∘ h.2.1, k.2.2.1 ∘ h.2.2.1, k.2.2.2 ∘ h.2.2.2⟩
theorem W4.sub_get {u w : W4} (h : u.sub w) {i : Nat} (hi : u.get i = true) : w.get i = true := by
 match i with
 | 0 => exact h.1 hi
 | 1 => exact h.2.1 hi
 | 2 => exact h.2.2.1 hi
 | _ + 3 => exact h.2.2.2 hi
/-- The worth of all that is wanted. -/
def wIf (b : Bool) (x : Option S115) : Int := if b = true then (match x with | some x => x.f3 | none => 0) else 0
def tot (l : List S115) (w : W4) : Int := wIf w.b0 l[0]? + wIf w.b1 l[1]? + wIf w.b2 l[2]? + wIf w.b3 l[3]?
theorem wIf_split (x : Option S115) (a b : Bool) (h : a = true → b = true) : wIf a x + wIf (b && !a) x = wIf b x := by cases a <;> cases b <;> simp_all [wIf]
theorem tot_split (l : List S115) {u w : W4} (h : u.sub w) : tot l u + tot l (w.less u) = tot l w := by
 unfold tot W4.less
 have h0 := wIf_split l[0]? u.b0 w.b0 h.1
 have h1 := wIf_split l[1]? u.b1 w.b1 h.2.1
 have h2 := wIf_split l[2]? u.b2 w.b2 h.2.2.1
 have h3 := wIf_split l[3]? u.b3 w.b3 h.2.2.2
 simp only at *
 omega
/-- Specimens as a valid plate has them: their worth, and how many. -/
structure LOk (l : List S115) : Prop where
 len : l.length ≤ 4
 worth : ∀ x ∈ l, 0 ≤ x.f3 ∧ x.f3 ≤ 1000
theorem wIf_bd {l : List S115} (hl : LOk l) (i : Nat) (b : Bool) : 0 ≤ wIf b l[i]? ∧ wIf b l[i]? ≤ 1000 := by
 unfold wIf
 split
 ·cases h : l[i]? with
  | none => simp
  | some x => exact hl.worth x (List.mem_of_getElem? h)
 ·omega
theorem tot_bd {l : List S115} (hl : LOk l) (w : W4) : 0 ≤ tot l w ∧ tot l w ≤ 4000 := by
 unfold tot
 have h0 := wIf_bd hl 0 w.b0
 have h1 := wIf_bd hl 1 w.b1
 have h2 := wIf_bd hl 2 w.b2
 have h3 := wIf_bd hl 3 w.b3
 omega
theorem tot_use {l : List S115} (hl : LOk l) {w : W4} {i : Nat} {x : S115} (hi : l[i]? = some x) (hw : w.get i = true) : x.f3 ≤ tot l w := by
 unfold tot
 have h0 := wIf_bd hl 0 w.b0
 have h1 := wIf_bd hl 1 w.b1
 have h2 := wIf_bd hl 2 w.b2
 have h3 := wIf_bd hl 3 w.b3
 have hlt := (List.getElem?_eq_some_iff.1 hi).1
 have hle := hl.len
 have : i = 0 ∨ i = 1 ∨ i = 2 ∨ i = 3 := by omega
 rcases this with rfl | rfl | rfl | rfl
 ·have e : wIf w.b0 l[0]? = x.f3 := by rw [hi, show w.b0 = true from hw]; rfl
  omega
 ·have e : wIf w.b1 l[1]? = x.f3 := by rw [hi, show w.b1 = true from hw]; rfl
  omega
 ·have e : wIf w.b2 l[2]? = x.f3 := by rw [hi, show w.b2 = true from hw]; rfl
  omega
 ·have e : wIf w.b3 l[3]? = x.f3 := by rw [hi, show w.b3 = true from hw]; rfl
  omega

/-! ### parts of a piece -/
def area (p : S103) : Int := p.f2 * p.f3
theorem w64 {z : Int} (h1 : -9223372036854775808 ≤ z) (h2 : z ≤ 9223372036854775807) : wrap64 z = z := by unfold wrap64; omega
def far (across : Bool) (p : S103) : Int := if across then p.f3 else p.f2
/-- A part of a piece: from unit f on, m units of it. -/
def part_ (across : Bool) (p : S103) (f m : Int) : S103 := if across then ⟨p.f0, p.f1 + f, p.f2, m⟩ else ⟨p.f0 + f, p.f1, m, p.f3⟩
/-- A piece of a plate of at most 8 by 8 units. -/
structure In8 (p : S103) : Prop where
 x0 : 0 ≤ p.f0
 y0 : 0 ≤ p.f1
 w0 : 1 ≤ p.f2
 l0 : 1 ≤ p.f3
 x1 : p.f0 + p.f2 ≤ 8
 y1 : p.f1 + p.f3 ≤ 8
theorem In8.ok {p : S103} (h : In8 p) : POk p := by obtain ⟨a, b, c, d, e, f⟩ := h; unfold POk; omega
/-- The parts of a piece, without any wrapping. -/
def partsN (across : Bool) (p : S103) (at_ saw : Int) : List S103 :=
 if at_ < 0 ∨ far across p - at_ - saw < 0 ∨ (saw = 0 ∧ (at_ = 0 ∨ far across p - at_ - saw = 0)) then [] else
 (if 0 < at_ then [part_ across p 0 at_] else []) ++ (if 0 < far across p - at_ - saw then [part_ across p (at_ + saw) (far across p - at_ - saw)] else [])
theorem partsOf_eq {across : Bool} {p : S103} {at_ saw : Int} (hp : In8 p) (hs : 0 ≤ saw ∧ saw ≤ 2) (ha : at_ ≤ 9223372036854775807) : partsOf across p at_ saw = partsN across p at_ saw := by
 obtain ⟨x0, y0, w0, l0, x1, y1⟩ := hp
 unfold partsOf partsN
 by_cases h1 : at_ < 0
 ·rw [if_pos h1, if_pos (.inl h1)]
 have hr : restOf across p at_ saw = far across p - at_ - saw := by
  unfold restOf farOf far
  cases across
  ·simp only [Bool.false_eq_true, if_false]; rw [w64 (z := p.f2 - at_) (by omega) (by omega), w64 (by omega) (by omega)]
  ·simp only [if_true]; rw [w64 (z := p.f3 - at_) (by omega) (by omega), w64 (by omega) (by omega)]
 rw [if_neg h1, hr]
 by_cases h2 : far across p - at_ - saw < 0
 ·rw [if_pos h2, if_pos (.inr (.inl h2))]
 rw [if_neg h2]
 by_cases h3 : saw = 0 ∧ (at_ = 0 ∨ far across p - at_ - saw = 0)
 ·rw [if_pos h3, if_pos (.inr (.inr h3))]
 rw [if_neg h3, if_neg (show ¬ (at_ < 0 ∨ far across p - at_ - saw < 0 ∨ (saw = 0 ∧ (at_ = 0 ∨ far across p - at_ - saw = 0))) from by omega)]
 have hf : far across p ≤ 8 := by unfold far; split <;> omega
 have e1 : partOf across p 0 at_ = part_ across p 0 at_ := by unfold partOf part_; rw [w64 (by omega) (by omega), w64 (by omega) (by omega)]
 have e2 : partOf across p (wrap64 (at_ + saw)) (far across p - at_ - saw) = part_ across p (at_ + saw) (far across p - at_ - saw) := by
  unfold partOf part_; rw [w64 (z := at_ + saw) (by omega) (by omega), w64 (by omega) (by omega), w64 (by omega) (by omega)]
 rw [e1, e2]
/-- A cut that leaves one part, or two. -/
theorem partsN_cases {across : Bool} {p : S103} {at_ saw : Int} (hp : In8 p) (hs : 0 ≤ saw ∧ saw ≤ 2) :
  partsN across p at_ saw = [] ∨
  (partsN across p at_ saw = [part_ across p 0 at_] ∧ 1 ≤ saw ∧ 0 < at_ ∧ at_ + saw = far across p) ∨
  (partsN across p at_ saw = [part_ across p saw (far across p - saw)] ∧ 1 ≤ saw ∧ at_ = 0 ∧ saw < far across p) ∨
  (partsN across p at_ saw = [part_ across p 0 at_, part_ across p (at_ + saw) (far across p - at_ - saw)] ∧ 0 < at_ ∧ at_ + saw < far across p) := by
 unfold partsN
 split
 ·exact .inl rfl
 ·rename_i h
  by_cases h1 : 0 < at_
  ·rw [if_pos h1]
   by_cases h2 : 0 < far across p - at_ - saw
   ·rw [if_pos h2]; exact .inr (.inr (.inr ⟨rfl, h1, by omega⟩))
   ·rw [if_neg h2]; exact .inr (.inl ⟨rfl, by omega, h1, by omega⟩)
  ·rw [if_neg h1]
   obtain rfl : at_ = 0 := by omega
   by_cases h2 : 0 < far across p - 0 - saw
   ·rw [if_pos h2]; exact .inr (.inr (.inl ⟨by simp, by omega, rfl, by omega⟩))
   ·rw [if_neg h2]; exact .inl rfl
theorem part_in8 {across : Bool} {p : S103} {f m : Int} (hp : In8 p) (h0 : 0 ≤ f) (h1 : 1 ≤ m) (h2 : f + m ≤ far across p) : In8 (part_ across p f m) := by
 obtain ⟨x0, y0, w0, l0, x1, y1⟩ := hp
 unfold far at h2
 unfold part_
 cases across <;> simp only [Bool.false_eq_true, if_false, if_true] at * <;> constructor <;> simp only <;> omega
theorem partsN_in8 {across : Bool} {p : S103} {at_ saw : Int} (hp : In8 p) (hs : 0 ≤ saw ∧ saw ≤ 2) : ∀ x ∈ partsN across p at_ saw, In8 x ∧ msr x < msr p := by
 have hm : ∀ f m, 1 ≤ m → m < far across p → msr (part_ across p f m) < msr p := by
  intro f m h1 h2
  obtain ⟨x0, y0, w0, l0, x1, y1⟩ := hp
  unfold far at h2
  unfold msr part_
  cases across <;> simp only [Bool.false_eq_true, if_false, if_true] at * <;> omega
 intro x hx
 rcases partsN_cases hp hs (across := across) (at_ := at_) with h | ⟨h, h1, h2, h3⟩ | ⟨h, h1, h2, h3⟩ | ⟨h, h1, h2⟩ <;> rw [h] at hx
 ·cases hx
 ·simp at hx; subst hx; exact ⟨part_in8 hp (by omega) (by omega) (by omega), hm _ _ (by omega) (by omega)⟩
 ·simp at hx; subst hx; exact ⟨part_in8 hp (by omega) (by omega) (by omega), hm _ _ (by omega) (by omega)⟩
 ·simp at hx
  rcases hx with rfl | rfl
  ·exact ⟨part_in8 hp (by omega) (by omega) (by omega), hm _ _ (by omega) (by omega)⟩
  ·exact ⟨part_in8 hp (by omega) (by omega) (by omega), hm _ _ (by omega) (by omega)⟩
theorem area_part {across : Bool} {p : S103} {f m : Int} : area (part_ across p f m) = (if across then p.f2 else p.f3) * m := by
 unfold area part_; cases across <;> simp [Int.mul_comm]
theorem area_far {across : Bool} {p : S103} : area p = (if across then p.f2 else p.f3) * far across p := by
 unfold area far; cases across <;> simp [Int.mul_comm]

/-! ### cutting trees: what can be done with a piece, what it is worth, with how many cuts -/
inductive Tr (l : List S115) (saw : Int) : S103 → W4 → Int → Int → Prop
 | none (p : S103) (w : W4) : Tr l saw p w 0 0
 | use (p : S103) (w : W4) (i : Nat) (x : S115) : l[i]? = some x → w.get i = true → fitsB x p = true → Tr l saw p w x.f3 0
 | one (p : S103) (w : W4) (ac : Bool) (at_ : Int) (a : S103) (g k : Int) : partsN ac p at_ saw = [a] → Tr l saw a w g k → Tr l saw p w g (k + 1)
 | two (p : S103) (w : W4) (ac : Bool) (at_ : Int) (a b : S103) (u : W4) (g h k m : Int) : partsN ac p at_ saw = [a, b] → u.sub w → Tr l saw a u g k → Tr l saw b (w.less u) h m → Tr l saw p w (g + h) (k + m + 1)
theorem Tr.mono {l : List S115} {saw : Int} {p : S103} {v : W4} {g k : Int} (h : Tr l saw p v g k) : ∀ {w : W4}, v.sub w → Tr l saw p w g k := by
 induction h with
 | none p v => intro w _; exact .none p w
 | use p v i x h1 h2 h3 => intro w hs; exact .use p w i x h1 (W4.sub_get hs h2) h3
 | one p v ac at_ a g k h1 h2 ih => intro w hs; exact .one p w ac at_ a g k h1 (ih hs)
 | two p v ac at_ a b u g h k m h1 h2 h3 h4 ih1 ih2 => intro w hs; exact .two p w ac at_ a b u g h k m h1 (W4.sub_trans h2 hs) h3 (ih2 (W4.less_mono hs))
theorem Tr.bd {l : List S115} (hl : LOk l) {saw : Int} {p : S103} {w : W4} {g k : Int} (h : Tr l saw p w g k) : 0 ≤ g ∧ g ≤ tot l w ∧ 0 ≤ k := by
 induction h with
 | none p v => have := tot_bd hl v; omega
 | use p v i x h1 h2 h3 => have := tot_use hl h1 h2; have := hl.worth x (List.mem_of_getElem? h1); omega
 | one p v ac at_ a g k h1 h2 ih => omega
 | two p v ac at_ a b u g h k m h1 h2 h3 h4 ih1 ih2 => have := tot_split l h2; omega
theorem mul_le_8 {a b c : Int} (ha : 1 ≤ a ∧ a ≤ 8) (h : b + 1 ≤ c) : a * b + 1 ≤ a * c := by
 have : a = 1 ∨ a = 2 ∨ a = 3 ∨ a = 4 ∨ a = 5 ∨ a = 6 ∨ a = 7 ∨ a = 8 := by omega
 rcases this with rfl | rfl | rfl | rfl | rfl | rfl | rfl | rfl <;> omega
theorem mul_le_8' {a b c d : Int} (ha : 1 ≤ a ∧ a ≤ 8) (h : b + d ≤ c) : a * b + a * d ≤ a * c := by
 have : a = 1 ∨ a = 2 ∨ a = 3 ∨ a = 4 ∨ a = 5 ∨ a = 6 ∨ a = 7 ∨ a = 8 := by omega
 rcases this with rfl | rfl | rfl | rfl | rfl | rfl | rfl | rfl <;> omega
theorem Tr.cuts_bd {l : List S115} {saw : Int} (hs : 0 ≤ saw ∧ saw ≤ 2) {p : S103} {w : W4} {g k : Int} (h : Tr l saw p w g k) : In8 p → k + 1 ≤ area p := by
 have side : ∀ {p : S103} {ac : Bool}, In8 p → 1 ≤ (if ac = true then p.f2 else p.f3) ∧ (if ac = true then p.f2 else p.f3) ≤ 8 := by
  intro p ac hp; obtain ⟨x0, y0, w0, l0, x1, y1⟩ := hp; split <;> omega
 induction h with
 | none p v => intro hp; have := mul_le_8 (a := p.f2) (b := 0) (c := p.f3) (by have := hp.w0; have := hp.x0; have := hp.x1; omega) (by have := hp.l0; omega); unfold area; omega
 | use p v i x h1 h2 h3 => intro hp; have := mul_le_8 (a := p.f2) (b := 0) (c := p.f3) (by have := hp.w0; have := hp.x0; have := hp.x1; omega) (by have := hp.l0; omega); unfold area; omega
 | one p v ac at_ a g k h1 h2 ih =>
  intro hp
  have ha := ih (partsN_in8 hp hs a (by rw [h1]; exact List.mem_singleton.2 rfl)).1
  rcases partsN_cases hp hs (across := ac) (at_ := at_) with h | ⟨h, c1, c2, c3⟩ | ⟨h, c1, c2, c3⟩ | ⟨h, c1, c2⟩ <;> rw [h] at h1
  ·cases h1
  ·simp at h1; subst h1
   rw [area_part] at ha; rw [area_far (across := ac)]
   have := mul_le_8 (b := at_) (c := far ac p) (side (ac := ac) hp) (by omega); omega
  ·simp at h1; subst h1
   rw [area_part] at ha; rw [area_far (across := ac)]
   have := mul_le_8 (b := far ac p - saw) (c := far ac p) (side (ac := ac) hp) (by omega); omega
  ·simp at h1
 | two p v ac at_ a b u g h k m h1 h2 h3 h4 ih1 ih2 =>
  intro hp
  have ha := ih1 (partsN_in8 hp hs a (by rw [h1]; simp)).1
  have hb := ih2 (partsN_in8 hp hs b (by rw [h1]; simp)).1
  rcases partsN_cases hp hs (across := ac) (at_ := at_) with h | ⟨h, c1, c2, c3⟩ | ⟨h, c1, c2, c3⟩ | ⟨h, c1, c2⟩ <;> rw [h] at h1
  ·cases h1
  ·simp at h1
  ·simp at h1
  ·simp at h1; obtain ⟨rfl, rfl⟩ := h1
   rw [area_part] at ha hb; rw [area_far (across := ac)]
   have := mul_le_8' (b := at_) (d := far ac p - at_ - saw) (c := far ac p) (side (ac := ac) hp) (by omega); omega

/-! ### the best of a list of steps -/
def pick (out s : Stp) : Stp := if better s.worth s.cuts out.worth out.cuts = true then s else out
/-- One gain is at least as good as another one. -/
def Ge (a b c d : Int) : Prop := c < a ∨ (c = a ∧ b ≤ d)
theorem Ge.refl (a b : Int) : Ge a b a b := .inr ⟨rfl, Int.le_refl _⟩
theorem Ge.trans {a b c d e f : Int} (h : Ge a b c d) (k : Ge c d e f) : Ge a b e f := by unfold Ge at *; omega
theorem pick_ge (out s : Stp) : Ge (pick out s).worth (pick out s).cuts out.worth out.cuts ∧ Ge (pick out s).worth (pick out s).cuts s.worth s.cuts := by
 unfold pick better Ge
 split
 ·rename_i h; simp at h; omega
 ·rename_i h; simp at h; omega
theorem pick_or (out s : Stp) : pick out s = out ∨ pick out s = s := by unfold pick; split <;> simp
theorem pick_all : ∀ (cs : List Stp) (out : Stp), (cs.foldl pick out = out ∨ cs.foldl pick out ∈ cs) ∧ Ge (cs.foldl pick out).worth (cs.foldl pick out).cuts out.worth out.cuts ∧ ∀ s ∈ cs, Ge (cs.foldl pick out).worth (cs.foldl pick out).cuts s.worth s.cuts
 | [], out => ⟨.inl rfl, Ge.refl _ _, fun s h => by cases h⟩
 | c :: cs, out => by
  obtain ⟨h1, h2, h3⟩ := pick_all cs (pick out c)
  obtain ⟨g1, g2⟩ := pick_ge out c
  simp only [List.foldl_cons]
  refine ⟨?_, h2.trans g1, fun s hs => ?_⟩
  ·rcases h1 with h1 | h1
   ·rcases pick_or out c with h | h <;> rw [h1, h]
    ·exact .inl rfl
    ·exact .inr List.mem_cons_self
   ·exact .inr (List.mem_cons_of_mem _ h1)
  ·rcases List.mem_cons.1 hs with rfl | hs
   ·exact h2.trans g2
   ·exact h3 s hs
def useCands (p : S103) (w : W4) : List S115 → Nat → List Stp
 | [], _ => []
 | x :: l, i => (if w.get i = true ∧ fitsB x p = true then [⟨x.f3, 0, i, false, ⟨0, false, 0⟩, W4.none4⟩] else []) ++ useCands p w l (i + 1)
theorem useAll_eq (p : S103) (w : W4) : ∀ (l : List S115) (i : Nat) (out : Stp), useAll p w l i out = (useCands p w l i).foldl pick out
 | [], _, _ => rfl
 | x :: l, i, out => by
  simp only [useAll, useCands, List.foldl_append]
  rw [useAll_eq p w l (i + 1)]
  congr 1
  by_cases h : w.get i = true ∧ fitsB x p = true
  ·rw [if_pos h]; simp only [List.foldl_cons, List.foldl_nil, pick]
   by_cases hb : better x.f3 0 out.worth out.cuts = true
   ·rw [if_pos ⟨h.1, h.2, hb⟩, if_pos hb]
   ·rw [if_neg (fun k => hb k.2.2), if_neg hb]
  ·rw [if_neg h, if_neg (fun k => h ⟨k.1, k.2.1⟩)]; rfl
theorem mem_useCands {p : S103} {w : W4} {s : Stp} : ∀ {l : List S115} {i : Nat}, s ∈ useCands p w l i ↔ ∃ j x, l[j]? = some x ∧ w.get (i + j) = true ∧ fitsB x p = true ∧ s = ⟨x.f3, 0, ((i + j : Nat) : Int), false, ⟨0, false, 0⟩, W4.none4⟩
 | [], i => by simp [useCands]
 | y :: l, i => by
  simp only [useCands, List.mem_append, mem_useCands (l := l)]
  constructor
  ·rintro (h | ⟨j, x, h1, h2, h3, h4⟩)
   ·split at h
    ·rename_i hc
     rw [List.mem_singleton] at h
     exact ⟨0, y, rfl, hc.1, hc.2, h⟩
    ·cases h
   ·exact ⟨j + 1, x, by simpa using h1, by rw [show i + (j + 1) = i + 1 + j from by omega]; exact h2, h3, by rw [show i + (j + 1) = i + 1 + j from by omega]; exact h4⟩
  ·rintro ⟨j, x, h1, h2, h3, h4⟩
   cases j with
   | zero =>
    simp at h1; subst h1
    refine .inl ?_
    rw [if_pos ⟨h2, h3⟩]
    exact List.mem_singleton.2 h4
   | succ j => exact .inr ⟨j, x, by simpa using h1, by rw [show i + 1 + j = i + (j + 1) from by omega]; exact h2, h3, by rw [show i + 1 + j = i + (j + 1) from by omega]; exact h4⟩
def seeCands (sub : S103 → W4 → Stp) (w : W4) (ps : List S103) (c : S112) (part : W4) : List Stp :=
 if ps.length = 1 ∧ part ≠ w then [] else [⟨(gains sub (ps.zip [part, w.less part]) (0, 1)).1, (gains sub (ps.zip [part, w.less part]) (0, 1)).2, -1, true, c, part⟩]
def cutCands (sub : S103 → W4 → Stp) (saw : Int) (p : S103) (w : W4) (cs : List S112) : List Stp := cs.flatMap fun c => w.parts.flatMap (seeCands sub w (partsOf c.f1 p c.f2 saw) c)
theorem foldl_flat {α β γ : Type} (f : β → γ → β) (g : α → List γ) : ∀ (l : List α) (b : β), l.foldl (fun b a => (g a).foldl f b) b = (l.flatMap g).foldl f b
 | [], _ => rfl
 | a :: l, b => by simp only [List.foldl_cons, List.flatMap_cons, List.foldl_append]; exact foldl_flat f g l _
theorem cutAll_eq (sub : S103 → W4 → Stp) (saw : Int) (p : S103) (w : W4) : ∀ (cs : List S112) (out : Stp), cutAll sub saw p w cs out = (cutCands sub saw p w cs).foldl pick out
 | [], _ => rfl
 | c :: cs, out => by
  simp only [cutAll, cutCands, List.flatMap_cons, List.foldl_append]
  rw [cutAll_eq sub saw p w cs]
  unfold cutCands
  congr 1
  rw [← foldl_flat]
  refine foldl_congr' _ _ (fun b x _ => ?_)
  unfold see1 seeCands pick
  split
  ·rfl
  ·rfl
theorem bestP_pick {l : List S115} {saw : Int} (hs : 0 ≤ saw ∧ saw ≤ 2) {p : S103} {w : W4} (hp : POk p) : bestP l saw p w = if w = W4.none4 then stp0 else (useCands p w l 0 ++ cutCands (bestP l saw) saw p w (cutsOf saw p)).foldl pick stp0 := by
 rw [bestP_step hs hp, cutAll_eq, useAll_eq, List.foldl_append]

/-! ### what best finds -/
theorem mem_cutsRow {saw : Int} {p : S103} {ac : Bool} {c : S112} : ∀ {n i : Nat}, c ∈ cutsRow saw p ac n i ↔ ∃ j : Nat, i ≤ j ∧ j < i + n ∧ partsOf ac p j saw ≠ [] ∧ c = ⟨0, ac, j⟩
 | 0, i => by simp [cutsRow]; intro j h1 h2; omega
 | n + 1, i => by
  simp only [cutsRow, List.mem_append, mem_cutsRow (n := n)]
  constructor
  ·rintro (h | ⟨j, h1, h2, h3, h4⟩)
   ·split at h
    ·cases h
    ·rename_i hc
     rw [List.mem_singleton] at h
     exact ⟨i, Nat.le_refl _, by omega, hc, h⟩
   ·exact ⟨j, by omega, by omega, h3, h4⟩
  ·rintro ⟨j, h1, h2, h3, h4⟩
   by_cases hj : j = i
   ·subst hj
    refine .inl ?_
    rw [if_neg h3]
    exact List.mem_singleton.2 h4
   ·exact .inr ⟨j, by omega, by omega, h3, h4⟩
theorem mem_cutsOf {saw : Int} (hs : 0 ≤ saw ∧ saw ≤ 2) {p : S103} (hp : In8 p) {c : S112} : c ∈ cutsOf saw p ↔ ∃ (ac : Bool) (at_ : Int), partsN ac p at_ saw ≠ [] ∧ c = ⟨0, ac, at_⟩ := by
 have hb : ∀ ac at_, partsN ac p at_ saw ≠ [] → 0 ≤ at_ ∧ at_ ≤ far ac p := by
  intro ac at_ h
  rcases partsN_cases hp hs (across := ac) (at_ := at_) with h' | ⟨h', c1, c2, c3⟩ | ⟨h', c1, c2, c3⟩ | ⟨h', c1, c2⟩
  ·exact absurd h' h
  ·omega
  ·omega
  ·omega
 unfold cutsOf
 rw [List.mem_append, mem_cutsRow, mem_cutsRow]
 obtain ⟨x0, y0, w0, l0, x1, y1⟩ := id hp
 constructor
 ·rintro (⟨j, h1, h2, h3, h4⟩ | ⟨j, h1, h2, h3, h4⟩)
  ·rw [partsOf_eq hp hs (by omega)] at h3; exact ⟨false, j, h3, h4⟩
  ·rw [partsOf_eq hp hs (by omega)] at h3; exact ⟨true, j, h3, h4⟩
 ·rintro ⟨ac, at_, h3, h4⟩
  obtain ⟨h1, h2⟩ := hb ac at_ h3
  obtain ⟨j, rfl⟩ := Int.eq_ofNat_of_zero_le h1
  cases ac with
  | false => simp only [far, Bool.false_eq_true, if_false] at h2; exact .inl ⟨j, by omega, by omega, by rw [partsOf_eq hp hs (by omega)]; exact h3, h4⟩
  | true => simp only [far, if_true] at h2; exact .inr ⟨j, by omega, by omega, by rw [partsOf_eq hp hs (by omega)]; exact h3, h4⟩
/-- A step that tells what it is worth. -/
inductive SOk (l : List S115) (saw : Int) (p : S103) (w : W4) : Stp → Prop
 | none : SOk l saw p w stp0
 | use (i : Nat) (x : S115) : l[i]? = some x → w.get i = true → fitsB x p = true → SOk l saw p w ⟨x.f3, 0, i, false, ⟨0, false, 0⟩, W4.none4⟩
 | one (ac : Bool) (at_ : Int) (a : S103) : partsN ac p at_ saw = [a] → SOk l saw p w ⟨(bestP l saw a w).worth, (bestP l saw a w).cuts + 1, -1, true, ⟨0, ac, at_⟩, w⟩
 | two (ac : Bool) (at_ : Int) (a b : S103) (u : W4) : partsN ac p at_ saw = [a, b] → u.sub w → SOk l saw p w ⟨(bestP l saw a u).worth + (bestP l saw b (w.less u)).worth, (bestP l saw a u).cuts + (bestP l saw b (w.less u)).cuts + 1, -1, true, ⟨0, ac, at_⟩, u⟩
theorem tot_none (l : List S115) : tot l W4.none4 = 0 := by simp [tot, W4.none4, wIf]
theorem none_get (i : Nat) : W4.none4.get i = false := by
 match i with
 | 0 => rfl
 | 1 => rfl
 | 2 => rfl
 | _ + 3 => rfl
theorem area_le {p : S103} (hp : In8 p) : area p ≤ 64 := by
 obtain ⟨x0, y0, w0, l0, x1, y1⟩ := hp
 have := mul_le_8' (a := p.f2) (b := p.f3) (c := 8) (d := 0) (by omega) (by omega)
 unfold area; omega
theorem best_main {l : List S115} (hl : LOk l) {saw : Int} (hs : 0 ≤ saw ∧ saw ≤ 2) : ∀ (n : Nat) (p : S103) (w : W4), In8 p → msr p < n →
  SOk l saw p w (bestP l saw p w) ∧ Tr l saw p w (bestP l saw p w).worth (bestP l saw p w).cuts ∧ ∀ g k, Tr l saw p w g k → Ge (bestP l saw p w).worth (bestP l saw p w).cuts g k := by
 intro n
 induction n with
 | zero => intro p w _ h; omega
 | succ n ih =>
  intro p w hp hn
  have sm : ∀ {ac : Bool} {at_ : Int} {x : S103}, x ∈ partsN ac p at_ saw → ∀ v, In8 x ∧ SOk l saw x v (bestP l saw x v) ∧ Tr l saw x v (bestP l saw x v).worth (bestP l saw x v).cuts ∧ (∀ g k, Tr l saw x v g k → Ge (bestP l saw x v).worth (bestP l saw x v).cuts g k) ∧
    0 ≤ (bestP l saw x v).worth ∧ (bestP l saw x v).worth ≤ 4000 ∧ 0 ≤ (bestP l saw x v).cuts ∧ (bestP l saw x v).cuts ≤ 64 := by
   intro ac at_ x hx v
   obtain ⟨h1, h2⟩ := partsN_in8 hp hs x hx
   obtain ⟨h3, h4, h5⟩ := ih x v h1 (by omega)
   have h6 := h4.bd hl
   have h7 := h4.cuts_bd hs h1
   have h8 := area_le h1
   have h9 := tot_bd hl v
   exact ⟨h1, h3, h4, h5, by omega, by omega, by omega, by omega⟩
  by_cases hw : w = W4.none4
  ·have hb : bestP l saw p w = stp0 := by rw [bestP_pick hs hp.ok, if_pos hw]
   rw [hb]
   refine ⟨.none, .none p w, fun g k h => ?_⟩
   have := h.bd hl
   rw [hw, tot_none] at this
   show Ge 0 0 g k
   unfold Ge; omega
  ·have hb : bestP l saw p w = (useCands p w l 0 ++ cutCands (bestP l saw) saw p w (cutsOf saw p)).foldl pick stp0 := by rw [bestP_pick hs hp.ok, if_neg hw]
   have g1 : ∀ {ac : Bool} {at_ : Int} {a : S103}, partsN ac p at_ saw = [a] → gains (bestP l saw) ([a].zip [w, w.less w]) (0, 1) = ((bestP l saw a w).worth, (bestP l saw a w).cuts + 1) := by
    intro ac at_ a h
    obtain ⟨_, _, _, _, b1, b2, b3, b4⟩ := sm (x := a) (by rw [h]; simp) w
    simp only [List.zip_cons_cons, List.zip_nil_left, gains]
    rw [w64 (by omega) (by omega), w64 (by omega) (by omega), Int.zero_add, Int.add_comm]
   have g2 : ∀ {ac : Bool} {at_ : Int} {a b : S103} (u : W4), partsN ac p at_ saw = [a, b] → gains (bestP l saw) ([a, b].zip [u, w.less u]) (0, 1) = ((bestP l saw a u).worth + (bestP l saw b (w.less u)).worth, (bestP l saw a u).cuts + (bestP l saw b (w.less u)).cuts + 1) := by
    intro ac at_ a b u h
    obtain ⟨_, _, _, _, b1, b2, b3, b4⟩ := sm (x := a) (by rw [h]; simp) u
    obtain ⟨_, _, _, _, b5, b6, b7, b8⟩ := sm (x := b) (by rw [h]; simp) (w.less u)
    simp only [List.zip_cons_cons, List.zip_nil_left, gains]
    rw [w64 (z := 0 + _) (by omega) (by omega), w64 (z := 1 + _) (by omega) (by omega), w64 (by omega) (by omega), w64 (by omega) (by omega), Int.zero_add]
    congr 1
    omega
   obtain ⟨h1, h2, h3⟩ := pick_all (useCands p w l 0 ++ cutCands (bestP l saw) saw p w (cutsOf saw p)) stp0
   rw [← hb] at h1 h2 h3
   -- each candidate is a step that is right
   have cand : ∀ s ∈ useCands p w l 0 ++ cutCands (bestP l saw) saw p w (cutsOf saw p), SOk l saw p w s ∧ Tr l saw p w s.worth s.cuts := by
    intro s hsm
    rcases List.mem_append.1 hsm with hsm | hsm
    ·obtain ⟨j, x, e1, e2, e3, rfl⟩ := mem_useCands.1 hsm
     rw [Nat.zero_add] at *
     exact ⟨.use j x e1 e2 e3, .use p w j x e1 e2 e3⟩
    ·unfold cutCands at hsm
     obtain ⟨c, hc, hsm⟩ := List.mem_flatMap.1 hsm
     obtain ⟨u, hu, hsm⟩ := List.mem_flatMap.1 hsm
     obtain ⟨ac, at_, hne, rfl⟩ := (mem_cutsOf hs hp).1 hc
     have hu' := (mem_parts u w).1 hu
     have hat : at_ ≤ 8 := by have := cutsOf_at hp.ok _ hc; exact this.2
     simp only at hsm
     rw [partsOf_eq hp hs (by omega)] at hsm
     unfold seeCands at hsm
     rcases partsN_cases hp hs (across := ac) (at_ := at_) with h' | ⟨h', c1, c2, c3⟩ | ⟨h', c1, c2, c3⟩ | ⟨h', c1, c2⟩
     ·exact absurd h' hne
     ·rw [h'] at hsm
      split at hsm
      ·cases hsm
      ·rename_i hq
       obtain rfl : u = w := Decidable.byContradiction fun e => hq ⟨rfl, e⟩
       rw [List.mem_singleton] at hsm
       rw [g1 h'] at hsm
       subst hsm
       exact ⟨.one ac at_ _ h', .one p _ ac at_ _ _ _ h' (sm (by rw [h']; simp) _).2.2.1⟩
     ·rw [h'] at hsm
      split at hsm
      ·cases hsm
      ·rename_i hq
       obtain rfl : u = w := Decidable.byContradiction fun e => hq ⟨rfl, e⟩
       rw [List.mem_singleton] at hsm
       rw [g1 h'] at hsm
       subst hsm
       exact ⟨.one ac at_ _ h', .one p _ ac at_ _ _ _ h' (sm (by rw [h']; simp) _).2.2.1⟩
     ·rw [h'] at hsm
      rw [if_neg (by simp)] at hsm
      rw [List.mem_singleton] at hsm
      rw [g2 u h'] at hsm
      subst hsm
      exact ⟨.two ac at_ _ _ u h' hu', .two p _ ac at_ _ _ u _ _ _ _ h' hu' (sm (by rw [h']; simp) _).2.2.1 (sm (by rw [h']; simp) _).2.2.1⟩
   refine ⟨?_, ?_, fun g k ht => ?_⟩
   ·rcases h1 with h1 | h1
    ·rw [h1]; exact .none
    ·exact (cand _ h1).1
   ·rcases h1 with h1 | h1
    ·rw [h1]; exact .none p w
    ·exact (cand _ h1).2
   ·have inCut : ∀ {ac : Bool} {at_ : Int} {u : W4} {s : Stp}, partsN ac p at_ saw ≠ [] → u.sub w → s ∈ seeCands (bestP l saw) w (partsN ac p at_ saw) ⟨0, ac, at_⟩ u → s ∈ cutCands (bestP l saw) saw p w (cutsOf saw p) := by
     intro ac at_ u s hne hu hsm
     have hc := (mem_cutsOf hs hp).2 ⟨ac, at_, hne, rfl⟩
     have hat := cutsOf_at hp.ok _ hc
     unfold cutCands
     refine List.mem_flatMap.2 ⟨_, hc, List.mem_flatMap.2 ⟨u, (mem_parts u w).2 hu, ?_⟩⟩
     simp only
     rw [partsOf_eq hp hs (by simp only at hat; omega)]
     exact hsm
    cases ht with
    | none => exact h2
    | use _ _ i x e1 e2 e3 =>
     exact h3 _ (List.mem_append_left _ (mem_useCands.2 ⟨i, x, e1, by rw [Nat.zero_add]; exact e2, e3, rfl⟩))
    | one _ _ ac at_ a g k e1 e2 =>
     have hm := h3 ⟨(bestP l saw a w).worth, (bestP l saw a w).cuts + 1, -1, true, ⟨0, ac, at_⟩, w⟩ (List.mem_append_right _ (inCut (by rw [e1]; simp) (W4.sub_refl w) (by
      unfold seeCands; rw [e1, if_neg (by simp), g1 e1]; exact List.mem_singleton.2 rfl)))
     have := (sm (x := a) (by rw [e1]; simp) w).2.2.2.1 _ _ e2
     simp only at hm
     unfold Ge at *; omega
    | two _ _ ac at_ a b u g h k m e1 e2 e3 e4 =>
     have hm := h3 ⟨(bestP l saw a u).worth + (bestP l saw b (w.less u)).worth, (bestP l saw a u).cuts + (bestP l saw b (w.less u)).cuts + 1, -1, true, ⟨0, ac, at_⟩, u⟩ (List.mem_append_right _ (inCut (by rw [e1]; simp) e2 (by
      unfold seeCands; rw [e1, if_neg (by simp), g2 u e1]; exact List.mem_singleton.2 rfl)))
     have i1 := (sm (x := a) (by rw [e1]; simp) u).2.2.2.1 _ _ e3
     have i2 := (sm (x := b) (by rw [e1]; simp) (w.less u)).2.2.2.1 _ _ e4
     simp only at hm
     unfold Ge at *; omega
theorem best_ok {l : List S115} (hl : LOk l) {saw : Int} (hs : 0 ≤ saw ∧ saw ≤ 2) {p : S103} (hp : In8 p) (w : W4) : SOk l saw p w (bestP l saw p w) := (best_main hl hs _ p w hp (Nat.lt_succ_self _)).1
theorem best_tr {l : List S115} (hl : LOk l) {saw : Int} (hs : 0 ≤ saw ∧ saw ≤ 2) {p : S103} (hp : In8 p) (w : W4) : Tr l saw p w (bestP l saw p w).worth (bestP l saw p w).cuts := (best_main hl hs _ p w hp (Nat.lt_succ_self _)).2.1
theorem best_ge {l : List S115} (hl : LOk l) {saw : Int} (hs : 0 ≤ saw ∧ saw ≤ 2) {p : S103} (hp : In8 p) {w : W4} {g k : Int} (h : Tr l saw p w g k) : Ge (bestP l saw p w).worth (bestP l saw p w).cuts g k := (best_main hl hs _ p w hp (Nat.lt_succ_self _)).2.2 g k h
end Go.Proofs.Ytffjbaknglemdaa.X
