import Derived.Test.YtffjbaknglemdaaX0
import Derived.Deep.Slices
import Derived.ChangeArms
import Derived.ChangeShapes
namespace Go.Proofs.Ytffjbaknglemdaa.X
open Go.RowKit Go.Deep Go.ChangeShapes Go.WideShapes Go.Proofs.YtffjbaknglemdaaW.PrintWords Go.Proofs.YtffjbaknglemdaaW.PrintLast Go.Proofs.YtffjbaknglemdaaW.PrintMore
set_option linter.unusedSimpArgs false
set_option linter.unusedVariables false

/-! ### arguments that are structs, and slices of them: what their data say of the cells -/
def Opens {α : Type} (d : Kd α) (t : TypeId) (Q : α → Prop) : Prop :=
  Try.prog.cellsOf t = d.sz ∧ ∀ (H : Type) (enc : TypeId × Value → H) (w : World) (base : Nat) (spare : Nat → Bool) (held : Bool) (fuel : Nat) (cs : List Value) (x : DataW H × List MemPlace), DataW.trod enc Try.prog w base spare held fuel t cs = some x → ∃ v, d.K w v cs ∧ Q v
def I64 (n : Int) : Prop := -9223372036854775808 ≤ n ∧ n ≤ 9223372036854775807
theorem wf64 {n : Int} (h : (Lit.int .i64 n).wf = true) : I64 n := by
  simp only [Lit.wf, Bool.and_eq_true, decide_eq_true_eq] at h
  exact h
theorem opens_int {t : TypeId} (ht : Try.prog.underlying t = some (.int .i64)) (hc : Try.prog.cellsOf t = 1) : Opens (Kd.int .i64) t I64 := ⟨hc, fun H enc w base spare held fuel cs x h => by
  obtain ⟨n, rfl, -, hw⟩ := DataW.trod_int ht h
  exact ⟨n, rfl, wf64 hw⟩⟩
theorem opens_bool {t : TypeId} (ht : Try.prog.underlying t = some .bool) (hc : Try.prog.cellsOf t = 1) : Opens Kd.bool t (fun _ => True) := ⟨hc, fun H enc w base spare held fuel cs x h => by
  obtain ⟨n, rfl, -⟩ := DataW.trod_bool ht h
  exact ⟨n, rfl, trivial⟩⟩
theorem listed {α : Type} {p : Nat → α → Prop} : ∀ n, (∀ i, i < n → ∃ v, p i v) → ∃ l : List α, l.length = n ∧ ∀ (i : Nat) (v : α), l[i]? = some v → p i v
  | 0, _ => ⟨[], rfl, by simp⟩
  | n + 1, h => by
    obtain ⟨l, hl, hp⟩ := listed n (fun i hi => h i (by omega))
    obtain ⟨v, hv⟩ := h n (by omega)
    refine ⟨l ++ [v], by simp [hl], fun i u hu => ?_⟩
    by_cases hi : i < l.length
    · rw [List.getElem?_append_left hi] at hu; exact hp i u hu
    · rw [List.getElem?_append_right (by omega)] at hu
      have h0 : i - l.length = 0 := by
        have := (List.getElem?_eq_some_iff.1 hu).1
        simp at this; omega
      rw [h0] at hu
      simp at hu
      subst hu
      obtain rfl : i = n := by omega
      exact hv
theorem opens_slice {α : Type} {d : Kd α} {t e : TypeId} {Q : α → Prop} (ht : Try.prog.underlying t = some (.slice e)) (hc : Try.prog.cellsOf t = 1) (hd : Opens d e Q) : Opens (Kd.slice e d) t (fun l => ∀ x ∈ l, Q x) := ⟨hc, fun H enc w base spare held fuel cs x h => by
  rcases open_slice ht h with ⟨rfl, -⟩ | ⟨a, len, cap, m, n, D, Pl, rfl, hb, hl, hm, hme, -, hel⟩
  · exact ⟨[], ⟨none, 0, rfl, Nat.le_refl _, rfl, by simp, fun h => absurd h (by simp)⟩, by simp⟩
  · have hlm : len ≤ m := by rw [hme]; split <;> omega
    obtain ⟨l, hll, hp⟩ := listed (p := fun i v => Q v ∧ ∃ cs', w.cells? base (a.add (i * Try.prog.cellsOf e)) (Try.prog.cellsOf e) = some cs' ∧ d.K w v cs') len (fun i hi => by
      obtain ⟨cs', hcs, htr⟩ := hel i (by omega)
      obtain ⟨v, hK, hQ⟩ := hd.2 H enc w base spare held n cs' _ htr
      exact ⟨v, hQ, cs', hcs, hK⟩)
    subst hll
    refine ⟨l, ⟨some a, cap, rfl, hl, rfl, by simp [maxLen] at hm; omega, fun _ => ⟨a, rfl, fun j p hj => ?_⟩⟩, fun x hx => ?_⟩
    · obtain ⟨-, cs', hcs, hK⟩ := hp j p hj
      obtain ⟨-, hlen, hce⟩ := World.cells?_some hcs
      refine ⟨cs', d.K_len hK, hK, fun i u hu => ?_⟩
      have hi : i < Try.prog.cellsOf e := by rw [← hlen]; exact (List.getElem?_eq_some_iff.1 hu).1
      have := hce i hi
      rw [hu, add_add, hd.1] at this
      exact this
    · obtain ⟨j, hj, rfl⟩ := List.getElem_of_mem hx
      exact (hp j _ (List.getElem?_eq_getElem hj)).1⟩
/-- The fields from cell o on. -/
def OpensF {α : Type} (d : Kd α) (fs : List Field) (o : Nat) (Q : α → Prop) : Prop :=
  ∀ (H : Type) (enc : TypeId × Value → H) (w : World) (base : Nat) (spare : Nat → Bool) (held : Bool) (cs : List Value), cs.length = o + d.sz → (∀ f ∈ fs, ∃ n x, DataW.trod enc Try.prog w base spare held n f.type ((cs.drop f.offset).take (Try.prog.cellsOf f.type)) = some x) → ∃ v, d.K w v (cs.drop o) ∧ Q v
theorem opensF_last {α : Type} {d : Kd α} {f : Field} {o : Nat} {Q : α → Prop} (hd : Opens d f.type Q) (ho : f.offset = o) : OpensF d [f] o Q := fun H enc w base spare held cs hl h => by
  obtain ⟨n, x, hx⟩ := h f (by simp)
  rw [hd.1, ho] at hx
  obtain ⟨v, hK, hQ⟩ := hd.2 _ _ _ _ _ _ _ _ _ hx
  rw [List.take_of_length_le (by rw [List.length_drop]; omega)] at hK
  exact ⟨v, hK, hQ⟩
theorem opensF_cons {α β : Type} {a : Kd α} {b : Kd β} {f : Field} {fs : List Field} {o : Nat} {Q : α → Prop} {R : β → Prop} (hd : Opens a f.type Q) (ho : f.offset = o) (hb : OpensF b fs (o + a.sz) R) : OpensF (Kd.pair a b) (f :: fs) o (fun x => Q x.1 ∧ R x.2) := fun H enc w base spare held cs hl h => by
  obtain ⟨n, x, hx⟩ := h f (by simp)
  rw [hd.1, ho] at hx
  obtain ⟨v, hK, hQ⟩ := hd.2 _ _ _ _ _ _ _ _ _ hx
  obtain ⟨u, hK2, hR⟩ := hb H enc w base spare held cs (by rw [hl]; simp [Kd.pair]; omega) (fun g hg => h g (by simp [hg]))
  refine ⟨(v, u), ⟨_, _, ?_, hK, hK2⟩, hQ, hR⟩
  rw [← List.drop_drop, List.take_append_drop]
theorem opens_struct {α : Type} {d : Kd α} {t : TypeId} {fs : Array Field} {Q : α → Prop} (ht : Try.prog.underlying t = some (.struct fs)) (hc : Try.prog.cellsOf t = d.sz) (hf : OpensF d fs.toList 0 Q) : Opens d t Q := ⟨hc, fun H enc w base spare held fuel cs x h => by
  obtain ⟨xs, n, -, -, hl, hxs, hall⟩ := DataW.trod_struct ht h
  obtain ⟨v, hK, hQ⟩ := hf H enc w base spare held cs (by rw [hl, hc]; omega) (fun f hm => by
    obtain ⟨i, hi, rfl⟩ := List.getElem_of_mem hm
    have hi' : i < fs.size := by simpa using hi
    have := hall i fs[i] (Array.getElem?_eq_getElem hi')
    rw [List.getElem?_eq_getElem (by omega)] at this
    exact ⟨n, _, by simpa using this⟩)
  exact ⟨v, by simpa using hK, hQ⟩⟩
theorem opens_iso {α β : Type} {d : Kd α} {f : β → α} {t : TypeId} {Q : α → Prop} (g : α → β) (hg : ∀ y, f (g y) = y) (h : Opens d t Q) : Opens (Kd.iso d f) t (fun x => Q (f x)) := ⟨h.1, fun H enc w base spare held fuel cs x hx => by
  obtain ⟨v, hK, hQ⟩ := h.2 _ _ _ _ _ _ _ _ _ hx
  exact ⟨g v, by show d.K w (f (g v)) cs; rw [hg]; exact hK, by show Q (f (g v)); rw [hg]; exact hQ⟩⟩
/-! the reference's types -/
set_option maxRecDepth 100000 in
theorem i3 : Opens (Kd.int .i64) 3 I64 := opens_int Try.underlying3 (by kernel_rfl)
set_option maxRecDepth 100000 in
theorem o4 : Opens Kd.bool 4 (fun _ => True) := opens_bool Try.underlying4 (by kernel_rfl)
set_option maxRecDepth 100000 in
theorem opens80 : Opens k80 80 (fun x => I64 x.f0 ∧ I64 x.f1) := opens_iso (fun y => ⟨y.1, y.2⟩) (fun _ => rfl) (opens_struct Try.underlying80 (by kernel_rfl) (opensF_cons i3 rfl (opensF_last i3 rfl)))
set_option maxRecDepth 100000 in
theorem opens82 : Opens k82 82 (fun x => I64 x.f0 ∧ I64 x.f1 ∧ True ∧ I64 x.f3 ∧ (I64 x.f4.f0 ∧ I64 x.f4.f1) ∧ (I64 x.f5.f0 ∧ I64 x.f5.f1)) :=
  opens_iso (fun y => ⟨y.1, y.2.1, y.2.2.1, y.2.2.2.1, y.2.2.2.2.1, y.2.2.2.2.2⟩) (fun _ => rfl) (opens_struct Try.underlying82 (by kernel_rfl) (opensF_cons i3 rfl (opensF_cons i3 rfl (opensF_cons o4 rfl (opensF_cons i3 rfl (opensF_cons opens80 rfl (opensF_last opens80 rfl)))))))
set_option maxRecDepth 100000 in
theorem opens107 : Opens k107 107 (fun x => I64 x.f0 ∧ True ∧ I64 x.f2) := opens_iso (fun y => ⟨y.1, y.2.1, y.2.2⟩) (fun _ => rfl) (opens_struct Try.underlying107 (by kernel_rfl) (opensF_cons i3 rfl (opensF_cons o4 rfl (opensF_last i3 rfl))))
def WB82 (l : List S82) : Prop := ∀ x ∈ l, I64 x.f0 ∧ I64 x.f1 ∧ True ∧ I64 x.f3 ∧ (I64 x.f4.f0 ∧ I64 x.f4.f1) ∧ (I64 x.f5.f0 ∧ I64 x.f5.f1)
def WB107 (l : List S107) : Prop := ∀ x ∈ l, I64 x.f0 ∧ True ∧ I64 x.f2
set_option maxRecDepth 100000 in
/-- The plate of the reference. -/
theorem opens24 : Opens (Kd.pair (Kd.int .i64) (Kd.pair (Kd.int .i64) (Kd.pair (Kd.int .i64) (Kd.slice 82 k82)))) 24 (fun x => I64 x.1 ∧ I64 x.2.1 ∧ I64 x.2.2.1 ∧ WB82 x.2.2.2) :=
  opens_struct Try.underlying24 (by kernel_rfl) (opensF_cons i3 rfl (opensF_cons i3 rfl (opensF_cons i3 rfl (opensF_last (opens_slice (e := 82) (by kernel_rfl) (by kernel_rfl) opens82) rfl))))
set_option maxRecDepth 100000 in
theorem opens37 : Opens (Kd.pair (Kd.slice 107 k107) (Kd.slice 3 (Kd.int .i64))) 37 (fun x => WB107 x.1 ∧ ∀ n ∈ x.2, I64 n) :=
  opens_struct Try.underlying37 (by kernel_rfl) (opensF_cons (opens_slice (e := 107) (by kernel_rfl) (by kernel_rfl) opens107) rfl (opensF_last (opens_slice (e := 3) (by kernel_rfl) (by kernel_rfl) i3) rfl))
set_option maxRecDepth 100000 in
theorem opens34 : Opens (Kd.slice 107 k107) 34 WB107 := opens_slice Try.underlying34 (by kernel_rfl) opens107
set_option maxRecDepth 100000 in
/-- What a plate that came in is. -/
theorem arg24 {H : Type} {enc : TypeId × Value → H} {w : World} {r : Reach} {base b2 : Nat} {spare : Nat → Bool} {held : Bool} {v : Value} {d : DataW H} {ps : List MemPlace} (hv : Value.okWide Try.prog w r base 24 v) (h : DataW.Trod enc Try.prog w b2 spare held 24 v d ps) :
    ∃ a0 a1 a2 A c l, v = .agg #[.int .i64 a0, .int .i64 a1, .int .i64 a2, .slice A l.length c] ∧ l.length ≤ c ∧ k82.C w A l.length l ∧ I64 a0 ∧ I64 a1 ∧ I64 a2 ∧ WB82 l := by
  obtain ⟨cs, rfl, -⟩ := okWide_struct Try.underlying24 hv
  obtain ⟨fuel, h⟩ := h
  obtain ⟨⟨a0, a1, a2, l⟩, ⟨c0, c1, e1, h1, c2, c3, e2, h2, c4, c5, e3, h3, A, c, h4, h5, h6⟩, q0, q1, q2, q3⟩ := opens24.2 _ _ _ _ _ _ _ _ _ h
  refine ⟨a0, a1, a2, A, c, l, ?_, h5, h6, q0, q1, q2, q3⟩
  have h1 : c0 = [.int .i64 a0] := h1
  have h2 : c2 = [.int .i64 a1] := h2
  have h3 : c4 = [.int .i64 a2] := h3
  rw [e3, h3, h4] at e2
  rw [e2, h2, h1] at e1
  have : cs.toList = [.int .i64 a0, .int .i64 a1, .int .i64 a2, .slice A l.length c] := e1
  rw [← Array.toArray_toList (xs := cs), this]
set_option maxRecDepth 100000 in
theorem arg37 {H : Type} {enc : TypeId × Value → H} {w : World} {r : Reach} {base b2 : Nat} {spare : Nat → Bool} {held : Bool} {v : Value} {d : DataW H} {ps : List MemPlace} (hv : Value.okWide Try.prog w r base 37 v) (h : DataW.Trod enc Try.prog w b2 spare held 37 v d ps) :
    ∃ B d cuts E u uses, v = .agg #[.slice B cuts.length d, .slice E uses.length u] ∧ cuts.length ≤ d ∧ k107.C w B cuts.length cuts ∧ uses.length ≤ u ∧ (Kd.int .i64).C w E uses.length uses ∧ WB107 cuts ∧ ∀ n ∈ uses, I64 n := by
  obtain ⟨cs, rfl, -⟩ := okWide_struct Try.underlying37 hv
  obtain ⟨fuel, h⟩ := h
  obtain ⟨⟨cuts, uses⟩, ⟨c0, c1, e1, ⟨B, d, h1, g1, g2⟩, ⟨E, u, h2, g3, g4⟩⟩, q0, q1⟩ := opens37.2 _ _ _ _ _ _ _ _ _ h
  refine ⟨B, d, cuts, E, u, uses, ?_, g1, g2, g3, g4, q0, q1⟩
  have h1 : c0 = [.slice B cuts.length d] := h1
  have h2 : c1 = [.slice E uses.length u] := h2
  rw [h1, h2] at e1
  have : cs.toList = [.slice B cuts.length d, .slice E uses.length u] := e1
  rw [← Array.toArray_toList (xs := cs), this]
set_option maxRecDepth 100000 in
theorem arg34 {H : Type} {enc : TypeId × Value → H} {w : World} {r : Reach} {base b2 : Nat} {spare : Nat → Bool} {held : Bool} {v : Value} {d : DataW H} {ps : List MemPlace} (hv : Value.okWide Try.prog w r base 34 v) (h : DataW.Trod enc Try.prog w b2 spare held 34 v d ps) :
    ∃ B d cuts, v = .slice B cuts.length d ∧ cuts.length ≤ d ∧ k107.C w B cuts.length cuts ∧ WB107 cuts := by
  obtain ⟨a, len, cap, rfl⟩ := okWide_slice Try.underlying34 hv
  obtain ⟨fuel, h⟩ := h
  obtain ⟨cuts, ⟨A, c, h4, h5, h6⟩, q⟩ := opens34.2 _ _ _ _ _ _ _ _ _ h
  refine ⟨A, c, cuts, ?_, h5, h6, q⟩
  simpa [Value.cells] using h4
end Go.Proofs.Ytffjbaknglemdaa.X
