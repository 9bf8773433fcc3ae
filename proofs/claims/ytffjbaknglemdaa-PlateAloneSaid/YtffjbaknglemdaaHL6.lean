import Derived.Test.YtffjbaknglemdaaHL5
namespace Go.Proofs.Ytffjbaknglemdaa.X
open Go.RowKit Go.Maps Go.Proofs.YtffjbaknglemdaaW.PrintWords Go.Proofs.YtffjbaknglemdaaW.PrintLast Go.Proofs.YtffjbaknglemdaaW.PrintMore
set_option linter.unusedSimpArgs false
set_option linter.unusedVariables false

/-! ### rows of the reference's specimens, appended -/
section
variable {P : Program} {ops : Array Oper} {Q : Exit → Act → World → Prop}
/-- append of a row, in a region's step. -/
theorem appn_ {oi : Oper} {N : Option Tmp} {a : Act} {W : World} {K : Act → World → Prop} (base : Nat) (hw : Region.wanted oi (yielded ops a.tmps) = true) (hN : oi.dst = N) (s x : Operand) (t e : TypeId) (z : Value) (size bytes : Nat)
    (ho : oi.op = .call { callee := .builtin .append, args := #[s, x], argTypes := #[t, t] })
    (ht : P.underlying t = some (.slice e)) (hinfo : (P.info? e).map (fun i => (i.zero, i.size, i.bytes)) = some (some z, size, bytes)) (hz : z.cells.size = size) (hs0 : 0 < size) (hb0 : 0 < bytes)
    (v : Value) (n m c : Nat) (xs ys : List Value) (ad : Addr) (hs : a.eval s = v) (hx : a.eval x = .slice (some ad) m c) (hys : ys.length = m * size) (hce : ∀ (j : Nat) u, ys[j]? = some u → W.cell? (ad.add j) = some u) (h1 : ∀ u ∈ ys, u.oneCell' = true)
    (HO : W.ownsRow base e size v n xs) (hbase : base ≤ W.heap.size) (hl : (n + m) * bytes ≤ 140737488355328)
    (h : ∀ v1 w1, w1.ownsRow base e size v1 (n + m) (xs ++ ys) → W.grownBy w1 v.ownBlock → (v1.ownBlock = v.ownBlock ∨ v1.ownBlock = some W.heap.size) → K (a.put N v1) w1) :
    if Region.wanted oi (yielded ops a.tmps) = true then Oper.wp P oi a W K Q else K (a.put N undef) W := by
  obtain ⟨i0, hi, hzz⟩ := Option.map_eq_some_iff.1 hinfo
  simp only [Prod.mk.injEq] at hzz
  obtain ⟨hz0, hz1, hz2⟩ := hzz
  have hlen : n + m ≤ 140737488355328 := Nat.le_trans (Nat.le_mul_of_pos_right _ hb0) hl
  subst hN
  rw [if_pos hw]
  obtain ⟨v1, w1, hr, hown, hgr, _, hat⟩ := run_append_own_at (P := P) W base t oi.type e i0 z size bytes ht hi hz0 hz1 hz2 hz hs0 v n xs HO ad m c ys hys hce h1 (by simp only [maxLen]; omega) hl hbase
  unfold Oper.wp execOp
  simp only [ho, resolve, invoke, builtin, Sem.run_bind, Sem.run_pure, Result.andThen_ok, List.map_toArray, List.map_cons, List.map_nil, hs, hx, hr]
  exact h v1 w1 hown hgr hat
end
def c82 (x : S82) : List Value := [.int .i64 x.f0, .int .i64 x.f1, .bool x.f2, .int .i64 x.f3, .int .i64 x.f4.f0, .int .i64 x.f4.f1, .int .i64 x.f5.f0, .int .i64 x.f5.f1]
theorem infoS82 : (Try.prog.info? 82).map (fun i => (i.zero, i.size, i.bytes)) = some (some (.agg #[.int .i64 0, .int .i64 0, .bool false, .int .i64 0, .int .i64 0, .int .i64 0, .int .i64 0, .int .i64 0]), 8, 64) := by kernel_rfl
theorem c82s_len (l : List S82) : (l.flatMap c82).length = l.length * 8 := by
  induction l with
  | nil => rfl
  | cons x l ih => rw [List.flatMap_cons, List.length_append, ih, List.length_cons]; show 8 + _ = _; omega
theorem c82s_one (l : List S82) : ∀ u ∈ l.flatMap c82, u.oneCell' = true := by
  intro u hu
  obtain ⟨x, _, hx⟩ := List.mem_flatMap.1 hu
  simp only [c82, List.mem_cons, List.not_mem_nil, or_false] at hx
  rcases hx with rfl | rfl | rfl | rfl | rfl | rfl | rfl | rfl <;> rfl
theorem c82s_get : ∀ (l : List S82) (i r : Nat), i < l.length → r < 8 → (l.flatMap c82)[i * 8 + r]? = (c82 (l.getD i z82))[r]?
  | [], i, r, h, _ => by cases h
  | x :: l, 0, r, _, hr => by
    rw [List.flatMap_cons, List.getElem?_append_left (by show _ < 8; omega)]
    simp
  | x :: l, i + 1, r, h, hr => by
    simp only [List.length_cons] at h
    rw [List.flatMap_cons, List.getElem?_append_right (by show 8 ≤ _; omega), show (i + 1) * 8 + r - (c82 x).length = i * 8 + r by show _ - 8 = _; omega, c82s_get l i r (by omega) hr]
    simp
theorem C82_cells {w : World} {ad : Addr} {n : Nat} {l : List S82} (h : Kd.C k82 w (some ad) n l) (j : Nat) (u : Value) (hj : (l.flatMap c82)[j]? = some u) : w.cell? (ad.add j) = some u := by
  have hlt : j < l.length * 8 := by have := (List.getElem?_eq_some_iff.1 hj).1; rw [c82s_len] at this; exact this
  have hn := C_len h
  obtain ⟨ad', c, e, -, hK, hc⟩ := Kd.C_get h z82 ((j / 8 : Nat) : Int) (by omega) (by omega)
  cases e
  rw [Int.toNat_natCast] at hK hc
  have hco : c = c82 (l.getD (j / 8) z82) := k82_open hK
  have e1 := c82s_get l (j / 8) (j % 8) (by omega) (by omega)
  rw [show j / 8 * 8 + j % 8 = j by omega, hj, ← hco] at e1
  have := hc (j % 8) u e1.symm
  rw [show (Kd.sz k82) = 8 from rfl, show j / 8 * 8 + j % 8 = j by omega] at this
  exact this
theorem own_R82 {w : World} {base : Nat} {ok : Nat → Prop} {v : Value} {xs : List S82} (h : w.ownsRow base 82 8 v xs.length (xs.flatMap c82)) (hok : ∀ k, v.ownBlock = some k → ok k) : Kd.R k82 82 w base ok v xs :=
  ⟨hok, _, h, reps_flat c82 (fun p => k82_mkM _ _ _ p) (fun p => rfl) xs⟩
theorem own_C82 {W : World} {base : Nat} {A : Option Addr} {n c : Nat} {xs : List S82} (h : W.ownsRow base 82 8 (.slice A n c) n (xs.flatMap c82)) (hn : xs.length = n) : n ≤ c ∧ Kd.C k82 W A n xs := by
  subst hn
  have := Kd.R_reads' (own_R82 (ok := fun _ => True) h (fun _ _ => trivial))
  exact ⟨this.2.1, this.2.2⟩
theorem c82s_drop (l : List S82) (t : Nat) : (l.drop t).flatMap c82 = (l.flatMap c82).drop (t * 8) := by
  induction t generalizing l with
  | zero => simp
  | succ t ih =>
    cases l with
    | nil => simp
    | cons x l =>
      rw [List.drop_succ_cons, ih, List.flatMap_cons, List.drop_append, show (c82 x).length = 8 from rfl, @List.drop_eq_nil_of_le _ (c82 x) _ (by show 8 ≤ _; omega), List.nil_append, show (t + 1) * 8 - 8 = t * 8 by omega]
/-- A part of a row of the reference's specimens, from number t on. -/
theorem C82_from {w : World} {ad : Addr} {n : Nat} {l : List S82} (h : Kd.C k82 w (some ad) n l) (t j : Nat) (u : Value) (hj : ((l.drop t).flatMap c82)[j]? = some u) : w.cell? ((ad.add (t * 8)).add j) = some u := by
  rw [c82s_drop, List.getElem?_drop] at hj
  have := C82_cells h _ u hj
  rw [Go.Deep.add_add]; exact this
theorem C82_to {w : World} {ad : Addr} {n : Nat} {l : List S82} (h : Kd.C k82 w (some ad) n l) (t j : Nat) (u : Value) (hj : ((l.take t).flatMap c82)[j]? = some u) : w.cell? (ad.add j) = some u := by
  refine C82_cells h j u ?_
  have e : l.flatMap c82 = (l.take t).flatMap c82 ++ (l.drop t).flatMap c82 := by rw [← List.flatMap_append, List.take_append_drop]
  rw [e, List.getElem?_append_left (List.getElem?_eq_some_iff.1 hj).1]; exact hj
end Go.Proofs.Ytffjbaknglemdaa.X
