import Derived.Test.YtffjbaknglemdaaHQ2
namespace Go.Proofs.Ytffjbaknglemdaa.X
open Go.RowKit Go.Maps Go.Proofs.YtffjbaknglemdaaW.PrintWords Go.Proofs.YtffjbaknglemdaaW.PrintLast Go.Proofs.YtffjbaknglemdaaW.PrintMore
set_option linter.unusedSimpArgs false
set_option linter.unusedVariables false

/-! ### PlateTraces 5 -/
theorem p0_in8 {a0 a1 a2 : Int} {l : List S115} (h : PlOk a0 a1 a2 l) : In8 ⟨0, 0, a0, a1⟩ := h.in8
theorem whole_covers {a0 a1 x y : Int} (h0 : 1 ≤ a0 ∧ a0 ≤ 8) (h1 : 1 ≤ a1 ∧ a1 ≤ 8) (hx : I64 x) (hy : I64 y) : coversB ⟨0, 0, a0, a1⟩ x y = (inB x 0 (a0 - 1) && inB y 0 (a1 - 1)) := by
  obtain ⟨hx1, hx2⟩ := hx
  obtain ⟨hy1, hy2⟩ := hy
  unfold coversB plate_Piece_covers.f
  rw [within_f, within_f, w64 (z := x - 0) (by omega) (by omega), w64 (z := y - 0) (by omega) (by omega), w64 (z := a0 - 1) (by omega) (by omega), w64 (z := a1 - 1) (by omega) (by omega)]
  simp only [Option.bind_some, Int.sub_zero]
  have e0 : inB x 0 (a0 - 1) = decide (0 ≤ x ∧ x ≤ a0 - 1) := by rw [Bool.eq_iff_iff, inB_iff]; simp
  have e1 : inB y 0 (a1 - 1) = decide (0 ≤ y ∧ y ≤ a1 - 1) := by rw [Bool.eq_iff_iff, inB_iff]; simp
  rw [e0, e1]
  cases decide (0 ≤ x ∧ x ≤ a0 - 1) <;> cases decide (0 ≤ y ∧ y ≤ a1 - 1) <;> rfl
theorem traceR_ge (x y : Int) : ∀ (n : Nat) (r : List (S88 × Bool)), traceR x y n r = -1 ∨ 0 ≤ traceR x y n r
  | _, [] => .inl rfl
  | n, p :: r => by
    simp only [traceR]
    split
    · exact traceR_ge x y (n + 1) r
    · split
      · right; omega
      · exact traceR_ge x y (n + 1) r
theorem trace_law {a0 a1 a2 : Int} {l : List S82} {cuts : List S107} {uses : List Int} {x y r1 r2 r3 pr : Int} (hc : WB107 cuts) (hx : I64 x) (hy : I64 y) (h : plate_Trace.f a0 a1 a2 (l.map toW) (cuts.map toC) uses x y = some (r1, r2, r3)) (hp : plannedR a0 a1 a2 l cuts uses = pr) :
    (pr ≠ 0 ∧ r1 = 0 ∧ r2 = 0 ∧ r3 = pr) ∨ (pr = 0 ∧ (1 ≤ a0 ∧ a0 ≤ 8 ∧ 1 ≤ a1 ∧ a1 ≤ 8) ∧ (inB x 0 (a0 - 1) && inB y 0 (a1 - 1)) = false ∧ r1 = 0 ∧ r2 = 0 ∧ r3 = 2) ∨
    (pr = 0 ∧ (1 ≤ a0 ∧ a0 ≤ 8 ∧ 1 ≤ a1 ∧ a1 ≤ 8) ∧ inB x 0 (a0 - 1) = true ∧ inB y 0 (a1 - 1) = true ∧ ∃ st, stepsR a2 ([⟨0, 0, a0, a1⟩], [false]) cuts = some st ∧ traceR x y 0 (st.1.zip st.2) = r1 ∧ r3 = 0 ∧ ((r1 = -1 ∧ r2 = -1) ∨ (0 ≤ r1 ∧ idx uses r1 = r2))) := by
  unfold plate_Trace.f at h
  rcases planned_ref (a0 := a0) (a1 := a1) (a2 := a2) (l := l) (uses := uses) hc with ⟨er, her, h1, h2⟩ | ⟨h1, st, hr⟩
  · rw [h2] at h
    simp only [Option.some.injEq, Prod.mk.injEq] at h
    obtain ⟨rfl, rfl, rfl⟩ := h
    exact .inl ⟨by rw [← hp, h1]; exact her, rfl, rfl, by rw [← hp, h1]⟩
  · rw [hr.planned] at h
    have hw := hr.ok.wid
    have hg := hr.ok.lng
    have hpr : pr = 0 := by rw [← hp, h1]
    simp only [Option.some.injEq] at h
    unfold traceFin at h
    rw [whole_covers hw hg hx hy] at h
    cases hb : (inB x 0 (a0 - 1) && inB y 0 (a1 - 1)) with
    | false =>
      rw [hb, if_neg (by simp)] at h
      simp only [Prod.mk.injEq] at h
      obtain ⟨rfl, rfl, rfl⟩ := h
      exact .inr (.inl ⟨hpr, ⟨hw.1, hw.2, hg.1, hg.2⟩, rfl, rfl, rfl, rfl⟩)
    | true =>
      rw [hb, if_pos rfl] at h
      rw [Bool.and_eq_true] at hb
      have hbx := inB_iff.1 hb.1
      have hby := inB_iff.1 hb.2
      have e := trace_ref (x := x) (y := y) (by omega) (by omega) hr.in8
      rw [e] at h
      refine .inr (.inr ⟨hpr, ⟨hw.1, hw.2, hg.1, hg.2⟩, hb.1, hb.2, st, hr.steps, ?_⟩)
      rcases traceR_ge x y 0 (st.1.zip st.2) with h3 | h3
      · rw [if_pos h3] at h
        simp only [Prod.mk.injEq] at h
        obtain ⟨rfl, rfl, rfl⟩ := h
        exact ⟨h3, rfl, .inl ⟨rfl, rfl⟩⟩
      · rw [if_neg (by omega)] at h
        simp only [Prod.mk.injEq] at h
        obtain ⟨rfl, rfl, rfl⟩ := h
        exact ⟨rfl, rfl, .inr ⟨h3, rfl⟩⟩
set_option maxRecDepth 100000 in
set_option maxHeartbeats 4000000 in
theorem plateTraces_calls (a0 a1 a2 : Int) (A : Option Addr) (c : Nat) (l : List S82) (B : Option Addr) (d : Nat) (cuts : List S107) (E : Option Addr) (k : Nat) (uses : List Int) (x y : Int) (w : World) (hl : Kd.C k82 w A l.length l) (hlc : l.length ≤ c) (hq : Kd.C k107 w B cuts.length cuts) (hqd : cuts.length ≤ d) (hu : Kd.C (Kd.int .i64) w E uses.length uses) (huk : uses.length ≤ k) (hwb : WB107 cuts) (hub : ∀ n ∈ uses, I64 n) (hx : I64 x) (hy : I64 y) :
    Calls Try.prog 5 #[.agg #[.int .i64 a0, .int .i64 a1, .int .i64 a2, .slice A l.length c], .agg #[.slice B cuts.length d, .slice E uses.length k], .int .i64 x, .int .i64 y] w fun e w' => e = .returned (.bool true) ∧ Below w.heap.size w w' := by
  have HL := Lib.hid hl
  have HQ := Lib.hid hq
  have HU := Lib.hid hu
  have h24 := fun w => thin_calls a0 a1 a2 A l.length c B cuts.length d E uses.length k w
  have HI : Hid (WI w a0 a1 a2 (.slice A l.length c) (.slice B cuts.length d) (.slice E uses.length k) ((w.alloc (.cells #[.int .i64 a0, .int .i64 a1, .int .i64 a2, .slice A l.length c] 24)).alloc (.cells #[.slice B cuts.length d, .slice E uses.length k] 37))) := Lib.hid ⟨blk_below (alloc_at rfl) (below_alloc (Below.refl _ _) _), alloc_at (by simp), below_alloc (below_alloc (Below.refl _ _) _) _⟩
  clear hl hq hu
  cases hth : thinR l.length cuts.length uses.length with
  | false =>
    rw [hth] at h24
    have H24 := Lib.hid h24
    clear h24 hth hwb hub
    go_enter Try.func5, Try.ntmps5
    go_wp2_with (first | (go_at_call 24; refine (H24.out _).mono ?_; rintro e V1 ⟨rfl, hs⟩; have HI := Lib.hid (HI.out.below hs); have hz0 : V1.cell? ⟨w.heap.size, 0, none⟩ = some (.int .i64 a0) := (blk_cell HI.out.b0 0).trans rfl; have hz1 : V1.cell? ⟨w.heap.size, 1, none⟩ = some (.int .i64 a1) := (blk_cell HI.out.b0 1).trans rfl; have hz2 : V1.cell? ⟨w.heap.size, 2, none⟩ = some (.int .i64 a2) := (blk_cell HI.out.b0 2).trans rfl; have hz3 : V1.cell? ⟨w.heap.size, 3, none⟩ = some (.slice A l.length c) := (blk_cell HI.out.b0 3).trans rfl; have hz4 : V1.cell? ⟨w.heap.size + 1, 0, none⟩ = some (.slice B cuts.length d) := (blk_cell HI.out.b1 0).trans rfl; have hz5 : V1.cell? ⟨w.heap.size + 1, 1, none⟩ = some (.slice E uses.length k) := (blk_cell HI.out.b1 1).trans rfl) | (go_at_call 25; refine (wakes_calls _).mono ?_; rintro e V9 ⟨rfl, hs⟩; have HI := Lib.hid (HI.out.below hs)))
    go_ret
    exact ⟨rfl, HI.out.low⟩
  | true =>
  rw [hth] at h24
  have H24 := Lib.hid h24
  obtain ⟨hl6, hq45, hu6⟩ : l.length ≤ 6 ∧ cuts.length ≤ 45 ∧ uses.length ≤ 6 := by unfold thinR at hth; simp at hth; omega
  clear h24 hth
  obtain ⟨r1, r2, r3, htr⟩ : ∃ r1 r2 r3, plate_Trace.f a0 a1 a2 (l.map toW) (cuts.map toC) uses x y = some (r1, r2, r3) := ⟨_, _, _, rfl⟩
  obtain ⟨pr, hpr⟩ : ∃ pr, plannedR a0 a1 a2 l cuts uses = pr := ⟨_, rfl⟩
  have HLAW := Lib.hid (trace_law hwb hx hy htr hpr)
  have HTR := Lib.hid htr
  have HPR := Lib.hid hpr
  clear htr hpr hwb hub hx hy
  go_enter Try.func5, Try.ntmps5
  go_wp2_with (first | (go_at_call 24; refine (H24.out _).mono ?_; rintro e V1 ⟨rfl, hs⟩; have HI := Lib.hid (HI.out.below hs); have hz0 : V1.cell? ⟨w.heap.size, 0, none⟩ = some (.int .i64 a0) := (blk_cell HI.out.b0 0).trans rfl; have hz1 : V1.cell? ⟨w.heap.size, 1, none⟩ = some (.int .i64 a1) := (blk_cell HI.out.b0 1).trans rfl; have hz2 : V1.cell? ⟨w.heap.size, 2, none⟩ = some (.int .i64 a2) := (blk_cell HI.out.b0 2).trans rfl; have hz3 : V1.cell? ⟨w.heap.size, 3, none⟩ = some (.slice A l.length c) := (blk_cell HI.out.b0 3).trans rfl; have hz4 : V1.cell? ⟨w.heap.size + 1, 0, none⟩ = some (.slice B cuts.length d) := (blk_cell HI.out.b1 0).trans rfl; have hz5 : V1.cell? ⟨w.heap.size + 1, 1, none⟩ = some (.slice E uses.length k) := (blk_cell HI.out.b1 1).trans rfl))
  replace HI := Lib.hid (HI.out.below (below_drew1 (Below.refl _ _)))
  clear hz0 hz1 hz2 hz3 hz4 hz5
  refine start_ (n := 14) (S := fun w' => w'.cell? ⟨w.heap.size, 0, none⟩ = some (.int .i64 a0) ∧ w'.cell? ⟨w.heap.size, 1, none⟩ = some (.int .i64 a1) ∧ w'.cell? ⟨w.heap.size, 2, none⟩ = some (.int .i64 a2) ∧ w'.cell? ⟨w.heap.size, 3, none⟩ = some (.slice A l.length c) ∧ w'.cell? ⟨w.heap.size + 1, 0, none⟩ = some (.slice B cuts.length d) ∧ w'.cell? ⟨w.heap.size + 1, 1, none⟩ = some (.slice E uses.length k)) (ds := []) #[false, false, false, false, false, false, false, false, false, false, false, false, false, false] (by kernel_rfl) rfl rfl ⟨((blk_cell HI.out.b0 0).trans rfl), ((blk_cell HI.out.b0 1).trans rfl), ((blk_cell HI.out.b0 2).trans rfl), ((blk_cell HI.out.b0 3).trans rfl), ((blk_cell HI.out.b1 0).trans rfl), ((blk_cell HI.out.b1 1).trans rfl)⟩ (fun hHeld => ?_)
  refine pure_ (i := 4) (N := some 25) (v := ?_) (a' := ?_) #[false, false, false, false, true, false, false, false, false, false, false, false, false, false] rfl rfl (by kernel_rfl) (fun _ _ _ h => h) (Or.inl ⟨by rfl, ?_⟩) ?_ ?_
  rotate_left
  · intro w'
    go_simp
    with_reducible rfl
  rotate_left
  · simp only [Act.put, List.setIfInBounds_toArray, List.set_cons_zero, List.set_cons_succ, i64_w, i32_w]
    rfl
  refine pure_ (i := 5) (N := some 26) (v := ?_) (a' := ?_) #[false, false, false, false, true, true, false, false, false, false, false, false, false, false] rfl rfl (by kernel_rfl) (fun _ _ _ h => h) (Or.inl ⟨by rfl, ?_⟩) ?_ ?_
  rotate_left
  · intro w'
    go_simp
    with_reducible rfl
  rotate_left
  · simp only [Act.put, List.setIfInBounds_toArray, List.set_cons_zero, List.set_cons_succ, i64_w, i32_w]
    rfl
  refine take_ (i := 0) (N := some 21) (v := ?_) (a' := ?_) #[true, false, false, false, true, true, false, false, false, false, false, false, false, false] rfl rfl (by kernel_rfl) (fun _ _ _ h => h) (Or.inl ⟨by rfl, ?_⟩) hHeld ?_ ?_
  rotate_left
  · rintro w' ⟨s0, s1, s2, s3, s4, s5⟩
    go_simp
    with_reducible rfl
  rotate_left
  · simp only [Act.put, List.setIfInBounds_toArray, List.set_cons_zero, List.set_cons_succ, i64_w, i32_w]
    rfl
  refine take_ (i := 2) (N := some 23) (v := ?_) (a' := ?_) #[true, false, true, false, true, true, false, false, false, false, false, false, false, false] rfl rfl (by kernel_rfl) (fun _ _ _ h => h) (Or.inl ⟨by rfl, ?_⟩) hHeld ?_ ?_
  rotate_left
  · rintro w' ⟨s0, s1, s2, s3, s4, s5⟩
    go_simp
    with_reducible rfl
  rotate_left
  · simp only [Act.put, List.setIfInBounds_toArray, List.set_cons_zero, List.set_cons_succ, i64_w, i32_w]
    rfl
  refine one_ (i := 1) (N := some 22) #[true, true, true, false, true, true, false, false, false, false, false, false, false, false] rfl rfl (by kernel_rfl) (by decide) (fun K hK => ?_)
  refine goes_ Try.func27 (by kernel_rfl) rfl #[.agg #[.int .i64 a0, .int .i64 a1, .int .i64 a2, .slice A l.length c]] (by rfl) rfl rfl (by simp only [List.map_toArray, List.map_cons, List.map_nil]; rfl) ?_
  with_reducible refine (lplate_of (Kd.C_below HL.out HI.out.low) (by omega)).mono ?_
  rintro e V2 ⟨P, p, rfl, hp, HP0, hs⟩
  have HP := Lib.hid HP0
  clear HP0
  replace HI := Lib.hid (HI.out.below hs)
  clear hs
  refine ⟨_, rfl, ?_⟩
  refine hK.out _ _ ⟨((blk_cell HI.out.b0 0).trans rfl), ((blk_cell HI.out.b0 1).trans rfl), ((blk_cell HI.out.b0 2).trans rfl), ((blk_cell HI.out.b0 3).trans rfl), ((blk_cell HI.out.b1 0).trans rfl), ((blk_cell HI.out.b1 1).trans rfl)⟩ (fun hHeld => ?_)
  clear hK K
  refine norm_ (a' := ?_) ?_ ?_
  rotate_left
  · show Act.put _ (some 22) _ = _
    simp only [Act.put, List.setIfInBounds_toArray, List.set_cons_zero, List.set_cons_succ, i64_w, i32_w]
    rfl
  refine one_ (i := 3) (N := some 24) #[true, true, true, true, true, true, false, false, false, false, false, false, false, false] rfl rfl (by kernel_rfl) (by decide) (fun K hK => ?_)
  refine goes_ Try.func28 (by kernel_rfl) rfl #[.agg #[.slice B cuts.length d, .slice E uses.length k]] (by rfl) rfl rfl (by simp only [List.map_toArray, List.map_cons, List.map_nil]; rfl) ?_
  with_reducible refine (lplan_of (Kd.C_below HQ.out HI.out.low) (by omega) (Kd.C_below HU.out HI.out.low) (by omega)).mono ?_
  rintro e V3 ⟨R, r, Z, z, rfl, hr, hz, HR0, HZ0, hs⟩
  have HR := Lib.hid HR0
  have HZ := Lib.hid HZ0
  clear HR0 HZ0
  replace HP := Lib.hid (Kd.C_below HP.out hs)
  replace HI := Lib.hid (HI.out.below hs)
  clear hs
  refine ⟨_, rfl, ?_⟩
  refine hK.out _ _ ⟨((blk_cell HI.out.b0 0).trans rfl), ((blk_cell HI.out.b0 1).trans rfl), ((blk_cell HI.out.b0 2).trans rfl), ((blk_cell HI.out.b0 3).trans rfl), ((blk_cell HI.out.b1 0).trans rfl), ((blk_cell HI.out.b1 1).trans rfl)⟩ (fun hHeld => ?_)
  clear hK K
  refine norm_ (a' := ?_) ?_ ?_
  rotate_left
  · show Act.put _ (some 24) _ = _
    simp only [Act.put, List.setIfInBounds_toArray, List.set_cons_zero, List.set_cons_succ, i64_w, i32_w]
    rfl
  refine one_ (i := 6) (N := some 27) #[true, true, true, true, true, true, true, false, false, false, false, false, false, false] rfl rfl (by kernel_rfl) (by decide) (fun K hK => ?_)
  refine goes_ Try.func31 (by kernel_rfl) rfl #[.agg #[.int .i64 a0, .int .i64 a1, .int .i64 a2, .slice P l.length p], .agg #[.slice R cuts.length r, .slice Z uses.length z], .int .i64 x, .int .i64 y] (by rfl) rfl rfl (by simp only [List.map_toArray, List.map_cons, List.map_nil]; rfl) ?_
  with_reducible refine (trace_of HP.out hp HR.out hr HZ.out hz HTR.out).mono ?_
  rintro e V5 ⟨rfl, hs⟩
  replace HI := Lib.hid (HI.out.below hs)
  clear hs
  refine ⟨_, rfl, ?_⟩
  refine hK.out _ _ ⟨((blk_cell HI.out.b0 0).trans rfl), ((blk_cell HI.out.b0 1).trans rfl), ((blk_cell HI.out.b0 2).trans rfl), ((blk_cell HI.out.b0 3).trans rfl), ((blk_cell HI.out.b1 0).trans rfl), ((blk_cell HI.out.b1 1).trans rfl)⟩ (fun hHeld => ?_)
  clear hK K
  refine norm_ (a' := ?_) ?_ ?_
  rotate_left
  · show Act.put _ (some 27) _ = _
    simp only [Act.put, List.setIfInBounds_toArray, List.set_cons_zero, List.set_cons_succ, i64_w, i32_w]
    rfl
  refine pure_ (i := 7) (N := some 20) (v := ?_) (a' := ?_) #[true, true, true, true, true, true, true, true, false, false, false, false, false, false] rfl rfl (by kernel_rfl) (fun _ _ _ h => h) (Or.inl ⟨by rfl, ?_⟩) ?_ ?_
  rotate_left
  · intro w'
    go_simp
    with_reducible rfl
  rotate_left
  · simp only [Act.put, List.setIfInBounds_toArray, List.set_cons_zero, List.set_cons_succ, i64_w, i32_w]
    rfl
  refine pure_ (i := 8) (N := some 28) (v := ?_) (a' := ?_) #[true, true, true, true, true, true, true, true, true, false, false, false, false, false] rfl rfl (by kernel_rfl) (fun _ _ _ h => h) (Or.inl ⟨by rfl, ?_⟩) ?_ ?_
  rotate_left
  · intro w'
    go_simp
    with_reducible rfl
  rotate_left
  · simp only [Act.put, List.setIfInBounds_toArray, List.set_cons_zero, List.set_cons_succ, i64_w, i32_w]
    rfl
  refine pure_ (i := 9) (N := some 29) (v := ?_) (a' := ?_) #[true, true, true, true, true, true, true, true, true, true, false, false, false, false] rfl rfl (by kernel_rfl) (fun _ _ _ h => h) (Or.inl ⟨by rfl, ?_⟩) ?_ ?_
  rotate_left
  · intro w'
    go_simp
    with_reducible rfl
  rotate_left
  · simp only [Act.put, List.setIfInBounds_toArray, List.set_cons_zero, List.set_cons_succ, i64_w, i32_w]
    rfl
  refine pure_ (i := 10) (N := some 30) (v := ?_) (a' := ?_) #[true, true, true, true, true, true, true, true, true, true, true, false, false, false] rfl rfl (by kernel_rfl) (fun _ _ _ h => h) (Or.inl ⟨by rfl, ?_⟩) ?_ ?_
  rotate_left
  · intro w'
    go_simp
    with_reducible rfl
  rotate_left
  · simp only [Act.put, List.setIfInBounds_toArray, List.set_cons_zero, List.set_cons_succ, i64_w, i32_w]
    rfl
  refine pure_ (i := 11) (N := some 9) (v := ?_) (a' := ?_) #[true, true, true, true, true, true, true, true, true, true, true, true, false, false] rfl rfl (by kernel_rfl) (fun _ _ _ h => h) (Or.inl ⟨by rfl, ?_⟩) ?_ ?_
  rotate_left
  · intro w'
    go_simp
    with_reducible rfl
  rotate_left
  · simp only [Act.put, List.setIfInBounds_toArray, List.set_cons_zero, List.set_cons_succ, i64_w, i32_w]
    rfl
  refine pure_ (i := 12) (N := some 10) (v := ?_) (a' := ?_) #[true, true, true, true, true, true, true, true, true, true, true, true, true, false] rfl rfl (by kernel_rfl) (fun _ _ _ h => h) (Or.inl ⟨by rfl, ?_⟩) ?_ ?_
  rotate_left
  · intro w'
    go_simp
    with_reducible rfl
  rotate_left
  · simp only [Act.put, List.setIfInBounds_toArray, List.set_cons_zero, List.set_cons_succ, i64_w, i32_w]
    rfl
  refine pure_ (i := 13) (N := some 11) (v := ?_) (a' := ?_) #[true, true, true, true, true, true, true, true, true, true, true, true, true, true] rfl rfl (by kernel_rfl) (fun _ _ _ h => h) (Or.inl ⟨by rfl, ?_⟩) ?_ ?_
  rotate_left
  · intro w'
    go_simp
    with_reducible rfl
  rotate_left
  · simp only [Act.put, List.setIfInBounds_toArray, List.set_cons_zero, List.set_cons_succ, i64_w, i32_w]
    rfl
  refine done_ (by kernel_rfl) ?_
  have hz0 : V5.cell? ⟨w.heap.size, 0, none⟩ = some (.int .i64 a0) := (blk_cell HI.out.b0 0).trans rfl; have hz1 : V5.cell? ⟨w.heap.size, 1, none⟩ = some (.int .i64 a1) := (blk_cell HI.out.b0 1).trans rfl; have hz2 : V5.cell? ⟨w.heap.size, 2, none⟩ = some (.int .i64 a2) := (blk_cell HI.out.b0 2).trans rfl; have hz3 : V5.cell? ⟨w.heap.size, 3, none⟩ = some (.slice A l.length c) := (blk_cell HI.out.b0 3).trans rfl; have hz4 : V5.cell? ⟨w.heap.size + 1, 0, none⟩ = some (.slice B cuts.length d) := (blk_cell HI.out.b1 0).trans rfl; have hz5 : V5.cell? ⟨w.heap.size + 1, 1, none⟩ = some (.slice E uses.length k) := (blk_cell HI.out.b1 1).trans rfl
  clear hHeld HP HR HZ hp hr hz HTR
  rcases HLAW.out with ⟨h1, rfl, rfl, rfl⟩ | ⟨h1, hbd, hin, rfl, rfl, rfl⟩ | ⟨h1, hbd, hin1, hin2, st, hst, htr, rfl, hr12⟩
  · have hb : (r3 == 0) = false := by simpa using h1
    have hb2 : (r3 != 0) = true := bne_iff_ne.2 h1
    have hb3 : (r3 == r3) = true := by simp
    clear h1 HLAW
    go_wp2_with (first | (go_at_call 29; refine (lplanned_calls a0 a1 a2 A c l B d cuts E k uses _ (Kd.C_below HL.out HI.out.low) hlc (Kd.C_below HQ.out HI.out.low) hqd (by omega) (Kd.C_below HU.out HI.out.low) (by omega) (by omega)).mono ?_; rintro e V4 ⟨he, hs⟩; rw [HPR.out] at he; subst he; have HI := Lib.hid (HI.out.below hs); have hz0 : V4.cell? ⟨w.heap.size, 0, none⟩ = some (.int .i64 a0) := (blk_cell HI.out.b0 0).trans rfl; have hz1 : V4.cell? ⟨w.heap.size, 1, none⟩ = some (.int .i64 a1) := (blk_cell HI.out.b0 1).trans rfl; have hz2 : V4.cell? ⟨w.heap.size, 2, none⟩ = some (.int .i64 a2) := (blk_cell HI.out.b0 2).trans rfl; have hz3 : V4.cell? ⟨w.heap.size, 3, none⟩ = some (.slice A l.length c) := (blk_cell HI.out.b0 3).trans rfl; have hz4 : V4.cell? ⟨w.heap.size + 1, 0, none⟩ = some (.slice B cuts.length d) := (blk_cell HI.out.b1 0).trans rfl; have hz5 : V4.cell? ⟨w.heap.size + 1, 1, none⟩ = some (.slice E uses.length k) := (blk_cell HI.out.b1 1).trans rfl) | (go_at_call 25; refine (wakes_calls _).mono ?_; rintro e V9 ⟨rfl, hs⟩; have HI := Lib.hid (HI.out.below hs)))
    go_ret
    exact ⟨rfl, HI.out.low⟩
  · subst h1
    clear HLAW
    cases hin1 : inB x 0 (a0 - 1) with
    | false =>
      clear hin
      go_wp2_with (first | (go_at_call 29; refine (lplanned_calls a0 a1 a2 A c l B d cuts E k uses _ (Kd.C_below HL.out HI.out.low) hlc (Kd.C_below HQ.out HI.out.low) hqd (by omega) (Kd.C_below HU.out HI.out.low) (by omega) (by omega)).mono ?_; rintro e V4 ⟨he, hs⟩; rw [HPR.out] at he; subst he; have HI := Lib.hid (HI.out.below hs); have hz0 : V4.cell? ⟨w.heap.size, 0, none⟩ = some (.int .i64 a0) := (blk_cell HI.out.b0 0).trans rfl; have hz1 : V4.cell? ⟨w.heap.size, 1, none⟩ = some (.int .i64 a1) := (blk_cell HI.out.b0 1).trans rfl; have hz2 : V4.cell? ⟨w.heap.size, 2, none⟩ = some (.int .i64 a2) := (blk_cell HI.out.b0 2).trans rfl; have hz3 : V4.cell? ⟨w.heap.size, 3, none⟩ = some (.slice A l.length c) := (blk_cell HI.out.b0 3).trans rfl; have hz4 : V4.cell? ⟨w.heap.size + 1, 0, none⟩ = some (.slice B cuts.length d) := (blk_cell HI.out.b1 0).trans rfl; have hz5 : V4.cell? ⟨w.heap.size + 1, 1, none⟩ = some (.slice E uses.length k) := (blk_cell HI.out.b1 1).trans rfl) | (go_at_call 32; refine (in_calls _ _ _ _).mono ?_; rintro e _ ⟨rfl, rfl⟩) | (go_at_call 25; refine (wakes_calls _).mono ?_; rintro e V9 ⟨rfl, hs⟩; have HI := Lib.hid (HI.out.below hs)))
      go_ret
      exact ⟨rfl, HI.out.low⟩
    | true =>
      have hin2 : inB y 0 (a1 - 1) = false := by rw [hin1] at hin; exact hin
      clear hin
      go_wp2_with (first | (go_at_call 29; refine (lplanned_calls a0 a1 a2 A c l B d cuts E k uses _ (Kd.C_below HL.out HI.out.low) hlc (Kd.C_below HQ.out HI.out.low) hqd (by omega) (Kd.C_below HU.out HI.out.low) (by omega) (by omega)).mono ?_; rintro e V4 ⟨he, hs⟩; rw [HPR.out] at he; subst he; have HI := Lib.hid (HI.out.below hs); have hz0 : V4.cell? ⟨w.heap.size, 0, none⟩ = some (.int .i64 a0) := (blk_cell HI.out.b0 0).trans rfl; have hz1 : V4.cell? ⟨w.heap.size, 1, none⟩ = some (.int .i64 a1) := (blk_cell HI.out.b0 1).trans rfl; have hz2 : V4.cell? ⟨w.heap.size, 2, none⟩ = some (.int .i64 a2) := (blk_cell HI.out.b0 2).trans rfl; have hz3 : V4.cell? ⟨w.heap.size, 3, none⟩ = some (.slice A l.length c) := (blk_cell HI.out.b0 3).trans rfl; have hz4 : V4.cell? ⟨w.heap.size + 1, 0, none⟩ = some (.slice B cuts.length d) := (blk_cell HI.out.b1 0).trans rfl; have hz5 : V4.cell? ⟨w.heap.size + 1, 1, none⟩ = some (.slice E uses.length k) := (blk_cell HI.out.b1 1).trans rfl) | (go_at_call 32; refine (in_calls _ _ _ _).mono ?_; rintro e _ ⟨rfl, rfl⟩) | (go_at_call 25; refine (wakes_calls _).mono ?_; rintro e V9 ⟨rfl, hs⟩; have HI := Lib.hid (HI.out.below hs)))
      go_ret
      exact ⟨rfl, HI.out.low⟩
  · subst h1
    have HST := Lib.hid hst
    have HT := Lib.hid htr
    clear HLAW hst htr
    rcases hr12 with ⟨rfl, rfl⟩ | ⟨h0, hix⟩
    · go_wp2_with (first | (go_at_call 29; refine (lplanned_calls a0 a1 a2 A c l B d cuts E k uses _ (Kd.C_below HL.out HI.out.low) hlc (Kd.C_below HQ.out HI.out.low) hqd (by omega) (Kd.C_below HU.out HI.out.low) (by omega) (by omega)).mono ?_; rintro e V4 ⟨he, hs⟩; rw [HPR.out] at he; subst he; have HI := Lib.hid (HI.out.below hs); have hz0 : V4.cell? ⟨w.heap.size, 0, none⟩ = some (.int .i64 a0) := (blk_cell HI.out.b0 0).trans rfl; have hz1 : V4.cell? ⟨w.heap.size, 1, none⟩ = some (.int .i64 a1) := (blk_cell HI.out.b0 1).trans rfl; have hz2 : V4.cell? ⟨w.heap.size, 2, none⟩ = some (.int .i64 a2) := (blk_cell HI.out.b0 2).trans rfl; have hz3 : V4.cell? ⟨w.heap.size, 3, none⟩ = some (.slice A l.length c) := (blk_cell HI.out.b0 3).trans rfl; have hz4 : V4.cell? ⟨w.heap.size + 1, 0, none⟩ = some (.slice B cuts.length d) := (blk_cell HI.out.b1 0).trans rfl; have hz5 : V4.cell? ⟨w.heap.size + 1, 1, none⟩ = some (.slice E uses.length k) := (blk_cell HI.out.b1 1).trans rfl) | (go_at_call 32; refine (in_calls _ _ _ _).mono ?_; rintro e _ ⟨rfl, rfl⟩) | (go_at_call 33; refine (refTrace_calls a0 a1 a2 A c l B d cuts (.slice E uses.length k) x y st _ (Kd.C_below HQ.out HI.out.low) hqd (by omega) HST.out).mono ?_; rintro e V6 ⟨he, hs⟩; rw [HT.out] at he; subst he; have HI := Lib.hid (HI.out.below hs); have hz0 : V6.cell? ⟨w.heap.size, 0, none⟩ = some (.int .i64 a0) := (blk_cell HI.out.b0 0).trans rfl; have hz1 : V6.cell? ⟨w.heap.size, 1, none⟩ = some (.int .i64 a1) := (blk_cell HI.out.b0 1).trans rfl; have hz2 : V6.cell? ⟨w.heap.size, 2, none⟩ = some (.int .i64 a2) := (blk_cell HI.out.b0 2).trans rfl; have hz3 : V6.cell? ⟨w.heap.size, 3, none⟩ = some (.slice A l.length c) := (blk_cell HI.out.b0 3).trans rfl; have hz4 : V6.cell? ⟨w.heap.size + 1, 0, none⟩ = some (.slice B cuts.length d) := (blk_cell HI.out.b1 0).trans rfl; have hz5 : V6.cell? ⟨w.heap.size + 1, 1, none⟩ = some (.slice E uses.length k) := (blk_cell HI.out.b1 1).trans rfl) | (go_at_call 25; refine (wakes_calls _).mono ?_; rintro e V9 ⟨rfl, hs⟩; have HI := Lib.hid (HI.out.below hs)))
      go_ret
      exact ⟨rfl, HI.out.low⟩
    · have HIX := Lib.hid hix
      have hb0 : decide (0 ≤ r1) = true := decide_eq_true h0
      have hb1 : (r1 == r1) = true := by simp
      have hb2 : (r2 == r2) = true := by simp
      clear hix h0
      go_wp2_with (first | (go_at_call 29; refine (lplanned_calls a0 a1 a2 A c l B d cuts E k uses _ (Kd.C_below HL.out HI.out.low) hlc (Kd.C_below HQ.out HI.out.low) hqd (by omega) (Kd.C_below HU.out HI.out.low) (by omega) (by omega)).mono ?_; rintro e V4 ⟨he, hs⟩; rw [HPR.out] at he; subst he; have HI := Lib.hid (HI.out.below hs); have hz0 : V4.cell? ⟨w.heap.size, 0, none⟩ = some (.int .i64 a0) := (blk_cell HI.out.b0 0).trans rfl; have hz1 : V4.cell? ⟨w.heap.size, 1, none⟩ = some (.int .i64 a1) := (blk_cell HI.out.b0 1).trans rfl; have hz2 : V4.cell? ⟨w.heap.size, 2, none⟩ = some (.int .i64 a2) := (blk_cell HI.out.b0 2).trans rfl; have hz3 : V4.cell? ⟨w.heap.size, 3, none⟩ = some (.slice A l.length c) := (blk_cell HI.out.b0 3).trans rfl; have hz4 : V4.cell? ⟨w.heap.size + 1, 0, none⟩ = some (.slice B cuts.length d) := (blk_cell HI.out.b1 0).trans rfl; have hz5 : V4.cell? ⟨w.heap.size + 1, 1, none⟩ = some (.slice E uses.length k) := (blk_cell HI.out.b1 1).trans rfl) | (go_at_call 32; refine (in_calls _ _ _ _).mono ?_; rintro e _ ⟨rfl, rfl⟩) | (go_at_call 33; refine (refTrace_calls a0 a1 a2 A c l B d cuts (.slice E uses.length k) x y st _ (Kd.C_below HQ.out HI.out.low) hqd (by omega) HST.out).mono ?_; rintro e V6 ⟨he, hs⟩; rw [HT.out] at he; subst he; have HI := Lib.hid (HI.out.below hs); have hz0 : V6.cell? ⟨w.heap.size, 0, none⟩ = some (.int .i64 a0) := (blk_cell HI.out.b0 0).trans rfl; have hz1 : V6.cell? ⟨w.heap.size, 1, none⟩ = some (.int .i64 a1) := (blk_cell HI.out.b0 1).trans rfl; have hz2 : V6.cell? ⟨w.heap.size, 2, none⟩ = some (.int .i64 a2) := (blk_cell HI.out.b0 2).trans rfl; have hz3 : V6.cell? ⟨w.heap.size, 3, none⟩ = some (.slice A l.length c) := (blk_cell HI.out.b0 3).trans rfl; have hz4 : V6.cell? ⟨w.heap.size + 1, 0, none⟩ = some (.slice B cuts.length d) := (blk_cell HI.out.b1 0).trans rfl; have hz5 : V6.cell? ⟨w.heap.size + 1, 1, none⟩ = some (.slice E uses.length k) := (blk_cell HI.out.b1 1).trans rfl) | (go_at_call 34; refine (usedAs_calls B cuts.length d E k uses _ _ (Kd.C_below HU.out HI.out.low) (by omega)).mono ?_; rintro e V7 ⟨he, hs⟩; rw [HIX.out] at he; subst he; have HI := Lib.hid (HI.out.below hs); have hz0 : V7.cell? ⟨w.heap.size, 0, none⟩ = some (.int .i64 a0) := (blk_cell HI.out.b0 0).trans rfl; have hz1 : V7.cell? ⟨w.heap.size, 1, none⟩ = some (.int .i64 a1) := (blk_cell HI.out.b0 1).trans rfl; have hz2 : V7.cell? ⟨w.heap.size, 2, none⟩ = some (.int .i64 a2) := (blk_cell HI.out.b0 2).trans rfl; have hz3 : V7.cell? ⟨w.heap.size, 3, none⟩ = some (.slice A l.length c) := (blk_cell HI.out.b0 3).trans rfl; have hz4 : V7.cell? ⟨w.heap.size + 1, 0, none⟩ = some (.slice B cuts.length d) := (blk_cell HI.out.b1 0).trans rfl; have hz5 : V7.cell? ⟨w.heap.size + 1, 1, none⟩ = some (.slice E uses.length k) := (blk_cell HI.out.b1 1).trans rfl) | (go_at_call 25; refine (wakes_calls _).mono ?_; rintro e V9 ⟨rfl, hs⟩; have HI := Lib.hid (HI.out.below hs)))
      go_ret
      exact ⟨rfl, HI.out.low⟩
end Go.Proofs.Ytffjbaknglemdaa.X
