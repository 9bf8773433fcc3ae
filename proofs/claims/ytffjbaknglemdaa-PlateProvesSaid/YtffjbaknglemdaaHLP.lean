import Derived.Test.YtffjbaknglemdaaHQ4
namespace Go.Proofs.Ytffjbaknglemdaa.X
open Go.RowKit Go.Maps Go.Proofs.YtffjbaknglemdaaW.PrintWords Go.Proofs.YtffjbaknglemdaaW.PrintLast Go.Proofs.YtffjbaknglemdaaW.PrintMore
set_option linter.unusedSimpArgs false
set_option linter.unusedVariables false

/-! ### PlateProves 11 -/
theorem proves_law {a0 a1 a2 : Int} {l : List S82} {cuts : List S107} {uses : List Int} {worth many pr : Int} {r : Bool} (hc : WB107 cuts) (h : plate_ProvePlan.f a0 a1 a2 (l.map toW) (cuts.map toC) uses worth many = some r) (hp : plannedR a0 a1 a2 l cuts uses = pr) :
    (pr ≠ 0 ∧ r = false) ∨ (pr = 0 ∧ ∃ st, Right a0 a1 a2 l cuts uses st ∧ r = (decide (worth ≤ worthW (uses.zip l)) && decide ((cuts.length : Int) ≤ many))) := by
  unfold plate_ProvePlan.f at h
  rcases planned_ref (a0 := a0) (a1 := a1) (a2 := a2) (l := l) (uses := uses) hc with ⟨er, her, h1, h2⟩ | ⟨h1, st, hr⟩
  · rw [h2] at h
    simp only [Option.some.injEq] at h
    exact .inl ⟨by rw [← hp, h1]; exact her, h.symm⟩
  · rw [hr.planned] at h
    simp only [Option.some.injEq] at h
    rw [(weigh_law hc hr).2, List.length_map] at h
    exact .inr ⟨by rw [← hp, h1], st, hr, h.symm⟩
set_option maxRecDepth 100000 in
set_option maxHeartbeats 4000000 in
theorem plateProves_calls (a0 a1 a2 : Int) (A : Option Addr) (c : Nat) (l : List S82) (B : Option Addr) (d : Nat) (cuts : List S107) (E : Option Addr) (k : Nat) (uses : List Int) (worth many : Int) (w : World) (hl : Kd.C k82 w A l.length l) (hlc : l.length ≤ c) (hq : Kd.C k107 w B cuts.length cuts) (hqd : cuts.length ≤ d) (hu : Kd.C (Kd.int .i64) w E uses.length uses) (huk : uses.length ≤ k) (hwb : WB107 cuts) (hub : ∀ n ∈ uses, I64 n) :
    Calls Try.prog 11 #[.agg #[.int .i64 a0, .int .i64 a1, .int .i64 a2, .slice A l.length c], .agg #[.slice B cuts.length d, .slice E uses.length k], .int .i64 worth, .int .i64 many] w fun e w' => e = .returned (.bool true) ∧ Below w.heap.size w w' := by
  have HL := Lib.hid hl
  have HQ := Lib.hid hq
  have HU := Lib.hid hu
  have h24 := fun w => thin_calls a0 a1 a2 A l.length c B cuts.length d E uses.length k w
  have HI : Hid (WI w a0 a1 a2 (.slice A l.length c) (.slice B cuts.length d) (.slice E uses.length k) ((w.alloc (.cells #[.int .i64 a0, .int .i64 a1, .int .i64 a2, .slice A l.length c] 24)).alloc (.cells #[.slice B cuts.length d, .slice E uses.length k] 37))) := Lib.hid ⟨blk_below (alloc_at rfl) (below_alloc (Below.refl _ _) _), alloc_at (by simp), below_alloc (below_alloc (Below.refl _ _) _) _⟩
  clear hl hq hu
  cases hth : thinR l.length cuts.length uses.length with
  | false =>
    rw [hth] at h24
    have H24 := Lib.hid h24
    clear h24 hth hwb hub
    go_enter Try.func11, Try.ntmps11
    go_wp2_with (first | (go_at_call 24; refine (H24.out _).mono ?_; rintro e V1 ⟨rfl, hs⟩; have HI := Lib.hid (HI.out.below hs); have hz0 : V1.cell? ⟨w.heap.size, 0, none⟩ = some (.int .i64 a0) := (blk_cell HI.out.b0 0).trans rfl; have hz1 : V1.cell? ⟨w.heap.size, 1, none⟩ = some (.int .i64 a1) := (blk_cell HI.out.b0 1).trans rfl; have hz2 : V1.cell? ⟨w.heap.size, 2, none⟩ = some (.int .i64 a2) := (blk_cell HI.out.b0 2).trans rfl; have hz3 : V1.cell? ⟨w.heap.size, 3, none⟩ = some (.slice A l.length c) := (blk_cell HI.out.b0 3).trans rfl; have hz4 : V1.cell? ⟨w.heap.size + 1, 0, none⟩ = some (.slice B cuts.length d) := (blk_cell HI.out.b1 0).trans rfl; have hz5 : V1.cell? ⟨w.heap.size + 1, 1, none⟩ = some (.slice E uses.length k) := (blk_cell HI.out.b1 1).trans rfl) | (go_at_call 25; refine (wakes_calls _).mono ?_; rintro e V9 ⟨rfl, hs⟩; have HI := Lib.hid (HI.out.below hs)))
    go_ret
    exact ⟨rfl, HI.out.low⟩
  | true =>
  rw [hth] at h24
  have H24 := Lib.hid h24
  obtain ⟨hl6, hq45, hu6⟩ : l.length ≤ 6 ∧ cuts.length ≤ 45 ∧ uses.length ≤ 6 := by unfold thinR at hth; simp at hth; omega
  clear h24 hth
  obtain ⟨b, hpv⟩ : ∃ b, plate_ProvePlan.f a0 a1 a2 (l.map toW) (cuts.map toC) uses worth many = some b := ⟨_, rfl⟩
  obtain ⟨pr, hpr⟩ : ∃ pr, plannedR a0 a1 a2 l cuts uses = pr := ⟨_, rfl⟩
  have hlaw := proves_law hwb hpv hpr
  have HPV := Lib.hid hpv
  have HPR := Lib.hid hpr
  clear hpv hpr hwb hub
  rcases hlaw with ⟨h1, rfl⟩ | ⟨h1, st, hR, hb⟩
  · have hb : (pr == 0) = false := by simpa using h1
    clear h1
    go_enter Try.func11, Try.ntmps11
    go_wp2_with (first | (go_at_call 24; refine (H24.out _).mono ?_; rintro e V1 ⟨rfl, hs⟩; have HI := Lib.hid (HI.out.below hs); have hz0 : V1.cell? ⟨w.heap.size, 0, none⟩ = some (.int .i64 a0) := (blk_cell HI.out.b0 0).trans rfl; have hz1 : V1.cell? ⟨w.heap.size, 1, none⟩ = some (.int .i64 a1) := (blk_cell HI.out.b0 1).trans rfl; have hz2 : V1.cell? ⟨w.heap.size, 2, none⟩ = some (.int .i64 a2) := (blk_cell HI.out.b0 2).trans rfl; have hz3 : V1.cell? ⟨w.heap.size, 3, none⟩ = some (.slice A l.length c) := (blk_cell HI.out.b0 3).trans rfl; have hz4 : V1.cell? ⟨w.heap.size + 1, 0, none⟩ = some (.slice B cuts.length d) := (blk_cell HI.out.b1 0).trans rfl; have hz5 : V1.cell? ⟨w.heap.size + 1, 1, none⟩ = some (.slice E uses.length k) := (blk_cell HI.out.b1 1).trans rfl) | (go_at_call 29; refine (lplanned_calls a0 a1 a2 A c l B d cuts E k uses _ (Kd.C_below HL.out HI.out.low) hlc (Kd.C_below HQ.out HI.out.low) hqd (by omega) (Kd.C_below HU.out HI.out.low) (by omega) (by omega)).mono ?_; rintro e V4 ⟨he, hs⟩; rw [HPR.out] at he; subst he; have HI := Lib.hid (HI.out.below hs); have hz0 : V4.cell? ⟨w.heap.size, 0, none⟩ = some (.int .i64 a0) := (blk_cell HI.out.b0 0).trans rfl; have hz1 : V4.cell? ⟨w.heap.size, 1, none⟩ = some (.int .i64 a1) := (blk_cell HI.out.b0 1).trans rfl; have hz2 : V4.cell? ⟨w.heap.size, 2, none⟩ = some (.int .i64 a2) := (blk_cell HI.out.b0 2).trans rfl; have hz3 : V4.cell? ⟨w.heap.size, 3, none⟩ = some (.slice A l.length c) := (blk_cell HI.out.b0 3).trans rfl; have hz4 : V4.cell? ⟨w.heap.size + 1, 0, none⟩ = some (.slice B cuts.length d) := (blk_cell HI.out.b1 0).trans rfl; have hz5 : V4.cell? ⟨w.heap.size + 1, 1, none⟩ = some (.slice E uses.length k) := (blk_cell HI.out.b1 1).trans rfl))
    replace HI := Lib.hid (HI.out.below (below_drew1 (Below.refl _ _)))
    clear hz0 hz1 hz2 hz3 hz4 hz5
    refine start_ (n := 13) (S := fun w' => w'.cell? ⟨w.heap.size, 0, none⟩ = some (.int .i64 a0) ∧ w'.cell? ⟨w.heap.size, 1, none⟩ = some (.int .i64 a1) ∧ w'.cell? ⟨w.heap.size, 2, none⟩ = some (.int .i64 a2) ∧ w'.cell? ⟨w.heap.size, 3, none⟩ = some (.slice A l.length c) ∧ w'.cell? ⟨w.heap.size + 1, 0, none⟩ = some (.slice B cuts.length d) ∧ w'.cell? ⟨w.heap.size + 1, 1, none⟩ = some (.slice E uses.length k)) (ds := []) #[false, false, false, false, false, false, false, false, false, false, false, false, false] (by kernel_rfl) rfl rfl ⟨((blk_cell HI.out.b0 0).trans rfl), ((blk_cell HI.out.b0 1).trans rfl), ((blk_cell HI.out.b0 2).trans rfl), ((blk_cell HI.out.b0 3).trans rfl), ((blk_cell HI.out.b1 0).trans rfl), ((blk_cell HI.out.b1 1).trans rfl)⟩ (fun hHeld => ?_)
    refine pure_ (i := 4) (N := some 46) (v := ?_) (a' := ?_) #[false, false, false, false, true, false, false, false, false, false, false, false, false] rfl rfl (by kernel_rfl) (fun _ _ _ h => h) (Or.inl ⟨by rfl, ?_⟩) ?_ ?_
    rotate_left
    · intro w'
      go_simp
      with_reducible rfl
    rotate_left
    · simp only [Act.put, List.setIfInBounds_toArray, List.set_cons_zero, List.set_cons_succ, i64_w, i32_w]
      rfl
    refine pure_ (i := 5) (N := some 47) (v := ?_) (a' := ?_) #[false, false, false, false, true, true, false, false, false, false, false, false, false] rfl rfl (by kernel_rfl) (fun _ _ _ h => h) (Or.inl ⟨by rfl, ?_⟩) ?_ ?_
    rotate_left
    · intro w'
      go_simp
      with_reducible rfl
    rotate_left
    · simp only [Act.put, List.setIfInBounds_toArray, List.set_cons_zero, List.set_cons_succ, i64_w, i32_w]
      rfl
    refine pure_ (i := 7) (N := some 49) (v := ?_) (a' := ?_) #[false, false, false, false, true, true, false, true, false, false, false, false, false] rfl rfl (by kernel_rfl) (fun _ _ _ h => h) (Or.inl ⟨by rfl, ?_⟩) ?_ ?_
    rotate_left
    · intro w'
      go_simp
      with_reducible rfl
    rotate_left
    · simp only [Act.put, List.setIfInBounds_toArray, List.set_cons_zero, List.set_cons_succ, i64_w, i32_w]
      rfl
    refine take_ (i := 0) (N := some 42) (v := ?_) (a' := ?_) #[true, false, false, false, true, true, false, true, false, false, false, false, false] rfl rfl (by kernel_rfl) (fun _ _ _ h => h) (Or.inl ⟨by rfl, ?_⟩) hHeld ?_ ?_
    rotate_left
    · rintro w' ⟨s0, s1, s2, s3, s4, s5⟩
      go_simp
      with_reducible rfl
    rotate_left
    · simp only [Act.put, List.setIfInBounds_toArray, List.set_cons_zero, List.set_cons_succ, i64_w, i32_w]
      rfl
    refine take_ (i := 2) (N := some 44) (v := ?_) (a' := ?_) #[true, false, true, false, true, true, false, true, false, false, false, false, false] rfl rfl (by kernel_rfl) (fun _ _ _ h => h) (Or.inl ⟨by rfl, ?_⟩) hHeld ?_ ?_
    rotate_left
    · rintro w' ⟨s0, s1, s2, s3, s4, s5⟩
      go_simp
      with_reducible rfl
    rotate_left
    · simp only [Act.put, List.setIfInBounds_toArray, List.set_cons_zero, List.set_cons_succ, i64_w, i32_w]
      rfl
    refine one_ (i := 1) (N := some 43) #[true, true, true, false, true, true, false, true, false, false, false, false, false] rfl rfl (by kernel_rfl) (by decide) (fun K hK => ?_)
    refine goes_ Try.func27 (by kernel_rfl) rfl #[.agg #[.int .i64 a0, .int .i64 a1, .int .i64 a2, .slice A l.length c]] (by rfl) rfl rfl (by simp only [List.map_toArray, List.map_cons, List.map_nil]; rfl) ?_
    with_reducible refine (lplate_of (Kd.C_below HL.out HI.out.low) (by omega)).mono ?_
    rintro e V2 ⟨P, p, rfl, hp, HP0, hs⟩
    have HP := Lib.hid HP0
    clear HP0
    replace HI := Lib.hid (HI.out.below hs)
    clear hs
    refine ⟨_, rfl, ?_⟩
    refine hK.out _ _ ⟨((blk_cell HI.out.b0 0).trans rfl), ((blk_cell HI.out.b0 1).trans rfl), ((blk_cell HI.out.b0 2).trans rfl), ((blk_cell HI.out.b0 3).trans rfl), ((blk_cell HI.out.b1 0).trans rfl), ((blk_cell HI.out.b1 1).trans rfl)⟩ (fun hHeld => ?_)
    clear hK K
    refine norm_ (a' := ?_) ?_ ?_
    rotate_left
    · show Act.put _ (some 43) _ = _
      simp only [Act.put, List.setIfInBounds_toArray, List.set_cons_zero, List.set_cons_succ, i64_w, i32_w]
      rfl
    refine one_ (i := 3) (N := some 45) #[true, true, true, true, true, true, false, true, false, false, false, false, false] rfl rfl (by kernel_rfl) (by decide) (fun K hK => ?_)
    refine goes_ Try.func28 (by kernel_rfl) rfl #[.agg #[.slice B cuts.length d, .slice E uses.length k]] (by rfl) rfl rfl (by simp only [List.map_toArray, List.map_cons, List.map_nil]; rfl) ?_
    with_reducible refine (lplan_of (Kd.C_below HQ.out HI.out.low) (by omega) (Kd.C_below HU.out HI.out.low) (by omega)).mono ?_
    rintro e V3 ⟨R, r, Z, z, rfl, hr, hz, HR0, HZ0, hs⟩
    have HR := Lib.hid HR0
    have HZ := Lib.hid HZ0
    clear HR0 HZ0
    replace HP := Lib.hid (Kd.C_below HP.out hs)
    replace HI := Lib.hid (HI.out.below hs)
    clear hs
    refine ⟨_, rfl, ?_⟩
    refine hK.out _ _ ⟨((blk_cell HI.out.b0 0).trans rfl), ((blk_cell HI.out.b0 1).trans rfl), ((blk_cell HI.out.b0 2).trans rfl), ((blk_cell HI.out.b0 3).trans rfl), ((blk_cell HI.out.b1 0).trans rfl), ((blk_cell HI.out.b1 1).trans rfl)⟩ (fun hHeld => ?_)
    clear hK K
    refine norm_ (a' := ?_) ?_ ?_
    rotate_left
    · show Act.put _ (some 45) _ = _
      simp only [Act.put, List.setIfInBounds_toArray, List.set_cons_zero, List.set_cons_succ, i64_w, i32_w]
      rfl
    refine one_ (i := 6) (N := some 48) #[true, true, true, true, true, true, true, true, false, false, false, false, false] rfl rfl (by kernel_rfl) (by decide) (fun K hK => ?_)
    refine goes_ Try.func46 (by kernel_rfl) rfl #[.agg #[.int .i64 a0, .int .i64 a1, .int .i64 a2, .slice P l.length p], .agg #[.slice R cuts.length r, .slice Z uses.length z], .int .i64 worth, .int .i64 many] (by rfl) rfl rfl (by simp only [List.map_toArray, List.map_cons, List.map_nil]; rfl) ?_
    with_reducible refine (prove_of HP.out hp HR.out hr HZ.out hz HPV.out).mono ?_
    rintro e V6 ⟨rfl, hs⟩
    replace HI := Lib.hid (HI.out.below hs)
    clear hs
    refine ⟨_, rfl, ?_⟩
    refine hK.out _ _ ⟨((blk_cell HI.out.b0 0).trans rfl), ((blk_cell HI.out.b0 1).trans rfl), ((blk_cell HI.out.b0 2).trans rfl), ((blk_cell HI.out.b0 3).trans rfl), ((blk_cell HI.out.b1 0).trans rfl), ((blk_cell HI.out.b1 1).trans rfl)⟩ (fun hHeld => ?_)
    clear hK K
    refine norm_ (a' := ?_) ?_ ?_
    rotate_left
    · show Act.put _ (some 48) _ = _
      simp only [Act.put, List.setIfInBounds_toArray, List.set_cons_zero, List.set_cons_succ, i64_w, i32_w]
      rfl
    refine pure_ (i := 8) (N := some 50) (v := ?_) (a' := ?_) #[true, true, true, true, true, true, true, true, true, false, false, false, false] rfl rfl (by kernel_rfl) (fun _ _ _ h => h) (Or.inl ⟨by rfl, ?_⟩) ?_ ?_
    rotate_left
    · intro w'
      go_simp
      with_reducible rfl
    rotate_left
    · simp only [Act.put, List.setIfInBounds_toArray, List.set_cons_zero, List.set_cons_succ, i64_w, i32_w]
      rfl
    refine pure_ (i := 9) (N := some 51) (v := ?_) (a' := ?_) #[true, true, true, true, true, true, true, true, true, true, false, false, false] rfl rfl (by kernel_rfl) (fun _ _ _ h => h) (Or.inl ⟨by rfl, ?_⟩) ?_ ?_
    rotate_left
    · intro w'
      go_simp
      with_reducible rfl
    rotate_left
    · simp only [Act.put, List.setIfInBounds_toArray, List.set_cons_zero, List.set_cons_succ, i64_w, i32_w]
      rfl
    refine one_ (i := 10) (N := some 52) #[true, true, true, true, true, true, true, true, true, true, true, false, false] rfl rfl (by kernel_rfl) (by decide) (fun K hK => ?_)
    refine goes_ Try.func25 (by kernel_rfl) rfl #[] (by rfl) rfl rfl (by simp only [List.map_toArray, List.map_cons, List.map_nil]) ?_
    with_reducible refine (wakes_calls _).mono ?_
    rintro e V9 ⟨rfl, hs⟩
    replace HI := Lib.hid (HI.out.below hs)
    clear hs
    refine ⟨_, rfl, ?_⟩
    refine hK.out _ _ ⟨((blk_cell HI.out.b0 0).trans rfl), ((blk_cell HI.out.b0 1).trans rfl), ((blk_cell HI.out.b0 2).trans rfl), ((blk_cell HI.out.b0 3).trans rfl), ((blk_cell HI.out.b1 0).trans rfl), ((blk_cell HI.out.b1 1).trans rfl)⟩ (fun hHeld => ?_)
    clear hK K
    refine norm_ (a' := ?_) ?_ ?_
    rotate_left
    · show Act.put _ (some 52) _ = _
      simp only [Act.put, List.setIfInBounds_toArray, List.set_cons_zero, List.set_cons_succ, i64_w, i32_w]
      rfl
    refine pure_ (i := 11) (N := some 53) (v := ?_) (a' := ?_) #[true, true, true, true, true, true, true, true, true, true, true, true, false] rfl rfl (by kernel_rfl) (fun _ _ _ h => h) (Or.inl ⟨by rfl, ?_⟩) ?_ ?_
    rotate_left
    · intro w'
      go_simp
      with_reducible rfl
    rotate_left
    · simp only [Act.put, List.setIfInBounds_toArray, List.set_cons_zero, List.set_cons_succ, i64_w, i32_w]
      rfl
    refine pure_ (i := 12) (N := some 8) (v := ?_) (a' := ?_) #[true, true, true, true, true, true, true, true, true, true, true, true, true] rfl rfl (by kernel_rfl) (fun _ _ _ h => h) (Or.inl ⟨by rfl, ?_⟩) ?_ ?_
    rotate_left
    · intro w'
      go_simp
      with_reducible rfl
    rotate_left
    · simp only [Act.put, List.setIfInBounds_toArray, List.set_cons_zero, List.set_cons_succ, i64_w, i32_w]
      rfl
    refine done_ (by kernel_rfl) ?_
    go_wp2
    go_ret
    exact ⟨rfl, HI.out.low⟩
  subst h1
  cases hm : decide ((cuts.length : Int) ≤ many) with
  | false =>
    obtain rfl : b = false := by rw [hb, hm, Bool.and_false]
    clear hb hR
    go_enter Try.func11, Try.ntmps11
    go_wp2_with (first | (go_at_call 24; refine (H24.out _).mono ?_; rintro e V1 ⟨rfl, hs⟩; have HI := Lib.hid (HI.out.below hs); have hz0 : V1.cell? ⟨w.heap.size, 0, none⟩ = some (.int .i64 a0) := (blk_cell HI.out.b0 0).trans rfl; have hz1 : V1.cell? ⟨w.heap.size, 1, none⟩ = some (.int .i64 a1) := (blk_cell HI.out.b0 1).trans rfl; have hz2 : V1.cell? ⟨w.heap.size, 2, none⟩ = some (.int .i64 a2) := (blk_cell HI.out.b0 2).trans rfl; have hz3 : V1.cell? ⟨w.heap.size, 3, none⟩ = some (.slice A l.length c) := (blk_cell HI.out.b0 3).trans rfl; have hz4 : V1.cell? ⟨w.heap.size + 1, 0, none⟩ = some (.slice B cuts.length d) := (blk_cell HI.out.b1 0).trans rfl; have hz5 : V1.cell? ⟨w.heap.size + 1, 1, none⟩ = some (.slice E uses.length k) := (blk_cell HI.out.b1 1).trans rfl) | (go_at_call 29; refine (lplanned_calls a0 a1 a2 A c l B d cuts E k uses _ (Kd.C_below HL.out HI.out.low) hlc (Kd.C_below HQ.out HI.out.low) hqd (by omega) (Kd.C_below HU.out HI.out.low) (by omega) (by omega)).mono ?_; rintro e V4 ⟨he, hs⟩; rw [HPR.out] at he; subst he; have HI := Lib.hid (HI.out.below hs); have hz0 : V4.cell? ⟨w.heap.size, 0, none⟩ = some (.int .i64 a0) := (blk_cell HI.out.b0 0).trans rfl; have hz1 : V4.cell? ⟨w.heap.size, 1, none⟩ = some (.int .i64 a1) := (blk_cell HI.out.b0 1).trans rfl; have hz2 : V4.cell? ⟨w.heap.size, 2, none⟩ = some (.int .i64 a2) := (blk_cell HI.out.b0 2).trans rfl; have hz3 : V4.cell? ⟨w.heap.size, 3, none⟩ = some (.slice A l.length c) := (blk_cell HI.out.b0 3).trans rfl; have hz4 : V4.cell? ⟨w.heap.size + 1, 0, none⟩ = some (.slice B cuts.length d) := (blk_cell HI.out.b1 0).trans rfl; have hz5 : V4.cell? ⟨w.heap.size + 1, 1, none⟩ = some (.slice E uses.length k) := (blk_cell HI.out.b1 1).trans rfl))
    replace HI := Lib.hid (HI.out.below (below_drew1 (Below.refl _ _)))
    clear hz0 hz1 hz2 hz3 hz4 hz5
    refine start_ (n := 13) (S := fun w' => w'.cell? ⟨w.heap.size, 0, none⟩ = some (.int .i64 a0) ∧ w'.cell? ⟨w.heap.size, 1, none⟩ = some (.int .i64 a1) ∧ w'.cell? ⟨w.heap.size, 2, none⟩ = some (.int .i64 a2) ∧ w'.cell? ⟨w.heap.size, 3, none⟩ = some (.slice A l.length c) ∧ w'.cell? ⟨w.heap.size + 1, 0, none⟩ = some (.slice B cuts.length d) ∧ w'.cell? ⟨w.heap.size + 1, 1, none⟩ = some (.slice E uses.length k)) (ds := []) #[false, false, false, false, false, false, false, false, false, false, false, false, false] (by kernel_rfl) rfl rfl ⟨((blk_cell HI.out.b0 0).trans rfl), ((blk_cell HI.out.b0 1).trans rfl), ((blk_cell HI.out.b0 2).trans rfl), ((blk_cell HI.out.b0 3).trans rfl), ((blk_cell HI.out.b1 0).trans rfl), ((blk_cell HI.out.b1 1).trans rfl)⟩ (fun hHeld => ?_)
    refine pure_ (i := 4) (N := some 46) (v := ?_) (a' := ?_) #[false, false, false, false, true, false, false, false, false, false, false, false, false] rfl rfl (by kernel_rfl) (fun _ _ _ h => h) (Or.inl ⟨by rfl, ?_⟩) ?_ ?_
    rotate_left
    · intro w'
      go_simp
      with_reducible rfl
    rotate_left
    · simp only [Act.put, List.setIfInBounds_toArray, List.set_cons_zero, List.set_cons_succ, i64_w, i32_w]
      rfl
    refine pure_ (i := 5) (N := some 47) (v := ?_) (a' := ?_) #[false, false, false, false, true, true, false, false, false, false, false, false, false] rfl rfl (by kernel_rfl) (fun _ _ _ h => h) (Or.inl ⟨by rfl, ?_⟩) ?_ ?_
    rotate_left
    · intro w'
      go_simp
      with_reducible rfl
    rotate_left
    · simp only [Act.put, List.setIfInBounds_toArray, List.set_cons_zero, List.set_cons_succ, i64_w, i32_w]
      rfl
    refine pure_ (i := 7) (N := some 49) (v := ?_) (a' := ?_) #[false, false, false, false, true, true, false, true, false, false, false, false, false] rfl rfl (by kernel_rfl) (fun _ _ _ h => h) (Or.inl ⟨by rfl, ?_⟩) ?_ ?_
    rotate_left
    · intro w'
      go_simp
      with_reducible rfl
    rotate_left
    · simp only [Act.put, List.setIfInBounds_toArray, List.set_cons_zero, List.set_cons_succ, i64_w, i32_w]
      rfl
    refine take_ (i := 0) (N := some 42) (v := ?_) (a' := ?_) #[true, false, false, false, true, true, false, true, false, false, false, false, false] rfl rfl (by kernel_rfl) (fun _ _ _ h => h) (Or.inl ⟨by rfl, ?_⟩) hHeld ?_ ?_
    rotate_left
    · rintro w' ⟨s0, s1, s2, s3, s4, s5⟩
      go_simp
      with_reducible rfl
    rotate_left
    · simp only [Act.put, List.setIfInBounds_toArray, List.set_cons_zero, List.set_cons_succ, i64_w, i32_w]
      rfl
    refine take_ (i := 2) (N := some 44) (v := ?_) (a' := ?_) #[true, false, true, false, true, true, false, true, false, false, false, false, false] rfl rfl (by kernel_rfl) (fun _ _ _ h => h) (Or.inl ⟨by rfl, ?_⟩) hHeld ?_ ?_
    rotate_left
    · rintro w' ⟨s0, s1, s2, s3, s4, s5⟩
      go_simp
      with_reducible rfl
    rotate_left
    · simp only [Act.put, List.setIfInBounds_toArray, List.set_cons_zero, List.set_cons_succ, i64_w, i32_w]
      rfl
    refine one_ (i := 1) (N := some 43) #[true, true, true, false, true, true, false, true, false, false, false, false, false] rfl rfl (by kernel_rfl) (by decide) (fun K hK => ?_)
    refine goes_ Try.func27 (by kernel_rfl) rfl #[.agg #[.int .i64 a0, .int .i64 a1, .int .i64 a2, .slice A l.length c]] (by rfl) rfl rfl (by simp only [List.map_toArray, List.map_cons, List.map_nil]; rfl) ?_
    with_reducible refine (lplate_of (Kd.C_below HL.out HI.out.low) (by omega)).mono ?_
    rintro e V2 ⟨P, p, rfl, hp, HP0, hs⟩
    have HP := Lib.hid HP0
    clear HP0
    replace HI := Lib.hid (HI.out.below hs)
    clear hs
    refine ⟨_, rfl, ?_⟩
    refine hK.out _ _ ⟨((blk_cell HI.out.b0 0).trans rfl), ((blk_cell HI.out.b0 1).trans rfl), ((blk_cell HI.out.b0 2).trans rfl), ((blk_cell HI.out.b0 3).trans rfl), ((blk_cell HI.out.b1 0).trans rfl), ((blk_cell HI.out.b1 1).trans rfl)⟩ (fun hHeld => ?_)
    clear hK K
    refine norm_ (a' := ?_) ?_ ?_
    rotate_left
    · show Act.put _ (some 43) _ = _
      simp only [Act.put, List.setIfInBounds_toArray, List.set_cons_zero, List.set_cons_succ, i64_w, i32_w]
      rfl
    refine one_ (i := 3) (N := some 45) #[true, true, true, true, true, true, false, true, false, false, false, false, false] rfl rfl (by kernel_rfl) (by decide) (fun K hK => ?_)
    refine goes_ Try.func28 (by kernel_rfl) rfl #[.agg #[.slice B cuts.length d, .slice E uses.length k]] (by rfl) rfl rfl (by simp only [List.map_toArray, List.map_cons, List.map_nil]; rfl) ?_
    with_reducible refine (lplan_of (Kd.C_below HQ.out HI.out.low) (by omega) (Kd.C_below HU.out HI.out.low) (by omega)).mono ?_
    rintro e V3 ⟨R, r, Z, z, rfl, hr, hz, HR0, HZ0, hs⟩
    have HR := Lib.hid HR0
    have HZ := Lib.hid HZ0
    clear HR0 HZ0
    replace HP := Lib.hid (Kd.C_below HP.out hs)
    replace HI := Lib.hid (HI.out.below hs)
    clear hs
    refine ⟨_, rfl, ?_⟩
    refine hK.out _ _ ⟨((blk_cell HI.out.b0 0).trans rfl), ((blk_cell HI.out.b0 1).trans rfl), ((blk_cell HI.out.b0 2).trans rfl), ((blk_cell HI.out.b0 3).trans rfl), ((blk_cell HI.out.b1 0).trans rfl), ((blk_cell HI.out.b1 1).trans rfl)⟩ (fun hHeld => ?_)
    clear hK K
    refine norm_ (a' := ?_) ?_ ?_
    rotate_left
    · show Act.put _ (some 45) _ = _
      simp only [Act.put, List.setIfInBounds_toArray, List.set_cons_zero, List.set_cons_succ, i64_w, i32_w]
      rfl
    refine one_ (i := 6) (N := some 48) #[true, true, true, true, true, true, true, true, false, false, false, false, false] rfl rfl (by kernel_rfl) (by decide) (fun K hK => ?_)
    refine goes_ Try.func46 (by kernel_rfl) rfl #[.agg #[.int .i64 a0, .int .i64 a1, .int .i64 a2, .slice P l.length p], .agg #[.slice R cuts.length r, .slice Z uses.length z], .int .i64 worth, .int .i64 many] (by rfl) rfl rfl (by simp only [List.map_toArray, List.map_cons, List.map_nil]; rfl) ?_
    with_reducible refine (prove_of HP.out hp HR.out hr HZ.out hz HPV.out).mono ?_
    rintro e V6 ⟨rfl, hs⟩
    replace HI := Lib.hid (HI.out.below hs)
    clear hs
    refine ⟨_, rfl, ?_⟩
    refine hK.out _ _ ⟨((blk_cell HI.out.b0 0).trans rfl), ((blk_cell HI.out.b0 1).trans rfl), ((blk_cell HI.out.b0 2).trans rfl), ((blk_cell HI.out.b0 3).trans rfl), ((blk_cell HI.out.b1 0).trans rfl), ((blk_cell HI.out.b1 1).trans rfl)⟩ (fun hHeld => ?_)
    clear hK K
    refine norm_ (a' := ?_) ?_ ?_
    rotate_left
    · show Act.put _ (some 48) _ = _
      simp only [Act.put, List.setIfInBounds_toArray, List.set_cons_zero, List.set_cons_succ, i64_w, i32_w]
      rfl
    refine pure_ (i := 8) (N := some 50) (v := ?_) (a' := ?_) #[true, true, true, true, true, true, true, true, true, false, false, false, false] rfl rfl (by kernel_rfl) (fun _ _ _ h => h) (Or.inl ⟨by rfl, ?_⟩) ?_ ?_
    rotate_left
    · intro w'
      go_simp
      with_reducible rfl
    rotate_left
    · simp only [Act.put, List.setIfInBounds_toArray, List.set_cons_zero, List.set_cons_succ, i64_w, i32_w]
      rfl
    refine pure_ (i := 9) (N := some 51) (v := ?_) (a' := ?_) #[true, true, true, true, true, true, true, true, true, true, false, false, false] rfl rfl (by kernel_rfl) (fun _ _ _ h => h) (Or.inl ⟨by rfl, ?_⟩) ?_ ?_
    rotate_left
    · intro w'
      go_simp
      with_reducible rfl
    rotate_left
    · simp only [Act.put, List.setIfInBounds_toArray, List.set_cons_zero, List.set_cons_succ, i64_w, i32_w]
      rfl
    refine one_ (i := 10) (N := some 52) #[true, true, true, true, true, true, true, true, true, true, true, false, false] rfl rfl (by kernel_rfl) (by decide) (fun K hK => ?_)
    refine goes_ Try.func25 (by kernel_rfl) rfl #[] (by rfl) rfl rfl (by simp only [List.map_toArray, List.map_cons, List.map_nil]) ?_
    with_reducible refine (wakes_calls _).mono ?_
    rintro e V9 ⟨rfl, hs⟩
    replace HI := Lib.hid (HI.out.below hs)
    clear hs
    refine ⟨_, rfl, ?_⟩
    refine hK.out _ _ ⟨((blk_cell HI.out.b0 0).trans rfl), ((blk_cell HI.out.b0 1).trans rfl), ((blk_cell HI.out.b0 2).trans rfl), ((blk_cell HI.out.b0 3).trans rfl), ((blk_cell HI.out.b1 0).trans rfl), ((blk_cell HI.out.b1 1).trans rfl)⟩ (fun hHeld => ?_)
    clear hK K
    refine norm_ (a' := ?_) ?_ ?_
    rotate_left
    · show Act.put _ (some 52) _ = _
      simp only [Act.put, List.setIfInBounds_toArray, List.set_cons_zero, List.set_cons_succ, i64_w, i32_w]
      rfl
    refine pure_ (i := 11) (N := some 53) (v := ?_) (a' := ?_) #[true, true, true, true, true, true, true, true, true, true, true, true, false] rfl rfl (by kernel_rfl) (fun _ _ _ h => h) (Or.inl ⟨by rfl, ?_⟩) ?_ ?_
    rotate_left
    · intro w'
      go_simp
      with_reducible rfl
    rotate_left
    · simp only [Act.put, List.setIfInBounds_toArray, List.set_cons_zero, List.set_cons_succ, i64_w, i32_w]
      rfl
    refine pure_ (i := 12) (N := some 8) (v := ?_) (a' := ?_) #[true, true, true, true, true, true, true, true, true, true, true, true, true] rfl rfl (by kernel_rfl) (fun _ _ _ h => h) (Or.inl ⟨by rfl, ?_⟩) ?_ ?_
    rotate_left
    · intro w'
      go_simp
      with_reducible rfl
    rotate_left
    · simp only [Act.put, List.setIfInBounds_toArray, List.set_cons_zero, List.set_cons_succ, i64_w, i32_w]
      rfl
    refine done_ (by kernel_rfl) ?_
    go_wp2
    go_ret
    exact ⟨rfl, HI.out.low⟩
  | true =>
    rw [hm, Bool.and_true] at hb
    obtain ⟨wo, hwo⟩ : ∃ wo, worthW (uses.zip l) = wo := ⟨_, rfl⟩
    rw [hwo] at hb
    have HST := Lib.hid hR.steps
    have HWO := Lib.hid hwo
    have HUL := Lib.hid hR.len
    have H0 : Hid (0 ≤ a0 ∧ a0 ≤ 8) := Lib.hid (by have := hR.ok.wid; omega)
    have H1 : Hid (0 ≤ a1 ∧ a1 ≤ 8) := Lib.hid (by have := hR.ok.lng; omega)
    have hdb : decide (worth ≤ wo) = b := hb.symm
    have hbb : (b == b) = true := by simp
    clear hR hwo hb
    go_enter Try.func11, Try.ntmps11
    go_wp2_with (first | (go_at_call 24; refine (H24.out _).mono ?_; rintro e V1 ⟨rfl, hs⟩; have HI := Lib.hid (HI.out.below hs); have hz0 : V1.cell? ⟨w.heap.size, 0, none⟩ = some (.int .i64 a0) := (blk_cell HI.out.b0 0).trans rfl; have hz1 : V1.cell? ⟨w.heap.size, 1, none⟩ = some (.int .i64 a1) := (blk_cell HI.out.b0 1).trans rfl; have hz2 : V1.cell? ⟨w.heap.size, 2, none⟩ = some (.int .i64 a2) := (blk_cell HI.out.b0 2).trans rfl; have hz3 : V1.cell? ⟨w.heap.size, 3, none⟩ = some (.slice A l.length c) := (blk_cell HI.out.b0 3).trans rfl; have hz4 : V1.cell? ⟨w.heap.size + 1, 0, none⟩ = some (.slice B cuts.length d) := (blk_cell HI.out.b1 0).trans rfl; have hz5 : V1.cell? ⟨w.heap.size + 1, 1, none⟩ = some (.slice E uses.length k) := (blk_cell HI.out.b1 1).trans rfl) | (go_at_call 29; refine (lplanned_calls a0 a1 a2 A c l B d cuts E k uses _ (Kd.C_below HL.out HI.out.low) hlc (Kd.C_below HQ.out HI.out.low) hqd (by omega) (Kd.C_below HU.out HI.out.low) (by omega) (by omega)).mono ?_; rintro e V4 ⟨he, hs⟩; rw [HPR.out] at he; subst he; have HI := Lib.hid (HI.out.below hs); have hz0 : V4.cell? ⟨w.heap.size, 0, none⟩ = some (.int .i64 a0) := (blk_cell HI.out.b0 0).trans rfl; have hz1 : V4.cell? ⟨w.heap.size, 1, none⟩ = some (.int .i64 a1) := (blk_cell HI.out.b0 1).trans rfl; have hz2 : V4.cell? ⟨w.heap.size, 2, none⟩ = some (.int .i64 a2) := (blk_cell HI.out.b0 2).trans rfl; have hz3 : V4.cell? ⟨w.heap.size, 3, none⟩ = some (.slice A l.length c) := (blk_cell HI.out.b0 3).trans rfl; have hz4 : V4.cell? ⟨w.heap.size + 1, 0, none⟩ = some (.slice B cuts.length d) := (blk_cell HI.out.b1 0).trans rfl; have hz5 : V4.cell? ⟨w.heap.size + 1, 1, none⟩ = some (.slice E uses.length k) := (blk_cell HI.out.b1 1).trans rfl) | (go_at_call 30; refine (refWeigh_calls a0 a1 a2 A c l B d cuts E k uses st _ (Kd.C_below HL.out HI.out.low) (Kd.C_below HQ.out HI.out.low) hqd (by omega) (Kd.C_below HU.out HI.out.low) (by omega) HUL.out H0.out H1.out HST.out).mono ?_; rintro e V5 ⟨t, ht, he, hs⟩; rw [HWO.out] at he; clear ht; subst he; have HI := Lib.hid (HI.out.below hs); have hz0 : V5.cell? ⟨w.heap.size, 0, none⟩ = some (.int .i64 a0) := (blk_cell HI.out.b0 0).trans rfl; have hz1 : V5.cell? ⟨w.heap.size, 1, none⟩ = some (.int .i64 a1) := (blk_cell HI.out.b0 1).trans rfl; have hz2 : V5.cell? ⟨w.heap.size, 2, none⟩ = some (.int .i64 a2) := (blk_cell HI.out.b0 2).trans rfl; have hz3 : V5.cell? ⟨w.heap.size, 3, none⟩ = some (.slice A l.length c) := (blk_cell HI.out.b0 3).trans rfl; have hz4 : V5.cell? ⟨w.heap.size + 1, 0, none⟩ = some (.slice B cuts.length d) := (blk_cell HI.out.b1 0).trans rfl; have hz5 : V5.cell? ⟨w.heap.size + 1, 1, none⟩ = some (.slice E uses.length k) := (blk_cell HI.out.b1 1).trans rfl))
    replace HI := Lib.hid (HI.out.below (below_drew1 (Below.refl _ _)))
    clear hz0 hz1 hz2 hz3 hz4 hz5
    refine start_ (n := 13) (S := fun w' => w'.cell? ⟨w.heap.size, 0, none⟩ = some (.int .i64 a0) ∧ w'.cell? ⟨w.heap.size, 1, none⟩ = some (.int .i64 a1) ∧ w'.cell? ⟨w.heap.size, 2, none⟩ = some (.int .i64 a2) ∧ w'.cell? ⟨w.heap.size, 3, none⟩ = some (.slice A l.length c) ∧ w'.cell? ⟨w.heap.size + 1, 0, none⟩ = some (.slice B cuts.length d) ∧ w'.cell? ⟨w.heap.size + 1, 1, none⟩ = some (.slice E uses.length k)) (ds := []) #[false, false, false, false, false, false, false, false, false, false, false, false, false] (by kernel_rfl) rfl rfl ⟨((blk_cell HI.out.b0 0).trans rfl), ((blk_cell HI.out.b0 1).trans rfl), ((blk_cell HI.out.b0 2).trans rfl), ((blk_cell HI.out.b0 3).trans rfl), ((blk_cell HI.out.b1 0).trans rfl), ((blk_cell HI.out.b1 1).trans rfl)⟩ (fun hHeld => ?_)
    refine pure_ (i := 4) (N := some 46) (v := ?_) (a' := ?_) #[false, false, false, false, true, false, false, false, false, false, false, false, false] rfl rfl (by kernel_rfl) (fun _ _ _ h => h) (Or.inl ⟨by rfl, ?_⟩) ?_ ?_
    rotate_left
    · intro w'
      go_simp
      with_reducible rfl
    rotate_left
    · simp only [Act.put, List.setIfInBounds_toArray, List.set_cons_zero, List.set_cons_succ, i64_w, i32_w]
      rfl
    refine pure_ (i := 5) (N := some 47) (v := ?_) (a' := ?_) #[false, false, false, false, true, true, false, false, false, false, false, false, false] rfl rfl (by kernel_rfl) (fun _ _ _ h => h) (Or.inl ⟨by rfl, ?_⟩) ?_ ?_
    rotate_left
    · intro w'
      go_simp
      with_reducible rfl
    rotate_left
    · simp only [Act.put, List.setIfInBounds_toArray, List.set_cons_zero, List.set_cons_succ, i64_w, i32_w]
      rfl
    refine pure_ (i := 7) (N := some 49) (v := ?_) (a' := ?_) #[false, false, false, false, true, true, false, true, false, false, false, false, false] rfl rfl (by kernel_rfl) (fun _ _ _ h => h) (Or.inl ⟨by rfl, ?_⟩) ?_ ?_
    rotate_left
    · intro w'
      go_simp
      with_reducible rfl
    rotate_left
    · simp only [Act.put, List.setIfInBounds_toArray, List.set_cons_zero, List.set_cons_succ, i64_w, i32_w]
      rfl
    refine take_ (i := 0) (N := some 42) (v := ?_) (a' := ?_) #[true, false, false, false, true, true, false, true, false, false, false, false, false] rfl rfl (by kernel_rfl) (fun _ _ _ h => h) (Or.inl ⟨by rfl, ?_⟩) hHeld ?_ ?_
    rotate_left
    · rintro w' ⟨s0, s1, s2, s3, s4, s5⟩
      go_simp
      with_reducible rfl
    rotate_left
    · simp only [Act.put, List.setIfInBounds_toArray, List.set_cons_zero, List.set_cons_succ, i64_w, i32_w]
      rfl
    refine take_ (i := 2) (N := some 44) (v := ?_) (a' := ?_) #[true, false, true, false, true, true, false, true, false, false, false, false, false] rfl rfl (by kernel_rfl) (fun _ _ _ h => h) (Or.inl ⟨by rfl, ?_⟩) hHeld ?_ ?_
    rotate_left
    · rintro w' ⟨s0, s1, s2, s3, s4, s5⟩
      go_simp
      with_reducible rfl
    rotate_left
    · simp only [Act.put, List.setIfInBounds_toArray, List.set_cons_zero, List.set_cons_succ, i64_w, i32_w]
      rfl
    refine one_ (i := 1) (N := some 43) #[true, true, true, false, true, true, false, true, false, false, false, false, false] rfl rfl (by kernel_rfl) (by decide) (fun K hK => ?_)
    refine goes_ Try.func27 (by kernel_rfl) rfl #[.agg #[.int .i64 a0, .int .i64 a1, .int .i64 a2, .slice A l.length c]] (by rfl) rfl rfl (by simp only [List.map_toArray, List.map_cons, List.map_nil]; rfl) ?_
    with_reducible refine (lplate_of (Kd.C_below HL.out HI.out.low) (by omega)).mono ?_
    rintro e V2 ⟨P, p, rfl, hp, HP0, hs⟩
    have HP := Lib.hid HP0
    clear HP0
    replace HI := Lib.hid (HI.out.below hs)
    clear hs
    refine ⟨_, rfl, ?_⟩
    refine hK.out _ _ ⟨((blk_cell HI.out.b0 0).trans rfl), ((blk_cell HI.out.b0 1).trans rfl), ((blk_cell HI.out.b0 2).trans rfl), ((blk_cell HI.out.b0 3).trans rfl), ((blk_cell HI.out.b1 0).trans rfl), ((blk_cell HI.out.b1 1).trans rfl)⟩ (fun hHeld => ?_)
    clear hK K
    refine norm_ (a' := ?_) ?_ ?_
    rotate_left
    · show Act.put _ (some 43) _ = _
      simp only [Act.put, List.setIfInBounds_toArray, List.set_cons_zero, List.set_cons_succ, i64_w, i32_w]
      rfl
    refine one_ (i := 3) (N := some 45) #[true, true, true, true, true, true, false, true, false, false, false, false, false] rfl rfl (by kernel_rfl) (by decide) (fun K hK => ?_)
    refine goes_ Try.func28 (by kernel_rfl) rfl #[.agg #[.slice B cuts.length d, .slice E uses.length k]] (by rfl) rfl rfl (by simp only [List.map_toArray, List.map_cons, List.map_nil]; rfl) ?_
    with_reducible refine (lplan_of (Kd.C_below HQ.out HI.out.low) (by omega) (Kd.C_below HU.out HI.out.low) (by omega)).mono ?_
    rintro e V3 ⟨R, r, Z, z, rfl, hr, hz, HR0, HZ0, hs⟩
    have HR := Lib.hid HR0
    have HZ := Lib.hid HZ0
    clear HR0 HZ0
    replace HP := Lib.hid (Kd.C_below HP.out hs)
    replace HI := Lib.hid (HI.out.below hs)
    clear hs
    refine ⟨_, rfl, ?_⟩
    refine hK.out _ _ ⟨((blk_cell HI.out.b0 0).trans rfl), ((blk_cell HI.out.b0 1).trans rfl), ((blk_cell HI.out.b0 2).trans rfl), ((blk_cell HI.out.b0 3).trans rfl), ((blk_cell HI.out.b1 0).trans rfl), ((blk_cell HI.out.b1 1).trans rfl)⟩ (fun hHeld => ?_)
    clear hK K
    refine norm_ (a' := ?_) ?_ ?_
    rotate_left
    · show Act.put _ (some 45) _ = _
      simp only [Act.put, List.setIfInBounds_toArray, List.set_cons_zero, List.set_cons_succ, i64_w, i32_w]
      rfl
    refine one_ (i := 6) (N := some 48) #[true, true, true, true, true, true, true, true, false, false, false, false, false] rfl rfl (by kernel_rfl) (by decide) (fun K hK => ?_)
    refine goes_ Try.func46 (by kernel_rfl) rfl #[.agg #[.int .i64 a0, .int .i64 a1, .int .i64 a2, .slice P l.length p], .agg #[.slice R cuts.length r, .slice Z uses.length z], .int .i64 worth, .int .i64 many] (by rfl) rfl rfl (by simp only [List.map_toArray, List.map_cons, List.map_nil]; rfl) ?_
    with_reducible refine (prove_of HP.out hp HR.out hr HZ.out hz HPV.out).mono ?_
    rintro e V6 ⟨rfl, hs⟩
    replace HI := Lib.hid (HI.out.below hs)
    clear hs
    refine ⟨_, rfl, ?_⟩
    refine hK.out _ _ ⟨((blk_cell HI.out.b0 0).trans rfl), ((blk_cell HI.out.b0 1).trans rfl), ((blk_cell HI.out.b0 2).trans rfl), ((blk_cell HI.out.b0 3).trans rfl), ((blk_cell HI.out.b1 0).trans rfl), ((blk_cell HI.out.b1 1).trans rfl)⟩ (fun hHeld => ?_)
    clear hK K
    refine norm_ (a' := ?_) ?_ ?_
    rotate_left
    · show Act.put _ (some 48) _ = _
      simp only [Act.put, List.setIfInBounds_toArray, List.set_cons_zero, List.set_cons_succ, i64_w, i32_w]
      rfl
    refine pure_ (i := 8) (N := some 50) (v := ?_) (a' := ?_) #[true, true, true, true, true, true, true, true, true, false, false, false, false] rfl rfl (by kernel_rfl) (fun _ _ _ h => h) (Or.inl ⟨by rfl, ?_⟩) ?_ ?_
    rotate_left
    · intro w'
      go_simp
      with_reducible rfl
    rotate_left
    · simp only [Act.put, List.setIfInBounds_toArray, List.set_cons_zero, List.set_cons_succ, i64_w, i32_w]
      rfl
    refine pure_ (i := 9) (N := some 51) (v := ?_) (a' := ?_) #[true, true, true, true, true, true, true, true, true, true, false, false, false] rfl rfl (by kernel_rfl) (fun _ _ _ h => h) (Or.inl ⟨by rfl, ?_⟩) ?_ ?_
    rotate_left
    · intro w'
      go_simp
      with_reducible rfl
    rotate_left
    · simp only [Act.put, List.setIfInBounds_toArray, List.set_cons_zero, List.set_cons_succ, i64_w, i32_w]
      rfl
    refine one_ (i := 10) (N := some 52) #[true, true, true, true, true, true, true, true, true, true, true, false, false] rfl rfl (by kernel_rfl) (by decide) (fun K hK => ?_)
    refine goes_ Try.func25 (by kernel_rfl) rfl #[] (by rfl) rfl rfl (by simp only [List.map_toArray, List.map_cons, List.map_nil]) ?_
    with_reducible refine (wakes_calls _).mono ?_
    rintro e V9 ⟨rfl, hs⟩
    replace HI := Lib.hid (HI.out.below hs)
    clear hs
    refine ⟨_, rfl, ?_⟩
    refine hK.out _ _ ⟨((blk_cell HI.out.b0 0).trans rfl), ((blk_cell HI.out.b0 1).trans rfl), ((blk_cell HI.out.b0 2).trans rfl), ((blk_cell HI.out.b0 3).trans rfl), ((blk_cell HI.out.b1 0).trans rfl), ((blk_cell HI.out.b1 1).trans rfl)⟩ (fun hHeld => ?_)
    clear hK K
    refine norm_ (a' := ?_) ?_ ?_
    rotate_left
    · show Act.put _ (some 52) _ = _
      simp only [Act.put, List.setIfInBounds_toArray, List.set_cons_zero, List.set_cons_succ, i64_w, i32_w]
      rfl
    refine pure_ (i := 11) (N := some 53) (v := ?_) (a' := ?_) #[true, true, true, true, true, true, true, true, true, true, true, true, false] rfl rfl (by kernel_rfl) (fun _ _ _ h => h) (Or.inl ⟨by rfl, ?_⟩) ?_ ?_
    rotate_left
    · intro w'
      go_simp
      with_reducible rfl
    rotate_left
    · simp only [Act.put, List.setIfInBounds_toArray, List.set_cons_zero, List.set_cons_succ, i64_w, i32_w]
      rfl
    refine pure_ (i := 12) (N := some 8) (v := ?_) (a' := ?_) #[true, true, true, true, true, true, true, true, true, true, true, true, true] rfl rfl (by kernel_rfl) (fun _ _ _ h => h) (Or.inl ⟨by rfl, ?_⟩) ?_ ?_
    rotate_left
    · intro w'
      go_simp
      with_reducible rfl
    rotate_left
    · simp only [Act.put, List.setIfInBounds_toArray, List.set_cons_zero, List.set_cons_succ, i64_w, i32_w]
      rfl
    refine done_ (by kernel_rfl) ?_
    go_wp2
    go_ret
    exact ⟨rfl, HI.out.low⟩
end Go.Proofs.Ytffjbaknglemdaa.X
