import Derived.Test.YtffjbaknglemdaaHQ4
import Derived.Laws.StructEq
namespace Go.Proofs.Ytffjbaknglemdaa.X
open Go.RowKit Go.Maps Go.Proofs.YtffjbaknglemdaaW.PrintWords Go.Proofs.YtffjbaknglemdaaW.PrintLast Go.Proofs.YtffjbaknglemdaaW.PrintMore
set_option linter.unusedSimpArgs false
set_option linter.unusedVariables false

/-! ### PlateWeighs 4 -/
set_option maxRecDepth 100000 in
theorem eq49 (a b c d : Int) (w : World) : (binOp .eql 49 (.agg #[.int .i64 a, .int .i64 b, .int .i64 c, .int .i64 d]) (.agg #[.int .i64 a, .int .i64 b, .int .i64 c, .int .i64 d])).run Try.prog w = .ok (.bool true) w := by
  rw [run_eql_struct, run_equalIn_struct w 9999 49 _ _ (by kernel_rfl) (by kernel_rfl)]
  go_simp
theorem weighs_law {a0 a1 a2 : Int} {l : List S82} {cuts : List S107} {uses : List Int} {r1 r2 r3 r4 r5 pr : Int} (hc : WB107 cuts) (h : plate_Weigh.f a0 a1 a2 (l.map toW) (cuts.map toC) uses = some (r1, r2, r3, r4, r5)) (hp : plannedR a0 a1 a2 l cuts uses = pr) :
    (pr ≠ 0 ∧ r1 = 0 ∧ r2 = 0 ∧ r3 = 0 ∧ r4 = 0 ∧ r5 = pr) ∨ (pr = 0 ∧ r5 = 0 ∧ ∃ st, Right a0 a1 a2 l cuts uses st ∧ (r1, r2, r3) = allW uses (fun x y => traceR x y 0 (st.1.zip st.2)) a0.toNat a1.toNat ∧ r4 = worthW (uses.zip l)) := by
  rcases planned_ref (a0 := a0) (a1 := a1) (a2 := a2) (l := l) (uses := uses) hc with ⟨er, her, h1, h2⟩ | ⟨h1, st, hr⟩
  · unfold plate_Weigh.f at h
    rw [h2] at h
    simp only [Option.some.injEq, Prod.mk.injEq] at h
    obtain ⟨rfl, rfl, rfl, rfl, rfl⟩ := h
    exact .inl ⟨by rw [← hp, h1]; exact her, rfl, rfl, rfl, rfl, by rw [← hp, h1]⟩
  · rw [(weigh_law hc hr).1] at h
    simp only [Option.some.injEq, Prod.mk.injEq] at h
    obtain ⟨e1, e2, e3, e4, e5⟩ := h
    exact .inr ⟨by rw [← hp, h1], e5.symm, st, hr, by rw [← e1, ← e2, ← e3], e4.symm⟩
set_option maxRecDepth 100000 in
set_option maxHeartbeats 4000000 in
theorem plateWeighs_calls (a0 a1 a2 : Int) (A : Option Addr) (c : Nat) (l : List S82) (B : Option Addr) (d : Nat) (cuts : List S107) (E : Option Addr) (k : Nat) (uses : List Int) (w : World) (hl : Kd.C k82 w A l.length l) (hlc : l.length ≤ c) (hq : Kd.C k107 w B cuts.length cuts) (hqd : cuts.length ≤ d) (hu : Kd.C (Kd.int .i64) w E uses.length uses) (huk : uses.length ≤ k) (hwb : WB107 cuts) (hub : ∀ n ∈ uses, I64 n) :
    Calls Try.prog 4 #[.agg #[.int .i64 a0, .int .i64 a1, .int .i64 a2, .slice A l.length c], .agg #[.slice B cuts.length d, .slice E uses.length k]] w fun e w' => e = .returned (.bool true) ∧ Below w.heap.size w w' := by
  have HL := Lib.hid hl
  have HQ := Lib.hid hq
  have HU := Lib.hid hu
  have h24 := fun w => thin_calls a0 a1 a2 A l.length c B cuts.length d E uses.length k w
  have HI : Hid (WI w a0 a1 a2 (.slice A l.length c) (.slice B cuts.length d) (.slice E uses.length k) ((w.alloc (.cells #[.int .i64 a0, .int .i64 a1, .int .i64 a2, .slice A l.length c] 24)).alloc (.cells #[.slice B cuts.length d, .slice E uses.length k] 37))) := Lib.hid ⟨blk_below (alloc_at rfl) (below_alloc (Below.refl _ _) _), alloc_at (by simp), below_alloc (below_alloc (Below.refl _ _) _) _⟩
  clear hl hq hu
  cases hth : thinR l.length cuts.length uses.length with
  | false =>
    rw [hth] at h24
    have H24 := Lib.hid h24
    clear h24 hth hwb hub
    go_enter Try.func4, Try.ntmps4
    go_wp2_with (first | (go_at_call 24; refine (H24.out _).mono ?_; rintro e V1 ⟨rfl, hs⟩; have HI := Lib.hid (HI.out.below hs); have hz0 : V1.cell? ⟨w.heap.size, 0, none⟩ = some (.int .i64 a0) := (blk_cell HI.out.b0 0).trans rfl; have hz1 : V1.cell? ⟨w.heap.size, 1, none⟩ = some (.int .i64 a1) := (blk_cell HI.out.b0 1).trans rfl; have hz2 : V1.cell? ⟨w.heap.size, 2, none⟩ = some (.int .i64 a2) := (blk_cell HI.out.b0 2).trans rfl; have hz3 : V1.cell? ⟨w.heap.size, 3, none⟩ = some (.slice A l.length c) := (blk_cell HI.out.b0 3).trans rfl; have hz4 : V1.cell? ⟨w.heap.size + 1, 0, none⟩ = some (.slice B cuts.length d) := (blk_cell HI.out.b1 0).trans rfl; have hz5 : V1.cell? ⟨w.heap.size + 1, 1, none⟩ = some (.slice E uses.length k) := (blk_cell HI.out.b1 1).trans rfl) | (go_at_call 25; refine (wakes_calls _).mono ?_; rintro e V9 ⟨rfl, hs⟩; have HI := Lib.hid (HI.out.below hs)))
    go_ret
    exact ⟨rfl, HI.out.low⟩
  | true =>
  rw [hth] at h24
  have H24 := Lib.hid h24
  obtain ⟨hl6, hq45, hu6⟩ : l.length ≤ 6 ∧ cuts.length ≤ 45 ∧ uses.length ≤ 6 := by unfold thinR at hth; simp at hth; omega
  clear h24 hth
  obtain ⟨r1, r2, r3, r4, r5, hwg⟩ : ∃ r1 r2 r3 r4 r5, plate_Weigh.f a0 a1 a2 (l.map toW) (cuts.map toC) uses = some (r1, r2, r3, r4, r5) := ⟨_, _, _, _, _, rfl⟩
  obtain ⟨pr, hpr⟩ : ∃ pr, plannedR a0 a1 a2 l cuts uses = pr := ⟨_, rfl⟩
  have HLAW := Lib.hid (weighs_law hwb hwg hpr)
  have HWG := Lib.hid hwg
  have HPR := Lib.hid hpr
  clear hwg hpr hwb hub
  go_enter Try.func4, Try.ntmps4
  go_wp2_with (first | (go_at_call 24; refine (H24.out _).mono ?_; rintro e V1 ⟨rfl, hs⟩; have HI := Lib.hid (HI.out.below hs); have hz0 : V1.cell? ⟨w.heap.size, 0, none⟩ = some (.int .i64 a0) := (blk_cell HI.out.b0 0).trans rfl; have hz1 : V1.cell? ⟨w.heap.size, 1, none⟩ = some (.int .i64 a1) := (blk_cell HI.out.b0 1).trans rfl; have hz2 : V1.cell? ⟨w.heap.size, 2, none⟩ = some (.int .i64 a2) := (blk_cell HI.out.b0 2).trans rfl; have hz3 : V1.cell? ⟨w.heap.size, 3, none⟩ = some (.slice A l.length c) := (blk_cell HI.out.b0 3).trans rfl; have hz4 : V1.cell? ⟨w.heap.size + 1, 0, none⟩ = some (.slice B cuts.length d) := (blk_cell HI.out.b1 0).trans rfl; have hz5 : V1.cell? ⟨w.heap.size + 1, 1, none⟩ = some (.slice E uses.length k) := (blk_cell HI.out.b1 1).trans rfl))
  replace HI := Lib.hid (HI.out.below (below_drew1 (Below.refl _ _)))
  clear hz0 hz1 hz2 hz3 hz4 hz5
  refine start_ (n := 11) (S := fun w' => w'.cell? ⟨w.heap.size, 0, none⟩ = some (.int .i64 a0) ∧ w'.cell? ⟨w.heap.size, 1, none⟩ = some (.int .i64 a1) ∧ w'.cell? ⟨w.heap.size, 2, none⟩ = some (.int .i64 a2) ∧ w'.cell? ⟨w.heap.size, 3, none⟩ = some (.slice A l.length c) ∧ w'.cell? ⟨w.heap.size + 1, 0, none⟩ = some (.slice B cuts.length d) ∧ w'.cell? ⟨w.heap.size + 1, 1, none⟩ = some (.slice E uses.length k)) (ds := [9]) #[false, false, false, false, false, false, false, false, false, false, false] (by kernel_rfl) rfl rfl ⟨((blk_cell HI.out.b0 0).trans rfl), ((blk_cell HI.out.b0 1).trans rfl), ((blk_cell HI.out.b0 2).trans rfl), ((blk_cell HI.out.b0 3).trans rfl), ((blk_cell HI.out.b1 0).trans rfl), ((blk_cell HI.out.b1 1).trans rfl)⟩ (fun hHeld => ?_)
  refine take_ (i := 0) (N := some 18) (v := ?_) (a' := ?_) #[true, false, false, false, false, false, false, false, false, false, false] rfl rfl (by kernel_rfl) (fun _ _ _ h => h) (Or.inl ⟨by rfl, ?_⟩) hHeld ?_ ?_
  rotate_left
  · rintro w' ⟨s0, s1, s2, s3, s4, s5⟩
    go_simp
    with_reducible rfl
  rotate_left
  · simp only [Act.put, List.setIfInBounds_toArray, List.set_cons_zero, List.set_cons_succ, i64_w, i32_w]
    rfl
  refine take_ (i := 2) (N := some 20) (v := ?_) (a' := ?_) #[true, false, true, false, false, false, false, false, false, false, false] rfl rfl (by kernel_rfl) (fun _ _ _ h => h) (Or.inl ⟨by rfl, ?_⟩) hHeld ?_ ?_
  rotate_left
  · rintro w' ⟨s0, s1, s2, s3, s4, s5⟩
    go_simp
    with_reducible rfl
  rotate_left
  · simp only [Act.put, List.setIfInBounds_toArray, List.set_cons_zero, List.set_cons_succ, i64_w, i32_w]
    rfl
  refine join_ (σ := Option Addr × Nat × Option Addr × Nat × Option Addr × Nat × Nat) 2 #[true, true, true, true, true, true, true, true, true, false, false] (fun s => [(19, .agg #[.int .i64 a0, .int .i64 a1, .int .i64 a2, .slice s.1 l.length s.2.1]), (21, .agg #[.slice s.2.2.1 cuts.length s.2.2.2.1, .slice s.2.2.2.2.1 uses.length s.2.2.2.2.2.1]), (22, .tuple #[.agg #[.int .i64 r1, .int .i64 r2, .int .i64 r3, .int .i64 r4], .int .i64 r5]), (17, .tuple #[.agg #[.int .i64 r1, .int .i64 r2, .int .i64 r3, .int .i64 r4], .int .i64 r5]), (23, .agg #[.int .i64 r1, .int .i64 r2, .int .i64 r3, .int .i64 r4]), (24, .int .i64 r5), (5, .pointer (some ⟨s.2.2.2.2.2.2, 0, none⟩))]) (fun s w' => Hid (WI w a0 a1 a2 (.slice A l.length c) (.slice B cuts.length d) (.slice E uses.length k) w') ∧ w'.heap[s.2.2.2.2.2.2]? = some (.cells #[.int .i64 0, .int .i64 0, .int .i64 0, .int .i64 0] 49 (0, 0)) ∧ w.heap.size ≤ s.2.2.2.2.2.2) ?_ ?_
  rotate_left
  · intro hCont
    refine two_ (i := 1) (j := 8) (Ni := some 19) (Nj := some 5) #[true, true, true, false, false, false, false, false, false, false, false] #[true, false, true, false, false, false, false, false, true, false, false] rfl rfl rfl rfl (by kernel_rfl) (by decide) (by decide) (fun K hK => ?_) (fun K hK => ?_)
    · skip
      refine goes_ Try.func27 (by kernel_rfl) rfl #[.agg #[.int .i64 a0, .int .i64 a1, .int .i64 a2, .slice A l.length c]] (by rfl) rfl rfl (by simp only [List.map_toArray, List.map_cons, List.map_nil]; rfl) ?_
      with_reducible refine (lplate_of (Kd.C_below HL.out HI.out.low) (by omega)).mono ?_
      rintro e V2 ⟨P, p, rfl, hp, HP0, hs⟩
      have HP := Lib.hid HP0
      clear HP0
      replace HI := Lib.hid (HI.out.below hs)
      clear hs
      refine ⟨_, rfl, ?_⟩
      refine hK.out _ _ ⟨((blk_cell HI.out.b0 0).trans rfl), ((blk_cell HI.out.b0 1).trans rfl), ((blk_cell HI.out.b0 2).trans rfl), ((blk_cell HI.out.b0 3).trans rfl), ((blk_cell HI.out.b1 0).trans rfl), ((blk_cell HI.out.b1 1).trans rfl)⟩ (fun hHeld => ?_)
      clear hK K
      refine norm_ (a' := ?_) ?_ ?_
      rotate_left
      · show Act.put _ (some 19) _ = _
        simp only [Act.put, List.setIfInBounds_toArray, List.set_cons_zero, List.set_cons_succ, i64_w, i32_w]
        rfl
      refine two_ (i := 3) (j := 8) (Ni := some 21) (Nj := some 5) #[true, true, true, true, false, false, false, false, false, false, false] #[true, true, true, false, false, false, false, false, true, false, false] rfl rfl rfl rfl (by kernel_rfl) (by decide) (by decide) (fun K hK => ?_) (fun K hK => ?_)
      · skip
        refine goes_ Try.func28 (by kernel_rfl) rfl #[.agg #[.slice B cuts.length d, .slice E uses.length k]] (by rfl) rfl rfl (by simp only [List.map_toArray, List.map_cons, List.map_nil]; rfl) ?_
        with_reducible refine (lplan_of (Kd.C_below HQ.out HI.out.low) (by omega) (Kd.C_below HU.out HI.out.low) (by omega)).mono ?_
        rintro e V3 ⟨R, r, Z, z, rfl, hr, hz, HR0, HZ0, hs⟩
        have HR := Lib.hid HR0
        have HZ := Lib.hid HZ0
        clear HR0 HZ0
        replace HI := Lib.hid (HI.out.below hs)
        replace HP := Lib.hid (Kd.C_below HP.out hs)
        clear hs
        refine ⟨_, rfl, ?_⟩
        refine hK.out _ _ ⟨((blk_cell HI.out.b0 0).trans rfl), ((blk_cell HI.out.b0 1).trans rfl), ((blk_cell HI.out.b0 2).trans rfl), ((blk_cell HI.out.b0 3).trans rfl), ((blk_cell HI.out.b1 0).trans rfl), ((blk_cell HI.out.b1 1).trans rfl)⟩ (fun hHeld => ?_)
        clear hK K
        refine norm_ (a' := ?_) ?_ ?_
        rotate_left
        · show Act.put _ (some 21) _ = _
          simp only [Act.put, List.setIfInBounds_toArray, List.set_cons_zero, List.set_cons_succ, i64_w, i32_w]
          rfl
        refine two_ (i := 4) (j := 8) (Ni := some 22) (Nj := some 5) #[true, true, true, true, true, false, false, false, false, false, false] #[true, true, true, true, false, false, false, false, true, false, false] rfl rfl rfl rfl (by kernel_rfl) (by decide) (by decide) (fun K hK => ?_) (fun K hK => ?_)
        · skip
          refine goes_ Try.func26 (by kernel_rfl) rfl #[.agg #[.int .i64 a0, .int .i64 a1, .int .i64 a2, .slice P l.length p], .agg #[.slice R cuts.length r, .slice Z uses.length z]] (by rfl) rfl rfl (by simp only [List.map_toArray, List.map_cons, List.map_nil]; rfl) ?_
          with_reducible refine (weigh_of HP.out hp HR.out hr HZ.out hz HWG.out).mono ?_
          rintro e V4 ⟨rfl, hs⟩
          replace HI := Lib.hid (HI.out.below hs)
          replace HP := Lib.hid (Kd.C_below HP.out hs)
          replace HR := Lib.hid (Kd.C_below HR.out hs)
          replace HZ := Lib.hid (Kd.C_below HZ.out hs)
          clear hs
          refine ⟨_, rfl, ?_⟩
          refine hK.out _ _ ⟨((blk_cell HI.out.b0 0).trans rfl), ((blk_cell HI.out.b0 1).trans rfl), ((blk_cell HI.out.b0 2).trans rfl), ((blk_cell HI.out.b0 3).trans rfl), ((blk_cell HI.out.b1 0).trans rfl), ((blk_cell HI.out.b1 1).trans rfl)⟩ (fun hHeld => ?_)
          clear hK K
          refine norm_ (a' := ?_) ?_ ?_
          rotate_left
          · show Act.put _ (some 22) _ = _
            simp only [Act.put, List.setIfInBounds_toArray, List.set_cons_zero, List.set_cons_succ, i64_w, i32_w]
            rfl
          refine pure_ (i := 5) (N := some 17) (v := ?_) (a' := ?_) #[true, true, true, true, true, true, false, false, false, false, false] rfl rfl (by kernel_rfl) (fun _ _ _ h => h) (Or.inl ⟨by rfl, ?_⟩) ?_ ?_
          rotate_left
          · intro w'
            go_simp
            with_reducible rfl
          rotate_left
          · simp only [Act.put, List.setIfInBounds_toArray, List.set_cons_zero, List.set_cons_succ, i64_w, i32_w]
            rfl
          refine pure_ (i := 6) (N := some 23) (v := ?_) (a' := ?_) #[true, true, true, true, true, true, true, false, false, false, false] rfl rfl (by kernel_rfl) (fun _ _ _ h => h) (Or.inl ⟨by rfl, ?_⟩) ?_ ?_
          rotate_left
          · intro w'
            go_simp
            with_reducible rfl
          rotate_left
          · simp only [Act.put, List.setIfInBounds_toArray, List.set_cons_zero, List.set_cons_succ, i64_w, i32_w]
            rfl
          refine pure_ (i := 7) (N := some 24) (v := ?_) (a' := ?_) #[true, true, true, true, true, true, true, true, false, false, false] rfl rfl (by kernel_rfl) (fun _ _ _ h => h) (Or.inl ⟨by rfl, ?_⟩) ?_ ?_
          rotate_left
          · intro w'
            go_simp
            with_reducible rfl
          rotate_left
          · simp only [Act.put, List.setIfInBounds_toArray, List.set_cons_zero, List.set_cons_succ, i64_w, i32_w]
            rfl
          refine one_ (i := 8) (N := some 5) #[true, true, true, true, true, true, true, true, true, false, false] rfl rfl (by kernel_rfl) (by decide) (fun K hK => ?_)
          refine pbox_ (.cells #[.int .i64 0, .int .i64 0, .int .i64 0, .int .i64 0] 49 (0, 0)) (by rfl) rfl ?_ ?_
          · first | (go_simp; done) | (go_simp; rfl)
          intro g8 V5 hg8 hl8 hs
          have hl9 := Nat.le_trans HI.out.low.size hl8
          replace HI := Lib.hid (HI.out.below hs)
          replace HP := Lib.hid (Kd.C_below HP.out hs)
          replace HR := Lib.hid (Kd.C_below HR.out hs)
          replace HZ := Lib.hid (Kd.C_below HZ.out hs)
          clear hs
          refine hK.out _ _ ⟨((blk_cell HI.out.b0 0).trans rfl), ((blk_cell HI.out.b0 1).trans rfl), ((blk_cell HI.out.b0 2).trans rfl), ((blk_cell HI.out.b0 3).trans rfl), ((blk_cell HI.out.b1 0).trans rfl), ((blk_cell HI.out.b1 1).trans rfl)⟩ (fun hHeld => ?_)
          clear hK K
          refine norm_ (a' := ?_) ?_ ?_
          rotate_left
          · show Act.put _ (some 5) _ = _
            simp only [Act.put, List.setIfInBounds_toArray, List.set_cons_zero, List.set_cons_succ, i64_w, i32_w]
            rfl
          exact norm_ (by simp only [putAll, Act.put, List.setIfInBounds_toArray, List.set_cons_zero, List.set_cons_succ]) (hCont (P, p, R, r, Z, z, g8) _ ⟨HI, hg8, hl9⟩)
        · skip
          refine pbox_ (.cells #[.int .i64 0, .int .i64 0, .int .i64 0, .int .i64 0] 49 (0, 0)) (by rfl) rfl ?_ ?_
          · first | (go_simp; done) | (go_simp; rfl)
          intro g8 V4 hg8 hl8 hs
          have hl9 := Nat.le_trans HI.out.low.size hl8
          replace HI := Lib.hid (HI.out.below hs)
          replace HP := Lib.hid (Kd.C_below HP.out hs)
          replace HR := Lib.hid (Kd.C_below HR.out hs)
          replace HZ := Lib.hid (Kd.C_below HZ.out hs)
          clear hs
          refine hK.out _ _ ⟨((blk_cell HI.out.b0 0).trans rfl), ((blk_cell HI.out.b0 1).trans rfl), ((blk_cell HI.out.b0 2).trans rfl), ((blk_cell HI.out.b0 3).trans rfl), ((blk_cell HI.out.b1 0).trans rfl), ((blk_cell HI.out.b1 1).trans rfl)⟩ (fun hHeld => ?_)
          clear hK K
          refine norm_ (a' := ?_) ?_ ?_
          rotate_left
          · show Act.put _ (some 5) _ = _
            simp only [Act.put, List.setIfInBounds_toArray, List.set_cons_zero, List.set_cons_succ, i64_w, i32_w]
            rfl
          refine one_ (i := 4) (N := some 22) #[true, true, true, true, true, false, false, false, true, false, false] rfl rfl (by kernel_rfl) (by decide) (fun K hK => ?_)
          refine goes_ Try.func26 (by kernel_rfl) rfl #[.agg #[.int .i64 a0, .int .i64 a1, .int .i64 a2, .slice P l.length p], .agg #[.slice R cuts.length r, .slice Z uses.length z]] (by rfl) rfl rfl (by simp only [List.map_toArray, List.map_cons, List.map_nil]; rfl) ?_
          with_reducible refine (weigh_of HP.out hp HR.out hr HZ.out hz HWG.out).mono ?_
          rintro e V5 ⟨rfl, hs⟩
          replace HI := Lib.hid (HI.out.below hs)
          replace HP := Lib.hid (Kd.C_below HP.out hs)
          replace HR := Lib.hid (Kd.C_below HR.out hs)
          replace HZ := Lib.hid (Kd.C_below HZ.out hs)
          replace hg8 := blk_below hg8 hs
          clear hs
          refine ⟨_, rfl, ?_⟩
          refine hK.out _ _ ⟨((blk_cell HI.out.b0 0).trans rfl), ((blk_cell HI.out.b0 1).trans rfl), ((blk_cell HI.out.b0 2).trans rfl), ((blk_cell HI.out.b0 3).trans rfl), ((blk_cell HI.out.b1 0).trans rfl), ((blk_cell HI.out.b1 1).trans rfl)⟩ (fun hHeld => ?_)
          clear hK K
          refine norm_ (a' := ?_) ?_ ?_
          rotate_left
          · show Act.put _ (some 22) _ = _
            simp only [Act.put, List.setIfInBounds_toArray, List.set_cons_zero, List.set_cons_succ, i64_w, i32_w]
            rfl
          refine pure_ (i := 5) (N := some 17) (v := ?_) (a' := ?_) #[true, true, true, true, true, true, false, false, true, false, false] rfl rfl (by kernel_rfl) (fun _ _ _ h => h) (Or.inl ⟨by rfl, ?_⟩) ?_ ?_
          rotate_left
          · intro w'
            go_simp
            with_reducible rfl
          rotate_left
          · simp only [Act.put, List.setIfInBounds_toArray, List.set_cons_zero, List.set_cons_succ, i64_w, i32_w]
            rfl
          refine pure_ (i := 6) (N := some 23) (v := ?_) (a' := ?_) #[true, true, true, true, true, true, true, false, true, false, false] rfl rfl (by kernel_rfl) (fun _ _ _ h => h) (Or.inl ⟨by rfl, ?_⟩) ?_ ?_
          rotate_left
          · intro w'
            go_simp
            with_reducible rfl
          rotate_left
          · simp only [Act.put, List.setIfInBounds_toArray, List.set_cons_zero, List.set_cons_succ, i64_w, i32_w]
            rfl
          refine pure_ (i := 7) (N := some 24) (v := ?_) (a' := ?_) #[true, true, true, true, true, true, true, true, true, false, false] rfl rfl (by kernel_rfl) (fun _ _ _ h => h) (Or.inl ⟨by rfl, ?_⟩) ?_ ?_
          rotate_left
          · intro w'
            go_simp
            with_reducible rfl
          rotate_left
          · simp only [Act.put, List.setIfInBounds_toArray, List.set_cons_zero, List.set_cons_succ, i64_w, i32_w]
            rfl
          exact norm_ (by simp only [putAll, Act.put, List.setIfInBounds_toArray, List.set_cons_zero, List.set_cons_succ]) (hCont (P, p, R, r, Z, z, g8) _ ⟨HI, hg8, hl9⟩)
      · skip
        refine pbox_ (.cells #[.int .i64 0, .int .i64 0, .int .i64 0, .int .i64 0] 49 (0, 0)) (by rfl) rfl ?_ ?_
        · first | (go_simp; done) | (go_simp; rfl)
        intro g8 V3 hg8 hl8 hs
        have hl9 := Nat.le_trans HI.out.low.size hl8
        replace HI := Lib.hid (HI.out.below hs)
        replace HP := Lib.hid (Kd.C_below HP.out hs)
        clear hs
        refine hK.out _ _ ⟨((blk_cell HI.out.b0 0).trans rfl), ((blk_cell HI.out.b0 1).trans rfl), ((blk_cell HI.out.b0 2).trans rfl), ((blk_cell HI.out.b0 3).trans rfl), ((blk_cell HI.out.b1 0).trans rfl), ((blk_cell HI.out.b1 1).trans rfl)⟩ (fun hHeld => ?_)
        clear hK K
        refine norm_ (a' := ?_) ?_ ?_
        rotate_left
        · show Act.put _ (some 5) _ = _
          simp only [Act.put, List.setIfInBounds_toArray, List.set_cons_zero, List.set_cons_succ, i64_w, i32_w]
          rfl
        refine one_ (i := 3) (N := some 21) #[true, true, true, true, false, false, false, false, true, false, false] rfl rfl (by kernel_rfl) (by decide) (fun K hK => ?_)
        refine goes_ Try.func28 (by kernel_rfl) rfl #[.agg #[.slice B cuts.length d, .slice E uses.length k]] (by rfl) rfl rfl (by simp only [List.map_toArray, List.map_cons, List.map_nil]; rfl) ?_
        with_reducible refine (lplan_of (Kd.C_below HQ.out HI.out.low) (by omega) (Kd.C_below HU.out HI.out.low) (by omega)).mono ?_
        rintro e V4 ⟨R, r, Z, z, rfl, hr, hz, HR0, HZ0, hs⟩
        have HR := Lib.hid HR0
        have HZ := Lib.hid HZ0
        clear HR0 HZ0
        replace HI := Lib.hid (HI.out.below hs)
        replace HP := Lib.hid (Kd.C_below HP.out hs)
        replace hg8 := blk_below hg8 hs
        clear hs
        refine ⟨_, rfl, ?_⟩
        refine hK.out _ _ ⟨((blk_cell HI.out.b0 0).trans rfl), ((blk_cell HI.out.b0 1).trans rfl), ((blk_cell HI.out.b0 2).trans rfl), ((blk_cell HI.out.b0 3).trans rfl), ((blk_cell HI.out.b1 0).trans rfl), ((blk_cell HI.out.b1 1).trans rfl)⟩ (fun hHeld => ?_)
        clear hK K
        refine norm_ (a' := ?_) ?_ ?_
        rotate_left
        · show Act.put _ (some 21) _ = _
          simp only [Act.put, List.setIfInBounds_toArray, List.set_cons_zero, List.set_cons_succ, i64_w, i32_w]
          rfl
        refine one_ (i := 4) (N := some 22) #[true, true, true, true, true, false, false, false, true, false, false] rfl rfl (by kernel_rfl) (by decide) (fun K hK => ?_)
        refine goes_ Try.func26 (by kernel_rfl) rfl #[.agg #[.int .i64 a0, .int .i64 a1, .int .i64 a2, .slice P l.length p], .agg #[.slice R cuts.length r, .slice Z uses.length z]] (by rfl) rfl rfl (by simp only [List.map_toArray, List.map_cons, List.map_nil]; rfl) ?_
        with_reducible refine (weigh_of HP.out hp HR.out hr HZ.out hz HWG.out).mono ?_
        rintro e V5 ⟨rfl, hs⟩
        replace HI := Lib.hid (HI.out.below hs)
        replace HP := Lib.hid (Kd.C_below HP.out hs)
        replace HR := Lib.hid (Kd.C_below HR.out hs)
        replace HZ := Lib.hid (Kd.C_below HZ.out hs)
        replace hg8 := blk_below hg8 hs
        clear hs
        refine ⟨_, rfl, ?_⟩
        refine hK.out _ _ ⟨((blk_cell HI.out.b0 0).trans rfl), ((blk_cell HI.out.b0 1).trans rfl), ((blk_cell HI.out.b0 2).trans rfl), ((blk_cell HI.out.b0 3).trans rfl), ((blk_cell HI.out.b1 0).trans rfl), ((blk_cell HI.out.b1 1).trans rfl)⟩ (fun hHeld => ?_)
        clear hK K
        refine norm_ (a' := ?_) ?_ ?_
        rotate_left
        · show Act.put _ (some 22) _ = _
          simp only [Act.put, List.setIfInBounds_toArray, List.set_cons_zero, List.set_cons_succ, i64_w, i32_w]
          rfl
        refine pure_ (i := 5) (N := some 17) (v := ?_) (a' := ?_) #[true, true, true, true, true, true, false, false, true, false, false] rfl rfl (by kernel_rfl) (fun _ _ _ h => h) (Or.inl ⟨by rfl, ?_⟩) ?_ ?_
        rotate_left
        · intro w'
          go_simp
          with_reducible rfl
        rotate_left
        · simp only [Act.put, List.setIfInBounds_toArray, List.set_cons_zero, List.set_cons_succ, i64_w, i32_w]
          rfl
        refine pure_ (i := 6) (N := some 23) (v := ?_) (a' := ?_) #[true, true, true, true, true, true, true, false, true, false, false] rfl rfl (by kernel_rfl) (fun _ _ _ h => h) (Or.inl ⟨by rfl, ?_⟩) ?_ ?_
        rotate_left
        · intro w'
          go_simp
          with_reducible rfl
        rotate_left
        · simp only [Act.put, List.setIfInBounds_toArray, List.set_cons_zero, List.set_cons_succ, i64_w, i32_w]
          rfl
        refine pure_ (i := 7) (N := some 24) (v := ?_) (a' := ?_) #[true, true, true, true, true, true, true, true, true, false, false] rfl rfl (by kernel_rfl) (fun _ _ _ h => h) (Or.inl ⟨by rfl, ?_⟩) ?_ ?_
        rotate_left
        · intro w'
          go_simp
          with_reducible rfl
        rotate_left
        · simp only [Act.put, List.setIfInBounds_toArray, List.set_cons_zero, List.set_cons_succ, i64_w, i32_w]
          rfl
        exact norm_ (by simp only [putAll, Act.put, List.setIfInBounds_toArray, List.set_cons_zero, List.set_cons_succ]) (hCont (P, p, R, r, Z, z, g8) _ ⟨HI, hg8, hl9⟩)
    · skip
      refine pbox_ (.cells #[.int .i64 0, .int .i64 0, .int .i64 0, .int .i64 0] 49 (0, 0)) (by rfl) rfl ?_ ?_
      · first | (go_simp; done) | (go_simp; rfl)
      intro g8 V2 hg8 hl8 hs
      have hl9 := Nat.le_trans HI.out.low.size hl8
      replace HI := Lib.hid (HI.out.below hs)
      clear hs
      refine hK.out _ _ ⟨((blk_cell HI.out.b0 0).trans rfl), ((blk_cell HI.out.b0 1).trans rfl), ((blk_cell HI.out.b0 2).trans rfl), ((blk_cell HI.out.b0 3).trans rfl), ((blk_cell HI.out.b1 0).trans rfl), ((blk_cell HI.out.b1 1).trans rfl)⟩ (fun hHeld => ?_)
      clear hK K
      refine norm_ (a' := ?_) ?_ ?_
      rotate_left
      · show Act.put _ (some 5) _ = _
        simp only [Act.put, List.setIfInBounds_toArray, List.set_cons_zero, List.set_cons_succ, i64_w, i32_w]
        rfl
      refine one_ (i := 1) (N := some 19) #[true, true, true, false, false, false, false, false, true, false, false] rfl rfl (by kernel_rfl) (by decide) (fun K hK => ?_)
      refine goes_ Try.func27 (by kernel_rfl) rfl #[.agg #[.int .i64 a0, .int .i64 a1, .int .i64 a2, .slice A l.length c]] (by rfl) rfl rfl (by simp only [List.map_toArray, List.map_cons, List.map_nil]; rfl) ?_
      with_reducible refine (lplate_of (Kd.C_below HL.out HI.out.low) (by omega)).mono ?_
      rintro e V3 ⟨P, p, rfl, hp, HP0, hs⟩
      have HP := Lib.hid HP0
      clear HP0
      replace HI := Lib.hid (HI.out.below hs)
      replace hg8 := blk_below hg8 hs
      clear hs
      refine ⟨_, rfl, ?_⟩
      refine hK.out _ _ ⟨((blk_cell HI.out.b0 0).trans rfl), ((blk_cell HI.out.b0 1).trans rfl), ((blk_cell HI.out.b0 2).trans rfl), ((blk_cell HI.out.b0 3).trans rfl), ((blk_cell HI.out.b1 0).trans rfl), ((blk_cell HI.out.b1 1).trans rfl)⟩ (fun hHeld => ?_)
      clear hK K
      refine norm_ (a' := ?_) ?_ ?_
      rotate_left
      · show Act.put _ (some 19) _ = _
        simp only [Act.put, List.setIfInBounds_toArray, List.set_cons_zero, List.set_cons_succ, i64_w, i32_w]
        rfl
      refine one_ (i := 3) (N := some 21) #[true, true, true, true, false, false, false, false, true, false, false] rfl rfl (by kernel_rfl) (by decide) (fun K hK => ?_)
      refine goes_ Try.func28 (by kernel_rfl) rfl #[.agg #[.slice B cuts.length d, .slice E uses.length k]] (by rfl) rfl rfl (by simp only [List.map_toArray, List.map_cons, List.map_nil]; rfl) ?_
      with_reducible refine (lplan_of (Kd.C_below HQ.out HI.out.low) (by omega) (Kd.C_below HU.out HI.out.low) (by omega)).mono ?_
      rintro e V4 ⟨R, r, Z, z, rfl, hr, hz, HR0, HZ0, hs⟩
      have HR := Lib.hid HR0
      have HZ := Lib.hid HZ0
      clear HR0 HZ0
      replace HI := Lib.hid (HI.out.below hs)
      replace HP := Lib.hid (Kd.C_below HP.out hs)
      replace hg8 := blk_below hg8 hs
      clear hs
      refine ⟨_, rfl, ?_⟩
      refine hK.out _ _ ⟨((blk_cell HI.out.b0 0).trans rfl), ((blk_cell HI.out.b0 1).trans rfl), ((blk_cell HI.out.b0 2).trans rfl), ((blk_cell HI.out.b0 3).trans rfl), ((blk_cell HI.out.b1 0).trans rfl), ((blk_cell HI.out.b1 1).trans rfl)⟩ (fun hHeld => ?_)
      clear hK K
      refine norm_ (a' := ?_) ?_ ?_
      rotate_left
      · show Act.put _ (some 21) _ = _
        simp only [Act.put, List.setIfInBounds_toArray, List.set_cons_zero, List.set_cons_succ, i64_w, i32_w]
        rfl
      refine one_ (i := 4) (N := some 22) #[true, true, true, true, true, false, false, false, true, false, false] rfl rfl (by kernel_rfl) (by decide) (fun K hK => ?_)
      refine goes_ Try.func26 (by kernel_rfl) rfl #[.agg #[.int .i64 a0, .int .i64 a1, .int .i64 a2, .slice P l.length p], .agg #[.slice R cuts.length r, .slice Z uses.length z]] (by rfl) rfl rfl (by simp only [List.map_toArray, List.map_cons, List.map_nil]; rfl) ?_
      with_reducible refine (weigh_of HP.out hp HR.out hr HZ.out hz HWG.out).mono ?_
      rintro e V5 ⟨rfl, hs⟩
      replace HI := Lib.hid (HI.out.below hs)
      replace HP := Lib.hid (Kd.C_below HP.out hs)
      replace HR := Lib.hid (Kd.C_below HR.out hs)
      replace HZ := Lib.hid (Kd.C_below HZ.out hs)
      replace hg8 := blk_below hg8 hs
      clear hs
      refine ⟨_, rfl, ?_⟩
      refine hK.out _ _ ⟨((blk_cell HI.out.b0 0).trans rfl), ((blk_cell HI.out.b0 1).trans rfl), ((blk_cell HI.out.b0 2).trans rfl), ((blk_cell HI.out.b0 3).trans rfl), ((blk_cell HI.out.b1 0).trans rfl), ((blk_cell HI.out.b1 1).trans rfl)⟩ (fun hHeld => ?_)
      clear hK K
      refine norm_ (a' := ?_) ?_ ?_
      rotate_left
      · show Act.put _ (some 22) _ = _
        simp only [Act.put, List.setIfInBounds_toArray, List.set_cons_zero, List.set_cons_succ, i64_w, i32_w]
        rfl
      refine pure_ (i := 5) (N := some 17) (v := ?_) (a' := ?_) #[true, true, true, true, true, true, false, false, true, false, false] rfl rfl (by kernel_rfl) (fun _ _ _ h => h) (Or.inl ⟨by rfl, ?_⟩) ?_ ?_
      rotate_left
      · intro w'
        go_simp
        with_reducible rfl
      rotate_left
      · simp only [Act.put, List.setIfInBounds_toArray, List.set_cons_zero, List.set_cons_succ, i64_w, i32_w]
        rfl
      refine pure_ (i := 6) (N := some 23) (v := ?_) (a' := ?_) #[true, true, true, true, true, true, true, false, true, false, false] rfl rfl (by kernel_rfl) (fun _ _ _ h => h) (Or.inl ⟨by rfl, ?_⟩) ?_ ?_
      rotate_left
      · intro w'
        go_simp
        with_reducible rfl
      rotate_left
      · simp only [Act.put, List.setIfInBounds_toArray, List.set_cons_zero, List.set_cons_succ, i64_w, i32_w]
        rfl
      refine pure_ (i := 7) (N := some 24) (v := ?_) (a' := ?_) #[true, true, true, true, true, true, true, true, true, false, false] rfl rfl (by kernel_rfl) (fun _ _ _ h => h) (Or.inl ⟨by rfl, ?_⟩) ?_ ?_
      rotate_left
      · intro w'
        go_simp
        with_reducible rfl
      rotate_left
      · simp only [Act.put, List.setIfInBounds_toArray, List.set_cons_zero, List.set_cons_succ, i64_w, i32_w]
        rfl
      exact norm_ (by simp only [putAll, Act.put, List.setIfInBounds_toArray, List.set_cons_zero, List.set_cons_succ]) (hCont (P, p, R, r, Z, z, g8) _ ⟨HI, hg8, hl9⟩)
  clear hHeld HI
  rintro ⟨P, p, R, r, Z, z, g8⟩ W6 ⟨HI, hg8, hl9⟩
  dsimp only at hg8 hl9
  have hHeld : W6.cell? ⟨w.heap.size, 0, none⟩ = some (.int .i64 a0) ∧ W6.cell? ⟨w.heap.size, 1, none⟩ = some (.int .i64 a1) ∧ W6.cell? ⟨w.heap.size, 2, none⟩ = some (.int .i64 a2) ∧ W6.cell? ⟨w.heap.size, 3, none⟩ = some (.slice A l.length c) ∧ W6.cell? ⟨w.heap.size + 1, 0, none⟩ = some (.slice B cuts.length d) ∧ W6.cell? ⟨w.heap.size + 1, 1, none⟩ = some (.slice E uses.length k) := ⟨((blk_cell HI.out.b0 0).trans rfl), ((blk_cell HI.out.b0 1).trans rfl), ((blk_cell HI.out.b0 2).trans rfl), ((blk_cell HI.out.b0 3).trans rfl), ((blk_cell HI.out.b1 0).trans rfl), ((blk_cell HI.out.b1 1).trans rfl)⟩
  have cz0 : (W6).cell? ⟨g8, 0, none⟩ = some (.int .i64 0) := (blk_cell hg8 0).trans rfl; have czf0 : (W6).frozen? ⟨g8, 0, none⟩ = false := blk_frozen hg8 0; have cz1 : (W6).cell? ⟨g8, 1, none⟩ = some (.int .i64 0) := (blk_cell hg8 1).trans rfl; have czf1 : (W6).frozen? ⟨g8, 1, none⟩ = false := blk_frozen hg8 1; have cz2 : (W6).cell? ⟨g8, 2, none⟩ = some (.int .i64 0) := (blk_cell hg8 2).trans rfl; have czf2 : (W6).frozen? ⟨g8, 2, none⟩ = false := blk_frozen hg8 2; have cz3 : (W6).cell? ⟨g8, 3, none⟩ = some (.int .i64 0) := (blk_cell hg8 3).trans rfl; have czf3 : (W6).frozen? ⟨g8, 3, none⟩ = false := blk_frozen hg8 3
  refine norm_ (a' := ?_) ?_ ?_
  rotate_left
  · simp only [putAll, Act.put, List.setIfInBounds_toArray, List.set_cons_zero, List.set_cons_succ]
    rfl
  refine last_ (i := 9) (N := none) #[true, true, true, true, true, true, true, true, true, true, false] rfl rfl (by kernel_rfl) (by decide) (fun K hK => ?_)
  refine skip_ (w1 := ?_) (by rfl) rfl ?_ ?_
  rotate_left
  · go_simp
    rfl
  refine hK.out _ _ ?_
  clear hK K
  refine pure_ (i := 10) (N := some 6) (v := ?_) (a' := ?_) #[true, true, true, true, true, true, true, true, true, true, true] rfl rfl (by kernel_rfl) (fun _ _ _ h => h) (Or.inl ⟨by rfl, ?_⟩) ?_ ?_
  rotate_left
  · intro w'
    go_simp
    with_reducible rfl
  rotate_left
  · simp only [Act.put, List.setIfInBounds_toArray, List.set_cons_zero, List.set_cons_succ, i64_w, i32_w]
    rfl
  refine done_ (by kernel_rfl) ?_
  obtain ⟨Q, hQ⟩ : ∃ Q, Q = (((W6.setCell ⟨g8, 0, none⟩ (.int .i64 r1)).setCell ⟨g8, 1, none⟩ (.int .i64 r2)).setCell ⟨g8, 2, none⟩ (.int .i64 r3)).setCell ⟨g8, 3, none⟩ (.int .i64 r4) := ⟨_, rfl⟩
  rw [← hQ]
  have n0 := blk_ne HI.out.b0 hg8 (by decide)
  have n1 := blk_ne HI.out.b1 hg8 (by decide)
  have HI2 : Hid (WI w a0 a1 a2 (.slice A l.length c) (.slice B cuts.length d) (.slice E uses.length k) Q) := Lib.hid (by
    rw [hQ]
    exact ⟨blk_far (blk_far (blk_far (blk_far HI.out.b0 n0 _) n0 _) n0 _) n0 _, blk_far (blk_far (blk_far (blk_far HI.out.b1 n1 _) n1 _) n1 _) n1 _, below_set (below_set (below_set (below_set HI.out.low hl9) hl9) hl9) hl9⟩)
  have HG : Hid (Q.heap[g8]? = some (.cells #[.int .i64 r1, .int .i64 r2, .int .i64 r3, .int .i64 r4] 49 (0, 0))) := Lib.hid (by
    rw [hQ]
    exact blk_put (blk_put (blk_put (blk_put hg8 0 _ (cs' := #[.int .i64 r1, .int .i64 0, .int .i64 0, .int .i64 0]) rfl) 1 _ (cs' := #[.int .i64 r1, .int .i64 r2, .int .i64 0, .int .i64 0]) rfl) 2 _ (cs' := #[.int .i64 r1, .int .i64 r2, .int .i64 r3, .int .i64 0]) rfl) 3 _ rfl)
  clear hQ n0 n1 HI hg8 hl9 hHeld cz0 cz1 cz2 cz3 czf0 czf1 czf2 czf3
  have HI := HI2
  clear HI2
  have hz0 : Q.cell? ⟨w.heap.size, 0, none⟩ = some (.int .i64 a0) := (blk_cell HI.out.b0 0).trans rfl; have hz1 : Q.cell? ⟨w.heap.size, 1, none⟩ = some (.int .i64 a1) := (blk_cell HI.out.b0 1).trans rfl; have hz2 : Q.cell? ⟨w.heap.size, 2, none⟩ = some (.int .i64 a2) := (blk_cell HI.out.b0 2).trans rfl; have hz3 : Q.cell? ⟨w.heap.size, 3, none⟩ = some (.slice A l.length c) := (blk_cell HI.out.b0 3).trans rfl; have hz4 : Q.cell? ⟨w.heap.size + 1, 0, none⟩ = some (.slice B cuts.length d) := (blk_cell HI.out.b1 0).trans rfl; have hz5 : Q.cell? ⟨w.heap.size + 1, 1, none⟩ = some (.slice E uses.length k) := (blk_cell HI.out.b1 1).trans rfl
  have hq49 := eq49
  rcases HLAW.out with ⟨h1, rfl, rfl, rfl, rfl, rfl⟩ | ⟨h1, rfl, st, hR, hall, hwo⟩
  · have hb : (r5 == 0) = false := by simpa using h1
    have hb2 : (r5 != 0) = true := bne_iff_ne.2 h1
    have hb3 : (r5 == r5) = true := by simp
    clear h1 HLAW
    go_wp2_with (first | (go_at_call 29; refine (lplanned_calls a0 a1 a2 A c l B d cuts E k uses _ (Kd.C_below HL.out HI.out.low) hlc (Kd.C_below HQ.out HI.out.low) hqd (by omega) (Kd.C_below HU.out HI.out.low) (by omega) (by omega)).mono ?_; rintro e V4 ⟨he, hs⟩; rw [HPR.out] at he; subst he; have HG := Lib.hid (blk_below HG.out hs); have hg0 : V4.cell? ⟨g8, 0, none⟩ = some (.int .i64 0) := (blk_cell HG.out 0).trans rfl; have hg1 : V4.cell? ⟨g8, 1, none⟩ = some (.int .i64 0) := (blk_cell HG.out 1).trans rfl; have hg2 : V4.cell? ⟨g8, 2, none⟩ = some (.int .i64 0) := (blk_cell HG.out 2).trans rfl; have hg3 : V4.cell? ⟨g8, 3, none⟩ = some (.int .i64 0) := (blk_cell HG.out 3).trans rfl; have HI := Lib.hid (HI.out.below hs); have hz0 : V4.cell? ⟨w.heap.size, 0, none⟩ = some (.int .i64 a0) := (blk_cell HI.out.b0 0).trans rfl; have hz1 : V4.cell? ⟨w.heap.size, 1, none⟩ = some (.int .i64 a1) := (blk_cell HI.out.b0 1).trans rfl; have hz2 : V4.cell? ⟨w.heap.size, 2, none⟩ = some (.int .i64 a2) := (blk_cell HI.out.b0 2).trans rfl; have hz3 : V4.cell? ⟨w.heap.size, 3, none⟩ = some (.slice A l.length c) := (blk_cell HI.out.b0 3).trans rfl; have hz4 : V4.cell? ⟨w.heap.size + 1, 0, none⟩ = some (.slice B cuts.length d) := (blk_cell HI.out.b1 0).trans rfl; have hz5 : V4.cell? ⟨w.heap.size + 1, 1, none⟩ = some (.slice E uses.length k) := (blk_cell HI.out.b1 1).trans rfl) | (go_at_call 25; refine (wakes_calls _).mono ?_; rintro e V9 ⟨rfl, hs⟩; have HI := Lib.hid (HI.out.below hs)))
    go_ret
    exact ⟨rfl, HI.out.low⟩
  · subst h1
    have HST := Lib.hid hR.steps
    have HALL := Lib.hid hall
    have HWO := Lib.hid hwo
    have HUL := Lib.hid hR.len
    have H0 : Hid (0 ≤ a0 ∧ a0 ≤ 8) := Lib.hid (by have := hR.ok.wid; omega)
    have H1 : Hid (0 ≤ a1 ∧ a1 ≤ 8) := Lib.hid (by have := hR.ok.lng; omega)
    clear HLAW hR hall hwo
    go_wp2_with (first | (go_at_call 29; refine (lplanned_calls a0 a1 a2 A c l B d cuts E k uses _ (Kd.C_below HL.out HI.out.low) hlc (Kd.C_below HQ.out HI.out.low) hqd (by omega) (Kd.C_below HU.out HI.out.low) (by omega) (by omega)).mono ?_; rintro e V4 ⟨he, hs⟩; rw [HPR.out] at he; subst he; have HG := Lib.hid (blk_below HG.out hs); have hg0 : V4.cell? ⟨g8, 0, none⟩ = some (.int .i64 r1) := (blk_cell HG.out 0).trans rfl; have hg1 : V4.cell? ⟨g8, 1, none⟩ = some (.int .i64 r2) := (blk_cell HG.out 1).trans rfl; have hg2 : V4.cell? ⟨g8, 2, none⟩ = some (.int .i64 r3) := (blk_cell HG.out 2).trans rfl; have hg3 : V4.cell? ⟨g8, 3, none⟩ = some (.int .i64 r4) := (blk_cell HG.out 3).trans rfl; have HI := Lib.hid (HI.out.below hs); have hz0 : V4.cell? ⟨w.heap.size, 0, none⟩ = some (.int .i64 a0) := (blk_cell HI.out.b0 0).trans rfl; have hz1 : V4.cell? ⟨w.heap.size, 1, none⟩ = some (.int .i64 a1) := (blk_cell HI.out.b0 1).trans rfl; have hz2 : V4.cell? ⟨w.heap.size, 2, none⟩ = some (.int .i64 a2) := (blk_cell HI.out.b0 2).trans rfl; have hz3 : V4.cell? ⟨w.heap.size, 3, none⟩ = some (.slice A l.length c) := (blk_cell HI.out.b0 3).trans rfl; have hz4 : V4.cell? ⟨w.heap.size + 1, 0, none⟩ = some (.slice B cuts.length d) := (blk_cell HI.out.b1 0).trans rfl; have hz5 : V4.cell? ⟨w.heap.size + 1, 1, none⟩ = some (.slice E uses.length k) := (blk_cell HI.out.b1 1).trans rfl) | (go_at_call 30; refine (refWeigh_calls a0 a1 a2 A c l B d cuts E k uses st _ (Kd.C_below HL.out HI.out.low) (Kd.C_below HQ.out HI.out.low) hqd (by omega) (Kd.C_below HU.out HI.out.low) (by omega) HUL.out H0.out H1.out HST.out).mono ?_; rintro e V5 ⟨t, ht, he, hs⟩; obtain rfl : t = (r1, r2, r3) := ht.trans HALL.out.symm; rw [← HWO.out] at he; dsimp only at he; subst he; have HG := Lib.hid (blk_below HG.out hs); have hg0 : V5.cell? ⟨g8, 0, none⟩ = some (.int .i64 r1) := (blk_cell HG.out 0).trans rfl; have hg1 : V5.cell? ⟨g8, 1, none⟩ = some (.int .i64 r2) := (blk_cell HG.out 1).trans rfl; have hg2 : V5.cell? ⟨g8, 2, none⟩ = some (.int .i64 r3) := (blk_cell HG.out 2).trans rfl; have hg3 : V5.cell? ⟨g8, 3, none⟩ = some (.int .i64 r4) := (blk_cell HG.out 3).trans rfl; have HI := Lib.hid (HI.out.below hs); have hz0 : V5.cell? ⟨w.heap.size, 0, none⟩ = some (.int .i64 a0) := (blk_cell HI.out.b0 0).trans rfl; have hz1 : V5.cell? ⟨w.heap.size, 1, none⟩ = some (.int .i64 a1) := (blk_cell HI.out.b0 1).trans rfl; have hz2 : V5.cell? ⟨w.heap.size, 2, none⟩ = some (.int .i64 a2) := (blk_cell HI.out.b0 2).trans rfl; have hz3 : V5.cell? ⟨w.heap.size, 3, none⟩ = some (.slice A l.length c) := (blk_cell HI.out.b0 3).trans rfl; have hz4 : V5.cell? ⟨w.heap.size + 1, 0, none⟩ = some (.slice B cuts.length d) := (blk_cell HI.out.b1 0).trans rfl; have hz5 : V5.cell? ⟨w.heap.size + 1, 1, none⟩ = some (.slice E uses.length k) := (blk_cell HI.out.b1 1).trans rfl) | (go_at_call 25; refine (wakes_calls _).mono ?_; rintro e V9 ⟨rfl, hs⟩; have HI := Lib.hid (HI.out.below hs)))
    go_ret
    exact ⟨rfl, HI.out.low⟩
end Go.Proofs.Ytffjbaknglemdaa.X
