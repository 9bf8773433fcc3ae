import Derived.Test.YtffjbaknglemdaaHL0
namespace Go.Proofs.Ytffjbaknglemdaa.X
open Go.RowKit Go.Maps Go.Proofs.YtffjbaknglemdaaW.PrintWords Go.Proofs.YtffjbaknglemdaaW.PrintLast Go.Proofs.YtffjbaknglemdaaW.PrintMore
set_option linter.unusedSimpArgs false
set_option linter.unusedVariables false

/-! ### PlateCuts 13 -/
set_option maxRecDepth 100000 in
set_option maxHeartbeats 4000000 in
theorem plateCuts_calls (a0 a1 a2 : Int) (A : Option Addr) (c : Nat) (l : List S82) (B : Option Addr) (d : Nat) (cuts : List S107) (w : World) (hl : Kd.C k82 w A l.length l) (hlc : l.length ≤ c) (hq : Kd.C k107 w B cuts.length cuts) (hqd : cuts.length ≤ d) (hwb : WB107 cuts) :
    Calls Try.prog 13 #[.agg #[.int .i64 a0, .int .i64 a1, .int .i64 a2, .slice A l.length c], .slice B cuts.length d] w fun e w' => e = .returned (.bool true) ∧ Below w.heap.size w w' := by
  have HL := Lib.hid hl
  have HQ := Lib.hid hq
  have h24 := fun w => thin_calls a0 a1 a2 A l.length c B cuts.length d none 0 0 w
  have HI : Hid (LI w a0 a1 a2 (.slice A l.length c) (w.alloc (.cells #[.int .i64 a0, .int .i64 a1, .int .i64 a2, .slice A l.length c] 24))) := Lib.hid ⟨alloc_at rfl, below_alloc (Below.refl _ _) _⟩
  clear hl hq
  cases hth : thinR l.length cuts.length 0 with
  | false =>
    rw [hth] at h24
    have H24 := Lib.hid h24
    clear h24 hth hwb
    go_enter Try.func13, Try.ntmps13
    go_wp2_with (first | (go_at_call 24; refine (H24.out _).mono ?_; rintro e V1 ⟨rfl, hs⟩; have HI := Lib.hid (HI.out.below hs); have hz0 : V1.cell? ⟨w.heap.size, 0, none⟩ = some (.int .i64 a0) := (blk_cell HI.out.b0 0).trans rfl; have hz1 : V1.cell? ⟨w.heap.size, 1, none⟩ = some (.int .i64 a1) := (blk_cell HI.out.b0 1).trans rfl; have hz2 : V1.cell? ⟨w.heap.size, 2, none⟩ = some (.int .i64 a2) := (blk_cell HI.out.b0 2).trans rfl; have hz3 : V1.cell? ⟨w.heap.size, 3, none⟩ = some (.slice A l.length c) := (blk_cell HI.out.b0 3).trans rfl) | (go_at_call 25; refine (wakes_calls _).mono ?_; rintro e V9 ⟨rfl, hs⟩; have HI := Lib.hid (HI.out.below hs)))
    go_ret
    exact ⟨rfl, HI.out.low⟩
  | true =>
  rw [hth] at h24
  have H24 := Lib.hid h24
  obtain ⟨hl6, hq45⟩ : l.length ≤ 1000 ∧ cuts.length ≤ 1000 := by unfold thinR at hth; simp at hth; omega
  clear h24 hth
  obtain ⟨f, hf⟩ : ∃ f, faultR a0 a1 a2 l = f := ⟨_, rfl⟩
  have HF := Lib.hid hf
  have HCH : Hid (chk a0 a1 a2 (l.map toW) = f) := Lib.hid (by rw [chk_ref]; exact hf)
  by_cases hf0 : f ≠ 0
  · have HPF : Hid (plate_Pieces.f a0 a1 a2 (l.map toW) (cuts.map toC) = some ([], f)) := Lib.hid (by unfold plate_Pieces.f doOf; rw [HCH.out, if_pos hf0])
    have HK : Hid (([] : List S103).length = 0) := Lib.hid rfl
    have hb : (f != 0) = true := bne_iff_ne.2 hf0
    have hb2 : (f == 0) = false := by simpa using hf0
    have hb3 : (f != f) = false := by simp
    clear hf hf0 hwb
    go_enter Try.func13, Try.ntmps13
    go_wp2_with (first | (go_at_call 24; refine (H24.out _).mono ?_; rintro e V1 ⟨rfl, hs⟩; have HI := Lib.hid (HI.out.below hs); have hz0 : V1.cell? ⟨w.heap.size, 0, none⟩ = some (.int .i64 a0) := (blk_cell HI.out.b0 0).trans rfl; have hz1 : V1.cell? ⟨w.heap.size, 1, none⟩ = some (.int .i64 a1) := (blk_cell HI.out.b0 1).trans rfl; have hz2 : V1.cell? ⟨w.heap.size, 2, none⟩ = some (.int .i64 a2) := (blk_cell HI.out.b0 2).trans rfl; have hz3 : V1.cell? ⟨w.heap.size, 3, none⟩ = some (.slice A l.length c) := (blk_cell HI.out.b0 3).trans rfl) | (go_at_call 27; refine (lplate_of (Kd.C_below HL.out HI.out.low) hl6).mono ?_; rintro e V2 ⟨P, p, rfl, hp, HP, hs⟩; have HP := Lib.hid HP; have HI := Lib.hid (HI.out.below hs); have hz0 : V2.cell? ⟨w.heap.size, 0, none⟩ = some (.int .i64 a0) := (blk_cell HI.out.b0 0).trans rfl; have hz1 : V2.cell? ⟨w.heap.size, 1, none⟩ = some (.int .i64 a1) := (blk_cell HI.out.b0 1).trans rfl; have hz2 : V2.cell? ⟨w.heap.size, 2, none⟩ = some (.int .i64 a2) := (blk_cell HI.out.b0 2).trans rfl; have hz3 : V2.cell? ⟨w.heap.size, 3, none⟩ = some (.slice A l.length c) := (blk_cell HI.out.b0 3).trans rfl) | (go_at_call 47; refine (check_of HP.out hp).mono ?_; rintro e V3 ⟨he, hs⟩; rw [HCH.out] at he; subst he; have HI := Lib.hid (HI.out.below hs); have hz0 : V3.cell? ⟨w.heap.size, 0, none⟩ = some (.int .i64 a0) := (blk_cell HI.out.b0 0).trans rfl; have hz1 : V3.cell? ⟨w.heap.size, 1, none⟩ = some (.int .i64 a1) := (blk_cell HI.out.b0 1).trans rfl; have hz2 : V3.cell? ⟨w.heap.size, 2, none⟩ = some (.int .i64 a2) := (blk_cell HI.out.b0 2).trans rfl; have hz3 : V3.cell? ⟨w.heap.size, 3, none⟩ = some (.slice A l.length c) := (blk_cell HI.out.b0 3).trans rfl) | (go_at_call 49; refine (lcuts_of (Kd.C_below HQ.out HI.out.low) hq45).mono ?_; rintro e V5 ⟨R, r, rfl, hr, HR, hs⟩; have HP := Lib.hid (Kd.C_below HP.out hs); have HR := Lib.hid HR; have HI := Lib.hid (HI.out.below hs); have hz0 : V5.cell? ⟨w.heap.size, 0, none⟩ = some (.int .i64 a0) := (blk_cell HI.out.b0 0).trans rfl; have hz1 : V5.cell? ⟨w.heap.size, 1, none⟩ = some (.int .i64 a1) := (blk_cell HI.out.b0 1).trans rfl; have hz2 : V5.cell? ⟨w.heap.size, 2, none⟩ = some (.int .i64 a2) := (blk_cell HI.out.b0 2).trans rfl; have hz3 : V5.cell? ⟨w.heap.size, 3, none⟩ = some (.slice A l.length c) := (blk_cell HI.out.b0 3).trans rfl) | (go_at_call 48; refine (pieces_of HP.out hp HR.out hr HPF.out HK.out).mono ?_; rintro e V6 ⟨S, s, rfl, HS, hs⟩; have HS := Lib.hid HS; have HI := Lib.hid (HI.out.below hs); have hz0 : V6.cell? ⟨w.heap.size, 0, none⟩ = some (.int .i64 a0) := (blk_cell HI.out.b0 0).trans rfl; have hz1 : V6.cell? ⟨w.heap.size, 1, none⟩ = some (.int .i64 a1) := (blk_cell HI.out.b0 1).trans rfl; have hz2 : V6.cell? ⟨w.heap.size, 2, none⟩ = some (.int .i64 a2) := (blk_cell HI.out.b0 2).trans rfl; have hz3 : V6.cell? ⟨w.heap.size, 3, none⟩ = some (.slice A l.length c) := (blk_cell HI.out.b0 3).trans rfl) | (go_at_call 37; refine (lfault_calls a0 a1 a2 A c l _ (Kd.C_below HL.out HI.out.low) hlc).mono ?_; rintro e V7 ⟨he, hs⟩; rw [HF.out] at he; subst he; have HS := Lib.hid (Kd.C_below HS.out hs); have HI := Lib.hid (HI.out.below hs); have hz0 : V7.cell? ⟨w.heap.size, 0, none⟩ = some (.int .i64 a0) := (blk_cell HI.out.b0 0).trans rfl; have hz1 : V7.cell? ⟨w.heap.size, 1, none⟩ = some (.int .i64 a1) := (blk_cell HI.out.b0 1).trans rfl; have hz2 : V7.cell? ⟨w.heap.size, 2, none⟩ = some (.int .i64 a2) := (blk_cell HI.out.b0 2).trans rfl; have hz3 : V7.cell? ⟨w.heap.size, 3, none⟩ = some (.slice A l.length c) := (blk_cell HI.out.b0 3).trans rfl) | (go_at_call 25; refine (wakes_calls _).mono ?_; rintro e V9 ⟨rfl, hs⟩; have HI := Lib.hid (HI.out.below hs)))
    go_ret
    exact ⟨rfl, HI.out.low⟩
  obtain rfl : f = 0 := by simpa using hf0
  clear hf0
  by_cases h40 : 40 < cuts.length
  · have HPF : Hid (plate_Pieces.f a0 a1 a2 (l.map toW) (cuts.map toC) = some ([], 3)) := Lib.hid (by unfold plate_Pieces.f doOf; rw [HCH.out, if_neg (by simp), List.length_map, if_pos h40])
    have HK : Hid (([] : List S103).length = 0) := Lib.hid rfl
    have hd : decide ((40 : Int) < (cuts.length : Int)) = true := decide_eq_true (by omega)
    clear hf h40 hwb
    go_enter Try.func13, Try.ntmps13
    go_wp2_with (first | (go_at_call 24; refine (H24.out _).mono ?_; rintro e V1 ⟨rfl, hs⟩; have HI := Lib.hid (HI.out.below hs); have hz0 : V1.cell? ⟨w.heap.size, 0, none⟩ = some (.int .i64 a0) := (blk_cell HI.out.b0 0).trans rfl; have hz1 : V1.cell? ⟨w.heap.size, 1, none⟩ = some (.int .i64 a1) := (blk_cell HI.out.b0 1).trans rfl; have hz2 : V1.cell? ⟨w.heap.size, 2, none⟩ = some (.int .i64 a2) := (blk_cell HI.out.b0 2).trans rfl; have hz3 : V1.cell? ⟨w.heap.size, 3, none⟩ = some (.slice A l.length c) := (blk_cell HI.out.b0 3).trans rfl) | (go_at_call 27; refine (lplate_of (Kd.C_below HL.out HI.out.low) hl6).mono ?_; rintro e V2 ⟨P, p, rfl, hp, HP, hs⟩; have HP := Lib.hid HP; have HI := Lib.hid (HI.out.below hs); have hz0 : V2.cell? ⟨w.heap.size, 0, none⟩ = some (.int .i64 a0) := (blk_cell HI.out.b0 0).trans rfl; have hz1 : V2.cell? ⟨w.heap.size, 1, none⟩ = some (.int .i64 a1) := (blk_cell HI.out.b0 1).trans rfl; have hz2 : V2.cell? ⟨w.heap.size, 2, none⟩ = some (.int .i64 a2) := (blk_cell HI.out.b0 2).trans rfl; have hz3 : V2.cell? ⟨w.heap.size, 3, none⟩ = some (.slice A l.length c) := (blk_cell HI.out.b0 3).trans rfl) | (go_at_call 47; refine (check_of HP.out hp).mono ?_; rintro e V3 ⟨he, hs⟩; rw [HCH.out] at he; subst he; have HI := Lib.hid (HI.out.below hs); have hz0 : V3.cell? ⟨w.heap.size, 0, none⟩ = some (.int .i64 a0) := (blk_cell HI.out.b0 0).trans rfl; have hz1 : V3.cell? ⟨w.heap.size, 1, none⟩ = some (.int .i64 a1) := (blk_cell HI.out.b0 1).trans rfl; have hz2 : V3.cell? ⟨w.heap.size, 2, none⟩ = some (.int .i64 a2) := (blk_cell HI.out.b0 2).trans rfl; have hz3 : V3.cell? ⟨w.heap.size, 3, none⟩ = some (.slice A l.length c) := (blk_cell HI.out.b0 3).trans rfl) | (go_at_call 49; refine (lcuts_of (Kd.C_below HQ.out HI.out.low) hq45).mono ?_; rintro e V5 ⟨R, r, rfl, hr, HR, hs⟩; have HP := Lib.hid (Kd.C_below HP.out hs); have HR := Lib.hid HR; have HI := Lib.hid (HI.out.below hs); have hz0 : V5.cell? ⟨w.heap.size, 0, none⟩ = some (.int .i64 a0) := (blk_cell HI.out.b0 0).trans rfl; have hz1 : V5.cell? ⟨w.heap.size, 1, none⟩ = some (.int .i64 a1) := (blk_cell HI.out.b0 1).trans rfl; have hz2 : V5.cell? ⟨w.heap.size, 2, none⟩ = some (.int .i64 a2) := (blk_cell HI.out.b0 2).trans rfl; have hz3 : V5.cell? ⟨w.heap.size, 3, none⟩ = some (.slice A l.length c) := (blk_cell HI.out.b0 3).trans rfl) | (go_at_call 48; refine (pieces_of HP.out hp HR.out hr HPF.out HK.out).mono ?_; rintro e V6 ⟨S, s, rfl, HS, hs⟩; have HS := Lib.hid HS; have HI := Lib.hid (HI.out.below hs); have hz0 : V6.cell? ⟨w.heap.size, 0, none⟩ = some (.int .i64 a0) := (blk_cell HI.out.b0 0).trans rfl; have hz1 : V6.cell? ⟨w.heap.size, 1, none⟩ = some (.int .i64 a1) := (blk_cell HI.out.b0 1).trans rfl; have hz2 : V6.cell? ⟨w.heap.size, 2, none⟩ = some (.int .i64 a2) := (blk_cell HI.out.b0 2).trans rfl; have hz3 : V6.cell? ⟨w.heap.size, 3, none⟩ = some (.slice A l.length c) := (blk_cell HI.out.b0 3).trans rfl) | (go_at_call 37; refine (lfault_calls a0 a1 a2 A c l _ (Kd.C_below HL.out HI.out.low) hlc).mono ?_; rintro e V7 ⟨he, hs⟩; rw [HF.out] at he; subst he; have HS := Lib.hid (Kd.C_below HS.out hs); have HI := Lib.hid (HI.out.below hs); have hz0 : V7.cell? ⟨w.heap.size, 0, none⟩ = some (.int .i64 a0) := (blk_cell HI.out.b0 0).trans rfl; have hz1 : V7.cell? ⟨w.heap.size, 1, none⟩ = some (.int .i64 a1) := (blk_cell HI.out.b0 1).trans rfl; have hz2 : V7.cell? ⟨w.heap.size, 2, none⟩ = some (.int .i64 a2) := (blk_cell HI.out.b0 2).trans rfl; have hz3 : V7.cell? ⟨w.heap.size, 3, none⟩ = some (.slice A l.length c) := (blk_cell HI.out.b0 3).trans rfl) | (go_at_call 25; refine (wakes_calls _).mono ?_; rintro e V9 ⟨rfl, hs⟩; have HI := Lib.hid (HI.out.below hs)))
    go_ret
    exact ⟨rfl, HI.out.low⟩
  have hd : decide ((40 : Int) < (cuts.length : Int)) = false := decide_eq_false (by omega)
  obtain ⟨hdo, -⟩ := do_ref hf hwb (by omega)
  have hpf : plate_Pieces.f a0 a1 a2 (l.map toW) (cuts.map toC) = some (match doFin ((stepsR a2 ([⟨0, 0, a0, a1⟩], [false]) cuts).map cv) with
    | (er, none) => ([], er)
    | (_, some st) => (st.1, 0)) := by unfold plate_Pieces.f; rw [hdo]; rfl
  cases hst : stepsR a2 ([⟨0, 0, a0, a1⟩], [false]) cuts with
  | none =>
    rw [hst] at hpf
    have HPF : Hid (plate_Pieces.f a0 a1 a2 (l.map toW) (cuts.map toC) = some ([], 11)) := Lib.hid hpf
    have HK : Hid (([] : List S103).length = 0) := Lib.hid rfl
    have HST := Lib.hid hst
    clear hf h40 hwb hdo hpf hst
    go_enter Try.func13, Try.ntmps13
    go_wp2_with (first | (go_at_call 24; refine (H24.out _).mono ?_; rintro e V1 ⟨rfl, hs⟩; have HI := Lib.hid (HI.out.below hs); have hz0 : V1.cell? ⟨w.heap.size, 0, none⟩ = some (.int .i64 a0) := (blk_cell HI.out.b0 0).trans rfl; have hz1 : V1.cell? ⟨w.heap.size, 1, none⟩ = some (.int .i64 a1) := (blk_cell HI.out.b0 1).trans rfl; have hz2 : V1.cell? ⟨w.heap.size, 2, none⟩ = some (.int .i64 a2) := (blk_cell HI.out.b0 2).trans rfl; have hz3 : V1.cell? ⟨w.heap.size, 3, none⟩ = some (.slice A l.length c) := (blk_cell HI.out.b0 3).trans rfl) | (go_at_call 27; refine (lplate_of (Kd.C_below HL.out HI.out.low) hl6).mono ?_; rintro e V2 ⟨P, p, rfl, hp, HP, hs⟩; have HP := Lib.hid HP; have HI := Lib.hid (HI.out.below hs); have hz0 : V2.cell? ⟨w.heap.size, 0, none⟩ = some (.int .i64 a0) := (blk_cell HI.out.b0 0).trans rfl; have hz1 : V2.cell? ⟨w.heap.size, 1, none⟩ = some (.int .i64 a1) := (blk_cell HI.out.b0 1).trans rfl; have hz2 : V2.cell? ⟨w.heap.size, 2, none⟩ = some (.int .i64 a2) := (blk_cell HI.out.b0 2).trans rfl; have hz3 : V2.cell? ⟨w.heap.size, 3, none⟩ = some (.slice A l.length c) := (blk_cell HI.out.b0 3).trans rfl) | (go_at_call 47; refine (check_of HP.out hp).mono ?_; rintro e V3 ⟨he, hs⟩; rw [HCH.out] at he; subst he; have HI := Lib.hid (HI.out.below hs); have hz0 : V3.cell? ⟨w.heap.size, 0, none⟩ = some (.int .i64 a0) := (blk_cell HI.out.b0 0).trans rfl; have hz1 : V3.cell? ⟨w.heap.size, 1, none⟩ = some (.int .i64 a1) := (blk_cell HI.out.b0 1).trans rfl; have hz2 : V3.cell? ⟨w.heap.size, 2, none⟩ = some (.int .i64 a2) := (blk_cell HI.out.b0 2).trans rfl; have hz3 : V3.cell? ⟨w.heap.size, 3, none⟩ = some (.slice A l.length c) := (blk_cell HI.out.b0 3).trans rfl) | (go_at_call 49; refine (lcuts_of (Kd.C_below HQ.out HI.out.low) hq45).mono ?_; rintro e V5 ⟨R, r, rfl, hr, HR, hs⟩; have HP := Lib.hid (Kd.C_below HP.out hs); have HR := Lib.hid HR; have HI := Lib.hid (HI.out.below hs); have hz0 : V5.cell? ⟨w.heap.size, 0, none⟩ = some (.int .i64 a0) := (blk_cell HI.out.b0 0).trans rfl; have hz1 : V5.cell? ⟨w.heap.size, 1, none⟩ = some (.int .i64 a1) := (blk_cell HI.out.b0 1).trans rfl; have hz2 : V5.cell? ⟨w.heap.size, 2, none⟩ = some (.int .i64 a2) := (blk_cell HI.out.b0 2).trans rfl; have hz3 : V5.cell? ⟨w.heap.size, 3, none⟩ = some (.slice A l.length c) := (blk_cell HI.out.b0 3).trans rfl) | (go_at_call 48; refine (pieces_of HP.out hp HR.out hr HPF.out HK.out).mono ?_; rintro e V6 ⟨S, s, rfl, HS, hs⟩; have HS := Lib.hid HS; have HI := Lib.hid (HI.out.below hs); have hz0 : V6.cell? ⟨w.heap.size, 0, none⟩ = some (.int .i64 a0) := (blk_cell HI.out.b0 0).trans rfl; have hz1 : V6.cell? ⟨w.heap.size, 1, none⟩ = some (.int .i64 a1) := (blk_cell HI.out.b0 1).trans rfl; have hz2 : V6.cell? ⟨w.heap.size, 2, none⟩ = some (.int .i64 a2) := (blk_cell HI.out.b0 2).trans rfl; have hz3 : V6.cell? ⟨w.heap.size, 3, none⟩ = some (.slice A l.length c) := (blk_cell HI.out.b0 3).trans rfl) | (go_at_call 37; refine (lfault_calls a0 a1 a2 A c l _ (Kd.C_below HL.out HI.out.low) hlc).mono ?_; rintro e V7 ⟨he, hs⟩; rw [HF.out] at he; subst he; have HS := Lib.hid (Kd.C_below HS.out hs); have HI := Lib.hid (HI.out.below hs); have hz0 : V7.cell? ⟨w.heap.size, 0, none⟩ = some (.int .i64 a0) := (blk_cell HI.out.b0 0).trans rfl; have hz1 : V7.cell? ⟨w.heap.size, 1, none⟩ = some (.int .i64 a1) := (blk_cell HI.out.b0 1).trans rfl; have hz2 : V7.cell? ⟨w.heap.size, 2, none⟩ = some (.int .i64 a2) := (blk_cell HI.out.b0 2).trans rfl; have hz3 : V7.cell? ⟨w.heap.size, 3, none⟩ = some (.slice A l.length c) := (blk_cell HI.out.b0 3).trans rfl) | (go_at_call 50; refine (refPieces_calls a0 a1 a2 A l.length c B d cuts _ (Kd.C_below HQ.out HI.out.low) hqd hq45).mono ?_; rintro e V8 ⟨hs, hend⟩; rw [HST.out] at hend; have HS := Lib.hid (Kd.C_below HS.out hs); have HI := Lib.hid (HI.out.below hs); have hz0 : V8.cell? ⟨w.heap.size, 0, none⟩ = some (.int .i64 a0) := (blk_cell HI.out.b0 0).trans rfl; have hz1 : V8.cell? ⟨w.heap.size, 1, none⟩ = some (.int .i64 a1) := (blk_cell HI.out.b0 1).trans rfl; have hz2 : V8.cell? ⟨w.heap.size, 2, none⟩ = some (.int .i64 a2) := (blk_cell HI.out.b0 2).trans rfl; have hz3 : V8.cell? ⟨w.heap.size, 3, none⟩ = some (.slice A l.length c) := (blk_cell HI.out.b0 3).trans rfl; obtain rfl := hend) | (go_at_call 25; refine (wakes_calls _).mono ?_; rintro e V9 ⟨rfl, hs⟩; have HI := Lib.hid (HI.out.below hs)))
    go_ret
    exact ⟨rfl, HI.out.low⟩
  | some st =>
  rw [hst] at hpf
  obtain ⟨ps, cs⟩ := st
  have HPF : Hid (plate_Pieces.f a0 a1 a2 (l.map toW) (cuts.map toC) = some (ps.map toP, 0)) := Lib.hid hpf
  obtain ⟨k, hk⟩ : ∃ k, ps.length = k := ⟨_, rfl⟩
  have HK2 := Lib.hid hk
  have HK : Hid ((ps.map toP).length = k) := Lib.hid (by rw [List.length_map, hk])
  have HST := Lib.hid hst
  have hk2 : k ≤ 3000 := by have := (stepsR_len cuts hst rfl).2.2; simp at this; omega
  clear hf h40 hwb hdo hpf hst hk
  go_enter Try.func13, Try.ntmps13
  go_wp2_with (first | (go_at_call 24; refine (H24.out _).mono ?_; rintro e V1 ⟨rfl, hs⟩; have HI := Lib.hid (HI.out.below hs); have hz0 : V1.cell? ⟨w.heap.size, 0, none⟩ = some (.int .i64 a0) := (blk_cell HI.out.b0 0).trans rfl; have hz1 : V1.cell? ⟨w.heap.size, 1, none⟩ = some (.int .i64 a1) := (blk_cell HI.out.b0 1).trans rfl; have hz2 : V1.cell? ⟨w.heap.size, 2, none⟩ = some (.int .i64 a2) := (blk_cell HI.out.b0 2).trans rfl; have hz3 : V1.cell? ⟨w.heap.size, 3, none⟩ = some (.slice A l.length c) := (blk_cell HI.out.b0 3).trans rfl) | (go_at_call 27; refine (lplate_of (Kd.C_below HL.out HI.out.low) hl6).mono ?_; rintro e V2 ⟨P, p, rfl, hp, HP, hs⟩; have HP := Lib.hid HP; have HI := Lib.hid (HI.out.below hs); have hz0 : V2.cell? ⟨w.heap.size, 0, none⟩ = some (.int .i64 a0) := (blk_cell HI.out.b0 0).trans rfl; have hz1 : V2.cell? ⟨w.heap.size, 1, none⟩ = some (.int .i64 a1) := (blk_cell HI.out.b0 1).trans rfl; have hz2 : V2.cell? ⟨w.heap.size, 2, none⟩ = some (.int .i64 a2) := (blk_cell HI.out.b0 2).trans rfl; have hz3 : V2.cell? ⟨w.heap.size, 3, none⟩ = some (.slice A l.length c) := (blk_cell HI.out.b0 3).trans rfl) | (go_at_call 47; refine (check_of HP.out hp).mono ?_; rintro e V3 ⟨he, hs⟩; rw [HCH.out] at he; subst he; have HI := Lib.hid (HI.out.below hs); have hz0 : V3.cell? ⟨w.heap.size, 0, none⟩ = some (.int .i64 a0) := (blk_cell HI.out.b0 0).trans rfl; have hz1 : V3.cell? ⟨w.heap.size, 1, none⟩ = some (.int .i64 a1) := (blk_cell HI.out.b0 1).trans rfl; have hz2 : V3.cell? ⟨w.heap.size, 2, none⟩ = some (.int .i64 a2) := (blk_cell HI.out.b0 2).trans rfl; have hz3 : V3.cell? ⟨w.heap.size, 3, none⟩ = some (.slice A l.length c) := (blk_cell HI.out.b0 3).trans rfl) | (go_at_call 49; refine (lcuts_of (Kd.C_below HQ.out HI.out.low) hq45).mono ?_; rintro e V5 ⟨R, r, rfl, hr, HR, hs⟩; have HP := Lib.hid (Kd.C_below HP.out hs); have HR := Lib.hid HR; have HI := Lib.hid (HI.out.below hs); have hz0 : V5.cell? ⟨w.heap.size, 0, none⟩ = some (.int .i64 a0) := (blk_cell HI.out.b0 0).trans rfl; have hz1 : V5.cell? ⟨w.heap.size, 1, none⟩ = some (.int .i64 a1) := (blk_cell HI.out.b0 1).trans rfl; have hz2 : V5.cell? ⟨w.heap.size, 2, none⟩ = some (.int .i64 a2) := (blk_cell HI.out.b0 2).trans rfl; have hz3 : V5.cell? ⟨w.heap.size, 3, none⟩ = some (.slice A l.length c) := (blk_cell HI.out.b0 3).trans rfl) | (go_at_call 48; refine (pieces_of HP.out hp HR.out hr HPF.out HK.out).mono ?_; rintro e V6 ⟨S, s, rfl, HS, hs⟩; have HS := Lib.hid HS; have HI := Lib.hid (HI.out.below hs); have hz0 : V6.cell? ⟨w.heap.size, 0, none⟩ = some (.int .i64 a0) := (blk_cell HI.out.b0 0).trans rfl; have hz1 : V6.cell? ⟨w.heap.size, 1, none⟩ = some (.int .i64 a1) := (blk_cell HI.out.b0 1).trans rfl; have hz2 : V6.cell? ⟨w.heap.size, 2, none⟩ = some (.int .i64 a2) := (blk_cell HI.out.b0 2).trans rfl; have hz3 : V6.cell? ⟨w.heap.size, 3, none⟩ = some (.slice A l.length c) := (blk_cell HI.out.b0 3).trans rfl) | (go_at_call 37; refine (lfault_calls a0 a1 a2 A c l _ (Kd.C_below HL.out HI.out.low) hlc).mono ?_; rintro e V7 ⟨he, hs⟩; rw [HF.out] at he; subst he; have HS := Lib.hid (Kd.C_below HS.out hs); have HI := Lib.hid (HI.out.below hs); have hz0 : V7.cell? ⟨w.heap.size, 0, none⟩ = some (.int .i64 a0) := (blk_cell HI.out.b0 0).trans rfl; have hz1 : V7.cell? ⟨w.heap.size, 1, none⟩ = some (.int .i64 a1) := (blk_cell HI.out.b0 1).trans rfl; have hz2 : V7.cell? ⟨w.heap.size, 2, none⟩ = some (.int .i64 a2) := (blk_cell HI.out.b0 2).trans rfl; have hz3 : V7.cell? ⟨w.heap.size, 3, none⟩ = some (.slice A l.length c) := (blk_cell HI.out.b0 3).trans rfl) | (go_at_call 50; refine (refPieces_calls a0 a1 a2 A l.length c B d cuts _ (Kd.C_below HQ.out HI.out.low) hqd hq45).mono ?_; rintro e V8 ⟨hs, hend⟩; rw [HST.out] at hend; have HS := Lib.hid (Kd.C_below HS.out hs); have HI := Lib.hid (HI.out.below hs); have hz0 : V8.cell? ⟨w.heap.size, 0, none⟩ = some (.int .i64 a0) := (blk_cell HI.out.b0 0).trans rfl; have hz1 : V8.cell? ⟨w.heap.size, 1, none⟩ = some (.int .i64 a1) := (blk_cell HI.out.b0 1).trans rfl; have hz2 : V8.cell? ⟨w.heap.size, 2, none⟩ = some (.int .i64 a2) := (blk_cell HI.out.b0 2).trans rfl; have hz3 : V8.cell? ⟨w.heap.size, 3, none⟩ = some (.slice A l.length c) := (blk_cell HI.out.b0 3).trans rfl; obtain ⟨v1, v2, rfl, ow1, ow2⟩ := hend; rw [HK2.out] at ow1; obtain ⟨A1, c1, rfl⟩ := own_form ow1; have HX := Lib.hid (own_C88 ow1 HK2.out).2))
  go_loopw [11] (fun v wr => ∃ j : Nat, v = .int .i64 j ∧ j ≤ k ∧ Hid (LI w a0 a1 a2 (.slice A l.length c) wr) ∧ Hid (Kd.C k103 wr S k (ps.map toP)) ∧ Hid (Kd.C k88 wr A1 k ps)) (fun v _ => k - (intOf v).toNat)
  case atStart => exact ⟨0, rfl, Nat.zero_le _, HI, HS, HX⟩
  case round =>
  clear HI HS HX hz0 hz1 hz2 hz3
  obtain ⟨j, rfl, hj, HI, HS, HX⟩ := hrel
  by_cases hlt : j < k
  rotate_left
  · go_wp2_with (go_at_call 25; refine (wakes_calls _).mono ?_; rintro e V9 ⟨rfl, hs⟩; have HI := Lib.hid (HI.out.below hs))
    go_ret
    exact ⟨rfl, HI.out.low⟩
  have hj0 : (0 : Int) ≤ (j : Int) := by omega
  have hj1 : (j : Int) < (k : Int) := by omega
  obtain ⟨ad1, rfl, hp0, hp1, hp2, hp3⟩ := at_T103 HS.out (j : Int) hj0 hj1
  obtain ⟨ad2, rfl, hq0, hq1, hq2, hq3⟩ := at_T88 HX.out (j : Int) hj0 hj1
  have hpq : rd_T103 (ps.map toP) (j : Int) = toP (rd_T88 ps (j : Int)) := rd_toP ps j
  rw [hpq] at hp0 hp1 hp2 hp3
  simp only [Int.toNat_natCast, toP] at hp0 hp1 hp2 hp3 hq0 hq1 hq2 hq3
  generalize rd_T88 ps (j : Int) = x at hp0 hp1 hp2 hp3 hq0 hq1 hq2 hq3
  clear hpq
  have HB0 : Below wr.heap.size wr wr.drew := below_drew1 (Below.refl _ _)
  have HI2 := Lib.hid (HI.out.below HB0)
  have HS2 := Lib.hid (Kd.C_below HS.out HB0)
  have HX2 := Lib.hid (Kd.C_below HX.out HB0)
  clear HI HS HX HB0
  go_wp2
  refine start_ (n := 50) (S := fun w' => w'.cell? (ad1.add (j * 4)) = some (.int .i64 x.f0) ∧ w'.cell? ⟨(ad1.add (j * 4)).block, (ad1.add (j * 4)).off + 1, none⟩ = some (.int .i64 x.f1) ∧ w'.cell? ⟨(ad1.add (j * 4)).block, (ad1.add (j * 4)).off + 2, none⟩ = some (.int .i64 x.f2) ∧ w'.cell? ⟨(ad1.add (j * 4)).block, (ad1.add (j * 4)).off + 3, none⟩ = some (.int .i64 x.f3) ∧ w'.cell? (ad2.add (j * 4)) = some (.int .i64 x.f0) ∧ w'.cell? ⟨(ad2.add (j * 4)).block, (ad2.add (j * 4)).off + 1, none⟩ = some (.int .i64 x.f1) ∧ w'.cell? ⟨(ad2.add (j * 4)).block, (ad2.add (j * 4)).off + 2, none⟩ = some (.int .i64 x.f2) ∧ w'.cell? ⟨(ad2.add (j * 4)).block, (ad2.add (j * 4)).off + 3, none⟩ = some (.int .i64 x.f3)) (ds := []) #[false, false, false, false, false, false, false, false, false, false, false, false, false, false, false, false, false, false, false, false, false, false, false, false, false, false, false, false, false, false, false, false, false, false, false, false, false, false, false, false, false, false, false, false, false, false, false, false, false, false] (by kernel_rfl) rfl rfl ⟨hp0, hp1, hp2, hp3, hq0, hq1, hq2, hq3⟩ (fun hHeld => ?_)
  refine pure_ (i := 0) (N := some 80) (v := ?_) (a' := ?_) #[true, false, false, false, false, false, false, false, false, false, false, false, false, false, false, false, false, false, false, false, false, false, false, false, false, false, false, false, false, false, false, false, false, false, false, false, false, false, false, false, false, false, false, false, false, false, false, false, false, false] rfl rfl (by kernel_rfl) (fun _ _ _ h => h) (Or.inl ⟨by rfl, ?_⟩) ?_ ?_
  rotate_left
  · intro w'
    go_simp
    with_reducible rfl
  rotate_left
  · simp only [Act.put, List.setIfInBounds_toArray, List.set_cons_zero, List.set_cons_succ, i64_w, i32_w]
    rfl
  refine pure_ (i := 1) (N := some 81) (v := ?_) (a' := ?_) #[true, true, false, false, false, false, false, false, false, false, false, false, false, false, false, false, false, false, false, false, false, false, false, false, false, false, false, false, false, false, false, false, false, false, false, false, false, false, false, false, false, false, false, false, false, false, false, false, false, false] rfl rfl (by kernel_rfl) (fun _ _ _ h => h) (Or.inl ⟨by rfl, ?_⟩) ?_ ?_
  rotate_left
  · intro w'
    go_simp
    with_reducible rfl
  rotate_left
  · simp only [Act.put, List.setIfInBounds_toArray, List.set_cons_zero, List.set_cons_succ, i64_w, i32_w]
    rfl
  refine pure_ (i := 2) (N := some 82) (v := ?_) (a' := ?_) #[true, true, true, false, false, false, false, false, false, false, false, false, false, false, false, false, false, false, false, false, false, false, false, false, false, false, false, false, false, false, false, false, false, false, false, false, false, false, false, false, false, false, false, false, false, false, false, false, false, false] rfl rfl (by kernel_rfl) (fun _ _ _ h => h) (Or.inl ⟨by rfl, ?_⟩) ?_ ?_
  rotate_left
  · intro w'
    go_simp
    with_reducible rfl
  rotate_left
  · simp only [Act.put, List.setIfInBounds_toArray, List.set_cons_zero, List.set_cons_succ, i64_w, i32_w]
    rfl
  refine pure_ (i := 3) (N := some 83) (v := ?_) (a' := ?_) #[true, true, true, true, false, false, false, false, false, false, false, false, false, false, false, false, false, false, false, false, false, false, false, false, false, false, false, false, false, false, false, false, false, false, false, false, false, false, false, false, false, false, false, false, false, false, false, false, false, false] rfl rfl (by kernel_rfl) (fun _ _ _ h => h) (Or.inl ⟨by rfl, ?_⟩) ?_ ?_
  rotate_left
  · intro w'
    go_simp
    with_reducible rfl
  rotate_left
  · simp only [Act.put, List.setIfInBounds_toArray, List.set_cons_zero, List.set_cons_succ, i64_w, i32_w]
    rfl
  refine pure_ (i := 5) (N := some 85) (v := ?_) (a' := ?_) #[true, true, true, true, false, true, false, false, false, false, false, false, false, false, false, false, false, false, false, false, false, false, false, false, false, false, false, false, false, false, false, false, false, false, false, false, false, false, false, false, false, false, false, false, false, false, false, false, false, false] rfl rfl (by kernel_rfl) (fun _ _ _ h => h) (Or.inl ⟨by rfl, ?_⟩) ?_ ?_
  rotate_left
  · intro w'
    go_simp
    with_reducible rfl
  rotate_left
  · simp only [Act.put, List.setIfInBounds_toArray, List.set_cons_zero, List.set_cons_succ, i64_w, i32_w]
    rfl
  refine pure_ (i := 6) (N := some 86) (v := ?_) (a' := ?_) #[true, true, true, true, false, true, true, false, false, false, false, false, false, false, false, false, false, false, false, false, false, false, false, false, false, false, false, false, false, false, false, false, false, false, false, false, false, false, false, false, false, false, false, false, false, false, false, false, false, false] rfl rfl (by kernel_rfl) (fun _ _ _ h => h) (Or.inl ⟨by rfl, ?_⟩) ?_ ?_
  rotate_left
  · intro w'
    go_simp
    with_reducible rfl
  rotate_left
  · simp only [Act.put, List.setIfInBounds_toArray, List.set_cons_zero, List.set_cons_succ, i64_w, i32_w]
    rfl
  refine pure_ (i := 7) (N := some 87) (v := ?_) (a' := ?_) #[true, true, true, true, false, true, true, true, false, false, false, false, false, false, false, false, false, false, false, false, false, false, false, false, false, false, false, false, false, false, false, false, false, false, false, false, false, false, false, false, false, false, false, false, false, false, false, false, false, false] rfl rfl (by kernel_rfl) (fun _ _ _ h => h) (Or.inl ⟨by rfl, ?_⟩) ?_ ?_
  rotate_left
  · intro w'
    go_simp
    with_reducible rfl
  rotate_left
  · simp only [Act.put, List.setIfInBounds_toArray, List.set_cons_zero, List.set_cons_succ, i64_w, i32_w]
    rfl
  refine pure_ (i := 8) (N := some 88) (v := ?_) (a' := ?_) #[true, true, true, true, false, true, true, true, true, false, false, false, false, false, false, false, false, false, false, false, false, false, false, false, false, false, false, false, false, false, false, false, false, false, false, false, false, false, false, false, false, false, false, false, false, false, false, false, false, false] rfl rfl (by kernel_rfl) (fun _ _ _ h => h) (Or.inl ⟨by rfl, ?_⟩) ?_ ?_
  rotate_left
  · intro w'
    go_simp
    with_reducible rfl
  rotate_left
  · simp only [Act.put, List.setIfInBounds_toArray, List.set_cons_zero, List.set_cons_succ, i64_w, i32_w]
    rfl
  refine take_ (i := 4) (N := some 84) (v := ?_) (a' := ?_) #[true, true, true, true, true, true, true, true, true, false, false, false, false, false, false, false, false, false, false, false, false, false, false, false, false, false, false, false, false, false, false, false, false, false, false, false, false, false, false, false, false, false, false, false, false, false, false, false, false, false] rfl rfl (by kernel_rfl) (fun _ _ _ h => h) (Or.inl ⟨by rfl, ?_⟩) hHeld ?_ ?_
  rotate_left
  · rintro w' ⟨s0, s1, s2, s3, s4, s5, s6, s7⟩
    go_simp
    with_reducible rfl
  rotate_left
  · simp only [Act.put, List.setIfInBounds_toArray, List.set_cons_zero, List.set_cons_succ, i64_w, i32_w]
    rfl
  refine take_ (i := 9) (N := some 89) (v := ?_) (a' := ?_) #[true, true, true, true, true, true, true, true, true, true, false, false, false, false, false, false, false, false, false, false, false, false, false, false, false, false, false, false, false, false, false, false, false, false, false, false, false, false, false, false, false, false, false, false, false, false, false, false, false, false] rfl rfl (by kernel_rfl) (fun _ _ _ h => h) (Or.inl ⟨by rfl, ?_⟩) hHeld ?_ ?_
  rotate_left
  · rintro w' ⟨s0, s1, s2, s3, s4, s5, s6, s7⟩
    go_simp
    with_reducible rfl
  rotate_left
  · simp only [Act.put, List.setIfInBounds_toArray, List.set_cons_zero, List.set_cons_succ, i64_w, i32_w]
    rfl
  refine pure_ (i := 10) (N := some 90) (v := ?_) (a' := ?_) #[true, true, true, true, true, true, true, true, true, true, true, false, false, false, false, false, false, false, false, false, false, false, false, false, false, false, false, false, false, false, false, false, false, false, false, false, false, false, false, false, false, false, false, false, false, false, false, false, false, false] rfl rfl (by kernel_rfl) (fun _ _ _ h => h) (Or.inl ⟨by rfl, ?_⟩) ?_ ?_
  rotate_left
  · intro w'
    go_simp
    with_reducible rfl
  rotate_left
  · simp only [Act.put, List.setIfInBounds_toArray, List.set_cons_zero, List.set_cons_succ, i64_w, i32_w]
    rfl
  refine pure_ (i := 11) (N := some 91) (v := ?_) (a' := ?_) #[true, true, true, true, true, true, true, true, true, true, true, true, false, false, false, false, false, false, false, false, false, false, false, false, false, false, false, false, false, false, false, false, false, false, false, false, false, false, false, false, false, false, false, false, false, false, false, false, false, false] rfl rfl (by kernel_rfl) (fun _ _ _ h => h) (Or.inl ⟨by rfl, ?_⟩) ?_ ?_
  rotate_left
  · intro w'
    go_simp
    with_reducible rfl
  rotate_left
  · simp only [Act.put, List.setIfInBounds_toArray, List.set_cons_zero, List.set_cons_succ, i64_w, i32_w]
    rfl
  refine pure_ (i := 12) (N := some 92) (v := ?_) (a' := ?_) #[true, true, true, true, true, true, true, true, true, true, true, true, true, false, false, false, false, false, false, false, false, false, false, false, false, false, false, false, false, false, false, false, false, false, false, false, false, false, false, false, false, false, false, false, false, false, false, false, false, false] rfl rfl (by kernel_rfl) (fun _ _ _ h => h) (Or.inl ⟨by rfl, ?_⟩) ?_ ?_
  rotate_left
  · intro w'
    go_simp
    with_reducible rfl
  rotate_left
  · simp only [Act.put, List.setIfInBounds_toArray, List.set_cons_zero, List.set_cons_succ, i64_w, i32_w]
    rfl
  refine pure_ (i := 13) (N := some 93) (v := ?_) (a' := ?_) #[true, true, true, true, true, true, true, true, true, true, true, true, true, true, false, false, false, false, false, false, false, false, false, false, false, false, false, false, false, false, false, false, false, false, false, false, false, false, false, false, false, false, false, false, false, false, false, false, false, false] rfl rfl (by kernel_rfl) (fun _ _ _ h => h) (Or.inl ⟨by rfl, ?_⟩) ?_ ?_
  rotate_left
  · intro w'
    go_simp
    with_reducible rfl
  rotate_left
  · simp only [Act.put, List.setIfInBounds_toArray, List.set_cons_zero, List.set_cons_succ, i64_w, i32_w]
    rfl
  refine pure_ (i := 14) (N := some 94) (v := ?_) (a' := ?_) #[true, true, true, true, true, true, true, true, true, true, true, true, true, true, true, false, false, false, false, false, false, false, false, false, false, false, false, false, false, false, false, false, false, false, false, false, false, false, false, false, false, false, false, false, false, false, false, false, false, false] rfl rfl (by kernel_rfl) (fun _ _ _ h => h) (Or.inl ⟨by rfl, ?_⟩) ?_ ?_
  rotate_left
  · intro w'
    go_simp
    with_reducible rfl
  rotate_left
  · simp only [Act.put, List.setIfInBounds_toArray, List.set_cons_zero, List.set_cons_succ, i64_w, i32_w]
    rfl
  refine pure_ (i := 15) (N := some 95) (v := ?_) (a' := ?_) #[true, true, true, true, true, true, true, true, true, true, true, true, true, true, true, true, false, false, false, false, false, false, false, false, false, false, false, false, false, false, false, false, false, false, false, false, false, false, false, false, false, false, false, false, false, false, false, false, false, false] rfl rfl (by kernel_rfl) (fun _ _ _ h => h) (Or.inl ⟨by rfl, ?_⟩) ?_ ?_
  rotate_left
  · intro w'
    go_simp
    with_reducible rfl
  rotate_left
  · simp only [Act.put, List.setIfInBounds_toArray, List.set_cons_zero, List.set_cons_succ, i64_w, i32_w]
    rfl
  refine pure_ (i := 17) (N := some 97) (v := ?_) (a' := ?_) #[true, true, true, true, true, true, true, true, true, true, true, true, true, true, true, true, false, true, false, false, false, false, false, false, false, false, false, false, false, false, false, false, false, false, false, false, false, false, false, false, false, false, false, false, false, false, false, false, false, false] rfl rfl (by kernel_rfl) (fun _ _ _ h => h) (Or.inl ⟨by rfl, ?_⟩) ?_ ?_
  rotate_left
  · intro w'
    go_simp
    with_reducible rfl
  rotate_left
  · simp only [Act.put, List.setIfInBounds_toArray, List.set_cons_zero, List.set_cons_succ, i64_w, i32_w]
    rfl
  refine pure_ (i := 18) (N := some 98) (v := ?_) (a' := ?_) #[true, true, true, true, true, true, true, true, true, true, true, true, true, true, true, true, false, true, true, false, false, false, false, false, false, false, false, false, false, false, false, false, false, false, false, false, false, false, false, false, false, false, false, false, false, false, false, false, false, false] rfl rfl (by kernel_rfl) (fun _ _ _ h => h) (Or.inl ⟨by rfl, ?_⟩) ?_ ?_
  rotate_left
  · intro w'
    go_simp
    with_reducible rfl
  rotate_left
  · simp only [Act.put, List.setIfInBounds_toArray, List.set_cons_zero, List.set_cons_succ, i64_w, i32_w]
    rfl
  refine pure_ (i := 19) (N := some 99) (v := ?_) (a' := ?_) #[true, true, true, true, true, true, true, true, true, true, true, true, true, true, true, true, false, true, true, true, false, false, false, false, false, false, false, false, false, false, false, false, false, false, false, false, false, false, false, false, false, false, false, false, false, false, false, false, false, false] rfl rfl (by kernel_rfl) (fun _ _ _ h => h) (Or.inl ⟨by rfl, ?_⟩) ?_ ?_
  rotate_left
  · intro w'
    go_simp
    with_reducible rfl
  rotate_left
  · simp only [Act.put, List.setIfInBounds_toArray, List.set_cons_zero, List.set_cons_succ, i64_w, i32_w]
    rfl
  refine pure_ (i := 20) (N := some 100) (v := ?_) (a' := ?_) #[true, true, true, true, true, true, true, true, true, true, true, true, true, true, true, true, false, true, true, true, true, false, false, false, false, false, false, false, false, false, false, false, false, false, false, false, false, false, false, false, false, false, false, false, false, false, false, false, false, false] rfl rfl (by kernel_rfl) (fun _ _ _ h => h) (Or.inl ⟨by rfl, ?_⟩) ?_ ?_
  rotate_left
  · intro w'
    go_simp
    with_reducible rfl
  rotate_left
  · simp only [Act.put, List.setIfInBounds_toArray, List.set_cons_zero, List.set_cons_succ, i64_w, i32_w]
    rfl
  refine take_ (i := 16) (N := some 96) (v := ?_) (a' := ?_) #[true, true, true, true, true, true, true, true, true, true, true, true, true, true, true, true, true, true, true, true, true, false, false, false, false, false, false, false, false, false, false, false, false, false, false, false, false, false, false, false, false, false, false, false, false, false, false, false, false, false] rfl rfl (by kernel_rfl) (fun _ _ _ h => h) (Or.inl ⟨by rfl, ?_⟩) hHeld ?_ ?_
  rotate_left
  · rintro w' ⟨s0, s1, s2, s3, s4, s5, s6, s7⟩
    go_simp
    with_reducible rfl
  rotate_left
  · simp only [Act.put, List.setIfInBounds_toArray, List.set_cons_zero, List.set_cons_succ, i64_w, i32_w]
    rfl
  refine take_ (i := 21) (N := some 101) (v := ?_) (a' := ?_) #[true, true, true, true, true, true, true, true, true, true, true, true, true, true, true, true, true, true, true, true, true, true, false, false, false, false, false, false, false, false, false, false, false, false, false, false, false, false, false, false, false, false, false, false, false, false, false, false, false, false] rfl rfl (by kernel_rfl) (fun _ _ _ h => h) (Or.inl ⟨by rfl, ?_⟩) hHeld ?_ ?_
  rotate_left
  · rintro w' ⟨s0, s1, s2, s3, s4, s5, s6, s7⟩
    go_simp
    with_reducible rfl
  rotate_left
  · simp only [Act.put, List.setIfInBounds_toArray, List.set_cons_zero, List.set_cons_succ, i64_w, i32_w]
    rfl
  refine pure_ (i := 22) (N := some 102) (v := ?_) (a' := ?_) #[true, true, true, true, true, true, true, true, true, true, true, true, true, true, true, true, true, true, true, true, true, true, true, false, false, false, false, false, false, false, false, false, false, false, false, false, false, false, false, false, false, false, false, false, false, false, false, false, false, false] rfl rfl (by kernel_rfl) (fun _ _ _ h => h) (Or.inl ⟨by rfl, ?_⟩) ?_ ?_
  rotate_left
  · intro w'
    go_simp
    with_reducible rfl
  rotate_left
  · simp only [Act.put, List.setIfInBounds_toArray, List.set_cons_zero, List.set_cons_succ, i64_w, i32_w]
    rfl
  refine pure_ (i := 23) (N := some 103) (v := ?_) (a' := ?_) #[true, true, true, true, true, true, true, true, true, true, true, true, true, true, true, true, true, true, true, true, true, true, true, true, false, false, false, false, false, false, false, false, false, false, false, false, false, false, false, false, false, false, false, false, false, false, false, false, false, false] rfl rfl (by kernel_rfl) (fun _ _ _ h => h) (Or.inl ⟨by rfl, ?_⟩) ?_ ?_
  rotate_left
  · intro w'
    go_simp
    with_reducible rfl
  rotate_left
  · simp only [Act.put, List.setIfInBounds_toArray, List.set_cons_zero, List.set_cons_succ, i64_w, i32_w]
    rfl
  refine pure_ (i := 24) (N := some 104) (v := ?_) (a' := ?_) #[true, true, true, true, true, true, true, true, true, true, true, true, true, true, true, true, true, true, true, true, true, true, true, true, true, false, false, false, false, false, false, false, false, false, false, false, false, false, false, false, false, false, false, false, false, false, false, false, false, false] rfl rfl (by kernel_rfl) (fun _ _ _ h => h) (Or.inl ⟨by rfl, ?_⟩) ?_ ?_
  rotate_left
  · intro w'
    go_simp
    with_reducible rfl
  rotate_left
  · simp only [Act.put, List.setIfInBounds_toArray, List.set_cons_zero, List.set_cons_succ, i64_w, i32_w]
    rfl
  refine pure_ (i := 25) (N := some 105) (v := ?_) (a' := ?_) #[true, true, true, true, true, true, true, true, true, true, true, true, true, true, true, true, true, true, true, true, true, true, true, true, true, true, false, false, false, false, false, false, false, false, false, false, false, false, false, false, false, false, false, false, false, false, false, false, false, false] rfl rfl (by kernel_rfl) (fun _ _ _ h => h) (Or.inl ⟨by rfl, ?_⟩) ?_ ?_
  rotate_left
  · intro w'
    go_simp
    with_reducible rfl
  rotate_left
  · simp only [Act.put, List.setIfInBounds_toArray, List.set_cons_zero, List.set_cons_succ, i64_w, i32_w]
    rfl
  refine pure_ (i := 26) (N := some 106) (v := ?_) (a' := ?_) #[true, true, true, true, true, true, true, true, true, true, true, true, true, true, true, true, true, true, true, true, true, true, true, true, true, true, true, false, false, false, false, false, false, false, false, false, false, false, false, false, false, false, false, false, false, false, false, false, false, false] rfl rfl (by kernel_rfl) (fun _ _ _ h => h) (Or.inl ⟨by rfl, ?_⟩) ?_ ?_
  rotate_left
  · intro w'
    go_simp
    with_reducible rfl
  rotate_left
  · simp only [Act.put, List.setIfInBounds_toArray, List.set_cons_zero, List.set_cons_succ, i64_w, i32_w]
    rfl
  refine pure_ (i := 27) (N := some 107) (v := ?_) (a' := ?_) #[true, true, true, true, true, true, true, true, true, true, true, true, true, true, true, true, true, true, true, true, true, true, true, true, true, true, true, true, false, false, false, false, false, false, false, false, false, false, false, false, false, false, false, false, false, false, false, false, false, false] rfl rfl (by kernel_rfl) (fun _ _ _ h => h) (Or.inl ⟨by rfl, ?_⟩) ?_ ?_
  rotate_left
  · intro w'
    go_simp
    with_reducible rfl
  rotate_left
  · simp only [Act.put, List.setIfInBounds_toArray, List.set_cons_zero, List.set_cons_succ, i64_w, i32_w]
    rfl
  refine pure_ (i := 28) (N := some 108) (v := ?_) (a' := ?_) #[true, true, true, true, true, true, true, true, true, true, true, true, true, true, true, true, true, true, true, true, true, true, true, true, true, true, true, true, true, false, false, false, false, false, false, false, false, false, false, false, false, false, false, false, false, false, false, false, false, false] rfl rfl (by kernel_rfl) (fun _ _ _ h => h) (Or.inl ⟨by rfl, ?_⟩) ?_ ?_
  rotate_left
  · intro w'
    go_simp
    with_reducible rfl
  rotate_left
  · simp only [Act.put, List.setIfInBounds_toArray, List.set_cons_zero, List.set_cons_succ, i64_w, i32_w]
    rfl
  refine pure_ (i := 30) (N := some 110) (v := ?_) (a' := ?_) #[true, true, true, true, true, true, true, true, true, true, true, true, true, true, true, true, true, true, true, true, true, true, true, true, true, true, true, true, true, false, true, false, false, false, false, false, false, false, false, false, false, false, false, false, false, false, false, false, false, false] rfl rfl (by kernel_rfl) (fun _ _ _ h => h) (Or.inl ⟨by rfl, ?_⟩) ?_ ?_
  rotate_left
  · intro w'
    go_simp
    with_reducible rfl
  rotate_left
  · simp only [Act.put, List.setIfInBounds_toArray, List.set_cons_zero, List.set_cons_succ, i64_w, i32_w]
    rfl
  refine pure_ (i := 31) (N := some 111) (v := ?_) (a' := ?_) #[true, true, true, true, true, true, true, true, true, true, true, true, true, true, true, true, true, true, true, true, true, true, true, true, true, true, true, true, true, false, true, true, false, false, false, false, false, false, false, false, false, false, false, false, false, false, false, false, false, false] rfl rfl (by kernel_rfl) (fun _ _ _ h => h) (Or.inl ⟨by rfl, ?_⟩) ?_ ?_
  rotate_left
  · intro w'
    go_simp
    with_reducible rfl
  rotate_left
  · simp only [Act.put, List.setIfInBounds_toArray, List.set_cons_zero, List.set_cons_succ, i64_w, i32_w]
    rfl
  refine pure_ (i := 32) (N := some 112) (v := ?_) (a' := ?_) #[true, true, true, true, true, true, true, true, true, true, true, true, true, true, true, true, true, true, true, true, true, true, true, true, true, true, true, true, true, false, true, true, true, false, false, false, false, false, false, false, false, false, false, false, false, false, false, false, false, false] rfl rfl (by kernel_rfl) (fun _ _ _ h => h) (Or.inl ⟨by rfl, ?_⟩) ?_ ?_
  rotate_left
  · intro w'
    go_simp
    with_reducible rfl
  rotate_left
  · simp only [Act.put, List.setIfInBounds_toArray, List.set_cons_zero, List.set_cons_succ, i64_w, i32_w]
    rfl
  refine pure_ (i := 33) (N := some 113) (v := ?_) (a' := ?_) #[true, true, true, true, true, true, true, true, true, true, true, true, true, true, true, true, true, true, true, true, true, true, true, true, true, true, true, true, true, false, true, true, true, true, false, false, false, false, false, false, false, false, false, false, false, false, false, false, false, false] rfl rfl (by kernel_rfl) (fun _ _ _ h => h) (Or.inl ⟨by rfl, ?_⟩) ?_ ?_
  rotate_left
  · intro w'
    go_simp
    with_reducible rfl
  rotate_left
  · simp only [Act.put, List.setIfInBounds_toArray, List.set_cons_zero, List.set_cons_succ, i64_w, i32_w]
    rfl
  refine take_ (i := 29) (N := some 109) (v := ?_) (a' := ?_) #[true, true, true, true, true, true, true, true, true, true, true, true, true, true, true, true, true, true, true, true, true, true, true, true, true, true, true, true, true, true, true, true, true, true, false, false, false, false, false, false, false, false, false, false, false, false, false, false, false, false] rfl rfl (by kernel_rfl) (fun _ _ _ h => h) (Or.inl ⟨by rfl, ?_⟩) hHeld ?_ ?_
  rotate_left
  · rintro w' ⟨s0, s1, s2, s3, s4, s5, s6, s7⟩
    go_simp
    with_reducible rfl
  rotate_left
  · simp only [Act.put, List.setIfInBounds_toArray, List.set_cons_zero, List.set_cons_succ, i64_w, i32_w]
    rfl
  refine take_ (i := 34) (N := some 114) (v := ?_) (a' := ?_) #[true, true, true, true, true, true, true, true, true, true, true, true, true, true, true, true, true, true, true, true, true, true, true, true, true, true, true, true, true, true, true, true, true, true, true, false, false, false, false, false, false, false, false, false, false, false, false, false, false, false] rfl rfl (by kernel_rfl) (fun _ _ _ h => h) (Or.inl ⟨by rfl, ?_⟩) hHeld ?_ ?_
  rotate_left
  · rintro w' ⟨s0, s1, s2, s3, s4, s5, s6, s7⟩
    go_simp
    with_reducible rfl
  rotate_left
  · simp only [Act.put, List.setIfInBounds_toArray, List.set_cons_zero, List.set_cons_succ, i64_w, i32_w]
    rfl
  refine pure_ (i := 35) (N := some 115) (v := ?_) (a' := ?_) #[true, true, true, true, true, true, true, true, true, true, true, true, true, true, true, true, true, true, true, true, true, true, true, true, true, true, true, true, true, true, true, true, true, true, true, true, false, false, false, false, false, false, false, false, false, false, false, false, false, false] rfl rfl (by kernel_rfl) (fun _ _ _ h => h) (Or.inl ⟨by rfl, ?_⟩) ?_ ?_
  rotate_left
  · intro w'
    go_simp
    with_reducible rfl
  rotate_left
  · simp only [Act.put, List.setIfInBounds_toArray, List.set_cons_zero, List.set_cons_succ, i64_w, i32_w]
    rfl
  refine pure_ (i := 36) (N := some 116) (v := ?_) (a' := ?_) #[true, true, true, true, true, true, true, true, true, true, true, true, true, true, true, true, true, true, true, true, true, true, true, true, true, true, true, true, true, true, true, true, true, true, true, true, true, false, false, false, false, false, false, false, false, false, false, false, false, false] rfl rfl (by kernel_rfl) (fun _ _ _ h => h) (Or.inl ⟨by rfl, ?_⟩) ?_ ?_
  rotate_left
  · intro w'
    go_simp
    with_reducible rfl
  rotate_left
  · simp only [Act.put, List.setIfInBounds_toArray, List.set_cons_zero, List.set_cons_succ, i64_w, i32_w]
    rfl
  refine pure_ (i := 37) (N := some 117) (v := ?_) (a' := ?_) #[true, true, true, true, true, true, true, true, true, true, true, true, true, true, true, true, true, true, true, true, true, true, true, true, true, true, true, true, true, true, true, true, true, true, true, true, true, true, false, false, false, false, false, false, false, false, false, false, false, false] rfl rfl (by kernel_rfl) (fun _ _ _ h => h) (Or.inl ⟨by rfl, ?_⟩) ?_ ?_
  rotate_left
  · intro w'
    go_simp
    with_reducible rfl
  rotate_left
  · simp only [Act.put, List.setIfInBounds_toArray, List.set_cons_zero, List.set_cons_succ, i64_w, i32_w]
    rfl
  refine pure_ (i := 38) (N := some 118) (v := ?_) (a' := ?_) #[true, true, true, true, true, true, true, true, true, true, true, true, true, true, true, true, true, true, true, true, true, true, true, true, true, true, true, true, true, true, true, true, true, true, true, true, true, true, true, false, false, false, false, false, false, false, false, false, false, false] rfl rfl (by kernel_rfl) (fun _ _ _ h => h) (Or.inl ⟨by rfl, ?_⟩) ?_ ?_
  rotate_left
  · intro w'
    go_simp
    with_reducible rfl
  rotate_left
  · simp only [Act.put, List.setIfInBounds_toArray, List.set_cons_zero, List.set_cons_succ, i64_w, i32_w]
    rfl
  refine pure_ (i := 39) (N := some 119) (v := ?_) (a' := ?_) #[true, true, true, true, true, true, true, true, true, true, true, true, true, true, true, true, true, true, true, true, true, true, true, true, true, true, true, true, true, true, true, true, true, true, true, true, true, true, true, true, false, false, false, false, false, false, false, false, false, false] rfl rfl (by kernel_rfl) (fun _ _ _ h => h) (Or.inl ⟨by rfl, ?_⟩) ?_ ?_
  rotate_left
  · intro w'
    go_simp
    with_reducible rfl
  rotate_left
  · simp only [Act.put, List.setIfInBounds_toArray, List.set_cons_zero, List.set_cons_succ, i64_w, i32_w]
    rfl
  refine pure_ (i := 40) (N := some 120) (v := ?_) (a' := ?_) #[true, true, true, true, true, true, true, true, true, true, true, true, true, true, true, true, true, true, true, true, true, true, true, true, true, true, true, true, true, true, true, true, true, true, true, true, true, true, true, true, true, false, false, false, false, false, false, false, false, false] rfl rfl (by kernel_rfl) (fun _ _ _ h => h) (Or.inl ⟨by rfl, ?_⟩) ?_ ?_
  rotate_left
  · intro w'
    go_simp
    with_reducible rfl
  rotate_left
  · simp only [Act.put, List.setIfInBounds_toArray, List.set_cons_zero, List.set_cons_succ, i64_w, i32_w]
    rfl
  refine pure_ (i := 41) (N := some 121) (v := ?_) (a' := ?_) #[true, true, true, true, true, true, true, true, true, true, true, true, true, true, true, true, true, true, true, true, true, true, true, true, true, true, true, true, true, true, true, true, true, true, true, true, true, true, true, true, true, true, false, false, false, false, false, false, false, false] rfl rfl (by kernel_rfl) (fun _ _ _ h => h) (Or.inl ⟨by rfl, ?_⟩) ?_ ?_
  rotate_left
  · intro w'
    go_simp
    with_reducible rfl
  rotate_left
  · simp only [Act.put, List.setIfInBounds_toArray, List.set_cons_zero, List.set_cons_succ, i64_w, i32_w]
    rfl
  refine pure_ (i := 43) (N := some 123) (v := ?_) (a' := ?_) #[true, true, true, true, true, true, true, true, true, true, true, true, true, true, true, true, true, true, true, true, true, true, true, true, true, true, true, true, true, true, true, true, true, true, true, true, true, true, true, true, true, true, false, true, false, false, false, false, false, false] rfl rfl (by kernel_rfl) (fun _ _ _ h => h) (Or.inl ⟨by rfl, ?_⟩) ?_ ?_
  rotate_left
  · intro w'
    go_simp
    with_reducible rfl
  rotate_left
  · simp only [Act.put, List.setIfInBounds_toArray, List.set_cons_zero, List.set_cons_succ, i64_w, i32_w]
    rfl
  refine pure_ (i := 44) (N := some 124) (v := ?_) (a' := ?_) #[true, true, true, true, true, true, true, true, true, true, true, true, true, true, true, true, true, true, true, true, true, true, true, true, true, true, true, true, true, true, true, true, true, true, true, true, true, true, true, true, true, true, false, true, true, false, false, false, false, false] rfl rfl (by kernel_rfl) (fun _ _ _ h => h) (Or.inl ⟨by rfl, ?_⟩) ?_ ?_
  rotate_left
  · intro w'
    go_simp
    with_reducible rfl
  rotate_left
  · simp only [Act.put, List.setIfInBounds_toArray, List.set_cons_zero, List.set_cons_succ, i64_w, i32_w]
    rfl
  refine pure_ (i := 45) (N := some 125) (v := ?_) (a' := ?_) #[true, true, true, true, true, true, true, true, true, true, true, true, true, true, true, true, true, true, true, true, true, true, true, true, true, true, true, true, true, true, true, true, true, true, true, true, true, true, true, true, true, true, false, true, true, true, false, false, false, false] rfl rfl (by kernel_rfl) (fun _ _ _ h => h) (Or.inl ⟨by rfl, ?_⟩) ?_ ?_
  rotate_left
  · intro w'
    go_simp
    with_reducible rfl
  rotate_left
  · simp only [Act.put, List.setIfInBounds_toArray, List.set_cons_zero, List.set_cons_succ, i64_w, i32_w]
    rfl
  refine pure_ (i := 46) (N := some 126) (v := ?_) (a' := ?_) #[true, true, true, true, true, true, true, true, true, true, true, true, true, true, true, true, true, true, true, true, true, true, true, true, true, true, true, true, true, true, true, true, true, true, true, true, true, true, true, true, true, true, false, true, true, true, true, false, false, false] rfl rfl (by kernel_rfl) (fun _ _ _ h => h) (Or.inl ⟨by rfl, ?_⟩) ?_ ?_
  rotate_left
  · intro w'
    go_simp
    with_reducible rfl
  rotate_left
  · simp only [Act.put, List.setIfInBounds_toArray, List.set_cons_zero, List.set_cons_succ, i64_w, i32_w]
    rfl
  refine take_ (i := 42) (N := some 122) (v := ?_) (a' := ?_) #[true, true, true, true, true, true, true, true, true, true, true, true, true, true, true, true, true, true, true, true, true, true, true, true, true, true, true, true, true, true, true, true, true, true, true, true, true, true, true, true, true, true, true, true, true, true, true, false, false, false] rfl rfl (by kernel_rfl) (fun _ _ _ h => h) (Or.inl ⟨by rfl, ?_⟩) hHeld ?_ ?_
  rotate_left
  · rintro w' ⟨s0, s1, s2, s3, s4, s5, s6, s7⟩
    go_simp
    with_reducible rfl
  rotate_left
  · simp only [Act.put, List.setIfInBounds_toArray, List.set_cons_zero, List.set_cons_succ, i64_w, i32_w]
    rfl
  refine take_ (i := 47) (N := some 127) (v := ?_) (a' := ?_) #[true, true, true, true, true, true, true, true, true, true, true, true, true, true, true, true, true, true, true, true, true, true, true, true, true, true, true, true, true, true, true, true, true, true, true, true, true, true, true, true, true, true, true, true, true, true, true, true, false, false] rfl rfl (by kernel_rfl) (fun _ _ _ h => h) (Or.inl ⟨by rfl, ?_⟩) hHeld ?_ ?_
  rotate_left
  · rintro w' ⟨s0, s1, s2, s3, s4, s5, s6, s7⟩
    go_simp
    with_reducible rfl
  rotate_left
  · simp only [Act.put, List.setIfInBounds_toArray, List.set_cons_zero, List.set_cons_succ, i64_w, i32_w]
    rfl
  refine pure_ (i := 48) (N := some 128) (v := ?_) (a' := ?_) #[true, true, true, true, true, true, true, true, true, true, true, true, true, true, true, true, true, true, true, true, true, true, true, true, true, true, true, true, true, true, true, true, true, true, true, true, true, true, true, true, true, true, true, true, true, true, true, true, true, false] rfl rfl (by kernel_rfl) (fun _ _ _ h => h) (Or.inl ⟨by rfl, ?_⟩) ?_ ?_
  rotate_left
  · intro w'
    go_simp
    with_reducible rfl
  rotate_left
  · simp only [Act.put, List.setIfInBounds_toArray, List.set_cons_zero, List.set_cons_succ, i64_w, i32_w]
    rfl
  refine pure_ (i := 49) (N := some 129) (v := ?_) (a' := ?_) #[true, true, true, true, true, true, true, true, true, true, true, true, true, true, true, true, true, true, true, true, true, true, true, true, true, true, true, true, true, true, true, true, true, true, true, true, true, true, true, true, true, true, true, true, true, true, true, true, true, true] rfl rfl (by kernel_rfl) (fun _ _ _ h => h) (Or.inl ⟨by rfl, ?_⟩) ?_ ?_
  rotate_left
  · intro w'
    go_simp
    with_reducible rfl
  rotate_left
  · simp only [Act.put, List.setIfInBounds_toArray, List.set_cons_zero, List.set_cons_succ, i64_w, i32_w]
    rfl
  refine done_ (by kernel_rfl) ?_
  go_wp2
  go_roundw
  case rel => exact ⟨j + 1, by go_num, by omega, HI2, HS2, HX2⟩
  case measure => simp [intOf]; omega
end Go.Proofs.Ytffjbaknglemdaa.X
