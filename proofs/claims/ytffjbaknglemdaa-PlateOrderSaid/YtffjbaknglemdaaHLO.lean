import Derived.Test.YtffjbaknglemdaaHL6
namespace Go.Proofs.Ytffjbaknglemdaa.X
open Go.RowKit Go.Maps Go.Proofs.YtffjbaknglemdaaW.PrintWords Go.Proofs.YtffjbaknglemdaaW.PrintLast Go.Proofs.YtffjbaknglemdaaW.PrintMore
set_option linter.unusedSimpArgs false
set_option linter.unusedVariables false

/-! ### PlateOrder 10 -/
theorem wf8 {n : Int} (h : (Lit.int .u8 n).wf = true) : 0 ≤ n ∧ n ≤ 255 := by
  simp only [Lit.wf, Bool.and_eq_true, decide_eq_true_eq] at h
  exact h
theorem light_ok {a0 a1 a2 : Int} {l : List S82} (h : lightR a0 a1 a2 l = true) : PlOk a0 a1 a2 (l.map toW) := by
  unfold lightR readyR at h
  simp only [Bool.and_eq_true, beq_iff_eq] at h
  exact fault_ok h.1.2
set_option maxRecDepth 100000 in
set_option maxHeartbeats 4000000 in
theorem plateOrder_calls (a0 a1 a2 : Int) (A : Option Addr) (c : Nat) (l : List S82) (by_ : Int) (w : World) (hl : Kd.C k82 w A l.length l) (hlc : l.length ≤ c) (hby : 0 ≤ by_ ∧ by_ ≤ 255) :
    Calls Try.prog 10 #[.agg #[.int .i64 a0, .int .i64 a1, .int .i64 a2, .slice A l.length c], .int .u8 by_] w fun e w' => e = .returned (.bool true) ∧ Below w.heap.size w w' := by
  have HL := Lib.hid hl
  have HI : Hid (LI w a0 a1 a2 (.slice A l.length c) (w.alloc (.cells #[.int .i64 a0, .int .i64 a1, .int .i64 a2, .slice A l.length c] 24))) := Lib.hid ⟨alloc_at rfl, below_alloc (Below.refl _ _) _⟩
  have h41 := fun w h => light_calls a0 a1 a2 A c l w h hlc
  cases hli : lightR a0 a1 a2 l with
  | false =>
    rw [hli] at h41
    have H41 := Lib.hid h41
    clear h41 hli hl
    go_enter Try.func10, Try.ntmps10
    go_wp2_with (first | (go_at_call 41; refine (H41.out _ (Kd.C_below HL.out HI.out.low)).mono ?_; rintro e V1 ⟨rfl, hs⟩; have HI := Lib.hid (HI.out.below hs); have hz0 : V1.cell? ⟨w.heap.size, 0, none⟩ = some (.int .i64 a0) := (blk_cell HI.out.b0 0).trans rfl; have hz1 : V1.cell? ⟨w.heap.size, 1, none⟩ = some (.int .i64 a1) := (blk_cell HI.out.b0 1).trans rfl; have hz2 : V1.cell? ⟨w.heap.size, 2, none⟩ = some (.int .i64 a2) := (blk_cell HI.out.b0 2).trans rfl; have hz3 : V1.cell? ⟨w.heap.size, 3, none⟩ = some (.slice A l.length c) := (blk_cell HI.out.b0 3).trans rfl) | (go_at_call 25; refine (wakes_calls _).mono ?_; rintro e V9 ⟨rfl, hs⟩; have HI := Lib.hid (HI.out.below hs)))
    go_ret
    exact ⟨rfl, HI.out.low⟩
  | true =>
  rw [hli] at h41
  have H41 := Lib.hid h41
  have ho := light_ok hli
  clear h41 hli
  by_cases hl0 : l.length = 0
  · have hb : ((l.length : Int) == 0) = true := by rw [hl0]; rfl
    clear ho hl0 hl
    go_enter Try.func10, Try.ntmps10
    go_wp2_with (first | (go_at_call 41; refine (H41.out _ (Kd.C_below HL.out HI.out.low)).mono ?_; rintro e V1 ⟨rfl, hs⟩; have HI := Lib.hid (HI.out.below hs); have hz0 : V1.cell? ⟨w.heap.size, 0, none⟩ = some (.int .i64 a0) := (blk_cell HI.out.b0 0).trans rfl; have hz1 : V1.cell? ⟨w.heap.size, 1, none⟩ = some (.int .i64 a1) := (blk_cell HI.out.b0 1).trans rfl; have hz2 : V1.cell? ⟨w.heap.size, 2, none⟩ = some (.int .i64 a2) := (blk_cell HI.out.b0 2).trans rfl; have hz3 : V1.cell? ⟨w.heap.size, 3, none⟩ = some (.slice A l.length c) := (blk_cell HI.out.b0 3).trans rfl) | (go_at_call 25; refine (wakes_calls _).mono ?_; rintro e V9 ⟨rfl, hs⟩; have HI := Lib.hid (HI.out.below hs)))
    go_ret
    exact ⟨rfl, HI.out.low⟩
  have hb : ((l.length : Int) == 0) = false := by rw [beq_eq_false_iff_ne]; omega
  have hlen0 : (0 : Int) < (l.length : Int) := by omega
  have hl4 : l.length ≤ 4 := by have := ho.len; simpa using this
  obtain ⟨ad, rfl, -⟩ := at_T82 hl 0 (Int.le_refl _) hlen0
  have HOK := Lib.hid ho
  clear ho hl
  go_enter Try.func10, Try.ntmps10
  go_wp2_with (first | (go_at_call 41; refine (H41.out _ (Kd.C_below HL.out HI.out.low)).mono ?_; rintro e V1 ⟨rfl, hs⟩; have HI := Lib.hid (HI.out.below hs); have hz0 : V1.cell? ⟨w.heap.size, 0, none⟩ = some (.int .i64 a0) := (blk_cell HI.out.b0 0).trans rfl; have hz1 : V1.cell? ⟨w.heap.size, 1, none⟩ = some (.int .i64 a1) := (blk_cell HI.out.b0 1).trans rfl; have hz2 : V1.cell? ⟨w.heap.size, 2, none⟩ = some (.int .i64 a2) := (blk_cell HI.out.b0 2).trans rfl; have hz3 : V1.cell? ⟨w.heap.size, 3, none⟩ = some (.slice (some ad) l.length c) := (blk_cell HI.out.b0 3).trans rfl))
  obtain ⟨t, ht⟩ : ∃ t : Nat, by_ % (l.length : Int) = t := ⟨(by_ % (l.length : Int)).toNat, by have := Int.emod_nonneg by_ (show (l.length : Int) ≠ 0 by omega); omega⟩
  have htl : t < l.length := by have := Int.emod_lt_of_pos by_ hlen0; omega
  rw [ht]
  obtain ⟨V2, hV2⟩ : ∃ V2, V2 = V1.alloc (.cells #[.int .i64 a0, .int .i64 a1, .int .i64 a2, .slice (some ad) l.length c] 24) := ⟨_, rfl⟩
  rw [← hV2]
  have hs : Below V1.heap.size V1 V2 := by rw [hV2]; exact below_alloc (Below.refl _ _) _
  have q6 : V2.drew.heap[V1.heap.size]? = some (.cells #[.int .i64 a0, .int .i64 a1, .int .i64 a2, .slice (some ad) l.length c] 24 (0, 0)) := by rw [hV2]; exact alloc_at rfl
  have hlo6 := HI.out.low.size
  have hn6 : w.heap.size < V1.heap.size := blk_lt HI.out.b0
  replace HI := Lib.hid ((HI.out.below hs).below (below_drew1 (Below.refl _ _)))
  generalize V1.heap.size = g6 at q6 hlo6 hn6 ⊢
  clear hV2 hz0 hz1 hz2 hz3 hs ht hby
  have ht0 : (0 : Int) ≤ (t : Int) := by omega
  have ht1 : (t : Int) ≤ (l.length : Int) := by omega
  have ht2 : (t : Int) ≤ (c : Int) := by omega
  have hct : ¬ c = t := by omega
  refine start_ (n := 13) (S := fun w' => w'.cell? ⟨w.heap.size, 3, none⟩ = some (.slice (some ad) l.length c)) (ds := [12]) #[false, false, false, false, false, false, false, false, false, false, false, false, false] (by kernel_rfl) rfl rfl (((blk_cell HI.out.b0 3).trans rfl)) (fun hHeld => ?_)
  refine pure_ (i := 1) (N := some 31) (v := ?_) (a' := ?_) #[false, true, false, false, false, false, false, false, false, false, false, false, false] rfl rfl (by kernel_rfl) (fun _ _ _ h => h) (Or.inl ⟨by rfl, ?_⟩) ?_ ?_
  rotate_left
  · intro w'
    go_simp
    with_reducible rfl
  rotate_left
  · simp only [Act.put, List.setIfInBounds_toArray, List.set_cons_zero, List.set_cons_succ, i64_w, i32_w]
    rfl
  refine pure_ (i := 3) (N := some 33) (v := ?_) (a' := ?_) #[false, true, false, true, false, false, false, false, false, false, false, false, false] rfl rfl (by kernel_rfl) (fun _ _ _ h => h) (Or.inl ⟨by rfl, ?_⟩) ?_ ?_
  rotate_left
  · intro w'
    go_simp
    with_reducible rfl
  rotate_left
  · simp only [Act.put, List.setIfInBounds_toArray, List.set_cons_zero, List.set_cons_succ, i64_w, i32_w]
    rfl
  refine pure_ (i := 6) (N := some 36) (v := ?_) (a' := ?_) #[false, true, false, true, false, false, true, false, false, false, false, false, false] rfl rfl (by kernel_rfl) (fun _ _ _ h => h) (Or.inl ⟨by rfl, ?_⟩) ?_ ?_
  rotate_left
  · intro w'
    go_simp
    with_reducible rfl
  rotate_left
  · simp only [Act.put, List.setIfInBounds_toArray, List.set_cons_zero, List.set_cons_succ, i64_w, i32_w]
    rfl
  refine pure_ (i := 8) (N := some 38) (v := ?_) (a' := ?_) #[false, true, false, true, false, false, true, false, true, false, false, false, false] rfl rfl (by kernel_rfl) (fun _ _ _ h => h) (Or.inl ⟨by rfl, ?_⟩) ?_ ?_
  rotate_left
  · intro w'
    go_simp
    with_reducible rfl
  rotate_left
  · simp only [Act.put, List.setIfInBounds_toArray, List.set_cons_zero, List.set_cons_succ, i64_w, i32_w]
    rfl
  refine take_ (i := 2) (N := some 32) (v := ?_) (a' := ?_) #[false, true, true, true, false, false, true, false, true, false, false, false, false] rfl rfl (by kernel_rfl) (fun _ _ _ h => h) (Or.inl ⟨by rfl, ?_⟩) hHeld ?_ ?_
  rotate_left
  · intro w' s0
    go_simp
    with_reducible rfl
  rotate_left
  · simp only [Act.put, List.setIfInBounds_toArray, List.set_cons_zero, List.set_cons_succ, i64_w, i32_w]
    rfl
  refine pure_ (i := 4) (N := some 34) (v := ?_) (a' := ?_) #[false, true, true, true, true, false, true, false, true, false, false, false, false] rfl rfl (by kernel_rfl) (fun _ _ _ h => h) (Or.inl ⟨by rfl, ?_⟩) ?_ ?_
  rotate_left
  · intro w'
    go_simp
    with_reducible rfl
  rotate_left
  · simp only [Act.put, List.setIfInBounds_toArray, List.set_cons_zero, List.set_cons_succ, i64_w, i32_w]
    rfl
  refine take_ (i := 7) (N := some 37) (v := ?_) (a' := ?_) #[false, true, true, true, true, false, true, true, true, false, false, false, false] rfl rfl (by kernel_rfl) (fun _ _ _ h => h) (Or.inl ⟨by rfl, ?_⟩) hHeld ?_ ?_
  rotate_left
  · intro w' s0
    go_simp
    with_reducible rfl
  rotate_left
  · simp only [Act.put, List.setIfInBounds_toArray, List.set_cons_zero, List.set_cons_succ, i64_w, i32_w]
    rfl
  refine pure_ (i := 9) (N := some 39) (v := ?_) (a' := ?_) #[false, true, true, true, true, false, true, true, true, true, false, false, false] rfl rfl (by kernel_rfl) (fun _ _ _ h => h) (Or.inl ⟨by rfl, ?_⟩) ?_ ?_
  rotate_left
  · intro w'
    go_simp
    with_reducible rfl
  rotate_left
  · simp only [Act.put, List.setIfInBounds_toArray, List.set_cons_zero, List.set_cons_succ, i64_w, i32_w]
    rfl
  refine one_ (i := 0) (N := some 30) #[true, true, true, true, true, false, true, true, true, true, false, false, false] rfl rfl (by kernel_rfl) (by decide) (fun K hK => ?_)
  refine slit_ (.cells #[] 82 (0, 0)) 0 (by rfl) rfl ?_ ?_
  · first | (go_simp; done) | (go_simp; rfl)
  intro g0 V3 hg0 hl0 hs
  have hl0 := Nat.le_trans HI.out.low.size hl0
  replace HI := Lib.hid (HI.out.below hs)
  replace q6 := blk_below q6 hs
  have p0 : V3.ownsRow w.heap.size 82 8 (.slice (some ⟨g0, 0, none⟩) 0 0) 0 [] := lit_own hl0 hg0 rfl (by omega)
  have HC := Lib.hid (Kd.C_below HL.out HI.out.low)
  clear hs hg0
  refine hK.out _ _ (((blk_cell HI.out.b0 3).trans rfl)) (fun hHeld => ?_)
  clear hK K
  refine norm_ (a' := ?_) ?_ ?_
  rotate_left
  · show Act.put _ (some 30) _ = _
    simp only [Act.put, List.setIfInBounds_toArray, List.set_cons_zero, List.set_cons_succ, i64_w, i32_w]
    rfl
  refine one_ (i := 5) (N := some 35) #[true, true, true, true, true, true, true, true, true, true, false, false, false] rfl rfl (by kernel_rfl) (by decide) (fun K hK => ?_)
  refine appn_ w.heap.size (by rfl) rfl _ _ 22 82 _ 8 64 rfl Try.underlying22 infoS82 rfl (by decide) (by decide) (.slice (some ⟨g0, 0, none⟩) 0 0) 0 (l.length - t) (c - t) [] ((l.drop t).flatMap c82) (ad.add (t * 8)) (by rfl) (by first | rfl | (show Value.slice (if c = t then some ad else some (ad.add (t * 8))) _ _ = _; rw [if_neg hct])) (by rw [c82s_len, List.length_drop]) (C82_from HC.out t) (c82s_one _) p0 HI.out.low.size (by omega) ?_
  intro v5 V4 own5 hgr hat
  rw [Nat.zero_add, List.nil_append] at own5
  obtain ⟨A5, c5, rfl⟩ := own_form own5
  replace HC := Lib.hid (Kd.C_below HL.out (pw_below_grown HI.out.low _ HI.out.low.size hgr (own_base p0)))
  replace HI : Hid (LI w a0 a1 a2 (.slice (some ad) l.length c) V4) := Lib.hid ⟨blk_grown HI.out.b0 hgr (own_ne p0 HI.out.b0 (by decide)), pw_below_grown HI.out.low _ HI.out.low.size hgr (own_base p0)⟩
  replace q6 := blk_grown q6 hgr (own_ne p0 q6 (by decide))
  clear hgr hat p0
  refine hK.out _ _ (((blk_cell HI.out.b0 3).trans rfl)) (fun hHeld => ?_)
  clear hK K
  refine norm_ (a' := ?_) ?_ ?_
  rotate_left
  · show Act.put _ (some 35) _ = _
    simp only [Act.put, List.setIfInBounds_toArray, List.set_cons_zero, List.set_cons_succ, i64_w, i32_w]
    rfl
  refine one_ (i := 10) (N := some 40) #[true, true, true, true, true, true, true, true, true, true, true, false, false] rfl rfl (by kernel_rfl) (by decide) (fun K hK => ?_)
  refine appn_ w.heap.size (by rfl) rfl _ _ 22 82 _ 8 64 rfl Try.underlying22 infoS82 rfl (by decide) (by decide) (.slice A5 (l.length - t) c5) (l.length - t) t c ((l.drop t).flatMap c82) ((l.take t).flatMap c82) ad (by rfl) (by rfl) (by rw [c82s_len, List.length_take]; omega) (C82_to HC.out t) (c82s_one _) own5 HI.out.low.size (by omega) ?_
  intro v6 V5 own6 hgr hat
  rw [← List.flatMap_append, show l.length - t + t = l.length by omega] at own6
  obtain ⟨A6, c6, rfl⟩ := own_form own6
  replace HI : Hid (LI w a0 a1 a2 (.slice (some ad) l.length c) V5) := Lib.hid ⟨blk_grown HI.out.b0 hgr (own_ne own5 HI.out.b0 (by decide)), pw_below_grown HI.out.low _ HI.out.low.size hgr (own_base own5)⟩
  replace q6 := blk_grown q6 hgr (own_ne own5 q6 (by decide))
  clear hgr hat own5
  have cz3 : V5.cell? ⟨g6, 3, none⟩ = some (.slice (some ad) l.length c) := (blk_cell q6 3).trans rfl
  have fz3 := blk_frozen q6 3
  refine hK.out _ _ (((blk_cell HI.out.b0 3).trans rfl)) (fun hHeld => ?_)
  clear hK K
  refine norm_ (a' := ?_) ?_ ?_
  rotate_left
  · show Act.put _ (some 40) _ = _
    simp only [Act.put, List.setIfInBounds_toArray, List.set_cons_zero, List.set_cons_succ, i64_w, i32_w]
    rfl
  refine pure_ (i := 11) (N := some 41) (v := ?_) (a' := ?_) #[true, true, true, true, true, true, true, true, true, true, true, true, false] rfl rfl (by kernel_rfl) (fun _ _ _ h => h) (Or.inl ⟨by rfl, ?_⟩) ?_ ?_
  rotate_left
  · intro w'
    go_simp
    with_reducible rfl
  rotate_left
  · simp only [Act.put, List.setIfInBounds_toArray, List.set_cons_zero, List.set_cons_succ, i64_w, i32_w]
    rfl
  refine last_ (i := 12) (N := none) #[true, true, true, true, true, true, true, true, true, true, true, true, true] rfl rfl (by kernel_rfl) (by decide) (fun K hK => ?_)
  refine skip_ (w1 := ?_) (by rfl) rfl ?_ ?_
  rotate_left
  · go_simp
    rfl
  refine hK.out _ _ ?_
  clear hK K
  refine done_ (by kernel_rfl) ?_
  obtain ⟨Q, hQ⟩ : ∃ Q, Q = V5.setCell ⟨g6, 3, none⟩ (.slice A6 l.length c6) := ⟨_, rfl⟩
  rw [← hQ]
  have hne := own_ne own6 q6 (by decide)
  have HR := own_C82 (own_setCell (p := ⟨g6, 3, none⟩) own6 hne (.slice A6 l.length c6)) (by simp; omega)
  rw [← hQ] at HR
  have HI2 : Hid (LI w a0 a1 a2 (.slice (some ad) l.length c) Q) := Lib.hid (by rw [hQ]; exact ⟨blk_far HI.out.b0 (by dsimp only; omega) _, below_set HI.out.low hlo6⟩)
  have hq6 : Q.heap[g6]? = some (.cells #[.int .i64 a0, .int .i64 a1, .int .i64 a2, .slice A6 l.length c6] 24 (0, 0)) := by rw [hQ]; exact blk_put q6 3 _ rfl
  have HG := Lib.hid hq6
  have HR2 := Lib.hid HR.2
  have hlaw := order_law HOK.out (t := t) (by rw [List.length_map]; omega)
  rw [← List.map_drop, ← List.map_take, ← List.map_append] at hlaw
  have hok2 := ok_rot HOK.out t
  rw [← List.map_drop, ← List.map_take, ← List.map_append] at hok2
  have h42a := fun w h => worth_calls a0 a1 a2 (some ad) c l w h HOK.out
  have hlr : (l.drop t ++ l.take t).length = l.length := by simp; omega
  have h42b := fun w h => worth_calls a0 a1 a2 A6 c6 (l.drop t ++ l.take t) w h hok2
  rw [hlaw.1, hlaw.2, hlr] at h42b
  obtain ⟨wo, hwo⟩ : ∃ wo, (worthP a0 a1 a2 (l.map toW)).worth = wo := ⟨_, rfl⟩
  obtain ⟨ku, hku⟩ : ∃ ku, (worthP a0 a1 a2 (l.map toW)).cuts = ku := ⟨_, rfl⟩
  rw [hwo, hku] at h42a h42b
  have H42a := Lib.hid h42a
  have H42b := Lib.hid h42b
  clear h42a h42b hwo hku hlaw hok2 hlr hq6 HR hQ hne HI own6 q6 cz3 fz3 hHeld
  have HI := HI2
  clear HI2
  have hz0 : Q.cell? ⟨w.heap.size, 0, none⟩ = some (.int .i64 a0) := (blk_cell HI.out.b0 0).trans rfl; have hz1 : Q.cell? ⟨w.heap.size, 1, none⟩ = some (.int .i64 a1) := (blk_cell HI.out.b0 1).trans rfl; have hz2 : Q.cell? ⟨w.heap.size, 2, none⟩ = some (.int .i64 a2) := (blk_cell HI.out.b0 2).trans rfl; have hz3 : Q.cell? ⟨w.heap.size, 3, none⟩ = some (.slice (some ad) l.length c) := (blk_cell HI.out.b0 3).trans rfl
  have hb1 : (wo == wo) = true := by simp
  have hb2 : (ku == ku) = true := by simp
  go_wp2_with (first | (go_at_call 42; with_reducible refine (H42a.out _ (Kd.C_below HL.out HI.out.low)).mono ?_; rintro e V7 ⟨rfl, hs⟩; have HG := Lib.hid (blk_below HG.out hs); have HR3 := Lib.hid (Kd.C_below HR2.out hs); have HI := Lib.hid (HI.out.below hs); have hg0 : V7.cell? ⟨g6, 0, none⟩ = some (.int .i64 a0) := (blk_cell HG.out 0).trans rfl; have hg1 : V7.cell? ⟨g6, 1, none⟩ = some (.int .i64 a1) := (blk_cell HG.out 1).trans rfl; have hg2 : V7.cell? ⟨g6, 2, none⟩ = some (.int .i64 a2) := (blk_cell HG.out 2).trans rfl; have hg3 : V7.cell? ⟨g6, 3, none⟩ = some (.slice A6 l.length c6) := (blk_cell HG.out 3).trans rfl) | (go_at_call 42; with_reducible refine (H42b.out _ HR3.out).mono ?_; rintro e V8 ⟨rfl, hs⟩; have HI := Lib.hid (HI.out.below hs)) | (go_at_call 25; refine (wakes_calls _).mono ?_; rintro e V9 ⟨rfl, hs⟩; have HI := Lib.hid (HI.out.below hs)))
  go_ret
  exact ⟨rfl, HI.out.low⟩
end Go.Proofs.Ytffjbaknglemdaa.X
