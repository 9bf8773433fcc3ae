import Derived.Test.YtffjbaknglemdaaHL0
import Derived.Test.YtffjbaknglemdaaHQ5
namespace Go.Proofs.Ytffjbaknglemdaa.X
open Go.RowKit Go.Maps Go.Proofs.YtffjbaknglemdaaW.PrintWords Go.Proofs.YtffjbaknglemdaaW.PrintLast Go.Proofs.YtffjbaknglemdaaW.PrintMore
set_option linter.unusedSimpArgs false
set_option linter.unusedVariables false

/-! ### ready 43, light 41, worth 42 -/
def readyR (a0 a1 a2 : Int) (l : List S82) : Bool := decide ((l.length : Int) ≤ 6) && (faultR a0 a1 a2 l == 0)
def lightR (a0 a1 a2 : Int) (l : List S82) : Bool := readyR a0 a1 a2 l && (decide (wrap64 (a0 * a1) ≤ 30) && decide ((l.length : Int) ≤ 3))
set_option maxRecDepth 100000 in
theorem ready_calls (a0 a1 a2 : Int) (A : Option Addr) (c : Nat) (l : List S82) (w : World) (hl : Kd.C k82 w A l.length l) (hlc : l.length ≤ c) :
    Calls Try.prog 43 #[.agg #[.int .i64 a0, .int .i64 a1, .int .i64 a2, .slice A l.length c]] w fun e w' => e = .returned (.bool (readyR a0 a1 a2 l)) ∧ Below w.heap.size w w' := by
  have HL := Lib.hid hl
  have HI : Hid (LI w a0 a1 a2 (.slice A l.length c) (w.alloc (.cells #[.int .i64 a0, .int .i64 a1, .int .i64 a2, .slice A l.length c] 24))) := Lib.hid ⟨alloc_at rfl, below_alloc (Below.refl _ _) _⟩
  unfold readyR
  clear hl
  cases c0 : decide ((l.length : Int) ≤ 6) with
  | false =>
    go_enter Try.func43, Try.ntmps43
    go_wp2
    go_ret
    exact ⟨rfl, HI.out.low⟩
  | true =>
    go_enter Try.func43, Try.ntmps43
    go_wp2_with (go_at_call 17; refine (fault_calls a0 a1 a2 A c l _ (Kd.C_below HL.out HI.out.low) hlc).mono ?_; rintro e W1 ⟨rfl, hs⟩; have HI := Lib.hid (HI.out.below hs))
    go_ret
    exact ⟨by simp, HI.out.low⟩
set_option maxRecDepth 100000 in
theorem light_calls (a0 a1 a2 : Int) (A : Option Addr) (c : Nat) (l : List S82) (w : World) (hl : Kd.C k82 w A l.length l) (hlc : l.length ≤ c) :
    Calls Try.prog 41 #[.agg #[.int .i64 a0, .int .i64 a1, .int .i64 a2, .slice A l.length c]] w fun e w' => e = .returned (.bool (lightR a0 a1 a2 l)) ∧ Below w.heap.size w w' := by
  have HL := Lib.hid hl
  have HI : Hid (LI w a0 a1 a2 (.slice A l.length c) (w.alloc (.cells #[.int .i64 a0, .int .i64 a1, .int .i64 a2, .slice A l.length c] 24))) := Lib.hid ⟨alloc_at rfl, below_alloc (Below.refl _ _) _⟩
  unfold lightR
  clear hl
  have h43 := fun w h => ready_calls a0 a1 a2 A c l w h hlc
  cases c0 : readyR a0 a1 a2 l with
  | false =>
    rw [c0] at h43
    have H43 := Lib.hid h43
    clear h43 c0
    go_enter Try.func41, Try.ntmps41
    go_wp2_with (go_at_call 43; refine (H43.out _ (Kd.C_below HL.out HI.out.low)).mono ?_; rintro e W1 ⟨rfl, hs⟩; have HI := Lib.hid (HI.out.below hs); have hz0 : W1.cell? ⟨w.heap.size, 0, none⟩ = some (.int .i64 a0) := (blk_cell HI.out.b0 0).trans rfl; have hz1 : W1.cell? ⟨w.heap.size, 1, none⟩ = some (.int .i64 a1) := (blk_cell HI.out.b0 1).trans rfl; have hz2 : W1.cell? ⟨w.heap.size, 2, none⟩ = some (.int .i64 a2) := (blk_cell HI.out.b0 2).trans rfl; have hz3 : W1.cell? ⟨w.heap.size, 3, none⟩ = some (.slice A l.length c) := (blk_cell HI.out.b0 3).trans rfl)
    go_ret
    exact ⟨rfl, HI.out.low⟩
  | true =>
    rw [c0] at h43
    have H43 := Lib.hid h43
    clear h43 c0
    cases c1 : decide (wrap64 (a0 * a1) ≤ 30) <;>
    · go_enter Try.func41, Try.ntmps41
      go_wp2_with (go_at_call 43; refine (H43.out _ (Kd.C_below HL.out HI.out.low)).mono ?_; rintro e W1 ⟨rfl, hs⟩; have HI := Lib.hid (HI.out.below hs); have hz0 : W1.cell? ⟨w.heap.size, 0, none⟩ = some (.int .i64 a0) := (blk_cell HI.out.b0 0).trans rfl; have hz1 : W1.cell? ⟨w.heap.size, 1, none⟩ = some (.int .i64 a1) := (blk_cell HI.out.b0 1).trans rfl; have hz2 : W1.cell? ⟨w.heap.size, 2, none⟩ = some (.int .i64 a2) := (blk_cell HI.out.b0 2).trans rfl; have hz3 : W1.cell? ⟨w.heap.size, 3, none⟩ = some (.slice A l.length c) := (blk_cell HI.out.b0 3).trans rfl)
      go_ret
      exact ⟨by simp, HI.out.low⟩
theorem best_f {a0 a1 a2 : Int} {l : List S115} (h : PlOk a0 a1 a2 l) : plate_Best.f a0 a1 a2 l = some ((bestSt a0 a1 a2 l).cuts, (bestSt a0 a1 a2 l).uses, (worthP a0 a1 a2 l).worth, 0) := by
  unfold plate_Best.f
  rw [if_pos (chk_zero.2 h)]; rfl
set_option maxRecDepth 100000 in
set_option maxHeartbeats 1000000 in
theorem worth_calls (a0 a1 a2 : Int) (A : Option Addr) (c : Nat) (l : List S82) (w : World) (hl : Kd.C k82 w A l.length l) (ho : PlOk a0 a1 a2 (l.map toW)) :
    Calls Try.prog 42 #[.agg #[.int .i64 a0, .int .i64 a1, .int .i64 a2, .slice A l.length c]] w fun e w' => e = .returned (.tuple #[.int .i64 (worthP a0 a1 a2 (l.map toW)).worth, .int .i64 (worthP a0 a1 a2 (l.map toW)).cuts, .bool true]) ∧ Below w.heap.size w w' := by
  have HL := Lib.hid hl
  have HI : Hid (LI w a0 a1 a2 (.slice A l.length c) (w.alloc (.cells #[.int .i64 a0, .int .i64 a1, .int .i64 a2, .slice A l.length c] 24))) := Lib.hid ⟨alloc_at rfl, below_alloc (Below.refl _ _) _⟩
  have hl4 : l.length ≤ 4 := by have := ho.len; simpa using this
  have hbf := best_f ho
  have hbc : ((bestSt a0 a1 a2 (l.map toW)).cuts.length : Int) = (worthP a0 a1 a2 (l.map toW)).cuts := best_cuts ho
  rw [← hbc]
  obtain ⟨k, hk⟩ : ∃ k, (bestSt a0 a1 a2 (l.map toW)).cuts.length = k := ⟨_, rfl⟩
  obtain ⟨j, hj⟩ : ∃ j, (bestSt a0 a1 a2 (l.map toW)).uses.length = j := ⟨_, rfl⟩
  rw [hk]
  obtain ⟨wo, hwo⟩ : ∃ wo, (worthP a0 a1 a2 (l.map toW)).worth = wo := ⟨_, rfl⟩
  rw [hwo] at hbf ⊢
  have HBF := Lib.hid hbf
  have HK := Lib.hid hk
  have HJ := Lib.hid hj
  clear hl hbf hbc hk hj hwo ho
  go_enter Try.func42, Try.ntmps42
  go_wp2_with (first | (go_at_call 27; refine (lplate_of (Kd.C_below HL.out HI.out.low) (by omega)).mono ?_; rintro e V2 ⟨P, p, rfl, hp, HP, hs⟩; have HP := Lib.hid HP; have HI := Lib.hid (HI.out.below hs)) | (go_at_call 36; refine (best_of HP.out hp HBF.out HK.out HJ.out).mono ?_; rintro e V3 ⟨Q, q, R, r, rfl, hq, hr, -, -, hs⟩; have HI := Lib.hid (HI.out.below hs)))
  have hs : Below V3.heap.size V3 (V3.alloc (.cells #[.slice Q k q, .slice R j r] 59)) := below_alloc (Below.refl _ _) _
  obtain ⟨V4, hV4⟩ : ∃ V4, V4 = V3.alloc (.cells #[.slice Q k q, .slice R j r] 59) := ⟨_, rfl⟩
  have hG : V4.heap[V3.heap.size]? = some (.cells #[.slice Q k q, .slice R j r] 59 (0, 0)) := by rw [hV4]; exact alloc_at rfl
  rw [← hV4] at hs ⊢
  have HI5 := Lib.hid (HI.out.below hs)
  clear hV4
  generalize V3.heap.size = g5 at hG ⊢
  refine start_ (n := 9) (S := fun w' => w'.cell? ⟨g5, 0, none⟩ = some (.slice Q k q)) (ds := []) #[false, false, false, false, false, false, false, false, false] (by kernel_rfl) rfl rfl (((blk_cell hG 0).trans rfl)) (fun hHeld => ?_)
  refine pure_ (i := 0) (N := some 15) (v := ?_) (a' := ?_) #[true, false, false, false, false, false, false, false, false] rfl rfl (by kernel_rfl) (fun _ _ _ h => h) (Or.inl ⟨by rfl, ?_⟩) ?_ ?_
  rotate_left
  · intro w'
    go_simp
    with_reducible rfl
  rotate_left
  · simp only [Act.put, List.setIfInBounds_toArray, List.set_cons_zero, List.set_cons_succ, i64_w, i32_w]
    rfl
  refine pure_ (i := 1) (N := some 16) (v := ?_) (a' := ?_) #[true, true, false, false, false, false, false, false, false] rfl rfl (by kernel_rfl) (fun _ _ _ h => h) (Or.inl ⟨by rfl, ?_⟩) ?_ ?_
  rotate_left
  · intro w'
    go_simp
    with_reducible rfl
  rotate_left
  · simp only [Act.put, List.setIfInBounds_toArray, List.set_cons_zero, List.set_cons_succ, i64_w, i32_w]
    rfl
  refine pure_ (i := 4) (N := some 19) (v := ?_) (a' := ?_) #[true, true, false, false, true, false, false, false, false] rfl rfl (by kernel_rfl) (fun _ _ _ h => h) (Or.inl ⟨by rfl, ?_⟩) ?_ ?_
  rotate_left
  · intro w'
    go_simp
    with_reducible rfl
  rotate_left
  · simp only [Act.put, List.setIfInBounds_toArray, List.set_cons_zero, List.set_cons_succ, i64_w, i32_w]
    rfl
  refine pure_ (i := 5) (N := some 20) (v := ?_) (a' := ?_) #[true, true, false, false, true, true, false, false, false] rfl rfl (by kernel_rfl) (fun _ _ _ h => h) (Or.inl ⟨by rfl, ?_⟩) ?_ ?_
  rotate_left
  · intro w'
    go_simp
    with_reducible rfl
  rotate_left
  · simp only [Act.put, List.setIfInBounds_toArray, List.set_cons_zero, List.set_cons_succ, i64_w, i32_w]
    rfl
  refine pure_ (i := 6) (N := some 2) (v := ?_) (a' := ?_) #[true, true, false, false, true, true, true, false, false] rfl rfl (by kernel_rfl) (fun _ _ _ h => h) (Or.inl ⟨by rfl, ?_⟩) ?_ ?_
  rotate_left
  · intro w'
    go_simp
    with_reducible rfl
  rotate_left
  · simp only [Act.put, List.setIfInBounds_toArray, List.set_cons_zero, List.set_cons_succ, i64_w, i32_w]
    rfl
  refine take_ (i := 2) (N := some 17) (v := ?_) (a' := ?_) #[true, true, true, false, true, true, true, false, false] rfl rfl (by kernel_rfl) (fun _ _ _ h => h) (Or.inl ⟨by rfl, ?_⟩) hHeld ?_ ?_
  rotate_left
  · intro w' s0
    go_simp
    with_reducible rfl
  rotate_left
  · simp only [Act.put, List.setIfInBounds_toArray, List.set_cons_zero, List.set_cons_succ, i64_w, i32_w]
    rfl
  refine pure_ (i := 3) (N := some 18) (v := ?_) (a' := ?_) #[true, true, true, true, true, true, true, false, false] rfl rfl (by kernel_rfl) (fun _ _ _ h => h) (Or.inl ⟨by rfl, ?_⟩) ?_ ?_
  rotate_left
  · intro w'
    go_simp
    with_reducible rfl
  rotate_left
  · simp only [Act.put, List.setIfInBounds_toArray, List.set_cons_zero, List.set_cons_succ, i64_w, i32_w]
    rfl
  refine pure_ (i := 7) (N := some 3) (v := ?_) (a' := ?_) #[true, true, true, true, true, true, true, true, false] rfl rfl (by kernel_rfl) (fun _ _ _ h => h) (Or.inl ⟨by rfl, ?_⟩) ?_ ?_
  rotate_left
  · intro w'
    go_simp
    with_reducible rfl
  rotate_left
  · simp only [Act.put, List.setIfInBounds_toArray, List.set_cons_zero, List.set_cons_succ, i64_w, i32_w]
    rfl
  refine pure_ (i := 8) (N := some 4) (v := ?_) (a' := ?_) #[true, true, true, true, true, true, true, true, true] rfl rfl (by kernel_rfl) (fun _ _ _ h => h) (Or.inl ⟨by rfl, ?_⟩) ?_ ?_
  rotate_left
  · intro w'
    go_simp
    with_reducible rfl
  rotate_left
  · simp only [Act.put, List.setIfInBounds_toArray, List.set_cons_zero, List.set_cons_succ, i64_w, i32_w]
    rfl
  refine done_ (by kernel_rfl) ?_
  go_wp2
  refine bodyPost_ret (results_list (rs := [.tmp 2, .tmp 3, .tmp 4]) rfl (by simp) (.tmp (.tmp (.tmp .nil)))) rfl ?_
  exact ⟨rfl, below_drew1 HI5.out.low⟩
end Go.Proofs.Ytffjbaknglemdaa.X
