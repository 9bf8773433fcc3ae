import Derived.Test.YtffjbaknglemdaaHW1
namespace Go.Proofs.Ytffjbaknglemdaa.X
open Go.RowKit Go.Maps Go.Proofs.YtffjbaknglemdaaW.PrintWords Go.Proofs.YtffjbaknglemdaaW.PrintLast Go.Proofs.YtffjbaknglemdaaW.PrintMore
set_option linter.unusedSimpArgs false
set_option linter.unusedVariables false

/-! ### the reference: Fits 44 -/
def fitsR (a0 a1 : Int) (a2 : Bool) (a4 a5 a6 a7 p0 p1 p2 p3 : Int) : Bool :=
  ((p2 == a0 && p3 == a1) || (a2 && (p2 == a1 && p3 == a0))) && (decide (a4 ≤ p0) && (decide (wrap64 (wrap64 (p0 + p2) - 1) ≤ a5) && (decide (a6 ≤ p1) && decide (wrap64 (wrap64 (p1 + p3) - 1) ≤ a7))))
set_option maxRecDepth 100000 in
set_option maxHeartbeats 4000000 in
theorem fits_calls (a0 a1 : Int) (a2 : Bool) (a3 a4 a5 a6 a7 p0 p1 p2 p3 : Int) (w : World) :
    Calls Try.prog 44 #[.agg #[.int .i64 a0, .int .i64 a1, .bool a2, .int .i64 a3, .int .i64 a4, .int .i64 a5, .int .i64 a6, .int .i64 a7], .agg #[.int .i64 p0, .int .i64 p1, .int .i64 p2, .int .i64 p3]] w fun e w' => e = .returned (.bool (fitsR a0 a1 a2 a4 a5 a6 a7 p0 p1 p2 p3)) ∧ Below w.heap.size w w' := by
  cases c0 : (p2 == a0) with
  | true =>
    cases c1 : (p3 == a1) with
    | true =>
      cases c5 : decide (a4 ≤ p0) with
      | true =>
        cases c6 : decide (wrap64 (wrap64 (p0 + p2) - 1) ≤ a5) with
        | true =>
          cases c7 : decide (a6 ≤ p1) with
          | true =>
            go_enter Try.func44, Try.ntmps44; go_wp2; go_ret; exact ⟨by simp [fitsR, *], below_alloc (below_alloc (Below.refl _ _) _) _⟩
          | false =>
            go_enter Try.func44, Try.ntmps44; go_wp2; go_ret; exact ⟨by simp [fitsR, *], below_alloc (below_alloc (Below.refl _ _) _) _⟩
        | false =>
          go_enter Try.func44, Try.ntmps44; go_wp2; go_ret; exact ⟨by simp [fitsR, *], below_alloc (below_alloc (Below.refl _ _) _) _⟩
      | false =>
        go_enter Try.func44, Try.ntmps44; go_wp2; go_ret; exact ⟨by simp [fitsR, *], below_alloc (below_alloc (Below.refl _ _) _) _⟩
    | false =>
      cases c2 : a2 with
      | true =>
        cases c3 : (p2 == a1) with
        | true =>
          cases c4 : (p3 == a0) with
          | true =>
            cases c5 : decide (a4 ≤ p0) with
            | true =>
              cases c6 : decide (wrap64 (wrap64 (p0 + p2) - 1) ≤ a5) with
              | true =>
                cases c7 : decide (a6 ≤ p1) with
                | true =>
                  go_enter Try.func44, Try.ntmps44; go_wp2; go_ret; exact ⟨by simp [fitsR, *], below_alloc (below_alloc (Below.refl _ _) _) _⟩
                | false =>
                  go_enter Try.func44, Try.ntmps44; go_wp2; go_ret; exact ⟨by simp [fitsR, *], below_alloc (below_alloc (Below.refl _ _) _) _⟩
              | false =>
                go_enter Try.func44, Try.ntmps44; go_wp2; go_ret; exact ⟨by simp [fitsR, *], below_alloc (below_alloc (Below.refl _ _) _) _⟩
            | false =>
              go_enter Try.func44, Try.ntmps44; go_wp2; go_ret; exact ⟨by simp [fitsR, *], below_alloc (below_alloc (Below.refl _ _) _) _⟩
          | false =>
            go_enter Try.func44, Try.ntmps44; go_wp2; go_ret; exact ⟨by simp [fitsR, *], below_alloc (below_alloc (Below.refl _ _) _) _⟩
        | false =>
          go_enter Try.func44, Try.ntmps44; go_wp2; go_ret; exact ⟨by simp [fitsR, *], below_alloc (below_alloc (Below.refl _ _) _) _⟩
      | false =>
        go_enter Try.func44, Try.ntmps44; go_wp2; go_ret; exact ⟨by simp [fitsR, *], below_alloc (below_alloc (Below.refl _ _) _) _⟩
  | false =>
    cases c2 : a2 with
    | true =>
      cases c3 : (p2 == a1) with
      | true =>
        cases c4 : (p3 == a0) with
        | true =>
          cases c5 : decide (a4 ≤ p0) with
          | true =>
            cases c6 : decide (wrap64 (wrap64 (p0 + p2) - 1) ≤ a5) with
            | true =>
              cases c7 : decide (a6 ≤ p1) with
              | true =>
                go_enter Try.func44, Try.ntmps44; go_wp2; go_ret; exact ⟨by simp [fitsR, *], below_alloc (below_alloc (Below.refl _ _) _) _⟩
              | false =>
                go_enter Try.func44, Try.ntmps44; go_wp2; go_ret; exact ⟨by simp [fitsR, *], below_alloc (below_alloc (Below.refl _ _) _) _⟩
            | false =>
              go_enter Try.func44, Try.ntmps44; go_wp2; go_ret; exact ⟨by simp [fitsR, *], below_alloc (below_alloc (Below.refl _ _) _) _⟩
          | false =>
            go_enter Try.func44, Try.ntmps44; go_wp2; go_ret; exact ⟨by simp [fitsR, *], below_alloc (below_alloc (Below.refl _ _) _) _⟩
        | false =>
          go_enter Try.func44, Try.ntmps44; go_wp2; go_ret; exact ⟨by simp [fitsR, *], below_alloc (below_alloc (Below.refl _ _) _) _⟩
      | false =>
        go_enter Try.func44, Try.ntmps44; go_wp2; go_ret; exact ⟨by simp [fitsR, *], below_alloc (below_alloc (Below.refl _ _) _) _⟩
    | false =>
      go_enter Try.func44, Try.ntmps44; go_wp2; go_ret; exact ⟨by simp [fitsR, *], below_alloc (below_alloc (Below.refl _ _) _) _⟩


/-! ### In 32, Fault 17 -/
def inB (n lo hi : Int) : Bool := decide (lo ≤ n) && decide (n ≤ hi)
theorem in_calls (n lo hi : Int) (w : World) : Calls Try.prog 32 #[.int .i64 n, .int .i64 lo, .int .i64 hi] w fun e w' => e = .returned (.bool (inB n lo hi)) ∧ w' = w := by
  cases h : decide (lo ≤ n) <;> (go_enter Try.func32, Try.ntmps32; go_wp2; go_ret; exact ⟨by simp [inB, *], rfl⟩)
def wantB (x : S82) : Bool := inB x.f0 1 8 && (inB x.f1 1 8 && (inB x.f3 0 1000 && (inB x.f4.f0 0 x.f4.f1 && (!decide (7 < x.f4.f1) && (inB x.f5.f0 0 x.f5.f1 && !decide (7 < x.f5.f1))))))
def faultR (a0 a1 a2 : Int) (l : List S82) : Int := if 4 < l.length then 3 else if inB a0 1 8 && (inB a1 1 8 && inB a2 0 2) then (if l.all wantB then 0 else 1) else 1
theorem all_drop {α : Type} (q : α → Bool) (l : List α) (i : Nat) (h : i < l.length) (z : α) : (l.drop i).all q = (q (l.getD i z) && (l.drop (i + 1)).all q) := by
  rw [List.drop_eq_getElem_cons h, List.all_cons]
  simp [List.getD_eq_getElem?_getD, h]
set_option maxRecDepth 100000 in
set_option maxHeartbeats 4000000 in
theorem fault_calls (a0 a1 a2 : Int) (A : Option Addr) (c : Nat) (l : List S82) (w : World) (hl : Kd.C k82 w A l.length l) (hlc : l.length ≤ c) :
    Calls Try.prog 17 #[.agg #[.int .i64 a0, .int .i64 a1, .int .i64 a2, .slice A l.length c]] w fun e w' => e = .returned (.int .i64 (faultR a0 a1 a2 l)) ∧ Below w.heap.size w w' := by
  have hmax : l.length ≤ 9223372036854775807 := hl.2.1
  have HL := Lib.hid hl
  clear hl
  unfold faultR
  by_cases h4 : 4 < l.length
  · rw [if_pos h4]
    have hd : decide ((4 : Int) < (l.length : Int)) = true := decide_eq_true (by omega)
    clear h4
    go_enter Try.func17, Try.ntmps17
    go_wp2
    go_ret
    exact ⟨rfl, below_alloc (Below.refl _ _) _⟩
  · rw [if_neg h4]
    have hd : decide ((4 : Int) < (l.length : Int)) = false := decide_eq_false (by omega)
    clear h4
    cases c0 : inB a0 1 8 with
    | false =>
      rw [if_neg (by simp [c0])]; go_enter Try.func17, Try.ntmps17; go_wp2_with (go_at_call 32; refine (in_calls _ _ _ _).mono ?_; rintro e _ ⟨rfl, rfl⟩); go_ret; exact ⟨rfl, below_alloc (Below.refl _ _) _⟩
    | true =>
    cases c1 : inB a1 1 8 with
    | false =>
      rw [if_neg (by simp [c0, c1])]; go_enter Try.func17, Try.ntmps17; go_wp2_with (go_at_call 32; refine (in_calls _ _ _ _).mono ?_; rintro e _ ⟨rfl, rfl⟩); go_ret; exact ⟨rfl, below_alloc (Below.refl _ _) _⟩
    | true =>
    cases c2 : inB a2 0 2 with
    | false =>
      rw [if_neg (by simp [c0, c1, c2])]; go_enter Try.func17, Try.ntmps17; go_wp2_with (go_at_call 32; refine (in_calls _ _ _ _).mono ?_; rintro e _ ⟨rfl, rfl⟩); go_ret; exact ⟨rfl, below_alloc (Below.refl _ _) _⟩
    | true =>
    rw [if_pos (by simp [c0, c1, c2])]
    obtain ⟨r, hr⟩ : ∃ r : Int, r = if l.all wantB then 0 else 1 := ⟨_, rfl⟩
    rw [← hr]
    have HR := Lib.hid hr
    clear hr
    go_enter Try.func17, Try.ntmps17
    go_wp2_with (go_at_call 32; refine (in_calls _ _ _ _).mono ?_; rintro e _ ⟨rfl, rfl⟩)
    have hP0 : (w.alloc (.cells #[.int .i64 a0, .int .i64 a1, .int .i64 a2, .slice A l.length c] 24)).heap[w.heap.size]? = some (.cells #[.int .i64 a0, .int .i64 a1, .int .i64 a2, .slice A l.length c] 24 (0, 0)) := alloc_at rfl
    have HP0 := Lib.hid hP0
    clear hP0 c0 c1 c2 hd
    go_loopw [3] (fun v wr => ∃ k : Nat, v = .int .i64 k ∧ k ≤ l.length ∧ Hid (r = (if (l.drop k).all wantB then 0 else 1)) ∧ Hid (wr.heap[w.heap.size]? = some (.cells #[.int .i64 a0, .int .i64 a1, .int .i64 a2, .slice A l.length c] 24 (0, 0))) ∧ Below w.heap.size w wr) (fun v _ => l.length - (intOf v).toNat)
    case atStart => exact ⟨0, rfl, Nat.zero_le _, Lib.hid (by rw [HR.out]; simp), HP0, below_alloc (Below.refl _ _) _⟩
    case round =>
    obtain ⟨k, rfl, hk, HQ, HP, hB⟩ := hrel
    clear HP0 HR
    have hp3 : wr.cell? ⟨w.heap.size, 3, none⟩ = some (.slice A l.length c) := (blk_cell HP.out 3).trans rfl
    by_cases hlt : k < l.length
    rotate_left
    · go_wp2
      go_ret
      obtain rfl : k = l.length := by omega
      have e1 : r = 0 := by rw [HQ.out]; simp
      exact ⟨by rw [e1]; first | done | rfl, hB⟩
    have hi0 : (0 : Int) ≤ (k : Int) := by omega
    have hi1 : (k : Int) < (l.length : Int) := by omega
    obtain ⟨ad, rfl, hx0, hx1, hx2, hx3, hx4, hx5, hx6, hx7⟩ := at_T82 (Kd.C_below HL.out hB) (k : Int) hi0 hi1
    simp only [Int.toNat_natCast] at hx0 hx1 hx2 hx3 hx4 hx5 hx6 hx7
    have hs := Lib.hid (all_drop wantB l k hlt z82)
    have hgd : rd_T82 l (k : Int) = l.getD k z82 := by simp [rd_T82]
    rw [hgd] at hx0 hx1 hx2 hx3 hx4 hx5 hx6 hx7
    clear hgd
    generalize hxe : l.getD k z82 = x at *
    clear hxe
    cases d0 : inB x.f0 1 8 with
    | false =>
      have hw : wantB x = false := by simp [wantB, d0]
      go_wp2_with (go_at_call 32; refine (in_calls _ _ _ _).mono ?_; rintro e _ ⟨rfl, rfl⟩)
      go_ret
      have e1 : r = 1 := by rw [HQ.out, hs.out, hw]; rfl
      exact ⟨by rw [e1]; first | done | rfl, below_alloc hB _⟩
    | true =>
    cases d1 : inB x.f1 1 8 with
    | false =>
      have hw : wantB x = false := by simp [wantB, d0, d1]
      go_wp2_with (go_at_call 32; refine (in_calls _ _ _ _).mono ?_; rintro e _ ⟨rfl, rfl⟩)
      go_ret
      have e1 : r = 1 := by rw [HQ.out, hs.out, hw]; rfl
      exact ⟨by rw [e1]; first | done | rfl, below_alloc hB _⟩
    | true =>
    cases d2 : inB x.f3 0 1000 with
    | false =>
      have hw : wantB x = false := by simp [wantB, d0, d1, d2]
      go_wp2_with (go_at_call 32; refine (in_calls _ _ _ _).mono ?_; rintro e _ ⟨rfl, rfl⟩)
      go_ret
      have e1 : r = 1 := by rw [HQ.out, hs.out, hw]; rfl
      exact ⟨by rw [e1]; first | done | rfl, below_alloc hB _⟩
    | true =>
    cases d3 : inB x.f4.f0 0 x.f4.f1 with
    | false =>
      have hw : wantB x = false := by simp [wantB, d0, d1, d2, d3]
      go_wp2_with (go_at_call 32; refine (in_calls _ _ _ _).mono ?_; rintro e _ ⟨rfl, rfl⟩)
      go_ret
      have e1 : r = 1 := by rw [HQ.out, hs.out, hw]; rfl
      exact ⟨by rw [e1]; first | done | rfl, below_alloc hB _⟩
    | true =>
    cases d4 : decide (7 < x.f4.f1) with
    | true =>
      have hw : wantB x = false := by simp [wantB, d0, d1, d2, d3, d4]
      go_wp2_with (go_at_call 32; refine (in_calls _ _ _ _).mono ?_; rintro e _ ⟨rfl, rfl⟩)
      go_ret
      have e1 : r = 1 := by rw [HQ.out, hs.out, hw]; rfl
      exact ⟨by rw [e1]; first | done | rfl, below_alloc hB _⟩
    | false =>
    cases d5 : inB x.f5.f0 0 x.f5.f1 with
    | false =>
      have hw : wantB x = false := by simp [wantB, d0, d1, d2, d3, d4, d5]
      go_wp2_with (go_at_call 32; refine (in_calls _ _ _ _).mono ?_; rintro e _ ⟨rfl, rfl⟩)
      go_ret
      have e1 : r = 1 := by rw [HQ.out, hs.out, hw]; rfl
      exact ⟨by rw [e1]; first | done | rfl, below_alloc hB _⟩
    | true =>
    cases d6 : decide (7 < x.f5.f1) with
    | true =>
      have hw : wantB x = false := by simp [wantB, d0, d1, d2, d3, d4, d5, d6]
      go_wp2_with (go_at_call 32; refine (in_calls _ _ _ _).mono ?_; rintro e _ ⟨rfl, rfl⟩)
      go_ret
      have e1 : r = 1 := by rw [HQ.out, hs.out, hw]; rfl
      exact ⟨by rw [e1]; first | done | rfl, below_alloc hB _⟩
    | false =>
    have hw : wantB x = true := by simp [wantB, d0, d1, d2, d3, d4, d5, d6]
    go_wp2_with (go_at_call 32; refine (in_calls _ _ _ _).mono ?_; rintro e _ ⟨rfl, rfl⟩)
    exact ⟨⟨k + 1, by simp, by omega, Lib.hid (by rw [HQ.out, hs.out, hw]; simp), blk_below HP.out (below_alloc (Below.refl _ _) _), below_alloc hB _⟩, by simp [intOf]; omega⟩

end Go.Proofs.Ytffjbaknglemdaa.X
