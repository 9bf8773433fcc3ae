import Derived.Test.YtffjbaknglemdaaHR3
import Derived.Test.YtffjbaknglemdaaHR4
namespace Go.Proofs.Ytffjbaknglemdaa.X
open Go.RowKit Go.Maps Go.Proofs.YtffjbaknglemdaaW.PrintWords Go.Proofs.YtffjbaknglemdaaW.PrintLast Go.Proofs.YtffjbaknglemdaaW.PrintMore
set_option linter.unusedSimpArgs false
set_option linter.unusedVariables false

/-! ### the reference: PlanFault 40 -/
def fitR (x : S82) (p : S88) : Bool := fitsR x.f0 x.f1 x.f2 x.f4.f0 x.f4.f1 x.f5.f0 x.f5.f1 p.f0 p.f1 p.f2 p.f3
def usedR (ps : List S88) (cs : List Bool) : List Int → List (Int × S82) → Bool
  | _, [] => true
  | prev, (n, x) :: r => if n < 0 then usedR ps cs (prev ++ [n]) r else if rdOf false cs n then false else if fitR x (rd_T88 ps n) then (if n ∈ prev then false else usedR ps cs (prev ++ [n]) r) else false
def finR (l : List S82) (uses : List Int) (st : List S88 × List Bool) : Int := if usedR st.1 st.2 [] (uses.zip l) then 0 else 11
def rangeR (m : Nat) (n : Int) : Bool := inB n (-1) ((m : Int) - 1)
def planFaultR (a0 a1 a2 : Int) (l : List S82) (cuts : List S107) (uses : List Int) : Int :=
  if 40 < cuts.length then 3 else match stepsR a2 ([⟨0, 0, a0, a1⟩], [false]) cuts with
  | none => 11
  | some st => if uses.length ≠ l.length then 2 else if uses.all (rangeR st.1.length) then finR l uses st else 2
theorem stepR_len {saw : Int} {st st' : List S88 × List Bool} {x : S107} (h : stepR saw st x = some st') (hl : st.2.length = st.1.length) : st'.2.length = st'.1.length ∧ st.1.length ≤ st'.1.length ∧ st'.1.length ≤ st.1.length + 2 := by
  unfold stepR at h
  have := partsR_len (rd_T88 st.1 x.f0) x.f1 x.f2 saw
  split at h
  · split at h
    · cases h
    · split at h
      · cases h
      · cases h; simp [hl]; omega
  · cases h
theorem stepsR_len {saw : Int} : ∀ (cuts : List S107) {st st' : List S88 × List Bool}, stepsR saw st cuts = some st' → st.2.length = st.1.length → st'.2.length = st'.1.length ∧ st.1.length ≤ st'.1.length ∧ st'.1.length ≤ st.1.length + 2 * cuts.length
  | [], st, st', h, hl => by cases h; exact ⟨hl, Nat.le_refl _, by simp⟩
  | x :: cuts, st, st', h, hl => by
    simp only [stepsR] at h
    cases hs : stepR saw st x with
    | none => rw [hs] at h; cases h
    | some s1 =>
      rw [hs] at h
      have h1 := stepR_len hs hl
      have h2 := stepsR_len cuts (st := s1) (st' := st') h h1.1
      simp only [List.length_cons]; omega
structure PFI (w : World) (a0 a1 a2 : Int) (sv cv uv v1 v2 : Value) (m : Nat) (ps : List S88) (cs : List Bool) (wr : World) : Prop where
  b0 : wr.heap[w.heap.size]? = some (.cells #[.int .i64 a0, .int .i64 a1, .int .i64 a2, sv] 24 (0, 0))
  b1 : wr.heap[w.heap.size + 1]? = some (.cells #[cv, uv] 37 (0, 0))
  ps : wr.ownsRow w.heap.size 88 4 v1 m (pvs ps)
  cs : wr.ownsRow w.heap.size 4 1 v2 m (bools cs)
  low : Below w.heap.size w wr
theorem PFI.below {w wr W : World} {a0 a1 a2 : Int} {sv cv uv v1 v2 : Value} {m : Nat} {ps : List S88} {cs : List Bool} (h : PFI w a0 a1 a2 sv cv uv v1 v2 m ps cs wr) (hb : Below wr.heap.size wr W) : PFI w a0 a1 a2 sv cv uv v1 v2 m ps cs W :=
  ⟨blk_below h.b0 hb, blk_below h.b1 hb, pw_own_below h.ps hb, pw_own_below h.cs hb, below_step h.low hb⟩
set_option maxRecDepth 100000 in
set_option maxHeartbeats 4000000 in
theorem planFault_calls (a0 a1 a2 : Int) (A : Option Addr) (c : Nat) (l : List S82) (B : Option Addr) (d : Nat) (cuts : List S107) (E : Option Addr) (k : Nat) (uses : List Int) (w : World) (hl : Kd.C k82 w A l.length l) (hq : Kd.C k107 w B cuts.length cuts) (hqd : cuts.length ≤ d) (hcm : cuts.length ≤ 1000) (hu : Kd.C (Kd.int .i64) w E uses.length uses) (hum : uses.length ≤ 1000) (hlm : l.length ≤ 1000) :
    Calls Try.prog 40 #[.agg #[.int .i64 a0, .int .i64 a1, .int .i64 a2, .slice A l.length c], .agg #[.slice B cuts.length d, .slice E uses.length k]] w fun e w' => e = .returned (.int .i64 (planFaultR a0 a1 a2 l cuts uses)) ∧ Below w.heap.size w w' := by
  have HL := Lib.hid hl
  have HQ := Lib.hid hq
  have HU := Lib.hid hu
  clear hl hq hu
  unfold planFaultR
  by_cases h40 : 40 < cuts.length
  · rw [if_pos h40]
    have hd : decide ((40 : Int) < (cuts.length : Int)) = true := decide_eq_true (by omega)
    clear h40
    go_enter Try.func40, Try.ntmps40
    go_wp2
    go_ret
    exact ⟨rfl, below_alloc (below_alloc (Below.refl _ _) _) _⟩
  rw [if_neg h40]
  have hd : decide ((40 : Int) < (cuts.length : Int)) = false := decide_eq_false (by omega)
  clear h40
  cases hst : stepsR a2 ([⟨0, 0, a0, a1⟩], [false]) cuts with
  | none =>
    have HST := Lib.hid hst
    clear hst
    go_enter Try.func40, Try.ntmps40
    go_wp2_with (go_at_call 50; refine (refPieces_calls a0 a1 a2 A l.length c B d cuts _ (Kd.C_below HQ.out (below_alloc (below_alloc (Below.refl _ _) _) _)) hqd hcm).mono ?_; rintro e w1 ⟨hb1, hend⟩; rw [HST.out] at hend; obtain rfl := hend)
    go_ret
    exact ⟨rfl, below_step (below_alloc (below_alloc (Below.refl _ _) _) _) hb1⟩
  | some st =>
  have hsl := stepsR_len cuts hst rfl
  have HST := Lib.hid hst
  clear hst
  obtain ⟨ps, cs⟩ := st
  dsimp only at hsl ⊢
  by_cases hlen : uses.length ≠ l.length
  · rw [if_pos hlen]
    have hbn : ((uses.length : Int) != (l.length : Int)) = true := bne_iff_ne.2 (by omega)
    clear hlen
    go_enter Try.func40, Try.ntmps40
    go_wp2_with (go_at_call 50; refine (refPieces_calls a0 a1 a2 A l.length c B d cuts _ (Kd.C_below HQ.out (below_alloc (below_alloc (Below.refl _ _) _) _)) hqd hcm).mono ?_; rintro e w1 ⟨hb1, hend⟩; rw [HST.out] at hend; obtain ⟨v1, v2, rfl, ow1, ow2⟩ := hend; have hx0 : w1.cell? ⟨w.heap.size, 3, none⟩ = some (.slice A l.length c) := (blk_cell (blk_below (blk_below (alloc_at rfl) (below_alloc (Below.refl _ _) _)) hb1) 3).trans rfl; have hx1 : w1.cell? ⟨w.heap.size + 1, 1, none⟩ = some (.slice E uses.length k) := (blk_cell (blk_below (alloc_at (by simp)) hb1) 1).trans rfl)
    go_ret
    exact ⟨rfl, below_step (below_alloc (below_alloc (Below.refl _ _) _) _) hb1⟩
  rw [if_neg hlen]
  have hlen : uses.length = l.length := by omega
  have hbn : ((uses.length : Int) != (l.length : Int)) = false := by simp [hlen]
  obtain ⟨m, hm⟩ : ∃ m, ps.length = m := ⟨_, rfl⟩
  obtain ⟨r, hr⟩ : ∃ r, (if uses.all (rangeR ps.length) then finR l uses (ps, cs) else 2) = r := ⟨_, rfl⟩
  rw [hr]
  rw [hm] at hr
  have HR0 : Hid ((if (uses.drop 0).all (rangeR m) then finR l uses (ps, cs) else 2) = r) := Lib.hid hr
  have hm2 : m ≤ 3000 := by have := hsl.2.2; simp at this; omega
  have HM := Lib.hid hm
  have HCM : Hid (cs.length = m) := Lib.hid (by rw [hsl.1, hm])
  have HA0 : Hid (∀ i : Nat, i < 0 → rangeR m (rd uses (i : Int)) = true) := Lib.hid (fun i h => by omega)
  have HLE := Lib.hid hlen
  have hll : l.length ≤ 1000 := by omega
  clear hr hsl hm hlen
  go_enter Try.func40, Try.ntmps40
  go_wp2_with (go_at_call 50; refine (refPieces_calls a0 a1 a2 A l.length c B d cuts _ (Kd.C_below HQ.out (below_alloc (below_alloc (Below.refl _ _) _) _)) hqd hcm).mono ?_; rintro e w1 ⟨hb1, hend⟩; rw [HST.out] at hend; obtain ⟨v1, v2, rfl, ow1, ow2⟩ := hend; rw [HM.out] at ow1; rw [HCM.out] at ow2; obtain ⟨A1, c1, rfl⟩ := own_form ow1; obtain ⟨A2, c2, rfl⟩ := own_form ow2; have hx0 : w1.cell? ⟨w.heap.size, 3, none⟩ = some (.slice A l.length c) := (blk_cell (blk_below (blk_below (alloc_at rfl) (below_alloc (Below.refl _ _) _)) hb1) 3).trans rfl; have hx1 : w1.cell? ⟨w.heap.size + 1, 1, none⟩ = some (.slice E uses.length k) := (blk_cell (blk_below (alloc_at (by simp)) hb1) 1).trans rfl)
  have HI0 : Hid (PFI w a0 a1 a2 (.slice A l.length c) (.slice B cuts.length d) (.slice E uses.length k) (.slice A1 m c1) (.slice A2 m c2) m ps cs w1) :=
    Lib.hid ⟨blk_below (blk_below (alloc_at rfl) (below_alloc (Below.refl _ _) _)) hb1, blk_below (alloc_at (by simp)) hb1, own_weaken ow1 (by simp; omega), own_weaken ow2 (by simp; omega), below_step (below_alloc (below_alloc (Below.refl _ _) _) _) hb1⟩
  clear ow1 ow2 hx0 hx1 hb1 hbn hd HST
  go_loopw [8] (fun v wr => ∃ j : Nat, v = .int .i64 j ∧ j ≤ uses.length ∧ Hid ((if (uses.drop j).all (rangeR m) then finR l uses (ps, cs) else 2) = r) ∧ Hid (∀ i : Nat, i < j → rangeR m (rd uses (i : Int)) = true) ∧ Hid (PFI w a0 a1 a2 (.slice A l.length c) (.slice B cuts.length d) (.slice E uses.length k) (.slice A1 m c1) (.slice A2 m c2) m ps cs wr)) (fun v _ => uses.length - (intOf v).toNat)
  case atStart => exact ⟨0, rfl, Nat.zero_le _, HR0, HA0, HI0⟩
  case round =>
  clear HI0 HR0 HA0
  obtain ⟨j, rfl, hj, HJ, HA, HI⟩ := hrel
  have hx1 : wr.cell? ⟨w.heap.size + 1, 1, none⟩ = some (.slice E uses.length k) := (blk_cell HI.out.b1 1).trans rfl
  by_cases hlt : j < uses.length
  · have hj0 : (0 : Int) ≤ (j : Int) := by omega
    have hj1 : (j : Int) < (uses.length : Int) := by omega
    obtain ⟨ad, rfl, hy⟩ := Kd.at_int (Kd.C_below HU.out HI.out.low) (j : Int) hj0 hj1
    simp only [Int.toNat_natCast] at hy
    have hdr : uses.drop j = rd uses (j : Int) :: uses.drop (j + 1) := by rw [List.drop_eq_getElem_cons hlt]; simp [rd, hlt, List.getD_eq_getElem?_getD]
    obtain ⟨u, hu⟩ : ∃ u, rd uses (j : Int) = u := ⟨_, rfl⟩
    rw [hu] at hy hdr
    have HDR := Lib.hid hdr
    have HU2 := Lib.hid hu
    clear hdr hu
    cases hin : inB u (-1) ((m : Int) - 1) with
    | false =>
      have hr : r = 2 := by rw [← HJ.out, HDR.out, List.all_cons, show rangeR m u = false from hin]; rfl
      subst hr
      go_wp2_with (go_at_call 32; refine (in_calls _ _ _ _).mono ?_; rintro e _ ⟨rfl, rfl⟩)
      go_ret
      exact ⟨rfl, HI.out.low⟩
    | true =>
      have HJ2 : Hid ((if (uses.drop (j + 1)).all (rangeR m) then finR l uses (ps, cs) else 2) = r) := Lib.hid (by rw [← HJ.out, HDR.out, List.all_cons, show rangeR m u = true from hin, Bool.true_and])
      have HA2 : Hid (∀ i : Nat, i < j + 1 → rangeR m (rd uses (i : Int)) = true) := Lib.hid (fun i h => by
        rcases Nat.lt_succ_iff_lt_or_eq.1 h with h | rfl
        · exact HA.out i h
        · rw [HU2.out]; exact hin)
      go_wp2_with (go_at_call 32; refine (in_calls _ _ _ _).mono ?_; rintro e _ ⟨rfl, rfl⟩)
      go_roundw
      case rel => exact ⟨j + 1, by go_num, by omega, HJ2, HA2, HI⟩
      case measure => simp [intOf]; omega
  obtain rfl : j = uses.length := by omega
  have HFIN : Hid ((if usedR ps cs (uses.take 0) ((uses.drop 0).zip (l.drop 0)) then 0 else 11) = r) := Lib.hid (by have := HJ.out; rw [List.drop_length] at this; exact this)
  clear HJ hj hlt
  go_wp2
  go_loopw [9] (fun v wr => ∃ j : Nat, v = .int .i64 j ∧ j ≤ uses.length ∧ Hid ((if usedR ps cs (uses.take j) ((uses.drop j).zip (l.drop j)) then 0 else 11) = r) ∧ Hid (PFI w a0 a1 a2 (.slice A l.length c) (.slice B cuts.length d) (.slice E uses.length k) (.slice A1 m c1) (.slice A2 m c2) m ps cs wr)) (fun v _ => uses.length - (intOf v).toNat)
  case atStart => exact ⟨0, rfl, Nat.zero_le _, HFIN, HI⟩
  case round =>
  clear HFIN HI hx1
  obtain ⟨j, rfl, hj, HJ, HI⟩ := hrel
  have hx1 : wr.cell? ⟨w.heap.size + 1, 1, none⟩ = some (.slice E uses.length k) := (blk_cell HI.out.b1 1).trans rfl
  by_cases hlt : j < uses.length
  rotate_left
  · obtain rfl : j = uses.length := by omega
    have hr : r = 0 := by rw [← HJ.out, List.drop_length]; rfl
    subst hr
    go_wp2
    go_ret
    exact ⟨rfl, HI.out.low⟩
  have hj0 : (0 : Int) ≤ (j : Int) := by omega
  have hj1 : (j : Int) < (uses.length : Int) := by omega
  have hj2 : (j : Int) < (l.length : Int) := by have := HLE.out; omega
  obtain ⟨ad, rfl, hy⟩ := Kd.at_int (Kd.C_below HU.out HI.out.low) (j : Int) hj0 hj1
  simp only [Int.toNat_natCast] at hy
  obtain ⟨adl, rfl, hl0, hl1, hl2, hl3, hl4, hl5, hl6, hl7⟩ := at_T82 (Kd.C_below HL.out HI.out.low) (j : Int) hj0 hj2
  simp only [Int.toNat_natCast] at hl0 hl1 hl2 hl3 hl4 hl5 hl6 hl7
  have hdr : uses.drop j = rd uses (j : Int) :: uses.drop (j + 1) := by rw [List.drop_eq_getElem_cons hlt]; simp [rd, hlt, List.getD_eq_getElem?_getD]
  have htk : uses.take (j + 1) = uses.take j ++ [rd uses (j : Int)] := by rw [List.take_succ_eq_append_getElem hlt]; simp [rd, hlt, List.getD_eq_getElem?_getD]
  have hdl : l.drop j = rd_T82 l (j : Int) :: l.drop (j + 1) := by rw [List.drop_eq_getElem_cons (by omega)]; simp [rd_T82, show j < l.length by omega, List.getD_eq_getElem?_getD]
  have hrg := HA.out j hlt
  generalize rd uses (j : Int) = n at hy hdr htk hrg
  generalize rd_T82 l (j : Int) = x at hl0 hl1 hl2 hl3 hl4 hl5 hl6 hl7 hdl
  have hus : (if (if n < 0 then usedR ps cs (uses.take (j + 1)) ((uses.drop (j + 1)).zip (l.drop (j + 1))) else if rdOf false cs n then false else if fitR x (rd_T88 ps n) then (if n ∈ uses.take j then false else usedR ps cs (uses.take (j + 1)) ((uses.drop (j + 1)).zip (l.drop (j + 1)))) else false) = true then (0 : Int) else 11) = r := by
    have := HJ.out
    rw [hdr, hdl, List.zip_cons_cons, usedR, ← htk] at this
    exact this
  have HUS := Lib.hid hus
  have HTK := Lib.hid htk
  clear hdr htk hdl hus HJ
  by_cases hn : n < 0
  · have hbn : decide (n < 0) = true := decide_eq_true hn
    have HJ2 := HUS.out
    rw [if_pos hn] at HJ2
    have HJ3 := Lib.hid HJ2
    clear HJ2 HUS hn hrg hl0 hl1 hl2 hl3 hl4 hl5 hl6 hl7
    go_wp2
    go_roundw
    case rel => exact ⟨j + 1, by go_num, by omega, HJ3, HI⟩
    case measure => simp [intOf]; omega
  have hbn : decide (n < 0) = false := decide_eq_false hn
  have hn0 : 0 ≤ n := by omega
  have hn1 : n < (m : Int) := by unfold rangeR inB at hrg; simp at hrg; omega
  have HUS2 := HUS.out
  rw [if_neg hn] at HUS2
  clear HUS hn hrg
  have i1 := HI.out.ps
  have i2 := HI.out.cs
  obtain ⟨g2, c2', hv2, hlo2, hg2⟩ := i2.form (by omega)
  obtain ⟨rfl, rfl⟩ : A2 = some ⟨g2, 0, none⟩ ∧ c2 = c2' := by injection hv2 with e1 e2 e3; exact ⟨e1, e3⟩
  clear hv2
  have hmk := own_at_of (enc := Value.bool) (d := false) i2 n hn0 hn1
  have hR1 := own_R88 (ok := fun _ => True) (by rw [HM.out]; exact i1) (fun _ _ => trivial)
  obtain ⟨-, -, hCC⟩ := Kd.R_reads' hR1
  obtain ⟨ad1, rfl, hp0, hp1, hp2, hp3⟩ := at_T88 hCC n hn0 (by rw [HM.out]; exact hn1)
  clear hR1 hCC i1 i2
  generalize rd_T88 ps n = p at HUS2 hp0 hp1 hp2 hp3
  have hx3 : wr.cell? ⟨w.heap.size, 3, none⟩ = some (.slice (some adl) l.length c) := (blk_cell HI.out.b0 3).trans rfl
  cases hcut : rdOf false cs n with
  | true =>
    rw [hcut] at hmk
    obtain ⟨hmk1, hmk2⟩ := hmk
    have hr : r = 11 := by rw [← HUS2, hcut]; rfl
    subst hr
    clear HUS2 hl0 hl1 hl2 hl3 hl4 hl5 hl6 hl7 hp0 hp1 hp2 hp3
    go_wp2
    refine start_ (n := 17) (S := fun w' => w'.cell? ⟨g2, n.toNat, none⟩ = some (.bool true)) (ds := []) #[false, false, false, false, false, false, false, false, false, false, false, false, false, false, false, false, false] (by kernel_rfl) rfl rfl (hmk1) (fun hHeld => ?_)
    refine pure_ (i := 0) (N := some 64) (v := ?_) (a' := ?_) #[true, false, false, false, false, false, false, false, false, false, false, false, false, false, false, false, false] rfl rfl (by kernel_rfl) (fun _ _ _ h => h) (Or.inl ⟨by rfl, ?_⟩) ?_ ?_
    rotate_left
    · intro w'
      go_simp
      with_reducible rfl
    rotate_left
    · simp only [Act.put, List.setIfInBounds_toArray, List.set_cons_zero, List.set_cons_succ, i64_w, i32_w]
      rfl
    refine pure_ (i := 1) (N := some 65) (v := ?_) (a' := ?_) #[true, true, false, false, false, false, false, false, false, false, false, false, false, false, false, false, false] rfl rfl (by kernel_rfl) (fun _ _ _ h => h) (Or.inl ⟨by rfl, ?_⟩) ?_ ?_
    rotate_left
    · intro w'
      go_simp
      with_reducible rfl
    rotate_left
    · simp only [Act.put, List.setIfInBounds_toArray, List.set_cons_zero, List.set_cons_succ, i64_w, i32_w]
      rfl
    refine pure_ (i := 2) (N := some 66) (v := ?_) (a' := ?_) #[true, true, true, false, false, false, false, false, false, false, false, false, false, false, false, false, false] rfl rfl (by kernel_rfl) (fun _ _ _ h => h) (Or.inl ⟨by rfl, ?_⟩) ?_ ?_
    rotate_left
    · intro w'
      go_simp
      with_reducible rfl
    rotate_left
    · simp only [Act.put, List.setIfInBounds_toArray, List.set_cons_zero, List.set_cons_succ, i64_w, i32_w]
      rfl
    refine take_ (i := 3) (N := some 67) (v := ?_) (a' := ?_) #[true, true, true, true, false, false, false, false, false, false, false, false, false, false, false, false, false] rfl rfl (by kernel_rfl) (fun _ _ _ h => h) (Or.inl ⟨by rfl, ?_⟩) hHeld ?_ ?_
    rotate_left
    · intro w' s0
      go_simp
      with_reducible rfl
    rotate_left
    · simp only [Act.put, List.setIfInBounds_toArray, List.set_cons_zero, List.set_cons_succ, i64_w, i32_w]
      rfl
    refine pure_ (i := 4) (N := some 68) (v := ?_) (a' := ?_) #[true, true, true, true, true, false, false, false, false, false, false, false, false, false, false, false, false] rfl rfl (by kernel_rfl) (fun _ _ _ h => h) (Or.inl ⟨by rfl, ?_⟩) ?_ ?_
    rotate_left
    · intro w'
      go_simp
      with_reducible rfl
    rotate_left
    · simp only [Act.put, List.setIfInBounds_toArray, List.set_cons_zero, List.set_cons_succ, i64_w, i32_w]
      rfl
    refine pure_ (i := 5) (N := some 69) (v := undef) (a' := ?_) #[true, true, true, true, true, true, false, false, false, false, false, false, false, false, false, false, false] rfl rfl (by kernel_rfl) (fun _ _ _ h => h) (Or.inr ⟨by rfl, rfl⟩) ?_ ?_
    rotate_left
    · simp only [Act.put, List.setIfInBounds_toArray, List.set_cons_zero, List.set_cons_succ, i64_w, i32_w]
      rfl
    refine pure_ (i := 6) (N := some 70) (v := undef) (a' := ?_) #[true, true, true, true, true, true, true, false, false, false, false, false, false, false, false, false, false] rfl rfl (by kernel_rfl) (fun _ _ _ h => h) (Or.inr ⟨by rfl, rfl⟩) ?_ ?_
    rotate_left
    · simp only [Act.put, List.setIfInBounds_toArray, List.set_cons_zero, List.set_cons_succ, i64_w, i32_w]
      rfl
    refine pure_ (i := 7) (N := some 71) (v := undef) (a' := ?_) #[true, true, true, true, true, true, true, true, false, false, false, false, false, false, false, false, false] rfl rfl (by kernel_rfl) (fun _ _ _ h => h) (Or.inr ⟨by rfl, rfl⟩) ?_ ?_
    rotate_left
    · simp only [Act.put, List.setIfInBounds_toArray, List.set_cons_zero, List.set_cons_succ, i64_w, i32_w]
      rfl
    refine pure_ (i := 8) (N := some 72) (v := undef) (a' := ?_) #[true, true, true, true, true, true, true, true, true, false, false, false, false, false, false, false, false] rfl rfl (by kernel_rfl) (fun _ _ _ h => h) (Or.inr ⟨by rfl, rfl⟩) ?_ ?_
    rotate_left
    · simp only [Act.put, List.setIfInBounds_toArray, List.set_cons_zero, List.set_cons_succ, i64_w, i32_w]
      rfl
    refine pure_ (i := 9) (N := some 73) (v := undef) (a' := ?_) #[true, true, true, true, true, true, true, true, true, true, false, false, false, false, false, false, false] rfl rfl (by kernel_rfl) (fun _ _ _ h => h) (Or.inr ⟨by rfl, rfl⟩) ?_ ?_
    rotate_left
    · simp only [Act.put, List.setIfInBounds_toArray, List.set_cons_zero, List.set_cons_succ, i64_w, i32_w]
      rfl
    refine pure_ (i := 10) (N := some 74) (v := undef) (a' := ?_) #[true, true, true, true, true, true, true, true, true, true, true, false, false, false, false, false, false] rfl rfl (by kernel_rfl) (fun _ _ _ h => h) (Or.inr ⟨by rfl, rfl⟩) ?_ ?_
    rotate_left
    · simp only [Act.put, List.setIfInBounds_toArray, List.set_cons_zero, List.set_cons_succ, i64_w, i32_w]
      rfl
    refine pure_ (i := 11) (N := some 75) (v := undef) (a' := ?_) #[true, true, true, true, true, true, true, true, true, true, true, true, false, false, false, false, false] rfl rfl (by kernel_rfl) (fun _ _ _ h => h) (Or.inr ⟨by rfl, rfl⟩) ?_ ?_
    rotate_left
    · simp only [Act.put, List.setIfInBounds_toArray, List.set_cons_zero, List.set_cons_succ, i64_w, i32_w]
      rfl
    refine pure_ (i := 12) (N := some 76) (v := undef) (a' := ?_) #[true, true, true, true, true, true, true, true, true, true, true, true, true, false, false, false, false] rfl rfl (by kernel_rfl) (fun _ _ _ h => h) (Or.inr ⟨by rfl, rfl⟩) ?_ ?_
    rotate_left
    · simp only [Act.put, List.setIfInBounds_toArray, List.set_cons_zero, List.set_cons_succ, i64_w, i32_w]
      rfl
    refine pure_ (i := 13) (N := some 77) (v := undef) (a' := ?_) #[true, true, true, true, true, true, true, true, true, true, true, true, true, true, false, false, false] rfl rfl (by kernel_rfl) (fun _ _ _ h => h) (Or.inr ⟨by rfl, rfl⟩) ?_ ?_
    rotate_left
    · simp only [Act.put, List.setIfInBounds_toArray, List.set_cons_zero, List.set_cons_succ, i64_w, i32_w]
      rfl
    refine pure_ (i := 14) (N := some 78) (v := undef) (a' := ?_) #[true, true, true, true, true, true, true, true, true, true, true, true, true, true, true, false, false] rfl rfl (by kernel_rfl) (fun _ _ _ h => h) (Or.inr ⟨by rfl, rfl⟩) ?_ ?_
    rotate_left
    · simp only [Act.put, List.setIfInBounds_toArray, List.set_cons_zero, List.set_cons_succ, i64_w, i32_w]
      rfl
    refine pure_ (i := 15) (N := some 79) (v := undef) (a' := ?_) #[true, true, true, true, true, true, true, true, true, true, true, true, true, true, true, true, false] rfl rfl (by kernel_rfl) (fun _ _ _ h => h) (Or.inr ⟨by rfl, rfl⟩) ?_ ?_
    rotate_left
    · simp only [Act.put, List.setIfInBounds_toArray, List.set_cons_zero, List.set_cons_succ, i64_w, i32_w]
      rfl
    refine pure_ (i := 16) (N := some 80) (v := ?_) (a' := ?_) #[true, true, true, true, true, true, true, true, true, true, true, true, true, true, true, true, true] rfl rfl (by kernel_rfl) (fun _ _ _ h => h) (Or.inl ⟨by rfl, ?_⟩) ?_ ?_
    rotate_left
    · intro w'
      go_simp
      with_reducible rfl
    rotate_left
    · simp only [Act.put, List.setIfInBounds_toArray, List.set_cons_zero, List.set_cons_succ, i64_w, i32_w]
      rfl
    refine done_ (by kernel_rfl) ?_
    go_wp2
    go_ret
    exact ⟨rfl, below_drew1 HI.out.low⟩
  | false =>
  rw [hcut] at hmk
  obtain ⟨hmk1, hmk2⟩ := hmk
  rw [hcut] at HUS2
  simp only [Bool.false_eq_true, if_false] at HUS2
  have h44 := fits_calls x.f0 x.f1 x.f2 x.f3 x.f4.f0 x.f4.f1 x.f5.f0 x.f5.f1 p.f0 p.f1 p.f2 p.f3
  rw [show fitsR x.f0 x.f1 x.f2 x.f4.f0 x.f4.f1 x.f5.f0 x.f5.f1 p.f0 p.f1 p.f2 p.f3 = fitR x p from rfl] at h44
  generalize fitR x p = fr at HUS2 h44
  have H44 := Lib.hid h44
  have HUS := Lib.hid HUS2
  clear h44 HUS2
  go_wp2
  refine start_ (n := 17) (S := fun w' => w'.cell? ⟨g2, n.toNat, none⟩ = some (.bool false) ∧ w'.cell? ⟨w.heap.size, 3, none⟩ = some (.slice (some adl) l.length c) ∧ w'.cell? (adl.add (j * 8)) = some (.int .i64 x.f0) ∧ w'.cell? ⟨(adl.add (j * 8)).block, (adl.add (j * 8)).off + 1, none⟩ = some (.int .i64 x.f1) ∧ w'.cell? ⟨(adl.add (j * 8)).block, (adl.add (j * 8)).off + 2, none⟩ = some (.bool x.f2) ∧ w'.cell? ⟨(adl.add (j * 8)).block, (adl.add (j * 8)).off + 3, none⟩ = some (.int .i64 x.f3) ∧ w'.cell? ⟨(adl.add (j * 8)).block, (adl.add (j * 8)).off + 4, none⟩ = some (.int .i64 x.f4.f0) ∧ w'.cell? ⟨(adl.add (j * 8)).block, (adl.add (j * 8)).off + 5, none⟩ = some (.int .i64 x.f4.f1) ∧ w'.cell? ⟨(adl.add (j * 8)).block, (adl.add (j * 8)).off + 6, none⟩ = some (.int .i64 x.f5.f0) ∧ w'.cell? ⟨(adl.add (j * 8)).block, (adl.add (j * 8)).off + 7, none⟩ = some (.int .i64 x.f5.f1) ∧ w'.cell? (ad1.add (n.toNat * 4)) = some (.int .i64 p.f0) ∧ w'.cell? ⟨(ad1.add (n.toNat * 4)).block, (ad1.add (n.toNat * 4)).off + 1, none⟩ = some (.int .i64 p.f1) ∧ w'.cell? ⟨(ad1.add (n.toNat * 4)).block, (ad1.add (n.toNat * 4)).off + 2, none⟩ = some (.int .i64 p.f2) ∧ w'.cell? ⟨(ad1.add (n.toNat * 4)).block, (ad1.add (n.toNat * 4)).off + 3, none⟩ = some (.int .i64 p.f3)) (ds := []) #[false, false, false, false, false, false, false, false, false, false, false, false, false, false, false, false, false] (by kernel_rfl) rfl rfl ⟨hmk1, hx3, hl0, hl1, hl2, hl3, hl4, hl5, hl6, hl7, hp0, hp1, hp2, hp3⟩ (fun hHeld => ?_)
  refine pure_ (i := 0) (N := some 64) (v := ?_) (a' := ?_) #[true, false, false, false, false, false, false, false, false, false, false, false, false, false, false, false, false] rfl rfl (by kernel_rfl) (fun _ _ _ h => h) (Or.inl ⟨by rfl, ?_⟩) ?_ ?_
  rotate_left
  · intro w'
    go_simp
    with_reducible rfl
  rotate_left
  · simp only [Act.put, List.setIfInBounds_toArray, List.set_cons_zero, List.set_cons_succ, i64_w, i32_w]
    rfl
  refine pure_ (i := 1) (N := some 65) (v := ?_) (a' := ?_) #[true, true, false, false, false, false, false, false, false, false, false, false, false, false, false, false, false] rfl rfl (by kernel_rfl) (fun _ _ _ h => h) (Or.inl ⟨by rfl, ?_⟩) ?_ ?_
  rotate_left
  · intro w'
    go_simp
    with_reducible rfl
  rotate_left
  · simp only [Act.put, List.setIfInBounds_toArray, List.set_cons_zero, List.set_cons_succ, i64_w, i32_w]
    rfl
  refine pure_ (i := 2) (N := some 66) (v := ?_) (a' := ?_) #[true, true, true, false, false, false, false, false, false, false, false, false, false, false, false, false, false] rfl rfl (by kernel_rfl) (fun _ _ _ h => h) (Or.inl ⟨by rfl, ?_⟩) ?_ ?_
  rotate_left
  · intro w'
    go_simp
    with_reducible rfl
  rotate_left
  · simp only [Act.put, List.setIfInBounds_toArray, List.set_cons_zero, List.set_cons_succ, i64_w, i32_w]
    rfl
  refine take_ (i := 3) (N := some 67) (v := ?_) (a' := ?_) #[true, true, true, true, false, false, false, false, false, false, false, false, false, false, false, false, false] rfl rfl (by kernel_rfl) (fun _ _ _ h => h) (Or.inl ⟨by rfl, ?_⟩) hHeld ?_ ?_
  rotate_left
  · rintro w' ⟨s0, s1, s2, s3, s4, s5, s6, s7, s8, s9, s10, s11, s12, s13⟩
    go_simp
    with_reducible rfl
  rotate_left
  · simp only [Act.put, List.setIfInBounds_toArray, List.set_cons_zero, List.set_cons_succ, i64_w, i32_w]
    rfl
  refine pure_ (i := 4) (N := some 68) (v := ?_) (a' := ?_) #[true, true, true, true, true, false, false, false, false, false, false, false, false, false, false, false, false] rfl rfl (by kernel_rfl) (fun _ _ _ h => h) (Or.inl ⟨by rfl, ?_⟩) ?_ ?_
  rotate_left
  · intro w'
    go_simp
    with_reducible rfl
  rotate_left
  · simp only [Act.put, List.setIfInBounds_toArray, List.set_cons_zero, List.set_cons_succ, i64_w, i32_w]
    rfl
  refine pure_ (i := 5) (N := some 69) (v := ?_) (a' := ?_) #[true, true, true, true, true, true, false, false, false, false, false, false, false, false, false, false, false] rfl rfl (by kernel_rfl) (fun _ _ _ h => h) (Or.inl ⟨by rfl, ?_⟩) ?_ ?_
  rotate_left
  · intro w'
    go_simp
    with_reducible rfl
  rotate_left
  · simp only [Act.put, List.setIfInBounds_toArray, List.set_cons_zero, List.set_cons_succ, i64_w, i32_w]
    rfl
  refine pure_ (i := 7) (N := some 71) (v := ?_) (a' := ?_) #[true, true, true, true, true, true, false, true, false, false, false, false, false, false, false, false, false] rfl rfl (by kernel_rfl) (fun _ _ _ h => h) (Or.inl ⟨by rfl, ?_⟩) ?_ ?_
  rotate_left
  · intro w'
    go_simp
    with_reducible rfl
  rotate_left
  · simp only [Act.put, List.setIfInBounds_toArray, List.set_cons_zero, List.set_cons_succ, i64_w, i32_w]
    rfl
  refine pure_ (i := 10) (N := some 74) (v := ?_) (a' := ?_) #[true, true, true, true, true, true, false, true, false, false, true, false, false, false, false, false, false] rfl rfl (by kernel_rfl) (fun _ _ _ h => h) (Or.inl ⟨by rfl, ?_⟩) ?_ ?_
  rotate_left
  · intro w'
    go_simp
    with_reducible rfl
  rotate_left
  · simp only [Act.put, List.setIfInBounds_toArray, List.set_cons_zero, List.set_cons_succ, i64_w, i32_w]
    rfl
  refine pure_ (i := 11) (N := some 75) (v := ?_) (a' := ?_) #[true, true, true, true, true, true, false, true, false, false, true, true, false, false, false, false, false] rfl rfl (by kernel_rfl) (fun _ _ _ h => h) (Or.inl ⟨by rfl, ?_⟩) ?_ ?_
  rotate_left
  · intro w'
    go_simp
    with_reducible rfl
  rotate_left
  · simp only [Act.put, List.setIfInBounds_toArray, List.set_cons_zero, List.set_cons_succ, i64_w, i32_w]
    rfl
  refine pure_ (i := 12) (N := some 76) (v := ?_) (a' := ?_) #[true, true, true, true, true, true, false, true, false, false, true, true, true, false, false, false, false] rfl rfl (by kernel_rfl) (fun _ _ _ h => h) (Or.inl ⟨by rfl, ?_⟩) ?_ ?_
  rotate_left
  · intro w'
    go_simp
    with_reducible rfl
  rotate_left
  · simp only [Act.put, List.setIfInBounds_toArray, List.set_cons_zero, List.set_cons_succ, i64_w, i32_w]
    rfl
  refine take_ (i := 6) (N := some 70) (v := ?_) (a' := ?_) #[true, true, true, true, true, true, true, true, false, false, true, true, true, false, false, false, false] rfl rfl (by kernel_rfl) (fun _ _ _ h => h) (Or.inl ⟨by rfl, ?_⟩) hHeld ?_ ?_
  rotate_left
  · rintro w' ⟨s0, s1, s2, s3, s4, s5, s6, s7, s8, s9, s10, s11, s12, s13⟩
    go_simp
    with_reducible rfl
  rotate_left
  · simp only [Act.put, List.setIfInBounds_toArray, List.set_cons_zero, List.set_cons_succ, i64_w, i32_w]
    rfl
  refine pure_ (i := 8) (N := some 72) (v := ?_) (a' := ?_) #[true, true, true, true, true, true, true, true, true, false, true, true, true, false, false, false, false] rfl rfl (by kernel_rfl) (fun _ _ _ h => h) (Or.inl ⟨by rfl, ?_⟩) ?_ ?_
  rotate_left
  · intro w'
    go_simp
    with_reducible rfl
  rotate_left
  · simp only [Act.put, List.setIfInBounds_toArray, List.set_cons_zero, List.set_cons_succ, i64_w, i32_w]
    rfl
  refine take_ (i := 9) (N := some 73) (v := ?_) (a' := ?_) #[true, true, true, true, true, true, true, true, true, true, true, true, true, false, false, false, false] rfl rfl (by kernel_rfl) (fun _ _ _ h => h) (Or.inl ⟨by rfl, ?_⟩) hHeld ?_ ?_
  rotate_left
  · rintro w' ⟨s0, s1, s2, s3, s4, s5, s6, s7, s8, s9, s10, s11, s12, s13⟩
    go_simp
    with_reducible rfl
  rotate_left
  · simp only [Act.put, List.setIfInBounds_toArray, List.set_cons_zero, List.set_cons_succ, i64_w, i32_w]
    rfl
  refine take_ (i := 13) (N := some 77) (v := ?_) (a' := ?_) #[true, true, true, true, true, true, true, true, true, true, true, true, true, true, false, false, false] rfl rfl (by kernel_rfl) (fun _ _ _ h => h) (Or.inl ⟨by rfl, ?_⟩) hHeld ?_ ?_
  rotate_left
  · rintro w' ⟨s0, s1, s2, s3, s4, s5, s6, s7, s8, s9, s10, s11, s12, s13⟩
    go_simp
    with_reducible rfl
  rotate_left
  · simp only [Act.put, List.setIfInBounds_toArray, List.set_cons_zero, List.set_cons_succ, i64_w, i32_w]
    rfl
  refine one_ (i := 14) (N := some 78) #[true, true, true, true, true, true, true, true, true, true, true, true, true, true, true, false, false] rfl rfl (by kernel_rfl) (by decide) (fun K hK => ?_)
  refine goes_ Try.func44 (by kernel_rfl) rfl #[.agg #[.int .i64 x.f0, .int .i64 x.f1, .bool x.f2, .int .i64 x.f3, .int .i64 x.f4.f0, .int .i64 x.f4.f1, .int .i64 x.f5.f0, .int .i64 x.f5.f1], .agg #[.int .i64 p.f0, .int .i64 p.f1, .int .i64 p.f2, .int .i64 p.f3]] (by rfl) rfl rfl (by simp only [List.map_toArray, List.map_cons, List.map_nil]; rfl) ?_
  with_reducible refine (H44.out _).mono ?_
  rintro e W2 ⟨rfl, hs⟩
  refine ⟨_, rfl, ?_⟩
  refine hK.out _ _ ⟨(pw_cell_below hs hHeld.1), (pw_cell_below hs hHeld.2.1), (pw_cell_below hs hHeld.2.2.1), (pw_cell_below hs hHeld.2.2.2.1), (pw_cell_below hs hHeld.2.2.2.2.1), (pw_cell_below hs hHeld.2.2.2.2.2.1), (pw_cell_below hs hHeld.2.2.2.2.2.2.1), (pw_cell_below hs hHeld.2.2.2.2.2.2.2.1), (pw_cell_below hs hHeld.2.2.2.2.2.2.2.2.1), (pw_cell_below hs hHeld.2.2.2.2.2.2.2.2.2.1), (pw_cell_below hs hHeld.2.2.2.2.2.2.2.2.2.2.1), (pw_cell_below hs hHeld.2.2.2.2.2.2.2.2.2.2.2.1), (pw_cell_below hs hHeld.2.2.2.2.2.2.2.2.2.2.2.2.1), (pw_cell_below hs hHeld.2.2.2.2.2.2.2.2.2.2.2.2.2)⟩ (fun hHeld => ?_)
  clear hK K
  refine norm_ (a' := ?_) ?_ ?_
  rotate_left
  · show Act.put _ (some 78) _ = _
    simp only [Act.put, List.setIfInBounds_toArray, List.set_cons_zero, List.set_cons_succ, i64_w, i32_w]
    rfl
  refine pure_ (i := 15) (N := some 79) (v := ?_) (a' := ?_) #[true, true, true, true, true, true, true, true, true, true, true, true, true, true, true, true, false] rfl rfl (by kernel_rfl) (fun _ _ _ h => h) (Or.inl ⟨by rfl, ?_⟩) ?_ ?_
  rotate_left
  · intro w'
    go_simp
    with_reducible rfl
  rotate_left
  · simp only [Act.put, List.setIfInBounds_toArray, List.set_cons_zero, List.set_cons_succ, i64_w, i32_w]
    rfl
  refine pure_ (i := 16) (N := some 80) (v := ?_) (a' := ?_) #[true, true, true, true, true, true, true, true, true, true, true, true, true, true, true, true, true] rfl rfl (by kernel_rfl) (fun _ _ _ h => h) (Or.inl ⟨by rfl, ?_⟩) ?_ ?_
  rotate_left
  · intro w'
    go_simp
    with_reducible rfl
  rotate_left
  · simp only [Act.put, List.setIfInBounds_toArray, List.set_cons_zero, List.set_cons_succ, i64_w, i32_w]
    rfl
  refine done_ (by kernel_rfl) ?_
  have HI2 : Hid (PFI w a0 a1 a2 (.slice (some adl) l.length c) (.slice B cuts.length d) (.slice (some ad) uses.length k) (.slice (some ad1) m c1) (.slice (some ⟨g2, 0, none⟩) m c2) m ps cs W2) := Lib.hid ((HI.out.below (below_drew1 (Below.refl _ _))).below hs)
  clear hs hmk1 hmk2 hx3 hl0 hl1 hl2 hl3 hl4 hl5 hl6 hl7 hp0 hp1 hp2 hp3 HI hx1 hy H44 hHeld
  have hx1 : W2.cell? ⟨w.heap.size + 1, 1, none⟩ = some (.slice (some ad) uses.length k) := (blk_cell HI2.out.b1 1).trans rfl
  cases fr with
  | false =>
    have hr : r = 11 := by rw [← HUS.out]; rfl
    subst hr
    go_wp2
    go_ret
    exact ⟨rfl, HI2.out.low⟩
  | true =>
  have HUS2 := HUS.out
  simp only [if_true] at HUS2
  have HUS3 := Lib.hid HUS2
  clear HUS2 HUS hx1
  have HN0 : Hid (∀ i : Nat, i < 0 → rd uses (i : Int) ≠ n) := Lib.hid (fun i h => by omega)
  go_wp2
  go_loopw [11] (fun v wr => ∃ i : Nat, v = .int .i64 i ∧ i ≤ j ∧ Hid (∀ t : Nat, t < i → rd uses (t : Int) ≠ n) ∧ Hid (PFI w a0 a1 a2 (.slice (some adl) l.length c) (.slice B cuts.length d) (.slice (some ad) uses.length k) (.slice (some ad1) m c1) (.slice (some ⟨g2, 0, none⟩) m c2) m ps cs wr)) (fun v _ => j - (intOf v).toNat)
  case atStart => exact ⟨0, rfl, Nat.zero_le _, HN0, HI2⟩
  case round =>
  clear HN0 HI2
  obtain ⟨i, rfl, hi, HNI, HI⟩ := hrel
  have hx1 : wr.cell? ⟨w.heap.size + 1, 1, none⟩ = some (.slice (some ad) uses.length k) := (blk_cell HI.out.b1 1).trans rfl
  by_cases hij : i < j
  · have hi0 : (0 : Int) ≤ (i : Int) := by omega
    have hi1 : (i : Int) < (uses.length : Int) := by omega
    have hi2 : (i : Int) < (j : Int) := by omega
    obtain ⟨ad9, e9, hy⟩ := Kd.at_int (Kd.C_below HU.out HI.out.low) (i : Int) hi0 hi1
    cases e9
    simp only [Int.toNat_natCast] at hy
    obtain ⟨u, hu⟩ : ∃ u, rd uses (i : Int) = u := ⟨_, rfl⟩
    rw [hu] at hy
    have HU2 := Lib.hid hu
    clear hu
    cases hc : u == n with
    | true =>
      have hmem : n ∈ uses.take j := by
        have e1 : (uses.take j)[i]? = some n := by
          rw [List.getElem?_take_of_lt hij, List.getElem?_eq_getElem (by omega)]
          have e2 := HU2.out
          rw [beq_iff_eq.1 hc] at e2
          rw [← e2]; simp [rd, List.getD_eq_getElem?_getD, List.getElem?_eq_getElem (show i < uses.length by omega)]
        exact List.mem_of_getElem? e1
      have hr : r = 11 := by rw [← HUS3.out, if_pos hmem]; rfl
      subst hr
      clear hmem
      go_wp2
      go_ret
      exact ⟨rfl, HI.out.low⟩
    | false =>
      have HN2 : Hid (∀ t : Nat, t < i + 1 → rd uses (t : Int) ≠ n) := Lib.hid (fun t h => by
        rcases Nat.lt_succ_iff_lt_or_eq.1 h with h | rfl
        · exact HNI.out t h
        · rw [HU2.out]; intro e; subst e; simp at hc)
      go_wp2
      go_roundw
      case rel => exact ⟨i + 1, by go_num, by omega, HN2, HI⟩
      case measure => simp [intOf]; omega
  obtain rfl : i = j := by omega
  have hmem : ¬ n ∈ uses.take i := fun h => by
    obtain ⟨t, ht, e⟩ := List.getElem_of_mem h
    rw [List.length_take] at ht
    have e1 : rd uses (t : Int) = n := by
      rw [List.getElem_take] at e
      rw [← e]; simp [rd, List.getD_eq_getElem?_getD, List.getElem?_eq_getElem (show t < uses.length by omega)]
    exact HNI.out t (by omega) e1
  have HJ2 := HUS3.out
  rw [if_neg hmem] at HJ2
  have HJ3 := Lib.hid HJ2
  clear HJ2 HUS3 hmem HNI
  go_wp2
  go_roundw
  case rel => exact ⟨i + 1, by go_num, by omega, HJ3, HI⟩
  case measure => simp [intOf]; omega
end Go.Proofs.Ytffjbaknglemdaa.X
