import Derived.Test.YtffjbaknglemdaaHR1
import Derived.Test.YtffjbaknglemdaaHR2
namespace Go.Proofs.Ytffjbaknglemdaa.X
open Go.RowKit Go.Maps Go.Proofs.YtffjbaknglemdaaW.PrintWords Go.Proofs.YtffjbaknglemdaaW.PrintLast Go.Proofs.YtffjbaknglemdaaW.PrintMore
set_option linter.unusedSimpArgs false
set_option linter.unusedVariables false

/-! ### the reference: Pieces 50 -/
def stepR (saw : Int) (st : List S88 × List Bool) (x : S107) : Option (List S88 × List Bool) :=
  if inB x.f0 0 (wrap64 ((st.1.length : Int) - 1)) then
    if rdOf false st.2 x.f0 then none
    else if (partsR (rd_T88 st.1 x.f0) x.f1 x.f2 saw).length = 0 then none
    else some (st.1 ++ partsR (rd_T88 st.1 x.f0) x.f1 x.f2 saw, st.2.set x.f0.toNat true ++ (partsR (rd_T88 st.1 x.f0) x.f1 x.f2 saw).map fun _ => false)
  else none
def stepsR (saw : Int) : List S88 × List Bool → List S107 → Option (List S88 × List Bool)
  | st, [] => some st
  | st, x :: l => (stepR saw st x).bind fun s => stepsR saw s l
def PcEnd (r : Option (List S88 × List Bool)) (w : World) (e : Ending) (w' : World) : Prop :=
  Below w.heap.size w w' ∧ match r with
  | none => e = .returned (.tuple #[.slice none 0 0, .slice none 0 0, .bool false])
  | some st => ∃ v1 v2, e = .returned (.tuple #[v1, v2, .bool true]) ∧ w'.ownsRow w.heap.size 88 4 v1 st.1.length (pvs st.1) ∧ w'.ownsRow w.heap.size 4 1 v2 st.2.length (bools st.2)
theorem partsR_len (p : S88) (ac : Bool) (at_ saw : Int) : (partsR p ac at_ saw).length ≤ 2 := by
  unfold partsR goodR
  split
  · simp
  · split <;> split <;> simp
theorem pvs_len (xs : List S88) : (pvs xs).length = xs.length * 4 := by
  induction xs with
  | nil => rfl
  | cons x xs ih => simp only [pvs, List.flatMap_cons, List.length_append] at *; simp [pv88, ih]; omega
theorem pvs_append (a b : List S88) : pvs (a ++ b) = pvs a ++ pvs b := by simp [pvs]
theorem pvs_one (p : S88) : pvs [p] = pv88 p := by simp [pvs]
theorem own_R88 {w : World} {base : Nat} {ok : Nat → Prop} {v : Value} {xs : List S88} (h : w.ownsRow base 88 4 v xs.length (pvs xs)) (hok : ∀ k, v.ownBlock = some k → ok k) : Kd.R k88 88 w base ok v xs :=
  ⟨hok, _, h, reps_flat pv88 (fun p => k88_mkM _ _ _ p) (fun p => rfl) xs⟩
def RPt (w : World) (a0 a1 a2 : Int) (sv v1 v2 : Value) (ps : List S88) (cs : List Bool) (wr : World) : Prop :=
  wr.ownsRow w.heap.size 88 4 v1 ps.length (pvs ps) ∧ wr.ownsRow w.heap.size 4 1 v2 ps.length (bools cs) ∧ cs.length = ps.length ∧ wr.heap[w.heap.size]? = some (.cells #[.int .i64 a0, .int .i64 a1, .int .i64 a2, sv] 24 (0, 0)) ∧ Below w.heap.size w wr
set_option maxRecDepth 100000 in
set_option maxHeartbeats 4000000 in
theorem refPieces_calls (a0 a1 a2 : Int) (A : Option Addr) (n c : Nat) (B : Option Addr) (d : Nat) (cuts : List S107) (w : World) (hq : Kd.C k107 w B cuts.length cuts) (hqd : cuts.length ≤ d) (hcm : cuts.length ≤ 1000) :
    Calls Try.prog 50 #[.agg #[.int .i64 a0, .int .i64 a1, .int .i64 a2, .slice A n c], .slice B cuts.length d] w (PcEnd (stepsR a2 ([⟨0, 0, a0, a1⟩], [false]) cuts) w) := by
  have HQ := Lib.hid hq
  clear hq
  go_enter Try.func50, Try.ntmps50
  go_wp2
  have hS0 : RPt w a0 a1 a2 (.slice A n c) (.slice (some ⟨w.heap.size + 1, 0, none⟩) 1 1) (.slice (some ⟨w.heap.size + 1 + 1, 0, none⟩) 1 1) [⟨0, 0, a0, a1⟩] [false] (((w.alloc (.cells #[.int .i64 a0, .int .i64 a1, .int .i64 a2, .slice A n c] 24)).alloc (.cells #[.int .i64 0, .int .i64 0, .int .i64 a0, .int .i64 a1] 88)).alloc (.cells #[.bool false] 4)) :=
    ⟨lit_own (by omega) (blk_below (alloc_at (by simp)) (below_alloc (Below.refl _ _) _)) rfl (by omega), lit_own (by omega) (alloc_at (by simp)) rfl (by omega), rfl, blk_below (blk_below (alloc_at rfl) (below_alloc (Below.refl _ _) _)) (below_alloc (Below.refl _ _) _), below_alloc (below_alloc (below_alloc (Below.refl _ _) _) _) _⟩
  have HS0 := Lib.hid hS0
  clear hS0
  obtain ⟨res, hres⟩ : ∃ res, stepsR a2 ([⟨0, 0, a0, a1⟩], [false]) cuts = res := ⟨_, rfl⟩
  rw [hres]
  have HRES := Lib.hid hres
  have HR0 := Lib.hid hres
  clear hres
  go_loopw [7, 8, 9] (fun v7 v8 v wr => ∃ (k : Nat) (ps : List S88) (cs : List Bool), v = .int .i64 k ∧ k ≤ cuts.length ∧ ps.length ≤ 1 + 2 * k ∧ Hid (RPt w a0 a1 a2 (.slice A n c) v7 v8 ps cs wr) ∧ Hid (stepsR a2 (ps, cs) (cuts.drop k) = res)) (fun _ _ v _ => cuts.length - (intOf v).toNat)
  case atStart => exact ⟨0, _, _, rfl, Nat.zero_le _, by simp, HS0, HRES⟩
  case round =>
  clear HS0 HRES
  obtain ⟨k, ps, cs, rfl, hk, hpl, HPT, HRES⟩ := hrel
  by_cases hlt : k < cuts.length
  rotate_left
  · go_wp2
    refine bodyPost_ret (results_list (rs := [.tmp 4, .tmp 5, .tmp 6]) rfl (by simp) (.tmp (.tmp (.tmp .nil)))) rfl ?_
    obtain rfl : k = cuts.length := by omega
    obtain ⟨h1, h2, h3, h4, h5⟩ := HPT.out
    have hr := HRES.out
    rw [List.drop_length] at hr
    rw [HR0.out, ← hr]
    exact ⟨h5, u7, u8, rfl, h1, by rw [h3]; exact h2⟩
  have hi0 : (0 : Int) ≤ (k : Int) := by omega
  have hi1 : (k : Int) < (cuts.length : Int) := by omega
  obtain ⟨ad, rfl, hx0, hx1, hx2⟩ := at_T107 (Kd.C_below HQ.out HPT.out.2.2.2.2) (k : Int) hi0 hi1
  simp only [Int.toNat_natCast] at hx0 hx1 hx2
  have hdr : cuts.drop k = rd_T107 cuts (k : Int) :: cuts.drop (k + 1) := by rw [List.drop_eq_getElem_cons hlt]; simp [rd_T107, hlt, List.getD_eq_getElem?_getD]
  have HDR := Lib.hid hdr
  clear hdr
  generalize hxe : rd_T107 cuts (k : Int) = x at *
  clear hxe
  obtain ⟨h1, h2, h3, h4, h5⟩ := HPT.out
  obtain ⟨m, hm⟩ : ∃ m, ps.length = m := ⟨_, rfl⟩
  rw [hm] at h1 h2 h3 hpl
  obtain ⟨A1, c1, rfl⟩ := own_form h1
  obtain ⟨A2, c2, rfl⟩ := own_form h2
  have hm2 : m ≤ 3000 := by omega
  have HM := Lib.hid hm
  have hb5 := below_alloc (Below.refl wr.heap.size wr) (.cells #[.int .i64 x.f0, .bool x.f1, .int .i64 x.f2] 107)
  have hC5 : (wr.alloc (.cells #[.int .i64 x.f0, .bool x.f1, .int .i64 x.f2] 107)).heap[wr.heap.size]? = some (.cells #[.int .i64 x.f0, .bool x.f1, .int .i64 x.f2] 107 (0, 0)) := alloc_at rfl
  have h15 := pw_own_below h1 hb5
  have h25 := pw_own_below h2 hb5
  have h45 := blk_below h4 hb5
  have h55 := below_step h5 hb5
  have hwl : wrap64 ((m : Int) - 1) = (m : Int) - 1 := by unfold wrap64; omega
  have HWL := Lib.hid hwl
  clear h1 h2 h4 h5 hb5 HPT hm hwl
  cases hin : inB x.f0 0 ((m : Int) - 1) with
  | false =>
    have hst : stepR a2 (ps, cs) x = none := by unfold stepR; rw [HM.out, HWL.out, hin]; rfl
    have hrn : res = none := by rw [← HRES.out, HDR.out]; simp only [stepsR, hst]; rfl
    have HRN := Lib.hid hrn
    clear hst hrn hi0 hi1
    go_wp2_with (go_at_call 32; refine (in_calls _ _ _ _).mono ?_; rintro e _ ⟨rfl, rfl⟩)
    (try simp only [Exit.inBlock, Exit.then])
    refine bodyPost_ret (results_list (rs := [.tmp 4, .tmp 5, .tmp 6]) rfl (by simp) (.tmp (.tmp (.tmp .nil)))) rfl ?_
    rw [HRN.out]
    exact ⟨h55, rfl⟩
  | true =>
  have hin1 : 0 ≤ x.f0 := by unfold inB at hin; simp at hin; omega
  have hin2 : x.f0 < (m : Int) := by unfold inB at hin; simp at hin; omega
  obtain ⟨g2, c2', hv2, hlo2, hg2⟩ := h25.form (by omega)
  obtain ⟨rfl, -, rfl⟩ : A2 = some ⟨g2, 0, none⟩ ∧ m = m ∧ c2 = c2' := by injection hv2 with e1 e2 e3; exact ⟨e1, rfl, e3⟩
  clear hv2
  have hmk := own_at_of (enc := Value.bool) (d := false) h25 x.f0 hin1 hin2
  cases hcut : rdOf false cs x.f0 with
  | true =>
    have hst : stepR a2 (ps, cs) x = none := by unfold stepR; rw [HM.out, HWL.out, hin, if_pos rfl, if_pos (show rdOf false (ps, cs).2 x.f0 = true from hcut)]
    have hrn : res = none := by rw [← HRES.out, HDR.out]; simp only [stepsR, hst]; rfl
    have HRN := Lib.hid hrn
    rw [hcut] at hmk
    obtain ⟨hmk1, hmk2⟩ := hmk
    clear hst hrn hi0 hi1
    go_wp2_with (go_at_call 32; refine (in_calls _ _ _ _).mono ?_; rintro e _ ⟨rfl, rfl⟩)
    (try simp only [Exit.inBlock, Exit.then])
    refine bodyPost_ret (results_list (rs := [.tmp 4, .tmp 5, .tmp 6]) rfl (by simp) (.tmp (.tmp (.tmp .nil)))) rfl ?_
    rw [HRN.out]
    exact ⟨h55, rfl⟩
  | false =>
  rw [hcut] at hmk
  obtain ⟨hmk1, hmk2⟩ := hmk
  go_wp2_with (go_at_call 32; refine (in_calls _ _ _ _).mono ?_; rintro e _ ⟨rfl, rfl⟩)
  obtain ⟨W5, hW5⟩ : ∃ W5, wr.alloc (.cells #[.int .i64 x.f0, .bool x.f1, .int .i64 x.f2] 107) = W5 := ⟨_, rfl⟩
  rw [hW5] at h15 h25 h45 h55 hC5 hmk1 hmk2 ⊢
  clear hW5
  have hR1 := own_R88 (ok := fun _ => True) (by rw [HM.out]; exact h15) (fun _ _ => trivial)
  obtain ⟨-, -, hCC⟩ := Kd.R_reads' hR1
  obtain ⟨ad1, rfl, hy0, hy1, hy2, hy3⟩ := at_T88 hCC x.f0 hin1 (by rw [HM.out]; exact hin2)
  clear hR1 hCC
  generalize hpe : rd_T88 ps x.f0 = p at hy0 hy1 hy2 hy3
  have HPE := Lib.hid hpe
  clear hpe
  have hp76 := refParts_calls p x.f1 x.f2 a2
  unfold av88 at hp76
  have HP76 := Lib.hid hp76
  have hB : Below W5.heap.size W5 W5.drew := below_drew1 (Below.refl _ _)
  clear hp76
  refine start_ (n := 13) (S := fun w' => w'.cell? ⟨wr.heap.size, 0, none⟩ = some (.int .i64 x.f0) ∧ w'.cell? ⟨wr.heap.size, 1, none⟩ = some (.bool x.f1) ∧ w'.cell? ⟨wr.heap.size, 2, none⟩ = some (.int .i64 x.f2) ∧ w'.cell? (ad1.add (x.f0.toNat * 4)) = some (.int .i64 p.f0) ∧ w'.cell? ⟨(ad1.add (x.f0.toNat * 4)).block, (ad1.add (x.f0.toNat * 4)).off + 1, none⟩ = some (.int .i64 p.f1) ∧ w'.cell? ⟨(ad1.add (x.f0.toNat * 4)).block, (ad1.add (x.f0.toNat * 4)).off + 2, none⟩ = some (.int .i64 p.f2) ∧ w'.cell? ⟨(ad1.add (x.f0.toNat * 4)).block, (ad1.add (x.f0.toNat * 4)).off + 3, none⟩ = some (.int .i64 p.f3) ∧ w'.cell? ⟨w.heap.size, 2, none⟩ = some (.int .i64 a2)) (ds := []) #[false, false, false, false, false, false, false, false, false, false, false, false, false] (by kernel_rfl) rfl rfl ⟨((blk_cell hC5 0).trans rfl), ((blk_cell hC5 1).trans rfl), ((blk_cell hC5 2).trans rfl), hy0, hy1, hy2, hy3, ((blk_cell h45 2).trans rfl)⟩ (fun hHeld => ?_)
  refine pure_ (i := 0) (N := some 44) (v := ?_) (a' := ?_) #[true, false, false, false, false, false, false, false, false, false, false, false, false] rfl rfl (by kernel_rfl) (fun _ _ _ h => h) (Or.inl ⟨by rfl, ?_⟩) ?_ ?_
  rotate_left
  · intro w'
    go_simp
    with_reducible rfl
  rotate_left
  · simp only [Act.put, List.setIfInBounds_toArray, List.set_cons_zero, List.set_cons_succ, i64_w, i32_w]
    rfl
  refine pure_ (i := 1) (N := some 45) (v := ?_) (a' := ?_) #[true, true, false, false, false, false, false, false, false, false, false, false, false] rfl rfl (by kernel_rfl) (fun _ _ _ h => h) (Or.inl ⟨by rfl, ?_⟩) ?_ ?_
  rotate_left
  · intro w'
    go_simp
    with_reducible rfl
  rotate_left
  · simp only [Act.put, List.setIfInBounds_toArray, List.set_cons_zero, List.set_cons_succ, i64_w, i32_w]
    rfl
  refine pure_ (i := 5) (N := some 49) (v := ?_) (a' := ?_) #[true, true, false, false, false, true, false, false, false, false, false, false, false] rfl rfl (by kernel_rfl) (fun _ _ _ h => h) (Or.inl ⟨by rfl, ?_⟩) ?_ ?_
  rotate_left
  · intro w'
    go_simp
    with_reducible rfl
  rotate_left
  · simp only [Act.put, List.setIfInBounds_toArray, List.set_cons_zero, List.set_cons_succ, i64_w, i32_w]
    rfl
  refine pure_ (i := 7) (N := some 51) (v := ?_) (a' := ?_) #[true, true, false, false, false, true, false, true, false, false, false, false, false] rfl rfl (by kernel_rfl) (fun _ _ _ h => h) (Or.inl ⟨by rfl, ?_⟩) ?_ ?_
  rotate_left
  · intro w'
    go_simp
    with_reducible rfl
  rotate_left
  · simp only [Act.put, List.setIfInBounds_toArray, List.set_cons_zero, List.set_cons_succ, i64_w, i32_w]
    rfl
  refine pure_ (i := 9) (N := some 53) (v := ?_) (a' := ?_) #[true, true, false, false, false, true, false, true, false, true, false, false, false] rfl rfl (by kernel_rfl) (fun _ _ _ h => h) (Or.inl ⟨by rfl, ?_⟩) ?_ ?_
  rotate_left
  · intro w'
    go_simp
    with_reducible rfl
  rotate_left
  · simp only [Act.put, List.setIfInBounds_toArray, List.set_cons_zero, List.set_cons_succ, i64_w, i32_w]
    rfl
  refine take_ (i := 2) (N := some 46) (v := ?_) (a' := ?_) #[true, true, true, false, false, true, false, true, false, true, false, false, false] rfl rfl (by kernel_rfl) (fun _ _ _ h => h) (Or.inl ⟨by rfl, ?_⟩) hHeld ?_ ?_
  rotate_left
  · rintro w' ⟨s0, s1, s2, s3, s4, s5, s6, s7⟩
    go_simp
    with_reducible rfl
  rotate_left
  · simp only [Act.put, List.setIfInBounds_toArray, List.set_cons_zero, List.set_cons_succ, i64_w, i32_w]
    rfl
  refine pure_ (i := 3) (N := some 47) (v := ?_) (a' := ?_) #[true, true, true, true, false, true, false, true, false, true, false, false, false] rfl rfl (by kernel_rfl) (fun _ _ _ h => h) (Or.inl ⟨by rfl, ?_⟩) ?_ ?_
  rotate_left
  · intro w'
    go_simp
    with_reducible rfl
  rotate_left
  · simp only [Act.put, List.setIfInBounds_toArray, List.set_cons_zero, List.set_cons_succ, i64_w, i32_w]
    rfl
  refine take_ (i := 4) (N := some 48) (v := ?_) (a' := ?_) #[true, true, true, true, true, true, false, true, false, true, false, false, false] rfl rfl (by kernel_rfl) (fun _ _ _ h => h) (Or.inl ⟨by rfl, ?_⟩) hHeld ?_ ?_
  rotate_left
  · rintro w' ⟨s0, s1, s2, s3, s4, s5, s6, s7⟩
    go_simp
    with_reducible rfl
  rotate_left
  · simp only [Act.put, List.setIfInBounds_toArray, List.set_cons_zero, List.set_cons_succ, i64_w, i32_w]
    rfl
  refine take_ (i := 6) (N := some 50) (v := ?_) (a' := ?_) #[true, true, true, true, true, true, true, true, false, true, false, false, false] rfl rfl (by kernel_rfl) (fun _ _ _ h => h) (Or.inl ⟨by rfl, ?_⟩) hHeld ?_ ?_
  rotate_left
  · rintro w' ⟨s0, s1, s2, s3, s4, s5, s6, s7⟩
    go_simp
    with_reducible rfl
  rotate_left
  · simp only [Act.put, List.setIfInBounds_toArray, List.set_cons_zero, List.set_cons_succ, i64_w, i32_w]
    rfl
  refine take_ (i := 8) (N := some 52) (v := ?_) (a' := ?_) #[true, true, true, true, true, true, true, true, true, true, false, false, false] rfl rfl (by kernel_rfl) (fun _ _ _ h => h) (Or.inl ⟨by rfl, ?_⟩) hHeld ?_ ?_
  rotate_left
  · rintro w' ⟨s0, s1, s2, s3, s4, s5, s6, s7⟩
    go_simp
    with_reducible rfl
  rotate_left
  · simp only [Act.put, List.setIfInBounds_toArray, List.set_cons_zero, List.set_cons_succ, i64_w, i32_w]
    rfl
  refine take_ (i := 10) (N := some 54) (v := ?_) (a' := ?_) #[true, true, true, true, true, true, true, true, true, true, true, false, false] rfl rfl (by kernel_rfl) (fun _ _ _ h => h) (Or.inl ⟨by rfl, ?_⟩) hHeld ?_ ?_
  rotate_left
  · rintro w' ⟨s0, s1, s2, s3, s4, s5, s6, s7⟩
    go_simp
    with_reducible rfl
  rotate_left
  · simp only [Act.put, List.setIfInBounds_toArray, List.set_cons_zero, List.set_cons_succ, i64_w, i32_w]
    rfl
  refine one_ (i := 11) (N := some 55) #[true, true, true, true, true, true, true, true, true, true, true, true, false] rfl rfl (by kernel_rfl) (by decide) (fun K hK => ?_)
  refine goes_ Try.func76 (by kernel_rfl) rfl #[.agg #[.int .i64 p.f0, .int .i64 p.f1, .int .i64 p.f2, .int .i64 p.f3], .bool x.f1, .int .i64 x.f2, .int .i64 a2] (by rfl) rfl rfl (by simp only [List.map_toArray, List.map_cons, List.map_nil]; rfl) ?_
  with_reducible refine (HP76.out _).mono ?_
  rintro e W6 ⟨v11, rfl, own11, hs⟩
  replace hB := below_step hB hs
  refine ⟨_, rfl, ?_⟩
  refine hK.out _ _ ⟨(pw_cell_below hs hHeld.1), (pw_cell_below hs hHeld.2.1), (pw_cell_below hs hHeld.2.2.1), (pw_cell_below hs hHeld.2.2.2.1), (pw_cell_below hs hHeld.2.2.2.2.1), (pw_cell_below hs hHeld.2.2.2.2.2.1), (pw_cell_below hs hHeld.2.2.2.2.2.2.1), (pw_cell_below hs hHeld.2.2.2.2.2.2.2)⟩ (fun hHeld => ?_)
  clear hK K
  refine norm_ (a' := ?_) ?_ ?_
  rotate_left
  · show Act.put _ (some 55) _ = _
    simp only [Act.put, List.setIfInBounds_toArray, List.set_cons_zero, List.set_cons_succ, i64_w, i32_w]
    rfl
  refine pure_ (i := 12) (N := some 11) (v := ?_) (a' := ?_) #[true, true, true, true, true, true, true, true, true, true, true, true, true] rfl rfl (by kernel_rfl) (fun _ _ _ h => h) (Or.inl ⟨by rfl, ?_⟩) ?_ ?_
  rotate_left
  · intro w'
    go_simp
    with_reducible rfl
  rotate_left
  · simp only [Act.put, List.setIfInBounds_toArray, List.set_cons_zero, List.set_cons_succ, i64_w, i32_w]
    rfl
  refine done_ (by kernel_rfl) ?_
  have h16 := pw_own_below h15 hB
  have h26 := pw_own_below h25 hB
  have h46 := blk_below h45 hB
  have h56 := below_step h55 hB
  have hC6 := blk_below hC5 hB
  have hlo6 := hB.size
  have hlo5 := h55.size
  obtain ⟨A3, c3, rfl⟩ := own_form own11
  have hne3 : NeRow (.slice A3 (partsR p x.f1 x.f2 a2).length c3) (.slice (some ad1) m c1) := fun k h1 h2 => by
    have e1 := own_base own11 k h1
    have e2 := own_lt h15 k h2
    have e3 : W5.drew.heap.size = W5.heap.size := rfl
    omega
  have hn3 := partsR_len p x.f1 x.f2 a2
  have o11 := own_weaken own11 (Nat.le_trans hlo5 (Nat.le_refl _))
  have hst0 : stepR a2 (ps, cs) x = if (partsR p x.f1 x.f2 a2).length = 0 then none else some (ps ++ partsR p x.f1 x.f2 a2, cs.set x.f0.toNat true ++ (partsR p x.f1 x.f2 a2).map fun _ => false) := by
    unfold stepR
    rw [HM.out, HWL.out, hin, if_pos rfl, if_neg (show ¬ rdOf false (ps, cs).2 x.f0 = true by rw [hcut]; simp), show rd_T88 (ps, cs).1 x.f0 = p from HPE.out]
  generalize hLe : partsR p x.f1 x.f2 a2 = L at o11 hn3 hne3 hst0 ⊢
  generalize hn3e : L.length = n3 at o11 hn3 hne3 hst0 ⊢
  have HN3 := Lib.hid hn3e
  clear hn3e hLe own11 hB hs hy0 hy1 hy2 hy3 HP76 h15 h25 h45 h55 hC5 hmk1 hmk2
  by_cases hn0 : n3 = 0
  · subst hn0
    have hrn : res = none := by rw [← HRES.out, HDR.out]; simp only [stepsR, hst0]; rfl
    have HRN := Lib.hid hrn
    clear hst0 hrn hi0 hi1 hHeld
    go_wp2
    (try simp only [Exit.inBlock, Exit.then])
    refine bodyPost_ret (results_list (rs := [.tmp 4, .tmp 5, .tmp 6]) rfl (by simp) (.tmp (.tmp (.tmp .nil)))) rfl ?_
    rw [HRN.out]
    exact ⟨h56, rfl⟩
  rw [if_neg hn0] at hst0
  have HST := Lib.hid hst0
  have hbn : ((n3 : Int) == 0) = false := by rw [beq_eq_false_iff_ne]; omega
  have hmk := own_at_of (enc := Value.bool) (d := false) h26 x.f0 hin1 hin2
  obtain ⟨hmk1, hmk2⟩ := hmk
  have hc0 : W6.cell? ⟨wr.heap.size, 0, none⟩ = some (.int .i64 x.f0) := (blk_cell hC6 0).trans rfl
  clear hst0 hn0 hHeld
  go_wp2
  have hst2 := own_store_of (enc := Value.bool) h26 x.f0 true
  obtain ⟨W7, hW7⟩ : ∃ W7, W6.setCell ⟨g2, x.f0.toNat, none⟩ (.bool true) = W7 := ⟨_, rfl⟩
  rw [hW7] at hst2 ⊢
  obtain ⟨h27, hgr⟩ := hst2
  have h17 := own_other h16 hgr (own_type_ne h16 h26 (by decide))
  have o7 := own_other o11 hgr (own_type_ne o11 h26 (by decide))
  have h47 := blk_grown h46 hgr (own_ne h26 h46 (by decide))
  have h57 := pw_below_grown h56 (some g2) h56.size hgr (fun k e => by cases e; exact hlo2)
  have hcsl : (cs.set x.f0.toNat true).length = m := by rw [List.length_set, h3]
  have HX0 : Hid (RPt w a0 a1 a2 (.slice A n c) (.slice (some ad1) m c1) (.slice (some ⟨g2, 0, none⟩) m c2) (ps ++ L.take 0) (cs.set x.f0.toNat true ++ (L.take 0).map fun _ => false) W7) := Lib.hid (by
    rw [List.take_zero, List.append_nil, List.map_nil, List.append_nil]
    exact ⟨by rw [HM.out]; exact h17, by rw [HM.out]; exact h27, by rw [hcsl, HM.out], h47, h57⟩)
  have HO0 := Lib.hid o7
  have HN0 := Lib.hid hne3
  have HCSL := Lib.hid hcsl
  clear hcsl hne3 o7 h17 h27 h47 h57 hgr hW7 h16 h26 h46 h56 hC6 o11 hc0 hmk1 hmk2 hlo5 hlo6 hlo2 hg2 hin1 hin2
  generalize hv1 : Value.slice (some ad1) m c1 = v1 at HX0 HN0 ⊢
  generalize hv2 : Value.slice (some (⟨g2, 0, none⟩ : Addr)) m c2 = v2 at HX0 ⊢
  clear hv1 hv2
  go_loopw [7, 8, 12] (fun v7 v8 v wz => ∃ j : Nat, v = .int .i64 j ∧ j ≤ n3 ∧ Hid (RPt w a0 a1 a2 (.slice A n c) v7 v8 (ps ++ L.take j) (cs.set x.f0.toNat true ++ (L.take j).map fun _ => false) wz) ∧ Hid (wz.ownsRow w.heap.size 88 4 (.slice A3 n3 c3) n3 (pvs L)) ∧ Hid (NeRow (.slice A3 n3 c3) v7)) (fun _ _ v _ => n3 - (intOf v).toNat)
  case atStart => exact ⟨0, rfl, Nat.zero_le _, HX0, HO0, HN0⟩
  case round =>
  clear HX0 HO0 HN0
  obtain ⟨j, rfl, hj, HX, HO, HNZ⟩ := hrel
  have hplen : (ps ++ L.take j).length = m + j := by rw [List.length_append, List.length_take, HM.out, HN3.out]; omega
  have hclen : (cs.set x.f0.toNat true ++ (L.take j).map fun _ => false).length = m + j := by rw [List.length_append, List.length_map, List.length_take, HCSL.out, HN3.out]; omega
  have HPL := Lib.hid hplen
  have HCLN := Lib.hid hclen
  clear hplen hclen
  by_cases hjl : j < n3
  rotate_left
  · obtain rfl : j = n3 := by omega
    have htk : L.take j = L := List.take_of_length_le (by rw [HN3.out]; exact Nat.le_refl _)
    have hres2 : stepsR a2 (ps ++ L, cs.set x.f0.toNat true ++ L.map fun _ => false) (cuts.drop (k + 1)) = res := by
      rw [← HRES.out, HDR.out]; simp only [stepsR, HST.out]; rfl
    have HRES2 := Lib.hid hres2
    have HX2 : Hid (RPt w a0 a1 a2 (.slice A n c) u7 u8 (ps ++ L) (cs.set x.f0.toNat true ++ L.map fun _ => false) wr) := Lib.hid (by have := HX.out; rw [htk] at this; exact this)
    have hpl2 : (ps ++ L).length ≤ 1 + 2 * (k + 1) := by have := HPL.out; rw [htk] at this; omega
    clear htk hres2 HRES HX HST
    go_wp2
    go_roundw
    case rel => exact ⟨k + 1, _, _, by go_num, by omega, hpl2, HX2, HRES2⟩
    case measure => simp [intOf]; omega
  have hj0 : (0 : Int) ≤ (j : Int) := by omega
  have hj1 : (j : Int) < (n3 : Int) := by omega
  have hR3 := own_R88 (ok := fun _ => True) (by rw [HN3.out]; exact HO.out) (fun _ _ => trivial)
  obtain ⟨-, -, hCC⟩ := Kd.R_reads' hR3
  obtain ⟨ad3, hA3, hz0, hz1, hz2, hz3⟩ := at_T88 hCC (j : Int) hj0 (by rw [HN3.out]; exact hj1)
  subst hA3
  simp only [Int.toNat_natCast] at hz0 hz1 hz2 hz3
  clear hR3 hCC
  have htk : L.take (j + 1) = L.take j ++ [rd_T88 L (j : Int)] := by
    have hjL : j < L.length := by rw [HN3.out]; exact hjl
    rw [List.take_succ_eq_append_getElem hjL]; simp [rd_T88, hjL, List.getD_eq_getElem?_getD]
  have HTK := Lib.hid htk
  clear htk
  generalize hye : rd_T88 L (j : Int) = y at *
  clear hye
  obtain ⟨o1, o2, o3, o4, o5⟩ := HX.out
  rw [HPL.out] at o1 o2 o3
  have hn1 : m + j ≤ 4000 := by omega
  obtain ⟨n1, hn1e⟩ : ∃ n1, m + j = n1 := ⟨_, rfl⟩
  rw [hn1e] at o1 o2 o3 hn1 HPL HCLN
  have HN1 := Lib.hid hn1e
  clear hn1e HX
  obtain ⟨A4, c4, rfl⟩ := own_form o1
  obtain ⟨A5, c5, rfl⟩ := own_form o2
  obtain ⟨i0, hinf, hq0, hq1, hq2⟩ := info_parts infoS88
  obtain ⟨i1, hinf', hq0', hq1', hq2'⟩ := info_parts infoS4
  have hbq : Below wr.heap.size wr (wr.alloc (.cells #[.int .i64 y.f0, .int .i64 y.f1, .int .i64 y.f2, .int .i64 y.f3] 88)) := below_alloc (Below.refl _ _) _
  have p1 := pw_own_below o1 hbq
  have p2 := pw_own_below o2 hbq
  have p3 := pw_own_below HO.out hbq
  have p4 := blk_below o4 hbq
  have p5 := below_step o5 hbq
  have hnz := own_lt HO.out
  clear o1 o2 o4 o5 hbq HO hi0 hi1 hx0 hx1 hx2
  go_wp2_with (first
    | (at_builtin
       refine wpList_append_own_at _ rfl _ _ 100 rfl w.heap.size 88 i0 _ 4 32 Try.underlying100 hinf hq0 hq1 hq2 rfl (by decide) _ _ _ rfl p1 ⟨wr.heap.size, 0, none⟩ 1 1 (pv88 y) rfl rfl (World.news_of_block (alloc_at (by simp [pv88]))) (by simp [pv88, Value.oneCell']) (by simp [maxLen]; omega) (by omega) p5.size ?_
       intro v7 V7 own7 hgr _ hat
       obtain ⟨g7, c7, rfl⟩ := ownsRow_succ own7
       have hne7 : NeRow (.slice (some ad3) n3 c3) (.slice (some ⟨g7, 0, none⟩) (n1 + 1) c7) := fun k h1 h2 => by
         rcases hat with e | e
         · exact HNZ.out k h1 (e.symm.trans h2)
         · have e1 := hnz k h1
           rw [h2] at e; cases e; simp at e1; omega
       replace p2 := own_other p2 hgr (own_type_ne p2 p1 (by decide))
       replace p3 := own_other p3 hgr (ne_other (ne_symm HNZ.out))
       replace p4 := blk_grown p4 hgr (own_ne p1 p4 (by decide))
       replace p5 := pw_below_grown p5 _ p5.size hgr (own_base p1)
       have hbq : Below V7.heap.size V7 (V7.alloc (.cells #[.bool false] 4)) := below_alloc (Below.refl _ _) _
       replace p2 := pw_own_below p2 hbq
       replace p3 := pw_own_below p3 hbq
       replace p4 := blk_below p4 hbq
       replace p5 := below_step p5 hbq
       replace own7 := pw_own_below own7 hbq
       clear hgr hat p1 hz0 hz1 hz2 hz3 HNZ hbq)
    | (at_builtin
       refine wpList_append_own_at _ rfl _ _ 39 rfl w.heap.size 4 i1 _ 1 1 Try.underlying39 hinf' hq0' hq1' hq2' rfl (by decide) _ _ _ rfl p2 ⟨V7.heap.size, 0, none⟩ 1 1 [.bool false] rfl rfl (World.news_of_block (alloc_at (by simp))) (by simp [Value.oneCell']) (by simp [maxLen]; omega) (by omega) p5.size ?_
       intro v8 V8 own8 hgr _ hat
       obtain ⟨g8, c8, rfl⟩ := ownsRow_succ own8
       replace own7 := own_other own7 hgr (own_type_ne own7 p2 (by decide))
       replace p3 := own_other p3 hgr (own_type_ne p3 p2 (by decide))
       replace p4 := blk_grown p4 hgr (own_ne p2 p4 (by decide))
       replace p5 := pw_below_grown p5 _ p5.size hgr (own_base p2)
       clear hgr hat p2))
  have e3 : pvs (ps ++ L.take (j + 1)) = pvs (ps ++ L.take j) ++ pv88 y := by rw [HTK.out, ← List.append_assoc, pvs_append, pvs_one]
  have e4 : bools (cs.set x.f0.toNat true ++ (L.take (j + 1)).map fun _ => false) = bools (cs.set x.f0.toNat true ++ (L.take j).map fun _ => false) ++ [.bool false] := by rw [HTK.out, List.map_append, ← List.append_assoc]; simp [bools]
  have e1 : (ps ++ L.take (j + 1)).length = n1 + 1 := by rw [HTK.out, ← List.append_assoc, List.length_append, HPL.out]; rfl
  have e2 : (cs.set x.f0.toNat true ++ (L.take (j + 1)).map fun _ => false).length = n1 + 1 := by rw [HTK.out, List.map_append, ← List.append_assoc, List.length_append, HCLN.out]; rfl
  have HXn : Hid (RPt w a0 a1 a2 (.slice A n c) (.slice (some ⟨g7, 0, none⟩) (n1 + 1) c7) (.slice (some ⟨g8, 0, none⟩) (n1 + 1) c8) (ps ++ L.take (j + 1)) (cs.set x.f0.toNat true ++ (L.take (j + 1)).map fun _ => false) V8) :=
    Lib.hid ⟨by rw [e1, e3]; exact own7, by rw [e1, e4]; exact own8, by rw [e1, e2], p4, p5⟩
  have HOn := Lib.hid p3
  have HNn := Lib.hid hne7
  clear e1 e2 e3 e4 own7 own8 p3 p4 p5 hne7
  go_roundw
  case rel => exact ⟨j + 1, by go_num, by omega, HXn, HOn, HNn⟩
  case measure => simp [intOf]; omega
end Go.Proofs.Ytffjbaknglemdaa.X
