import Derived.Test.YtffjbaknglemdaaHR1
import Derived.Test.YtffjbaknglemdaaHW1
namespace Go.Proofs.Ytffjbaknglemdaa.X
open Go.RowKit Go.Maps Go.Proofs.YtffjbaknglemdaaW.PrintWords Go.Proofs.YtffjbaknglemdaaW.PrintLast Go.Proofs.YtffjbaknglemdaaW.PrintMore
set_option linter.unusedSimpArgs false
set_option linter.unusedVariables false

/-! ### the statements' small functions: Thin 24, to 59, fault 37, UsedAs 34, list 60, Cuts 49, Plate 27, Plan 28 -/
def toW (x : S82) : S115 := ⟨x.f0, x.f1, x.f2, x.f3, ⟨x.f4.f0, x.f4.f1⟩, ⟨x.f5.f0, x.f5.f1⟩⟩
def toC (x : S107) : S112 := ⟨x.f0, x.f1, x.f2⟩
def thinR (n m u : Nat) : Bool := decide ((n : Int) ≤ 6) && (decide ((m : Int) ≤ 45) && decide ((u : Int) ≤ 6))
theorem thin_calls (a0 a1 a2 : Int) (A : Option Addr) (n c : Nat) (B : Option Addr) (m d : Nat) (E : Option Addr) (u k : Nat) (w : World) :
    Calls Try.prog 24 #[.agg #[.int .i64 a0, .int .i64 a1, .int .i64 a2, .slice A n c], .agg #[.slice B m d, .slice E u k]] w fun e w' => e = .returned (.bool (thinR n m u)) ∧ Below w.heap.size w w' := by
  unfold thinR
  cases c0 : decide ((n : Int) ≤ 6) <;> cases c1 : decide ((m : Int) ≤ 45) <;> (go_enter Try.func24, Try.ntmps24; go_wp2; go_ret; exact ⟨rfl, below_alloc (below_alloc (Below.refl _ _) _) _⟩)
theorem to_calls (a b : Int) (w : World) : Calls Try.prog 59 #[.agg #[.int .i64 a, .int .i64 b]] w fun e w' => e = .returned (.agg #[.int .i64 a, .int .i64 b]) ∧ Below w.heap.size w w' := by
  go_enter Try.func59, Try.ntmps59
  go_wp2
  refine bodyPost_ret (results_single rfl (.cell (w.heap.size + 1) 113 #[.int .i64 a, .int .i64 b] (0, 0) _ rfl (alloc_at (by simp)) Try.underlying113 rfl (by kernel_rfl) .nil)) rfl ?_
  exact ⟨rfl, below_alloc (below_alloc (Below.refl _ _) _) _⟩
theorem lfault_calls (a0 a1 a2 : Int) (A : Option Addr) (c : Nat) (l : List S82) (w : World) (hl : Kd.C k82 w A l.length l) (hlc : l.length ≤ c) :
    Calls Try.prog 37 #[.agg #[.int .i64 a0, .int .i64 a1, .int .i64 a2, .slice A l.length c]] w fun e w' => e = .returned (.int .i64 (faultR a0 a1 a2 l)) ∧ Below w.heap.size w w' := by
  have HL := Lib.hid hl
  clear hl
  go_enter Try.func37, Try.ntmps37
  go_wp2_with (go_at_call 17; refine (fault_calls a0 a1 a2 A c l _ (Kd.C_below HL.out (below_alloc (Below.refl _ _) _)) hlc).mono ?_; rintro e w1 ⟨rfl, hb1⟩)
  go_ret
  exact ⟨rfl, below_step (below_alloc (Below.refl _ _) _) hb1⟩
/-! UsedAs 34 -/
theorem usedAs_calls (B : Option Addr) (m d : Nat) (E : Option Addr) (k : Nat) (uses : List Int) (n : Int) (w : World) (hu : Kd.C (Kd.int .i64) w E uses.length uses) (hb : uses.length ≤ 1000000) :
    Calls Try.prog 34 #[.agg #[.slice B m d, .slice E uses.length k], .int .i64 n] w fun e w' => e = .returned (.int .i64 (idx uses n)) ∧ Below w.heap.size w w' := by
  have HU := Lib.hid hu
  clear hu
  obtain ⟨r, hr⟩ : ∃ r, idx uses n = r := ⟨_, rfl⟩
  rw [hr]
  have HR0 : Hid (idxI (uses.drop 0) n 0 = r) := Lib.hid hr
  clear hr
  go_enter Try.func34, Try.ntmps34
  go_wp2
  have HP0 : Hid ((w.alloc (.cells #[.slice B m d, .slice E uses.length k] 37)).heap[w.heap.size]? = some (.cells #[.slice B m d, .slice E uses.length k] 37 (0, 0))) := Lib.hid (alloc_at rfl)
  go_loopw [5] (fun v wr => ∃ j : Nat, v = .int .i64 j ∧ j ≤ uses.length ∧ Hid (idxI (uses.drop j) n j = r) ∧ Hid (wr.heap[w.heap.size]? = some (.cells #[.slice B m d, .slice E uses.length k] 37 (0, 0))) ∧ Below w.heap.size w wr) (fun v _ => uses.length - (intOf v).toNat)
  case atStart => exact ⟨0, rfl, Nat.zero_le _, HR0, HP0, below_alloc (Below.refl _ _) _⟩
  case round =>
  obtain ⟨j, rfl, hj, HQ, HP, hB⟩ := hrel
  clear HP0 HR0
  have hp1 : wr.cell? ⟨w.heap.size, 1, none⟩ = some (.slice E uses.length k) := (blk_cell HP.out 1).trans rfl
  by_cases hlt : j < uses.length
  rotate_left
  · obtain rfl : j = uses.length := by omega
    have hr : r = -1 := by rw [← HQ.out, List.drop_length]; rfl
    subst hr
    go_wp2
    go_ret
    exact ⟨rfl, hB⟩
  have hj0 : (0 : Int) ≤ (j : Int) := by omega
  have hj1 : (j : Int) < (uses.length : Int) := by omega
  obtain ⟨ad, rfl, hx0⟩ := Kd.at_int (Kd.C_below HU.out hB) (j : Int) hj0 hj1
  simp only [Int.toNat_natCast] at hx0
  have hdr : uses.drop j = rd uses (j : Int) :: uses.drop (j + 1) := by rw [List.drop_eq_getElem_cons hlt]; simp [rd, hlt, List.getD_eq_getElem?_getD]
  generalize rd uses (j : Int) = u at hx0 hdr
  have HDR := Lib.hid hdr
  clear hdr
  cases c : u == n with
  | true =>
    have hr : r = (j : Int) := by
      rw [← HQ.out, HDR.out]; simp only [idxI]; rw [if_pos (beq_iff_eq.1 c).symm]
    subst hr
    go_wp2
    go_ret
    exact ⟨rfl, hB⟩
  | false =>
    have HQ2 : Hid (idxI (uses.drop (j + 1)) n (j + 1) = r) := Lib.hid (by
      have h := HQ.out
      rw [HDR.out] at h; simp only [idxI] at h
      rw [if_neg (fun e => by subst e; simp at c)] at h
      exact h)
    go_wp2
    go_roundw
    case rel => exact ⟨j + 1, by go_num, by omega, HQ2, HP, hB⟩
    case measure => simp [intOf]; omega

/-! list 60, Cuts 49 -/
theorem C_cell {w : World} {E : Option Addr} {uses : List Int} (h : Kd.C (Kd.int .i64) w E uses.length uses) : (E = none ∧ uses = []) ∨ ∃ ad, E = some ad ∧ ∀ (j : Nat) u, (ints uses)[j]? = some u → w.cell? (ad.add j) = some u := by
  cases E with
  | none =>
    refine .inl ⟨rfl, ?_⟩
    by_cases h0 : uses.length = 0
    · exact List.eq_nil_of_length_eq_zero h0
    · obtain ⟨ad, e, -⟩ := Kd.at_int h 0 (Int.le_refl _) (by omega)
      cases e
  | some ad =>
    refine .inr ⟨ad, rfl, fun j u hj => ?_⟩
    have hlt : j < uses.length := by have := (List.getElem?_eq_some_iff.1 hj).1; simpa [ints] using this
    obtain ⟨ad2, e, hc⟩ := Kd.at_int h (j : Int) (by omega) (by omega)
    cases e
    simp only [Int.toNat_natCast] at hc
    rw [hc, ← hj]
    simp [ints, rd, hlt, List.getD_eq_getElem?_getD]
set_option maxRecDepth 100000 in
theorem list_calls (E : Option Addr) (k : Nat) (uses : List Int) (w : World) (hu : Kd.C (Kd.int .i64) w E uses.length uses) (hb : uses.length ≤ 1000000) :
    Calls Try.prog 60 #[.slice E uses.length k] w fun e w' => ∃ v, e = .returned v ∧ w'.ownsRow w.heap.size 3 1 v uses.length (ints uses) ∧ Below w.heap.size w w' := by
  obtain ⟨i0, hinf, hq0, hq1, hq2⟩ := info_parts infoS3
  have hown : (w.alloc (.cells #[] 3)).ownsRow w.heap.size 3 1 (.slice (some ⟨w.heap.size, 0, none⟩) 0 0) 0 [] := lit_own (Nat.le_refl _) (alloc_at (by simp)) rfl (by omega)
  rcases C_cell hu with ⟨rfl, rfl⟩ | ⟨ad, rfl, hce⟩
  · clear hu
    rw [List.length_nil]
    have HO := Lib.hid hown
    clear hown
    go_enter Try.func60, Try.ntmps60
    go_wp2
    go_ret
    exact ⟨_, rfl, HO.out, below_alloc (Below.refl _ _) _⟩
  · have HC := Lib.hid (fun (j : Nat) u h => (pw_cell_below (below_alloc (Below.refl _ _) (.cells #[] 3)) (hce j u h) : (w.alloc (.cells #[] 3)).cell? _ = _))
    have HS : Hid (Below w.heap.size w (w.alloc (.cells #[] 3))) := Lib.hid (below_alloc (Below.refl _ _) _)
    clear hce hu
    go_enter Try.func60, Try.ntmps60
    go_wp2_with (at_builtin; refine wpList_append_own_at _ rfl _ _ 35 rfl w.heap.size 3 i0 _ 1 8 Try.underlying35 hinf hq0 hq1 hq2 rfl (by decide) _ _ _ rfl hown ad uses.length k (ints uses) rfl (by simp [ints]) HC.out (by simp [ints, Value.oneCell']) (by simp [maxLen]; omega) (by omega) HS.out.size ?_; intro v1 W1 own1 hgr _ hat; rw [Nat.zero_add] at own1; have hB := pw_below_grown HS.out _ HS.out.size hgr (own_base hown); obtain ⟨A1, c1, rfl⟩ := own_form own1)
    go_ret
    exact ⟨_, rfl, own1, hB⟩
set_option maxRecDepth 100000 in
set_option maxHeartbeats 2000000 in
theorem lcuts_calls (B : Option Addr) (d : Nat) (cuts : List S107) (w : World) (hq : Kd.C k107 w B cuts.length cuts) (hcm : cuts.length ≤ 1000) :
    Calls Try.prog 49 #[.slice B cuts.length d] w fun e w' => ∃ v, e = .returned v ∧ w'.ownsRow w.heap.size 112 3 v cuts.length (ccs (cuts.map toC)) ∧ Below w.heap.size w w' := by
  have HQ := Lib.hid hq
  clear hq
  have HS0 : Hid (w.ownsRow w.heap.size 112 3 (.slice none 0 0) 0 (ccs ((cuts.take 0).map toC))) := Lib.hid (World.ownsRow_nil _ _ _ _)
  go_enter Try.func49, Try.ntmps49
  go_wp2
  go_loopw [3, 4] (fun v3 v wr => ∃ j : Nat, v = .int .i64 j ∧ j ≤ cuts.length ∧ Hid (wr.ownsRow w.heap.size 112 3 v3 j (ccs ((cuts.take j).map toC))) ∧ Below w.heap.size w wr) (fun _ v _ => cuts.length - (intOf v).toNat)
  case atStart => exact ⟨0, rfl, Nat.zero_le _, HS0, Below.refl _ _⟩
  case round =>
  clear HS0
  obtain ⟨j, rfl, hj, HO, hB⟩ := hrel
  by_cases hlt : j < cuts.length
  rotate_left
  · obtain rfl : j = cuts.length := by omega
    have ho := HO.out
    rw [List.take_length] at ho
    obtain ⟨A1, c1, rfl⟩ := own_form ho
    have HO2 := Lib.hid ho
    clear ho HO
    go_wp2
    go_ret
    exact ⟨_, rfl, HO2.out, hB⟩
  have hj0 : (0 : Int) ≤ (j : Int) := by omega
  have hj1 : (j : Int) < (cuts.length : Int) := by omega
  obtain ⟨ad, rfl, hx0, hx1, hx2⟩ := at_T107 HQ.out (j : Int) hj0 hj1
  simp only [Int.toNat_natCast] at hx0 hx1 hx2
  have htk : (cuts.take (j + 1)).map toC = (cuts.take j).map toC ++ [toC (rd_T107 cuts (j : Int))] := by
    have e : rd_T107 cuts (j : Int) = cuts[j] := by simp [rd_T107, hlt, List.getD_eq_getElem?_getD]
    rw [e, List.take_succ_eq_append_getElem hlt, List.map_append]; rfl
  have HTK := Lib.hid htk
  clear htk
  generalize hye : rd_T107 cuts (j : Int) = x at *
  clear hye
  have p1 := HO.out
  obtain ⟨A1, c1, rfl⟩ := own_form p1
  have hBd : Below w.heap.size w wr.drew := below_drew1 hB
  have p1 : wr.drew.ownsRow w.heap.size 112 3 (.slice A1 j c1) j (ccs ((cuts.take j).map toC)) := HO.out
  clear HO hB
  go_wp2
  refine start_ (n := 20) (S := fun w' => w'.cell? (ad.add (j * 3)) = some (.int .i64 x.f0) ∧ w'.cell? ⟨(ad.add (j * 3)).block, (ad.add (j * 3)).off + 1, none⟩ = some (.bool x.f1) ∧ w'.cell? ⟨(ad.add (j * 3)).block, (ad.add (j * 3)).off + 2, none⟩ = some (.int .i64 x.f2)) (ds := []) #[false, false, false, false, false, false, false, false, false, false, false, false, false, false, false, false, false, false, false, false] (by kernel_rfl) rfl rfl ⟨(pw_cell_below hBd hx0), (pw_cell_below hBd hx1), (pw_cell_below hBd hx2)⟩ (fun hHeld => ?_)
  refine pure_ (i := 0) (N := some 11) (v := ?_) (a' := ?_) #[true, false, false, false, false, false, false, false, false, false, false, false, false, false, false, false, false, false, false, false] rfl rfl (by kernel_rfl) (fun _ _ _ h => h) (Or.inl ⟨by rfl, ?_⟩) ?_ ?_
  rotate_left
  · intro w'
    go_simp
    with_reducible rfl
  rotate_left
  · simp only [Act.put, List.setIfInBounds_toArray, List.set_cons_zero, List.set_cons_succ, i64_w, i32_w]
    rfl
  refine pure_ (i := 1) (N := some 12) (v := ?_) (a' := ?_) #[true, true, false, false, false, false, false, false, false, false, false, false, false, false, false, false, false, false, false, false] rfl rfl (by kernel_rfl) (fun _ _ _ h => h) (Or.inl ⟨by rfl, ?_⟩) ?_ ?_
  rotate_left
  · intro w'
    go_simp
    with_reducible rfl
  rotate_left
  · simp only [Act.put, List.setIfInBounds_toArray, List.set_cons_zero, List.set_cons_succ, i64_w, i32_w]
    rfl
  refine pure_ (i := 2) (N := some 13) (v := ?_) (a' := ?_) #[true, true, true, false, false, false, false, false, false, false, false, false, false, false, false, false, false, false, false, false] rfl rfl (by kernel_rfl) (fun _ _ _ h => h) (Or.inl ⟨by rfl, ?_⟩) ?_ ?_
  rotate_left
  · intro w'
    go_simp
    with_reducible rfl
  rotate_left
  · simp only [Act.put, List.setIfInBounds_toArray, List.set_cons_zero, List.set_cons_succ, i64_w, i32_w]
    rfl
  refine pure_ (i := 3) (N := some 14) (v := ?_) (a' := ?_) #[true, true, true, true, false, false, false, false, false, false, false, false, false, false, false, false, false, false, false, false] rfl rfl (by kernel_rfl) (fun _ _ _ h => h) (Or.inl ⟨by rfl, ?_⟩) ?_ ?_
  rotate_left
  · intro w'
    go_simp
    with_reducible rfl
  rotate_left
  · simp only [Act.put, List.setIfInBounds_toArray, List.set_cons_zero, List.set_cons_succ, i64_w, i32_w]
    rfl
  refine pure_ (i := 4) (N := some 15) (v := ?_) (a' := ?_) #[true, true, true, true, true, false, false, false, false, false, false, false, false, false, false, false, false, false, false, false] rfl rfl (by kernel_rfl) (fun _ _ _ h => h) (Or.inl ⟨by rfl, ?_⟩) ?_ ?_
  rotate_left
  · intro w'
    go_simp
    with_reducible rfl
  rotate_left
  · simp only [Act.put, List.setIfInBounds_toArray, List.set_cons_zero, List.set_cons_succ, i64_w, i32_w]
    rfl
  refine pure_ (i := 6) (N := some 17) (v := ?_) (a' := ?_) #[true, true, true, true, true, false, true, false, false, false, false, false, false, false, false, false, false, false, false, false] rfl rfl (by kernel_rfl) (fun _ _ _ h => h) (Or.inl ⟨by rfl, ?_⟩) ?_ ?_
  rotate_left
  · intro w'
    go_simp
    with_reducible rfl
  rotate_left
  · simp only [Act.put, List.setIfInBounds_toArray, List.set_cons_zero, List.set_cons_succ, i64_w, i32_w]
    rfl
  refine pure_ (i := 7) (N := some 18) (v := ?_) (a' := ?_) #[true, true, true, true, true, false, true, true, false, false, false, false, false, false, false, false, false, false, false, false] rfl rfl (by kernel_rfl) (fun _ _ _ h => h) (Or.inl ⟨by rfl, ?_⟩) ?_ ?_
  rotate_left
  · intro w'
    go_simp
    with_reducible rfl
  rotate_left
  · simp only [Act.put, List.setIfInBounds_toArray, List.set_cons_zero, List.set_cons_succ, i64_w, i32_w]
    rfl
  refine pure_ (i := 8) (N := some 19) (v := ?_) (a' := ?_) #[true, true, true, true, true, false, true, true, true, false, false, false, false, false, false, false, false, false, false, false] rfl rfl (by kernel_rfl) (fun _ _ _ h => h) (Or.inl ⟨by rfl, ?_⟩) ?_ ?_
  rotate_left
  · intro w'
    go_simp
    with_reducible rfl
  rotate_left
  · simp only [Act.put, List.setIfInBounds_toArray, List.set_cons_zero, List.set_cons_succ, i64_w, i32_w]
    rfl
  refine pure_ (i := 9) (N := some 20) (v := ?_) (a' := ?_) #[true, true, true, true, true, false, true, true, true, true, false, false, false, false, false, false, false, false, false, false] rfl rfl (by kernel_rfl) (fun _ _ _ h => h) (Or.inl ⟨by rfl, ?_⟩) ?_ ?_
  rotate_left
  · intro w'
    go_simp
    with_reducible rfl
  rotate_left
  · simp only [Act.put, List.setIfInBounds_toArray, List.set_cons_zero, List.set_cons_succ, i64_w, i32_w]
    rfl
  refine pure_ (i := 11) (N := some 22) (v := ?_) (a' := ?_) #[true, true, true, true, true, false, true, true, true, true, false, true, false, false, false, false, false, false, false, false] rfl rfl (by kernel_rfl) (fun _ _ _ h => h) (Or.inl ⟨by rfl, ?_⟩) ?_ ?_
  rotate_left
  · intro w'
    go_simp
    with_reducible rfl
  rotate_left
  · simp only [Act.put, List.setIfInBounds_toArray, List.set_cons_zero, List.set_cons_succ, i64_w, i32_w]
    rfl
  refine pure_ (i := 12) (N := some 23) (v := ?_) (a' := ?_) #[true, true, true, true, true, false, true, true, true, true, false, true, true, false, false, false, false, false, false, false] rfl rfl (by kernel_rfl) (fun _ _ _ h => h) (Or.inl ⟨by rfl, ?_⟩) ?_ ?_
  rotate_left
  · intro w'
    go_simp
    with_reducible rfl
  rotate_left
  · simp only [Act.put, List.setIfInBounds_toArray, List.set_cons_zero, List.set_cons_succ, i64_w, i32_w]
    rfl
  refine pure_ (i := 13) (N := some 24) (v := ?_) (a' := ?_) #[true, true, true, true, true, false, true, true, true, true, false, true, true, true, false, false, false, false, false, false] rfl rfl (by kernel_rfl) (fun _ _ _ h => h) (Or.inl ⟨by rfl, ?_⟩) ?_ ?_
  rotate_left
  · intro w'
    go_simp
    with_reducible rfl
  rotate_left
  · simp only [Act.put, List.setIfInBounds_toArray, List.set_cons_zero, List.set_cons_succ, i64_w, i32_w]
    rfl
  refine pure_ (i := 14) (N := some 25) (v := ?_) (a' := ?_) #[true, true, true, true, true, false, true, true, true, true, false, true, true, true, true, false, false, false, false, false] rfl rfl (by kernel_rfl) (fun _ _ _ h => h) (Or.inl ⟨by rfl, ?_⟩) ?_ ?_
  rotate_left
  · intro w'
    go_simp
    with_reducible rfl
  rotate_left
  · simp only [Act.put, List.setIfInBounds_toArray, List.set_cons_zero, List.set_cons_succ, i64_w, i32_w]
    rfl
  refine take_ (i := 5) (N := some 16) (v := ?_) (a' := ?_) #[true, true, true, true, true, true, true, true, true, true, false, true, true, true, true, false, false, false, false, false] rfl rfl (by kernel_rfl) (fun _ _ _ h => h) (Or.inl ⟨by rfl, ?_⟩) hHeld ?_ ?_
  rotate_left
  · rintro w' ⟨s0, s1, s2⟩
    go_simp
    with_reducible rfl
  rotate_left
  · simp only [Act.put, List.setIfInBounds_toArray, List.set_cons_zero, List.set_cons_succ, i64_w, i32_w]
    rfl
  refine take_ (i := 10) (N := some 21) (v := ?_) (a' := ?_) #[true, true, true, true, true, true, true, true, true, true, true, true, true, true, true, false, false, false, false, false] rfl rfl (by kernel_rfl) (fun _ _ _ h => h) (Or.inl ⟨by rfl, ?_⟩) hHeld ?_ ?_
  rotate_left
  · rintro w' ⟨s0, s1, s2⟩
    go_simp
    with_reducible rfl
  rotate_left
  · simp only [Act.put, List.setIfInBounds_toArray, List.set_cons_zero, List.set_cons_succ, i64_w, i32_w]
    rfl
  refine take_ (i := 15) (N := some 26) (v := ?_) (a' := ?_) #[true, true, true, true, true, true, true, true, true, true, true, true, true, true, true, true, false, false, false, false] rfl rfl (by kernel_rfl) (fun _ _ _ h => h) (Or.inl ⟨by rfl, ?_⟩) hHeld ?_ ?_
  rotate_left
  · rintro w' ⟨s0, s1, s2⟩
    go_simp
    with_reducible rfl
  rotate_left
  · simp only [Act.put, List.setIfInBounds_toArray, List.set_cons_zero, List.set_cons_succ, i64_w, i32_w]
    rfl
  refine pure_ (i := 16) (N := some 27) (v := ?_) (a' := ?_) #[true, true, true, true, true, true, true, true, true, true, true, true, true, true, true, true, true, false, false, false] rfl rfl (by kernel_rfl) (fun _ _ _ h => h) (Or.inl ⟨by rfl, ?_⟩) ?_ ?_
  rotate_left
  · intro w'
    go_simp
    with_reducible rfl
  rotate_left
  · simp only [Act.put, List.setIfInBounds_toArray, List.set_cons_zero, List.set_cons_succ, i64_w, i32_w]
    rfl
  refine one_ (i := 17) (N := some 28) #[true, true, true, true, true, true, true, true, true, true, true, true, true, true, true, true, true, true, false, false] rfl rfl (by kernel_rfl) (by decide) (fun K hK => ?_)
  refine slit_ (.cells #[.int .i64 x.f0, .bool x.f1, .int .i64 x.f2] 112 (0, 0)) 1 (by rfl) rfl ?_ ?_
  · first | (go_simp; done) | (go_simp; rfl)
  intro g7 V1 hg7 hl7 hs
  replace p1 := pw_own_below p1 hs
  replace hBd := below_step hBd hs
  refine hK.out _ _ ⟨(pw_cell_below hBd hx0), (pw_cell_below hBd hx1), (pw_cell_below hBd hx2)⟩ (fun hHeld => ?_)
  clear hK K
  refine norm_ (a' := ?_) ?_ ?_
  rotate_left
  · show Act.put _ (some 28) _ = _
    simp only [Act.put, List.setIfInBounds_toArray, List.set_cons_zero, List.set_cons_succ, i64_w, i32_w]
    rfl
  refine one_ (i := 18) (N := some 29) #[true, true, true, true, true, true, true, true, true, true, true, true, true, true, true, true, true, true, true, false] rfl rfl (by kernel_rfl) (by decide) (fun K hK => ?_)
  refine app_ w.heap.size (by rfl) rfl _ _ 57 112 _ 3 24 rfl Try.underlying57 infoS112 rfl (by decide) (by decide) (.slice A1 j c1) j (ccs ((cuts.take j).map toC)) (cc (toC x)) (by rfl) (by rfl) hg7 rfl (by simp [cc, toC, Value.oneCell']) p1 hBd.size (by omega) ?_
  intro v8 V2 own8 hgr hat
  obtain ⟨g8, c8, rfl⟩ := ownsRow_succ own8
  replace hBd := pw_below_grown hBd _ hBd.size hgr (own_base p1)
  refine hK.out _ _ ⟨(pw_cell_below hBd hx0), (pw_cell_below hBd hx1), (pw_cell_below hBd hx2)⟩ (fun hHeld => ?_)
  clear hK K
  refine norm_ (a' := ?_) ?_ ?_
  rotate_left
  · show Act.put _ (some 29) _ = _
    simp only [Act.put, List.setIfInBounds_toArray, List.set_cons_zero, List.set_cons_succ, i64_w, i32_w]
    rfl
  refine pure_ (i := 19) (N := some 3) (v := ?_) (a' := ?_) #[true, true, true, true, true, true, true, true, true, true, true, true, true, true, true, true, true, true, true, true] rfl rfl (by kernel_rfl) (fun _ _ _ h => h) (Or.inl ⟨by rfl, ?_⟩) ?_ ?_
  rotate_left
  · intro w'
    go_simp
    with_reducible rfl
  rotate_left
  · simp only [Act.put, List.setIfInBounds_toArray, List.set_cons_zero, List.set_cons_succ, i64_w, i32_w]
    rfl
  refine done_ (by kernel_rfl) ?_
  have hon : Hid (V2.ownsRow w.heap.size 112 3 (.slice (some ⟨g8, 0, none⟩) (j + 1) c8) (j + 1) (ccs ((cuts.take (j + 1)).map toC))) := Lib.hid (by rw [HTK.out, ccs_append, ccs_one]; exact own8)
  clear own8 hx0 hx1 hx2 hHeld
  go_wp2
  go_roundw
  case rel => exact ⟨j + 1, by go_num, by omega, hon, hBd⟩
  case measure => simp [intOf]; omega
/-! Plate 27 -/
theorem wcs_append (a b : List S115) : (a ++ b).flatMap wc = a.flatMap wc ++ b.flatMap wc := by simp
theorem infoS115 : (Try.prog.info? 115).map (fun i => (i.zero, i.size, i.bytes)) = some (some (.agg #[.int .i64 0, .int .i64 0, .bool false, .int .i64 0, .int .i64 0, .int .i64 0, .int .i64 0, .int .i64 0]), 8, 64) := by kernel_rfl
structure PlI (w : World) (a0 a1 a2 : Int) (sv u : Value) (j : Nat) (xs : List S115) (wr : World) : Prop where
  b0 : wr.heap[w.heap.size]? = some (.cells #[.int .i64 a0, .int .i64 a1, .int .i64 a2, sv] 24 (0, 0))
  b1 : wr.heap[w.heap.size + 1]? = some (.cells #[.int .i64 0, .int .i64 0, .int .i64 0, .slice none 0 0] 55 (0, 0))
  b2 : wr.heap[w.heap.size + 1 + 1]? = some (.cells #[.int .i64 a0, .int .i64 a1, .int .i64 a2, u] 55 (0, 0))
  own : wr.ownsRow w.heap.size 115 8 u j (xs.flatMap wc)
  low : Below w.heap.size w wr
set_option maxRecDepth 100000 in
set_option maxHeartbeats 4000000 in
theorem lplate_calls (a0 a1 a2 : Int) (A : Option Addr) (c : Nat) (l : List S82) (w : World) (hl : Kd.C k82 w A l.length l) (hcm : l.length ≤ 1000) :
    Calls Try.prog 27 #[.agg #[.int .i64 a0, .int .i64 a1, .int .i64 a2, .slice A l.length c]] w fun e w' => ∃ v, e = .returned (.agg #[.int .i64 a0, .int .i64 a1, .int .i64 a2, v]) ∧ w'.ownsRow w.heap.size 115 8 v l.length ((l.map toW).flatMap wc) ∧ Below w.heap.size w w' := by
  have HL := Lib.hid hl
  clear hl
  go_enter Try.func27, Try.ntmps27
  go_wp2
  have hA1 : Below w.heap.size w (w.alloc (.cells #[.int .i64 a0, .int .i64 a1, .int .i64 a2, .slice A l.length c] 24)) := below_alloc (Below.refl _ _) _
  have hS0 : Hid (PlI w a0 a1 a2 (.slice A l.length c) (.slice none 0 0) 0 [] (((w.alloc (.cells #[.int .i64 a0, .int .i64 a1, .int .i64 a2, .slice A l.length c] 24)).alloc (.cells #[.int .i64 0, .int .i64 0, .int .i64 0, .slice none 0 0] 55)).alloc (.cells #[.int .i64 a0, .int .i64 a1, .int .i64 a2, .slice none 0 0] 55))) :=
    Lib.hid ⟨blk_below (blk_below (alloc_at rfl) (below_alloc (Below.refl _ _) _)) (below_alloc (Below.refl _ _) _), blk_below (alloc_at (by simp)) (below_alloc (Below.refl _ _) _), alloc_at (by simp), World.ownsRow_nil _ _ _ _, below_alloc (below_alloc hA1 _) _⟩
  clear hA1
  go_loopw [4] (fun v wr => ∃ (j : Nat) (u : Value), v = .int .i64 j ∧ j ≤ l.length ∧ Hid (PlI w a0 a1 a2 (.slice A l.length c) u j ((l.take j).map toW) wr)) (fun v _ => l.length - (intOf v).toNat)
  case atStart => exact ⟨0, _, rfl, Nat.zero_le _, hS0⟩
  case round =>
  clear hS0
  obtain ⟨j, u, rfl, hj, HI⟩ := hrel
  have hb0 : wr.cell? ⟨w.heap.size, 3, none⟩ = some (.slice A l.length c) := (blk_cell HI.out.b0 3).trans rfl
  by_cases hlt : j < l.length
  rotate_left
  · obtain rfl : j = l.length := by omega
    obtain ⟨i0, i1, i2, i3, i4⟩ := HI.out
    rw [List.take_length] at i3
    have HI1 := Lib.hid i1
    have HI3 := Lib.hid i3
    have HI4 := Lib.hid i4
    have y0 : (wr).cell? ⟨w.heap.size + 1 + 1, 0, none⟩ = some (.int .i64 a0) := (blk_cell i2 0).trans rfl; have y1 : (wr).cell? ⟨w.heap.size + 1 + 1, 1, none⟩ = some (.int .i64 a1) := (blk_cell i2 1).trans rfl; have y2 : (wr).cell? ⟨w.heap.size + 1 + 1, 2, none⟩ = some (.int .i64 a2) := (blk_cell i2 2).trans rfl; have y3 : (wr).cell? ⟨w.heap.size + 1 + 1, 3, none⟩ = some (u) := (blk_cell i2 3).trans rfl
    have z0 : (wr).cell? ⟨w.heap.size + 1, 0, none⟩ = some (.int .i64 0) := (blk_cell i1 0).trans rfl; have zf0 : (wr).frozen? ⟨w.heap.size + 1, 0, none⟩ = false := blk_frozen i1 0; have z1 : (wr).cell? ⟨w.heap.size + 1, 1, none⟩ = some (.int .i64 0) := (blk_cell i1 1).trans rfl; have zf1 : (wr).frozen? ⟨w.heap.size + 1, 1, none⟩ = false := blk_frozen i1 1; have z2 : (wr).cell? ⟨w.heap.size + 1, 2, none⟩ = some (.int .i64 0) := (blk_cell i1 2).trans rfl; have zf2 : (wr).frozen? ⟨w.heap.size + 1, 2, none⟩ = false := blk_frozen i1 2; have z3 : (wr).cell? ⟨w.heap.size + 1, 3, none⟩ = some (.slice none 0 0) := (blk_cell i1 3).trans rfl; have zf3 : (wr).frozen? ⟨w.heap.size + 1, 3, none⟩ = false := blk_frozen i1 3
    obtain ⟨A1, c1, rfl⟩ := own_form i3
    have hne1 := own_ne i3 i1 (by decide)
    clear i0 i1 i2 i3 i4 HI hj
    go_wp2
    refine bodyPost_ret (results_single rfl (.cell (w.heap.size + 1) 55 #[.int .i64 a0, .int .i64 a1, .int .i64 a2, .slice A1 l.length c1] (0, 0) _ rfl (blk_put (blk_put (blk_put (blk_put HI1.out 0 _ (cs' := #[.int .i64 a0, .int .i64 0, .int .i64 0, .slice none 0 0]) rfl) 1 _ (cs' := #[.int .i64 a0, .int .i64 a1, .int .i64 0, .slice none 0 0]) rfl) 2 _ (cs' := #[.int .i64 a0, .int .i64 a1, .int .i64 a2, .slice none 0 0]) rfl) 3 _ rfl) Try.underlying55 rfl (by kernel_rfl) .nil)) rfl ?_
    refine ⟨_, rfl, own_setCell (own_setCell (own_setCell (own_setCell HI3.out hne1 _) hne1 _) hne1 _) hne1 _, ?_⟩
    refine below_set (below_set (below_set (below_set HI4.out ?_) ?_) ?_) ?_ <;> simp
  have hj0 : (0 : Int) ≤ (j : Int) := by omega
  have hj1 : (j : Int) < (l.length : Int) := by omega
  obtain ⟨ad, rfl, hx0, hx1, hx2, hx3, hx4, hx5, hx6, hx7⟩ := at_T82 (Kd.C_below HL.out HI.out.low) (j : Int) hj0 hj1
  simp only [Int.toNat_natCast] at hx0 hx1 hx2 hx3 hx4 hx5 hx6 hx7
  have htk : (l.take (j + 1)).map toW = (l.take j).map toW ++ [toW (rd_T82 l (j : Int))] := by
    have e : rd_T82 l (j : Int) = l[j] := by simp [rd_T82, hlt, List.getD_eq_getElem?_getD]
    rw [e, List.take_succ_eq_append_getElem hlt, List.map_append]; rfl
  have HTK := Lib.hid htk
  clear htk
  generalize hye : rd_T82 l (j : Int) = x at *
  clear hye
  go_wp2
  obtain ⟨V0, hV0⟩ : ∃ V0, V0 = wr.alloc (.cells #[.int .i64 x.f0, .int .i64 x.f1, .bool x.f2, .int .i64 x.f3, .int .i64 x.f4.f0, .int .i64 x.f4.f1, .int .i64 x.f5.f0, .int .i64 x.f5.f1] 82) := ⟨_, rfl⟩
  rw [← hV0]
  have hs : Below wr.heap.size wr V0 := by rw [hV0]; exact below_alloc (Below.refl _ _) _
  have hC : V0.heap[wr.heap.size]? = some (.cells #[.int .i64 x.f0, .int .i64 x.f1, .bool x.f2, .int .i64 x.f3, .int .i64 x.f4.f0, .int .i64 x.f4.f1, .int .i64 x.f5.f0, .int .i64 x.f5.f1] 82 (0, 0)) := by rw [hV0]; exact alloc_at rfl
  obtain ⟨i0, i1, i2, i3, i4⟩ := HI.out
  obtain ⟨A1, c1, rfl⟩ := own_form i3
  have hlow := i4.size
  have q0 : V0.drew.heap[w.heap.size]? = _ := blk_below i0 (below_drew1 hs)
  have q1 : V0.drew.heap[w.heap.size + 1]? = _ := blk_below i1 (below_drew1 hs)
  have q2 : V0.drew.heap[w.heap.size + 1 + 1]? = _ := blk_below i2 (below_drew1 hs)
  have p1 : V0.drew.ownsRow w.heap.size 115 8 (.slice A1 j c1) j (((l.take j).map toW).flatMap wc) := pw_own_below i3 (below_drew1 hs)
  have hBd : Below w.heap.size w V0.drew := below_drew1 (below_step i4 hs)
  have hC5 : V0.drew.heap[wr.heap.size]? = _ := hC
  clear hC hs hV0 HI i0 i1 i2 i3 i4 hx0 hx1 hx2 hx3 hx4 hx5 hx6 hx7 hb0
  have hj2 : j ≤ 1000 := by omega
  generalize wr.heap.size = b5 at hC5 hlow ⊢
  refine start_ (n := 21) (S := fun w' => w'.cell? ⟨w.heap.size + 1 + 1, 3, none⟩ = some (.slice A1 j c1) ∧ w'.cell? ⟨b5, 0, none⟩ = some (.int .i64 x.f0) ∧ w'.cell? ⟨b5, 1, none⟩ = some (.int .i64 x.f1) ∧ w'.cell? ⟨b5, 2, none⟩ = some (.bool x.f2) ∧ w'.cell? ⟨b5, 3, none⟩ = some (.int .i64 x.f3) ∧ w'.cell? ⟨b5, 4, none⟩ = some (.int .i64 x.f4.f0) ∧ w'.cell? ⟨b5, 5, none⟩ = some (.int .i64 x.f4.f1) ∧ w'.cell? ⟨b5, 6, none⟩ = some (.int .i64 x.f5.f0) ∧ w'.cell? ⟨b5, 7, none⟩ = some (.int .i64 x.f5.f1)) (ds := [20]) #[false, false, false, false, false, false, false, false, false, false, false, false, false, false, false, false, false, false, false, false, false] (by kernel_rfl) rfl rfl ⟨((blk_cell q2 3).trans rfl), ((blk_cell hC5 0).trans rfl), ((blk_cell hC5 1).trans rfl), ((blk_cell hC5 2).trans rfl), ((blk_cell hC5 3).trans rfl), ((blk_cell hC5 4).trans rfl), ((blk_cell hC5 5).trans rfl), ((blk_cell hC5 6).trans rfl), ((blk_cell hC5 7).trans rfl)⟩ (fun hHeld => ?_)
  refine pure_ (i := 0) (N := some 25) (v := ?_) (a' := ?_) #[true, false, false, false, false, false, false, false, false, false, false, false, false, false, false, false, false, false, false, false, false] rfl rfl (by kernel_rfl) (fun _ _ _ h => h) (Or.inl ⟨by rfl, ?_⟩) ?_ ?_
  rotate_left
  · intro w'
    go_simp
    with_reducible rfl
  rotate_left
  · simp only [Act.put, List.setIfInBounds_toArray, List.set_cons_zero, List.set_cons_succ, i64_w, i32_w]
    rfl
  refine pure_ (i := 2) (N := some 27) (v := ?_) (a' := ?_) #[true, false, true, false, false, false, false, false, false, false, false, false, false, false, false, false, false, false, false, false, false] rfl rfl (by kernel_rfl) (fun _ _ _ h => h) (Or.inl ⟨by rfl, ?_⟩) ?_ ?_
  rotate_left
  · intro w'
    go_simp
    with_reducible rfl
  rotate_left
  · simp only [Act.put, List.setIfInBounds_toArray, List.set_cons_zero, List.set_cons_succ, i64_w, i32_w]
    rfl
  refine pure_ (i := 4) (N := some 29) (v := ?_) (a' := ?_) #[true, false, true, false, true, false, false, false, false, false, false, false, false, false, false, false, false, false, false, false, false] rfl rfl (by kernel_rfl) (fun _ _ _ h => h) (Or.inl ⟨by rfl, ?_⟩) ?_ ?_
  rotate_left
  · intro w'
    go_simp
    with_reducible rfl
  rotate_left
  · simp only [Act.put, List.setIfInBounds_toArray, List.set_cons_zero, List.set_cons_succ, i64_w, i32_w]
    rfl
  refine pure_ (i := 6) (N := some 31) (v := ?_) (a' := ?_) #[true, false, true, false, true, false, true, false, false, false, false, false, false, false, false, false, false, false, false, false, false] rfl rfl (by kernel_rfl) (fun _ _ _ h => h) (Or.inl ⟨by rfl, ?_⟩) ?_ ?_
  rotate_left
  · intro w'
    go_simp
    with_reducible rfl
  rotate_left
  · simp only [Act.put, List.setIfInBounds_toArray, List.set_cons_zero, List.set_cons_succ, i64_w, i32_w]
    rfl
  refine pure_ (i := 8) (N := some 33) (v := ?_) (a' := ?_) #[true, false, true, false, true, false, true, false, true, false, false, false, false, false, false, false, false, false, false, false, false] rfl rfl (by kernel_rfl) (fun _ _ _ h => h) (Or.inl ⟨by rfl, ?_⟩) ?_ ?_
  rotate_left
  · intro w'
    go_simp
    with_reducible rfl
  rotate_left
  · simp only [Act.put, List.setIfInBounds_toArray, List.set_cons_zero, List.set_cons_succ, i64_w, i32_w]
    rfl
  refine pure_ (i := 10) (N := some 35) (v := ?_) (a' := ?_) #[true, false, true, false, true, false, true, false, true, false, true, false, false, false, false, false, false, false, false, false, false] rfl rfl (by kernel_rfl) (fun _ _ _ h => h) (Or.inl ⟨by rfl, ?_⟩) ?_ ?_
  rotate_left
  · intro w'
    go_simp
    with_reducible rfl
  rotate_left
  · simp only [Act.put, List.setIfInBounds_toArray, List.set_cons_zero, List.set_cons_succ, i64_w, i32_w]
    rfl
  refine pure_ (i := 13) (N := some 38) (v := ?_) (a' := ?_) #[true, false, true, false, true, false, true, false, true, false, true, false, false, true, false, false, false, false, false, false, false] rfl rfl (by kernel_rfl) (fun _ _ _ h => h) (Or.inl ⟨by rfl, ?_⟩) ?_ ?_
  rotate_left
  · intro w'
    go_simp
    with_reducible rfl
  rotate_left
  · simp only [Act.put, List.setIfInBounds_toArray, List.set_cons_zero, List.set_cons_succ, i64_w, i32_w]
    rfl
  refine take_ (i := 1) (N := some 26) (v := ?_) (a' := ?_) #[true, true, true, false, true, false, true, false, true, false, true, false, false, true, false, false, false, false, false, false, false] rfl rfl (by kernel_rfl) (fun _ _ _ h => h) (Or.inl ⟨by rfl, ?_⟩) hHeld ?_ ?_
  rotate_left
  · rintro w' ⟨s0, s1, s2, s3, s4, s5, s6, s7, s8⟩
    go_simp
    with_reducible rfl
  rotate_left
  · simp only [Act.put, List.setIfInBounds_toArray, List.set_cons_zero, List.set_cons_succ, i64_w, i32_w]
    rfl
  refine take_ (i := 3) (N := some 28) (v := ?_) (a' := ?_) #[true, true, true, true, true, false, true, false, true, false, true, false, false, true, false, false, false, false, false, false, false] rfl rfl (by kernel_rfl) (fun _ _ _ h => h) (Or.inl ⟨by rfl, ?_⟩) hHeld ?_ ?_
  rotate_left
  · rintro w' ⟨s0, s1, s2, s3, s4, s5, s6, s7, s8⟩
    go_simp
    with_reducible rfl
  rotate_left
  · simp only [Act.put, List.setIfInBounds_toArray, List.set_cons_zero, List.set_cons_succ, i64_w, i32_w]
    rfl
  refine take_ (i := 5) (N := some 30) (v := ?_) (a' := ?_) #[true, true, true, true, true, true, true, false, true, false, true, false, false, true, false, false, false, false, false, false, false] rfl rfl (by kernel_rfl) (fun _ _ _ h => h) (Or.inl ⟨by rfl, ?_⟩) hHeld ?_ ?_
  rotate_left
  · rintro w' ⟨s0, s1, s2, s3, s4, s5, s6, s7, s8⟩
    go_simp
    with_reducible rfl
  rotate_left
  · simp only [Act.put, List.setIfInBounds_toArray, List.set_cons_zero, List.set_cons_succ, i64_w, i32_w]
    rfl
  refine take_ (i := 7) (N := some 32) (v := ?_) (a' := ?_) #[true, true, true, true, true, true, true, true, true, false, true, false, false, true, false, false, false, false, false, false, false] rfl rfl (by kernel_rfl) (fun _ _ _ h => h) (Or.inl ⟨by rfl, ?_⟩) hHeld ?_ ?_
  rotate_left
  · rintro w' ⟨s0, s1, s2, s3, s4, s5, s6, s7, s8⟩
    go_simp
    with_reducible rfl
  rotate_left
  · simp only [Act.put, List.setIfInBounds_toArray, List.set_cons_zero, List.set_cons_succ, i64_w, i32_w]
    rfl
  refine take_ (i := 9) (N := some 34) (v := ?_) (a' := ?_) #[true, true, true, true, true, true, true, true, true, true, true, false, false, true, false, false, false, false, false, false, false] rfl rfl (by kernel_rfl) (fun _ _ _ h => h) (Or.inl ⟨by rfl, ?_⟩) hHeld ?_ ?_
  rotate_left
  · rintro w' ⟨s0, s1, s2, s3, s4, s5, s6, s7, s8⟩
    go_simp
    with_reducible rfl
  rotate_left
  · simp only [Act.put, List.setIfInBounds_toArray, List.set_cons_zero, List.set_cons_succ, i64_w, i32_w]
    rfl
  refine take_ (i := 11) (N := some 36) (v := ?_) (a' := ?_) #[true, true, true, true, true, true, true, true, true, true, true, true, false, true, false, false, false, false, false, false, false] rfl rfl (by kernel_rfl) (fun _ _ _ h => h) (Or.inl ⟨by rfl, ?_⟩) hHeld ?_ ?_
  rotate_left
  · rintro w' ⟨s0, s1, s2, s3, s4, s5, s6, s7, s8⟩
    go_simp
    with_reducible rfl
  rotate_left
  · simp only [Act.put, List.setIfInBounds_toArray, List.set_cons_zero, List.set_cons_succ, i64_w, i32_w]
    rfl
  refine take_ (i := 14) (N := some 39) (v := ?_) (a' := ?_) #[true, true, true, true, true, true, true, true, true, true, true, true, false, true, true, false, false, false, false, false, false] rfl rfl (by kernel_rfl) (fun _ _ _ h => h) (Or.inl ⟨by rfl, ?_⟩) hHeld ?_ ?_
  rotate_left
  · rintro w' ⟨s0, s1, s2, s3, s4, s5, s6, s7, s8⟩
    go_simp
    with_reducible rfl
  rotate_left
  · simp only [Act.put, List.setIfInBounds_toArray, List.set_cons_zero, List.set_cons_succ, i64_w, i32_w]
    rfl
  refine one_ (i := 12) (N := some 37) #[true, true, true, true, true, true, true, true, true, true, true, true, true, true, true, false, false, false, false, false, false] rfl rfl (by kernel_rfl) (by decide) (fun K hK => ?_)
  refine goes_ Try.func59 (by kernel_rfl) rfl #[.agg #[.int .i64 x.f4.f0, .int .i64 x.f4.f1]] (by rfl) rfl rfl (by simp only [List.map_toArray, List.map_cons, List.map_nil]; rfl) ?_
  with_reducible refine (to_calls _ _ _).mono ?_
  rintro e V1 ⟨rfl, hs⟩
  replace q0 := blk_below q0 hs
  replace q1 := blk_below q1 hs
  replace q2 := blk_below q2 hs
  replace hC5 := blk_below hC5 hs
  replace p1 := pw_own_below p1 hs
  replace hBd := below_step hBd hs
  clear hs
  refine ⟨_, rfl, ?_⟩
  refine hK.out _ _ ⟨((blk_cell q2 3).trans rfl), ((blk_cell hC5 0).trans rfl), ((blk_cell hC5 1).trans rfl), ((blk_cell hC5 2).trans rfl), ((blk_cell hC5 3).trans rfl), ((blk_cell hC5 4).trans rfl), ((blk_cell hC5 5).trans rfl), ((blk_cell hC5 6).trans rfl), ((blk_cell hC5 7).trans rfl)⟩ (fun hHeld => ?_)
  clear hK K
  refine norm_ (a' := ?_) ?_ ?_
  rotate_left
  · show Act.put _ (some 37) _ = _
    simp only [Act.put, List.setIfInBounds_toArray, List.set_cons_zero, List.set_cons_succ, i64_w, i32_w]
    rfl
  refine one_ (i := 15) (N := some 40) #[true, true, true, true, true, true, true, true, true, true, true, true, true, true, true, true, false, false, false, false, false] rfl rfl (by kernel_rfl) (by decide) (fun K hK => ?_)
  refine goes_ Try.func59 (by kernel_rfl) rfl #[.agg #[.int .i64 x.f5.f0, .int .i64 x.f5.f1]] (by rfl) rfl rfl (by simp only [List.map_toArray, List.map_cons, List.map_nil]; rfl) ?_
  with_reducible refine (to_calls _ _ _).mono ?_
  rintro e V2 ⟨rfl, hs⟩
  replace q0 := blk_below q0 hs
  replace q1 := blk_below q1 hs
  replace q2 := blk_below q2 hs
  replace hC5 := blk_below hC5 hs
  replace p1 := pw_own_below p1 hs
  replace hBd := below_step hBd hs
  clear hs
  refine ⟨_, rfl, ?_⟩
  refine hK.out _ _ ⟨((blk_cell q2 3).trans rfl), ((blk_cell hC5 0).trans rfl), ((blk_cell hC5 1).trans rfl), ((blk_cell hC5 2).trans rfl), ((blk_cell hC5 3).trans rfl), ((blk_cell hC5 4).trans rfl), ((blk_cell hC5 5).trans rfl), ((blk_cell hC5 6).trans rfl), ((blk_cell hC5 7).trans rfl)⟩ (fun hHeld => ?_)
  clear hK K
  refine norm_ (a' := ?_) ?_ ?_
  rotate_left
  · show Act.put _ (some 40) _ = _
    simp only [Act.put, List.setIfInBounds_toArray, List.set_cons_zero, List.set_cons_succ, i64_w, i32_w]
    rfl
  refine pure_ (i := 16) (N := some 41) (v := ?_) (a' := ?_) #[true, true, true, true, true, true, true, true, true, true, true, true, true, true, true, true, true, false, false, false, false] rfl rfl (by kernel_rfl) (fun _ _ _ h => h) (Or.inl ⟨by rfl, ?_⟩) ?_ ?_
  rotate_left
  · intro w'
    go_simp
    with_reducible rfl
  rotate_left
  · simp only [Act.put, List.setIfInBounds_toArray, List.set_cons_zero, List.set_cons_succ, i64_w, i32_w]
    rfl
  refine one_ (i := 17) (N := some 42) #[true, true, true, true, true, true, true, true, true, true, true, true, true, true, true, true, true, true, false, false, false] rfl rfl (by kernel_rfl) (by decide) (fun K hK => ?_)
  refine slit_ (.cells #[.int .i64 x.f0, .int .i64 x.f1, .bool x.f2, .int .i64 x.f3, .int .i64 x.f4.f0, .int .i64 x.f4.f1, .int .i64 x.f5.f0, .int .i64 x.f5.f1] 115 (0, 0)) 1 (by rfl) rfl ?_ ?_
  · first | (go_simp; done) | (go_simp; rfl)
  intro g7 V3 hg7 hl7 hs
  replace q0 := blk_below q0 hs
  replace q1 := blk_below q1 hs
  replace q2 := blk_below q2 hs
  replace hC5 := blk_below hC5 hs
  replace p1 := pw_own_below p1 hs
  replace hBd := below_step hBd hs
  clear hs
  refine hK.out _ _ ⟨((blk_cell q2 3).trans rfl), ((blk_cell hC5 0).trans rfl), ((blk_cell hC5 1).trans rfl), ((blk_cell hC5 2).trans rfl), ((blk_cell hC5 3).trans rfl), ((blk_cell hC5 4).trans rfl), ((blk_cell hC5 5).trans rfl), ((blk_cell hC5 6).trans rfl), ((blk_cell hC5 7).trans rfl)⟩ (fun hHeld => ?_)
  clear hK K
  refine norm_ (a' := ?_) ?_ ?_
  rotate_left
  · show Act.put _ (some 42) _ = _
    simp only [Act.put, List.setIfInBounds_toArray, List.set_cons_zero, List.set_cons_succ, i64_w, i32_w]
    rfl
  refine one_ (i := 18) (N := some 43) #[true, true, true, true, true, true, true, true, true, true, true, true, true, true, true, true, true, true, true, false, false] rfl rfl (by kernel_rfl) (by decide) (fun K hK => ?_)
  refine app_ w.heap.size (by rfl) rfl _ _ 53 115 _ 8 64 rfl Try.underlying53 infoS115 rfl (by decide) (by decide) (.slice A1 j c1) j (((l.take j).map toW).flatMap wc) (wc (toW x)) (by rfl) (by rfl) hg7 rfl (by simp [wc, toW, Value.oneCell']) p1 hBd.size (by omega) ?_
  intro v8 V4 own8 hgr hat
  obtain ⟨g8, c8, rfl⟩ := ownsRow_succ own8
  replace q0 := blk_grown q0 hgr (own_ne p1 q0 (by decide))
  replace q1 := blk_grown q1 hgr (own_ne p1 q1 (by decide))
  replace q2 := blk_grown q2 hgr (own_ne p1 q2 (by decide))
  replace hC5 := blk_grown hC5 hgr (own_ne p1 hC5 (by decide))
  replace hBd := pw_below_grown hBd _ hBd.size hgr (own_base p1)
  have cz3 : V4.cell? ⟨w.heap.size + 1 + 1, 3, none⟩ = some (.slice A1 j c1) := (blk_cell q2 3).trans rfl
  have fz3 := blk_frozen q2 3
  refine hK.out _ _ ⟨((blk_cell q2 3).trans rfl), ((blk_cell hC5 0).trans rfl), ((blk_cell hC5 1).trans rfl), ((blk_cell hC5 2).trans rfl), ((blk_cell hC5 3).trans rfl), ((blk_cell hC5 4).trans rfl), ((blk_cell hC5 5).trans rfl), ((blk_cell hC5 6).trans rfl), ((blk_cell hC5 7).trans rfl)⟩ (fun hHeld => ?_)
  clear hK K
  refine norm_ (a' := ?_) ?_ ?_
  rotate_left
  · show Act.put _ (some 43) _ = _
    simp only [Act.put, List.setIfInBounds_toArray, List.set_cons_zero, List.set_cons_succ, i64_w, i32_w]
    rfl
  refine pure_ (i := 19) (N := some 44) (v := ?_) (a' := ?_) #[true, true, true, true, true, true, true, true, true, true, true, true, true, true, true, true, true, true, true, true, false] rfl rfl (by kernel_rfl) (fun _ _ _ h => h) (Or.inl ⟨by rfl, ?_⟩) ?_ ?_
  rotate_left
  · intro w'
    go_simp
    with_reducible rfl
  rotate_left
  · simp only [Act.put, List.setIfInBounds_toArray, List.set_cons_zero, List.set_cons_succ, i64_w, i32_w]
    rfl
  refine last_ (i := 20) (N := none) #[true, true, true, true, true, true, true, true, true, true, true, true, true, true, true, true, true, true, true, true, true] rfl rfl (by kernel_rfl) (by decide) (fun K hK => ?_)
  refine skip_ (w1 := ?_) (by rfl) rfl ?_ ?_
  rotate_left
  · go_simp
    rfl
  refine hK.out _ _ ?_
  clear hK K
  refine done_ (by kernel_rfl) ?_
  obtain ⟨Q, hQ⟩ : ∃ Q, Q = V4.setCell ⟨w.heap.size + 1 + 1, 3, none⟩ (.slice (some ⟨g8, 0, none⟩) (j + 1) c8) := ⟨_, rfl⟩
  rw [← hQ]
  have hne := own_ne own8 q2 (by decide)
  have hI2 : Hid (PlI w a0 a1 a2 (.slice (some ad) l.length c) (.slice (some ⟨g8, 0, none⟩) (j + 1) c8) (j + 1) ((l.take (j + 1)).map toW) Q) := Lib.hid (by
    rw [hQ, HTK.out]
    exact ⟨blk_far q0 (by dsimp only; omega) _, blk_far q1 (by dsimp only; omega) _, blk_put q2 3 _ rfl, by rw [wcs_append, List.flatMap_singleton]; exact own_setCell own8 hne _, below_set hBd (by omega)⟩)
  clear hQ hne q0 q1 q2 own8 hBd hC5 cz3 fz3 hHeld hgr hat
  go_wp2
  go_roundw
  case rel => exact ⟨j + 1, _, by go_num, by omega, hI2⟩
  case measure => simp [intOf]; omega
/-! Plan 28 -/
set_option maxRecDepth 100000 in
set_option maxHeartbeats 4000000 in
theorem lplan_calls (B : Option Addr) (d : Nat) (cuts : List S107) (E : Option Addr) (k : Nat) (uses : List Int) (w : World) (hq : Kd.C k107 w B cuts.length cuts) (hcm : cuts.length ≤ 1000) (hu : Kd.C (Kd.int .i64) w E uses.length uses) (hum : uses.length ≤ 1000) :
    Calls Try.prog 28 #[.agg #[.slice B cuts.length d, .slice E uses.length k]] w fun e w' => ∃ v1 v2, e = .returned (.agg #[v1, v2]) ∧ w'.ownsRow w.heap.size 112 3 v1 cuts.length (ccs (cuts.map toC)) ∧ w'.ownsRow w.heap.size 3 1 v2 uses.length (ints uses) ∧ Below w.heap.size w w' := by
  have HQ := Lib.hid hq
  have HU := Lib.hid hu
  clear hq hu
  go_enter Try.func28, Try.ntmps28
  go_wp2
  obtain ⟨V0, hV0⟩ : ∃ V0, V0 = (w.alloc (.cells #[.slice B cuts.length d, .slice E uses.length k] 37)).alloc (.cells #[.slice none 0 0, .slice none 0 0] 59) := ⟨_, rfl⟩
  rw [← hV0]
  have q0 : V0.drew.heap[w.heap.size]? = some (.cells #[.slice B cuts.length d, .slice E uses.length k] 37 (0, 0)) := by rw [hV0]; exact blk_below (alloc_at rfl) (below_drew1 (below_alloc (Below.refl _ _) _))
  have q1 : V0.drew.heap[w.heap.size + 1]? = some (.cells #[.slice none 0 0, .slice none 0 0] 59 (0, 0)) := by rw [hV0]; exact alloc_at (by simp)
  have hBd : Below w.heap.size w V0.drew := by rw [hV0]; exact below_drew1 (below_alloc (below_alloc (Below.refl _ _) _) _)
  clear hV0
  refine start_ (n := 8) (S := fun w' => w'.cell? ⟨w.heap.size, 0, none⟩ = some (.slice B cuts.length d) ∧ w'.cell? ⟨w.heap.size, 1, none⟩ = some (.slice E uses.length k)) (ds := [7]) #[false, false, false, false, false, false, false, false] (by kernel_rfl) rfl rfl ⟨((blk_cell q0 0).trans rfl), ((blk_cell q0 1).trans rfl)⟩ (fun hHeld => ?_)
  refine pure_ (i := 0) (N := some 3) (v := ?_) (a' := ?_) #[true, false, false, false, false, false, false, false] rfl rfl (by kernel_rfl) (fun _ _ _ h => h) (Or.inl ⟨by rfl, ?_⟩) ?_ ?_
  rotate_left
  · intro w'
    go_simp
    with_reducible rfl
  rotate_left
  · simp only [Act.put, List.setIfInBounds_toArray, List.set_cons_zero, List.set_cons_succ, i64_w, i32_w]
    rfl
  refine pure_ (i := 3) (N := some 6) (v := ?_) (a' := ?_) #[true, false, false, true, false, false, false, false] rfl rfl (by kernel_rfl) (fun _ _ _ h => h) (Or.inl ⟨by rfl, ?_⟩) ?_ ?_
  rotate_left
  · intro w'
    go_simp
    with_reducible rfl
  rotate_left
  · simp only [Act.put, List.setIfInBounds_toArray, List.set_cons_zero, List.set_cons_succ, i64_w, i32_w]
    rfl
  refine take_ (i := 1) (N := some 4) (v := ?_) (a' := ?_) #[true, true, false, true, false, false, false, false] rfl rfl (by kernel_rfl) (fun _ _ _ h => h) (Or.inl ⟨by rfl, ?_⟩) hHeld ?_ ?_
  rotate_left
  · rintro w' ⟨s0, s1⟩
    go_simp
    with_reducible rfl
  rotate_left
  · simp only [Act.put, List.setIfInBounds_toArray, List.set_cons_zero, List.set_cons_succ, i64_w, i32_w]
    rfl
  refine take_ (i := 4) (N := some 7) (v := ?_) (a' := ?_) #[true, true, false, true, true, false, false, false] rfl rfl (by kernel_rfl) (fun _ _ _ h => h) (Or.inl ⟨by rfl, ?_⟩) hHeld ?_ ?_
  rotate_left
  · rintro w' ⟨s0, s1⟩
    go_simp
    with_reducible rfl
  rotate_left
  · simp only [Act.put, List.setIfInBounds_toArray, List.set_cons_zero, List.set_cons_succ, i64_w, i32_w]
    rfl
  refine one_ (i := 2) (N := some 5) #[true, true, true, true, true, false, false, false] rfl rfl (by kernel_rfl) (by decide) (fun K hK => ?_)
  refine goes_ Try.func49 (by kernel_rfl) rfl #[.slice B cuts.length d] (by rfl) rfl rfl (by simp only [List.map_toArray, List.map_cons, List.map_nil]; rfl) ?_
  with_reducible refine (lcuts_calls B d cuts _ (Kd.C_below HQ.out hBd) hcm).mono ?_
  rintro e V1 ⟨v1, rfl, ow1, hs⟩
  replace ow1 := own_weaken ow1 hBd.size
  replace q0 := blk_below q0 hs
  replace q1 := blk_below q1 hs
  replace hBd := below_step hBd hs
  clear hs
  refine ⟨_, rfl, ?_⟩
  refine hK.out _ _ ⟨((blk_cell q0 0).trans rfl), ((blk_cell q0 1).trans rfl)⟩ (fun hHeld => ?_)
  clear hK K
  refine norm_ (a' := ?_) ?_ ?_
  rotate_left
  · show Act.put _ (some 5) _ = _
    simp only [Act.put, List.setIfInBounds_toArray, List.set_cons_zero, List.set_cons_succ, i64_w, i32_w]
    rfl
  refine one_ (i := 5) (N := some 8) #[true, true, true, true, true, true, false, false] rfl rfl (by kernel_rfl) (by decide) (fun K hK => ?_)
  refine goes_ Try.func60 (by kernel_rfl) rfl #[.slice E uses.length k] (by rfl) rfl rfl (by simp only [List.map_toArray, List.map_cons, List.map_nil]; rfl) ?_
  with_reducible refine (list_calls E k uses _ (Kd.C_below HU.out hBd) (by omega)).mono ?_
  rintro e V2 ⟨v2, rfl, ow2, hs⟩
  replace ow2 := own_weaken ow2 hBd.size
  replace ow1 := pw_own_below ow1 hs
  replace q0 := blk_below q0 hs
  replace q1 := blk_below q1 hs
  replace hBd := below_step hBd hs
  clear hs
  obtain ⟨A1, c1, rfl⟩ := own_form ow1
  obtain ⟨A2, c2, rfl⟩ := own_form ow2
  have cz0 : V2.cell? ⟨w.heap.size + 1, 0, none⟩ = some (.slice none 0 0) := (blk_cell q1 0).trans rfl
  have fz0 := blk_frozen q1 0
  have cz1 : V2.cell? ⟨w.heap.size + 1, 1, none⟩ = some (.slice none 0 0) := (blk_cell q1 1).trans rfl
  have fz1 := blk_frozen q1 1
  refine ⟨_, rfl, ?_⟩
  refine hK.out _ _ ⟨((blk_cell q0 0).trans rfl), ((blk_cell q0 1).trans rfl)⟩ (fun hHeld => ?_)
  clear hK K
  refine norm_ (a' := ?_) ?_ ?_
  rotate_left
  · show Act.put _ (some 8) _ = _
    simp only [Act.put, List.setIfInBounds_toArray, List.set_cons_zero, List.set_cons_succ, i64_w, i32_w]
    rfl
  refine pure_ (i := 6) (N := some 9) (v := ?_) (a' := ?_) #[true, true, true, true, true, true, true, false] rfl rfl (by kernel_rfl) (fun _ _ _ h => h) (Or.inl ⟨by rfl, ?_⟩) ?_ ?_
  rotate_left
  · intro w'
    go_simp
    with_reducible rfl
  rotate_left
  · simp only [Act.put, List.setIfInBounds_toArray, List.set_cons_zero, List.set_cons_succ, i64_w, i32_w]
    rfl
  refine last_ (i := 7) (N := none) #[true, true, true, true, true, true, true, true] rfl rfl (by kernel_rfl) (by decide) (fun K hK => ?_)
  refine skip_ (w1 := ?_) (by rfl) rfl ?_ ?_
  rotate_left
  · go_simp
    rfl
  refine hK.out _ _ ?_
  clear hK K
  refine done_ (by kernel_rfl) ?_
  have hn1 := own_ne ow1 q1 (by decide)
  have hn2 := own_ne ow2 q1 (by decide)
  have HO1 := Lib.hid (own_setCell (p := ⟨w.heap.size + 1, 1, none⟩) (own_setCell (p := ⟨w.heap.size + 1, 0, none⟩) ow1 hn1 (.slice A1 cuts.length c1)) hn1 (.slice A2 uses.length c2))
  have HO2 := Lib.hid (own_setCell (p := ⟨w.heap.size + 1, 1, none⟩) (own_setCell (p := ⟨w.heap.size + 1, 0, none⟩) ow2 hn2 (.slice A1 cuts.length c1)) hn2 (.slice A2 uses.length c2))
  have HQ1 := Lib.hid q1
  have HBd := Lib.hid hBd
  clear q0 q1 hBd ow1 ow2 hn1 hn2 cz0 cz1 fz0 fz1 hHeld
  go_wp2
  refine bodyPost_ret (results_single rfl (.cell (w.heap.size + 1) 59 #[.slice A1 cuts.length c1, .slice A2 uses.length c2] (0, 0) _ rfl (blk_put (blk_put HQ1.out 0 _ (cs' := #[.slice A1 cuts.length c1, .slice none 0 0]) rfl) 1 _ rfl) Try.underlying59 rfl (by kernel_rfl) .nil)) rfl ?_
  exact ⟨_, _, rfl, HO1.out, HO2.out, below_set (below_set HBd.out (by simp)) (by simp)⟩
end Go.Proofs.Ytffjbaknglemdaa.X
