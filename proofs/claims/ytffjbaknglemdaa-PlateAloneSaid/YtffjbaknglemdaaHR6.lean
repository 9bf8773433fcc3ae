import Derived.Test.YtffjbaknglemdaaHR5
namespace Go.Proofs.Ytffjbaknglemdaa.X
open Go.RowKit Go.Maps Go.Proofs.YtffjbaknglemdaaW.PrintWords Go.Proofs.YtffjbaknglemdaaW.PrintLast Go.Proofs.YtffjbaknglemdaaW.PrintMore
set_option linter.unusedSimpArgs false
set_option linter.unusedVariables false

/-! ### the reference: Trace 33, Weigh 30; the statements' planned 29 -/
def coverR (p : S88) (x y : Int) : Bool := inB x p.f0 (wrap64 (wrap64 (p.f0 + p.f2) - 1)) && inB y p.f1 (wrap64 (wrap64 (p.f1 + p.f3) - 1))
def traceR (x y : Int) : Nat → List (S88 × Bool) → Int
  | _, [] => -1
  | n, p :: r => if p.2 then traceR x y (n + 1) r else if coverR p.1 x y then (n : Int) else traceR x y (n + 1) r
structure TRI (w : World) (v1 v2 : Value) (m : Nat) (ps : List S88) (cs : List Bool) (wr : World) : Prop where
  ps : wr.ownsRow w.heap.size 88 4 v1 m (pvs ps)
  cs : wr.ownsRow w.heap.size 4 1 v2 m (bools cs)
  low : Below w.heap.size w wr
set_option maxRecDepth 100000 in
set_option maxHeartbeats 4000000 in
theorem refTrace_calls (a0 a1 a2 : Int) (A : Option Addr) (c : Nat) (l : List S82) (B : Option Addr) (d : Nat) (cuts : List S107) (uv : Value) (x y : Int) (st : List S88 × List Bool) (w : World) (hq : Kd.C k107 w B cuts.length cuts) (hqd : cuts.length ≤ d) (hcm : cuts.length ≤ 1000) (hst : stepsR a2 ([⟨0, 0, a0, a1⟩], [false]) cuts = some st) :
    Calls Try.prog 33 #[.agg #[.int .i64 a0, .int .i64 a1, .int .i64 a2, .slice A l.length c], .agg #[.slice B cuts.length d, uv], .int .i64 x, .int .i64 y] w fun e w' => e = .returned (.int .i64 (traceR x y 0 (st.1.zip st.2))) ∧ Below w.heap.size w w' := by
  have HQ := Lib.hid hq
  have hsl := stepsR_len cuts hst rfl
  have HST := Lib.hid hst
  obtain ⟨ps, cs⟩ := st
  dsimp only at hsl ⊢
  obtain ⟨m, hm⟩ : ∃ m, ps.length = m := ⟨_, rfl⟩
  have hm2 : m ≤ 3000 := by have := hsl.2.2; simp at this; omega
  have HM := Lib.hid hm
  have HCM : Hid (cs.length = m) := Lib.hid (by rw [hsl.1, hm])
  obtain ⟨r, hr⟩ : ∃ r, traceR x y 0 (ps.zip cs) = r := ⟨_, rfl⟩
  rw [hr]
  have HR0 : Hid (traceR x y 0 ((ps.zip cs).drop 0) = r) := Lib.hid hr
  clear hq hst hsl hm hr
  go_enter Try.func33, Try.ntmps33
  go_wp2_with (go_at_call 50; refine (refPieces_calls a0 a1 a2 A l.length c B d cuts _ (Kd.C_below HQ.out (below_alloc (below_alloc (Below.refl _ _) _) _)) hqd hcm).mono ?_; rintro e w1 ⟨hb1, hend⟩; rw [HST.out] at hend; obtain ⟨v1, v2, rfl, ow1, ow2⟩ := hend; rw [HM.out] at ow1; rw [HCM.out] at ow2; obtain ⟨A1, c1, rfl⟩ := own_form ow1; obtain ⟨A2, c2, rfl⟩ := own_form ow2)
  have HI0 : Hid (TRI w (.slice A1 m c1) (.slice A2 m c2) m ps cs w1) := Lib.hid ⟨own_weaken ow1 (by simp; omega), own_weaken ow2 (by simp; omega), below_step (below_alloc (below_alloc (Below.refl _ _) _) _) hb1⟩
  clear ow1 ow2 hb1 HST
  go_loopw [12] (fun v wr => ∃ j : Nat, v = .int .i64 j ∧ j ≤ m ∧ Hid (traceR x y j ((ps.zip cs).drop j) = r) ∧ Hid (TRI w (.slice A1 m c1) (.slice A2 m c2) m ps cs wr)) (fun v _ => m - (intOf v).toNat)
  case atStart => exact ⟨0, rfl, Nat.zero_le _, HR0, HI0⟩
  case round =>
  clear HI0 HR0
  obtain ⟨j, rfl, hj, HJ, HI⟩ := hrel
  by_cases hlt : j < m
  rotate_left
  · obtain rfl : j = m := by omega
    have hr : r = -1 := by rw [← HJ.out, List.drop_eq_nil_of_le (by rw [List.length_zip, HM.out, HCM.out]; omega)]; rfl
    subst hr
    go_wp2
    go_ret
    exact ⟨rfl, HI.out.low⟩
  have hj0 : (0 : Int) ≤ (j : Int) := by omega
  have hj1 : (j : Int) < (m : Int) := by omega
  have i1 := HI.out.ps
  have i2 := HI.out.cs
  obtain ⟨g2, c2', hv2, hlo2, hg2⟩ := i2.form (by omega)
  obtain ⟨rfl, rfl⟩ : A2 = some ⟨g2, 0, none⟩ ∧ c2 = c2' := by injection hv2 with e1 e2 e3; exact ⟨e1, e3⟩
  clear hv2
  have hR1 := own_R88 (ok := fun _ => True) (by rw [HM.out]; exact i1) (fun _ _ => trivial)
  obtain ⟨-, -, hCC⟩ := Kd.R_reads' hR1
  obtain ⟨ad1, rfl, hp0, hp1, hp2, hp3⟩ := at_T88 hCC (j : Int) hj0 (by rw [HM.out]; exact hj1)
  have hb5 := below_alloc (Below.refl wr.heap.size wr) (.cells #[.int .i64 (rd_T88 ps j).f0, .int .i64 (rd_T88 ps j).f1, .int .i64 (rd_T88 ps j).f2, .int .i64 (rd_T88 ps j).f3] 88)
  have i25 := pw_own_below i2 hb5
  have hmk := own_at_of (enc := Value.bool) (d := false) i25 (j : Int) hj0 hj1
  have HI2 : Hid (TRI w (.slice (some ad1) m c1) (.slice (some ⟨g2, 0, none⟩) m c2) m ps cs (wr.alloc (.cells #[.int .i64 (rd_T88 ps j).f0, .int .i64 (rd_T88 ps j).f1, .int .i64 (rd_T88 ps j).f2, .int .i64 (rd_T88 ps j).f3] 88))) := Lib.hid ⟨pw_own_below i1 hb5, i25, below_step HI.out.low hb5⟩
  have hdr : (ps.zip cs).drop j = (rd_T88 ps (j : Int), rdOf false cs (j : Int)) :: (ps.zip cs).drop (j + 1) := by
    have h1 : j < ps.length := by rw [HM.out]; exact hlt
    have h2 : j < cs.length := by rw [HCM.out]; exact hlt
    rw [List.drop_eq_getElem_cons (by rw [List.length_zip]; omega), List.getElem_zip]
    simp [rd_T88, rdOf, List.getD_eq_getElem?_getD, h1, h2]
  have hjj := HJ.out
  rw [hdr, traceR] at hjj
  have HJJ := Lib.hid hjj
  simp only [Int.toNat_natCast] at hp0 hp1 hp2 hp3 hmk
  clear hR1 hCC i1 i2 i25 hdr hb5 HJ HI hjj hg2
  generalize hpe : rd_T88 ps (j : Int) = p at *
  obtain ⟨hmk1, hmk2⟩ := hmk
  cases hcut : rdOf false cs (j : Int) with
  | true =>
    rw [hcut] at hmk1
    have HJ2 : Hid (traceR x y (j + 1) ((ps.zip cs).drop (j + 1)) = r) := Lib.hid (by have := HJJ.out; rw [hcut] at this; exact this)
    clear HJJ hcut
    go_wp2
    go_roundw
    case rel => exact ⟨j + 1, by go_num, by omega, HJ2, HI2⟩
    case measure => simp [intOf]; omega
  | false =>
  rw [hcut] at hmk1
  have HJ2 : Hid ((if coverR p x y then (j : Int) else traceR x y (j + 1) ((ps.zip cs).drop (j + 1))) = r) := Lib.hid (by have := HJJ.out; rw [hcut] at this; exact this)
  clear HJJ hcut
  cases c0 : inB x p.f0 (wrap64 (wrap64 (p.f0 + p.f2) - 1)) with
  | false =>
    have HJ3 : Hid (traceR x y (j + 1) ((ps.zip cs).drop (j + 1)) = r) := Lib.hid (by have := HJ2.out; rw [show coverR p x y = false by simp [coverR, c0]] at this; exact this)
    clear HJ2
    go_wp2_with (go_at_call 32; refine (in_calls _ _ _ _).mono ?_; rintro e _ ⟨rfl, rfl⟩)
    go_roundw
    case rel => exact ⟨j + 1, by go_num, by omega, HJ3, HI2⟩
    case measure => simp [intOf]; omega
  | true =>
  cases c1 : inB y p.f1 (wrap64 (wrap64 (p.f1 + p.f3) - 1)) with
  | false =>
    have HJ3 : Hid (traceR x y (j + 1) ((ps.zip cs).drop (j + 1)) = r) := Lib.hid (by have := HJ2.out; rw [show coverR p x y = false by simp [coverR, c1]] at this; exact this)
    clear HJ2
    go_wp2_with (go_at_call 32; refine (in_calls _ _ _ _).mono ?_; rintro e _ ⟨rfl, rfl⟩)
    go_roundw
    case rel => exact ⟨j + 1, by go_num, by omega, HJ3, HI2⟩
    case measure => simp [intOf]; omega
  | true =>
    have hr : r = (j : Int) := by rw [← HJ2.out, show coverR p x y = true by simp [coverR, c0, c1]]; rfl
    subst hr
    clear HJ2
    go_wp2_with (go_at_call 32; refine (in_calls _ _ _ _).mono ?_; rintro e _ ⟨rfl, rfl⟩)
    go_ret
    exact ⟨rfl, HI2.out.low⟩

/-! Weigh 30 -/
def stepW (uses : List Int) (t : Int × Int × Int) (n : Int) : Int × Int × Int :=
  if n < 0 then (t.1, t.2.1, wrap64 (t.2.2 + 1)) else if 0 ≤ idx uses n then (wrap64 (t.1 + 1), t.2.1, t.2.2) else (t.1, wrap64 (t.2.1 + 1), t.2.2)
def colW (uses : List Int) (T : Int → Int → Int) (x : Int) (n : Nat) (t : Int × Int × Int) : Int × Int × Int := (List.range n).foldl (fun t (y : Nat) => stepW uses t (T x y)) t
def allW (uses : List Int) (T : Int → Int → Int) (n m : Nat) : Int × Int × Int := (List.range n).foldl (fun t (x : Nat) => colW uses T x m t) (0, 0, 0)
def worthW (l : List (Int × S82)) : Int := l.foldl (fun a p => if 0 ≤ p.1 then wrap64 (a + p.2.f3) else a) 0
theorem colW_succ (uses : List Int) (T : Int → Int → Int) (x : Int) (n : Nat) (t : Int × Int × Int) : colW uses T x (n + 1) t = stepW uses (colW uses T x n t) (T x n) := by unfold colW; rw [List.range_succ, List.foldl_append]; rfl
theorem allW_succ (uses : List Int) (T : Int → Int → Int) (n m : Nat) : allW uses T (n + 1) m = colW uses T n m (allW uses T n m) := by unfold allW; rw [List.range_succ, List.foldl_append]; rfl
structure WI (w : World) (a0 a1 a2 : Int) (sv cv uv : Value) (wr : World) : Prop where
  b0 : wr.heap[w.heap.size]? = some (.cells #[.int .i64 a0, .int .i64 a1, .int .i64 a2, sv] 24 (0, 0))
  b1 : wr.heap[w.heap.size + 1]? = some (.cells #[cv, uv] 37 (0, 0))
  low : Below w.heap.size w wr
theorem WI.below {w wr W : World} {a0 a1 a2 : Int} {sv cv uv : Value} (h : WI w a0 a1 a2 sv cv uv wr) (hb : Below wr.heap.size wr W) : WI w a0 a1 a2 sv cv uv W := ⟨blk_below h.b0 hb, blk_below h.b1 hb, below_step h.low hb⟩
set_option maxRecDepth 100000 in
set_option maxHeartbeats 4000000 in
theorem refWeigh_calls (a0 a1 a2 : Int) (A : Option Addr) (c : Nat) (l : List S82) (B : Option Addr) (d : Nat) (cuts : List S107) (E : Option Addr) (k : Nat) (uses : List Int) (st : List S88 × List Bool) (w : World) (hl : Kd.C k82 w A l.length l) (hq : Kd.C k107 w B cuts.length cuts) (hqd : cuts.length ≤ d) (hcm : cuts.length ≤ 1000) (hu : Kd.C (Kd.int .i64) w E uses.length uses) (hum : uses.length ≤ 1000) (hul : uses.length = l.length) (h0 : 0 ≤ a0 ∧ a0 ≤ 8) (h1 : 0 ≤ a1 ∧ a1 ≤ 8) (hst : stepsR a2 ([⟨0, 0, a0, a1⟩], [false]) cuts = some st) :
    Calls Try.prog 30 #[.agg #[.int .i64 a0, .int .i64 a1, .int .i64 a2, .slice A l.length c], .agg #[.slice B cuts.length d, .slice E uses.length k]] w fun e w' => ∃ t, t = allW uses (fun x y => traceR x y 0 (st.1.zip st.2)) a0.toNat a1.toNat ∧ e = .returned (.tuple #[.int .i64 t.1, .int .i64 t.2.1, .int .i64 t.2.2, .int .i64 (worthW (uses.zip l))]) ∧ Below w.heap.size w w' := by
  have HL := Lib.hid hl
  have HQ := Lib.hid hq
  have HU := Lib.hid hu
  have HST := Lib.hid hst
  have HUL := Lib.hid hul
  obtain ⟨T, hT⟩ : ∃ T : Int → Int → Int, (fun x y => traceR x y 0 (st.1.zip st.2)) = T := ⟨_, rfl⟩
  rw [hT]
  have HT := Lib.hid (fun x y => congrFun (congrFun hT x) y : ∀ x y, traceR x y 0 (st.1.zip st.2) = T x y)
  obtain ⟨X, hX⟩ : ∃ X : Nat, a0 = X := ⟨a0.toNat, by omega⟩
  obtain ⟨Y, hY⟩ : ∃ Y : Nat, a1 = Y := ⟨a1.toNat, by omega⟩
  have hX8 : X ≤ 8 := by omega
  have hY8 : Y ≤ 8 := by omega
  subst hX hY
  rw [Int.toNat_natCast, Int.toNat_natCast]
  clear hl hq hu hst hul hT h0 h1
  have HE0 : Hid (((0 : Int), (0 : Int), (0 : Int)) = allW uses T 0 Y) := Lib.hid rfl
  go_enter Try.func30, Try.ntmps30
  go_wp2
  have HI0 : Hid (WI w X Y a2 (.slice A l.length c) (.slice B cuts.length d) (.slice E uses.length k) ((w.alloc (.cells #[.int .i64 X, .int .i64 Y, .int .i64 a2, .slice A l.length c] 24)).alloc (.cells #[.slice B cuts.length d, .slice E uses.length k] 37))) := Lib.hid ⟨blk_below (alloc_at rfl) (below_alloc (Below.refl _ _) _), alloc_at (by simp), below_alloc (below_alloc (Below.refl _ _) _) _⟩
  go_loopw [8, 9, 10, 12] (fun v8 v9 v10 v wr => ∃ (j : Nat) (s r h : Int), v = .int .i64 j ∧ j ≤ X ∧ v8 = .int .i64 s ∧ v9 = .int .i64 r ∧ v10 = .int .i64 h ∧ Hid ((s, r, h) = allW uses T j Y) ∧ Hid (WI w X Y a2 (.slice A l.length c) (.slice B cuts.length d) (.slice E uses.length k) wr)) (fun _ _ _ v _ => X - (intOf v).toNat)
  case atStart => exact ⟨0, 0, 0, 0, rfl, Nat.zero_le _, rfl, rfl, rfl, HE0, HI0⟩
  case round =>
  clear HI0 HE0
  obtain ⟨j, s, r, h, rfl, hj, rfl, rfl, rfl, HE, HI⟩ := hrel
  have hz0 : wr.cell? ⟨w.heap.size, 0, none⟩ = some (.int .i64 X) := (blk_cell HI.out.b0 0).trans rfl
  by_cases hlt : j < X
  · have hj0 : (0 : Int) ≤ (j : Int) := by omega
    have hj1 : (j : Int) < (X : Int) := by omega
    have HE0 : Hid ((s, r, h) = colW uses T j 0 (allW uses T j Y)) := HE
    clear HE
    go_wp2
    go_loopw [8, 9, 10, 13] (fun v8 v9 v10 v wr => ∃ (i : Nat) (s r h : Int), v = .int .i64 i ∧ i ≤ Y ∧ v8 = .int .i64 s ∧ v9 = .int .i64 r ∧ v10 = .int .i64 h ∧ Hid ((s, r, h) = colW uses T j i (allW uses T j Y)) ∧ Hid (WI w X Y a2 (.slice A l.length c) (.slice B cuts.length d) (.slice E uses.length k) wr)) (fun _ _ _ v _ => Y - (intOf v).toNat)
    case atStart => exact ⟨0, s, r, h, rfl, Nat.zero_le _, rfl, rfl, rfl, HE0, HI⟩
    case round =>
    clear HI HE0 hz0
    obtain ⟨i, s, r, h, rfl, hi, rfl, rfl, rfl, HE, HI⟩ := hrel
    have hz0 : wr.cell? ⟨w.heap.size, 0, none⟩ = some (.int .i64 X) := (blk_cell HI.out.b0 0).trans rfl; have hz1 : wr.cell? ⟨w.heap.size, 1, none⟩ = some (.int .i64 Y) := (blk_cell HI.out.b0 1).trans rfl; have hz2 : wr.cell? ⟨w.heap.size, 2, none⟩ = some (.int .i64 a2) := (blk_cell HI.out.b0 2).trans rfl; have hz3 : wr.cell? ⟨w.heap.size, 3, none⟩ = some (.slice A l.length c) := (blk_cell HI.out.b0 3).trans rfl; have hz4 : wr.cell? ⟨w.heap.size + 1, 0, none⟩ = some (.slice B cuts.length d) := (blk_cell HI.out.b1 0).trans rfl; have hz5 : wr.cell? ⟨w.heap.size + 1, 1, none⟩ = some (.slice E uses.length k) := (blk_cell HI.out.b1 1).trans rfl
    by_cases hit : i < Y
    rotate_left
    · obtain rfl : i = Y := by omega
      have HE2 : Hid ((s, r, h) = allW uses T (j + 1) i) := Lib.hid (by rw [allW_succ]; exact HE.out)
      clear HE
      go_wp2
      go_roundw
      case rel => exact ⟨j + 1, s, r, h, by go_num, by omega, rfl, rfl, rfl, HE2, HI⟩
      case measure => simp [intOf]; omega
    have hi0 : (0 : Int) ≤ (i : Int) := by omega
    have hi1 : (i : Int) < (Y : Int) := by omega
    have h33 := refTrace_calls X Y a2 A c l B d cuts (.slice E uses.length k) j i st wr (Kd.C_below HQ.out HI.out.low) hqd hcm HST.out
    rw [HT.out] at h33
    obtain ⟨n, hn⟩ : ∃ n, T j i = n := ⟨_, rfl⟩
    rw [hn] at h33
    have H33 := Lib.hid h33
    have he : colW uses T j (i + 1) (allW uses T j Y) = stepW uses (s, r, h) n := by rw [colW_succ, ← HE.out, hn]
    clear h33 hn HE
    by_cases hneg : n < 0
    · have hb : decide (n < 0) = true := decide_eq_true hneg
      have HE2 : Hid ((s, r, wrap64 (h + 1)) = colW uses T j (i + 1) (allW uses T j Y)) := Lib.hid (by rw [he]; simp [stepW, hneg])
      clear he hneg
      go_wp2_with (go_at_call 33; refine H33.out.mono ?_; rintro e W1 ⟨rfl, hb1⟩; have HI2 := Lib.hid (HI.out.below hb1))
      go_roundw
      case rel => exact ⟨i + 1, _, _, _, by go_num, by omega, rfl, rfl, rfl, HE2, HI2⟩
      case measure => simp [intOf]; omega
    have hb : decide (n < 0) = false := decide_eq_false hneg
    by_cases hid : 0 ≤ idx uses n
    · have hb2 : decide ((0 : Int) ≤ idx uses n) = true := decide_eq_true hid
      have HE2 : Hid ((wrap64 (s + 1), r, h) = colW uses T j (i + 1) (allW uses T j Y)) := Lib.hid (by rw [he]; simp [stepW, hneg, hid])
      clear he hneg hid
      go_wp2_with (first | (go_at_call 33; refine H33.out.mono ?_; rintro e W1 ⟨rfl, hb1⟩; have HI2 := Lib.hid (HI.out.below hb1); have hy4 : W1.cell? ⟨w.heap.size + 1, 0, none⟩ = some (.slice B cuts.length d) := (blk_cell HI2.out.b1 0).trans rfl; have hy5 : W1.cell? ⟨w.heap.size + 1, 1, none⟩ = some (.slice E uses.length k) := (blk_cell HI2.out.b1 1).trans rfl) | (go_at_call 34; refine (usedAs_calls B cuts.length d E k uses n _ (Kd.C_below HU.out HI2.out.low) (by omega)).mono ?_; rintro e W2 ⟨rfl, hb3⟩; have HI3 := Lib.hid (HI2.out.below hb3)))
      go_roundw
      case rel => exact ⟨i + 1, _, _, _, by go_num, by omega, rfl, rfl, rfl, HE2, HI3⟩
      case measure => simp [intOf]; omega
    · have hb2 : decide ((0 : Int) ≤ idx uses n) = false := decide_eq_false hid
      have HE2 : Hid ((s, wrap64 (r + 1), h) = colW uses T j (i + 1) (allW uses T j Y)) := Lib.hid (by rw [he]; simp [stepW, hneg, hid])
      clear he hneg hid
      go_wp2_with (first | (go_at_call 33; refine H33.out.mono ?_; rintro e W1 ⟨rfl, hb1⟩; have HI2 := Lib.hid (HI.out.below hb1); have hy4 : W1.cell? ⟨w.heap.size + 1, 0, none⟩ = some (.slice B cuts.length d) := (blk_cell HI2.out.b1 0).trans rfl; have hy5 : W1.cell? ⟨w.heap.size + 1, 1, none⟩ = some (.slice E uses.length k) := (blk_cell HI2.out.b1 1).trans rfl) | (go_at_call 34; refine (usedAs_calls B cuts.length d E k uses n _ (Kd.C_below HU.out HI2.out.low) (by omega)).mono ?_; rintro e W2 ⟨rfl, hb3⟩; have HI3 := Lib.hid (HI2.out.below hb3)))
      go_roundw
      case rel => exact ⟨i + 1, _, _, _, by go_num, by omega, rfl, rfl, rfl, HE2, HI3⟩
      case measure => simp [intOf]; omega
  obtain rfl : j = X := by omega
  have HW0 : Hid ((0 : Int) = worthW ((uses.zip l).take 0)) := Lib.hid rfl
  go_wp2
  go_loopw [11, 15] (fun v11 v wr => ∃ (i : Nat) (o : Int), v = .int .i64 i ∧ i ≤ uses.length ∧ v11 = .int .i64 o ∧ Hid (o = worthW ((uses.zip l).take i)) ∧ Hid (WI w j Y a2 (.slice A l.length c) (.slice B cuts.length d) (.slice E uses.length k) wr)) (fun _ v _ => uses.length - (intOf v).toNat)
  case atStart => exact ⟨0, 0, rfl, Nat.zero_le _, rfl, HW0, HI⟩
  case round =>
  clear HI HW0 hz0
  obtain ⟨i, o, rfl, hi, rfl, HO, HI⟩ := hrel
  have hx1 : wr.cell? ⟨w.heap.size + 1, 1, none⟩ = some (.slice E uses.length k) := (blk_cell HI.out.b1 1).trans rfl
  have hx3 : wr.cell? ⟨w.heap.size, 3, none⟩ = some (.slice A l.length c) := (blk_cell HI.out.b0 3).trans rfl
  by_cases hit : i < uses.length
  rotate_left
  · obtain rfl : i = uses.length := by omega
    have ho : o = worthW (uses.zip l) := by rw [HO.out, List.take_of_length_le (by rw [List.length_zip, HUL.out]; omega)]
    subst ho
    go_wp2
    refine bodyPost_ret (results_list (rs := [.tmp 4, .tmp 5, .tmp 6, .tmp 7]) rfl (by simp) (.tmp (.tmp (.tmp (.tmp .nil))))) rfl ?_
    exact ⟨(s, r, h), HE.out, rfl, HI.out.low⟩
  have hi0 : (0 : Int) ≤ (i : Int) := by omega
  have hi1 : (i : Int) < (uses.length : Int) := by omega
  have hi2 : (i : Int) < (l.length : Int) := by have := HUL.out; omega
  obtain ⟨ad, rfl, hy⟩ := Kd.at_int (Kd.C_below HU.out HI.out.low) (i : Int) hi0 hi1
  simp only [Int.toNat_natCast] at hy
  obtain ⟨adl, rfl, hl0, hl1, hl2, hl3, hl4, hl5, hl6, hl7⟩ := at_T82 (Kd.C_below HL.out HI.out.low) (i : Int) hi0 hi2
  simp only [Int.toNat_natCast] at hl0 hl1 hl2 hl3 hl4 hl5 hl6 hl7
  have htk : worthW ((uses.zip l).take (i + 1)) = if 0 ≤ rd uses (i : Int) then wrap64 (o + (rd_T82 l (i : Int)).f3) else o := by
    have h2 : i < l.length := by omega
    have h3 : i < (uses.zip l).length := by rw [List.length_zip]; omega
    rw [List.take_succ_eq_append_getElem h3, worthW, List.foldl_append]
    show (if 0 ≤ ((uses.zip l)[i]).1 then wrap64 (worthW ((uses.zip l).take i) + ((uses.zip l)[i]).2.f3) else worthW ((uses.zip l).take i)) = _
    rw [← HO.out, List.getElem_zip]
    simp [rd, rd_T82, List.getD_eq_getElem?_getD, hit, h2]
  generalize rd uses (i : Int) = n at hy htk
  generalize rd_T82 l (i : Int) = x at hl0 hl1 hl2 hl3 hl4 hl5 hl6 hl7 htk
  clear hl0 hl1 hl2 hl4 hl5 hl6 hl7 HO
  by_cases hn : 0 ≤ n
  · have hb : decide ((0 : Int) ≤ n) = true := decide_eq_true hn
    rw [if_pos hn] at htk
    have HO2 := Lib.hid htk.symm
    clear htk hn
    go_wp2
    go_roundw
    case rel => exact ⟨i + 1, _, by go_num, by omega, rfl, HO2, HI⟩
    case measure => simp [intOf]; omega
  · have hb : decide ((0 : Int) ≤ n) = false := decide_eq_false hn
    rw [if_neg hn] at htk
    have HO2 := Lib.hid htk.symm
    clear htk hn
    go_wp2
    go_roundw
    case rel => exact ⟨i + 1, _, by go_num, by omega, rfl, HO2, HI⟩
    case measure => simp [intOf]; omega

/-! the statements' planned 29 -/
def plannedR (a0 a1 a2 : Int) (l : List S82) (cuts : List S107) (uses : List Int) : Int := if faultR a0 a1 a2 l = 0 then planFaultR a0 a1 a2 l cuts uses else faultR a0 a1 a2 l
set_option maxRecDepth 100000 in
set_option maxHeartbeats 1000000 in
theorem lplanned_calls (a0 a1 a2 : Int) (A : Option Addr) (c : Nat) (l : List S82) (B : Option Addr) (d : Nat) (cuts : List S107) (E : Option Addr) (k : Nat) (uses : List Int) (w : World) (hl : Kd.C k82 w A l.length l) (hlc : l.length ≤ c) (hq : Kd.C k107 w B cuts.length cuts) (hqd : cuts.length ≤ d) (hcm : cuts.length ≤ 1000) (hu : Kd.C (Kd.int .i64) w E uses.length uses) (hum : uses.length ≤ 1000) (hlm : l.length ≤ 1000) :
    Calls Try.prog 29 #[.agg #[.int .i64 a0, .int .i64 a1, .int .i64 a2, .slice A l.length c], .agg #[.slice B cuts.length d, .slice E uses.length k]] w fun e w' => e = .returned (.int .i64 (plannedR a0 a1 a2 l cuts uses)) ∧ Below w.heap.size w w' := by
  have HL := Lib.hid hl
  have HQ := Lib.hid hq
  have HU := Lib.hid hu
  clear hl hq hu
  have HI0 : Hid (WI w a0 a1 a2 (.slice A l.length c) (.slice B cuts.length d) (.slice E uses.length k) ((w.alloc (.cells #[.int .i64 a0, .int .i64 a1, .int .i64 a2, .slice A l.length c] 24)).alloc (.cells #[.slice B cuts.length d, .slice E uses.length k] 37))) := Lib.hid ⟨blk_below (alloc_at rfl) (below_alloc (Below.refl _ _) _), alloc_at (by simp), below_alloc (below_alloc (Below.refl _ _) _) _⟩
  unfold plannedR
  obtain ⟨f, hf⟩ : ∃ f, faultR a0 a1 a2 l = f := ⟨_, rfl⟩
  rw [hf]
  have H37 := Lib.hid (fun w h => hf ▸ lfault_calls a0 a1 a2 A c l w h hlc)
  clear hf
  by_cases h : f = 0
  · subst h
    rw [if_pos rfl]
    go_enter Try.func29, Try.ntmps29
    go_wp2_with (first | (go_at_call 37; refine (H37.out _ (Kd.C_below HL.out HI0.out.low)).mono ?_; rintro e W1 ⟨rfl, hb1⟩; have HI := Lib.hid (HI0.out.below hb1); have hz0 : W1.cell? ⟨w.heap.size, 0, none⟩ = some (.int .i64 a0) := (blk_cell HI.out.b0 0).trans rfl; have hz1 : W1.cell? ⟨w.heap.size, 1, none⟩ = some (.int .i64 a1) := (blk_cell HI.out.b0 1).trans rfl; have hz2 : W1.cell? ⟨w.heap.size, 2, none⟩ = some (.int .i64 a2) := (blk_cell HI.out.b0 2).trans rfl; have hz3 : W1.cell? ⟨w.heap.size, 3, none⟩ = some (.slice A l.length c) := (blk_cell HI.out.b0 3).trans rfl; have hz4 : W1.cell? ⟨w.heap.size + 1, 0, none⟩ = some (.slice B cuts.length d) := (blk_cell HI.out.b1 0).trans rfl; have hz5 : W1.cell? ⟨w.heap.size + 1, 1, none⟩ = some (.slice E uses.length k) := (blk_cell HI.out.b1 1).trans rfl) | (go_at_call 40; refine (planFault_calls a0 a1 a2 A c l B d cuts E k uses _ (Kd.C_below HL.out HI.out.low) (Kd.C_below HQ.out HI.out.low) hqd hcm (Kd.C_below HU.out HI.out.low) hum hlm).mono ?_; rintro e W2 ⟨rfl, hb3⟩; have HJ := Lib.hid (HI.out.below hb3)))
    go_ret
    exact ⟨rfl, HJ.out.low⟩
  · rw [if_neg h]
    have hb : (f != 0) = true := bne_iff_ne.2 h
    clear h
    go_enter Try.func29, Try.ntmps29
    go_wp2_with (go_at_call 37; refine (H37.out _ (Kd.C_below HL.out HI0.out.low)).mono ?_; rintro e W1 ⟨rfl, hb1⟩; have HI := Lib.hid (HI0.out.below hb1))
    go_ret
    exact ⟨rfl, HI.out.low⟩
end Go.Proofs.Ytffjbaknglemdaa.X
