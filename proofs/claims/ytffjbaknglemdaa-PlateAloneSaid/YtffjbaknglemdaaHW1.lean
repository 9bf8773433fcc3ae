import Derived.Test.YtffjbaknglemdaaHW0
import Derived.Test.YtffjbaknglemdaaHK4b
namespace Go.Proofs.Ytffjbaknglemdaa.X
open Go.RowKit Go.Maps Go.Proofs.YtffjbaknglemdaaW.PrintWords Go.Proofs.YtffjbaknglemdaaW.PrintLast Go.Proofs.YtffjbaknglemdaaW.PrintMore
set_option linter.unusedSimpArgs false
set_option linter.unusedVariables false

/-! ### the plate and the plan of the examples -/
def wc (x : S115) : List Value := [.int .i64 x.f0, .int .i64 x.f1, .bool x.f2, .int .i64 x.f3, .int .i64 x.f4.f0, .int .i64 x.f4.f1, .int .i64 x.f5.f0, .int .i64 x.f5.f1]
theorem own_R115 {w : World} {base : Nat} {ok : Nat → Prop} {v : Value} {xs : List S115} (h : w.ownsRow base 115 8 v xs.length (xs.flatMap wc)) (hok : ∀ k, v.ownBlock = some k → ok k) : Kd.R k115 115 w base ok v xs :=
 ⟨hok, _, h, reps_flat wc (fun p => k115_mkM _ _ _ p) (fun p => rfl) xs⟩
theorem lit_own {W : World} {base g n size : Nat} {t : TypeId} {xs : List Value} (hb : base ≤ g) (h : W.heap[g]? = some (.cells xs.toArray t (0, 0))) (hl : xs.length = n * size) (hm : n ≤ 1000) : W.ownsRow base t size (.slice (some ⟨g, 0, none⟩) n n) n xs :=
 ⟨hl, .inr ⟨g, n, xs.toArray, rfl, hb, h, Nat.le_refl _, by simp [maxLen]; omega, by simp [hl], by rw [← hl, List.take_length]⟩⟩
theorem c115 {W : World} {g n : Nat} {xs : List S115} (h : W.heap[g]? = some (.cells (xs.flatMap wc).toArray 115 (0, 0))) (hn : xs.length = n) (hm : n ≤ 1000) : Kd.C k115 W (some ⟨g, 0, none⟩) n xs := by
 subst hn
 have hl : (xs.flatMap wc).length = xs.length * 8 := by
  clear h hm
  induction xs with
  | nil => rfl
  | cons x xs ih =>
   rw [List.flatMap_cons, List.length_append, ih, List.length_cons]
   show 8 + _ = _
   omega
 exact (Kd.R_reads' (own_R115 (base := 0) (ok := fun _ => True) (lit_own (Nat.zero_le _) h hl hm) (fun _ _ => trivial))).2.2
theorem c112 {W : World} {g n : Nat} {xs : List S112} (h : W.heap[g]? = some (.cells (ccs xs).toArray 112 (0, 0))) (hn : xs.length = n) (hm : n ≤ 1000) : Kd.C k112 W (some ⟨g, 0, none⟩) n xs := by
 subst hn
 have hl : (ccs xs).length = xs.length * 3 := by
  clear h hm
  induction xs with
  | nil => rfl
  | cons x xs ih =>
   rw [ccs, List.flatMap_cons, List.length_append, show (xs.flatMap cc).length = xs.length * 3 from ih, List.length_cons]
   show 3 + _ = _
   omega
 exact (Kd.R_reads' (own_R112 (base := 0) (ok := fun _ => True) (lit_own (Nat.zero_le _) h hl hm) (fun _ _ => trivial))).2.2
theorem cints {W : World} {g n : Nat} {xs : List Int} (h : W.heap[g]? = some (.cells (ints xs).toArray 3 (0, 0))) (hn : xs.length = n) (hm : n ≤ 1000) : Kd.C (Kd.int .i64) W (some ⟨g, 0, none⟩) n xs := by
 subst hn
 exact (Kd.R_reads' (own_Rint (base := 0) (ok := fun _ => True) (lit_own (Nat.zero_le _) h (by simp [ints]) hm) (fun _ _ => trivial))).2.2
set_option maxRecDepth 100000 in
set_option maxHeartbeats 1000000 in
theorem sheet_calls (w : World) : Calls Try.prog 51 #[] w fun e w' => ∃ A, e = .returned (.agg #[.int .i64 6, .int .i64 4, .int .i64 1, .slice A 3 3]) ∧ Kd.C k115 w' A 3 sheetL ∧ Below w.heap.size w w' := by
 go_enter Try.func51, Try.ntmps51
 go_wp2
 refine bodyPost_ret (results_single rfl (.cell w.heap.size 55 #[.int .i64 6, .int .i64 4, .int .i64 1, .slice (some ⟨w.heap.size + 1 + 1, 0, none⟩) 3 3] (0, 0) _ rfl (blk_below (blk_below (alloc_at rfl) (below_alloc (Below.refl _ _) _)) (below_alloc (Below.refl _ _) _)) Try.underlying55 rfl (by kernel_rfl) .nil)) rfl ?_
 exact ⟨_, rfl, c115 (alloc_at (by simp)) rfl (by omega), below_alloc (below_alloc (below_alloc (Below.refl _ _) _) _) _⟩
set_option maxRecDepth 100000 in
set_option maxHeartbeats 1000000 in
theorem sawn_calls (w : World) : Calls Try.prog 52 #[] w fun e w' => ∃ gb ge, e = .returned (.agg #[.slice (some ⟨gb, 0, none⟩) 2 2, .slice (some ⟨ge, 0, none⟩) 3 3]) ∧ w'.heap[gb]? = some (.cells (ccs sawnC).toArray 112 (0, 0)) ∧ w'.heap[ge]? = some (.cells #[.int .i64 1, .int .i64 3, .int .i64 (-1)] 3 (0, 0)) ∧ w.heap.size ≤ gb ∧ w.heap.size ≤ ge ∧ Below w.heap.size w w' := by
 go_enter Try.func52, Try.ntmps52
 go_wp2
 refine bodyPost_ret (results_single rfl (.cell w.heap.size 59 #[.slice (some ⟨w.heap.size + 1, 0, none⟩) 2 2, .slice (some ⟨w.heap.size + 1 + 1, 0, none⟩) 3 3] (0, 0) _ rfl (blk_below (blk_below (alloc_at rfl) (below_alloc (Below.refl _ _) _)) (below_alloc (Below.refl _ _) _)) Try.underlying59 rfl (by kernel_rfl) .nil)) rfl ?_
 exact ⟨_, _, rfl, blk_below (alloc_at (by simp)) (below_alloc (Below.refl _ _) _), alloc_at (by simp), by omega, by omega, below_alloc (below_alloc (below_alloc (Below.refl _ _) _) _) _⟩
section
variable {W : World} {A B E : Option Addr} {n m d u : Nat} {cuts : List S112} {uses : List Int}
theorem weigh_at {r1 r2 r3 r4 r5 : Int} (hA : Kd.C k115 W A 3 sheetL) (hB : Kd.C k112 W B n cuts) (hE : Kd.C (Kd.int .i64) W E m uses) (hn : cuts.length = n) (hm : uses.length = m) (hd : n ≤ d) (hu : m ≤ u) (h : plate_Weigh.f 6 4 1 sheetL cuts uses = some (r1, r2, r3, r4, r5)) :
  Calls Try.prog 26 #[.agg #[.int .i64 6, .int .i64 4, .int .i64 1, .slice A 3 3], .agg #[.slice B n d, .slice E m u]] W fun e w' => e = .returned (.tuple #[.agg #[.int .i64 r1, .int .i64 r2, .int .i64 r3, .int .i64 r4], .int .i64 r5]) ∧ Below W.heap.size W w' := by
 subst hn hm
 exact plate_Weigh.calls 6 4 1 A 3 sheetL B d cuts E u uses r1 r2 r3 r4 r5 W hA (by decide) hB hd hE hu h
theorem trace_at {x y r1 r2 r3 : Int} (hA : Kd.C k115 W A 3 sheetL) (hB : Kd.C k112 W B n cuts) (hE : Kd.C (Kd.int .i64) W E m uses) (hn : cuts.length = n) (hm : uses.length = m) (hd : n ≤ d) (hu : m ≤ u) (h : plate_Trace.f 6 4 1 sheetL cuts uses x y = some (r1, r2, r3)) :
  Calls Try.prog 31 #[.agg #[.int .i64 6, .int .i64 4, .int .i64 1, .slice A 3 3], .agg #[.slice B n d, .slice E m u], .int .i64 x, .int .i64 y] W fun e w' => e = .returned (.tuple #[.int .i64 r1, .int .i64 r2, .int .i64 r3]) ∧ Below W.heap.size W w' := by
 subst hn hm
 exact plate_Trace.calls 6 4 1 A 3 sheetL B d cuts E u uses x y r1 r2 r3 W hA (by decide) hB hd hE hu h
theorem prove_at {x y : Int} {r : Bool} (hA : Kd.C k115 W A 3 sheetL) (hB : Kd.C k112 W B n cuts) (hE : Kd.C (Kd.int .i64) W E m uses) (hn : cuts.length = n) (hm : uses.length = m) (hd : n ≤ d) (hu : m ≤ u) (h : plate_ProvePlan.f 6 4 1 sheetL cuts uses x y = some r) :
  Calls Try.prog 46 #[.agg #[.int .i64 6, .int .i64 4, .int .i64 1, .slice A 3 3], .agg #[.slice B n d, .slice E m u], .int .i64 x, .int .i64 y] W fun e w' => e = .returned (.bool r) ∧ Below W.heap.size W w' := by
 subst hn hm
 exact plate_ProvePlan.calls 6 4 1 A 3 sheetL B d cuts E u uses x y r W hA (by decide) hB hd hE hu h
theorem pieces_at {r1 : List S103} {r2 : Int} {k : Nat} (hA : Kd.C k115 W A 3 sheetL) (hB : Kd.C k112 W B n cuts) (hn : cuts.length = n) (hd : n ≤ d) (h : plate_Pieces.f 6 4 1 sheetL cuts = some (r1, r2)) (hk : r1.length = k) :
  Calls Try.prog 48 #[.agg #[.int .i64 6, .int .i64 4, .int .i64 1, .slice A 3 3], .slice B n d] W fun e w' => ∃ P c, e = .returned (.tuple #[.slice P k c, .int .i64 r2]) ∧ w'.ownsRow W.heap.size 103 4 (.slice P k c) k (pcs r1) ∧ Below W.heap.size W w' := by
 subst hn hk
 refine (plate_Pieces.calls 6 4 1 A 3 sheetL B d cuts r1 r2 W hA (by decide) hB hd h).mono ?_
 rintro e w' ⟨v, rfl, hR, hb⟩
 have ho := R103_own hR
 obtain ⟨P, c, rfl⟩ := own_form ho
 exact ⟨P, c, rfl, ho, hb⟩
theorem best_at (hA : Kd.C k115 W A 3 sheetL) : Calls Try.prog 36 #[.agg #[.int .i64 6, .int .i64 4, .int .i64 1, .slice A 3 3]] W fun e w' => ∃ C c U m d, e = .returned (.tuple #[.agg #[.slice C 3 c, .slice U m d], .int .i64 12, .int .i64 0]) ∧ Below W.heap.size W w' := by
 obtain ⟨c, u, hf, hc⟩ := sheet_best_f
 refine (plate_Best.calls 6 4 1 A 3 sheetL c u 12 0 W hA (by decide) hf).mono ?_
 rintro e w' ⟨v0, v1, rfl, ⟨_, inner, ho, _⟩, ⟨_, inner2, ho2, _⟩, hb⟩
 obtain ⟨C, cc', rfl⟩ := own_form ho
 obtain ⟨U, du, rfl⟩ := own_form ho2
 rw [hc]
 exact ⟨C, cc', U, _, du, rfl, hb⟩
end
set_option maxRecDepth 100000 in
set_option maxHeartbeats 4000000 in
theorem wakes_calls (w : World) : Calls Try.prog 25 #[] w fun e w' => e = .returned (.bool true) ∧ Below w.heap.size w w' := by
 have hq : ∀ w, (binOp .eql 49 (.agg #[.int .i64 11, .int .i64 6, .int .i64 7, .int .i64 9]) (.agg #[.int .i64 11, .int .i64 6, .int .i64 7, .int .i64 9])).run Try.prog w = .ok (.bool true) w := fun _ => by kernel_rfl
 go_enter Try.func25, Try.ntmps25
 go_wp2_with fail
 refine (sheet_calls _).mono ?_
 rintro e w1 ⟨A1, rfl, hA1, hb1⟩
 go_wp2_with fail
 refine (sawn_calls _).mono ?_
 rintro e w2 ⟨gb2, ge2, rfl, hB2, hE2, hl1, hl2, hb2⟩
 have HA := Lib.hid (Kd.C_below hA1 hb2)
 have HB := Lib.hid (c112 (n := 2) hB2 rfl (by omega))
 have HE := Lib.hid (cints (n := 3) (xs := sawnU) hE2 rfl (by omega))
 clear hA1 hB2 hE2
 go_wp2_with fail
 refine (weigh_at HA.out HB.out HE.out rfl rfl (by omega) (by omega) sheet_weigh).mono ?_
 rintro e w3 ⟨rfl, hb3⟩
 have h3 := below_step (below_step hb1 hb2) hb3
 have HT3 : Hid ((w3.alloc (.cells #[.int .i64 11, .int .i64 6, .int .i64 7, .int .i64 9] 49)).heap[w3.heap.size]? = some (.cells #[.int .i64 11, .int .i64 6, .int .i64 7, .int .i64 9] 49 (0, 0))) := Lib.hid (alloc_at rfl)
 clear HA HB HE hb1 hb2 hb3 hl1 hl2
 go_wp2_with fail
 refine (sheet_calls _).mono ?_
 rintro e w4 ⟨A4, rfl, hA4, hb4⟩
 go_wp2_with fail
 refine (sawn_calls _).mono ?_
 rintro e w5 ⟨gb5, ge5, rfl, hB5, hE5, hl1, hl2, hb5⟩
 have HA := Lib.hid (Kd.C_below hA4 hb5)
 have HB := Lib.hid (c112 (n := 2) hB5 rfl (by omega))
 have HE := Lib.hid (cints (n := 3) (xs := sawnU) hE5 rfl (by omega))
 clear hA4 hB5 hE5
 go_wp2_with fail
 refine (trace_at HA.out HB.out HE.out rfl rfl (by omega) (by omega) sheet_trace).mono ?_
 rintro e w6 ⟨rfl, hb6⟩
 have h6 := below_step (below_step (below_step (below_alloc h3 _) hb4) hb5) hb6
 have HT6 := Lib.hid (blk_below (blk_below (blk_below HT3.out hb4) hb5) hb6)
 clear HA HB HE hb4 hb5 hb6 hl1 hl2 h3 HT3
 go_wp2_with fail
 refine (sheet_calls _).mono ?_
 rintro e w7 ⟨A7, rfl, hA7, hb7⟩
 go_wp2_with fail
 refine (best_at hA7).mono ?_
 rintro e w8 ⟨C, c, U, mu, du, rfl, hb8⟩
 have h8 := below_step (below_step h6 hb7) hb8
 have hT8 := blk_below (blk_below (blk_below HT6.out hb7) hb8) (below_alloc (Below.refl _ _) (.cells #[.slice C 3 c, .slice U mu du] 59))
 have hq_ := c4 hT8
 clear hA7 hb7 hb8 h6 HT6
 go_wp2
 go_ret
 exact ⟨rfl, below_alloc h8 _⟩
end Go.Proofs.Ytffjbaknglemdaa.X
