import Derived.Test.YtffjbaknglemdaaHW1
namespace Go.Proofs.Ytffjbaknglemdaa.X
open Go.RowKit Go.Maps Go.Proofs.YtffjbaknglemdaaW.PrintWords Go.Proofs.YtffjbaknglemdaaW.PrintLast Go.Proofs.YtffjbaknglemdaaW.PrintMore
set_option linter.unusedSimpArgs false
set_option linter.unusedVariables false

/-! ### the reference: Far 55, Part 96 -/
def farR (p : S88) (ac : Bool) : Int := if ac then p.f3 else p.f2
def partR (p : S88) (ac : Bool) (f m : Int) : S88 := if ac then ⟨p.f0, wrap64 (p.f1 + f), p.f2, m⟩ else ⟨wrap64 (p.f0 + f), p.f1, m, p.f3⟩
def av88 (p : S88) : Value := .agg #[.int .i64 p.f0, .int .i64 p.f1, .int .i64 p.f2, .int .i64 p.f3]
theorem far_calls (p : S88) (ac : Bool) (w : World) : Calls Try.prog 55 #[av88 p, .bool ac] w fun e w' => e = .returned (.int .i64 (farR p ac)) ∧ Below w.heap.size w w' := by
  unfold av88
  cases ac <;> (go_enter Try.func55, Try.ntmps55; go_wp2; go_ret; exact ⟨rfl, below_alloc (Below.refl _ _) _⟩)
set_option maxRecDepth 100000 in
set_option maxHeartbeats 1000000 in
theorem part_calls (p : S88) (ac : Bool) (f m : Int) (w : World) : Calls Try.prog 96 #[av88 p, .bool ac, .int .i64 f, .int .i64 m] w fun e w' => e = .returned (av88 (partR p ac f m)) ∧ Below w.heap.size w w' := by
  unfold av88
  cases ac
  · go_enter Try.func96, Try.ntmps96
    go_wp2
    refine bodyPost_ret (results_single rfl (.cell (w.heap.size + 1) 88 #[.int .i64 (wrap64 (p.f0 + f)), .int .i64 p.f1, .int .i64 m, .int .i64 p.f3] (0, 0) _ rfl (alloc_at (by simp)) Try.underlying88 rfl (by kernel_rfl) .nil)) rfl ?_
    exact ⟨rfl, below_alloc (below_alloc (Below.refl _ _) _) _⟩
  · go_enter Try.func96, Try.ntmps96
    go_wp2
    refine bodyPost_ret (results_single rfl (.cell (w.heap.size + 1) 88 #[.int .i64 p.f0, .int .i64 (wrap64 (p.f1 + f)), .int .i64 p.f2, .int .i64 m] (0, 0) _ rfl (alloc_at (by simp)) Try.underlying88 rfl (by kernel_rfl) .nil)) rfl ?_
    exact ⟨rfl, below_alloc (below_alloc (Below.refl _ _) _) _⟩

/-! ### Parts 76 -/
def pv88 (p : S88) : List Value := [.int .i64 p.f0, .int .i64 p.f1, .int .i64 p.f2, .int .i64 p.f3]
def pvs (l : List S88) : List Value := l.flatMap pv88
theorem infoS88 : (Try.prog.info? 88).map (fun i => (i.zero, i.size, i.bytes)) = some (some (.agg #[.int .i64 0, .int .i64 0, .int .i64 0, .int .i64 0]), 4, 32) := by kernel_rfl
def badR (far at_ saw : Int) : Bool := decide (at_ < 0) || (decide (far < at_) || (decide (far < wrap64 (at_ + saw)) || ((wrap64 (at_ + saw) == far && (at_ == 0 || saw == 0)) || (at_ == 0 && saw == 0))))
def goodR (p : S88) (ac : Bool) (at_ saw : Int) : List S88 := (if 0 < at_ then [partR p ac 0 at_] else []) ++ (if wrap64 (at_ + saw) < farR p ac then [partR p ac (wrap64 (at_ + saw)) (wrap64 (wrap64 (farR p ac - at_) - saw))] else [])
def partsR (p : S88) (ac : Bool) (at_ saw : Int) : List S88 := if badR (farR p ac) at_ saw then [] else goodR p ac at_ saw
def PartsEnd (l : List S88) (w : World) (e : Ending) (w' : World) : Prop := ∃ v, e = .returned v ∧ w'.ownsRow w.heap.size 88 4 v l.length (pvs l) ∧ Below w.heap.size w w'
set_option maxRecDepth 100000 in
set_option maxHeartbeats 8000000 in
theorem refParts_calls (p : S88) (ac : Bool) (at_ saw : Int) (w : World) : Calls Try.prog 76 #[av88 p, .bool ac, .int .i64 at_, .int .i64 saw] w (PartsEnd (partsR p ac at_ saw) w) := by
  unfold av88 partsR
  cases c0 : decide (at_ < 0) with
  | true => rw [if_pos (by simp [badR, c0])]; go_enter Try.func76, Try.ntmps76; go_wp2_with (go_at_call 55; refine (far_calls p ac _).mono ?_; rintro e w1 ⟨rfl, hb1⟩); go_ret; exact ⟨_, rfl, World.ownsRow_nil _ _ _ _, below_step (below_alloc (Below.refl _ _) _) hb1⟩
  | false =>
  cases c1 : decide (farR p ac < at_) with
  | true => rw [if_pos (by simp [badR, c0, c1])]; go_enter Try.func76, Try.ntmps76; go_wp2_with (go_at_call 55; refine (far_calls p ac _).mono ?_; rintro e w1 ⟨rfl, hb1⟩); go_ret; exact ⟨_, rfl, World.ownsRow_nil _ _ _ _, below_step (below_alloc (Below.refl _ _) _) hb1⟩
  | false =>
  cases c2 : decide (farR p ac < wrap64 (at_ + saw)) with
  | true => rw [if_pos (by simp [badR, c0, c1, c2])]; go_enter Try.func76, Try.ntmps76; go_wp2_with (go_at_call 55; refine (far_calls p ac _).mono ?_; rintro e w1 ⟨rfl, hb1⟩); go_ret; exact ⟨_, rfl, World.ownsRow_nil _ _ _ _, below_step (below_alloc (Below.refl _ _) _) hb1⟩
  | false =>
  cases c3 : (wrap64 (at_ + saw) == farR p ac) <;> cases c4 : (at_ == 0) <;> cases c5 : (saw == 0) <;> first
  | (rw [if_pos (by simp [badR, c0, c1, c2, c3, c4, c5])]; go_enter Try.func76, Try.ntmps76; go_wp2_with (go_at_call 55; refine (far_calls p ac _).mono ?_; rintro e w1 ⟨rfl, hb1⟩); go_ret; exact ⟨_, rfl, World.ownsRow_nil _ _ _ _, below_step (below_alloc (Below.refl _ _) _) hb1⟩)
  | (rw [if_neg (by simp [badR, c0, c1, c2, c3, c4, c5])]
     obtain ⟨i0, hinf, hq0, hq1, hq2⟩ := info_parts infoS88
     unfold goodR
     cases d0 : decide (0 < at_) with
     | false =>
       rw [if_neg (of_decide_eq_false d0)]
       cases d1 : decide (wrap64 (at_ + saw) < farR p ac) with
       | false =>
         rw [if_neg (of_decide_eq_false d1)]
         go_enter Try.func76, Try.ntmps76
         go_wp2_with fail
         refine (far_calls p ac _).mono ?_
         rintro e w1 ⟨rfl, hb1⟩
         have hB1 : Below w.heap.size w w1 := below_step (below_alloc (Below.refl _ _) _) hb1
         have HX1 := Lib.hid (blk_below (alloc_at (o := .cells #[.int .i64 p.f0, .int .i64 p.f1, .int .i64 p.f2, .int .i64 p.f3] 88) rfl) hb1)
         go_wp2
         go_ret
         exact ⟨_, rfl, World.ownsRow_nil _ _ _ _, hB1⟩
       | true =>
         rw [if_pos (of_decide_eq_true d1)]
         go_enter Try.func76, Try.ntmps76
         go_wp2_with fail
         refine (far_calls p ac _).mono ?_
         rintro e w1 ⟨rfl, hb1⟩
         have hB1 : Below w.heap.size w w1 := below_step (below_alloc (Below.refl _ _) _) hb1
         have HX1 := Lib.hid (blk_below (alloc_at (o := .cells #[.int .i64 p.f0, .int .i64 p.f1, .int .i64 p.f2, .int .i64 p.f3] 88) rfl) hb1)
         have hx := HX1.out
         have h2a : w1.cell? ⟨w.heap.size, 0, none⟩ = some (.int .i64 p.f0) := (blk_cell hx 0).trans rfl
         have h2b : w1.cell? ⟨w.heap.size, 1, none⟩ = some (.int .i64 p.f1) := (blk_cell hx 1).trans rfl
         have h2c : w1.cell? ⟨w.heap.size, 2, none⟩ = some (.int .i64 p.f2) := (blk_cell hx 2).trans rfl
         have h2d : w1.cell? ⟨w.heap.size, 3, none⟩ = some (.int .i64 p.f3) := (blk_cell hx 3).trans rfl
         clear hx
         obtain ⟨y2, hy2⟩ : ∃ y, partR p ac (wrap64 (at_ + saw)) (wrap64 (wrap64 (farR p ac - at_) - saw)) = y := ⟨_, rfl⟩
         have hpc := part_calls p ac (wrap64 (at_ + saw)) (wrap64 (wrap64 (farR p ac - at_) - saw))
         rw [hy2] at hpc
         have HY2 := Lib.hid hy2
         clear hy2
         go_wp2_with fail
         refine (hpc _).mono ?_
         rintro e x2 ⟨rfl, hb⟩
         have hB2 := below_step hB1 hb
         have hz2 := hB2.size
         have HX2 := Lib.hid (blk_below HX1.out hb)
         clear hb hpc
         unfold av88
         go_wp2_with (at_builtin; refine wpList_append_own_at _ rfl _ _ 100 rfl w.heap.size 88 i0 _ 4 32 Try.underlying100 hinf hq0 hq1 hq2 rfl (by decide) _ _ _ rfl (World.ownsRow_nil _ _ _ _) ⟨x2.heap.size, 0, none⟩ 1 1 (pv88 y2) rfl rfl (World.news_of_block (alloc_at (by simp [pv88]))) (by simp [pv88, Value.oneCell']) (by simp [maxLen]) (by omega) (by simp; omega) ?_; intro v3 u3 hown3 hgrow3 _ hat_; obtain ⟨g3, cap3, rfl⟩ := ownsRow_succ hown3; have hBu := pw_below_grown (below_alloc hB2 _) none (by simp; omega) hgrow3 (fun k e => by cases e))
         go_ret
         rw [← HY2.out] at hown3
         exact ⟨_, rfl, hown3, hBu⟩
     | true =>
       rw [if_pos (of_decide_eq_true d0)]
       cases d1 : decide (wrap64 (at_ + saw) < farR p ac) with
       | false =>
         rw [if_neg (of_decide_eq_false d1)]
         go_enter Try.func76, Try.ntmps76
         go_wp2_with fail
         refine (far_calls p ac _).mono ?_
         rintro e w1 ⟨rfl, hb1⟩
         have hB1 : Below w.heap.size w w1 := below_step (below_alloc (Below.refl _ _) _) hb1
         have HX1 := Lib.hid (blk_below (alloc_at (o := .cells #[.int .i64 p.f0, .int .i64 p.f1, .int .i64 p.f2, .int .i64 p.f3] 88) rfl) hb1)
         have hx := HX1.out
         have h2a : w1.cell? ⟨w.heap.size, 0, none⟩ = some (.int .i64 p.f0) := (blk_cell hx 0).trans rfl
         have h2b : w1.cell? ⟨w.heap.size, 1, none⟩ = some (.int .i64 p.f1) := (blk_cell hx 1).trans rfl
         have h2c : w1.cell? ⟨w.heap.size, 2, none⟩ = some (.int .i64 p.f2) := (blk_cell hx 2).trans rfl
         have h2d : w1.cell? ⟨w.heap.size, 3, none⟩ = some (.int .i64 p.f3) := (blk_cell hx 3).trans rfl
         clear hx
         obtain ⟨y2, hy2⟩ : ∃ y, partR p ac 0 at_ = y := ⟨_, rfl⟩
         have hpc := part_calls p ac 0 at_
         rw [hy2] at hpc
         have HY2 := Lib.hid hy2
         clear hy2
         go_wp2_with fail
         refine (hpc _).mono ?_
         rintro e x2 ⟨rfl, hb⟩
         have hB2 := below_step hB1 hb
         have hz2 := hB2.size
         have HX2 := Lib.hid (blk_below HX1.out hb)
         clear hb hpc
         unfold av88
         go_wp2_with (at_builtin; refine wpList_append_own_at _ rfl _ _ 100 rfl w.heap.size 88 i0 _ 4 32 Try.underlying100 hinf hq0 hq1 hq2 rfl (by decide) _ _ _ rfl (World.ownsRow_nil _ _ _ _) ⟨x2.heap.size, 0, none⟩ 1 1 (pv88 y2) rfl rfl (World.news_of_block (alloc_at (by simp [pv88]))) (by simp [pv88, Value.oneCell']) (by simp [maxLen]) (by omega) (by simp; omega) ?_; intro v3 u3 hown3 hgrow3 _ hat_; obtain ⟨g3, cap3, rfl⟩ := ownsRow_succ hown3; have hBu := pw_below_grown (below_alloc hB2 _) none (by simp; omega) hgrow3 (fun k e => by cases e))
         go_ret
         rw [← HY2.out] at hown3
         exact ⟨_, rfl, hown3, hBu⟩
       | true =>
         rw [if_pos (of_decide_eq_true d1)]
         go_enter Try.func76, Try.ntmps76
         go_wp2_with fail
         refine (far_calls p ac _).mono ?_
         rintro e w1 ⟨rfl, hb1⟩
         have hB1 : Below w.heap.size w w1 := below_step (below_alloc (Below.refl _ _) _) hb1
         have HX1 := Lib.hid (blk_below (alloc_at (o := .cells #[.int .i64 p.f0, .int .i64 p.f1, .int .i64 p.f2, .int .i64 p.f3] 88) rfl) hb1)
         have hx := HX1.out
         have h2a : w1.cell? ⟨w.heap.size, 0, none⟩ = some (.int .i64 p.f0) := (blk_cell hx 0).trans rfl
         have h2b : w1.cell? ⟨w.heap.size, 1, none⟩ = some (.int .i64 p.f1) := (blk_cell hx 1).trans rfl
         have h2c : w1.cell? ⟨w.heap.size, 2, none⟩ = some (.int .i64 p.f2) := (blk_cell hx 2).trans rfl
         have h2d : w1.cell? ⟨w.heap.size, 3, none⟩ = some (.int .i64 p.f3) := (blk_cell hx 3).trans rfl
         clear hx
         obtain ⟨y2, hy2⟩ : ∃ y, partR p ac 0 at_ = y := ⟨_, rfl⟩
         have hpc := part_calls p ac 0 at_
         rw [hy2] at hpc
         have HY2 := Lib.hid hy2
         clear hy2
         go_wp2_with fail
         refine (hpc _).mono ?_
         rintro e x2 ⟨rfl, hb⟩
         have hB2 := below_step hB1 hb
         have hz2 := hB2.size
         have HX2 := Lib.hid (blk_below HX1.out hb)
         clear hb hpc
         unfold av88
         go_wp2_with (at_builtin; refine wpList_append_own_at _ rfl _ _ 100 rfl w.heap.size 88 i0 _ 4 32 Try.underlying100 hinf hq0 hq1 hq2 rfl (by decide) _ _ _ rfl (World.ownsRow_nil _ _ _ _) ⟨x2.heap.size, 0, none⟩ 1 1 (pv88 y2) rfl rfl (World.news_of_block (alloc_at (by simp [pv88]))) (by simp [pv88, Value.oneCell']) (by simp [maxLen]) (by omega) (by simp; omega) ?_; intro v3 u3 hown3 hgrow3 _ hat_; obtain ⟨g3, cap3, rfl⟩ := ownsRow_succ hown3; have hBu := pw_below_grown (below_alloc hB2 _) none (by simp; omega) hgrow3 (fun k e => by cases e); have hbx := pw_below_grown (below_alloc (Below.refl x2.heap.size x2) _) none (by simp) hgrow3 (fun k e => by cases e); have HXu := Lib.hid (blk_below HX2.out hbx); clear hbx hgrow3; have hx := HXu.out; have h4a : u3.cell? ⟨w.heap.size, 0, none⟩ = some (.int .i64 p.f0) := (blk_cell hx 0).trans rfl; have h4b : u3.cell? ⟨w.heap.size, 1, none⟩ = some (.int .i64 p.f1) := (blk_cell hx 1).trans rfl; have h4c : u3.cell? ⟨w.heap.size, 2, none⟩ = some (.int .i64 p.f2) := (blk_cell hx 2).trans rfl; have h4d : u3.cell? ⟨w.heap.size, 3, none⟩ = some (.int .i64 p.f3) := (blk_cell hx 3).trans rfl; clear hx)
         have hx := HXu.out
         have h4a : u3.cell? ⟨w.heap.size, 0, none⟩ = some (.int .i64 p.f0) := (blk_cell hx 0).trans rfl
         have h4b : u3.cell? ⟨w.heap.size, 1, none⟩ = some (.int .i64 p.f1) := (blk_cell hx 1).trans rfl
         have h4c : u3.cell? ⟨w.heap.size, 2, none⟩ = some (.int .i64 p.f2) := (blk_cell hx 2).trans rfl
         have h4d : u3.cell? ⟨w.heap.size, 3, none⟩ = some (.int .i64 p.f3) := (blk_cell hx 3).trans rfl
         clear hx
         obtain ⟨y4, hy4⟩ : ∃ y, partR p ac (wrap64 (at_ + saw)) (wrap64 (wrap64 (farR p ac - at_) - saw)) = y := ⟨_, rfl⟩
         have hpc := part_calls p ac (wrap64 (at_ + saw)) (wrap64 (wrap64 (farR p ac - at_) - saw))
         rw [hy4] at hpc
         have HY4 := Lib.hid hy4
         clear hy4
         refine (hpc _).mono ?_
         rintro e x4 ⟨rfl, hb⟩
         have hB4 := below_step hBu hb
         have hz4 := hB4.size
         have HX4 := Lib.hid (blk_below HXu.out hb)
         have hown := pw_own_below hown3 hb
         clear hb hpc
         unfold av88
         go_wp2_with (at_builtin; refine wpList_append_own_at _ rfl _ _ 100 rfl w.heap.size 88 i0 _ 4 32 Try.underlying100 hinf hq0 hq1 hq2 rfl (by decide) _ _ _ rfl (hown.alloc _) ⟨x4.heap.size, 0, none⟩ 1 1 (pv88 y4) rfl rfl (World.news_of_block (alloc_at (by simp [pv88]))) (by simp [pv88, Value.oneCell']) (by simp [maxLen]) (by omega) (by simp; omega) ?_; intro v5 u5 hown5 hgrow5 _ hat_; obtain ⟨g5, cap5, rfl⟩ := ownsRow_succ hown5; have hB5 := pw_below_grown (below_alloc hB4 _) _ (by simp; omega) hgrow5 (fun k e => own_base hown k e))
         go_ret
         rw [← HY2.out, ← HY4.out] at hown5
         exact ⟨_, rfl, hown5, hB5⟩)

end Go.Proofs.Ytffjbaknglemdaa.X
