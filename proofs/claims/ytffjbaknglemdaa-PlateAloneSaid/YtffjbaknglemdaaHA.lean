import Derived.Test.YtffjbaknglemdaaH0
import Derived.Test.YtffjbaknglemdaaX0
import Derived.RangeFuncNested
import Derived.RangeFuncBound
import Derived.RangeFuncCalls
import Derived.RangeFuncLeaves
import Derived.Shelf.Abstract
import Derived.Shelf.RegionOpen
import Derived.OwnWalkIn
import Derived.TacticsInMore
import Derived.LoopNIn
import Derived.LoopIn
import Derived.Lib.Hide
import Derived.Laws.EntriesVeiled
namespace Go.Proofs.Ytffjbaknglemdaa.X
open Go.RowKit Go.Proofs.YtffjbaknglemdaaW.PrintWords Go.Proofs.YtffjbaknglemdaaW.PrintLast Go.Proofs.YtffjbaknglemdaaW.PrintMore

theorem bcell {W w1 : World} (hb : Below W.heap.size W w1) : (∀ b o, b < W.heap.size → w1.cell? ⟨b, o, none⟩ = W.cell? ⟨b, o, none⟩) ∧ (∀ b o, b < W.heap.size → w1.frozen? ⟨b, o, none⟩ = W.frozen? ⟨b, o, none⟩) :=
 ⟨fun b o h => hb.cell (p := ⟨b, o, none⟩) h, fun b o h => hb.frozen (p := ⟨b, o, none⟩) h⟩
theorem alloc_at {w : World} {o : Obj} {k : Nat} (h : k = w.heap.size) : (w.alloc o).heap[k]? = some o := by subst h; exact heap_alloc_new w o

/-- A piece as a value. -/
def pv (p : S103) : Value := .agg #[.int .i64 p.f0, .int .i64 p.f1, .int .i64 p.f2, .int .i64 p.f3]

/-! ### the two directions -/
theorem wide_calls (x y a b : Int) (w : World) :
  Calls Try.prog 104 #[.agg #[.int .i64 x, .int .i64 y, .int .i64 a, .int .i64 b]] w fun e w' => e = .returned (.int .i64 a) ∧ Below w.heap.size w w' := by
 go_enter Try.func104, Try.ntmps104
 go_wp2
 go_ret
 exact ⟨rfl, (Below.refl _ _).alloc (Nat.le_refl _) _⟩
theorem long_calls (x y a b : Int) (w : World) :
  Calls Try.prog 106 #[.agg #[.int .i64 x, .int .i64 y, .int .i64 a, .int .i64 b]] w fun e w' => e = .returned (.int .i64 b) ∧ Below w.heap.size w w' := by
 go_enter Try.func106, Try.ntmps106
 go_wp2
 go_ret
 exact ⟨rfl, (Below.refl _ _).alloc (Nat.le_refl _) _⟩
set_option maxHeartbeats 1000000 in
theorem upright_calls (x y a b f m : Int) (w : World) :
  Calls Try.prog 105 #[.agg #[.int .i64 x, .int .i64 y, .int .i64 a, .int .i64 b], .int .i64 f, .int .i64 m] w fun e w' => e = .returned (.agg #[.int .i64 (wrap64 (x + f)), .int .i64 y, .int .i64 m, .int .i64 b]) ∧ Below w.heap.size w w' := by
 go_enter Try.func105, Try.ntmps105
 go_wp2
 refine bodyPost_ret (results_cell_row rfl _ _ (w.heap.size + 1) 103 #[.int .i64 (wrap64 (x + f)), .int .i64 y, .int .i64 m, .int .i64 b] (0, 0) _ rfl (alloc_at (by simp)) Try.underlying103 rfl (by kernel_rfl)) rfl ?_
 exact ⟨rfl, below_alloc (below_alloc (Below.refl _ _) _) _⟩
set_option maxHeartbeats 1000000 in
theorem level_calls (x y a b f m : Int) (w : World) :
  Calls Try.prog 107 #[.agg #[.int .i64 x, .int .i64 y, .int .i64 a, .int .i64 b], .int .i64 f, .int .i64 m] w fun e w' => e = .returned (.agg #[.int .i64 x, .int .i64 (wrap64 (y + f)), .int .i64 a, .int .i64 m]) ∧ Below w.heap.size w w' := by
 go_enter Try.func107, Try.ntmps107
 go_wp2
 refine bodyPost_ret (results_cell_row rfl _ _ (w.heap.size + 1) 103 #[.int .i64 x, .int .i64 (wrap64 (y + f)), .int .i64 a, .int .i64 m] (0, 0) _ rfl (alloc_at (by simp)) Try.underlying103 rfl (by kernel_rfl)) rfl ?_
 exact ⟨rfl, below_alloc (below_alloc (Below.refl _ _) _) _⟩

/-- A direction as its two cells. -/
def dcell (across : Bool) : Value × Value := if across then (.func (.func 106) #[] #[], .func (.func 107) #[] #[]) else (.func (.func 104) #[] #[], .func (.func 105) #[] #[])
def dv (across : Bool) : Value := .agg #[(dcell across).1, (dcell across).2]

theorem directions_calls (w : World) :
  Calls Try.prog 90 #[] w fun e w' => ∃ g, e = .returned (.slice (some ⟨g, 0, none⟩) 2 2) ∧ w'.heap[g]? = some (.cells #[.func (.func 104) #[] #[], .func (.func 105) #[] #[], .func (.func 106) #[] #[], .func (.func 107) #[] #[]] 156 (0, 0)) ∧ Below w.heap.size w w' := by
 go_enter Try.func90, Try.ntmps90
 go_wp2
 go_ret
 exact ⟨_, rfl, alloc_at rfl, below_alloc (Below.refl _ _) _⟩

set_option maxHeartbeats 1000000 in
theorem of_calls (n : Int) (across : Bool) (at_ : Int) (w : World) :
  Calls Try.prog 67 #[.agg #[.int .i64 n, .bool across, .int .i64 at_]] w fun e w' => e = .returned (dv across) ∧ Below w.heap.size w w' := by
 cases across
 all_goals
  go_enter Try.func67, Try.ntmps67
  go_wp2_with (go_at_call 90; refine (directions_calls _).mono ?_; rintro e w1 ⟨g, rfl, hbk, hb⟩; have k_ := c4 hbk; clear hbk; have B1 : w1.heap[w.heap.size + 1]? = some (.cells #[.nilFunc, .nilFunc] 156 (0, 0)) := (blk_below (alloc_at (by simp)) hb); have c_ := cf2 B1; clear B1)
 ·refine bodyPost_ret (results_cell_row rfl _ _ (w.heap.size + 1) 156 #[.func (.func 104) #[] #[], .func (.func 105) #[] #[]] (0, 0) _ rfl (blk_put (cs := #[.func (.func 104) #[] #[], .nilFunc]) (blk_put (cs := #[.nilFunc, .nilFunc]) (blk_below (alloc_at (by simp)) hb) 0 _ rfl) 1 _ rfl) Try.underlying156 rfl (by kernel_rfl)) rfl ?_
  exact ⟨rfl, below_set (below_set (below_step (below_alloc (below_alloc (Below.refl _ _) _) _) hb) (by simp)) (by simp)⟩
 ·refine bodyPost_ret (results_cell_row rfl _ _ (w.heap.size + 1) 156 #[.func (.func 106) #[] #[], .func (.func 107) #[] #[]] (0, 0) _ rfl (blk_put (cs := #[.func (.func 106) #[] #[], .nilFunc]) (blk_put (cs := #[.nilFunc, .nilFunc]) (blk_below (alloc_at (by simp)) hb) 0 _ rfl) 1 _ rfl) Try.underlying156 rfl (by kernel_rfl)) rfl ?_
  exact ⟨rfl, below_set (below_set (below_step (below_alloc (below_alloc (Below.refl _ _) _) _) hb) (by simp)) (by simp)⟩

/-! ### the parts of a piece -/
def farOf (across : Bool) (p : S103) : Int := if across then p.f3 else p.f2
def partOf (across : Bool) (p : S103) (f m : Int) : S103 := if across then ⟨p.f0, wrap64 (p.f1 + f), p.f2, m⟩ else ⟨wrap64 (p.f0 + f), p.f1, m, p.f3⟩
def restOf (across : Bool) (p : S103) (at_ saw : Int) : Int := wrap64 (wrap64 (farOf across p - at_) - saw)
/-- The new pieces, as the code reckons them. -/
def partsOf (across : Bool) (p : S103) (at_ saw : Int) : List S103 :=
 if at_ < 0 then [] else if restOf across p at_ saw < 0 then [] else if saw = 0 ∧ (at_ = 0 ∨ restOf across p at_ saw = 0) then [] else
 (if 0 < at_ then [partOf across p 0 at_] else []) ++ (if 0 < restOf across p at_ saw then [partOf across p (wrap64 (at_ + saw)) (restOf across p at_ saw)] else [])
theorem partsOf_len (across : Bool) (p : S103) (at_ saw : Int) : (partsOf across p at_ saw).length ≤ 2 := by
 unfold partsOf
 repeat' split
 all_goals simp

/-- What the iterator of the parts has captured. -/
structure PartsAt (W : World) (g : Nat) (across : Bool) (p : S103) (at_ saw : Int) : Prop where
 d : W.heap[g]? = some (.cells #[(dcell across).1, (dcell across).2] 156 (0, 0))
 p : W.heap[g + 1]? = some (.cells #[.int .i64 p.f0, .int .i64 p.f1, .int .i64 p.f2, .int .i64 p.f3] 103 (0, 0))
 at_ : W.heap[g + 1 + 1]? = some (.cells #[.int .i64 at_] 3 (0, 0))
 saw : W.heap[g + 1 + 1 + 1]? = some (.cells #[.int .i64 saw] 3 (0, 0))
theorem PartsAt.below {W W' : World} {g : Nat} {across : Bool} {p : S103} {at_ saw : Int} (h : PartsAt W g across p at_ saw) {n : Nat} (hg : g + 3 < n) (hb : Below n W W') : PartsAt W' g across p at_ saw :=
 ⟨(hb.block _ (by omega)).trans h.d, (hb.block _ (by omega)).trans h.p, (hb.block _ (by omega)).trans h.at_, (hb.block _ (by omega)).trans h.saw⟩

def seqV (g : Nat) : Value := .func (.func 91) #[] #[.pointer (some ⟨g, 0, none⟩), .pointer (some ⟨g + 1, 0, none⟩), .pointer (some ⟨g + 1 + 1, 0, none⟩), .pointer (some ⟨g + 1 + 1 + 1, 0, none⟩)]
set_option maxHeartbeats 1000000 in
theorem parts_calls (across : Bool) (p : S103) (at_ saw : Int) (w : World) :
  Calls Try.prog 68 #[dv across, pv p, .int .i64 at_, .int .i64 saw] w fun e w' => ∃ g, w.heap.size ≤ g ∧ g + 3 < w'.heap.size ∧ e = .returned (seqV g) ∧ PartsAt w' g across p at_ saw ∧ Below w.heap.size w w' := by
 unfold dv pv
 generalize hd0 : (dcell across).1 = d0
 generalize hd1 : (dcell across).2 = d1
 have H0 := Lib.hid hd0
 have H1 := Lib.hid hd1
 clear hd0 hd1
 go_enter Try.func68, Try.ntmps68
 go_wp2
 go_ret
 refine ⟨w.heap.size, Nat.le_refl _, by simp, rfl, ⟨?_, ?_, ?_, ?_⟩, below_alloc (below_alloc (below_alloc (below_alloc (Below.refl _ _) _) _) _) _⟩
 ·rw [H0.out, H1.out]; exact blk_alloc (blk_alloc (blk_alloc (alloc_at rfl) _) _) _
 ·exact blk_alloc (blk_alloc (alloc_at (by simp)) _) _
 ·exact blk_alloc (alloc_at (by simp)) _
 ·exact alloc_at (by simp)

/-! ### the iterator -/
set_option linter.unusedSimpArgs false
set_option linter.unusedVariables false
/-- What a round keeps for the iterator. -/
def KpG (g : Nat) (W W' : World) : Prop := ∀ k, g ≤ k → k < g + 4 → W'.heap[k]? = W.heap[k]?
theorem PartsAt.kept {W W' : World} {g : Nat} {across : Bool} {p : S103} {at_ saw : Int} (h : PartsAt W g across p at_ saw) (hk : KpG g W W') : PartsAt W' g across p at_ saw :=
 ⟨(hk _ (by omega) (by omega)).trans h.d, (hk _ (by omega) (by omega)).trans h.p, (hk _ (by omega) (by omega)).trans h.at_, (hk _ (by omega) (by omega)).trans h.saw⟩
def SeqEnd {α : Type} (L : List α) (J Jx : List α → World → Prop) (e : Ending) (W' : World) : Prop := (∃ v, e = .returned v) ∧ ((∃ xs, xs = L ∧ J xs W') ∨ (∃ pre, pre <+: L ∧ Jx pre W'))

set_option maxRecDepth 100000 in
set_option maxHeartbeats 4000000 in
theorem parts1_f (n : Nat) (l g : Nat) (p : S103) (at_ saw : Int) (J Jx : List S103 → World → Prop) (W : World) (hn : 1 ≤ n) (PA : PartsAt W g false p at_ saw) (hg : g + 3 < W.heap.size)
  (hJ : ∀ s A B, J s A → Below A.heap.size A B → J s B)
  (hY : ∀ pre x W1, J pre W1 → pre.length < 2 → YieldAt Fence.wide (n - 1) Try.prog l #[pv x] W1 fun e W' =>
   (e = .returned (.bool true) ∧ J (pre ++ [x]) W' ∧ KpG g W1 W') ∨ (e = .returned (.bool false) ∧ Jx (pre ++ [x]) W'))
  (h0 : J [] W) :
  CallsIn Fence.wide n Try.prog 91 #[.func (.yield l) #[] #[], .pointer (some ⟨g, 0, none⟩), .pointer (some ⟨g + 1, 0, none⟩), .pointer (some ⟨g + 1 + 1, 0, none⟩), .pointer (some ⟨g + 1 + 1 + 1, 0, none⟩)] W (SeqEnd (partsOf false p at_ saw) J Jx) := by
 have HY := Lib.hid hY
 have HJ := Lib.hid hJ
 clear hY hJ
 refine callsIn_of_wp Try.func91 rfl trivial ?_ rfl
 simp only [Try.ntmps91, List.size_toArray, List.length_cons, List.length_nil, Nat.reduceAdd, Nat.reduceSub, Array.replicate_succ, Array.replicate_zero, List.push_toArray, List.append_toArray, List.nil_append, List.cons_append]
 gi_wp2
 refine wpIn_wide.2 ?_
 refine s_ 9 (fun w' => w'.cell? ⟨g, 0, none⟩ = some (.func (.func 104) #[] #[]) ∧ w'.cell? ⟨g, 1, none⟩ = some (.func (.func 105) #[] #[]) ∧ w'.cell? ⟨g + 1, 0, none⟩ = some (.int .i64 p.f0) ∧ w'.cell? ⟨g + 1, 1, none⟩ = some (.int .i64 p.f1) ∧ w'.cell? ⟨g + 1, 2, none⟩ = some (.int .i64 p.f2) ∧ w'.cell? ⟨g + 1, 3, none⟩ = some (.int .i64 p.f3) ∧ w'.cell? ⟨g + 1 + 1, 0, none⟩ = some (.int .i64 at_) ∧ w'.cell? ⟨g + 1 + 1 + 1, 0, none⟩ = some (.int .i64 saw)) [] ⟨(cB PA.d), (cB PA.d), (cB PA.p), (cB PA.p), (cB PA.p), (cB PA.p), (cB PA.at_), (cB PA.saw)⟩ (fun hHeld => ?_)
 refine p_ 0 (some 7) ?_
 refine t_ 1 (some 8) hHeld ?_
 refine t_ 2 (some 9) hHeld ?_
 refine t_ 4 (some 11) hHeld ?_
 refine t_ 6 (some 13) hHeld ?_
 refine e_ 3 (some 10) (fun K hK => ?_)
 refine call_ 104 #[.agg #[.int .i64 p.f0, .int .i64 p.f1, .int .i64 p.f2, .int .i64 p.f3]] (by rfl) rfl ?_ ?_
 ·go_simp
 with_reducible refine (wide_calls _ _ _ _ _).mono ?_
 rintro e w3 ⟨rfl, hb⟩
 have PAd : PartsAt W.drew g false p at_ saw := ⟨PA.d, PA.p, PA.at_, PA.saw⟩
 have PA3 := PAd.below (n := W.heap.size) (by omega) hb
 clear PAd
 have h03 := HJ.out _ _ _ h0 (below_step (below_drew1 (Below.refl _ _)) hb)
 have hz3 := hb.size
 refine ⟨_, rfl, ?_⟩
 refine hK.out _ _ ⟨(cB PA3.d), (cB PA3.d), (cB PA3.p), (cB PA3.p), (cB PA3.p), (cB PA3.p), (cB PA3.at_), (cB PA3.saw)⟩ (fun hHeld => ?_)
 clear hK K
 refine n_ ?_
 refine p_ 5 (some 12) ?_
 refine p_ 7 (some 14) ?_
 refine p_ 8 (some 6) ?_
 refine done_ (by kernel_rfl) ?_
 generalize hr : wrap64 (wrap64 (p.f2 - at_) - saw) = r
 have hr' : restOf false p at_ saw = r := hr
 have HR := Lib.hid hr'
 clear hr hr' h0 PA
 obtain ⟨z0, z1, z2, z3, z4, z5, z6, z7⟩ := hHeld
 have hwf : ∀ f, Fence.wide.fn f := fun _ => trivial
 by_cases ha : at_ < 0
 ·have hd : decide (at_ < 0) = true := decide_eq_true ha
  gi_wp2
  refine bodyPost_ret (results_none rfl _ _ _) rfl ?_
  exact ⟨⟨_, rfl⟩, .inl ⟨[], by simp [partsOf, ha], h03⟩⟩
 have hd : decide (at_ < 0) = false := decide_eq_false ha
 by_cases hr0 : r < 0
 ·have hdr : decide (r < 0) = true := decide_eq_true hr0
  gi_wp2
  refine bodyPost_ret (results_none rfl _ _ _) rfl ?_
  exact ⟨⟨_, rfl⟩, .inl ⟨[], by rw [← HR.out] at hr0; simp [partsOf, ha, hr0], h03⟩⟩
 have hdr : decide (r < 0) = false := decide_eq_false hr0
 by_cases hs : saw = 0 ∧ (at_ = 0 ∨ r = 0)
 ·obtain ⟨hs0, hs1⟩ := hs
  have hbs : (saw == 0) = true := by simpa using hs0
  have hP : partsOf false p at_ saw = [] := by unfold partsOf; rw [if_neg ha, HR.out, if_neg hr0, if_pos ⟨hs0, hs1⟩]
  have HP := Lib.hid hP
  clear hP
  by_cases ha0 : at_ = 0
  ·have hba : (at_ == 0) = true := by simpa using ha0
   clear hs0 hs1 ha0 HR
   gi_wp2
   refine bodyPost_ret (results_none rfl _ _ _) rfl ?_
   exact ⟨⟨_, rfl⟩, .inl ⟨[], HP.out.symm, h03⟩⟩
  ·have hba : (at_ == 0) = false := by simpa using ha0
   have hbr : (r == 0) = true := by rcases hs1 with h | h; exact absurd h ha0; simpa using h
   clear hs0 hs1 ha0 HR
   gi_wp2
   refine bodyPost_ret (results_none rfl _ _ _) rfl ?_
   exact ⟨⟨_, rfl⟩, .inl ⟨[], HP.out.symm, h03⟩⟩
 have hP : partsOf false p at_ saw = (if 0 < at_ then [partOf false p 0 at_] else []) ++ (if 0 < r then [partOf false p (wrap64 (at_ + saw)) r] else []) := by
  unfold partsOf; rw [if_neg ha, HR.out, if_neg hr0, if_neg hs]
 have HP := Lib.hid hP
 clear hP
 have hts : (saw == 0) = false ∨ ((saw == 0) = true ∧ (at_ == 0) = false ∧ (r == 0) = false) := by
  by_cases h1 : saw = 0
  ·refine .inr ⟨by simpa using h1, ?_, ?_⟩
   ·rw [beq_eq_false_iff_ne]; exact fun h => hs ⟨h1, .inl h⟩
   ·rw [beq_eq_false_iff_ne]; exact fun h => hs ⟨h1, .inr h⟩
  ·exact .inl (by simpa using h1)
 clear hs HR
 by_cases hta : 0 < at_
 ·have hdt : decide (0 < at_) = true := decide_eq_true hta
  rw [if_pos hta] at HP
  by_cases htr : 0 < r
  ·have hdu : decide (0 < r) = true := decide_eq_true htr
   rw [if_pos htr] at HP
   rcases hts with hbs | ⟨hbs, hba, hbr⟩
   all_goals
    gi_wp2_with ((first | gi_at_call 105 | (refine ⟨trivial, ?_⟩; gi_at_call 105)); refine (callsIn_wide.2 (upright_calls _ _ _ _ _ _ _)).mono ?_; rintro e w4 ⟨rfl, hb4⟩; have hz4 := hb4.size; have PA4 := PA3.below (n := w3.heap.size) (by simp at hz3; omega) hb4; have h04 := HJ.out _ _ _ h03 hb4; have y0 : (w4).cell? ⟨g, 0, none⟩ = some (.func (.func 104) #[] #[]) := (cB PA4.d); have y1 : (w4).cell? ⟨g, 1, none⟩ = some (.func (.func 105) #[] #[]) := (cB PA4.d); have y2 : (w4).cell? ⟨g + 1, 0, none⟩ = some (.int .i64 p.f0) := (cB PA4.p); have y3 : (w4).cell? ⟨g + 1, 1, none⟩ = some (.int .i64 p.f1) := (cB PA4.p); have y4 : (w4).cell? ⟨g + 1, 2, none⟩ = some (.int .i64 p.f2) := (cB PA4.p); have y5 : (w4).cell? ⟨g + 1, 3, none⟩ = some (.int .i64 p.f3) := (cB PA4.p); have y6 : (w4).cell? ⟨g + 1 + 1, 0, none⟩ = some (.int .i64 at_) := (cB PA4.at_); have y7 : (w4).cell? ⟨g + 1 + 1 + 1, 0, none⟩ = some (.int .i64 saw) := (cB PA4.saw); obtain ⟨fn1, tm1, as1, bo1, hy1, hR1⟩ := HY.out [] (partOf false p 0 at_) w4 h04 (by simp); simp only [pv, partOf, Bool.false_eq_true, if_true, if_false, Int.add_zero] at hy1)
    refine hR1.mono ?_
    clear hR1
    rintro e w5 (⟨rfl, hj5, hb5⟩ | ⟨rfl, hx5⟩)
    ·-- the second part
     have PA5 := PA4.kept hb5
     have x0 : (w5).cell? ⟨g, 0, none⟩ = some (.func (.func 104) #[] #[]) := (cB PA5.d); have x1 : (w5).cell? ⟨g, 1, none⟩ = some (.func (.func 105) #[] #[]) := (cB PA5.d); have x2 : (w5).cell? ⟨g + 1, 0, none⟩ = some (.int .i64 p.f0) := (cB PA5.p); have x3 : (w5).cell? ⟨g + 1, 1, none⟩ = some (.int .i64 p.f1) := (cB PA5.p); have x4 : (w5).cell? ⟨g + 1, 2, none⟩ = some (.int .i64 p.f2) := (cB PA5.p); have x5 : (w5).cell? ⟨g + 1, 3, none⟩ = some (.int .i64 p.f3) := (cB PA5.p); have x6 : (w5).cell? ⟨g + 1 + 1, 0, none⟩ = some (.int .i64 at_) := (cB PA5.at_); have x7 : (w5).cell? ⟨g + 1 + 1 + 1, 0, none⟩ = some (.int .i64 saw) := (cB PA5.saw)
     gi_wp2_with ((first | gi_at_call 105 | (refine ⟨trivial, ?_⟩; gi_at_call 105)); refine (callsIn_wide.2 (upright_calls _ _ _ _ _ _ _)).mono ?_; rintro e w6 ⟨rfl, hb6⟩; have h06 := HJ.out _ _ _ hj5 hb6; obtain ⟨fn2, tm2, as2, bo2, hy2, hR2⟩ := HY.out [partOf false p 0 at_] (partOf false p (wrap64 (at_ + saw)) r) w6 h06 (by simp); simp only [pv, partOf, Bool.false_eq_true, if_true, if_false, Int.add_zero] at hy2)
     refine hR2.mono ?_
     clear hR2
     rintro e w7 (⟨rfl, hj7, hb7⟩ | ⟨rfl, hx7⟩)
     all_goals gi_wp2
     ·refine bodyPost_ret (results_none rfl _ _ _) rfl ?_
      exact ⟨⟨_, rfl⟩, .inl ⟨_, HP.out.symm, hj7⟩⟩
     ·refine bodyPost_ret (results_none rfl _ _ _) rfl ?_
      exact ⟨⟨_, rfl⟩, .inr ⟨_, by rw [HP.out]; exact List.prefix_refl _, hx7⟩⟩
    ·gi_wp2
     refine bodyPost_ret (results_none rfl _ _ _) rfl ?_
     exact ⟨⟨_, rfl⟩, .inr ⟨_, by rw [HP.out]; exact List.prefix_append _ _, hx5⟩⟩
  ·have hdu : decide (0 < r) = false := decide_eq_false htr
   rw [if_neg htr] at HP
   have hts' : (saw == 0) = false := by
    rcases hts with h | ⟨_, _, h⟩
    ·exact h
    ·rw [beq_eq_false_iff_ne] at h; omega
   clear hts
   gi_wp2_with ((first | gi_at_call 105 | (refine ⟨trivial, ?_⟩; gi_at_call 105)); refine (callsIn_wide.2 (upright_calls _ _ _ _ _ _ _)).mono ?_; rintro e w4 ⟨rfl, hb4⟩; have hz4 := hb4.size; have PA4 := PA3.below (n := w3.heap.size) (by simp at hz3; omega) hb4; have h04 := HJ.out _ _ _ h03 hb4; have y0 : (w4).cell? ⟨g, 0, none⟩ = some (.func (.func 104) #[] #[]) := (cB PA4.d); have y1 : (w4).cell? ⟨g, 1, none⟩ = some (.func (.func 105) #[] #[]) := (cB PA4.d); have y2 : (w4).cell? ⟨g + 1, 0, none⟩ = some (.int .i64 p.f0) := (cB PA4.p); have y3 : (w4).cell? ⟨g + 1, 1, none⟩ = some (.int .i64 p.f1) := (cB PA4.p); have y4 : (w4).cell? ⟨g + 1, 2, none⟩ = some (.int .i64 p.f2) := (cB PA4.p); have y5 : (w4).cell? ⟨g + 1, 3, none⟩ = some (.int .i64 p.f3) := (cB PA4.p); have y6 : (w4).cell? ⟨g + 1 + 1, 0, none⟩ = some (.int .i64 at_) := (cB PA4.at_); have y7 : (w4).cell? ⟨g + 1 + 1 + 1, 0, none⟩ = some (.int .i64 saw) := (cB PA4.saw); obtain ⟨fn1, tm1, as1, bo1, hy1, hR1⟩ := HY.out [] (partOf false p 0 at_) w4 h04 (by simp); simp only [pv, partOf, Bool.false_eq_true, if_true, if_false, Int.add_zero] at hy1)
   refine hR1.mono ?_
   clear hR1
   rintro e w5 (⟨rfl, hj5, hb5⟩ | ⟨rfl, hx5⟩)
   ·gi_wp2
    refine bodyPost_ret (results_none rfl _ _ _) rfl ?_
    exact ⟨⟨_, rfl⟩, .inl ⟨_, by rw [HP.out]; simp, hj5⟩⟩
   ·gi_wp2
    refine bodyPost_ret (results_none rfl _ _ _) rfl ?_
    exact ⟨⟨_, rfl⟩, .inr ⟨_, by rw [HP.out]; exact List.prefix_append _ _, hx5⟩⟩
 ·have hdt : decide (0 < at_) = false := decide_eq_false hta
  rw [if_neg hta] at HP
  have hts' : (saw == 0) = false := by
   rcases hts with h | ⟨_, h, _⟩
   ·exact h
   ·rw [beq_eq_false_iff_ne] at h; omega
  clear hts
  by_cases htr : 0 < r
  ·have hdu : decide (0 < r) = true := decide_eq_true htr
   rw [if_pos htr] at HP
   gi_wp2_with ((first | gi_at_call 105 | (refine ⟨trivial, ?_⟩; gi_at_call 105)); refine (callsIn_wide.2 (upright_calls _ _ _ _ _ _ _)).mono ?_; rintro e w6 ⟨rfl, hb6⟩; have h06 := HJ.out _ _ _ h03 hb6; obtain ⟨fn2, tm2, as2, bo2, hy2, hR2⟩ := HY.out [] (partOf false p (wrap64 (at_ + saw)) r) w6 h06 (by simp); simp only [pv, partOf, Bool.false_eq_true, if_true, if_false, Int.add_zero] at hy2)
   refine hR2.mono ?_
   clear hR2
   rintro e w7 (⟨rfl, hj7, hb7⟩ | ⟨rfl, hx7⟩)
   all_goals gi_wp2
   ·refine bodyPost_ret (results_none rfl _ _ _) rfl ?_
    exact ⟨⟨_, rfl⟩, .inl ⟨_, HP.out.symm, hj7⟩⟩
   ·refine bodyPost_ret (results_none rfl _ _ _) rfl ?_
    exact ⟨⟨_, rfl⟩, .inr ⟨_, by rw [HP.out]; exact List.prefix_refl _, hx7⟩⟩
  ·have hdu : decide (0 < r) = false := decide_eq_false htr
   rw [if_neg htr] at HP
   gi_wp2
   refine bodyPost_ret (results_none rfl _ _ _) rfl ?_
   exact ⟨⟨_, rfl⟩, .inl ⟨_, HP.out.symm, h03⟩⟩

set_option maxRecDepth 100000 in
set_option maxHeartbeats 4000000 in
theorem parts1_t (n : Nat) (l g : Nat) (p : S103) (at_ saw : Int) (J Jx : List S103 → World → Prop) (W : World) (hn : 1 ≤ n) (PA : PartsAt W g true p at_ saw) (hg : g + 3 < W.heap.size)
  (hJ : ∀ s A B, J s A → Below A.heap.size A B → J s B)
  (hY : ∀ pre x W1, J pre W1 → pre.length < 2 → YieldAt Fence.wide (n - 1) Try.prog l #[pv x] W1 fun e W' =>
   (e = .returned (.bool true) ∧ J (pre ++ [x]) W' ∧ KpG g W1 W') ∨ (e = .returned (.bool false) ∧ Jx (pre ++ [x]) W'))
  (h0 : J [] W) :
  CallsIn Fence.wide n Try.prog 91 #[.func (.yield l) #[] #[], .pointer (some ⟨g, 0, none⟩), .pointer (some ⟨g + 1, 0, none⟩), .pointer (some ⟨g + 1 + 1, 0, none⟩), .pointer (some ⟨g + 1 + 1 + 1, 0, none⟩)] W (SeqEnd (partsOf true p at_ saw) J Jx) := by
 have HY := Lib.hid hY
 have HJ := Lib.hid hJ
 clear hY hJ
 refine callsIn_of_wp Try.func91 rfl trivial ?_ rfl
 simp only [Try.ntmps91, List.size_toArray, List.length_cons, List.length_nil, Nat.reduceAdd, Nat.reduceSub, Array.replicate_succ, Array.replicate_zero, List.push_toArray, List.append_toArray, List.nil_append, List.cons_append]
 gi_wp2
 refine wpIn_wide.2 ?_
 refine s_ 9 (fun w' => w'.cell? ⟨g, 0, none⟩ = some (.func (.func 106) #[] #[]) ∧ w'.cell? ⟨g, 1, none⟩ = some (.func (.func 107) #[] #[]) ∧ w'.cell? ⟨g + 1, 0, none⟩ = some (.int .i64 p.f0) ∧ w'.cell? ⟨g + 1, 1, none⟩ = some (.int .i64 p.f1) ∧ w'.cell? ⟨g + 1, 2, none⟩ = some (.int .i64 p.f2) ∧ w'.cell? ⟨g + 1, 3, none⟩ = some (.int .i64 p.f3) ∧ w'.cell? ⟨g + 1 + 1, 0, none⟩ = some (.int .i64 at_) ∧ w'.cell? ⟨g + 1 + 1 + 1, 0, none⟩ = some (.int .i64 saw)) [] ⟨(cB PA.d), (cB PA.d), (cB PA.p), (cB PA.p), (cB PA.p), (cB PA.p), (cB PA.at_), (cB PA.saw)⟩ (fun hHeld => ?_)
 refine p_ 0 (some 7) ?_
 refine t_ 1 (some 8) hHeld ?_
 refine t_ 2 (some 9) hHeld ?_
 refine t_ 4 (some 11) hHeld ?_
 refine t_ 6 (some 13) hHeld ?_
 refine e_ 3 (some 10) (fun K hK => ?_)
 refine call_ 106 #[.agg #[.int .i64 p.f0, .int .i64 p.f1, .int .i64 p.f2, .int .i64 p.f3]] (by rfl) rfl ?_ ?_
 ·go_simp
 with_reducible refine (long_calls _ _ _ _ _).mono ?_
 rintro e w3 ⟨rfl, hb⟩
 have PAd : PartsAt W.drew g true p at_ saw := ⟨PA.d, PA.p, PA.at_, PA.saw⟩
 have PA3 := PAd.below (n := W.heap.size) (by omega) hb
 clear PAd
 have h03 := HJ.out _ _ _ h0 (below_step (below_drew1 (Below.refl _ _)) hb)
 have hz3 := hb.size
 refine ⟨_, rfl, ?_⟩
 refine hK.out _ _ ⟨(cB PA3.d), (cB PA3.d), (cB PA3.p), (cB PA3.p), (cB PA3.p), (cB PA3.p), (cB PA3.at_), (cB PA3.saw)⟩ (fun hHeld => ?_)
 clear hK K
 refine n_ ?_
 refine p_ 5 (some 12) ?_
 refine p_ 7 (some 14) ?_
 refine p_ 8 (some 6) ?_
 refine done_ (by kernel_rfl) ?_
 generalize hr : wrap64 (wrap64 (p.f3 - at_) - saw) = r
 have hr' : restOf true p at_ saw = r := hr
 have HR := Lib.hid hr'
 clear hr hr' h0 PA
 obtain ⟨z0, z1, z2, z3, z4, z5, z6, z7⟩ := hHeld
 have hwf : ∀ f, Fence.wide.fn f := fun _ => trivial
 by_cases ha : at_ < 0
 ·have hd : decide (at_ < 0) = true := decide_eq_true ha
  gi_wp2
  refine bodyPost_ret (results_none rfl _ _ _) rfl ?_
  exact ⟨⟨_, rfl⟩, .inl ⟨[], by simp [partsOf, ha], h03⟩⟩
 have hd : decide (at_ < 0) = false := decide_eq_false ha
 by_cases hr0 : r < 0
 ·have hdr : decide (r < 0) = true := decide_eq_true hr0
  gi_wp2
  refine bodyPost_ret (results_none rfl _ _ _) rfl ?_
  exact ⟨⟨_, rfl⟩, .inl ⟨[], by rw [← HR.out] at hr0; simp [partsOf, ha, hr0], h03⟩⟩
 have hdr : decide (r < 0) = false := decide_eq_false hr0
 by_cases hs : saw = 0 ∧ (at_ = 0 ∨ r = 0)
 ·obtain ⟨hs0, hs1⟩ := hs
  have hbs : (saw == 0) = true := by simpa using hs0
  have hP : partsOf true p at_ saw = [] := by unfold partsOf; rw [if_neg ha, HR.out, if_neg hr0, if_pos ⟨hs0, hs1⟩]
  have HP := Lib.hid hP
  clear hP
  by_cases ha0 : at_ = 0
  ·have hba : (at_ == 0) = true := by simpa using ha0
   clear hs0 hs1 ha0 HR
   gi_wp2
   refine bodyPost_ret (results_none rfl _ _ _) rfl ?_
   exact ⟨⟨_, rfl⟩, .inl ⟨[], HP.out.symm, h03⟩⟩
  ·have hba : (at_ == 0) = false := by simpa using ha0
   have hbr : (r == 0) = true := by rcases hs1 with h | h; exact absurd h ha0; simpa using h
   clear hs0 hs1 ha0 HR
   gi_wp2
   refine bodyPost_ret (results_none rfl _ _ _) rfl ?_
   exact ⟨⟨_, rfl⟩, .inl ⟨[], HP.out.symm, h03⟩⟩
 have hP : partsOf true p at_ saw = (if 0 < at_ then [partOf true p 0 at_] else []) ++ (if 0 < r then [partOf true p (wrap64 (at_ + saw)) r] else []) := by
  unfold partsOf; rw [if_neg ha, HR.out, if_neg hr0, if_neg hs]
 have HP := Lib.hid hP
 clear hP
 have hts : (saw == 0) = false ∨ ((saw == 0) = true ∧ (at_ == 0) = false ∧ (r == 0) = false) := by
  by_cases h1 : saw = 0
  ·refine .inr ⟨by simpa using h1, ?_, ?_⟩
   ·rw [beq_eq_false_iff_ne]; exact fun h => hs ⟨h1, .inl h⟩
   ·rw [beq_eq_false_iff_ne]; exact fun h => hs ⟨h1, .inr h⟩
  ·exact .inl (by simpa using h1)
 clear hs HR
 by_cases hta : 0 < at_
 ·have hdt : decide (0 < at_) = true := decide_eq_true hta
  rw [if_pos hta] at HP
  by_cases htr : 0 < r
  ·have hdu : decide (0 < r) = true := decide_eq_true htr
   rw [if_pos htr] at HP
   rcases hts with hbs | ⟨hbs, hba, hbr⟩
   all_goals
    gi_wp2_with ((first | gi_at_call 107 | (refine ⟨trivial, ?_⟩; gi_at_call 107)); refine (callsIn_wide.2 (level_calls _ _ _ _ _ _ _)).mono ?_; rintro e w4 ⟨rfl, hb4⟩; have hz4 := hb4.size; have PA4 := PA3.below (n := w3.heap.size) (by simp at hz3; omega) hb4; have h04 := HJ.out _ _ _ h03 hb4; have y0 : (w4).cell? ⟨g, 0, none⟩ = some (.func (.func 106) #[] #[]) := (cB PA4.d); have y1 : (w4).cell? ⟨g, 1, none⟩ = some (.func (.func 107) #[] #[]) := (cB PA4.d); have y2 : (w4).cell? ⟨g + 1, 0, none⟩ = some (.int .i64 p.f0) := (cB PA4.p); have y3 : (w4).cell? ⟨g + 1, 1, none⟩ = some (.int .i64 p.f1) := (cB PA4.p); have y4 : (w4).cell? ⟨g + 1, 2, none⟩ = some (.int .i64 p.f2) := (cB PA4.p); have y5 : (w4).cell? ⟨g + 1, 3, none⟩ = some (.int .i64 p.f3) := (cB PA4.p); have y6 : (w4).cell? ⟨g + 1 + 1, 0, none⟩ = some (.int .i64 at_) := (cB PA4.at_); have y7 : (w4).cell? ⟨g + 1 + 1 + 1, 0, none⟩ = some (.int .i64 saw) := (cB PA4.saw); obtain ⟨fn1, tm1, as1, bo1, hy1, hR1⟩ := HY.out [] (partOf true p 0 at_) w4 h04 (by simp); simp only [pv, partOf, Bool.false_eq_true, if_true, if_false, Int.add_zero] at hy1)
    refine hR1.mono ?_
    clear hR1
    rintro e w5 (⟨rfl, hj5, hb5⟩ | ⟨rfl, hx5⟩)
    ·-- the second part
     have PA5 := PA4.kept hb5
     have x0 : (w5).cell? ⟨g, 0, none⟩ = some (.func (.func 106) #[] #[]) := (cB PA5.d); have x1 : (w5).cell? ⟨g, 1, none⟩ = some (.func (.func 107) #[] #[]) := (cB PA5.d); have x2 : (w5).cell? ⟨g + 1, 0, none⟩ = some (.int .i64 p.f0) := (cB PA5.p); have x3 : (w5).cell? ⟨g + 1, 1, none⟩ = some (.int .i64 p.f1) := (cB PA5.p); have x4 : (w5).cell? ⟨g + 1, 2, none⟩ = some (.int .i64 p.f2) := (cB PA5.p); have x5 : (w5).cell? ⟨g + 1, 3, none⟩ = some (.int .i64 p.f3) := (cB PA5.p); have x6 : (w5).cell? ⟨g + 1 + 1, 0, none⟩ = some (.int .i64 at_) := (cB PA5.at_); have x7 : (w5).cell? ⟨g + 1 + 1 + 1, 0, none⟩ = some (.int .i64 saw) := (cB PA5.saw)
     gi_wp2_with ((first | gi_at_call 107 | (refine ⟨trivial, ?_⟩; gi_at_call 107)); refine (callsIn_wide.2 (level_calls _ _ _ _ _ _ _)).mono ?_; rintro e w6 ⟨rfl, hb6⟩; have h06 := HJ.out _ _ _ hj5 hb6; obtain ⟨fn2, tm2, as2, bo2, hy2, hR2⟩ := HY.out [partOf true p 0 at_] (partOf true p (wrap64 (at_ + saw)) r) w6 h06 (by simp); simp only [pv, partOf, Bool.false_eq_true, if_true, if_false, Int.add_zero] at hy2)
     refine hR2.mono ?_
     clear hR2
     rintro e w7 (⟨rfl, hj7, hb7⟩ | ⟨rfl, hx7⟩)
     all_goals gi_wp2
     ·refine bodyPost_ret (results_none rfl _ _ _) rfl ?_
      exact ⟨⟨_, rfl⟩, .inl ⟨_, HP.out.symm, hj7⟩⟩
     ·refine bodyPost_ret (results_none rfl _ _ _) rfl ?_
      exact ⟨⟨_, rfl⟩, .inr ⟨_, by rw [HP.out]; exact List.prefix_refl _, hx7⟩⟩
    ·gi_wp2
     refine bodyPost_ret (results_none rfl _ _ _) rfl ?_
     exact ⟨⟨_, rfl⟩, .inr ⟨_, by rw [HP.out]; exact List.prefix_append _ _, hx5⟩⟩
  ·have hdu : decide (0 < r) = false := decide_eq_false htr
   rw [if_neg htr] at HP
   have hts' : (saw == 0) = false := by
    rcases hts with h | ⟨_, _, h⟩
    ·exact h
    ·rw [beq_eq_false_iff_ne] at h; omega
   clear hts
   gi_wp2_with ((first | gi_at_call 107 | (refine ⟨trivial, ?_⟩; gi_at_call 107)); refine (callsIn_wide.2 (level_calls _ _ _ _ _ _ _)).mono ?_; rintro e w4 ⟨rfl, hb4⟩; have hz4 := hb4.size; have PA4 := PA3.below (n := w3.heap.size) (by simp at hz3; omega) hb4; have h04 := HJ.out _ _ _ h03 hb4; have y0 : (w4).cell? ⟨g, 0, none⟩ = some (.func (.func 106) #[] #[]) := (cB PA4.d); have y1 : (w4).cell? ⟨g, 1, none⟩ = some (.func (.func 107) #[] #[]) := (cB PA4.d); have y2 : (w4).cell? ⟨g + 1, 0, none⟩ = some (.int .i64 p.f0) := (cB PA4.p); have y3 : (w4).cell? ⟨g + 1, 1, none⟩ = some (.int .i64 p.f1) := (cB PA4.p); have y4 : (w4).cell? ⟨g + 1, 2, none⟩ = some (.int .i64 p.f2) := (cB PA4.p); have y5 : (w4).cell? ⟨g + 1, 3, none⟩ = some (.int .i64 p.f3) := (cB PA4.p); have y6 : (w4).cell? ⟨g + 1 + 1, 0, none⟩ = some (.int .i64 at_) := (cB PA4.at_); have y7 : (w4).cell? ⟨g + 1 + 1 + 1, 0, none⟩ = some (.int .i64 saw) := (cB PA4.saw); obtain ⟨fn1, tm1, as1, bo1, hy1, hR1⟩ := HY.out [] (partOf true p 0 at_) w4 h04 (by simp); simp only [pv, partOf, Bool.false_eq_true, if_true, if_false, Int.add_zero] at hy1)
   refine hR1.mono ?_
   clear hR1
   rintro e w5 (⟨rfl, hj5, hb5⟩ | ⟨rfl, hx5⟩)
   ·gi_wp2
    refine bodyPost_ret (results_none rfl _ _ _) rfl ?_
    exact ⟨⟨_, rfl⟩, .inl ⟨_, by rw [HP.out]; simp, hj5⟩⟩
   ·gi_wp2
    refine bodyPost_ret (results_none rfl _ _ _) rfl ?_
    exact ⟨⟨_, rfl⟩, .inr ⟨_, by rw [HP.out]; exact List.prefix_append _ _, hx5⟩⟩
 ·have hdt : decide (0 < at_) = false := decide_eq_false hta
  rw [if_neg hta] at HP
  have hts' : (saw == 0) = false := by
   rcases hts with h | ⟨_, h, _⟩
   ·exact h
   ·rw [beq_eq_false_iff_ne] at h; omega
  clear hts
  by_cases htr : 0 < r
  ·have hdu : decide (0 < r) = true := decide_eq_true htr
   rw [if_pos htr] at HP
   gi_wp2_with ((first | gi_at_call 107 | (refine ⟨trivial, ?_⟩; gi_at_call 107)); refine (callsIn_wide.2 (level_calls _ _ _ _ _ _ _)).mono ?_; rintro e w6 ⟨rfl, hb6⟩; have h06 := HJ.out _ _ _ h03 hb6; obtain ⟨fn2, tm2, as2, bo2, hy2, hR2⟩ := HY.out [] (partOf true p (wrap64 (at_ + saw)) r) w6 h06 (by simp); simp only [pv, partOf, Bool.false_eq_true, if_true, if_false, Int.add_zero] at hy2)
   refine hR2.mono ?_
   clear hR2
   rintro e w7 (⟨rfl, hj7, hb7⟩ | ⟨rfl, hx7⟩)
   all_goals gi_wp2
   ·refine bodyPost_ret (results_none rfl _ _ _) rfl ?_
    exact ⟨⟨_, rfl⟩, .inl ⟨_, HP.out.symm, hj7⟩⟩
   ·refine bodyPost_ret (results_none rfl _ _ _) rfl ?_
    exact ⟨⟨_, rfl⟩, .inr ⟨_, by rw [HP.out]; exact List.prefix_refl _, hx7⟩⟩
  ·have hdu : decide (0 < r) = false := decide_eq_false htr
   rw [if_neg htr] at HP
   gi_wp2
   refine bodyPost_ret (results_none rfl _ _ _) rfl ?_
   exact ⟨⟨_, rfl⟩, .inl ⟨_, HP.out.symm, h03⟩⟩

set_option maxRecDepth 100000 in
/-- The iterator's contract: all parts, in their order; or some of them, where a round has said no more. -/
theorem parts_stops (n : Nat) (hn : 1 ≤ n) (across : Bool) (g : Nat) (p : S103) (at_ saw : Int) (w : World) (PA : PartsAt w g across p at_ saw) (hg : g + 3 < w.heap.size) :
  SeqStopsK Fence.wide n Try.prog 91 #[.pointer (some ⟨g, 0, none⟩), .pointer (some ⟨g + 1, 0, none⟩), .pointer (some ⟨g + 1 + 1, 0, none⟩), .pointer (some ⟨g + 1 + 1 + 1, 0, none⟩)] (fun p => #[pv p]) (KpG g) (fun ys => ys = partsOf across p at_ saw) (fun pre => pre <+: partsOf across p at_ saw) 2 w := fun l J Jx W hW hJ _ hY h0 => by
 have hz := hW.size
 have hJ' : ∀ s A B, J s A → Below A.heap.size A B → W.heap.size ≤ W.heap.size → J s B := fun s A B hs hb _ => hJ s A B none hs (grown_of_below hb none) (fun r e => by cases e)
 cases across with
 | false => exact (parts1_f n l g p at_ saw J Jx W hn (PA.below hg hW) (by omega) (fun s A B hs hb => hJ' s A B hs hb (Nat.le_refl _)) hY h0)
 | true => exact (parts1_t n l g p at_ saw J Jx W hn (PA.below hg hW) (by omega) (fun s A B hs hb => hJ' s A B hs hb (Nat.le_refl _)) hY h0)
end Go.Proofs.Ytffjbaknglemdaa.X
