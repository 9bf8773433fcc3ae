import Derived.Test.YtffjbaknglemdaaHF
import Derived.Test.YtffjbaknglemdaaXF85
import Derived.Laws.EntriesVeiled
namespace Go.Proofs.Ytffjbaknglemdaa.X
open Go.RowKit Go.Maps Go.Proofs.YtffjbaknglemdaaW.PrintWords Go.Proofs.YtffjbaknglemdaaW.PrintLast Go.Proofs.YtffjbaknglemdaaW.PrintMore
set_option linter.unusedSimpArgs false
set_option linter.unusedVariables false

/-! ### wants -/
structure W4 where
 b0 : Bool
 b1 : Bool
 b2 : Bool
 b3 : Bool
deriving DecidableEq
namespace W4
def get (w : W4) : Nat → Bool
 | 0 => w.b0
 | 1 => w.b1
 | 2 => w.b2
 | _ => w.b3
def set (w : W4) : Nat → W4
 | 0 => { w with b0 := true }
 | 1 => { w with b1 := true }
 | 2 => { w with b2 := true }
 | _ => { w with b3 := true }
def none4 : W4 := ⟨false, false, false, false⟩
def less (w o : W4) : W4 := ⟨w.b0 && !o.b0, w.b1 && !o.b1, w.b2 && !o.b2, w.b3 && !o.b3⟩
def val (w : W4) : Value := .agg #[.bool w.b0, .bool w.b1, .bool w.b2, .bool w.b3]
/-- All parts of w that go on from part, from element i on. -/
def from_ (w : W4) : Nat → Nat → W4 → List W4
 | 0, _, part => [part]
 | n + 1, i, part => from_ w n (i + 1) part ++ (if w.get i = true then from_ w n (i + 1) (part.set i) else [])
def parts (w : W4) : List W4 := w.from_ 4 0 none4
end W4

set_option maxRecDepth 100000 in
set_option maxHeartbeats 4000000 in
theorem less_calls (a o : W4) (w : World) : Calls Try.prog 69 #[a.val, o.val] w fun e w' => e = .returned (a.less o).val ∧ Below w.heap.size w w' := by
 unfold W4.val W4.less
 obtain ⟨a0, a1, a2, a3⟩ := a
 obtain ⟨o0, o1, o2, o3⟩ := o
 dsimp only
 go_enter Try.func69, Try.ntmps69
 go_wp2
 go_loopw [8] (fun v wr => ((v = .int .i64 0 ∧ Hid (wr.heap[w.heap.size]? = some (.cells #[.bool a0, .bool a1, .bool a2, .bool a3] 141 (0, 0)))) ∨ (v = .int .i64 1 ∧ Hid (wr.heap[w.heap.size]? = some (.cells #[.bool (a0 && !o0), .bool a1, .bool a2, .bool a3] 141 (0, 0)))) ∨ (v = .int .i64 2 ∧ Hid (wr.heap[w.heap.size]? = some (.cells #[.bool (a0 && !o0), .bool (a1 && !o1), .bool a2, .bool a3] 141 (0, 0)))) ∨ (v = .int .i64 3 ∧ Hid (wr.heap[w.heap.size]? = some (.cells #[.bool (a0 && !o0), .bool (a1 && !o1), .bool (a2 && !o2), .bool a3] 141 (0, 0)))) ∨ (v = .int .i64 4 ∧ Hid (wr.heap[w.heap.size]? = some (.cells #[.bool (a0 && !o0), .bool (a1 && !o1), .bool (a2 && !o2), .bool (a3 && !o3)] 141 (0, 0))))) ∧ Hid (wr.heap[w.heap.size + 1 + 1]? = some (.cells #[.bool false, .bool false, .bool false, .bool false] 141 (0, 0))) ∧ Below w.heap.size w wr) (fun v _ => 4 - (intOf v).toNat)
 case atStart => exact ⟨.inl ⟨rfl, Lib.hid (blk_below (blk_below (alloc_at rfl) (below_alloc (Below.refl _ _) _)) (below_alloc (Below.refl _ _) _))⟩, Lib.hid (alloc_at (by simp)), below_alloc (below_alloc (below_alloc (Below.refl _ _) _) _) _⟩
 case round =>
  obtain ⟨hc, HZ, hB⟩ := hrel
  rcases hc with ⟨rfl, hb⟩ | ⟨rfl, hb⟩ | ⟨rfl, hb⟩ | ⟨rfl, hb⟩ | ⟨rfl, hb⟩
  ·have HC := Lib.hid hb
   clear hb
   cases a0 with
   | false =>
    have hc : wr.cell? ⟨w.heap.size, 0, none⟩ = some (.bool false) := (blk_cell HC.out 0).trans rfl
    have hf : wr.frozen? ⟨w.heap.size, 0, none⟩ = false := blk_frozen HC.out 0
    have hput : ∀ u cs, (#[.bool false, .bool a1, .bool a2, .bool a3] : Array Value).setIfInBounds 0 u = cs → (wr.setCell ⟨w.heap.size, 0, none⟩ u).heap[w.heap.size]? = some (.cells cs 141 (0, 0)) := fun u cs e => blk_put HC.out 0 u e
    have HPUT := Lib.hid hput
    clear hput
    have hix : ∀ w : World, (Instr.index 141 (.agg #[.bool o0, .bool o1, .bool o2, .bool o3]) (.int .i64 0)).run Try.prog w = .ok (.bool o0) w := fun _ => by kernel_rfl
    go_wp2
    go_roundw
    case rel => exact ⟨.inr (.inl ⟨by go_num, Lib.hid (HPUT.out _ _ rfl)⟩), Lib.hid (blk_far HZ.out (by simp; omega) _), below_set hB (Nat.le_refl _)⟩
    case measure => simp [intOf]
   | true =>
    have hc : wr.cell? ⟨w.heap.size, 0, none⟩ = some (.bool true) := (blk_cell HC.out 0).trans rfl
    have hf : wr.frozen? ⟨w.heap.size, 0, none⟩ = false := blk_frozen HC.out 0
    have hput : ∀ u cs, (#[.bool true, .bool a1, .bool a2, .bool a3] : Array Value).setIfInBounds 0 u = cs → (wr.setCell ⟨w.heap.size, 0, none⟩ u).heap[w.heap.size]? = some (.cells cs 141 (0, 0)) := fun u cs e => blk_put HC.out 0 u e
    have HPUT := Lib.hid hput
    clear hput
    have hix : ∀ w : World, (Instr.index 141 (.agg #[.bool o0, .bool o1, .bool o2, .bool o3]) (.int .i64 0)).run Try.prog w = .ok (.bool o0) w := fun _ => by kernel_rfl
    go_wp2
    go_roundw
    case rel => exact ⟨.inr (.inl ⟨by go_num, Lib.hid (HPUT.out _ _ rfl)⟩), Lib.hid (blk_far HZ.out (by simp; omega) _), below_set hB (Nat.le_refl _)⟩
    case measure => simp [intOf]
  ·have HC := Lib.hid hb
   clear hb
   cases a1 with
   | false =>
    have hc : wr.cell? ⟨w.heap.size, 1, none⟩ = some (.bool false) := (blk_cell HC.out 1).trans rfl
    have hf : wr.frozen? ⟨w.heap.size, 1, none⟩ = false := blk_frozen HC.out 1
    have hput : ∀ u cs, (#[.bool (a0 && !o0), .bool false, .bool a2, .bool a3] : Array Value).setIfInBounds 1 u = cs → (wr.setCell ⟨w.heap.size, 1, none⟩ u).heap[w.heap.size]? = some (.cells cs 141 (0, 0)) := fun u cs e => blk_put HC.out 1 u e
    have HPUT := Lib.hid hput
    clear hput
    have hix : ∀ w : World, (Instr.index 141 (.agg #[.bool o0, .bool o1, .bool o2, .bool o3]) (.int .i64 1)).run Try.prog w = .ok (.bool o1) w := fun _ => by kernel_rfl
    go_wp2
    go_roundw
    case rel => exact ⟨.inr (.inr (.inl ⟨by go_num, Lib.hid (HPUT.out _ _ rfl)⟩)), Lib.hid (blk_far HZ.out (by simp; omega) _), below_set hB (Nat.le_refl _)⟩
    case measure => simp [intOf]
   | true =>
    have hc : wr.cell? ⟨w.heap.size, 1, none⟩ = some (.bool true) := (blk_cell HC.out 1).trans rfl
    have hf : wr.frozen? ⟨w.heap.size, 1, none⟩ = false := blk_frozen HC.out 1
    have hput : ∀ u cs, (#[.bool (a0 && !o0), .bool true, .bool a2, .bool a3] : Array Value).setIfInBounds 1 u = cs → (wr.setCell ⟨w.heap.size, 1, none⟩ u).heap[w.heap.size]? = some (.cells cs 141 (0, 0)) := fun u cs e => blk_put HC.out 1 u e
    have HPUT := Lib.hid hput
    clear hput
    have hix : ∀ w : World, (Instr.index 141 (.agg #[.bool o0, .bool o1, .bool o2, .bool o3]) (.int .i64 1)).run Try.prog w = .ok (.bool o1) w := fun _ => by kernel_rfl
    go_wp2
    go_roundw
    case rel => exact ⟨.inr (.inr (.inl ⟨by go_num, Lib.hid (HPUT.out _ _ rfl)⟩)), Lib.hid (blk_far HZ.out (by simp; omega) _), below_set hB (Nat.le_refl _)⟩
    case measure => simp [intOf]
  ·have HC := Lib.hid hb
   clear hb
   cases a2 with
   | false =>
    have hc : wr.cell? ⟨w.heap.size, 2, none⟩ = some (.bool false) := (blk_cell HC.out 2).trans rfl
    have hf : wr.frozen? ⟨w.heap.size, 2, none⟩ = false := blk_frozen HC.out 2
    have hput : ∀ u cs, (#[.bool (a0 && !o0), .bool (a1 && !o1), .bool false, .bool a3] : Array Value).setIfInBounds 2 u = cs → (wr.setCell ⟨w.heap.size, 2, none⟩ u).heap[w.heap.size]? = some (.cells cs 141 (0, 0)) := fun u cs e => blk_put HC.out 2 u e
    have HPUT := Lib.hid hput
    clear hput
    have hix : ∀ w : World, (Instr.index 141 (.agg #[.bool o0, .bool o1, .bool o2, .bool o3]) (.int .i64 2)).run Try.prog w = .ok (.bool o2) w := fun _ => by kernel_rfl
    go_wp2
    go_roundw
    case rel => exact ⟨.inr (.inr (.inr (.inl ⟨by go_num, Lib.hid (HPUT.out _ _ rfl)⟩))), Lib.hid (blk_far HZ.out (by simp; omega) _), below_set hB (Nat.le_refl _)⟩
    case measure => simp [intOf]
   | true =>
    have hc : wr.cell? ⟨w.heap.size, 2, none⟩ = some (.bool true) := (blk_cell HC.out 2).trans rfl
    have hf : wr.frozen? ⟨w.heap.size, 2, none⟩ = false := blk_frozen HC.out 2
    have hput : ∀ u cs, (#[.bool (a0 && !o0), .bool (a1 && !o1), .bool true, .bool a3] : Array Value).setIfInBounds 2 u = cs → (wr.setCell ⟨w.heap.size, 2, none⟩ u).heap[w.heap.size]? = some (.cells cs 141 (0, 0)) := fun u cs e => blk_put HC.out 2 u e
    have HPUT := Lib.hid hput
    clear hput
    have hix : ∀ w : World, (Instr.index 141 (.agg #[.bool o0, .bool o1, .bool o2, .bool o3]) (.int .i64 2)).run Try.prog w = .ok (.bool o2) w := fun _ => by kernel_rfl
    go_wp2
    go_roundw
    case rel => exact ⟨.inr (.inr (.inr (.inl ⟨by go_num, Lib.hid (HPUT.out _ _ rfl)⟩))), Lib.hid (blk_far HZ.out (by simp; omega) _), below_set hB (Nat.le_refl _)⟩
    case measure => simp [intOf]
  ·have HC := Lib.hid hb
   clear hb
   cases a3 with
   | false =>
    have hc : wr.cell? ⟨w.heap.size, 3, none⟩ = some (.bool false) := (blk_cell HC.out 3).trans rfl
    have hf : wr.frozen? ⟨w.heap.size, 3, none⟩ = false := blk_frozen HC.out 3
    have hput : ∀ u cs, (#[.bool (a0 && !o0), .bool (a1 && !o1), .bool (a2 && !o2), .bool false] : Array Value).setIfInBounds 3 u = cs → (wr.setCell ⟨w.heap.size, 3, none⟩ u).heap[w.heap.size]? = some (.cells cs 141 (0, 0)) := fun u cs e => blk_put HC.out 3 u e
    have HPUT := Lib.hid hput
    clear hput
    have hix : ∀ w : World, (Instr.index 141 (.agg #[.bool o0, .bool o1, .bool o2, .bool o3]) (.int .i64 3)).run Try.prog w = .ok (.bool o3) w := fun _ => by kernel_rfl
    go_wp2
    go_roundw
    case rel => exact ⟨.inr (.inr (.inr (.inr (⟨by go_num, Lib.hid (HPUT.out _ _ rfl)⟩)))), Lib.hid (blk_far HZ.out (by simp; omega) _), below_set hB (Nat.le_refl _)⟩
    case measure => simp [intOf]
   | true =>
    have hc : wr.cell? ⟨w.heap.size, 3, none⟩ = some (.bool true) := (blk_cell HC.out 3).trans rfl
    have hf : wr.frozen? ⟨w.heap.size, 3, none⟩ = false := blk_frozen HC.out 3
    have hput : ∀ u cs, (#[.bool (a0 && !o0), .bool (a1 && !o1), .bool (a2 && !o2), .bool true] : Array Value).setIfInBounds 3 u = cs → (wr.setCell ⟨w.heap.size, 3, none⟩ u).heap[w.heap.size]? = some (.cells cs 141 (0, 0)) := fun u cs e => blk_put HC.out 3 u e
    have HPUT := Lib.hid hput
    clear hput
    have hix : ∀ w : World, (Instr.index 141 (.agg #[.bool o0, .bool o1, .bool o2, .bool o3]) (.int .i64 3)).run Try.prog w = .ok (.bool o3) w := fun _ => by kernel_rfl
    go_wp2
    go_roundw
    case rel => exact ⟨.inr (.inr (.inr (.inr (⟨by go_num, Lib.hid (HPUT.out _ _ rfl)⟩)))), Lib.hid (blk_far HZ.out (by simp; omega) _), below_set hB (Nat.le_refl _)⟩
    case measure => simp [intOf]
  ·have HC := hb.out
   have hc_ := cf4 HC
   have hz_ := cf4 HZ.out
   go_wp2
   (try simp only [Exit.inBlock, Exit.then])
   refine bodyPost_ret (results_single rfl (.cell (w.heap.size + 1 + 1) 141 #[.bool (a0 && !o0), .bool (a1 && !o1), .bool (a2 && !o2), .bool (a3 && !o3)] (0, 0) _ rfl (blk_put (blk_put (blk_put (blk_put HZ.out 0 _ (cs' := #[.bool (a0 && !o0), .bool false, .bool false, .bool false]) rfl) 1 _ (cs' := #[.bool (a0 && !o0), .bool (a1 && !o1), .bool false, .bool false]) rfl) 2 _ (cs' := #[.bool (a0 && !o0), .bool (a1 && !o1), .bool (a2 && !o2), .bool false]) rfl) 3 _ (cs' := #[.bool (a0 && !o0), .bool (a1 && !o1), .bool (a2 && !o2), .bool (a3 && !o3)]) rfl) Try.underlying141 rfl (by kernel_rfl) .nil)) rfl ?_
   have hlo : w.heap.size ≤ w.heap.size + 1 + 1 := by omega
   exact ⟨rfl, below_set (below_set (below_set (below_set hB hlo) hlo) hlo) hlo⟩

/-! ### the cutter -/
set_option maxRecDepth 100000 in
set_option maxHeartbeats 4000000 in
theorem may_calls (cb : Nat) (a0 a1 a2 : Int) (A : Option Addr) (c : Nat) (l : List S115) (mv : Value) (i : Nat) (p : S103) (w : World) (hc : w.heap[cb]? = some (.cells #[.int .i64 a0, .int .i64 a1, .int .i64 a2, .slice A l.length c, mv] 139 (0, 0))) (hl : Kd.C k115 w A l.length l) (hi : i < l.length) :
  Calls Try.prog 84 #[.pointer (some ⟨cb, 0, none⟩), .int .i64 i, .agg #[.int .i64 p.f0, .int .i64 p.f1, .int .i64 p.f2, .int .i64 p.f3]] w fun e w' => e = .returned (.bool (fitsB (rd_T115 l (i : Int)) p)) ∧ Below w.heap.size w w' := by
 have hi0 : (0 : Int) ≤ (i : Int) := by omega
 have hi1 : (i : Int) < (l.length : Int) := by omega
 obtain ⟨ad, rfl, hz0, hz1, hz2, hz3, hz4, hz5, hz6, hz7⟩ := at_T115 hl (i : Int) hi0 hi1
 simp only [Int.toNat_natCast] at hz0 hz1 hz2 hz3 hz4 hz5 hz6 hz7
 have hff := fits_f (rd_T115 l (i : Int)) p
 generalize fitsB (rd_T115 l (i : Int)) p = r at *
 generalize rd_T115 l (i : Int) = x at *
 have HFF := Lib.hid hff
 have hb1 := below_alloc (Below.refl w.heap.size w) (.cells #[.int .i64 p.f0, .int .i64 p.f1, .int .i64 p.f2, .int .i64 p.f3] 103)
 have hP1 : (w.alloc (.cells #[.int .i64 p.f0, .int .i64 p.f1, .int .i64 p.f2, .int .i64 p.f3] 103)).heap[w.heap.size]? = some (.cells #[.int .i64 p.f0, .int .i64 p.f1, .int .i64 p.f2, .int .i64 p.f3] 103 (0, 0)) := alloc_at rfl
 have hc1 := blk_below hc hb1
 clear hff hl hc
 go_enter Try.func84, Try.ntmps84
 go_wp2
 replace hz0 := pw_cell_below hb1 hz0
 replace hz1 := pw_cell_below hb1 hz1
 replace hz2 := pw_cell_below hb1 hz2
 replace hz3 := pw_cell_below hb1 hz3
 replace hz4 := pw_cell_below hb1 hz4
 replace hz5 := pw_cell_below hb1 hz5
 replace hz6 := pw_cell_below hb1 hz6
 replace hz7 := pw_cell_below hb1 hz7
 generalize w.alloc (.cells #[.int .i64 p.f0, .int .i64 p.f1, .int .i64 p.f2, .int .i64 p.f3] 103) = W1 at *
 refine s_ 11 (fun w' => w'.cell? ⟨cb, 3, none⟩ = some (.slice (some ad) l.length c) ∧ w'.cell? (ad.add (i * 8)) = some (.int .i64 x.f0) ∧ w'.cell? ⟨(ad.add (i * 8)).block, (ad.add (i * 8)).off + 1, none⟩ = some (.int .i64 x.f1) ∧ w'.cell? ⟨(ad.add (i * 8)).block, (ad.add (i * 8)).off + 2, none⟩ = some (.bool x.f2) ∧ w'.cell? ⟨(ad.add (i * 8)).block, (ad.add (i * 8)).off + 3, none⟩ = some (.int .i64 x.f3) ∧ w'.cell? ⟨(ad.add (i * 8)).block, (ad.add (i * 8)).off + 4, none⟩ = some (.int .i64 x.f4.f0) ∧ w'.cell? ⟨(ad.add (i * 8)).block, (ad.add (i * 8)).off + 5, none⟩ = some (.int .i64 x.f4.f1) ∧ w'.cell? ⟨(ad.add (i * 8)).block, (ad.add (i * 8)).off + 6, none⟩ = some (.int .i64 x.f5.f0) ∧ w'.cell? ⟨(ad.add (i * 8)).block, (ad.add (i * 8)).off + 7, none⟩ = some (.int .i64 x.f5.f1) ∧ w'.cell? ⟨w.heap.size, 0, none⟩ = some (.int .i64 p.f0) ∧ w'.cell? ⟨w.heap.size, 1, none⟩ = some (.int .i64 p.f1) ∧ w'.cell? ⟨w.heap.size, 2, none⟩ = some (.int .i64 p.f2) ∧ w'.cell? ⟨w.heap.size, 3, none⟩ = some (.int .i64 p.f3)) [] ⟨(cB hc1), hz0, hz1, hz2, hz3, hz4, hz5, hz6, hz7, (cB hP1), (cB hP1), (cB hP1), (cB hP1)⟩ (fun hHeld => ?_)
 refine p_ 0 (some 7) ?_
 refine p_ 1 (some 8) ?_
 refine p_ 2 (some 9) ?_
 refine p_ 3 (some 10) ?_
 refine p_ 5 (some 12) ?_
 refine t_ 4 (some 11) hHeld ?_
 refine p_ 6 (some 13) ?_
 refine t_ 7 (some 14) hHeld ?_
 refine t_ 8 (some 15) hHeld ?_
 refine e_ 9 (some 16) (fun K hK => ?_)
 refine goes_ Try.func81 (by kernel_rfl) rfl #[.agg #[.int .i64 x.f0, .int .i64 x.f1, .bool x.f2, .int .i64 x.f3, .int .i64 x.f4.f0, .int .i64 x.f4.f1, .int .i64 x.f5.f0, .int .i64 x.f5.f1], .agg #[.int .i64 p.f0, .int .i64 p.f1, .int .i64 p.f2, .int .i64 p.f3]] (by rfl) rfl rfl (by simp only [List.map_toArray, List.map_cons, List.map_nil]; rfl) ?_
 with_reducible refine (plate_Wanted_fits.calls _ _ _ _ _ _ _ _ _ _ _ _ _ _ HFF.out).mono ?_
 rintro e W6 ⟨rfl, hb6⟩
 refine ⟨_, rfl, ?_⟩
 refine hK.out _ _ (mv13 hb6 hHeld) (fun hHeld => ?_)
 clear hK K
 refine n_ ?_
 refine p_ 10 (some 6) ?_
 refine done_ (by kernel_rfl) ?_
 go_wp2
 go_ret
 exact ⟨rfl, below_step (below_drew1 hb1) hb6⟩

/-! ### what changes but some blocks -/
structure Fr (S : Nat → Prop) (w w' : World) : Prop where
 os : w'.os = w.os
 tape : w'.tape = w.tape
 output : w'.output = w.output
 size : w.heap.size ≤ w'.heap.size
 block : ∀ k, k < w.heap.size → ¬ S k → w'.heap[k]? = w.heap[k]?
theorem Fr.of_below {S : Nat → Prop} {w w' : World} (h : Below w.heap.size w w') : Fr S w w' := ⟨h.os, h.tape, h.output, h.size, fun k hk _ => h.block k hk⟩
theorem Fr.refl (S : Nat → Prop) (w : World) : Fr S w w := ⟨rfl, rfl, rfl, Nat.le_refl _, fun _ _ _ => rfl⟩
theorem Fr.trans {S : Nat → Prop} {a b c : World} (h : Fr S a b) (k : Fr S b c) : Fr S a c :=
 ⟨k.os.trans h.os, k.tape.trans h.tape, k.output.trans h.output, Nat.le_trans h.size k.size, fun i hi hn => (k.block i (Nat.lt_of_lt_of_le hi h.size) hn).trans (h.block i hi hn)⟩
/-- The second step may turn blocks that the first has made. -/
theorem Fr.trans' {S S' : Nat → Prop} {a b c : World} (h : Fr S a b) (k : Fr S' b c) (hs : ∀ i, i < a.heap.size → S' i → S i) : Fr S a c :=
 ⟨k.os.trans h.os, k.tape.trans h.tape, k.output.trans h.output, Nat.le_trans h.size k.size, fun i hi hn => (k.block i (Nat.lt_of_lt_of_le hi h.size) (fun e => hn (hs i hi e))).trans (h.block i hi hn)⟩
theorem Fr.below {S : Nat → Prop} {base : Nat} {w w' : World} (h : Fr S w w') (hb : base ≤ w.heap.size) (hs : ∀ k, S k → base ≤ k) : Below base w w' :=
 ⟨h.os, h.tape, h.output, h.size, fun k hk => h.block k (Nat.lt_of_lt_of_le hk hb) (fun e => by have := hs k e; omega)⟩
theorem blk_fr {S : Nat → Prop} {w w' : World} {g : Nat} {o : Obj} (hb : w.heap[g]? = some o) (h : Fr S w w') (hs : ¬ S g) : w'.heap[g]? = some o := (h.block g (blk_lt hb) hs).trans hb
theorem Fr.grown {S : Nat → Prop} {w w' : World} {row : Option Nat} (h : w.grownBy w' row) (hr : ∀ k, row = some k → S k) : Fr S w w' := ⟨h.os, h.tape, h.output, h.size, fun k hk hn => h.block k hk (fun e => hn (hr k e.symm))⟩
theorem Fr.set {S : Nat → Prop} {w w' : World} {b i : Nat} {v : Value} (h : Fr S w w') (hb : S b ∨ w.heap.size ≤ b) : Fr S w (w'.setCell ⟨b, i, none⟩ v) :=
 h.trans' (S' := fun k => k = b) ⟨rfl, rfl, rfl, (KeepsWalks.setCell w' _ v).size, fun k _ hk => Below.heap_setCell _ _ _ k hk⟩ (fun i hi e => by subst e; rcases hb with hb | hb; exact hb; omega)

/-! ### some: all parts of wants, each once -/
def retNone (e : Ending) : Prop := e = .returned (.tuple #[])
def fromFn (bs bf bw : Nat) : Value := .func (.func 103) #[] #[.pointer (some ⟨bs, 0, none⟩), .pointer (some ⟨bf, 0, none⟩), .pointer (some ⟨bw, 0, none⟩)]
theorem get_cell {w : World} {b : Nat} {x : W4} {t : TypeId} (h : w.heap[b]? = some (.cells #[.bool x.b0, .bool x.b1, .bool x.b2, .bool x.b3] t (0, 0))) (i : Nat) (hi : i < 4) : w.cell? ⟨b, i, none⟩ = some (.bool (x.get i)) := by
 have := blk_cell h i
 have h4 : i = 0 ∨ i = 1 ∨ i = 2 ∨ i = 3 := by omega
 rcases h4 with rfl | rfl | rfl | rfl <;> exact this
theorem set_cells {w : World} {b : Nat} {x : W4} {t : TypeId} (h : w.heap[b]? = some (.cells #[.bool x.b0, .bool x.b1, .bool x.b2, .bool x.b3] t (0, 0))) (i : Nat) (hi : i < 4) :
  (w.setCell ⟨b, i, none⟩ (.bool true)).heap[b]? = some (.cells #[.bool (x.set i).b0, .bool (x.set i).b1, .bool (x.set i).b2, .bool (x.set i).b3] t (0, 0)) := by
 have h4 : i = 0 ∨ i = 1 ∨ i = 2 ∨ i = 3 := by omega
 rcases h4 with rfl | rfl | rfl | rfl <;> exact blk_put h _ _ rfl

section
variable (base f : Nat) (cs : Array Value) (S : Nat → Prop) (Inv : List W4 → World → Prop) (wv : W4) (bs bf bw : Nat)
set_option maxRecDepth 100000 in
set_option maxHeartbeats 4000000 in
theorem from_calls (hent : ∀ args W, (callFunc f args).run Try.prog W = .ok (.enter f args) W) (hstab : ∀ done W W', Inv done W → Below base W W' → Inv done W')
  (hs1 : base ≤ bs) (hs2 : base ≤ bf) (hs3 : base ≤ bw) (hS : ∀ k, S k → k < base)
  (hcall : ∀ part done W, base ≤ W.heap.size → Inv done W → Calls Try.prog f (#[W4.val part] ++ cs) W fun e W' => retNone e ∧ Inv (done ++ [part]) W' ∧ Fr S W W') :
  ∀ (n i : Nat) (part : W4) (done : List W4) (W : World), n + i = 4 → base ≤ W.heap.size → W.heap[bs]? = some (.cells #[.func (.func f) #[] cs] 183 (0, 0)) → W.heap[bf]? = some (.cells #[fromFn bs bf bw] 191 (0, 0)) →
   W.heap[bw]? = some (.cells #[.bool wv.b0, .bool wv.b1, .bool wv.b2, .bool wv.b3] 141 (0, 0)) → Inv done W →
   Calls Try.prog 103 #[W4.val part, .int .i64 i, .pointer (some ⟨bs, 0, none⟩), .pointer (some ⟨bf, 0, none⟩), .pointer (some ⟨bw, 0, none⟩)] W fun e W' => retNone e ∧ Inv (done ++ wv.from_ n i part) W' ∧ Fr S W W' := by
 have HE := Lib.hid hent
 have HST := Lib.hid hstab
 have HC := Lib.hid hcall
 clear hent hstab hcall
 intro n
 induction n with
 | zero =>
  intro i part done W hi hS' h1 h2 h3 hI
  obtain rfl : i = 4 := by omega
  unfold W4.val
  have hb1 := below_alloc (Below.refl W.heap.size W) (.cells #[.bool part.b0, .bool part.b1, .bool part.b2, .bool part.b3] 141)
  have hP1 : (W.alloc (.cells #[.bool part.b0, .bool part.b1, .bool part.b2, .bool part.b3] 141)).heap[W.heap.size]? = some (.cells #[.bool part.b0, .bool part.b1, .bool part.b2, .bool part.b3] 141 (0, 0)) := alloc_at rfl
  have k1 : (W.alloc (.cells #[.bool part.b0, .bool part.b1, .bool part.b2, .bool part.b3] 141)).cell? ⟨bs, 0, none⟩ = some (.func (.func f) #[] cs) := (blk_cell (blk_below h1 hb1) 0).trans rfl
  have HI := Lib.hid (HST.out _ _ _ hI (hb1.mono hS'))
  clear h1 h2 h3 hI hP1
  go_enter Try.func103, Try.ntmps103
  go_wp2_with fail
  rw [HE.out, Oper.upon_enter]
  refine (HC.out part done _ (Nat.le_trans hS' hb1.size) HI.out).mono ?_
  rintro e w1 ⟨he, hI, hfr⟩
  unfold retNone at he
  subst he
  have HI1 := Lib.hid hI
  clear hI
  go_wp2
  (try simp only [Exit.inBlock, Exit.then])
  refine bodyPost_ret (results_none rfl _ _ _) rfl ?_
  exact ⟨rfl, HI1.out, (Fr.of_below hb1).trans hfr⟩
 | succ n ih =>
  intro i part done W hi hS' h1 h2 h3 hI
  have hi4 : i < 4 := by omega
  have hin : ((i : Int) == 4) = false := by rw [beq_eq_false_iff_ne]; omega
  have him : i ≤ 9223372036854775807 := by omega
  have hb1 := below_alloc (Below.refl W.heap.size W) (.cells #[.bool part.b0, .bool part.b1, .bool part.b2, .bool part.b3] 141)
  have hP1 : (W.alloc (.cells #[.bool part.b0, .bool part.b1, .bool part.b2, .bool part.b3] 141)).heap[W.heap.size]? = some (.cells #[.bool part.b0, .bool part.b1, .bool part.b2, .bool part.b3] 141 (0, 0)) := alloc_at rfl
  have l1 := blk_lt h1
  have l2 := blk_lt h2
  have l3 := blk_lt h3
  have h11 := blk_below h1 hb1
  have h21 := blk_below h2 hb1
  have h31 := blk_below h3 hb1
  have hI1 := HST.out _ _ _ hI (hb1.mono hS')
  have hS1 : base ≤ (W.alloc (.cells #[.bool part.b0, .bool part.b1, .bool part.b2, .bool part.b3] 141)).heap.size := Nat.le_trans hS' hb1.size
  have k1 : (W.alloc (.cells #[.bool part.b0, .bool part.b1, .bool part.b2, .bool part.b3] 141)).cell? ⟨bf, 0, none⟩ = some (fromFn bs bf bw) := (blk_cell h21 0).trans rfl
  unfold fromFn at k1
  have hsn : ¬ S W.heap.size := fun h => by have := hS _ h; omega
  have hs3n : ¬ S bw := fun h => by have := hS _ h; omega
  have hs1n : ¬ S bs := fun h => by have := hS _ h; omega
  have hs2n : ¬ S bf := fun h => by have := hS _ h; omega
  have hcall1 := ih (i + 1) part done _ (by omega) hS1 h11 h21 h31 hI1
  have HC1 := Lib.hid hcall1
  have hih := fun (p' : W4) (d' : List W4) W' (a1 : base ≤ W'.heap.size) a2 a3 a4 a5 => ih (i + 1) p' d' W' (by omega) a1 a2 a3 a4 a5
  have HIH := Lib.hid hih
  have HP1 := Lib.hid hP1
  have H11 := Lib.hid h11
  have H21 := Lib.hid h21
  have H31 := Lib.hid h31
  clear ih h1 h2 h3 hI hI1 hcall1 hih hP1 h11 h21 h31
  unfold W4.val at HC1 HIH ⊢
  simp only [Int.natCast_add, Int.cast_ofNat_Int] at HC1 HIH
  obtain ⟨gi, hgi⟩ : ∃ gi, wv.get i = gi := ⟨_, rfl⟩
  have HGI := Lib.hid hgi
  have hfr_ : wv.from_ (n + 1) i part = wv.from_ n (i + 1) part ++ (if wv.get i = true then wv.from_ n (i + 1) (part.set i) else []) := rfl
  rw [hgi] at hfr_
  have HFR := Lib.hid hfr_
  clear hgi hfr_ hi
  cases gi with
  | false =>
   go_enter Try.func103, Try.ntmps103
   go_wp2_with fail
   refine HC1.out.mono ?_
   rintro e w1 ⟨he, hI1, hfr⟩; unfold retNone at he; subst he; have HI1 := Lib.hid hI1
   have hcw : w1.cell? ⟨bw, i, none⟩ = some (.bool false) := by (have := get_cell (blk_fr H31.out hfr hs3n) i hi4; rw [HGI.out] at this; exact this)
   clear hI1
   go_wp2
   go_end0
   exact ⟨rfl, by rw [HFR.out]; simp only [Bool.false_eq_true, if_false, List.append_nil]; exact HI1.out, (Fr.of_below hb1).trans hfr⟩
  | true =>
   go_enter Try.func103, Try.ntmps103
   go_wp2_with fail
   refine HC1.out.mono ?_
   rintro e w1 ⟨he, hI1, hfr⟩; unfold retNone at he; subst he
   have hcw : w1.cell? ⟨bw, i, none⟩ = some (.bool true) := by (have := get_cell (blk_fr H31.out hfr hs3n) i hi4; rw [HGI.out] at this; exact this)
   have hP2 := blk_fr HP1.out hfr hsn
   have hcp : w1.cell? ⟨W.heap.size, i, none⟩ = some (.bool (part.get i)) := get_cell hP2 i hi4
   have hfp : w1.frozen? ⟨W.heap.size, i, none⟩ = false := blk_frozen hP2 i
   have hP3 := set_cells hP2 i hi4
   have hw1 : W.heap.size ≤ w1.heap.size := Nat.le_trans hb1.size hfr.size
   have hset : Below base w1 (w1.setCell ⟨W.heap.size, i, none⟩ (.bool true)) := (Below.refl base w1).setCell (p := ⟨W.heap.size, i, none⟩) hS' _
   have hfr3 : Fr S W (w1.setCell ⟨W.heap.size, i, none⟩ (.bool true)) := ((Fr.of_below hb1).trans hfr).set (.inr (Nat.le_refl _))
   have hI3 := HST.out _ _ _ hI1 hset
   have h13 := blk_far (p := ⟨W.heap.size, i, none⟩) (blk_fr H11.out hfr hs1n) (by simp; omega) (.bool true)
   have h23 := blk_far (p := ⟨W.heap.size, i, none⟩) (blk_fr H21.out hfr hs2n) (by simp; omega) (.bool true)
   have h33 := blk_far (p := ⟨W.heap.size, i, none⟩) (blk_fr H31.out hfr hs3n) (by simp; omega) (.bool true)
   have hz3 := hfr3.size
   have hq_ := c4 hP3
   have k3 : (w1.setCell ⟨W.heap.size, i, none⟩ (.bool true)).cell? ⟨bf, 0, none⟩ = some (fromFn bs bf bw) := (blk_cell h23 0).trans rfl
   unfold fromFn at k3
   have H13 := Lib.hid h13
   have H23 := Lib.hid h23
   have H33 := Lib.hid h33
   have HI3 := Lib.hid hI3
   clear h13 h23 h33 hI1 hI3 hP2 hP3
   go_wp2_with fail
   refine (HIH.out (part.set i) _ _ (Nat.le_trans hS' hz3) H13.out H23.out H33.out HI3.out).mono ?_
   rintro e w2 ⟨he, hI4, hfr4⟩; unfold retNone at he; subst he
   have HI4 := Lib.hid hI4
   clear hI4
   go_wp2
   go_end0
   refine ⟨rfl, ?_, hfr3.trans hfr4⟩
   rw [HFR.out]
   simp only [if_true]
   rw [← List.append_assoc]
   exact HI4.out

set_option maxRecDepth 100000 in
set_option maxHeartbeats 4000000 in
/-- wants.some: see is called with each part, in their order. -/
theorem some_calls (hent : ∀ args W, (callFunc f args).run Try.prog W = .ok (.enter f args) W) (hS : ∀ k, S k → k < base) (W : World) (hb : base ≤ W.heap.size)
  (hstab : ∀ done W W', Inv done W → Below base W W' → Inv done W')
  (hcall : ∀ part done W, base ≤ W.heap.size → Inv done W → Calls Try.prog f (#[W4.val part] ++ cs) W fun e W' => retNone e ∧ Inv (done ++ [part]) W' ∧ Fr S W W') (hI : Inv [] W) :
  Calls Try.prog 88 #[wv.val, .func (.func f) #[] cs] W fun e W' => retNone e ∧ Inv wv.parts W' ∧ Fr S W W' := by
 have HE := Lib.hid hent
 have HST := Lib.hid hstab
 have HC := Lib.hid hcall
 have HI := Lib.hid hI
 clear hent hstab hcall hI
 unfold W4.val
 go_enter Try.func88, Try.ntmps88
 go_wp2_with fail
 obtain ⟨W3, hW3⟩ : ∃ W3, W3 = (((W.alloc (.cells #[.bool wv.b0, .bool wv.b1, .bool wv.b2, .bool wv.b3] 141)).alloc (.cells #[.func (.func f) #[] cs] 183)).alloc (.cells #[fromFn (W.heap.size + 1) (W.heap.size + 1 + 1) W.heap.size] 191)) := ⟨_, rfl⟩
 have hb3 : Below W.heap.size W W3 := by rw [hW3]; exact below_alloc (below_alloc (below_alloc (Below.refl _ _) _) _) _
 have h1 : W3.heap[W.heap.size + 1]? = some (.cells #[.func (.func f) #[] cs] 183 (0, 0)) := by rw [hW3]; exact blk_below (alloc_at (by simp)) (below_alloc (Below.refl _ _) _)
 have h2 : W3.heap[W.heap.size + 1 + 1]? = some (.cells #[fromFn (W.heap.size + 1) (W.heap.size + 1 + 1) W.heap.size] 191 (0, 0)) := by rw [hW3]; exact alloc_at (by simp)
 have h3 : W3.heap[W.heap.size]? = some (.cells #[.bool wv.b0, .bool wv.b1, .bool wv.b2, .bool wv.b3] 141 (0, 0)) := by rw [hW3]; exact blk_below (blk_below (alloc_at rfl) (below_alloc (Below.refl _ _) _)) (below_alloc (Below.refl _ _) _)
 have hfc := from_calls base f cs S Inv wv (W.heap.size + 1) (W.heap.size + 1 + 1) W.heap.size HE.out HST.out (by omega) (by omega) hb hS HC.out 4 0 W4.none4 [] W3 rfl (Nat.le_trans hb hb3.size) h1 h2 h3 (HST.out _ _ _ HI.out (hb3.mono hb))
 have HF := Lib.hid hfc
 clear h1 h2 h3 hfc
 unfold fromFn at hW3
 rw [← hW3]
 refine HF.out.mono ?_
 rintro e w1 ⟨he, hI4, hfr4⟩; unfold retNone at he; subst he
 have HI4 := Lib.hid hI4
 clear hI4
 go_wp2
 go_end0
 exact ⟨rfl, HI4.out, (Fr.of_below hb3).trans hfr4⟩
end
end Go.Proofs.Ytffjbaknglemdaa.X
