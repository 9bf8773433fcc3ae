import Derived.Test.YtffjbaknglemdaaHK4a
import Derived.Test.YtffjbaknglemdaaHK4q
import Derived.Laws.EntriesVeiled
import Derived.WideMake
namespace Go.Proofs.Ytffjbaknglemdaa.X
open Go.RowKit Go.Maps Go.Proofs.YtffjbaknglemdaaW.PrintWords Go.Proofs.YtffjbaknglemdaaW.PrintLast Go.Proofs.YtffjbaknglemdaaW.PrintMore
set_option linter.unusedSimpArgs false
set_option linter.unusedVariables false

/-! ### Best -/
theorem infoS3 : (Try.prog.info? 3).map (fun i => (i.zero, i.size, i.bytes)) = some (some (.int .i64 0), 1, 8) := by kernel_rfl
theorem checkPlate_chk (a0 a1 a2 : Int) (l : List S115) : plate_CheckPlate.f a0 a1 a2 l = some (chk a0 a1 a2 l) := checkPlate_some a0 a1 a2 l
def wcells (i : Nat) : Array Value := #[.bool (decide (0 < i)), .bool (decide (1 < i)), .bool (decide (2 < i)), .bool (decide (3 < i))]
theorem wcells_put {W : World} {g i : Nat} (h : W.heap[g]? = some (.cells (wcells i) 141 (0, 0))) (hi : i < 4) : (W.setCell ⟨g, i, none⟩ (.bool true)).heap[g]? = some (.cells (wcells (i + 1)) 141 (0, 0)) := by
 have h4 : i = 0 ∨ i = 1 ∨ i = 2 ∨ i = 3 := by omega
 rcases h4 with rfl | rfl | rfl | rfl <;> exact blk_put h _ _ rfl
theorem wcells_cell {W : World} {g i j : Nat} (h : W.heap[g]? = some (.cells (wcells i) 141 (0, 0))) (hj : j < 4) : ∃ b, W.cell? ⟨g, j, none⟩ = some (.bool b) := by
 have h4 : j = 0 ∨ j = 1 ∨ j = 2 ∨ j = 3 := by omega
 rcases h4 with rfl | rfl | rfl | rfl <;> exact ⟨_, (blk_cell h _).trans rfl⟩
theorem own_Rint {w : World} {base : Nat} {ok : Nat → Prop} {v : Value} {xs : List Int} (h : w.ownsRow base 3 1 v xs.length (ints xs)) (hok : ∀ k, v.ownBlock = some k → ok k) : Kd.R (Kd.int .i64) 3 w base ok v xs := by
 have e : ∀ xs : List Int, xs.flatMap (fun x => [Value.int .i64 x]) = ints xs := fun xs => by induction xs with
  | nil => rfl
  | cons x xs ih => simp only [List.flatMap_cons, ih]; rfl
 exact ⟨hok, ints xs, h, by rw [← e]; exact reps_flat (R := (Kd.int .i64).M w base _) (size := 1) (fun x => [Value.int .i64 x]) (fun p => rfl) (fun p => rfl) xs⟩
/-- Where Best stands in its loop. -/
structure LSt (w : World) (cb mb : Nat) (a0 a1 a2 : Int) (A : Option Addr) (c : Nat) (l : List S115) (cp xb pp wb : Nat) (i : Nat) (W : World) : Prop where
 ci : CInv w cb mb a0 a1 a2 A c l W
 cpt : W.heap[cp]? = some (.cells #[.pointer (some ⟨cb, 0, none⟩)] 136 (0, 0))
 plt : W.heap[pp]? = some (.cells #[.int .i64 a0, .int .i64 a1, .int .i64 a2, .slice A l.length c] 55 (0, 0))
 whl : W.heap[wb]? = some (.cells (wcells i) 141 (0, 0))
 pln : ∃ U uc, W.heap[xb]? = some (.cells #[.slice none 0 0, .slice U i uc] 59 (0, 0)) ∧ W.ownsRow w.heap.size 3 1 (.slice U i uc) i (ints (List.replicate i (-1)))
 lo : w.heap.size ≤ cp ∧ w.heap.size ≤ xb ∧ w.heap.size ≤ pp ∧ w.heap.size ≤ wb

theorem up3 {w0 : World} {cb mb : Nat} {a0 a1 a2 : Int} {A : Option Addr} {c : Nat} {l : List S115} {V w : World} {v : Value} {m size : Nat} {tb : TypeId} {xs : List Value} {o : Obj} (ho : V.ownsRow w0.heap.size tb size v m xs) (hg : (V.alloc o).grownBy w v.ownBlock) : Up w0 cb mb a0 a1 a2 A c l tb (V.alloc o) w :=
 Up.of (S := fun k => v.ownBlock = some k) (Fr.grown hg (fun k e => e)) (fun k hk => ⟨own_base ho k hk, .inr (own_typed (ho.alloc o) k hk)⟩)
theorem app_use {w : World} {cb mb : Nat} {a0 a1 a2 : Int} {A : Option Addr} {c : Nat} {l : List S115} {cp xb pp wb i : Nat} {W w12 : World} {o : Obj} {g1 cap1 uc : Nat} {U : Option Addr}
  (hL : Hid (LSt w cb mb a0 a1 a2 A c l cp xb pp wb i W)) (hi : i < 4) (hx : Hid (W.heap[xb]? = some (.cells #[.slice none 0 0, .slice U i uc] 59 (0, 0)))) (ho : (W.setCell ⟨wb, i, none⟩ (.bool true)).ownsRow w.heap.size 3 1 (.slice U i uc) i (ints (List.replicate i (-1))))
  (hown : w12.ownsRow w.heap.size 3 1 (.slice (some ⟨g1, 0, none⟩) (i + 1) cap1) (i + 1) (ints (List.replicate i (-1)) ++ [.int .i64 (-1)])) (hgrow : ((W.setCell ⟨wb, i, none⟩ (.bool true)).alloc o).grownBy w12 (Value.slice U i uc).ownBlock) :
  w12.cell? ⟨xb, 1, none⟩ = some (.slice U i uc) ∧ w12.frozen? ⟨xb, 1, none⟩ = false ∧ Hid (LSt w cb mb a0 a1 a2 A c l cp xb pp wb (i + 1) (w12.setCell ⟨xb, 1, none⟩ (.slice (some ⟨g1, 0, none⟩) (i + 1) cap1))) := by
 have hL := hL.out
 have h1 : Up w cb mb a0 a1 a2 A c l 141 W _ := up59 hL.whl hL.lo.2.2.2 (j := i) (.bool true)
 have hw1 := wcells_put hL.whl hi
 have hb := below_alloc (Below.refl (W.setCell ⟨wb, i, none⟩ (.bool true)).heap.size (W.setCell ⟨wb, i, none⟩ (.bool true))) o
 have h2 : Up w cb mb a0 a1 a2 A c l 3 _ w12 := up3 ho hgrow
 have hx2 := h2.blk (blk_below (h1.blk hx.out (by decide)) hb) (by decide)
 have h3 : Up w cb mb a0 a1 a2 A c l 59 w12 _ := up59 hx2 hL.lo.2.1 (j := 1) (.slice (some ⟨g1, 0, none⟩) (i + 1) cap1)
 refine ⟨(blk_cell hx2 1).trans rfl, blk_frozen hx2 1, Lib.hid ⟨h3.ci (by decide) (h2.ci (by decide) ((h1.ci (by decide) hL.ci).below hb)), h3.blk (h2.blk (blk_below (h1.blk hL.cpt (by decide)) hb) (by decide)) (by decide), h3.blk (h2.blk (blk_below (h1.blk hL.plt (by decide)) hb) (by decide)) (by decide), h3.blk (h2.blk (blk_below hw1 hb) (by decide)) (by decide), ⟨some ⟨g1, 0, none⟩, cap1, blk_put hx2 1 _ rfl, ?_⟩, hL.lo⟩⟩
 have e : ints (List.replicate (i + 1) (-1)) = ints (List.replicate i (-1)) ++ [.int .i64 (-1)] := by unfold ints; rw [List.replicate_succ', List.map_append]; rfl
 rw [e]
 exact h3.own hown (by decide)

set_option maxRecDepth 100000 in
set_option maxHeartbeats 8000000 in
theorem plate_Best.calls (a0 a1 a2 : Int) (A : Option Addr) (c : Nat) (l : List S115) (r1 : List S112) (r2 : List Int) (r3 r4 : Int) (w : World) (hl : Kd.C k115 w A l.length l) (hlc : l.length ≤ c) (h : plate_Best.f a0 a1 a2 l = some (r1, r2, r3, r4)) :
  Calls Try.prog 36 #[.agg #[.int .i64 a0, .int .i64 a1, .int .i64 a2, .slice A l.length c]] w fun e w' => ∃ v0 v1 : Value, e = .returned (.tuple #[.agg #[v0, v1], .int .i64 r3, .int .i64 r4]) ∧ Kd.R k112 112 w' w.heap.size (fun _ => True) v0 r1 ∧ Kd.R (Kd.int .i64) 3 w' w.heap.size (fun _ => True) v1 r2 ∧ Below w.heap.size w w' := by
 have HL := Lib.hid hl
 have HLC := Lib.hid hlc
 clear hl hlc
 by_cases hz : chk a0 a1 a2 l = 0
 ·have hok := chk_zero.1 hz
  have hck := checkPlate_chk a0 a1 a2 l
  rw [hz] at hck
  have HCK := Lib.hid hck
  have hr : ((bestSt a0 a1 a2 l).cuts, (bestSt a0 a1 a2 l).uses, (bestP l a2 (p0 a0 a1) (wholeW l.length)).worth, 0) = (r1, r2, r3, r4) := by unfold plate_Best.f at h; rw [if_pos hz] at h; injection h
  simp only [Prod.mk.injEq] at hr
  obtain ⟨hr1, hr2, hr3, rfl⟩ := hr
  have HR1 := Lib.hid hr1
  have HR2 := Lib.hid hr2
  have HR3 := Lib.hid hr3
  have HOK := Lib.hid hok
  obtain ⟨i0, hinf, hq0, hq1, hq2⟩ := info_parts infoS3
  have hmm := @run_makeMap_plain Try.prog
  have hl4 := hok.len
  clear h hz hck hr1 hr2 hr3 hok
  go_enter Try.func36, Try.ntmps36
  go_wp2_with (go_at_call 47; refine (plate_CheckPlate.calls a0 a1 a2 A c l 0 _ (Kd.C_below HL.out (below_alloc (below_alloc (Below.refl _ _) _) _)) HLC.out HCK.out).mono ?_; rintro e w1 ⟨rfl, hb1⟩; have hpl1 : w1.heap[w.heap.size]? = some (.cells #[.int .i64 a0, .int .i64 a1, .int .i64 a2, .slice A l.length c] 55 (0, 0)) := blk_below (blk_below (alloc_at rfl) (below_alloc (Below.refl _ _) _)) hb1; have hp_ := c4 hpl1; have hp9 : ((((w1.alloc (.map #[] 0)).alloc (.cells #[.int .i64 a0, .int .i64 a1, .int .i64 a2, .slice A l.length c, .map (some w1.heap.size)] 139)).alloc (.cells #[.pointer (some ⟨w1.heap.size + 1, 0, none⟩)] 136)).alloc (.cells #[.bool false, .bool false, .bool false, .bool false] 141)).cell? ⟨w.heap.size, 3, none⟩ = some (.slice A l.length c) := (blk_cell (blk_below hpl1 (below_alloc (below_alloc (below_alloc (below_alloc (Below.refl _ _) _) _) _) _)) 3).trans rfl)
  have hx1 : w1.heap[w.heap.size + 1]? = some (.cells #[.slice none 0 0, .slice none 0 0] 59 (0, 0)) := blk_below (alloc_at (by simp)) hb1
  have hbw1 := below_step (below_alloc (below_alloc (Below.refl _ _) _) _) hb1
  have hs1 := hbw1.size
  have hb4 : Below w1.heap.size w1 ((((w1.alloc (.map #[] 0)).alloc (.cells #[.int .i64 a0, .int .i64 a1, .int .i64 a2, .slice A l.length c, .map (some w1.heap.size)] 139)).alloc (.cells #[.pointer (some ⟨w1.heap.size + 1, 0, none⟩)] 136)).alloc (.cells #[.bool false, .bool false, .bool false, .bool false] 141)) := below_alloc (below_alloc (below_alloc (below_alloc (Below.refl _ _) _) _) _) _
  have hL0 : LSt w (w1.heap.size + 1) w1.heap.size a0 a1 a2 A c l (w1.heap.size + 1 + 1) (w.heap.size + 1) w.heap.size (w1.heap.size + 1 + 1 + 1) 0 ((((w1.alloc (.map #[] 0)).alloc (.cells #[.int .i64 a0, .int .i64 a1, .int .i64 a2, .slice A l.length c, .map (some w1.heap.size)] 139)).alloc (.cells #[.pointer (some ⟨w1.heap.size + 1, 0, none⟩)] 136)).alloc (.cells #[.bool false, .bool false, .bool false, .bool false] 141)) := ⟨⟨blk_below (blk_below (alloc_at (by simp)) (below_alloc (Below.refl _ _) _)) (below_alloc (Below.refl _ _) _), ⟨[], ((((AMap.made w1 149).below (below_alloc (Below.refl _ _) _)).below (below_alloc (Below.refl _ _) _)).below (below_alloc (Below.refl _ _) _)), by simp⟩, below_step hbw1 hb4, by omega, hs1, HL.out⟩, blk_below (alloc_at (by simp)) (below_alloc (Below.refl _ _) _), blk_below hpl1 hb4, alloc_at (by simp), ⟨none, 0, blk_below hx1 hb4, World.ownsRow_nil _ _ _ _⟩, by omega, by omega, by omega, by omega⟩
  have HL0 := Lib.hid hL0
  clear hL0 hb4 hbw1 hx1 hpl1 hp_ hp9 hb1 hmm
  go_loopw [24] (fun t wr => ∃ i : Nat, t = .int .i64 i ∧ i ≤ l.length ∧ Hid (LSt w (w1.heap.size + 1) w1.heap.size a0 a1 a2 A c l (w1.heap.size + 1 + 1) (w.heap.size + 1) w.heap.size (w1.heap.size + 1 + 1 + 1) i wr)) (fun t _ => l.length - (intOf t).toNat)
  case atStart => exact ⟨0, rfl, Nat.zero_le _, HL0⟩
  case round =>
   clear HL0
   obtain ⟨i, rfl, hi, HLS⟩ := hrel
   by_cases hlt : i < l.length
   ·have hi4 : i < 4 := by omega
    obtain ⟨U, uc, hx, ho⟩ := HLS.out.pln
    obtain ⟨b, hwc⟩ := wcells_cell (j := i) HLS.out.whl hi4
    have hwf : wr.frozen? ⟨w1.heap.size + 1 + 1 + 1, i, none⟩ = false := blk_frozen HLS.out.whl i
    have hU1 : Up w (w1.heap.size + 1) w1.heap.size a0 a1 a2 A c l 141 wr _ := up59 HLS.out.whl HLS.out.lo.2.2.2 (j := i) (.bool true)
    have hx' := hU1.blk hx (by decide)
    have ho' := hU1.own ho (by decide)
    have hxc : (wr.setCell ⟨w1.heap.size + 1 + 1 + 1, i, none⟩ (.bool true)).cell? ⟨w.heap.size + 1, 1, none⟩ = some (.slice U i uc) := (blk_cell hx' 1).trans rfl
    have HX := Lib.hid hx
    have hws := HLS.out.ci.old.size
    clear hx hx' hU1 ho
    go_wp2_with (at_builtin; refine wpList_append_own_at _ rfl _ _ 35 rfl w.heap.size 3 i0 _ 1 8 Try.underlying35 hinf hq0 hq1 hq2 rfl (by decide) _ _ _ rfl (ho'.alloc _) ⟨wr.heap.size, 0, none⟩ 1 1 [.int .i64 (-1)] rfl rfl (World.news_of_block (alloc_at (by simp))) (by simp [Value.oneCell']) (by simp [maxLen]; omega) (by omega) (by simp; omega) ?_; intro v1 w12 hown1 hgrow _ hat_; obtain ⟨g1, cap1, rfl⟩ := ownsRow_succ hown1; obtain ⟨hxc1, hxf1, HLS1⟩ := app_use HLS hi4 HX ho' hown1 hgrow; clear hgrow hat_ hown1)
    go_roundw
    case rel => exact ⟨i + 1, by go_num, by omega, HLS1⟩
    case measure => simp [intOf]; omega
   ·obtain rfl : i = l.length := by omega
    obtain ⟨v, hv⟩ : ∃ v, wholeW l.length = v := ⟨_, rfl⟩
    have hwh : wr.heap[w1.heap.size + 1 + 1 + 1]? = some (.cells #[.bool v.b0, .bool v.b1, .bool v.b2, .bool v.b3] 141 (0, 0)) := by rw [← hv]; exact HLS.out.whl
    obtain ⟨U, uc, hx, ho⟩ := HLS.out.pln
    have hpl := HLS.out.plt
    have hp_ := c4 hpl
    have HV := Lib.hid hv
    have HWH := Lib.hid hwh
    have HX := Lib.hid hx
    have HO := Lib.hid ho
    clear hv hwh hx ho hpl
    go_wp2_with (go_at_call 61; refine (plate_Plate_whole.calls a0 a1 a2 A c l 0 0 a0 a1 _ HLS.out.ci.list HLC.out rfl).mono ?_; rintro e w2 ⟨rfl, hb2⟩; have hbV : Below w2.heap.size w2 (((w2.alloc (.cells #[.int .i64 0, .int .i64 0, .int .i64 a0, .int .i64 a1] 103)).alloc (.cells #[.slice (some ⟨w2.heap.size, 0, none⟩) 1 1] 96)).alloc (.cells #[.func (.func 64) #[] #[.pointer (some ⟨w1.heap.size + 1 + 1, 0, none⟩), .pointer (some ⟨w2.heap.size + 1, 0, none⟩), .pointer (some ⟨w.heap.size + 1, 0, none⟩), .pointer (some ⟨w.heap.size, 0, none⟩), .pointer (some ⟨w2.heap.size + 1 + 1, 0, none⟩)]] 142)) := below_alloc (below_alloc (below_alloc (Below.refl _ _) _) _) _; have hwV := blk_below (blk_below HWH.out hb2) hbV; have hv_ := c4 hwV; clear hwV)
    have hbv : Below wr.heap.size wr (((w2.alloc (.cells #[.int .i64 0, .int .i64 0, .int .i64 a0, .int .i64 a1] 103)).alloc (.cells #[.slice (some ⟨w2.heap.size, 0, none⟩) 1 1] 96)).alloc (.cells #[.func (.func 64) #[] #[.pointer (some ⟨w1.heap.size + 1 + 1, 0, none⟩), .pointer (some ⟨w2.heap.size + 1, 0, none⟩), .pointer (some ⟨w.heap.size + 1, 0, none⟩), .pointer (some ⟨w.heap.size, 0, none⟩), .pointer (some ⟨w2.heap.size + 1 + 1, 0, none⟩)]] 142)) := below_step hb2 hbV
    have hlo := HLS.out.ci.old.size
    have hs2 := hb2.size
    have hL := HLS.out
    have hwV := blk_below HWH.out hbv
    have hD : DSt w (w1.heap.size + 1) w1.heap.size a0 a1 a2 A c l (w1.heap.size + 1 + 1) (w2.heap.size + 1) (w.heap.size + 1) w.heap.size (w2.heap.size + 1 + 1) ⟨[p0 a0 a1], [], List.replicate l.length (-1)⟩ (((w2.alloc (.cells #[.int .i64 0, .int .i64 0, .int .i64 a0, .int .i64 a1] 103)).alloc (.cells #[.slice (some ⟨w2.heap.size, 0, none⟩) 1 1] 96)).alloc (.cells #[.func (.func 64) #[] #[.pointer (some ⟨w1.heap.size + 1 + 1, 0, none⟩), .pointer (some ⟨w2.heap.size + 1, 0, none⟩), .pointer (some ⟨w.heap.size + 1, 0, none⟩), .pointer (some ⟨w.heap.size, 0, none⟩), .pointer (some ⟨w2.heap.size + 1 + 1, 0, none⟩)]] 142)) := ⟨hL.ci.below hbv, blk_below hL.cpt hbv, blk_below hL.plt hbv, alloc_at (by simp), ⟨some ⟨w2.heap.size, 0, none⟩, 1, blk_below (alloc_at (by simp)) (below_alloc (Below.refl _ _) _), ⟨rfl, .inr ⟨w2.heap.size, 1, _, rfl, by omega, blk_below (blk_below (alloc_at rfl) (below_alloc (Below.refl _ _) _)) (below_alloc (Below.refl _ _) _), by simp, by simp [maxLen], rfl, rfl⟩⟩⟩,
     ⟨none, 0, U, uc, by simp only [List.length_replicate]; exact blk_below HX.out hbv, World.ownsRow_nil _ _ _ _, by simp only [List.length_replicate]; exact pw_own_below HO.out hbv⟩, hL.lo.1, by omega, hL.lo.2.1, hL.lo.2.2.1, by omega⟩
    have hmsr : msr (p0 a0 a1) ≤ 16 := by have := HOK.out.wid; have := HOK.out.lng; unfold msr p0; simp only; omega
    have hpow : 2 ^ (msr (p0 a0 a1) + 1) ≤ 131072 := Nat.le_trans (Nat.pow_le_pow_right (by decide) (Nat.succ_le_succ hmsr)) (by decide)
    have h64 : Calls Try.prog 64 #[.int .i64 0, .agg #[.bool v.b0, .bool v.b1, .bool v.b2, .bool v.b3], .pointer (some ⟨w1.heap.size + 1 + 1, 0, none⟩), .pointer (some ⟨w2.heap.size + 1, 0, none⟩), .pointer (some ⟨w.heap.size + 1, 0, none⟩), .pointer (some ⟨w.heap.size, 0, none⟩), .pointer (some ⟨w2.heap.size + 1 + 1, 0, none⟩)] (((w2.alloc (.cells #[.int .i64 0, .int .i64 0, .int .i64 a0, .int .i64 a1] 103)).alloc (.cells #[.slice (some ⟨w2.heap.size, 0, none⟩) 1 1] 96)).alloc (.cells #[.func (.func 64) #[] #[.pointer (some ⟨w1.heap.size + 1 + 1, 0, none⟩), .pointer (some ⟨w2.heap.size + 1, 0, none⟩), .pointer (some ⟨w.heap.size + 1, 0, none⟩), .pointer (some ⟨w.heap.size, 0, none⟩), .pointer (some ⟨w2.heap.size + 1 + 1, 0, none⟩)]] 142)) fun e W' => retNone e ∧ DSt w (w1.heap.size + 1) w1.heap.size a0 a1 a2 A c l (w1.heap.size + 1 + 1) (w2.heap.size + 1) (w.heap.size + 1) w.heap.size (w2.heap.size + 1 + 1) (planF l a2 17 0 v ⟨[p0 a0 a1], [], List.replicate l.length (-1)⟩) W' ∧ Kp (((w2.alloc (.cells #[.int .i64 0, .int .i64 0, .int .i64 a0, .int .i64 a1] 103)).alloc (.cells #[.slice (some ⟨w2.heap.size, 0, none⟩) 1 1] 96)).alloc (.cells #[.func (.func 64) #[] #[.pointer (some ⟨w1.heap.size + 1 + 1, 0, none⟩), .pointer (some ⟨w2.heap.size + 1, 0, none⟩), .pointer (some ⟨w.heap.size + 1, 0, none⟩), .pointer (some ⟨w.heap.size, 0, none⟩), .pointer (some ⟨w2.heap.size + 1 + 1, 0, none⟩)]] 142)) W' :=
     plan_calls HOK.out.lok HOK.out.saw HLC.out 17 0 v _ _ (by simp) HOK.out.in8 (Nat.lt_succ_of_le hmsr) (by show 1 + 2 ^ (msr (p0 a0 a1) + 1) ≤ 1000002; omega) (by simp) (by simp) hD
    have H64 := Lib.hid h64
    have HWV := Lib.hid hwV
    clear hbV hbv hb2 hs2 hL hwV hD hmsr hpow h64 hp_ hv_
    refine H64.out.mono ?_
    rintro e w5 ⟨he, hD5, hK5⟩
    unfold retNone at he
    subst he
    obtain ⟨F, hF⟩ : ∃ F, planF l a2 17 0 v ⟨[p0 a0 a1], [], List.replicate l.length (-1)⟩ = F := ⟨_, rfl⟩
    rw [hF] at hD5
    have hbf : bestSt a0 a1 a2 l = F := by unfold bestSt; rw [HV.out]; exact hF
    have hcu := HR1.out
    have hus := HR2.out
    have hwo := HR3.out
    rw [hbf] at hcu hus
    rw [HV.out] at hwo
    subst hcu hus
    have hw5 := hK5.keep _ _ _ (.inl rfl) HWV.out
    obtain ⟨Q, qc, U', uc', hx5, hq5, hu5⟩ := hD5.pln
    have HBC : Hid (∀ V, CInv w (w1.heap.size + 1) w1.heap.size a0 a1 a2 A c l V → Calls Try.prog 65 #[.pointer (some ⟨w1.heap.size + 1, 0, none⟩), .agg #[.int .i64 0, .int .i64 0, .int .i64 a0, .int .i64 a1, .bool v.b0, .bool v.b1, .bool v.b2, .bool v.b3]] V (BEnd w (w1.heap.size + 1) w1.heap.size a0 a1 a2 A c l (p0 a0 a1) v V)) := Lib.hid (fun V hV => best_calls HOK.out.saw HOK.out.len HLC.out (msr (p0 a0 a1) + 1) (p0 a0 a1) v V HOK.out.in8 (Nat.lt_succ_self _) hV)
    unfold BEnd at HBC
    generalize bestP l a2 (p0 a0 a1) v = s at HBC hwo
    subst hwo
    have HD5 := Lib.hid hD5
    have HX5 := Lib.hid hx5
    have HQ5 := Lib.hid hq5
    have HU5 := Lib.hid hu5
    have HW5 := Lib.hid hw5
    clear hD5 hK5 hx5 hq5 hu5 hw5 hF hbf HR1 HR2 HR3 HV HWV HWH HX HO H64 HLS
    have hS : ∀ V, Fr (fun i => i = w1.heap.size) w5 V → V.cell? ⟨w.heap.size + 1, 0, none⟩ = some (.slice Q F.cuts.length qc) ∧ V.cell? ⟨w.heap.size + 1, 1, none⟩ = some (.slice U' F.uses.length uc') ∧ V.cell? ⟨w1.heap.size + 1 + 1, 0, none⟩ = some (.pointer (some ⟨w1.heap.size + 1, 0, none⟩)) ∧ V.cell? ⟨w.heap.size, 0, none⟩ = some (.int .i64 a0) ∧ V.cell? ⟨w.heap.size, 1, none⟩ = some (.int .i64 a1) ∧ V.cell? ⟨w.heap.size, 2, none⟩ = some (.int .i64 a2) ∧ V.cell? ⟨w.heap.size, 3, none⟩ = some (.slice A l.length c) ∧ V.cell? ⟨w1.heap.size + 1 + 1 + 1, 0, none⟩ = some (.bool v.b0) ∧ V.cell? ⟨w1.heap.size + 1 + 1 + 1, 1, none⟩ = some (.bool v.b1) ∧ V.cell? ⟨w1.heap.size + 1 + 1 + 1, 2, none⟩ = some (.bool v.b2) ∧ V.cell? ⟨w1.heap.size + 1 + 1 + 1, 3, none⟩ = some (.bool v.b3) := fun V hV => by
     obtain ⟨es, hm, _⟩ := HD5.out.ci.map
     have hne1 : w.heap.size + 1 ≠ w1.heap.size := fun e => hm.ne_cells HX5.out e.symm
     have hne2 : w1.heap.size + 1 + 1 ≠ w1.heap.size := fun e => hm.ne_cells HD5.out.cpt e.symm
     have hne3 : w.heap.size ≠ w1.heap.size := fun e => hm.ne_cells HD5.out.plt e.symm
     have hne4 : w1.heap.size + 1 + 1 + 1 ≠ w1.heap.size := fun e => hm.ne_cells HW5.out e.symm
     exact ⟨(blk_cell (blk_fr HX5.out hV hne1) 0).trans rfl, (blk_cell (blk_fr HX5.out hV hne1) 1).trans rfl, (blk_cell (blk_fr HD5.out.cpt hV hne2) 0).trans rfl, (blk_cell (blk_fr HD5.out.plt hV hne3) 0).trans rfl, (blk_cell (blk_fr HD5.out.plt hV hne3) 1).trans rfl, (blk_cell (blk_fr HD5.out.plt hV hne3) 2).trans rfl, (blk_cell (blk_fr HD5.out.plt hV hne3) 3).trans rfl, (blk_cell (blk_fr HW5.out hV hne4) 0).trans rfl, (blk_cell (blk_fr HW5.out hV hne4) 1).trans rfl, (blk_cell (blk_fr HW5.out hV hne4) 2).trans rfl, (blk_cell (blk_fr HW5.out hV hne4) 3).trans rfl⟩
    have HS := Lib.hid hS
    have hci := HD5.out.ci.below (below_drew1 (Below.refl w5.heap.size w5))
    have hf : Fr (fun i => i = w1.heap.size) w5 w5.drew := Fr.of_below (below_drew1 (Below.refl w5.heap.size w5))
    have hfd1 : ∀ w : World, (Instr.field 146 (.agg #[.int .i64 s.worth, .int .i64 s.cuts, .int .i64 s.use, .bool s.cut, .int .i64 s.how.f0, .bool s.how.f1, .int .i64 s.how.f2, .bool s.first.b0, .bool s.first.b1, .bool s.first.b2, .bool s.first.b3]) 0).run Try.prog w = .ok (.agg #[.int .i64 s.worth, .int .i64 s.cuts]) w := fun _ => by kernel_rfl
    have hfd2 : ∀ w : World, (Instr.field 144 (.agg #[.int .i64 s.worth, .int .i64 s.cuts]) 0).run Try.prog w = .ok (.int .i64 s.worth) w := fun _ => by kernel_rfl
    clear hS
    go_wp2
    refine s_ 12 (fun w' => w'.cell? ⟨w.heap.size + 1, 0, none⟩ = some (.slice Q F.cuts.length qc) ∧ w'.cell? ⟨w.heap.size + 1, 1, none⟩ = some (.slice U' F.uses.length uc') ∧ w'.cell? ⟨w1.heap.size + 1 + 1, 0, none⟩ = some (.pointer (some ⟨w1.heap.size + 1, 0, none⟩)) ∧ w'.cell? ⟨w.heap.size, 0, none⟩ = some (.int .i64 a0) ∧ w'.cell? ⟨w.heap.size, 1, none⟩ = some (.int .i64 a1) ∧ w'.cell? ⟨w.heap.size, 2, none⟩ = some (.int .i64 a2) ∧ w'.cell? ⟨w.heap.size, 3, none⟩ = some (.slice A l.length c) ∧ w'.cell? ⟨w1.heap.size + 1 + 1 + 1, 0, none⟩ = some (.bool v.b0) ∧ w'.cell? ⟨w1.heap.size + 1 + 1 + 1, 1, none⟩ = some (.bool v.b1) ∧ w'.cell? ⟨w1.heap.size + 1 + 1 + 1, 2, none⟩ = some (.bool v.b2) ∧ w'.cell? ⟨w1.heap.size + 1 + 1 + 1, 3, none⟩ = some (.bool v.b3)) [9] (HS.out _ hf) (fun hHeld => ?_)
    refine t_ 0 (some 42) hHeld ?_
    refine t_ 1 (some 43) hHeld ?_
    refine t_ 2 (some 44) hHeld ?_
    refine t_ 4 (some 46) hHeld ?_
    refine e_ 3 (some 45) (fun K hK => ?_)
    refine goes_ Try.func61 (by kernel_rfl) rfl #[.agg #[.int .i64 a0, .int .i64 a1, .int .i64 a2, .slice A l.length c]] (by rfl) rfl rfl (by simp only [List.map_toArray, List.map_cons, List.map_nil]; rfl) ?_
    with_reducible refine (plate_Plate_whole.calls a0 a1 a2 A c l 0 0 a0 a1 _ hci.list HLC.out rfl).mono ?_
    rintro e V6 ⟨rfl, hs⟩
    replace hci := hci.below hs
    replace hf := hf.trans (Fr.of_below hs)
    clear hs
    refine ⟨_, rfl, ?_⟩
    refine hK.out _ _ (HS.out _ hf) (fun hHeld => ?_)
    clear hK K
    refine n_ ?_
    refine p_ 5 (some 47) ?_
    refine e_ 6 (some 48) (fun K hK => ?_)
    refine goes_ Try.func65 (by kernel_rfl) rfl #[.pointer (some ⟨w1.heap.size + 1, 0, none⟩), .agg #[.int .i64 0, .int .i64 0, .int .i64 a0, .int .i64 a1, .bool v.b0, .bool v.b1, .bool v.b2, .bool v.b3]] (by rfl) rfl rfl (by simp only [List.map_toArray, List.map_cons, List.map_nil]; rfl) ?_
    with_reducible refine (HBC.out _ hci).mono ?_
    rintro e V7 ⟨rfl, hc7, hfr⟩
    clear hci
    have hci := hc7
    clear hc7
    replace hf := hf.trans hfr
    clear hfr
    refine ⟨_, rfl, ?_⟩
    refine hK.out _ _ (HS.out _ hf) (fun hHeld => ?_)
    clear hK K
    refine n_ ?_
    refine p_ 7 (some 49) ?_
    refine p_ 8 (some 50) ?_
    refine l_ 9 none (fun K hK => ?_)
    have hne1 : w.heap.size + 1 ≠ w1.heap.size := fun e => by (obtain ⟨es, hm, _⟩ := HD5.out.ci.map; exact hm.ne_cells HX5.out e.symm)
    have hx9 := blk_fr HX5.out hf hne1
    have hxf0 := blk_frozen hx9 0
    have hxf1 := blk_frozen hx9 1
    have hxc0 := hHeld.1
    have hxc1 := hHeld.2.1
    refine skip_ (w1 := ?_) (by rfl) rfl ?_ ?_
    rotate_left
    ·go_simp
     rfl
    refine hK.out _ _ ?_
    clear hK K
    refine p_ 10 (some 3) ?_
    refine p_ 11 (some 4) ?_
    refine done_ (by kernel_rfl) ?_
    clear hHeld hxf0 hxf1 hxc0 hxc1 hfd1 hfd2 HBC HS
    go_wp2
    have hx10 := blk_put (cs' := #[.slice Q F.cuts.length qc, .slice U' F.uses.length uc']) (blk_put (cs' := #[.slice Q F.cuts.length qc, .slice U' F.uses.length uc']) hx9 0 (.slice Q F.cuts.length qc) rfl) 1 (.slice U' F.uses.length uc') rfl
    have hU1 : Up w (w1.heap.size + 1) w1.heap.size a0 a1 a2 A c l 59 V7 _ := up59 hx9 (by omega) (j := 0) (.slice Q F.cuts.length qc)
    have hU2 : Up w (w1.heap.size + 1) w1.heap.size a0 a1 a2 A c l 59 _ ((V7.setCell ⟨w.heap.size + 1, 0, none⟩ (.slice Q F.cuts.length qc)).setCell ⟨w.heap.size + 1, 1, none⟩ (.slice U' F.uses.length uc')) := up59 (blk_put (cs' := #[.slice Q F.cuts.length qc, .slice U' F.uses.length uc']) hx9 0 (.slice Q F.cuts.length qc) rfl) (by omega) (j := 1) (.slice U' F.uses.length uc')
    refine bodyPost_ret (results_list (rs := [.cell 2 59, .tmp 3, .tmp 4]) rfl (by simp) (.cell (w.heap.size + 1) 59 #[.slice Q F.cuts.length qc, .slice U' F.uses.length uc'] (0, 0) _ rfl hx10 Try.underlying59 rfl (by kernel_rfl) (.tmp (.tmp .nil)))) rfl ?_
    have hto : ∀ {b m_ size : Nat} {e : TypeId} {v : Value} {xs : List Value}, w5.ownsRow b e size v m_ xs → V7.ownsRow b e size v m_ xs := fun ho => own_fr ho hf (fun k hk e => by
     obtain ⟨cells, hcs⟩ := own_typed ho k hk
     obtain ⟨es, hm, _⟩ := HD5.out.ci.map
     exact hm.ne_cells hcs e.symm)
    have hlo : w.heap.size ≤ w.heap.size + 1 := by omega
    exact ⟨_, _, rfl, own_R112 (hU2.own (hU1.own (hto HQ5.out) (by decide)) (by decide)) (fun _ _ => trivial), own_Rint (hU2.own (hU1.own (hto HU5.out) (by decide)) (by decide)) (fun _ _ => trivial), below_set (below_set hci.old hlo) hlo⟩
 ·have hr : ([], [], 0, chk a0 a1 a2 l) = (r1, r2, r3, r4) := by unfold plate_Best.f at h; rw [if_neg hz] at h; injection h
  simp only [Prod.mk.injEq] at hr
  obtain ⟨rfl, rfl, rfl, hr4⟩ := hr
  have hck := checkPlate_chk a0 a1 a2 l
  rw [hr4] at hck
  have HCK := Lib.hid hck
  have hne : (r4 == 0) = false := by rw [← hr4]; simpa using hz
  have hne' : (r4 != 0) = true := by rw [← hr4]; simpa using hz
  clear h hz hr4 hck
  go_enter Try.func36, Try.ntmps36
  go_wp2_with (go_at_call 47; refine (plate_CheckPlate.calls a0 a1 a2 A c l r4 _ (Kd.C_below HL.out (below_alloc (below_alloc (Below.refl _ _) _) _)) HLC.out HCK.out).mono ?_; rintro e w1 ⟨rfl, hb1⟩; have hx1 : w1.heap[w.heap.size + 1]? = some (.cells #[.slice none 0 0, .slice none 0 0] 59 (0, 0)) := blk_below (alloc_at (by simp)) hb1; have hq_ := cf2 hx1)
  have hx2 := blk_put (cs' := #[.slice none 0 0, .slice none 0 0]) (blk_put (cs' := #[.slice none 0 0, .slice none 0 0]) hx1 0 (.slice none 0 0) rfl) 1 (.slice none 0 0) rfl
  refine bodyPost_ret (results_list (rs := [.cell 2 59, .tmp 3, .tmp 4]) rfl (by simp) (.cell (w.heap.size + 1) 59 #[.slice none 0 0, .slice none 0 0] (0, 0) _ rfl hx2 Try.underlying59 rfl (by kernel_rfl) (.tmp (.tmp .nil)))) rfl ?_
  have hlo : w.heap.size ≤ w.heap.size + 1 := by omega
  exact ⟨_, _, rfl, own_R112 (World.ownsRow_nil _ _ _ _) (fun _ _ => trivial), own_Rint (World.ownsRow_nil _ _ _ _) (fun _ _ => trivial), below_set (below_set (below_step (below_alloc (below_alloc (Below.refl _ _) _) _) hb1) hlo) hlo⟩

end Go.Proofs.Ytffjbaknglemdaa.X
