import Derived.Test.YtffjbaknglemdaaHFw
import Derived.WalkMore
namespace Go.Proofs.Ytffjbaknglemdaa.X
open Go.RowKit Go.Maps Go.Proofs.YtffjbaknglemdaaW.PrintWords Go.Proofs.YtffjbaknglemdaaW.PrintLast Go.Proofs.YtffjbaknglemdaaW.PrintMore
set_option linter.unusedSimpArgs false
set_option linter.unusedVariables false

theorem chk_len {a0 a1 a2 : Int} {l : List S115} (h : chk a0 a1 a2 l = 0) : l.length ≤ 4 := by
 have := checkPlate_some a0 a1 a2 l
 rw [h] at this
 unfold plate_CheckPlate.f at this
 by_cases h4 : (l.length : Int) > 4
 ·rw [if_pos h4] at this; cases this
 ·omega
theorem doOf_chk {a0 a1 a2 : Int} {l : List S115} {cuts : List S112} {er : Int} {st : List S103 × List Bool} (h : doOf a0 a1 a2 l cuts = (er, some st)) : chk a0 a1 a2 l = 0 := by
 unfold doOf at h
 by_cases hc : chk a0 a1 a2 l = 0
 ·exact hc
 ·rw [if_pos hc] at h; cases h
theorem plannedOf_cases (a0 a1 a2 : Int) (l : List S115) (cuts : List S112) (uses : List Int) : (∃ er, er ≠ 0 ∧ plannedOf a0 a1 a2 l cuts uses = (er, none)) ∨ ∃ st, plannedOf a0 a1 a2 l cuts uses = (0, some st) ∧ st.2.length = st.1.length ∧ 1 ≤ st.1.length ∧ st.1.length ≤ 81 ∧ cuts.length ≤ 40 ∧ uses.length = l.length ∧ l.length ≤ 4 := by
 unfold plannedOf
 rcases doOf_cases a0 a1 a2 l cuts with ⟨er, her, hdo⟩ | ⟨st, hdo, h1, h2, h3, h4⟩
 ·rw [hdo]; exact .inl ⟨er, her, rfl⟩
 ·have hl := chk_len (doOf_chk hdo)
  rw [hdo]
  dsimp only
  unfold plannedFin
  by_cases hlen : uses.length ≠ l.length
  ·rw [if_pos hlen]; exact .inl ⟨2, by decide, rfl⟩
  ·rw [if_neg hlen]
   by_cases hall : uses.all (useOk st.1.length) = true
   ·rw [if_pos hall]
    by_cases hloop : useLoop st.1 st.2 [] (uses.zip l) = true
    ·rw [if_pos hloop]; exact .inr ⟨st, rfl, h1, h2, h3, h4, by omega, hl⟩
    ·rw [if_neg hloop]; exact .inl ⟨11, by decide, rfl⟩
   ·rw [if_neg hall]; exact .inl ⟨2, by decide, rfl⟩

/-! ### the exported ones, as they are given to the print -/
def plate_Pieces.f (a0 a1 a2 : Int) (l : List S115) (cuts : List S112) : Option (List S103 × Int) := some (match doOf a0 a1 a2 l cuts with
 | (er, none) => ([], er)
 | (_, some st) => (st.1, 0))
def plate_Weigh.f (a0 a1 a2 : Int) (l : List S115) (cuts : List S112) (uses : List Int) : Option (Int × Int × Int × Int × Int) := some (match plannedOf a0 a1 a2 l cuts uses with
 | (er, none) => (0, 0, 0, 0, er)
 | (_, some st) => ((tallyOf l uses st).sp, (tallyOf l uses st).rm, chipsOf a0 a1 (tallyOf l uses st), (tallyOf l uses st).wo, 0))
def plate_ProvePlan.f (a0 a1 a2 : Int) (l : List S115) (cuts : List S112) (uses : List Int) (worth many : Int) : Option Bool := some (match plannedOf a0 a1 a2 l cuts uses with
 | (_, none) => false
 | (_, some st) => decide ((tallyOf l uses st).wo ≥ worth) && decide ((cuts.length : Int) ≤ many))
def coversB (p : S103) (x y : Int) : Bool := (plate_Piece_covers.f p.f0 p.f1 p.f2 p.f3 x y).getD false
theorem covers_f (p : S103) (x y : Int) : plate_Piece_covers.f p.f0 p.f1 p.f2 p.f3 x y = some (coversB p x y) := by
 unfold coversB
 have : ∃ r, plate_Piece_covers.f p.f0 p.f1 p.f2 p.f3 x y = some r := by
  unfold plate_Piece_covers.f
  obtain ⟨r0, h0⟩ := within_some (wrap64 (x - p.f0)) 0 (wrap64 (p.f2 - 1)); obtain ⟨r1, h1⟩ := within_some (wrap64 (y - p.f1)) 0 (wrap64 (p.f3 - 1))
  rw [h0, h1]
  simp only [Option.bind_some]
  split
  all_goals exact ⟨_, rfl⟩
 obtain ⟨r, h⟩ := this
 rw [h]; rfl
/-- The first piece, not cut, that has the unit; -1: none. -/
def pieceAt (x y : Int) : Nat → List (S103 × Bool) → Int
 | _, [] => -1
 | n, p :: r => if p.2 = true then pieceAt x y (n + 1) r else if coversB p.1 x y = true then (n : Int) else pieceAt x y (n + 1) r
theorem pieceAt_cut {x y : Int} {n : Nat} {p : S103} {r : List (S103 × Bool)} : pieceAt x y n ((p, true) :: r) = pieceAt x y (n + 1) r := by simp only [pieceAt, if_pos]
theorem pieceAt_no {x y : Int} {n : Nat} {p : S103} {r : List (S103 × Bool)} (h : coversB p x y = false) : pieceAt x y n ((p, false) :: r) = pieceAt x y (n + 1) r := by simp only [pieceAt]; rw [if_neg (by decide), h, if_neg (by decide)]
theorem pieceAt_yes {x y : Int} {n : Nat} {p : S103} {r : List (S103 × Bool)} (h : coversB p x y = true) : pieceAt x y n ((p, false) :: r) = (n : Int) := by simp only [pieceAt]; rw [if_neg (by decide), h, if_pos rfl]
def traceFin (a0 a1 : Int) (uses : List Int) (st : List S103 × List Bool) (x y : Int) : Int × Int × Int :=
 if coversB ⟨0, 0, a0, a1⟩ x y = true then (if pieceAt x y 0 (st.1.zip st.2) = -1 then (-1, -1, 0) else (pieceAt x y 0 (st.1.zip st.2), idx uses (pieceAt x y 0 (st.1.zip st.2)), 0)) else (0, 0, 2)
def plate_Trace.f (a0 a1 a2 : Int) (l : List S115) (cuts : List S112) (uses : List Int) (x y : Int) : Option (Int × Int × Int) := some (match plannedOf a0 a1 a2 l cuts uses with
 | (er, none) => (0, 0, er)
 | (_, some st) => traceFin a0 a1 uses st x y)

set_option maxRecDepth 100000 in
set_option maxHeartbeats 400000 in
theorem plate_Pieces.calls (a0 a1 a2 : Int) (A : Option Addr) (c : Nat) (l : List S115) (B : Option Addr) (d : Nat) (cuts : List S112) (r1 : List S103) (r2 : Int) (w : World) (hl : Kd.C k115 w A l.length l) (hlc : l.length ≤ c) (hq : Kd.C k112 w B cuts.length cuts) (hqc : cuts.length ≤ d) (h : plate_Pieces.f a0 a1 a2 l cuts = some (r1, r2)) :
  Calls Try.prog 48 #[.agg #[.int .i64 a0, .int .i64 a1, .int .i64 a2, .slice A l.length c], .slice B cuts.length d] w fun e w' => ∃ v0_ : Value, e = .returned (.tuple #[v0_, .int .i64 r2]) ∧ Kd.R k103 103 w' w.heap.size (fun _ => True) v0_ r1 ∧ Below w.heap.size w w' := by
 have HL := Lib.hid hl
 have HLC := Lib.hid hlc
 have HQ := Lib.hid hq
 have HQC := Lib.hid hqc
 clear hl hlc hq hqc
 rcases doOf_cases a0 a1 a2 l cuts with ⟨er, her, hdo⟩ | ⟨st, hdo, hst1, hst2, hst3, hst4⟩
 ·have hr : ([], er) = (r1, r2) := by unfold plate_Pieces.f at h; rw [hdo] at h; injection h
  injection hr with hr1 hr2
  subst hr1 hr2
  have hne : (er == 0) = false := by simpa using her
  have hne' : (er != 0) = true := by simpa using her
  have HDO := Lib.hid hdo
  clear hdo her h
  go_enter Try.func48, Try.ntmps48
  go_wp2_with (go_at_call 75; refine (do_calls a0 a1 a2 A c l B d cuts _ (Kd.C_below HL.out (below_alloc (Below.refl _ _) _)) HLC.out (Kd.C_below HQ.out (below_alloc (Below.refl _ _) _)) HQC.out).mono ?_; rintro e w1 hend; unfold DoEnd at hend; rw [HDO.out] at hend; obtain ⟨hb1, rfl⟩ := hend)
  go_ret2
  exact ⟨_, rfl, Kd.R_nil _ _ _ _ _, below_step (below_alloc (Below.refl _ _) _) hb1⟩
 ·have hr : (st.1, 0) = (r1, r2) := by unfold plate_Pieces.f at h; rw [hdo] at h; injection h
  injection hr with hr1 hr2
  subst hr1 hr2
  have HDO := Lib.hid hdo
  clear hdo h
  go_enter Try.func48, Try.ntmps48
  go_wp2_with (go_at_call 75; refine (do_calls a0 a1 a2 A c l B d cuts _ (Kd.C_below HL.out (below_alloc (Below.refl _ _) _)) HLC.out (Kd.C_below HQ.out (below_alloc (Below.refl _ _) _)) HQC.out).mono ?_; rintro e w1 hend; unfold DoEnd at hend; rw [HDO.out] at hend; obtain ⟨hb1, g, A1, c1, A2, c2, rfl, hWA⟩ := hend; have hg4 : w1.cell? ⟨g, 4, none⟩ = some (.slice A1 st.1.length c1) := (blk_cell hWA.blk 4).trans rfl)
  go_ret2
  exact ⟨_, rfl, own_R103 (own_weaken hWA.ps (by simp)) (fun _ _ => trivial), below_step (below_alloc (Below.refl _ _) _) hb1⟩

set_option maxRecDepth 100000 in
set_option maxHeartbeats 400000 in
theorem plate_Weigh.calls (a0 a1 a2 : Int) (A : Option Addr) (c : Nat) (l : List S115) (B : Option Addr) (d : Nat) (cuts : List S112) (E : Option Addr) (u : Nat) (uses : List Int) (r1 r2 r3 r4 r5 : Int) (w : World) (hl : Kd.C k115 w A l.length l) (hlc : l.length ≤ c) (hq : Kd.C k112 w B cuts.length cuts) (hqc : cuts.length ≤ d) (hu : Kd.C (Kd.int .i64) w E uses.length uses) (huc : uses.length ≤ u) (h : plate_Weigh.f a0 a1 a2 l cuts uses = some (r1, r2, r3, r4, r5)) :
  Calls Try.prog 26 #[.agg #[.int .i64 a0, .int .i64 a1, .int .i64 a2, .slice A l.length c], .agg #[.slice B cuts.length d, .slice E uses.length u]] w fun e w' => e = .returned (.tuple #[.agg #[.int .i64 r1, .int .i64 r2, .int .i64 r3, .int .i64 r4], .int .i64 r5]) ∧ Below w.heap.size w w' := by
 have HL := Lib.hid hl
 have HLC := Lib.hid hlc
 have HQ := Lib.hid hq
 have HQC := Lib.hid hqc
 have HU := Lib.hid hu
 have HUC := Lib.hid huc
 clear hl hlc hq hqc hu huc
 rcases plannedOf_cases a0 a1 a2 l cuts uses with ⟨er, her, hdo⟩ | ⟨st, hdo, hst1, hst2, hst3, hst4, hst5, hst6⟩
 ·have hr : (0, 0, 0, 0, er) = (r1, r2, r3, r4, r5) := by unfold plate_Weigh.f at h; rw [hdo] at h; injection h
  simp only [Prod.mk.injEq] at hr
  obtain ⟨rfl, rfl, rfl, rfl, rfl⟩ := hr
  have hne : (er == 0) = false := by simpa using her
  have hne' : (er != 0) = true := by simpa using her
  have HPO := Lib.hid hdo
  clear hdo her h
  go_enter Try.func26, Try.ntmps26
  go_wp2_with (go_at_call 57; refine (planned_calls a0 a1 a2 A c l B d cuts E u uses _ (Kd.C_below HL.out (below_alloc (below_alloc (below_alloc (Below.refl _ _) _) _) _)) HLC.out (Kd.C_below HQ.out (below_alloc (below_alloc (below_alloc (Below.refl _ _) _) _) _)) HQC.out (Kd.C_below HU.out (below_alloc (below_alloc (below_alloc (Below.refl _ _) _) _) _)) HUC.out).mono ?_; rintro e w1 hend; unfold WEnd at hend; rw [HPO.out] at hend; obtain ⟨hb1, rfl⟩ := hend; have hT1 : w1.heap[w.heap.size + 1 + 1]? = some (.cells #[.int .i64 0, .int .i64 0, .int .i64 0, .int .i64 0] 49 (0, 0)) := blk_below (alloc_at (by simp)) hb1; have hT1c0 : (w1).cell? ⟨w.heap.size + 1 + 1, 0, none⟩ = some (.int .i64 0) := (blk_cell hT1 0).trans rfl; have hT1cf0 : (w1).frozen? ⟨w.heap.size + 1 + 1, 0, none⟩ = false := blk_frozen hT1 0; have hT1c1 : (w1).cell? ⟨w.heap.size + 1 + 1, 1, none⟩ = some (.int .i64 0) := (blk_cell hT1 1).trans rfl; have hT1cf1 : (w1).frozen? ⟨w.heap.size + 1 + 1, 1, none⟩ = false := blk_frozen hT1 1; have hT1c2 : (w1).cell? ⟨w.heap.size + 1 + 1, 2, none⟩ = some (.int .i64 0) := (blk_cell hT1 2).trans rfl; have hT1cf2 : (w1).frozen? ⟨w.heap.size + 1 + 1, 2, none⟩ = false := blk_frozen hT1 2; have hT1c3 : (w1).cell? ⟨w.heap.size + 1 + 1, 3, none⟩ = some (.int .i64 0) := (blk_cell hT1 3).trans rfl; have hT1cf3 : (w1).frozen? ⟨w.heap.size + 1 + 1, 3, none⟩ = false := blk_frozen hT1 3)
  (try simp only [Exit.inBlock, Exit.then])
  refine bodyPost_ret (results_list (rs := [.cell 4 49, .tmp 5]) rfl (by simp) (.cell (w.heap.size + 1 + 1) 49 #[.int .i64 0, .int .i64 0, .int .i64 0, .int .i64 0] (0, 0) _ rfl (blk_put (blk_put (blk_put (blk_put hT1 0 _ (cs' := #[.int .i64 0, .int .i64 0, .int .i64 0, .int .i64 0]) rfl) 1 _ (cs' := #[.int .i64 0, .int .i64 0, .int .i64 0, .int .i64 0]) rfl) 2 _ (cs' := #[.int .i64 0, .int .i64 0, .int .i64 0, .int .i64 0]) rfl) 3 _ (cs' := #[.int .i64 0, .int .i64 0, .int .i64 0, .int .i64 0]) rfl) Try.underlying49 rfl (by kernel_rfl) (.tmp .nil))) rfl ?_
  have hlo : w.heap.size ≤ w.heap.size + 1 + 1 := by omega
  exact ⟨rfl, below_set (below_set (below_set (below_set (below_step (below_alloc (below_alloc (below_alloc (Below.refl _ _) _) _) _) hb1) hlo) hlo) hlo) hlo⟩
 ·have hr : ((tallyOf l uses st).sp, (tallyOf l uses st).rm, chipsOf a0 a1 (tallyOf l uses st), (tallyOf l uses st).wo, 0) = (r1, r2, r3, r4, r5) := by unfold plate_Weigh.f at h; rw [hdo] at h; injection h
  simp only [Prod.mk.injEq] at hr
  obtain ⟨e1, e2, e3, e4, rfl⟩ := hr
  have hwc := fun base W g A1 c1 A2 c2 h0 h1 h2 h3 h4 => e4 ▸ e3 ▸ e2 ▸ e1 ▸ weigh_calls base g a0 a1 a2 A c l A1 c1 A2 c2 st E u uses W h0 hst1 hst2 hst3 h1 HLC.out h2 HUC.out h3 h4
  have HWC := Lib.hid hwc
  have hub : uses.length ≤ 140737488351232 := by omega
  have HLEN := Lib.hid hst5
  clear hst5 hst1
  have HPO := Lib.hid hdo
  clear hdo h hwc e1 e2 e3 e4
  go_enter Try.func26, Try.ntmps26
  go_wp2_with first | (go_at_call 57; refine (planned_calls a0 a1 a2 A c l B d cuts E u uses _ (Kd.C_below HL.out (below_alloc (below_alloc (below_alloc (Below.refl _ _) _) _) _)) HLC.out (Kd.C_below HQ.out (below_alloc (below_alloc (below_alloc (Below.refl _ _) _) _) _)) HQC.out (Kd.C_below HU.out (below_alloc (below_alloc (below_alloc (Below.refl _ _) _) _) _)) HUC.out).mono ?_; rintro e w1 hend; unfold WEnd at hend; rw [HPO.out] at hend; obtain ⟨hb1, g, A1, c1, A2, c2, rfl, hWA⟩ := hend; have hT1 : w1.heap[w.heap.size + 1 + 1]? = some (.cells #[.int .i64 0, .int .i64 0, .int .i64 0, .int .i64 0] 49 (0, 0)) := blk_below (alloc_at (by simp)) hb1; have hb1w := below_step (by repeat (first | exact Below.refl w.heap.size w | apply below_alloc)) hb1; have hX1 : w1.heap[w.heap.size + 1]? = some (.cells #[.slice B cuts.length d, .slice E uses.length u] 59 (0, 0)) := blk_below (by first | exact alloc_at (by simp) | exact blk_below (alloc_at (by simp)) (below_alloc (Below.refl _ _) _)) hb1; have hx0 : w1.cell? ⟨w.heap.size + 1, 0, none⟩ = some (.slice B cuts.length d) := (blk_cell hX1 0).trans rfl; have hx1 : w1.cell? ⟨w.heap.size + 1, 1, none⟩ = some (.slice E uses.length u) := (blk_cell hX1 1).trans rfl) | (go_at_call 58; refine (HWC.out _ _ g A1 c1 A2 c2 hWA (Kd.C_below HL.out hb1w) (Kd.C_below HU.out hb1w) hub HLEN.out).mono ?_; rintro e w2 ⟨rfl, hb2⟩; have hT2 := blk_below hT1 hb2; have hT2c0 : (w2).cell? ⟨w.heap.size + 1 + 1, 0, none⟩ = some (.int .i64 0) := (blk_cell hT2 0).trans rfl; have hT2cf0 : (w2).frozen? ⟨w.heap.size + 1 + 1, 0, none⟩ = false := blk_frozen hT2 0; have hT2c1 : (w2).cell? ⟨w.heap.size + 1 + 1, 1, none⟩ = some (.int .i64 0) := (blk_cell hT2 1).trans rfl; have hT2cf1 : (w2).frozen? ⟨w.heap.size + 1 + 1, 1, none⟩ = false := blk_frozen hT2 1; have hT2c2 : (w2).cell? ⟨w.heap.size + 1 + 1, 2, none⟩ = some (.int .i64 0) := (blk_cell hT2 2).trans rfl; have hT2cf2 : (w2).frozen? ⟨w.heap.size + 1 + 1, 2, none⟩ = false := blk_frozen hT2 2; have hT2c3 : (w2).cell? ⟨w.heap.size + 1 + 1, 3, none⟩ = some (.int .i64 0) := (blk_cell hT2 3).trans rfl; have hT2cf3 : (w2).frozen? ⟨w.heap.size + 1 + 1, 3, none⟩ = false := blk_frozen hT2 3)
  (try simp only [Exit.inBlock, Exit.then])
  refine bodyPost_ret (results_list (rs := [.cell 4 49, .tmp 5]) rfl (by simp) (.cell (w.heap.size + 1 + 1) 49 #[.int .i64 r1, .int .i64 r2, .int .i64 r3, .int .i64 r4] (0, 0) _ rfl (blk_put (blk_put (blk_put (blk_put hT2 0 _ (cs' := #[.int .i64 r1, .int .i64 0, .int .i64 0, .int .i64 0]) rfl) 1 _ (cs' := #[.int .i64 r1, .int .i64 r2, .int .i64 0, .int .i64 0]) rfl) 2 _ (cs' := #[.int .i64 r1, .int .i64 r2, .int .i64 r3, .int .i64 0]) rfl) 3 _ (cs' := #[.int .i64 r1, .int .i64 r2, .int .i64 r3, .int .i64 r4]) rfl) Try.underlying49 rfl (by kernel_rfl) (.tmp .nil))) rfl ?_
  have hlo : w.heap.size ≤ w.heap.size + 1 + 1 := by omega
  exact ⟨rfl, below_set (below_set (below_set (below_set (below_step hb1w hb2) hlo) hlo) hlo) hlo⟩

set_option maxRecDepth 100000 in
set_option maxHeartbeats 1000000 in
theorem plate_ProvePlan.calls (a0 a1 a2 : Int) (A : Option Addr) (c : Nat) (l : List S115) (B : Option Addr) (d : Nat) (cuts : List S112) (E : Option Addr) (u : Nat) (uses : List Int) (a2_ a3_ : Int) (r : Bool) (w : World) (hl : Kd.C k115 w A l.length l) (hlc : l.length ≤ c) (hq : Kd.C k112 w B cuts.length cuts) (hqc : cuts.length ≤ d) (hu : Kd.C (Kd.int .i64) w E uses.length uses) (huc : uses.length ≤ u) (h : plate_ProvePlan.f a0 a1 a2 l cuts uses a2_ a3_ = some r) :
  Calls Try.prog 46 #[.agg #[.int .i64 a0, .int .i64 a1, .int .i64 a2, .slice A l.length c], .agg #[.slice B cuts.length d, .slice E uses.length u], .int .i64 a2_, .int .i64 a3_] w fun e w' => e = .returned (.bool r) ∧ Below w.heap.size w w' := by
 have hqm : cuts.length ≤ 9223372036854775807 := hq.2.1
 have HL := Lib.hid hl
 have HLC := Lib.hid hlc
 have HQ := Lib.hid hq
 have HQC := Lib.hid hqc
 have HU := Lib.hid hu
 have HUC := Lib.hid huc
 clear hl hlc hq hqc hu huc
 rcases plannedOf_cases a0 a1 a2 l cuts uses with ⟨er, her, hdo⟩ | ⟨st, hdo, hst1, hst2, hst3, hst4, hst5, hst6⟩
 ·have hr : false = r := by unfold plate_ProvePlan.f at h; rw [hdo] at h; injection h
  subst hr
  have hne : (er == 0) = false := by simpa using her
  have hne' : (er != 0) = true := by simpa using her
  have HPO := Lib.hid hdo
  clear hdo her h
  go_enter Try.func46, Try.ntmps46
  go_wp2_with (go_at_call 57; refine (planned_calls a0 a1 a2 A c l B d cuts E u uses _ (Kd.C_below HL.out (below_alloc (below_alloc (Below.refl _ _) _) _)) HLC.out (Kd.C_below HQ.out (below_alloc (below_alloc (Below.refl _ _) _) _)) HQC.out (Kd.C_below HU.out (below_alloc (below_alloc (Below.refl _ _) _) _)) HUC.out).mono ?_; rintro e w1 hend; unfold WEnd at hend; rw [HPO.out] at hend; obtain ⟨hb1, rfl⟩ := hend)
  go_ret
  exact ⟨rfl, below_step (below_alloc (below_alloc (Below.refl _ _) _) _) hb1⟩
 ·have hr : (decide ((tallyOf l uses st).wo ≥ a2_) && decide ((cuts.length : Int) ≤ a3_)) = r := by unfold plate_ProvePlan.f at h; rw [hdo] at h; injection h
  have hwc := fun base W g A1 c1 A2 c2 h0 h1 h2 h3 h4 => weigh_calls base g a0 a1 a2 A c l A1 c1 A2 c2 st E u uses W h0 hst1 hst2 hst3 h1 HLC.out h2 HUC.out h3 h4
  generalize (tallyOf l uses st).wo = wo at hr hwc
  generalize (tallyOf l uses st).sp = sp at hwc
  generalize (tallyOf l uses st).rm = rm at hwc
  generalize chipsOf a0 a1 (tallyOf l uses st) = ch at hwc
  have HWC := Lib.hid hwc
  have hub : uses.length ≤ 140737488351232 := by omega
  have HLEN := Lib.hid hst5
  clear hst5 hst1
  have HPO := Lib.hid hdo
  have HR := Lib.hid hr
  clear hdo h hwc hr
  by_cases hw : wo ≥ a2_
  ·have hwd : decide (wo ≥ a2_) = true := decide_eq_true hw
   have hr : decide ((cuts.length : Int) ≤ a3_) = r := by rw [← HR.out, hwd]; rfl
   have HR2 := Lib.hid hr
   clear hr HR hw
   have hfd : ∀ w : World, (Instr.field 49 (.agg #[.int .i64 sp, .int .i64 rm, .int .i64 ch, .int .i64 wo]) 3).run Try.prog w = .ok (.int .i64 wo) w := fun _ => by kernel_rfl
   go_enter Try.func46, Try.ntmps46
   go_wp2_with first | (go_at_call 57; refine (planned_calls a0 a1 a2 A c l B d cuts E u uses _ (Kd.C_below HL.out (below_alloc (below_alloc (Below.refl _ _) _) _)) HLC.out (Kd.C_below HQ.out (below_alloc (below_alloc (Below.refl _ _) _) _)) HQC.out (Kd.C_below HU.out (below_alloc (below_alloc (Below.refl _ _) _) _)) HUC.out).mono ?_; rintro e w1 hend; unfold WEnd at hend; rw [HPO.out] at hend; obtain ⟨hb1, g, A1, c1, A2, c2, rfl, hWA⟩ := hend; have hb1w := below_step (by repeat (first | exact Below.refl w.heap.size w | apply below_alloc)) hb1; have hX1 : w1.heap[w.heap.size + 1]? = some (.cells #[.slice B cuts.length d, .slice E uses.length u] 59 (0, 0)) := blk_below (by first | exact alloc_at (by simp) | exact blk_below (alloc_at (by simp)) (below_alloc (Below.refl _ _) _)) hb1; have hx0 : w1.cell? ⟨w.heap.size + 1, 0, none⟩ = some (.slice B cuts.length d) := (blk_cell hX1 0).trans rfl; have hx1 : w1.cell? ⟨w.heap.size + 1, 1, none⟩ = some (.slice E uses.length u) := (blk_cell hX1 1).trans rfl) | (go_at_call 58; refine (HWC.out _ _ g A1 c1 A2 c2 hWA (Kd.C_below HL.out hb1w) (Kd.C_below HU.out hb1w) hub HLEN.out).mono ?_; rintro e w2 ⟨rfl, hb2⟩; have hX2 := blk_below hX1 hb2; have hx20 : w2.cell? ⟨w.heap.size + 1, 0, none⟩ = some (.slice B cuts.length d) := (blk_cell hX2 0).trans rfl)
   go_ret
   rw [← HR2.out]
   exact ⟨rfl, below_step hb1w hb2⟩
  ·have hwd : decide (wo ≥ a2_) = false := decide_eq_false hw
   have hr : false = r := by rw [← HR.out, hwd]; rfl
   subst hr
   clear HR hw
   have hfd : ∀ w : World, (Instr.field 49 (.agg #[.int .i64 sp, .int .i64 rm, .int .i64 ch, .int .i64 wo]) 3).run Try.prog w = .ok (.int .i64 wo) w := fun _ => by kernel_rfl
   go_enter Try.func46, Try.ntmps46
   go_wp2_with first | (go_at_call 57; refine (planned_calls a0 a1 a2 A c l B d cuts E u uses _ (Kd.C_below HL.out (below_alloc (below_alloc (Below.refl _ _) _) _)) HLC.out (Kd.C_below HQ.out (below_alloc (below_alloc (Below.refl _ _) _) _)) HQC.out (Kd.C_below HU.out (below_alloc (below_alloc (Below.refl _ _) _) _)) HUC.out).mono ?_; rintro e w1 hend; unfold WEnd at hend; rw [HPO.out] at hend; obtain ⟨hb1, g, A1, c1, A2, c2, rfl, hWA⟩ := hend; have hb1w := below_step (by repeat (first | exact Below.refl w.heap.size w | apply below_alloc)) hb1; have hX1 : w1.heap[w.heap.size + 1]? = some (.cells #[.slice B cuts.length d, .slice E uses.length u] 59 (0, 0)) := blk_below (by first | exact alloc_at (by simp) | exact blk_below (alloc_at (by simp)) (below_alloc (Below.refl _ _) _)) hb1; have hx0 : w1.cell? ⟨w.heap.size + 1, 0, none⟩ = some (.slice B cuts.length d) := (blk_cell hX1 0).trans rfl; have hx1 : w1.cell? ⟨w.heap.size + 1, 1, none⟩ = some (.slice E uses.length u) := (blk_cell hX1 1).trans rfl) | (go_at_call 58; refine (HWC.out _ _ g A1 c1 A2 c2 hWA (Kd.C_below HL.out hb1w) (Kd.C_below HU.out hb1w) hub HLEN.out).mono ?_; rintro e w2 ⟨rfl, hb2⟩; )
   go_ret
   exact ⟨rfl, below_step hb1w hb2⟩

set_option maxRecDepth 100000 in
set_option maxHeartbeats 1000000 in
theorem plate_Trace.calls (a0 a1 a2 : Int) (A : Option Addr) (c : Nat) (l : List S115) (B : Option Addr) (d : Nat) (cuts : List S112) (E : Option Addr) (u : Nat) (uses : List Int) (x y : Int) (r1 r2 r3 : Int) (w : World) (hl : Kd.C k115 w A l.length l) (hlc : l.length ≤ c) (hq : Kd.C k112 w B cuts.length cuts) (hqc : cuts.length ≤ d) (hu : Kd.C (Kd.int .i64) w E uses.length uses) (huc : uses.length ≤ u) (h : plate_Trace.f a0 a1 a2 l cuts uses x y = some (r1, r2, r3)) :
  Calls Try.prog 31 #[.agg #[.int .i64 a0, .int .i64 a1, .int .i64 a2, .slice A l.length c], .agg #[.slice B cuts.length d, .slice E uses.length u], .int .i64 x, .int .i64 y] w fun e w' => e = .returned (.tuple #[.int .i64 r1, .int .i64 r2, .int .i64 r3]) ∧ Below w.heap.size w w' := by
 have HL := Lib.hid hl
 have HLC := Lib.hid hlc
 have HQ := Lib.hid hq
 have HQC := Lib.hid hqc
 have HU := Lib.hid hu
 have HUC := Lib.hid huc
 clear hl hlc hq hqc hu huc
 rcases plannedOf_cases a0 a1 a2 l cuts uses with ⟨er, her, hdo⟩ | ⟨st, hdo, hst1, hst2, hst3, hst4, hst5, hst6⟩
 ·have hr : (0, 0, er) = (r1, r2, r3) := by unfold plate_Trace.f at h; rw [hdo] at h; injection h
  simp only [Prod.mk.injEq] at hr
  obtain ⟨rfl, rfl, rfl⟩ := hr
  have hne : (er == 0) = false := by simpa using her
  have hne' : (er != 0) = true := by simpa using her
  have HPO := Lib.hid hdo
  clear hdo her h
  go_enter Try.func31, Try.ntmps31
  go_wp2
  go_step3
  go_wp2_with (go_at_call 57; refine (planned_calls a0 a1 a2 A c l B d cuts E u uses _ (Kd.C_below HL.out (below_alloc (below_alloc (Below.refl _ _) _) _)) HLC.out (Kd.C_below HQ.out (below_alloc (below_alloc (Below.refl _ _) _) _)) HQC.out (Kd.C_below HU.out (below_alloc (below_alloc (Below.refl _ _) _) _)) HUC.out).mono ?_; rintro e w1 hend; unfold WEnd at hend; rw [HPO.out] at hend; obtain ⟨hb1, rfl⟩ := hend)
  (try simp only [Exit.inBlock, Exit.then, Exit.noGoto])
  refine bodyPost_ret (results_list (rs := [.tmp 8, .tmp 9, .tmp 10]) rfl (by simp) (.tmp (.tmp (.tmp .nil)))) rfl ?_
  exact ⟨rfl, below_step (below_alloc (below_alloc (Below.refl _ _) _) _) hb1⟩
 ·have hr : traceFin a0 a1 uses st x y = (r1, r2, r3) := by unfold plate_Trace.f at h; rw [hdo] at h; injection h
  have HR := Lib.hid hr
  have HPO := Lib.hid hdo
  have HLEN := Lib.hid hst5
  have hub : uses.length ≤ 140737488351232 := by omega
  have HUB := Lib.hid hub
  obtain ⟨cw, hcw⟩ : ∃ cw, coversB ⟨0, 0, a0, a1⟩ x y = cw := ⟨_, rfl⟩
  have hcf := covers_f ⟨0, 0, a0, a1⟩ x y
  rw [hcw] at hcf
  have HCW := Lib.hid hcw
  have HCF := Lib.hid hcf
  have hmx : st.1.length ≤ 9223372036854775807 := by omega
  have HST := Lib.hid hst1
  clear hdo h hr hst5 hcw hcf hub hst1 hst6
  cases cw with
  | false =>
   have hr : (0, 0, 2) = (r1, r2, r3) := by rw [← HR.out]; unfold traceFin; rw [HCW.out, if_neg (by decide)]
   simp only [Prod.mk.injEq] at hr
   obtain ⟨rfl, rfl, rfl⟩ := hr
   go_enter Try.func31, Try.ntmps31
   go_wp2
   go_step3
   go_wp2_with first | (go_at_call 57; refine (planned_calls a0 a1 a2 A c l B d cuts E u uses _ (Kd.C_below HL.out (below_alloc (below_alloc (Below.refl _ _) _) _)) HLC.out (Kd.C_below HQ.out (below_alloc (below_alloc (Below.refl _ _) _) _)) HQC.out (Kd.C_below HU.out (below_alloc (below_alloc (Below.refl _ _) _) _)) HUC.out).mono ?_; rintro e w1 hend; unfold WEnd at hend; rw [HPO.out] at hend; obtain ⟨hb1, g, A1, c1, A2, c2, rfl, hWA⟩ := hend; have hb1w := below_step (by repeat (first | exact Below.refl w.heap.size w | apply below_alloc)) hb1; have hX1 : w1.heap[w.heap.size + 1]? = some (.cells #[.slice B cuts.length d, .slice E uses.length u] 59 (0, 0)) := blk_below (by first | exact alloc_at (by simp) | exact blk_below (alloc_at (by simp)) (below_alloc (Below.refl _ _) _)) hb1; have gc0 : (w1).cell? ⟨g, 0, none⟩ = some (.int .i64 a0) := (blk_cell hWA.blk 0).trans rfl; have gc1 : (w1).cell? ⟨g, 1, none⟩ = some (.int .i64 a1) := (blk_cell hWA.blk 1).trans rfl; have gc2 : (w1).cell? ⟨g, 2, none⟩ = some (.int .i64 a2) := (blk_cell hWA.blk 2).trans rfl; have gc3 : (w1).cell? ⟨g, 3, none⟩ = some (.slice A l.length c) := (blk_cell hWA.blk 3).trans rfl; have gc4 : (w1).cell? ⟨g, 4, none⟩ = some (.slice A1 st.1.length c1) := (blk_cell hWA.blk 4).trans rfl; have gc5 : (w1).cell? ⟨g, 5, none⟩ = some (.slice A2 st.2.length c2) := (blk_cell hWA.blk 5).trans rfl) | (go_at_call 61; refine (plate_Plate_whole.calls a0 a1 a2 A c l 0 0 a0 a1 _ (Kd.C_below HL.out hb1w) HLC.out rfl).mono ?_; rintro e w2 ⟨rfl, hb2⟩) | (go_at_call 62; refine (plate_Piece_covers.calls _ _ _ _ _ _ _ _ HCF.out).mono ?_; rintro e w3 ⟨rfl, hb3⟩)
   (try simp only [Exit.inBlock, Exit.then, Exit.noGoto])
   refine bodyPost_ret (results_list (rs := [.tmp 8, .tmp 9, .tmp 10]) rfl (by simp) (.tmp (.tmp (.tmp .nil)))) rfl ?_
   exact ⟨rfl, below_step (below_step hb1w hb2) hb3⟩
  | true =>
   go_enter Try.func31, Try.ntmps31
   go_wp2
   go_step3
   go_wp2_with first | (go_at_call 57; refine (planned_calls a0 a1 a2 A c l B d cuts E u uses _ (Kd.C_below HL.out (below_alloc (below_alloc (Below.refl _ _) _) _)) HLC.out (Kd.C_below HQ.out (below_alloc (below_alloc (Below.refl _ _) _) _)) HQC.out (Kd.C_below HU.out (below_alloc (below_alloc (Below.refl _ _) _) _)) HUC.out).mono ?_; rintro e w1 hend; unfold WEnd at hend; rw [HPO.out] at hend; obtain ⟨hb1, g, A1, c1, A2, c2, rfl, hWA⟩ := hend; have hb1w := below_step (by repeat (first | exact Below.refl w.heap.size w | apply below_alloc)) hb1; have hX1 : w1.heap[w.heap.size + 1]? = some (.cells #[.slice B cuts.length d, .slice E uses.length u] 59 (0, 0)) := blk_below (by first | exact alloc_at (by simp) | exact blk_below (alloc_at (by simp)) (below_alloc (Below.refl _ _) _)) hb1; have gc0 : (w1).cell? ⟨g, 0, none⟩ = some (.int .i64 a0) := (blk_cell hWA.blk 0).trans rfl; have gc1 : (w1).cell? ⟨g, 1, none⟩ = some (.int .i64 a1) := (blk_cell hWA.blk 1).trans rfl; have gc2 : (w1).cell? ⟨g, 2, none⟩ = some (.int .i64 a2) := (blk_cell hWA.blk 2).trans rfl; have gc3 : (w1).cell? ⟨g, 3, none⟩ = some (.slice A l.length c) := (blk_cell hWA.blk 3).trans rfl; have gc4 : (w1).cell? ⟨g, 4, none⟩ = some (.slice A1 st.1.length c1) := (blk_cell hWA.blk 4).trans rfl; have gc5 : (w1).cell? ⟨g, 5, none⟩ = some (.slice A2 st.2.length c2) := (blk_cell hWA.blk 5).trans rfl) | (go_at_call 61; refine (plate_Plate_whole.calls a0 a1 a2 A c l 0 0 a0 a1 _ (Kd.C_below HL.out hb1w) HLC.out rfl).mono ?_; rintro e w2 ⟨rfl, hb2⟩) | (go_at_call 62; refine (plate_Piece_covers.calls _ _ _ _ _ _ _ _ HCF.out).mono ?_; rintro e w3 ⟨rfl, hb3⟩; have hb23 := below_step hb2 hb3; have hG3 := hWA.below hb23; have hX3 := blk_below hX1 hb23; have hB3 := below_step hb1w hb23; have hg34 : w3.cell? ⟨g, 4, none⟩ = some (.slice A1 st.1.length c1) := (blk_cell hG3.blk 4).trans rfl)
   go_step3
   go_wp2
   have hW3 := hG3.weaken (base' := w.heap.size) (by simp; omega)
   clear hG3 hb1 hb2 hb3 hb23 hg34 hWA hX1 hb1w gc0 gc1 gc2 gc3 gc4 gc5
   obtain ⟨g2, c2', he2, hlo2, hg2⟩ := hW3.cs.form (by rw [HST.out]; omega)
   simp only [Value.slice.injEq] at he2
   obtain ⟨rfl, -, rfl⟩ := he2
   clear hlo2 hg2
   rw [HST.out] at hW3
   generalize hme : st.1.length = m at *
   have HME := Lib.hid hme
   clear hme
   have HW := Lib.hid hW3
   have HX := Lib.hid hX3
   clear hW3 hX3
   go_loopw [39, 8] (fun v v8 wr => ∃ (k : Nat), v = .int .i64 k ∧ v8 = .int .i64 (-1) ∧ k ≤ m ∧ Hid (pieceAt x y 0 (st.1.zip st.2) = pieceAt x y k ((st.1.zip st.2).drop k)) ∧ Hid (wr.heap[w.heap.size + 1]? = some (.cells #[.slice B cuts.length d, .slice E uses.length u] 59 (0, 0))) ∧ Hid (WorkAt wr w.heap.size g a0 a1 a2 (.slice A l.length c) (.slice A1 m c1) (.slice (some ⟨g2, 0, none⟩) m c2) st.1 st.2) ∧ Below w.heap.size w wr) (fun v v8 _ => m - (intOf v).toNat)
   case atStart => exact ⟨0, rfl, rfl, Nat.zero_le _, Lib.hid rfl, HX, HW, hB3⟩
   case round =>
    clear HW HX hB3
    obtain ⟨k, rfl, rfl, hk, HQ', HX, HW, hB⟩ := hrel
    by_cases hlt : k < m
    ·have hi0 : (0 : Int) ≤ (k : Int) := by omega
     have hi1 : (k : Int) < (m : Int) := by omega
     have hR1 := own_R103 (ok := fun _ => True) (by have := HW.out.ps; rw [HME.out] at this ⊢; exact this) (fun _ _ => trivial)
     obtain ⟨-, -, hCC⟩ := Kd.R_reads' hR1
     obtain ⟨ad1, rfl, hy0, hy1, hy2, hy3⟩ := at_T103 hCC (k : Int) hi0 (by rw [HME.out]; exact hi1)
     simp only [Int.toNat_natCast] at hy0 hy1 hy2 hy3
     clear hR1 hCC
     have hmk := (own_at_of (enc := Value.bool) (d := false) (by have := HW.out.cs; rw [HST.out] at this; exact this) (k : Int) hi0 hi1).1
     simp only [Int.toNat_natCast] at hmk
     have hdr : (st.1.zip st.2).drop k = (rd_T103 st.1 (k : Int), rdOf false st.2 (k : Int)) :: (st.1.zip st.2).drop (k + 1) := by
      have h1 : k < st.1.length := by have := HME.out; omega
      have h2 : k < st.2.length := by have := HST.out; omega
      rw [List.drop_eq_getElem_cons (by simp; omega)]; simp [rdOf, rd_T103, h1, h2, List.getD_eq_getElem?_getD]
     generalize rd_T103 st.1 (k : Int) = p at *
     generalize rdOf false st.2 (k : Int) = cb at *
     have hbA := below_alloc (Below.refl wr.heap.size wr) (.cells #[.int .i64 p.f0, .int .i64 p.f1, .int .i64 p.f2, .int .i64 p.f3] 103)
     have hPA : (wr.alloc (.cells #[.int .i64 p.f0, .int .i64 p.f1, .int .i64 p.f2, .int .i64 p.f3] 103)).heap[wr.heap.size]? = some (.cells #[.int .i64 p.f0, .int .i64 p.f1, .int .i64 p.f2, .int .i64 p.f3] 103 (0, 0)) := alloc_at rfl
     have hGA := HW.out.below hbA
     have hXA := blk_below HX.out hbA
     have hBA := below_step hB hbA
     have hg5 := (blk_cell hGA.blk 5).trans rfl
     have hmkA := pw_cell_below hbA hmk
     clear hbA
     have HGA := Lib.hid hGA
     have HXA := Lib.hid hXA
     clear hGA hXA HW HX hB
     cases cb with
     | true =>
      have hst2 : pieceAt x y 0 (st.1.zip st.2) = pieceAt x y (k + 1) ((st.1.zip st.2).drop (k + 1)) := by rw [HQ'.out, hdr]; exact pieceAt_cut
      have HST2 := Lib.hid hst2
      clear hst2 hdr HQ'
      go_wp2
      go_roundw
      case rel => exact ⟨k + 1, by go_num, rfl, by omega, HST2, HXA, HGA, hBA⟩
      case measure => simp [intOf]; omega
     | false =>
      have HDR := Lib.hid hdr
      clear hdr
      obtain ⟨cv, hcv⟩ : ∃ cv, coversB p x y = cv := ⟨_, rfl⟩
      have hcf := covers_f p x y
      rw [hcv] at hcf
      have HCV := Lib.hid hcv
      have HCF2 := Lib.hid hcf
      clear hcv hcf
      cases cv with
      | false =>
       have hst2 : pieceAt x y 0 (st.1.zip st.2) = pieceAt x y (k + 1) ((st.1.zip st.2).drop (k + 1)) := by rw [HQ'.out, HDR.out]; exact pieceAt_no HCV.out
       have HST2 := Lib.hid hst2
       clear hst2 HDR HQ'
       go_wp2_with (go_at_call 62; refine (plate_Piece_covers.calls _ _ _ _ _ _ _ _ HCF2.out).mono ?_; rintro e w5 ⟨rfl, hb5⟩; have HG5 := Lib.hid (HGA.out.below hb5); have HX5 := Lib.hid (blk_below HXA.out hb5); have hB5 := below_step hBA hb5)
       go_roundw
       case rel => exact ⟨k + 1, by go_num, rfl, by omega, HST2, HX5, HG5, hB5⟩
       case measure => simp [intOf]; omega
      | true =>
       have hst2 : pieceAt x y 0 (st.1.zip st.2) = (k : Int) := by rw [HQ'.out, HDR.out]; exact pieceAt_yes HCV.out
       have hr : ((k : Int), idx uses (k : Int), 0) = (r1, r2, r3) := by rw [← HR.out]; unfold traceFin; rw [HCW.out, if_pos rfl, hst2, if_neg (by omega)]
       simp only [Prod.mk.injEq] at hr
       obtain ⟨e1, e2, rfl⟩ := hr
       have hkn : ((k : Int) == -1) = false := by rw [beq_eq_false_iff_ne]; omega
       have HE1 := Lib.hid e1
       have HE2 := Lib.hid e2
       clear hst2 e1 e2 HDR HQ' HR
       go_wp2_with first | (go_at_call 62; refine (plate_Piece_covers.calls _ _ _ _ _ _ _ _ HCF2.out).mono ?_; rintro e w5 ⟨rfl, hb5⟩; have hx51 : w5.cell? ⟨w.heap.size + 1, 1, none⟩ = some (.slice E uses.length u) := (blk_cell (blk_below HXA.out hb5) 1).trans rfl; have hB5 := below_step hBA hb5) | (go_at_call 63; refine (idx_calls E u uses (k : Int) _ (Kd.C_below HU.out hB5) HUC.out HUB.out).mono ?_; rintro e w6 ⟨rfl, hb6⟩)
       (try simp only [Exit.inBlock, Exit.then, Exit.noGoto])
       refine bodyPost_ret (results_list (rs := [.tmp 8, .tmp 9, .tmp 10]) rfl (by simp) (.tmp (.tmp (.tmp .nil)))) rfl ?_
       rw [← HE1.out, ← HE2.out]
       exact ⟨rfl, below_step hB5 hb6⟩
    ·have hke : k = m := by omega
     subst hke
     have hst2 : pieceAt x y 0 (st.1.zip st.2) = -1 := by rw [HQ'.out, List.drop_eq_nil_of_le (by have := HME.out; simp; omega)]; rfl
     have hr : (-1, -1, 0) = (r1, r2, r3) := by rw [← HR.out]; unfold traceFin; rw [HCW.out, if_pos rfl, hst2, if_pos rfl]
     simp only [Prod.mk.injEq] at hr
     obtain ⟨rfl, rfl, rfl⟩ := hr
     clear hst2 HQ' HR
     go_wp2
     (try simp only [Exit.inBlock, Exit.then, Exit.noGoto])
     refine bodyPost_ret (results_list (rs := [.tmp 8, .tmp 9, .tmp 10]) rfl (by simp) (.tmp (.tmp (.tmp .nil)))) rfl ?_
     exact ⟨rfl, hB⟩
end Go.Proofs.Ytffjbaknglemdaa.X
