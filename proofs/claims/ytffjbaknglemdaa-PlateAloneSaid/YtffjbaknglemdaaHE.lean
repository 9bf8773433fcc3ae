import Derived.Test.YtffjbaknglemdaaHD
import Derived.Test.YtffjbaknglemdaaHE0
import Derived.Test.YtffjbaknglemdaaXF81
import Derived.WideMake
namespace Go.Proofs.Ytffjbaknglemdaa.X
open Go.RowKit Go.Maps Go.Proofs.YtffjbaknglemdaaW.PrintWords Go.Proofs.YtffjbaknglemdaaW.PrintLast Go.Proofs.YtffjbaknglemdaaW.PrintMore
set_option linter.unusedSimpArgs false
set_option linter.unusedVariables false

/-! ### what planned computes -/
def fitsB (x : S115) (p : S103) : Bool := (plate_Wanted_fits.f x.f0 x.f1 x.f2 x.f3 x.f4.f0 x.f4.f1 x.f5.f0 x.f5.f1 p.f0 p.f1 p.f2 p.f3).getD false
theorem has_some (a b c d : Int) : ∃ r, plate_Range_has.f a b c d = some r := by unfold plate_Range_has.f; repeat' split
                                                                                 all_goals exact ⟨_, rfl⟩
theorem fits_f (x : S115) (p : S103) : plate_Wanted_fits.f x.f0 x.f1 x.f2 x.f3 x.f4.f0 x.f4.f1 x.f5.f0 x.f5.f1 p.f0 p.f1 p.f2 p.f3 = some (fitsB x p) := by
  unfold fitsB
  have : ∃ r, plate_Wanted_fits.f x.f0 x.f1 x.f2 x.f3 x.f4.f0 x.f4.f1 x.f5.f0 x.f5.f1 p.f0 p.f1 p.f2 p.f3 = some r := by
    unfold plate_Wanted_fits.f
    obtain ⟨r0, h0⟩ := has_some x.f4.f0 x.f4.f1 p.f0 p.f2; obtain ⟨r1, h1⟩ := has_some x.f5.f0 x.f5.f1 p.f1 p.f3
    rw [h0, h1]
    simp only [Option.bind_some]
    repeat' split
    all_goals exact ⟨_, rfl⟩
  obtain ⟨r, h⟩ := this
  rw [h]; rfl
def useOk (m : Int) (n : Int) : Bool := (plate_within.f n (-1) (m - 1)).getD false
theorem useOk_f (m n : Int) : plate_within.f n (-1) (m - 1) = some (useOk m n) := by
  unfold useOk; obtain ⟨r, h⟩ := within_some n (-1) (m - 1); rw [h]; rfl
theorem useOk_iff {m n : Int} : useOk m n = true ↔ -1 ≤ n ∧ n < m := by
  unfold useOk
  by_cases h : -1 ≤ n ∧ n < m
  · rw [within_yes (by omega)]; simp [h]
  · rw [within_no (by omega)]; simp [h]
def useLoop (ps : List S103) (cs : List Bool) : List Int → List (Int × S115) → Bool
  | _, [] => true
  | used, x :: r => if x.1 = -1 then useLoop ps cs used r else
    if x.1 ∈ used then false else if cs.getD x.1.toNat false = true then false else if fitsB x.2 (ps.getD x.1.toNat z103) = true then useLoop ps cs (x.1 :: used) r else false
theorem useLoop_cons {ps : List S103} {cs : List Bool} {used : List Int} {n : Int} {x : S115} {r : List (Int × S115)} : useLoop ps cs used ((n, x) :: r) = if n = -1 then useLoop ps cs used r else
    if n ∈ used then false else if cs.getD n.toNat false = true then false else if fitsB x (ps.getD n.toNat z103) = true then useLoop ps cs (n :: used) r else false := rfl
theorem use_skip {ps : List S103} {cs : List Bool} {used : List Int} {n : Int} {x : S115} {r : List (Int × S115)} (h : n = -1) : useLoop ps cs used ((n, x) :: r) = useLoop ps cs used r := by rw [useLoop_cons, if_pos h]
theorem use_bad1 {ps : List S103} {cs : List Bool} {used : List Int} {n : Int} {x : S115} {r : List (Int × S115)} (h : ¬ n = -1) (h1 : n ∈ used) : useLoop ps cs used ((n, x) :: r) = false := by rw [useLoop_cons, if_neg h, if_pos h1]
theorem use_bad2 {ps : List S103} {cs : List Bool} {used : List Int} {n : Int} {x : S115} {r : List (Int × S115)} (h : ¬ n = -1) (h1 : ¬ n ∈ used) (h2 : cs.getD n.toNat false = true) : useLoop ps cs used ((n, x) :: r) = false := by rw [useLoop_cons, if_neg h, if_neg h1, if_pos h2]
theorem use_bad3 {ps : List S103} {cs : List Bool} {used : List Int} {n : Int} {x : S115} {r : List (Int × S115)} (h : ¬ n = -1) (h1 : ¬ n ∈ used) (h2 : cs.getD n.toNat false = false) (h3 : fitsB x (ps.getD n.toNat z103) = false) : useLoop ps cs used ((n, x) :: r) = false := by rw [useLoop_cons, if_neg h, if_neg h1, h2, if_neg (by decide), h3, if_neg (by decide)]
theorem use_good {ps : List S103} {cs : List Bool} {used : List Int} {n : Int} {x : S115} {r : List (Int × S115)} (h : ¬ n = -1) (h1 : ¬ n ∈ used) (h2 : cs.getD n.toNat false = false) (h3 : fitsB x (ps.getD n.toNat z103) = true) : useLoop ps cs used ((n, x) :: r) = useLoop ps cs (n :: used) r := by rw [useLoop_cons, if_neg h, if_neg h1, h2, if_neg (by decide), h3, if_pos rfl]
def plannedFin (l : List S115) (uses : List Int) (st : List S103 × List Bool) : Int × Option (List S103 × List Bool) :=
  if uses.length ≠ l.length then (2, none) else if uses.all (useOk st.1.length) = true then (if useLoop st.1 st.2 [] (uses.zip l) = true then (0, some st) else (11, none)) else (2, none)
def plannedOf (a0 a1 a2 : Int) (l : List S115) (cuts : List S112) (uses : List Int) : Int × Option (List S103 × List Bool) :=
  match doOf a0 a1 a2 l cuts with
  | (er, none) => (er, none)
  | (_, some st) => plannedFin l uses st

theorem doAll_len {saw : Int} {cuts : List S112} : ∀ {st st' : List S103 × List Bool}, doAll saw st cuts = some st' → st.2.length = st.1.length → st'.2.length = st'.1.length ∧ st.1.length ≤ st'.1.length ∧ st'.1.length ≤ st.1.length + 2 * cuts.length := by
  induction cuts with
  | nil => intro st st' h hl; simp only [doAll, Option.some.injEq] at h; subst h; exact ⟨hl, Nat.le_refl _, by simp⟩
  | cons c cs ih =>
    intro st st' h hl
    simp only [doAll] at h
    cases hs : doStep saw st c with
    | none => rw [hs] at h; simp at h
    | some s1 =>
      rw [hs] at h
      have hp := partsOf_len c.f1 (st.1.getD c.f0.toNat z103) c.f2 saw
      have h1 : s1.2.length = s1.1.length ∧ st.1.length ≤ s1.1.length ∧ s1.1.length ≤ st.1.length + 2 := by
        unfold doStep at hs
        split at hs
        · split at hs
          · cases hs
          · dsimp only at hs
            split at hs
            · cases hs
            · simp only [Option.some.injEq] at hs; subst hs
              refine ⟨by simp [hl], by simp, by simp only [List.length_append]; omega⟩
        · cases hs
      have := ih h h1.1
      simp only [List.length_cons]; omega
theorem doOf_cases (a0 a1 a2 : Int) (l : List S115) (cuts : List S112) : (∃ er, er ≠ 0 ∧ doOf a0 a1 a2 l cuts = (er, none)) ∨ ∃ st, doOf a0 a1 a2 l cuts = (0, some st) ∧ st.2.length = st.1.length ∧ 1 ≤ st.1.length ∧ st.1.length ≤ 81 ∧ cuts.length ≤ 40 := by
  unfold doOf
  split
  · exact .inl ⟨_, by assumption, rfl⟩
  · split
    · exact .inl ⟨3, by decide, rfl⟩
    · cases h : doAll a2 ([⟨0, 0, a0, a1⟩], [false]) cuts with
      | none => exact .inl ⟨11, by decide, rfl⟩
      | some st =>
        have := doAll_len h rfl
        refine .inr ⟨st, rfl, this.1, ?_, ?_, by omega⟩
        · simpa using this.2.1
        · have := this.2.2; simp at this; omega

def WEnd (o : Int × Option (List S103 × List Bool)) (a0 a1 a2 : Int) (sv : Value) (w : World) (e : Ending) (w' : World) : Prop :=
  Below w.heap.size w w' ∧ match o with
  | (er, none) => e = .returned (.tuple #[.pointer none, .int .i64 er])
  | (er, some st) => ∃ g A1 c1 A2 c2, e = .returned (.tuple #[.pointer (some ⟨g, 0, none⟩), .int .i64 0]) ∧ WorkAt w' w.heap.size g a0 a1 a2 sv (.slice A1 st.1.length c1) (.slice A2 st.2.length c2) st.1 st.2
theorem WEnd.bad {o : Int × Option (List S103 × List Bool)} {a0 a1 a2 : Int} {sv : Value} {w w' : World} {er : Int} (h : o = (er, none)) (hb : Below w.heap.size w w') : WEnd o a0 a1 a2 sv w (.returned (.tuple #[.pointer none, .int .i64 er])) w' := by
  unfold WEnd; rw [h]; exact ⟨hb, rfl⟩

set_option maxRecDepth 100000 in
set_option maxHeartbeats 1000000 in
theorem clo80_calls (n : Int) (q base g : Nat) (a0 a1 a2 : Int) (sv : Value) (A1 : Option Addr) (m c1 : Nat) (v2 : Value) (ps : List S103) (cs : List Bool) (w : World) (hq : w.heap[q]? = some (.cells #[.pointer (some ⟨g, 0, none⟩)] 126 (0, 0))) (hm : m ≤ 85) (hg : WorkAt w base g a0 a1 a2 sv (.slice A1 m c1) v2 ps cs) :
    Calls Try.prog 80 #[.int .i64 n, .pointer (some ⟨q, 0, none⟩)] w fun e w' => e = .returned (.bool (useOk m n)) ∧ Below w.heap.size w w' := by
  have hq0 : w.cell? ⟨q, 0, none⟩ = some (.pointer (some ⟨g, 0, none⟩)) := (blk_cell hq 0).trans rfl
  have hg4 : w.cell? ⟨g, 4, none⟩ = some (.slice A1 m c1) := (blk_cell hg.blk 4).trans rfl
  have HU := Lib.hid (useOk_f m n)
  have hmm : m ≤ 9223372036854775807 := by omega
  clear hq hg hm
  go_enter Try.func80, Try.ntmps80
  go_wp2_with (go_at_call 72; refine (plate_within.calls _ _ _ _ _ HU.out).mono ?_; rintro e w1 ⟨rfl, hb⟩)
  go_ret
  exact ⟨rfl, hb.below⟩

theorem WorkAt.weaken {W : World} {base base' g : Nat} {a0 a1 a2 : Int} {sv v1 v2 : Value} {ps : List S103} {cs : List Bool} (h : WorkAt W base g a0 a1 a2 sv v1 v2 ps cs) (hb : base' ≤ base) : WorkAt W base' g a0 a1 a2 sv v1 v2 ps cs :=
  ⟨h.blk, Nat.le_trans hb h.lo, own_weaken h.ps hb, own_weaken h.cs hb⟩

set_option maxRecDepth 100000 in
set_option maxHeartbeats 4000000 in
theorem planned_calls (a0 a1 a2 : Int) (A : Option Addr) (c : Nat) (l : List S115) (B : Option Addr) (d : Nat) (cuts : List S112) (E : Option Addr) (u : Nat) (uses : List Int) (w : World) (hl : Kd.C k115 w A l.length l) (hlc : l.length ≤ c) (hq : Kd.C k112 w B cuts.length cuts) (hqc : cuts.length ≤ d) (hu : Kd.C (Kd.int .i64) w E uses.length uses) (huc : uses.length ≤ u) :
    Calls Try.prog 57 #[.agg #[.int .i64 a0, .int .i64 a1, .int .i64 a2, .slice A l.length c], .agg #[.slice B cuts.length d, .slice E uses.length u]] w (WEnd (plannedOf a0 a1 a2 l cuts uses) a0 a1 a2 (.slice A l.length c) w) := by
  have hlm : l.length ≤ 9223372036854775807 := hl.2.1
  have hum : uses.length ≤ 9223372036854775807 := hu.2.1
  have HL := Lib.hid hl
  have HLC := Lib.hid hlc
  have HQ := Lib.hid hq
  have HQC := Lib.hid hqc
  have HU := Lib.hid hu
  have HUC := Lib.hid huc
  clear hl hlc hq hqc hu huc
  rcases doOf_cases a0 a1 a2 l cuts with ⟨er, her, hdo⟩ | ⟨st, hdo, hst1, hst2, hst3, hst4⟩
  · have hpo : plannedOf a0 a1 a2 l cuts uses = (er, none) := by unfold plannedOf; rw [hdo]
    have hne : (er == 0) = false := by simpa using her
    have hne' : (er != 0) = true := by simpa using her
    have HPO := Lib.hid hpo
    have HDO := Lib.hid hdo
    clear hpo hdo her
    go_enter Try.func57, Try.ntmps57
    go_wp2_with (go_at_call 75; refine (do_calls a0 a1 a2 A c l B d cuts _ (Kd.C_below HL.out (below_alloc (below_alloc (Below.refl _ _) _) _)) HLC.out (Kd.C_below HQ.out (below_alloc (below_alloc (Below.refl _ _) _) _)) HQC.out).mono ?_; rintro e w1 hend; unfold DoEnd at hend; rw [HDO.out] at hend; obtain ⟨hb1, rfl⟩ := hend)
    go_ret2
    exact WEnd.bad HPO.out (below_alloc (below_step (below_alloc (below_alloc (Below.refl _ _) _) _) hb1) _)
  · have hpo : plannedOf a0 a1 a2 l cuts uses = plannedFin l uses st := by unfold plannedOf; rw [hdo]
    have HPO := Lib.hid hpo
    have HDO := Lib.hid hdo
    clear hpo hdo
    by_cases hlen : uses.length = l.length
    · have hld : ((uses.length : Int) != (l.length : Int)) = false := by rw [hlen]; simp
      have HLEN := Lib.hid hlen
      clear hlen
      obtain ⟨ok, hok⟩ : ∃ ok, uses.all (useOk st.1.length) = ok := ⟨_, rfl⟩
      have HOK := Lib.hid hok
      clear hok
      go_enter Try.func57, Try.ntmps57
      cases ok with
      | false =>
        have hpf : plannedFin l uses st = (2, none) := by unfold plannedFin; rw [if_neg (by simp [HLEN.out]), if_neg (by rw [HOK.out]; decide)]
        have HPF := Lib.hid hpf
        clear hpf
        go_wp2_with first | (go_at_call 75; refine (do_calls a0 a1 a2 A c l B d cuts _ (Kd.C_below HL.out (below_alloc (below_alloc (Below.refl _ _) _) _)) HLC.out (Kd.C_below HQ.out (below_alloc (below_alloc (Below.refl _ _) _) _)) HQC.out).mono ?_; rintro e w1 hend; unfold DoEnd at hend; rw [HDO.out] at hend; obtain ⟨hb1, g, A1, c1, A2, c2, rfl, hWA⟩ := hend; have hb1w := below_step (below_alloc (below_alloc (Below.refl w.heap.size w) (.cells #[.int .i64 a0, .int .i64 a1, .int .i64 a2, .slice A l.length c] 55)) (.cells #[.slice B cuts.length d, .slice E uses.length u] 59)) hb1; have hP1 : w1.heap[w.heap.size]? = some (.cells #[.int .i64 a0, .int .i64 a1, .int .i64 a2, .slice A l.length c] 55 (0, 0)) := blk_below (blk_below (alloc_at rfl) (below_alloc (Below.refl _ _) _)) hb1; have hX1 : w1.heap[w.heap.size + 1]? = some (.cells #[.slice B cuts.length d, .slice E uses.length u] 59 (0, 0)) := blk_below (alloc_at (by simp)) hb1; have hb2 := below_alloc (Below.refl w1.heap.size w1) (.cells #[.pointer (some ⟨g, 0, none⟩)] 126); have hP2 := blk_below hP1 hb2; have hX2 := blk_below hX1 hb2; have hG2 := hWA.below hb2; have hY2 : (w1.alloc (.cells #[.pointer (some ⟨g, 0, none⟩)] 126)).heap[w1.heap.size]? = some (.cells #[.pointer (some ⟨g, 0, none⟩)] 126 (0, 0)) := alloc_at rfl; have hp3 : (w1.alloc (.cells #[.pointer (some ⟨g, 0, none⟩)] 126)).cell? ⟨w.heap.size, 3, none⟩ = some (.slice A l.length c) := (blk_cell hP2 3).trans rfl; have hx1 : (w1.alloc (.cells #[.pointer (some ⟨g, 0, none⟩)] 126)).cell? ⟨w.heap.size + 1, 1, none⟩ = some (.slice E uses.length u) := (blk_cell hX2 1).trans rfl) | (go_at_call 79; refine (all79_calls (useOk st.1.length) 80 #[.pointer (some ⟨w1.heap.size, 0, none⟩)] E u uses _ (Kd.C_below HU.out (below_alloc hb1w _)) HUC.out (fun args W => enters_ Try.func80 (by kernel_rfl) rfl args W) (fun x W hW => clo80_calls x _ _ g a0 a1 a2 _ A1 st.1.length c1 _ st.1 st.2 W (blk_below hY2 hW) (by omega) (hG2.below hW))).mono ?_; rintro e w3 ⟨he, hb3⟩; rw [HOK.out] at he; subst he; replace hP2 := blk_below hP2 hb3; replace hX2 := blk_below hX2 hb3; replace hG2 := hG2.below hb3; replace hY2 := blk_below hY2 hb3; replace hb1w := below_step (below_alloc hb1w _) hb3; have hlw3 := hb3.size; have hx13 : w3.cell? ⟨w.heap.size + 1, 1, none⟩ = some (.slice E uses.length u) := (blk_cell hX2 1).trans rfl; have hx14 : (w3.alloc (.map #[] 0)).cell? ⟨w.heap.size + 1, 1, none⟩ = some (.slice E uses.length u) := (blk_cell (blk_below hX2 (below_alloc (Below.refl _ _) _)) 1).trans rfl; clear hb3 hp3 hx1)
        go_ret2
        exact WEnd.bad (HPO.out.trans HPF.out) hb1w
      | true =>
        have hpf : plannedFin l uses st = if useLoop st.1 st.2 [] (uses.zip l) = true then (0, some st) else (11, none) := by unfold plannedFin; rw [if_neg (by simp [HLEN.out]), if_pos HOK.out]
        have HPF := Lib.hid hpf
        clear hpf
        have hmm := @run_makeMap_plain Try.prog
        go_wp2_with first | (go_at_call 75; refine (do_calls a0 a1 a2 A c l B d cuts _ (Kd.C_below HL.out (below_alloc (below_alloc (Below.refl _ _) _) _)) HLC.out (Kd.C_below HQ.out (below_alloc (below_alloc (Below.refl _ _) _) _)) HQC.out).mono ?_; rintro e w1 hend; unfold DoEnd at hend; rw [HDO.out] at hend; obtain ⟨hb1, g, A1, c1, A2, c2, rfl, hWA⟩ := hend; have hb1w := below_step (below_alloc (below_alloc (Below.refl w.heap.size w) (.cells #[.int .i64 a0, .int .i64 a1, .int .i64 a2, .slice A l.length c] 55)) (.cells #[.slice B cuts.length d, .slice E uses.length u] 59)) hb1; have hP1 : w1.heap[w.heap.size]? = some (.cells #[.int .i64 a0, .int .i64 a1, .int .i64 a2, .slice A l.length c] 55 (0, 0)) := blk_below (blk_below (alloc_at rfl) (below_alloc (Below.refl _ _) _)) hb1; have hX1 : w1.heap[w.heap.size + 1]? = some (.cells #[.slice B cuts.length d, .slice E uses.length u] 59 (0, 0)) := blk_below (alloc_at (by simp)) hb1; have hb2 := below_alloc (Below.refl w1.heap.size w1) (.cells #[.pointer (some ⟨g, 0, none⟩)] 126); have hP2 := blk_below hP1 hb2; have hX2 := blk_below hX1 hb2; have hG2 := hWA.below hb2; have hY2 : (w1.alloc (.cells #[.pointer (some ⟨g, 0, none⟩)] 126)).heap[w1.heap.size]? = some (.cells #[.pointer (some ⟨g, 0, none⟩)] 126 (0, 0)) := alloc_at rfl; have hp3 : (w1.alloc (.cells #[.pointer (some ⟨g, 0, none⟩)] 126)).cell? ⟨w.heap.size, 3, none⟩ = some (.slice A l.length c) := (blk_cell hP2 3).trans rfl; have hx1 : (w1.alloc (.cells #[.pointer (some ⟨g, 0, none⟩)] 126)).cell? ⟨w.heap.size + 1, 1, none⟩ = some (.slice E uses.length u) := (blk_cell hX2 1).trans rfl) | (go_at_call 79; refine (all79_calls (useOk st.1.length) 80 #[.pointer (some ⟨w1.heap.size, 0, none⟩)] E u uses _ (Kd.C_below HU.out (below_alloc hb1w _)) HUC.out (fun args W => enters_ Try.func80 (by kernel_rfl) rfl args W) (fun x W hW => clo80_calls x _ _ g a0 a1 a2 _ A1 st.1.length c1 _ st.1 st.2 W (blk_below hY2 hW) (by omega) (hG2.below hW))).mono ?_; rintro e w3 ⟨he, hb3⟩; rw [HOK.out] at he; subst he; replace hP2 := blk_below hP2 hb3; replace hX2 := blk_below hX2 hb3; replace hG2 := hG2.below hb3; replace hY2 := blk_below hY2 hb3; replace hb1w := below_step (below_alloc hb1w _) hb3; have hlw3 := hb3.size; have hx13 : w3.cell? ⟨w.heap.size + 1, 1, none⟩ = some (.slice E uses.length u) := (blk_cell hX2 1).trans rfl; have hx14 : (w3.alloc (.map #[] 0)).cell? ⟨w.heap.size + 1, 1, none⟩ = some (.slice E uses.length u) := (blk_cell (blk_below hX2 (below_alloc (Below.refl _ _) _)) 1).trans rfl; clear hb3 hp3 hx1)
        have hb4 := below_alloc (Below.refl w3.heap.size w3) (.map #[] 0)
        have hM := UMap.made w3
        replace hP2 := blk_below hP2 hb4
        replace hY2 := blk_below hY2 hb4
        replace hG2 := (hG2.below hb4).weaken (base' := w.heap.size) (by simp; omega)
        have hlb := hb1w.size
        have hlq : w.heap.size ≤ w1.heap.size := by have := hb1.size; simp at this; omega
        replace hb1w := below_step hb1w hb4
        generalize w3.alloc (.map #[] 0) = W4 at *
        clear hb4 hx14 hx13 hX2 hWA hmm hb1 hb2 hP1 hX1 hlw3
        generalize w3.heap.size = mb at *
        generalize w1.heap.size = q at *
        obtain ⟨g2, c2', he2, hlo2, hg2⟩ := hG2.cs.form (by omega)
        simp only [Value.slice.injEq] at he2
        obtain ⟨rfl, -, rfl⟩ := he2
        generalize hme : st.1.length = m at *
        have HME := Lib.hid hme
        rw [hst1] at hG2
        clear hme hg2
        have HM := Lib.hid hM
        have HP := Lib.hid hP2
        have HY := Lib.hid hY2
        have HG := Lib.hid hG2
        clear hM hP2 hY2 hG2
        go_loopw [39] (fun v wr => ∃ (k : Nat) (used : List Int), v = .int .i64 k ∧ k ≤ uses.length ∧ Hid (useLoop st.1 st.2 [] (uses.zip l) = useLoop st.1 st.2 used ((uses.zip l).drop k)) ∧ Hid (UMap wr mb used) ∧ Hid (wr.heap[w.heap.size]? = some (.cells #[.int .i64 a0, .int .i64 a1, .int .i64 a2, .slice A l.length c] 55 (0, 0))) ∧ Hid (wr.heap[q]? = some (.cells #[.pointer (some ⟨g, 0, none⟩)] 126 (0, 0))) ∧ Hid (WorkAt wr w.heap.size g a0 a1 a2 (.slice A l.length c) (.slice A1 m c1) (.slice (some ⟨g2, 0, none⟩) m c2) st.1 st.2) ∧ Below w.heap.size w wr) (fun v _ => uses.length - (intOf v).toNat)
        case atStart => exact ⟨0, [], rfl, Nat.zero_le _, Lib.hid rfl, HM, HP, HY, HG, hb1w⟩
        case round =>
          clear HM HP HY HG hb1w
          obtain ⟨k, used, rfl, hk, HQ', HM, HP, HY, HG, hB⟩ := hrel
          by_cases hlt : k < uses.length
          · have hi0 : (0 : Int) ≤ (k : Int) := by omega
            have hi1 : (k : Int) < (uses.length : Int) := by omega
            obtain ⟨ad, rfl, hx0⟩ := Kd.at_int (Kd.C_below HU.out hB) (k : Int) hi0 hi1
            simp only [Int.toNat_natCast] at hx0
            have hkl : k < l.length := by have := HLEN.out; omega
            have hdr : (uses.zip l).drop k = (rd uses (k : Int), rd_T115 l (k : Int)) :: (uses.zip l).drop (k + 1) := by
              rw [List.drop_eq_getElem_cons (by simp; omega)]; simp [rd, rd_T115, hlt, hkl, List.getD_eq_getElem?_getD]
            have HDR := Lib.hid hdr
            have hrg : -1 ≤ rd uses (k : Int) ∧ rd uses (k : Int) < (m : Int) := useOk_iff.1 (List.all_eq_true.1 HOK.out _ (by simp [rd, hlt, List.getD_eq_getElem?_getD]))
            clear hdr
            generalize hne : rd uses (k : Int) = n at *
            clear hne
            by_cases hn1 : n = -1
            · subst hn1
              have hst : useLoop st.1 st.2 [] (uses.zip l) = useLoop st.1 st.2 used ((uses.zip l).drop (k + 1)) := by rw [HQ'.out, HDR.out]; exact use_skip rfl
              have HST := Lib.hid hst
              clear hst
              go_wp2
              go_roundw
              case rel => exact ⟨k + 1, used, by go_num, by omega, HST, HM, HP, HY, HG, hB⟩
              case measure => simp [intOf]; omega
            · have hnb : (n == -1) = false := by simpa using hn1
              have hn0 : 0 ≤ n := by omega
              have HN1 := Lib.hid hn1
              have hr64 : -9223372036854775808 ≤ n ∧ n ≤ 9223372036854775807 := by omega
              have hmk := (own_at_of (enc := Value.bool) (d := false) (by have := HG.out.cs; rw [hst1] at this; exact this) n hn0 hrg.2).1
              have hmk' : wr.cell? ⟨g2, n.toNat, none⟩ = some (.bool (st.2.getD n.toNat false)) := hmk
              have HR64 := Lib.hid hr64
              clear hmk hn1 hr64
              by_cases hu : n ∈ used
              · have hbad : plannedOf a0 a1 a2 l cuts uses = (11, none) := by rw [HPO.out, HPF.out, HQ'.out, HDR.out, use_bad1 HN1.out hu]; rfl
                have hlk : ∀ W, Below wr.heap.size wr W → (Instr.lookup 173 (.map (some mb)) (.int .i64 n) false).run Try.prog W = .ok (.bool true) W := fun W hW => by have := (HM.out.below hW).look n HR64.out; rw [decide_eq_true hu] at this; exact this
                have HBAD := Lib.hid hbad
                have HLK := Lib.hid hlk
                clear hbad hu HQ' HDR hmk' hlk
                go_wp2
                refine s_ 28 (fun w' => (Instr.lookup 173 (.map (some mb)) (.int .i64 n) false).run Try.prog w' = .ok (.bool true) w') [] ((HLK.out _ (below_drew1 (Below.refl _ wr)))) (fun hHeld => ?_)
                refine p_ 0 (some 46) ?_
                refine p_ 1 (some 47) ?_
                refine t_ 2 (some 48) hHeld ?_
                refine p_ 3 (some 49) ?_
                refine o_ 4 (some 50) ?_
                refine o_ 5 (some 51) ?_
                refine o_ 6 (some 52) ?_
                refine o_ 7 (some 53) ?_
                refine o_ 8 (some 54) ?_
                refine o_ 9 (some 55) ?_
                refine o_ 10 (some 56) ?_
                refine p_ 11 (some 57) ?_
                refine p_ 12 (some 58) ?_
                refine o_ 13 (some 59) ?_
                refine o_ 14 (some 60) ?_
                refine o_ 15 (some 61) ?_
                refine o_ 16 (some 62) ?_
                refine o_ 17 (some 63) ?_
                refine o_ 18 (some 64) ?_
                refine o_ 19 (some 65) ?_
                refine o_ 20 (some 66) ?_
                refine o_ 21 (some 67) ?_
                refine o_ 22 (some 68) ?_
                refine o_ 23 (some 69) ?_
                refine o_ 24 (some 70) ?_
                refine o_ 25 (some 71) ?_
                refine o_ 26 (some 72) ?_
                refine p_ 27 (some 73) ?_
                refine done_ (by kernel_rfl) ?_
                go_wp2
                go_ret2
                exact WEnd.bad HBAD.out (below_drew1 hB)
              · have hlk : ∀ W, Below wr.heap.size wr W → (Instr.lookup 173 (.map (some mb)) (.int .i64 n) false).run Try.prog W = .ok (.bool false) W := fun W hW => by have := (HM.out.below hW).look n HR64.out; rw [decide_eq_false hu] at this; exact this
                have HLK := Lib.hid hlk
                have HNU := Lib.hid hu
                clear hlk hu
                by_cases hcut : st.2.getD n.toNat false = true
                · have hbad : plannedOf a0 a1 a2 l cuts uses = (11, none) := by rw [HPO.out, HPF.out, HQ'.out, HDR.out, use_bad2 HN1.out HNU.out hcut]; rfl
                  have HBAD := Lib.hid hbad
                  rw [hcut] at hmk'
                  clear hbad HQ' HDR hcut
                  go_wp2
                  refine s_ 28 (fun w' => (Instr.lookup 173 (.map (some mb)) (.int .i64 n) false).run Try.prog w' = .ok (.bool false) w' ∧ w'.cell? ⟨q, 0, none⟩ = some (.pointer (some ⟨g, 0, none⟩)) ∧ w'.cell? ⟨g, 5, none⟩ = some (.slice (some ⟨g2, 0, none⟩) m c2) ∧ w'.cell? ⟨g2, n.toNat, none⟩ = some (.bool true)) [] ⟨(HLK.out _ (below_drew1 (Below.refl _ wr))), (cB HY.out), (cB HG.out.blk), hmk'⟩ (fun hHeld => ?_)
                  refine p_ 0 (some 46) ?_
                  refine p_ 1 (some 47) ?_
                  refine t_ 2 (some 48) hHeld ?_
                  refine p_ 3 (some 49) ?_
                  refine p_ 8 (some 54) ?_
                  refine t_ 4 (some 50) hHeld ?_
                  refine p_ 5 (some 51) ?_
                  refine p_ 6 (some 52) ?_
                  refine t_ 7 (some 53) hHeld ?_
                  refine p_ 9 (some 55) ?_
                  refine t_ 10 (some 56) hHeld ?_
                  refine p_ 11 (some 57) ?_
                  refine p_ 12 (some 58) ?_
                  refine o_ 13 (some 59) ?_
                  refine o_ 14 (some 60) ?_
                  refine o_ 15 (some 61) ?_
                  refine o_ 16 (some 62) ?_
                  refine o_ 17 (some 63) ?_
                  refine o_ 18 (some 64) ?_
                  refine o_ 19 (some 65) ?_
                  refine o_ 20 (some 66) ?_
                  refine o_ 21 (some 67) ?_
                  refine o_ 22 (some 68) ?_
                  refine o_ 23 (some 69) ?_
                  refine o_ 24 (some 70) ?_
                  refine o_ 25 (some 71) ?_
                  refine o_ 26 (some 72) ?_
                  refine p_ 27 (some 73) ?_
                  refine done_ (by kernel_rfl) ?_
                  go_wp2
                  go_ret2
                  exact WEnd.bad HBAD.out (below_drew1 hB)
                · have hcf : st.2.getD n.toNat false = false := by simpa using hcut
                  rw [hcf] at hmk'
                  have HCF := Lib.hid hcf
                  clear hcut hcf
                  obtain ⟨ft, hft⟩ : ∃ ft, fitsB (rd_T115 l (k : Int)) (st.1.getD n.toNat z103) = ft := ⟨_, rfl⟩
                  have HFT := Lib.hid hft
                  have hb3 : ft = false → plannedOf a0 a1 a2 l cuts uses = (11, none) := fun hf => by subst hf; rw [HPO.out, HPF.out, HQ'.out, HDR.out, use_bad3 HN1.out HNU.out HCF.out HFT.out]; rfl
                  have hg3 : ft = true → useLoop st.1 st.2 [] (uses.zip l) = useLoop st.1 st.2 (n :: used) ((uses.zip l).drop (k + 1)) := fun hf => by subst hf; rw [HQ'.out, HDR.out, use_good HN1.out HNU.out HCF.out HFT.out]
                  have HB3 := Lib.hid hb3
                  have HG3 := Lib.hid hg3
                  clear hb3 hg3 HQ' HDR HFT HNU HCF
                  have hff := fits_f (rd_T115 l (k : Int)) (st.1.getD n.toNat z103)
                  rw [hft] at hff
                  have HFF := Lib.hid hff
                  clear hft hff
                  have hR1 := own_R103 (ok := fun _ => True) (by have := HG.out.ps; rw [HME.out] at this ⊢; exact this) (fun _ _ => trivial)
                  obtain ⟨-, -, hCC⟩ := Kd.R_reads' hR1
                  obtain ⟨ad1, rfl, hy0, hy1, hy2, hy3⟩ := at_T103 hCC n hn0 (by rw [HME.out]; exact hrg.2)
                  clear hR1 hCC
                  have hpe : rd_T103 st.1 n = st.1.getD n.toNat z103 := rfl
                  rw [hpe] at hy0 hy1 hy2 hy3
                  clear hpe
                  generalize st.1.getD n.toNat z103 = p at *
                  have hkli : (k : Int) < (l.length : Int) := by omega
                  obtain ⟨ad2, rfl, hz0, hz1, hz2, hz3, hz4, hz5, hz6, hz7⟩ := at_T115 (Kd.C_below HL.out hB) (k : Int) hi0 hkli
                  simp only [Int.toNat_natCast] at hz0 hz1 hz2 hz3 hz4 hz5 hz6 hz7
                  generalize rd_T115 l (k : Int) = x at *
                  cases ft with
                  | false =>
                    have HBAD := Lib.hid (HB3.out rfl)
                    clear HB3 HG3
                    go_wp2
                    refine s_ 28 (fun w' => (Instr.lookup 173 (.map (some mb)) (.int .i64 n) false).run Try.prog w' = .ok (.bool false) w' ∧ w'.cell? ⟨q, 0, none⟩ = some (.pointer (some ⟨g, 0, none⟩)) ∧ w'.cell? ⟨g, 5, none⟩ = some (.slice (some ⟨g2, 0, none⟩) m c2) ∧ w'.cell? ⟨g2, n.toNat, none⟩ = some (.bool false) ∧ w'.cell? ⟨g, 4, none⟩ = some (.slice (some ad1) m c1) ∧ w'.cell? ⟨w.heap.size, 3, none⟩ = some (.slice (some ad2) l.length c) ∧ w'.cell? (ad2.add (k * 8)) = some (.int .i64 x.f0) ∧ w'.cell? ⟨(ad2.add (k * 8)).block, (ad2.add (k * 8)).off + 1, none⟩ = some (.int .i64 x.f1) ∧ w'.cell? ⟨(ad2.add (k * 8)).block, (ad2.add (k * 8)).off + 2, none⟩ = some (.bool x.f2) ∧ w'.cell? ⟨(ad2.add (k * 8)).block, (ad2.add (k * 8)).off + 3, none⟩ = some (.int .i64 x.f3) ∧ w'.cell? ⟨(ad2.add (k * 8)).block, (ad2.add (k * 8)).off + 4, none⟩ = some (.int .i64 x.f4.f0) ∧ w'.cell? ⟨(ad2.add (k * 8)).block, (ad2.add (k * 8)).off + 5, none⟩ = some (.int .i64 x.f4.f1) ∧ w'.cell? ⟨(ad2.add (k * 8)).block, (ad2.add (k * 8)).off + 6, none⟩ = some (.int .i64 x.f5.f0) ∧ w'.cell? ⟨(ad2.add (k * 8)).block, (ad2.add (k * 8)).off + 7, none⟩ = some (.int .i64 x.f5.f1) ∧ w'.cell? (ad1.add (n.toNat * 4)) = some (.int .i64 p.f0) ∧ w'.cell? ⟨(ad1.add (n.toNat * 4)).block, (ad1.add (n.toNat * 4)).off + 1, none⟩ = some (.int .i64 p.f1) ∧ w'.cell? ⟨(ad1.add (n.toNat * 4)).block, (ad1.add (n.toNat * 4)).off + 2, none⟩ = some (.int .i64 p.f2) ∧ w'.cell? ⟨(ad1.add (n.toNat * 4)).block, (ad1.add (n.toNat * 4)).off + 3, none⟩ = some (.int .i64 p.f3)) [] ⟨(HLK.out _ (below_drew1 (Below.refl _ wr))), (cB HY.out), (cB HG.out.blk), hmk', (cB HG.out.blk), (cB HP.out), hz0, hz1, hz2, hz3, hz4, hz5, hz6, hz7, hy0, hy1, hy2, hy3⟩ (fun hHeld => ?_)
                    refine p_ 0 (some 46) ?_
                    refine p_ 1 (some 47) ?_
                    refine t_ 2 (some 48) hHeld ?_
                    refine p_ 3 (some 49) ?_
                    refine p_ 8 (some 54) ?_
                    refine t_ 4 (some 50) hHeld ?_
                    refine p_ 5 (some 51) ?_
                    refine p_ 6 (some 52) ?_
                    refine t_ 7 (some 53) hHeld ?_
                    refine p_ 9 (some 55) ?_
                    refine t_ 10 (some 56) hHeld ?_
                    refine p_ 11 (some 57) ?_
                    refine p_ 12 (some 58) ?_
                    refine p_ 13 (some 59) ?_
                    refine p_ 15 (some 61) ?_
                    refine p_ 22 (some 68) ?_
                    refine t_ 14 (some 60) hHeld ?_
                    refine p_ 16 (some 62) ?_
                    refine t_ 17 (some 63) hHeld ?_
                    refine t_ 18 (some 64) hHeld ?_
                    refine p_ 19 (some 65) ?_
                    refine p_ 20 (some 66) ?_
                    refine t_ 21 (some 67) hHeld ?_
                    refine p_ 23 (some 69) ?_
                    refine t_ 24 (some 70) hHeld ?_
                    refine e_ 25 (some 71) (fun K hK => ?_)
                    refine goes_ Try.func81 (by kernel_rfl) rfl #[.agg #[.int .i64 x.f0, .int .i64 x.f1, .bool x.f2, .int .i64 x.f3, .int .i64 x.f4.f0, .int .i64 x.f4.f1, .int .i64 x.f5.f0, .int .i64 x.f5.f1], .agg #[.int .i64 p.f0, .int .i64 p.f1, .int .i64 p.f2, .int .i64 p.f3]] (by rfl) rfl rfl (by simp only [List.map_toArray, List.map_cons, List.map_nil]; rfl) ?_
                    with_reducible refine (plate_Wanted_fits.calls _ _ _ _ _ _ _ _ _ _ _ _ _ _ HFF.out).mono ?_
                    rintro e W6 ⟨rfl, hb6⟩
                    refine ⟨_, rfl, ?_⟩
                    refine hK.out _ _ ⟨(HLK.out _ (below_step (below_drew1 (Below.refl _ wr)) hb6)), (pw_cell_below hb6 hHeld.2.1), (pw_cell_below hb6 hHeld.2.2.1), (pw_cell_below hb6 hHeld.2.2.2.1), (pw_cell_below hb6 hHeld.2.2.2.2.1), (pw_cell_below hb6 hHeld.2.2.2.2.2.1), (pw_cell_below hb6 hHeld.2.2.2.2.2.2.1), (pw_cell_below hb6 hHeld.2.2.2.2.2.2.2.1), (pw_cell_below hb6 hHeld.2.2.2.2.2.2.2.2.1), (pw_cell_below hb6 hHeld.2.2.2.2.2.2.2.2.2.1), (pw_cell_below hb6 hHeld.2.2.2.2.2.2.2.2.2.2.1), (pw_cell_below hb6 hHeld.2.2.2.2.2.2.2.2.2.2.2.1), (pw_cell_below hb6 hHeld.2.2.2.2.2.2.2.2.2.2.2.2.1), (pw_cell_below hb6 hHeld.2.2.2.2.2.2.2.2.2.2.2.2.2.1), (pw_cell_below hb6 hHeld.2.2.2.2.2.2.2.2.2.2.2.2.2.2.1), (pw_cell_below hb6 hHeld.2.2.2.2.2.2.2.2.2.2.2.2.2.2.2.1), (pw_cell_below hb6 hHeld.2.2.2.2.2.2.2.2.2.2.2.2.2.2.2.2.1), (pw_cell_below hb6 hHeld.2.2.2.2.2.2.2.2.2.2.2.2.2.2.2.2.2)⟩ (fun hHeld => ?_)
                    clear hK K
                    refine n_ ?_
                    refine p_ 26 (some 72) ?_
                    refine p_ 27 (some 73) ?_
                    refine done_ (by kernel_rfl) ?_
                    go_wp2
                    go_ret2
                    exact WEnd.bad HBAD.out (below_step (below_drew1 hB) hb6)
                  | true =>
                    have HST := Lib.hid (HG3.out rfl)
                    clear HB3 HG3
                    go_wp2
                    refine s_ 28 (fun w' => (Instr.lookup 173 (.map (some mb)) (.int .i64 n) false).run Try.prog w' = .ok (.bool false) w' ∧ w'.cell? ⟨q, 0, none⟩ = some (.pointer (some ⟨g, 0, none⟩)) ∧ w'.cell? ⟨g, 5, none⟩ = some (.slice (some ⟨g2, 0, none⟩) m c2) ∧ w'.cell? ⟨g2, n.toNat, none⟩ = some (.bool false) ∧ w'.cell? ⟨g, 4, none⟩ = some (.slice (some ad1) m c1) ∧ w'.cell? ⟨w.heap.size, 3, none⟩ = some (.slice (some ad2) l.length c) ∧ w'.cell? (ad2.add (k * 8)) = some (.int .i64 x.f0) ∧ w'.cell? ⟨(ad2.add (k * 8)).block, (ad2.add (k * 8)).off + 1, none⟩ = some (.int .i64 x.f1) ∧ w'.cell? ⟨(ad2.add (k * 8)).block, (ad2.add (k * 8)).off + 2, none⟩ = some (.bool x.f2) ∧ w'.cell? ⟨(ad2.add (k * 8)).block, (ad2.add (k * 8)).off + 3, none⟩ = some (.int .i64 x.f3) ∧ w'.cell? ⟨(ad2.add (k * 8)).block, (ad2.add (k * 8)).off + 4, none⟩ = some (.int .i64 x.f4.f0) ∧ w'.cell? ⟨(ad2.add (k * 8)).block, (ad2.add (k * 8)).off + 5, none⟩ = some (.int .i64 x.f4.f1) ∧ w'.cell? ⟨(ad2.add (k * 8)).block, (ad2.add (k * 8)).off + 6, none⟩ = some (.int .i64 x.f5.f0) ∧ w'.cell? ⟨(ad2.add (k * 8)).block, (ad2.add (k * 8)).off + 7, none⟩ = some (.int .i64 x.f5.f1) ∧ w'.cell? (ad1.add (n.toNat * 4)) = some (.int .i64 p.f0) ∧ w'.cell? ⟨(ad1.add (n.toNat * 4)).block, (ad1.add (n.toNat * 4)).off + 1, none⟩ = some (.int .i64 p.f1) ∧ w'.cell? ⟨(ad1.add (n.toNat * 4)).block, (ad1.add (n.toNat * 4)).off + 2, none⟩ = some (.int .i64 p.f2) ∧ w'.cell? ⟨(ad1.add (n.toNat * 4)).block, (ad1.add (n.toNat * 4)).off + 3, none⟩ = some (.int .i64 p.f3)) [] ⟨(HLK.out _ (below_drew1 (Below.refl _ wr))), (cB HY.out), (cB HG.out.blk), hmk', (cB HG.out.blk), (cB HP.out), hz0, hz1, hz2, hz3, hz4, hz5, hz6, hz7, hy0, hy1, hy2, hy3⟩ (fun hHeld => ?_)
                    refine p_ 0 (some 46) ?_
                    refine p_ 1 (some 47) ?_
                    refine t_ 2 (some 48) hHeld ?_
                    refine p_ 3 (some 49) ?_
                    refine p_ 8 (some 54) ?_
                    refine t_ 4 (some 50) hHeld ?_
                    refine p_ 5 (some 51) ?_
                    refine p_ 6 (some 52) ?_
                    refine t_ 7 (some 53) hHeld ?_
                    refine p_ 9 (some 55) ?_
                    refine t_ 10 (some 56) hHeld ?_
                    refine p_ 11 (some 57) ?_
                    refine p_ 12 (some 58) ?_
                    refine p_ 13 (some 59) ?_
                    refine p_ 15 (some 61) ?_
                    refine p_ 22 (some 68) ?_
                    refine t_ 14 (some 60) hHeld ?_
                    refine p_ 16 (some 62) ?_
                    refine t_ 17 (some 63) hHeld ?_
                    refine t_ 18 (some 64) hHeld ?_
                    refine p_ 19 (some 65) ?_
                    refine p_ 20 (some 66) ?_
                    refine t_ 21 (some 67) hHeld ?_
                    refine p_ 23 (some 69) ?_
                    refine t_ 24 (some 70) hHeld ?_
                    refine e_ 25 (some 71) (fun K hK => ?_)
                    refine goes_ Try.func81 (by kernel_rfl) rfl #[.agg #[.int .i64 x.f0, .int .i64 x.f1, .bool x.f2, .int .i64 x.f3, .int .i64 x.f4.f0, .int .i64 x.f4.f1, .int .i64 x.f5.f0, .int .i64 x.f5.f1], .agg #[.int .i64 p.f0, .int .i64 p.f1, .int .i64 p.f2, .int .i64 p.f3]] (by rfl) rfl rfl (by simp only [List.map_toArray, List.map_cons, List.map_nil]; rfl) ?_
                    with_reducible refine (plate_Wanted_fits.calls _ _ _ _ _ _ _ _ _ _ _ _ _ _ HFF.out).mono ?_
                    rintro e W6 ⟨rfl, hb6⟩
                    refine ⟨_, rfl, ?_⟩
                    refine hK.out _ _ ⟨(HLK.out _ (below_step (below_drew1 (Below.refl _ wr)) hb6)), (pw_cell_below hb6 hHeld.2.1), (pw_cell_below hb6 hHeld.2.2.1), (pw_cell_below hb6 hHeld.2.2.2.1), (pw_cell_below hb6 hHeld.2.2.2.2.1), (pw_cell_below hb6 hHeld.2.2.2.2.2.1), (pw_cell_below hb6 hHeld.2.2.2.2.2.2.1), (pw_cell_below hb6 hHeld.2.2.2.2.2.2.2.1), (pw_cell_below hb6 hHeld.2.2.2.2.2.2.2.2.1), (pw_cell_below hb6 hHeld.2.2.2.2.2.2.2.2.2.1), (pw_cell_below hb6 hHeld.2.2.2.2.2.2.2.2.2.2.1), (pw_cell_below hb6 hHeld.2.2.2.2.2.2.2.2.2.2.2.1), (pw_cell_below hb6 hHeld.2.2.2.2.2.2.2.2.2.2.2.2.1), (pw_cell_below hb6 hHeld.2.2.2.2.2.2.2.2.2.2.2.2.2.1), (pw_cell_below hb6 hHeld.2.2.2.2.2.2.2.2.2.2.2.2.2.2.1), (pw_cell_below hb6 hHeld.2.2.2.2.2.2.2.2.2.2.2.2.2.2.2.1), (pw_cell_below hb6 hHeld.2.2.2.2.2.2.2.2.2.2.2.2.2.2.2.2.1), (pw_cell_below hb6 hHeld.2.2.2.2.2.2.2.2.2.2.2.2.2.2.2.2.2)⟩ (fun hHeld => ?_)
                    clear hK K
                    refine n_ ?_
                    refine p_ 26 (some 72) ?_
                    refine p_ 27 (some 73) ?_
                    refine done_ (by kernel_rfl) ?_
                    have hW6 : Below wr.heap.size wr W6 := below_step (below_drew1 (Below.refl _ _)) hb6
                    have hM6 := HM.out.below hW6
                    have hP6 := blk_below HP.out hW6
                    have hY6 := blk_below HY.out hW6
                    have hG6 := HG.out.below hW6
                    have hB6 := below_step hB hW6
                    clear hb6 hHeld hmk' hy0 hy1 hy2 hy3 hz0 hz1 hz2 hz3 hz4 hz5 hz6 hz7 HM HP HY HG hW6
                    obtain ⟨W7, hput, hM7, hgr⟩ := hM6.put n HR64.out
                    obtain ⟨es, hes, -⟩ := hM6.out
                    have hP7 := blk_grown hP6 hgr (fun e => by cases e; exact hes.ne_cells hP6 rfl)
                    have hY7 := blk_grown hY6 hgr (fun e => by cases e; exact hes.ne_cells hY6 rfl)
                    have hG7 : WorkAt W7 w.heap.size g a0 a1 a2 (.slice (some ad2) l.length c) (.slice (some ad1) m c1) (.slice (some ⟨g2, 0, none⟩) m c2) st.1 st.2 := ⟨blk_grown hG6.blk hgr (fun e => by cases e; exact hes.ne_cells hG6.blk rfl), hG6.lo, own_other hG6.ps hgr (.inr (hes.ne_own hG6.ps).symm), own_other hG6.cs hgr (.inr (hes.ne_own hG6.cs).symm)⟩
                    have hB7 := pw_below_grown hB6 (some mb) hB6.size hgr (fun k e => by cases e; exact hlb)
                    have HM7 := Lib.hid hM7
                    have HP7 := Lib.hid hP7
                    have HY7 := Lib.hid hY7
                    have HG7 := Lib.hid hG7
                    clear hM6 hP6 hY6 hG6 hB6 hM7 hP7 hY7 hG7 hes hgr
                    go_wp2
                    go_roundw
                    case rel => exact ⟨k + 1, _, by go_num, by omega, HST, HM7, HP7, HY7, HG7, hB7⟩
                    case measure => simp [intOf]; omega
          · have hke : k = uses.length := by omega
            subst hke
            have hfin : plannedOf a0 a1 a2 l cuts uses = (0, some st) := by
              rw [HPO.out, HPF.out, HQ'.out, List.drop_eq_nil_of_le (by simp; omega)]; rfl
            have HFIN := Lib.hid hfin
            have hq6 : wr.cell? ⟨q, 0, none⟩ = some (.pointer (some ⟨g, 0, none⟩)) := (blk_cell HY.out 0).trans rfl
            clear hfin HQ'
            go_wp2
            go_ret2
            unfold WEnd
            rw [HFIN.out]
            exact ⟨hB, g, A1, c1, _, c2, rfl, by rw [hst1, HME.out]; exact HG.out⟩
    · have hld : ((uses.length : Int) != (l.length : Int)) = true := by simp; omega
      have hpf : plannedFin l uses st = (2, none) := by unfold plannedFin; rw [if_pos hlen]
      have HPF := Lib.hid hpf
      clear hpf hlen
      go_enter Try.func57, Try.ntmps57
      go_wp2_with (go_at_call 75; refine (do_calls a0 a1 a2 A c l B d cuts _ (Kd.C_below HL.out (below_alloc (below_alloc (Below.refl _ _) _) _)) HLC.out (Kd.C_below HQ.out (below_alloc (below_alloc (Below.refl _ _) _) _)) HQC.out).mono ?_; rintro e w1 hend; unfold DoEnd at hend; rw [HDO.out] at hend; obtain ⟨hb1, g, A1, c1, A2, c2, rfl, hWA⟩ := hend; have hb1w := below_step (below_alloc (below_alloc (Below.refl w.heap.size w) (.cells #[.int .i64 a0, .int .i64 a1, .int .i64 a2, .slice A l.length c] 55)) (.cells #[.slice B cuts.length d, .slice E uses.length u] 59)) hb1; have hP1 : w1.heap[w.heap.size]? = some (.cells #[.int .i64 a0, .int .i64 a1, .int .i64 a2, .slice A l.length c] 55 (0, 0)) := blk_below (blk_below (alloc_at rfl) (below_alloc (Below.refl _ _) _)) hb1; have hX1 : w1.heap[w.heap.size + 1]? = some (.cells #[.slice B cuts.length d, .slice E uses.length u] 59 (0, 0)) := blk_below (alloc_at (by simp)) hb1; have hb2 := below_alloc (Below.refl w1.heap.size w1) (.cells #[.pointer (some ⟨g, 0, none⟩)] 126); have hP2 := blk_below hP1 hb2; have hX2 := blk_below hX1 hb2; have hG2 := hWA.below hb2; have hY2 : (w1.alloc (.cells #[.pointer (some ⟨g, 0, none⟩)] 126)).heap[w1.heap.size]? = some (.cells #[.pointer (some ⟨g, 0, none⟩)] 126 (0, 0)) := alloc_at rfl; have hp3 : (w1.alloc (.cells #[.pointer (some ⟨g, 0, none⟩)] 126)).cell? ⟨w.heap.size, 3, none⟩ = some (.slice A l.length c) := (blk_cell hP2 3).trans rfl; have hx1 : (w1.alloc (.cells #[.pointer (some ⟨g, 0, none⟩)] 126)).cell? ⟨w.heap.size + 1, 1, none⟩ = some (.slice E uses.length u) := (blk_cell hX2 1).trans rfl)
      go_ret2
      exact WEnd.bad (HPO.out.trans HPF.out) (below_alloc hb1w _)
end Go.Proofs.Ytffjbaknglemdaa.X
