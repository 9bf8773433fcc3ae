import Derived.Test.YtffjbaknglemdaaHE
import Derived.Test.YtffjbaknglemdaaXF82
import Derived.Test.YtffjbaknglemdaaXF83
import Derived.Test.YtffjbaknglemdaaXF63
import Derived.Test.YtffjbaknglemdaaXF62
namespace Go.Proofs.Ytffjbaknglemdaa.X
open Go.RowKit Go.Maps Go.Proofs.YtffjbaknglemdaaW.PrintWords Go.Proofs.YtffjbaknglemdaaW.PrintLast Go.Proofs.YtffjbaknglemdaaW.PrintMore
set_option linter.unusedSimpArgs false
set_option linter.unusedVariables false

/-! ### numbers -/
def idxI : List Int → Int → Nat → Int
 | [], _, _ => -1
 | u :: r, n, i => if n = u then (i : Int) else idxI r n (i + 1)
/-- The first place of n. -/
def idx (uses : List Int) (n : Int) : Int := idxI uses n 0
theorem idxI_drop (uses : List Int) (n : Int) (hb : uses.length ≤ 140737488351232) : ∀ d i : Nat, i + d = uses.length → slices_Index_int_int.l0 (d + 1) uses n (uses.length : Int) (i : Int) = some (idxI (uses.drop i) n i) := by
 intro d
 induction d with
 | zero =>
  intro i hi
  simp only [slices_Index_int_int.l0]
  rw [if_neg (by omega), List.drop_eq_nil_of_le (by omega)]
  rfl
 | succ d ih =>
  intro i hi
  have hl : i < uses.length := by omega
  rw [List.drop_eq_getElem_cons hl]
  simp only [slices_Index_int_int.l0, idxI]
  rw [if_pos (by omega), if_pos (by omega), if_pos (by omega)]
  have hr : rd uses (i : Int) = uses[i] := by simp [rd, hl, List.getD_eq_getElem?_getD]
  rw [hr]
  by_cases h : n = uses[i]
  ·rw [if_pos h, if_pos h]
  ·rw [if_neg h, if_neg h]
   have hw : wrap64 ((i : Int) + 1) = ((i + 1 : Nat) : Int) := by unfold wrap64; omega
   rw [hw]
   exact ih (i + 1) (by omega)
theorem idx_f (uses : List Int) (n : Int) (hb : uses.length ≤ 140737488351232) : slices_Index_int_int.f (uses.length + 1) uses n = some (idx uses n) := by
 have := idxI_drop uses n hb uses.length 0 (by omega)
 simpa [slices_Index_int_int.f, idx] using this
theorem idxI_range : ∀ (uses : List Int) (n : Int) (i : Nat), idxI uses n i = -1 ∨ ((i : Int) ≤ idxI uses n i ∧ idxI uses n i < (i : Int) + uses.length)
 | [], n, i => .inl rfl
 | u :: r, n, i => by
  simp only [idxI]
  split
  ·right; simp; omega
  ·rcases idxI_range r n (i + 1) with h | h
   ·exact .inl h
   ·right; simp; omega
theorem idx_range (uses : List Int) (n : Int) : idx uses n = -1 ∨ (0 ≤ idx uses n ∧ idx uses n < uses.length) := by
 have := idxI_range uses n 0; simpa [idx] using this
def sum2 (a b : Int) : Int := wrap64 (wrap64 (0 + a) + b)
theorem sum2_f (a b : Int) : plate_sum.f 3 [a, b] = some (sum2 a b) := by
 unfold plate_sum.f
 have e1 : wrap64 1 = 1 := by unfold wrap64; rfl
 have e2 : wrap64 2 = 2 := by unfold wrap64; rfl
 simp [plate_sum.l0, sum2, rd, e1, e2]
theorem C_two {w : World} {g : Nat} {a b : Int} (h : w.heap[g]? = some (.cells #[.int .i64 a, .int .i64 b] 3 (0, 0))) : Kd.C (Kd.int .i64) w (some ⟨g, 0, none⟩) [a, b].length [a, b] := by
 refine Kd.C_of_reads (enc := Value.int .i64) (d := 0) (h1 := fun _ => rfl) ⟨rfl, by simp, fun _ => ⟨_, rfl, fun j hj => ?_⟩⟩
 have h0 := (blk_cell h j)
 rcases j with _ | _ | j
 ·exact h0
 ·exact h0
 ·simp at hj; omega
theorem sum2_calls {w : World} {g : Nat} {a b : Int} (h : w.heap[g]? = some (.cells #[.int .i64 a, .int .i64 b] 3 (0, 0))) : Calls Try.prog 83 #[.slice (some ⟨g, 0, none⟩) 2 2] w fun e w' => e = .returned (.int .i64 (sum2 a b)) ∧ Below w.heap.size w w' :=
 (plate_sum.calls 3 (some ⟨g, 0, none⟩) 2 [a, b] _ w (C_two h) (by simp) (sum2_f a b)).mono fun e w' h => ⟨h.1, h.2.below⟩
theorem idx_calls (E : Option Addr) (u : Nat) (uses : List Int) (n : Int) (w : World) (hu : Kd.C (Kd.int .i64) w E uses.length uses) (huc : uses.length ≤ u) (hb : uses.length ≤ 140737488351232) : Calls Try.prog 63 #[.slice E uses.length u, .int .i64 n] w fun e w' => e = .returned (.int .i64 (idx uses n)) ∧ Below w.heap.size w w' :=
 (slices_Index_int_int.calls _ E u uses n _ w hu huc (idx_f uses n hb)).mono fun e w' h => ⟨h.1, h.2.below⟩
def unitsOf (p : S103) : Int := wrap64 (p.f2 * p.f3)

theorem WorkAt.put {W : World} {base g b j : Nat} {a0 a1 a2 : Int} {sv v1 v2 u : Value} {ps : List S103} {cs : List Bool} {cells : Array Value} {t : TypeId} (h : WorkAt W base g a0 a1 a2 sv v1 v2 ps cs) (hb : W.heap[b]? = some (.cells cells t (0, 0))) (h1 : t ≠ 134) (h2 : t ≠ 103) (h3 : t ≠ 4) : WorkAt (W.setCell ⟨b, j, none⟩ u) base g a0 a1 a2 sv v1 v2 ps cs :=
 ⟨blk_far h.blk (blk_ne h.blk hb h1.symm) _, h.lo, own_setCell h.ps (own_ne h.ps hb h2.symm) _, own_setCell h.cs (own_ne h.cs hb h3.symm) _⟩

/-! ### what weigh computes -/
structure Tally where
 sp : Int
 rm : Int
 wo : Int
def tally1 (l : List S115) (uses : List Int) (n : Int) (p : S103) (t : Tally) : Tally :=
 if 0 ≤ idx uses n then ⟨sum2 t.sp (unitsOf p), t.rm, sum2 t.wo (l.getD (idx uses n).toNat z115).f3⟩ else ⟨t.sp, sum2 t.rm (unitsOf p), t.wo⟩
def tally (l : List S115) (uses : List Int) : Nat → List (S103 × Bool) → Tally → Tally
 | _, [], t => t
 | n, x :: r, t => tally l uses (n + 1) r (if x.2 = true then t else tally1 l uses n x.1 t)
def tallyOf (l : List S115) (uses : List Int) (st : List S103 × List Bool) : Tally := tally l uses 0 (st.1.zip st.2) ⟨0, 0, 0⟩
def chipsOf (a0 a1 : Int) (t : Tally) : Int := wrap64 (wrap64 (a0 * a1) - sum2 t.sp t.rm)
theorem tally_cut {l : List S115} {uses : List Int} {n : Nat} {p : S103} {r : List (S103 × Bool)} {t : Tally} : tally l uses n ((p, true) :: r) t = tally l uses (n + 1) r t := by simp only [tally, if_pos]
theorem tally_on {l : List S115} {uses : List Int} {n : Nat} {p : S103} {r : List (S103 × Bool)} {t : Tally} : tally l uses n ((p, false) :: r) t = tally l uses (n + 1) r (tally1 l uses n p t) := by simp only [tally]; rw [if_neg (by decide)]
theorem tally1_use {l : List S115} {uses : List Int} {n : Int} {p : S103} {t : Tally} (h : 0 ≤ idx uses n) : tally1 l uses n p t = ⟨sum2 t.sp (unitsOf p), t.rm, sum2 t.wo (l.getD (idx uses n).toNat z115).f3⟩ := by unfold tally1; rw [if_pos h]
theorem tally1_rem {l : List S115} {uses : List Int} {n : Int} {p : S103} {t : Tally} (h : ¬ 0 ≤ idx uses n) : tally1 l uses n p t = ⟨t.sp, sum2 t.rm (unitsOf p), t.wo⟩ := by unfold tally1; rw [if_neg h]

set_option maxRecDepth 100000 in
set_option maxHeartbeats 4000000 in
theorem weigh_calls (base g : Nat) (a0 a1 a2 : Int) (A : Option Addr) (c : Nat) (l : List S115) (A1 : Option Addr) (c1 : Nat) (A2 : Option Addr) (c2 : Nat) (st : List S103 × List Bool) (E : Option Addr) (u : Nat) (uses : List Int) (w : World)
  (hg : WorkAt w base g a0 a1 a2 (.slice A l.length c) (.slice A1 st.1.length c1) (.slice A2 st.2.length c2) st.1 st.2) (hst : st.2.length = st.1.length) (hm1 : 1 ≤ st.1.length) (hm : st.1.length ≤ 81) (hl : Kd.C k115 w A l.length l) (hlc : l.length ≤ c) (hu : Kd.C (Kd.int .i64) w E uses.length uses) (huc : uses.length ≤ u) (hub : uses.length ≤ 140737488351232) (hlen : uses.length = l.length) :
  Calls Try.prog 58 #[.pointer (some ⟨g, 0, none⟩), .slice E uses.length u] w fun e w' => e = .returned (.agg #[.int .i64 (tallyOf l uses st).sp, .int .i64 (tallyOf l uses st).rm, .int .i64 (chipsOf a0 a1 (tallyOf l uses st)), .int .i64 (tallyOf l uses st).wo]) ∧ Below w.heap.size w w' := by
 have HL := Lib.hid hl
 have HLC := Lib.hid hlc
 have HU := Lib.hid hu
 have HUC := Lib.hid huc
 have HUB := Lib.hid hub
 have HLEN := Lib.hid hlen
 have hlt : g < w.heap.size := blk_lt hg.blk
 have g0 : (w.alloc (.cells #[.int .i64 0, .int .i64 0, .int .i64 0, .int .i64 0] 49)).heap[g]? = some (.cells #[.int .i64 a0, .int .i64 a1, .int .i64 a2, .slice A l.length c, .slice A1 st.1.length c1, .slice A2 st.2.length c2] 134 (0, 0)) := blk_below hg.blk (below_alloc (Below.refl _ _) _)
 have gc_ := c6 g0
 have HG := Lib.hid hg
 clear hl hlc hu huc hub hlen hg
 have hmx : st.1.length ≤ 9223372036854775807 := by omega
 go_enter Try.func58, Try.ntmps58
 go_wp2_with first
  | (go_at_call 61; refine (plate_Plate_whole.calls a0 a1 a2 A c l 0 0 a0 a1 _ (Kd.C_below HL.out (below_alloc (Below.refl _ _) _)) HLC.out rfl).mono ?_; rintro e w1 ⟨rfl, hb1⟩)
  | (go_at_call 82; refine (plate_Piece_units.calls _ _ _ _ _ _ rfl).mono ?_; rintro e w2 ⟨rfl, hb2⟩; have hT2 : w2.heap[w.heap.size]? = some (.cells #[.int .i64 0, .int .i64 0, .int .i64 0, .int .i64 0] 49 (0, 0)) := blk_below (blk_below (alloc_at rfl) hb1) hb2; have hW2 := below_step (below_step (below_alloc (Below.refl w.heap.size w) (.cells #[.int .i64 0, .int .i64 0, .int .i64 0, .int .i64 0] 49)) hb1) hb2; have cz2 : w2.cell? ⟨w.heap.size, 2, none⟩ = some (.int .i64 0) := (blk_cell hT2 2).trans rfl; have fz2 : w2.frozen? ⟨w.heap.size, 2, none⟩ = false := blk_frozen hT2 2; have hG2 := HG.out.below hW2; have hT3 : (w2.setCell ⟨w.heap.size, 2, none⟩ (.int .i64 (wrap64 (a0 * a1)))).heap[w.heap.size]? = some (.cells #[.int .i64 0, .int .i64 0, .int .i64 (wrap64 (a0 * a1)), .int .i64 0] 49 (0, 0)) := blk_put hT2 2 _ rfl; have hG3 := hG2.put (j := 2) (u := .int .i64 (wrap64 (a0 * a1))) hT2 (by decide) (by decide) (by decide); have hW3 := below_set (j := 2) (v := .int .i64 (wrap64 (a0 * a1))) hW2 (Nat.le_refl _); have g34 : (w2.setCell ⟨w.heap.size, 2, none⟩ (.int .i64 (wrap64 (a0 * a1)))).cell? ⟨g, 4, none⟩ = some (.slice A1 st.1.length c1) := (blk_cell hG3.blk 4).trans rfl)
 generalize hwe : w2.setCell ⟨w.heap.size, 2, none⟩ (.int .i64 (wrap64 (a0 * a1))) = W0 at *
 clear hwe hT2 hW2 cz2 fz2 hG2 g34 hb1 hb2 g0 gc_
 have hcm := hG3.cs
 rw [hst] at hcm
 generalize hme : st.1.length = m at *
 have HME := Lib.hid hme
 clear hme
 rw [hst] at hG3
 obtain ⟨g2, c2', he2, hlo2, hg2⟩ := hcm.form (by omega)
 simp only [Value.slice.injEq] at he2
 obtain ⟨rfl, -, rfl⟩ := he2
 have HT := Lib.hid hT3
 have HW := Lib.hid hG3
 clear hT3 hG3 hcm hlo2 hg2
 go_loopw [20] (fun v wr => ∃ (k : Nat) (t : Tally), v = .int .i64 k ∧ k ≤ m ∧ Hid (tallyOf l uses st = tally l uses k ((st.1.zip st.2).drop k) t) ∧ Hid (wr.heap[w.heap.size]? = some (.cells #[.int .i64 t.sp, .int .i64 t.rm, .int .i64 (wrap64 (a0 * a1)), .int .i64 t.wo] 49 (0, 0))) ∧ Hid (WorkAt wr base g a0 a1 a2 (.slice A l.length c) (.slice A1 m c1) (.slice (some ⟨g2, 0, none⟩) m c2) st.1 st.2) ∧ Below w.heap.size w wr) (fun v _ => m - (intOf v).toNat)
 case atStart => exact ⟨0, ⟨0, 0, 0⟩, rfl, Nat.zero_le _, Lib.hid rfl, HT, HW, hW3⟩
 case round =>
  clear HT HW hW3
  obtain ⟨k, t, rfl, hk, HQ, HT, HW, hB⟩ := hrel
  by_cases hlt : k < m
  ·have hi0 : (0 : Int) ≤ (k : Int) := by omega
   have hi1 : (k : Int) < (m : Int) := by omega
   have hR1 := own_R103 (ok := fun _ => True) (by have := HW.out.ps; rw [HME.out] at this ⊢; exact this) (fun _ _ => trivial)
   obtain ⟨-, -, hCC⟩ := Kd.R_reads' hR1
   obtain ⟨ad1, rfl, hy0, hy1, hy2, hy3⟩ := at_T103 hCC (k : Int) hi0 (by rw [HME.out]; exact hi1)
   simp only [Int.toNat_natCast] at hy0 hy1 hy2 hy3
   clear hR1 hCC
   have hmk := (own_at_of (enc := Value.bool) (d := false) (by have := HW.out.cs; rw [hst] at this; exact this) (k : Int) hi0 hi1).1
   simp only [Int.toNat_natCast] at hmk
   have hdr : (st.1.zip st.2).drop k = (rd_T103 st.1 (k : Int), rdOf false st.2 (k : Int)) :: (st.1.zip st.2).drop (k + 1) := by
    have h1 : k < st.1.length := by have := HME.out; omega
    have h2 : k < st.2.length := by omega
    rw [List.drop_eq_getElem_cons (by simp; omega)]; simp [rdOf, rd_T103, h1, h2, List.getD_eq_getElem?_getD]
   generalize rd_T103 st.1 (k : Int) = p at *
   generalize rdOf false st.2 (k : Int) = cb at *
   have hbA := below_alloc (Below.refl wr.heap.size wr) (.cells #[.int .i64 p.f0, .int .i64 p.f1, .int .i64 p.f2, .int .i64 p.f3] 103)
   have hPA : (wr.alloc (.cells #[.int .i64 p.f0, .int .i64 p.f1, .int .i64 p.f2, .int .i64 p.f3] 103)).heap[wr.heap.size]? = some (.cells #[.int .i64 p.f0, .int .i64 p.f1, .int .i64 p.f2, .int .i64 p.f3] 103 (0, 0)) := alloc_at rfl
   have hGA := HW.out.below hbA
   have hTA := blk_below HT.out hbA
   have hBA := below_step hB hbA
   have hg5 := (blk_cell hGA.blk 5).trans rfl
   have hmkA := pw_cell_below hbA hmk
   clear hbA
   cases cb with
   | true =>
    have hst2 : tallyOf l uses st = tally l uses (k + 1) ((st.1.zip st.2).drop (k + 1)) t := by rw [HQ.out, hdr]; exact tally_cut
    have HST := Lib.hid hst2
    have HGA := Lib.hid hGA
    have HTA := Lib.hid hTA
    clear hst2 hdr HQ hGA hTA
    go_wp2
    go_roundw
    case rel => exact ⟨k + 1, t, by go_num, by omega, HST, HTA, HGA, hBA⟩
    case measure => simp [intOf]; omega
   | false =>
    have HDR := Lib.hid hdr
    clear hdr
    obtain ⟨ix, hix⟩ : ∃ ix, idx uses (k : Int) = ix := ⟨_, rfl⟩
    have HIX := Lib.hid hix
    clear hix
    by_cases hge : 0 ≤ ix
    ·have hgd : decide (ix ≥ 0) = true := decide_eq_true hge
     go_wp2_with (go_at_call 63; refine (idx_calls E u uses (k : Int) _ (Kd.C_below HU.out hBA) HUC.out HUB.out).mono ?_; rintro e w6 ⟨he6, hs6⟩; rw [HIX.out] at he6; subst he6)
     have hPB := blk_below hPA hs6
     replace hTA := blk_below hTA hs6
     replace hGA := hGA.below hs6
     have hB6 := below_drew1 (below_step hBA hs6)
     clear hs6 hy0 hy1 hy2 hy3 hmk hmkA hg5 hPA hBA HT HW hB
     generalize wr.heap.size = b6 at *
     have hP6 : w6.drew.heap[b6]? = some (.cells #[.int .i64 p.f0, .int .i64 p.f1, .int .i64 p.f2, .int .i64 p.f3] 103 (0, 0)) := hPB
     have hT6 : w6.drew.heap[w.heap.size]? = some (.cells #[.int .i64 t.sp, .int .i64 t.rm, .int .i64 (wrap64 (a0 * a1)), .int .i64 t.wo] 49 (0, 0)) := hTA
     have hG6 := hGA.below (below_drew1 (Below.refl _ _))
     clear hPB hTA hGA
     have hrg : ix < (l.length : Int) := by have := idx_range uses (k : Int); have := HIX.out; have := HLEN.out; omega
     have hst2 : tallyOf l uses st = tally l uses (k + 1) ((st.1.zip st.2).drop (k + 1)) ⟨sum2 t.sp (wrap64 (p.f2 * p.f3)), t.rm, sum2 t.wo (rd_T115 l ix).f3⟩ := by rw [HQ.out, HDR.out, tally_on, tally1_use (by rw [HIX.out]; exact hge), HIX.out]; rfl
     have HST := Lib.hid hst2
     clear hst2 HQ HDR HIX
     refine s_ 8 (fun w' => w'.cell? ⟨w.heap.size, 0, none⟩ = some (.int .i64 t.sp) ∧ w'.cell? ⟨b6, 0, none⟩ = some (.int .i64 p.f0) ∧ w'.cell? ⟨b6, 1, none⟩ = some (.int .i64 p.f1) ∧ w'.cell? ⟨b6, 2, none⟩ = some (.int .i64 p.f2) ∧ w'.cell? ⟨b6, 3, none⟩ = some (.int .i64 p.f3)) [7] ⟨(cB hT6), (cB hP6), (cB hP6), (cB hP6), (cB hP6)⟩ (fun hHeld => ?_)
     refine p_ 0 (some 37) ?_
     refine t_ 1 (some 38) hHeld ?_
     refine t_ 2 (some 39) hHeld ?_
     refine e_ 3 (some 40) (fun K hK => ?_)
     refine goes_ Try.func82 (by kernel_rfl) rfl #[.agg #[.int .i64 p.f0, .int .i64 p.f1, .int .i64 p.f2, .int .i64 p.f3]] (by rfl) rfl rfl (by simp only [List.map_toArray, List.map_cons, List.map_nil]; rfl) ?_
     with_reducible refine (plate_Piece_units.calls _ _ _ _ _ _ rfl).mono ?_
     rintro e V1 ⟨rfl, hs⟩
     replace hP6 := blk_below hP6 hs
     replace hT6 := blk_below hT6 hs
     replace hG6 := hG6.below hs
     replace hB6 := below_step hB6 hs
     clear hs
     refine ⟨_, rfl, ?_⟩
     refine hK.out _ _ ⟨(cB hT6), (cB hP6), (cB hP6), (cB hP6), (cB hP6)⟩ (fun hHeld => ?_)
     clear hK K
     refine n_ ?_
     refine e_ 4 (some 41) (fun K hK => ?_)
     refine slit_ (.cells #[.int .i64 t.sp, .int .i64 (wrap64 (p.f2 * p.f3))] 3 (0, 0)) 2 (by rfl) rfl ?_ ?_
     ·first | (go_simp; done) | (go_simp; rfl)
     intro gs V2 hgs hls hs
     replace hP6 := blk_below hP6 hs
     replace hT6 := blk_below hT6 hs
     replace hG6 := hG6.below hs
     replace hB6 := below_step hB6 hs
     clear hs
     refine hK.out _ _ ⟨(cB hT6), (cB hP6), (cB hP6), (cB hP6), (cB hP6)⟩ (fun hHeld => ?_)
     clear hK K
     refine n_ ?_
     refine e_ 5 (some 42) (fun K hK => ?_)
     refine goes_ Try.func83 (by kernel_rfl) rfl #[.slice (some ⟨gs, 0, none⟩) 2 2] (by rfl) rfl rfl (by simp only [List.map_toArray, List.map_cons, List.map_nil]; rfl) ?_
     with_reducible refine (sum2_calls hgs).mono ?_
     rintro e V3 ⟨rfl, hs⟩
     replace hP6 := blk_below hP6 hs
     replace hT6 := blk_below hT6 hs
     replace hG6 := hG6.below hs
     replace hB6 := below_step hB6 hs
     clear hs
     have cz : V3.cell? ⟨w.heap.size, 0, none⟩ = some (.int .i64 t.sp) := (blk_cell hT6 0).trans rfl
     have fz : V3.frozen? ⟨w.heap.size, 0, none⟩ = false := blk_frozen hT6 0
     refine ⟨_, rfl, ?_⟩
     refine hK.out _ _ ⟨(cB hT6), (cB hP6), (cB hP6), (cB hP6), (cB hP6)⟩ (fun hHeld => ?_)
     clear hK K
     refine n_ ?_
     refine p_ 6 (some 43) ?_
     refine l_ 7 none (fun K hK => ?_)
     refine skip_ (w1 := ?_) (by rfl) rfl ?_ ?_
     rotate_left
     ·go_simp
      rfl
     refine hK.out _ _ ?_
     clear hK K
     refine done_ (by kernel_rfl) ?_
     have hT7 := blk_put hT6 0 (.int .i64 (sum2 t.sp (wrap64 (p.f2 * p.f3)))) rfl
     have hG7 := hG6.put (j := 0) (u := .int .i64 (sum2 t.sp (wrap64 (p.f2 * p.f3)))) hT6 (by decide) (by decide) (by decide)
     have hB7 := below_set (j := 0) (v := .int .i64 (sum2 t.sp (wrap64 (p.f2 * p.f3)))) hB6 (Nat.le_refl _)
     generalize hw7 : V3.setCell ⟨w.heap.size, 0, none⟩ (.int .i64 (sum2 t.sp (wrap64 (p.f2 * p.f3)))) = W7 at *
     clear hw7 hP6 hT6 hG6 hB6 cz fz hHeld hgs hls
     obtain ⟨ad2, rfl, hz0, hz1, hz2, hz3, hz4, hz5, hz6, hz7⟩ := at_T115 (Kd.C_below HL.out hB7) ix hge hrg
     generalize rd_T115 l ix = x at *
     clear hz0 hz1 hz2 hz4 hz5 hz6 hz7
     go_wp2
     have hT8 : W7.drew.heap[w.heap.size]? = some (.cells #[.int .i64 (sum2 t.sp (wrap64 (p.f2 * p.f3))), .int .i64 t.rm, .int .i64 (wrap64 (a0 * a1)), .int .i64 t.wo] 49 (0, 0)) := hT7
     have hG8 := hG7.below (below_drew1 (Below.refl _ _))
     have hB8 := below_drew1 hB7
     have hz : W7.drew.cell? ⟨(ad2.add (ix.toNat * 8)).block, (ad2.add (ix.toNat * 8)).off + 3, none⟩ = some (.int .i64 x.f3) := hz3
     clear hT7 hG7 hB7 hz3
     refine s_ 15 (fun w' => w'.cell? ⟨w.heap.size, 3, none⟩ = some (.int .i64 t.wo) ∧ w'.cell? ⟨g, 3, none⟩ = some (.slice (some ad2) l.length c) ∧ w'.cell? ⟨(ad2.add (ix.toNat * 8)).block, (ad2.add (ix.toNat * 8)).off + 3, none⟩ = some (.int .i64 x.f3)) [14] ⟨(cB hT8), (cB hG8.blk), hz⟩ (fun hHeld => ?_)
     refine p_ 0 (some 44) ?_
     refine p_ 2 (some 46) ?_
     refine p_ 3 (some 47) ?_
     refine p_ 4 (some 48) ?_
     refine p_ 5 (some 49) ?_
     refine p_ 7 (some 51) ?_
     refine t_ 1 (some 45) hHeld ?_
     refine t_ 6 (some 50) hHeld ?_
     refine p_ 8 (some 52) ?_
     refine p_ 9 (some 53) ?_
     refine t_ 10 (some 54) hHeld ?_
     refine e_ 11 (some 55) (fun K hK => ?_)
     refine slit_ (.cells #[.int .i64 t.wo, .int .i64 x.f3] 3 (0, 0)) 2 (by rfl) rfl ?_ ?_
     ·first | (go_simp; done) | (go_simp; rfl)
     intro gs U2 hgs hls hs
     replace hz := pw_cell_below hs hz
     replace hT8 := blk_below hT8 hs
     replace hG8 := hG8.below hs
     replace hB8 := below_step hB8 hs
     clear hs
     refine hK.out _ _ ⟨(cB hT8), (cB hG8.blk), hz⟩ (fun hHeld => ?_)
     clear hK K
     refine n_ ?_
     refine e_ 12 (some 56) (fun K hK => ?_)
     refine goes_ Try.func83 (by kernel_rfl) rfl #[.slice (some ⟨gs, 0, none⟩) 2 2] (by rfl) rfl rfl (by simp only [List.map_toArray, List.map_cons, List.map_nil]; rfl) ?_
     with_reducible refine (sum2_calls hgs).mono ?_
     rintro e U3 ⟨rfl, hs⟩
     replace hz := pw_cell_below hs hz
     replace hT8 := blk_below hT8 hs
     replace hG8 := hG8.below hs
     replace hB8 := below_step hB8 hs
     clear hs
     have cz : U3.cell? ⟨w.heap.size, 3, none⟩ = some (.int .i64 t.wo) := (blk_cell hT8 3).trans rfl
     have fz : U3.frozen? ⟨w.heap.size, 3, none⟩ = false := blk_frozen hT8 3
     refine ⟨_, rfl, ?_⟩
     refine hK.out _ _ ⟨(cB hT8), (cB hG8.blk), hz⟩ (fun hHeld => ?_)
     clear hK K
     refine n_ ?_
     refine p_ 13 (some 57) ?_
     refine l_ 14 none (fun K hK => ?_)
     refine skip_ (w1 := ?_) (by rfl) rfl ?_ ?_
     rotate_left
     ·go_simp
      rfl
     refine hK.out _ _ ?_
     clear hK K
     refine done_ (by kernel_rfl) ?_
     have hT9 := blk_put hT8 3 (.int .i64 (sum2 t.wo x.f3)) rfl
     have hG9 := hG8.put (j := 3) (u := .int .i64 (sum2 t.wo x.f3)) hT8 (by decide) (by decide) (by decide)
     have hB9 := below_set (j := 3) (v := .int .i64 (sum2 t.wo x.f3)) hB8 (Nat.le_refl _)
     generalize hw9 : U3.setCell ⟨w.heap.size, 3, none⟩ (.int .i64 (sum2 t.wo x.f3)) = W9 at *
     clear hw9 hT8 hG8 hB8 cz fz hHeld hgs hls hz
     have HT9 := Lib.hid hT9
     have HG9 := Lib.hid hG9
     clear hT9 hG9
     go_wp2
     go_roundw
     case rel => exact ⟨k + 1, ⟨_, _, _⟩, by go_num, by omega, HST, HT9, HG9, hB9⟩
     case measure => simp [intOf]; omega
    ·have hgd : decide (ix ≥ 0) = false := decide_eq_false hge
     go_wp2_with (go_at_call 63; refine (idx_calls E u uses (k : Int) _ (Kd.C_below HU.out hBA) HUC.out HUB.out).mono ?_; rintro e w6 ⟨he6, hs6⟩; rw [HIX.out] at he6; subst he6)
     have hPB := blk_below hPA hs6
     replace hTA := blk_below hTA hs6
     replace hGA := hGA.below hs6
     have hB6 := below_drew1 (below_step hBA hs6)
     clear hs6 hy0 hy1 hy2 hy3 hmk hmkA hg5 hPA hBA HT HW hB
     generalize wr.heap.size = b6 at *
     have hP6 : w6.drew.heap[b6]? = some (.cells #[.int .i64 p.f0, .int .i64 p.f1, .int .i64 p.f2, .int .i64 p.f3] 103 (0, 0)) := hPB
     have hT6 : w6.drew.heap[w.heap.size]? = some (.cells #[.int .i64 t.sp, .int .i64 t.rm, .int .i64 (wrap64 (a0 * a1)), .int .i64 t.wo] 49 (0, 0)) := hTA
     have hG6 := hGA.below (below_drew1 (Below.refl _ _))
     clear hPB hTA hGA
     have hst2 : tallyOf l uses st = tally l uses (k + 1) ((st.1.zip st.2).drop (k + 1)) ⟨t.sp, sum2 t.rm (wrap64 (p.f2 * p.f3)), t.wo⟩ := by rw [HQ.out, HDR.out, tally_on, tally1_rem (by rw [HIX.out]; omega)]; rfl
     have HST := Lib.hid hst2
     clear hst2 HQ HDR HIX
     refine s_ 8 (fun w' => w'.cell? ⟨w.heap.size, 1, none⟩ = some (.int .i64 t.rm) ∧ w'.cell? ⟨b6, 0, none⟩ = some (.int .i64 p.f0) ∧ w'.cell? ⟨b6, 1, none⟩ = some (.int .i64 p.f1) ∧ w'.cell? ⟨b6, 2, none⟩ = some (.int .i64 p.f2) ∧ w'.cell? ⟨b6, 3, none⟩ = some (.int .i64 p.f3)) [7] ⟨(cB hT6), (cB hP6), (cB hP6), (cB hP6), (cB hP6)⟩ (fun hHeld => ?_)
     refine p_ 0 (some 58) ?_
     refine t_ 1 (some 59) hHeld ?_
     refine t_ 2 (some 60) hHeld ?_
     refine e_ 3 (some 61) (fun K hK => ?_)
     refine goes_ Try.func82 (by kernel_rfl) rfl #[.agg #[.int .i64 p.f0, .int .i64 p.f1, .int .i64 p.f2, .int .i64 p.f3]] (by rfl) rfl rfl (by simp only [List.map_toArray, List.map_cons, List.map_nil]; rfl) ?_
     with_reducible refine (plate_Piece_units.calls _ _ _ _ _ _ rfl).mono ?_
     rintro e V1 ⟨rfl, hs⟩
     replace hP6 := blk_below hP6 hs
     replace hT6 := blk_below hT6 hs
     replace hG6 := hG6.below hs
     replace hB6 := below_step hB6 hs
     clear hs
     refine ⟨_, rfl, ?_⟩
     refine hK.out _ _ ⟨(cB hT6), (cB hP6), (cB hP6), (cB hP6), (cB hP6)⟩ (fun hHeld => ?_)
     clear hK K
     refine n_ ?_
     refine e_ 4 (some 62) (fun K hK => ?_)
     refine slit_ (.cells #[.int .i64 t.rm, .int .i64 (wrap64 (p.f2 * p.f3))] 3 (0, 0)) 2 (by rfl) rfl ?_ ?_
     ·first | (go_simp; done) | (go_simp; rfl)
     intro gs V2 hgs hls hs
     replace hP6 := blk_below hP6 hs
     replace hT6 := blk_below hT6 hs
     replace hG6 := hG6.below hs
     replace hB6 := below_step hB6 hs
     clear hs
     refine hK.out _ _ ⟨(cB hT6), (cB hP6), (cB hP6), (cB hP6), (cB hP6)⟩ (fun hHeld => ?_)
     clear hK K
     refine n_ ?_
     refine e_ 5 (some 63) (fun K hK => ?_)
     refine goes_ Try.func83 (by kernel_rfl) rfl #[.slice (some ⟨gs, 0, none⟩) 2 2] (by rfl) rfl rfl (by simp only [List.map_toArray, List.map_cons, List.map_nil]; rfl) ?_
     with_reducible refine (sum2_calls hgs).mono ?_
     rintro e V3 ⟨rfl, hs⟩
     replace hP6 := blk_below hP6 hs
     replace hT6 := blk_below hT6 hs
     replace hG6 := hG6.below hs
     replace hB6 := below_step hB6 hs
     clear hs
     have cz : V3.cell? ⟨w.heap.size, 1, none⟩ = some (.int .i64 t.rm) := (blk_cell hT6 1).trans rfl
     have fz : V3.frozen? ⟨w.heap.size, 1, none⟩ = false := blk_frozen hT6 1
     refine ⟨_, rfl, ?_⟩
     refine hK.out _ _ ⟨(cB hT6), (cB hP6), (cB hP6), (cB hP6), (cB hP6)⟩ (fun hHeld => ?_)
     clear hK K
     refine n_ ?_
     refine p_ 6 (some 64) ?_
     refine l_ 7 none (fun K hK => ?_)
     refine skip_ (w1 := ?_) (by rfl) rfl ?_ ?_
     rotate_left
     ·go_simp
      rfl
     refine hK.out _ _ ?_
     clear hK K
     refine done_ (by kernel_rfl) ?_
     have hT7 := blk_put hT6 1 (.int .i64 (sum2 t.rm (wrap64 (p.f2 * p.f3)))) rfl
     have hG7 := hG6.put (j := 1) (u := .int .i64 (sum2 t.rm (wrap64 (p.f2 * p.f3)))) hT6 (by decide) (by decide) (by decide)
     have hB7 := below_set (j := 1) (v := .int .i64 (sum2 t.rm (wrap64 (p.f2 * p.f3)))) hB6 (Nat.le_refl _)
     generalize hw7 : V3.setCell ⟨w.heap.size, 1, none⟩ (.int .i64 (sum2 t.rm (wrap64 (p.f2 * p.f3)))) = W7 at *
     clear hw7 hP6 hT6 hG6 hB6 cz fz hHeld hgs hls
     have HT7 := Lib.hid hT7
     have HG7 := Lib.hid hG7
     clear hT7 hG7
     go_wp2
     go_roundw
     case rel => exact ⟨k + 1, ⟨_, _, _⟩, by go_num, by omega, HST, HT7, HG7, hB7⟩
     case measure => simp [intOf]; omega
  ·have hke : k = m := by omega
   subst hke
   have hfin : tallyOf l uses st = t := by rw [HQ.out, List.drop_eq_nil_of_le (by have := HME.out; simp; omega)]; rfl
   have HFIN := Lib.hid hfin
   clear hfin HQ
   go_wp2
   have hT6 : wr.drew.heap[w.heap.size]? = some (.cells #[.int .i64 t.sp, .int .i64 t.rm, .int .i64 (wrap64 (a0 * a1)), .int .i64 t.wo] 49 (0, 0)) := HT.out
   have hB6 := below_drew1 hB
   clear HT HW hB
   refine s_ 11 (fun w' => w'.cell? ⟨w.heap.size, 0, none⟩ = some (.int .i64 t.sp) ∧ w'.cell? ⟨w.heap.size, 1, none⟩ = some (.int .i64 t.rm) ∧ w'.cell? ⟨w.heap.size, 2, none⟩ = some (.int .i64 (wrap64 (a0 * a1)))) [10] ⟨(cB hT6), (cB hT6), (cB hT6)⟩ (fun hHeld => ?_)
   refine p_ 0 (some 66) ?_
   refine p_ 2 (some 68) ?_
   refine p_ 4 (some 70) ?_
   refine t_ 1 (some 67) hHeld ?_
   refine t_ 3 (some 69) hHeld ?_
   refine t_ 5 (some 71) hHeld ?_
   refine e_ 6 (some 72) (fun K hK => ?_)
   refine slit_ (.cells #[.int .i64 t.sp, .int .i64 t.rm] 3 (0, 0)) 2 (by rfl) rfl ?_ ?_
   ·first | (go_simp; done) | (go_simp; rfl)
   intro gs U2 hgs hls hs
   replace hT6 := blk_below hT6 hs
   replace hB6 := below_step hB6 hs
   clear hs
   refine hK.out _ _ ⟨(cB hT6), (cB hT6), (cB hT6)⟩ (fun hHeld => ?_)
   clear hK K
   refine n_ ?_
   refine e_ 7 (some 73) (fun K hK => ?_)
   refine goes_ Try.func83 (by kernel_rfl) rfl #[.slice (some ⟨gs, 0, none⟩) 2 2] (by rfl) rfl rfl (by simp only [List.map_toArray, List.map_cons, List.map_nil]; rfl) ?_
   with_reducible refine (sum2_calls hgs).mono ?_
   rintro e U3 ⟨rfl, hs⟩
   replace hT6 := blk_below hT6 hs
   replace hB6 := below_step hB6 hs
   clear hs
   have cz : U3.cell? ⟨w.heap.size, 2, none⟩ = some (.int .i64 (wrap64 (a0 * a1))) := (blk_cell hT6 2).trans rfl
   have fz : U3.frozen? ⟨w.heap.size, 2, none⟩ = false := blk_frozen hT6 2
   refine ⟨_, rfl, ?_⟩
   refine hK.out _ _ ⟨(cB hT6), (cB hT6), (cB hT6)⟩ (fun hHeld => ?_)
   clear hK K
   refine n_ ?_
   refine p_ 8 (some 74) ?_
   refine p_ 9 (some 75) ?_
   refine l_ 10 none (fun K hK => ?_)
   refine skip_ (w1 := ?_) (by rfl) rfl ?_ ?_
   rotate_left
   ·go_simp
    rfl
   refine hK.out _ _ ?_
   clear hK K
   refine done_ (by kernel_rfl) ?_
   obtain ⟨ch, hch⟩ : ∃ ch, wrap64 (wrap64 (a0 * a1) - sum2 t.sp t.rm) = ch := ⟨_, rfl⟩
   have HCH := Lib.hid hch
   rw [hch]
   clear hch
   have hT7 : (U3.setCell ⟨w.heap.size, 2, none⟩ (.int .i64 ch)).heap[w.heap.size]? = some (.cells #[.int .i64 t.sp, .int .i64 t.rm, .int .i64 ch, .int .i64 t.wo] 49 (0, 0)) := blk_put hT6 2 _ rfl
   have hB7 := below_set (j := 2) (v := .int .i64 ch) hB6 (Nat.le_refl _)
   generalize hw7 : U3.setCell ⟨w.heap.size, 2, none⟩ (.int .i64 ch) = W7 at *
   clear hw7 hT6 hB6 cz fz hHeld hgs hls
   have cz0 : (W7).cell? ⟨w.heap.size, 0, none⟩ = some (.int .i64 t.sp) := (blk_cell hT7 0).trans rfl
   have czf0 : (W7).frozen? ⟨w.heap.size, 0, none⟩ = false := blk_frozen hT7 0
   have cz1 : (W7).cell? ⟨w.heap.size, 1, none⟩ = some (.int .i64 t.rm) := (blk_cell hT7 1).trans rfl
   have czf1 : (W7).frozen? ⟨w.heap.size, 1, none⟩ = false := blk_frozen hT7 1
   have cz2 : (W7).cell? ⟨w.heap.size, 2, none⟩ = some (.int .i64 ch) := (blk_cell hT7 2).trans rfl
   have czf2 : (W7).frozen? ⟨w.heap.size, 2, none⟩ = false := blk_frozen hT7 2
   have cz3 : (W7).cell? ⟨w.heap.size, 3, none⟩ = some (.int .i64 t.wo) := (blk_cell hT7 3).trans rfl
   have czf3 : (W7).frozen? ⟨w.heap.size, 3, none⟩ = false := blk_frozen hT7 3
   go_wp2
   (try simp only [Exit.inBlock, Exit.then])
   refine bodyPost_ret (results_single rfl (.cell w.heap.size 49 #[.int .i64 t.sp, .int .i64 t.rm, .int .i64 ch, .int .i64 t.wo] (0, 0) _ rfl (blk_put (blk_put (blk_put (blk_put hT7 0 _ (cs' := #[.int .i64 t.sp, .int .i64 t.rm, .int .i64 ch, .int .i64 t.wo]) rfl) 1 _ (cs' := #[.int .i64 t.sp, .int .i64 t.rm, .int .i64 ch, .int .i64 t.wo]) rfl) 2 _ (cs' := #[.int .i64 t.sp, .int .i64 t.rm, .int .i64 ch, .int .i64 t.wo]) rfl) 3 _ (cs' := #[.int .i64 t.sp, .int .i64 t.rm, .int .i64 ch, .int .i64 t.wo]) rfl) Try.underlying49 rfl (by kernel_rfl) .nil)) rfl ?_
   unfold chipsOf
   rw [HFIN.out, HCH.out]
   exact ⟨rfl, below_set (below_set (below_set (below_set hB7 (Nat.le_refl _)) (Nat.le_refl _)) (Nat.le_refl _)) (Nat.le_refl _)⟩
end Go.Proofs.Ytffjbaknglemdaa.X
