import Derived.Test.YtffjbaknglemdaaHD0
namespace Go.Proofs.Ytffjbaknglemdaa.X
open Go.RowKit Go.Proofs.YtffjbaknglemdaaW.PrintWords Go.Proofs.YtffjbaknglemdaaW.PrintLast Go.Proofs.YtffjbaknglemdaaW.PrintMore
set_option linter.unusedSimpArgs false
set_option linter.unusedVariables false

theorem checkPlate_some (a0 a1 a2 : Int) (l : List S115) : plate_CheckPlate.f a0 a1 a2 l = some (chk a0 a1 a2 l) := by
 have : ∃ r, plate_CheckPlate.f a0 a1 a2 l = some r := by
  unfold plate_CheckPlate.f
  obtain ⟨r0, h0⟩ := side_some a0; obtain ⟨r1, h1⟩ := side_some a1; obtain ⟨r2, h2⟩ := within_some a2 0 2
  rw [h0, h1, h2]
  unfold plate_all_Wanted.f
  simp only [Option.bind_some]
  repeat' split
  all_goals exact ⟨_, rfl⟩
 obtain ⟨r, h⟩ := this
 unfold chk
 rw [h]; rfl

def DoEnd (a0 a1 a2 : Int) (sv : Value) (l : List S115) (cuts : List S112) (w : World) (e : Ending) (w' : World) : Prop :=
 Below w.heap.size w w' ∧ match doOf a0 a1 a2 l cuts with
 | (er, none) => e = .returned (.tuple #[.pointer none, .int .i64 er])
 | (er, some st) => ∃ g A1 c1 A2 c2, e = .returned (.tuple #[.pointer (some ⟨g, 0, none⟩), .int .i64 0]) ∧ WorkAt w' w.heap.size g a0 a1 a2 sv (.slice A1 st.1.length c1) (.slice A2 st.2.length c2) st.1 st.2
theorem DoEnd.bad {a0 a1 a2 : Int} {sv : Value} {l : List S115} {cuts : List S112} {w w' : World} {er : Int} (h : doOf a0 a1 a2 l cuts = (er, none)) (hb : Below w.heap.size w w') : DoEnd a0 a1 a2 sv l cuts w (.returned (.tuple #[.pointer none, .int .i64 er])) w' := by
 unfold DoEnd; rw [h]; exact ⟨hb, rfl⟩

set_option maxRecDepth 100000 in
set_option maxHeartbeats 4000000 in
theorem do_calls (a0 a1 a2 : Int) (A : Option Addr) (c : Nat) (l : List S115) (B : Option Addr) (d : Nat) (cuts : List S112) (w : World) (hl : Kd.C k115 w A l.length l) (hlc : l.length ≤ c) (hq : Kd.C k112 w B cuts.length cuts) (hqc : cuts.length ≤ d) :
  Calls Try.prog 75 #[.agg #[.int .i64 a0, .int .i64 a1, .int .i64 a2, .slice A l.length c], .slice B cuts.length d] w (DoEnd a0 a1 a2 (.slice A l.length c) l cuts w) := by
 have HL := Lib.hid hl
 have HLC := Lib.hid hlc
 have HQ := Lib.hid hq
 have hcm : cuts.length ≤ 9223372036854775807 := hq.2.1
 clear hl hlc hq
 obtain ⟨er, her⟩ : ∃ er, chk a0 a1 a2 l = er := ⟨_, rfl⟩
 have hcf : plate_CheckPlate.f a0 a1 a2 l = some er := by rw [checkPlate_some, her]
 have HCF := Lib.hid hcf
 have HER := Lib.hid her
 clear hcf her
 by_cases he0 : er = 0
 ·subst he0
  by_cases h40 : 40 < cuts.length
  ·have hd40 : decide ((40 : Int) < (cuts.length : Int)) = true := decide_eq_true (by omega)
   have hdo : doOf a0 a1 a2 l cuts = (3, none) := by unfold doOf; rw [HER.out, if_neg (by simp), if_pos h40]
   have HDO := Lib.hid hdo
   clear hdo
   go_enter Try.func75, Try.ntmps75
   go_wp2_with (go_at_call 47; refine (plate_CheckPlate.calls _ _ _ _ _ l _ _ (Kd.C_below HL.out (below_alloc (Below.refl _ _) _)) HLC.out HCF.out).mono ?_; rintro e w1 ⟨rfl, hb1⟩)
   go_ret2
   exact DoEnd.bad HDO.out (below_step (below_alloc (Below.refl _ _) _) hb1)
  ·have hd40 : decide ((40 : Int) < (cuts.length : Int)) = false := decide_eq_false (by omega)
   have hdo : doOf a0 a1 a2 l cuts = doFin (doAll a2 ([⟨0, 0, a0, a1⟩], [false]) cuts) := by unfold doOf; rw [HER.out, if_neg (by simp), if_neg h40]
   have HDO := Lib.hid hdo
   clear hdo
   go_enter Try.func75, Try.ntmps75
   go_wp2_with (go_at_call 47; refine (plate_CheckPlate.calls _ _ _ _ _ l _ _ (Kd.C_below HL.out (below_alloc (Below.refl _ _) _)) HLC.out HCF.out).mono ?_; rintro e w1 ⟨rfl, hb1⟩)
   have hP1 : w1.heap[w.heap.size]? = some (.cells #[.int .i64 a0, .int .i64 a1, .int .i64 a2, .slice A l.length c] 55 (0, 0)) := blk_below (alloc_at rfl) hb1
   have hW1 : Below w.heap.size w w1 := below_step (below_alloc (Below.refl _ _) _) hb1
   have hB0 : Below w1.heap.size w1 w1.drew := below_drew1 (Below.refl _ _)
   have hP0 : w1.drew.heap[w.heap.size]? = some (.cells #[.int .i64 a0, .int .i64 a1, .int .i64 a2, .slice A l.length c] 55 (0, 0)) := hP1
   clear hb1
   refine s_ 8 (fun w' => w'.cell? ⟨w.heap.size, 0, none⟩ = some (.int .i64 a0) ∧ w'.cell? ⟨w.heap.size, 1, none⟩ = some (.int .i64 a1) ∧ w'.cell? ⟨w.heap.size, 2, none⟩ = some (.int .i64 a2) ∧ w'.cell? ⟨w.heap.size, 3, none⟩ = some (.slice A l.length c)) [] ⟨(cB hP0), (cB hP0), (cB hP0), (cB hP0)⟩ (fun hHeld => ?_)
   refine ta_ 0 #[true, false, false, false, false, false, false, false] (some 21) hHeld ?_
   refine ta_ 1 #[true, true, false, false, false, false, false, false] (some 22) hHeld ?_
   refine join_ (σ := Nat × Nat) 3 #[true, true, true, true, true, false, false, false] (fun s => [(23, .agg #[.int .i64 0, .int .i64 0, .int .i64 a0, .int .i64 a1]), (24, .slice (some ⟨s.1, 0, none⟩) 1 1), (25, .slice (some ⟨s.2, 0, none⟩) 1 1)]) (fun s w' => w'.heap[s.1]? = some (.cells #[.int .i64 0, .int .i64 0, .int .i64 a0, .int .i64 a1] 103 (0, 0)) ∧ w'.heap[s.2]? = some (.cells #[.bool false] 4 (0, 0)) ∧ w.heap.size ≤ s.1 ∧ w.heap.size ≤ s.2 ∧ Below w1.heap.size w1 w') ?_ ?_
   rotate_left
   ·intro hCont
    refine two_ (i := 2) (j := 4) (Ni := some 23) (Nj := some 25) #[true, true, true, false, false, false, false, false] #[true, true, false, false, true, false, false, false] rfl rfl rfl rfl (by kernel_rfl) (by decide) (by decide) (fun K hK => ?_) (fun K hK => ?_)
    ·skip
     refine goes_ Try.func61 (by kernel_rfl) rfl #[.agg #[.int .i64 a0, .int .i64 a1, .int .i64 a2, .slice A l.length c]] (by rfl) rfl rfl (by simp only [List.map_toArray, List.map_cons, List.map_nil]; rfl) ?_
     with_reducible refine (plate_Plate_whole.calls a0 a1 a2 A c l 0 0 a0 a1 _ (Kd.C_below HL.out (below_step hW1 hB0)) HLC.out rfl).mono ?_
     rintro e W1 ⟨rfl, hs⟩
     have hB1 := below_step hB0 hs
     have hP1 := blk_below hP0 hs
     refine ⟨_, rfl, ?_⟩
     refine hK.out _ _ ⟨(cB hP1), (cB hP1), (cB hP1), (cB hP1)⟩ (fun hHeld => ?_)
     clear hK K
     refine n_ ?_
     refine two_ (i := 3) (j := 4) (Ni := some 24) (Nj := some 25) #[true, true, true, true, false, false, false, false] #[true, true, true, false, true, false, false, false] rfl rfl rfl rfl (by kernel_rfl) (by decide) (by decide) (fun K hK => ?_) (fun K hK => ?_)
     ·skip
      refine slit_ (.cells #[.int .i64 0, .int .i64 0, .int .i64 a0, .int .i64 a1] 103 (0, 0)) 1 (by rfl) rfl ?_ ?_
      ·first | (go_simp; done) | (go_simp; rfl)
      intro g3 W2 hg3 hl3 hs
      have hl3 : w.heap.size ≤ g3 := Nat.le_trans (Nat.le_trans hW1.size hB1.size) hl3
      have hB2 := below_step hB1 hs
      have hP2 := blk_below hP1 hs
      refine hK.out _ _ ⟨(cB hP2), (cB hP2), (cB hP2), (cB hP2)⟩ (fun hHeld => ?_)
      clear hK K
      refine n_ ?_
      refine ea_ 4 #[true, true, true, true, true, false, false, false] (some 25) (fun K hK => ?_)
      refine slit_ (.cells #[.bool false] 4 (0, 0)) 1 (by rfl) rfl ?_ ?_
      ·first | (go_simp; done) | (go_simp; rfl)
      intro g4 W3 hg4 hl4 hs
      have hl4 : w.heap.size ≤ g4 := Nat.le_trans (Nat.le_trans hW1.size hB2.size) hl4
      have hB3 := below_step hB2 hs
      have hP3 := blk_below hP2 hs
      replace hg3 := blk_below hg3 hs
      refine hK.out _ _ ⟨(cB hP3), (cB hP3), (cB hP3), (cB hP3)⟩ (fun hHeld => ?_)
      clear hK K
      refine n_ ?_
      exact m_ (hCont (g3, g4) _ ⟨hg3, hg4, hl3, hl4, hB3⟩)
     ·skip
      refine slit_ (.cells #[.bool false] 4 (0, 0)) 1 (by rfl) rfl ?_ ?_
      ·first | (go_simp; done) | (go_simp; rfl)
      intro g4 W2 hg4 hl4 hs
      have hl4 : w.heap.size ≤ g4 := Nat.le_trans (Nat.le_trans hW1.size hB1.size) hl4
      have hB2 := below_step hB1 hs
      have hP2 := blk_below hP1 hs
      refine hK.out _ _ ⟨(cB hP2), (cB hP2), (cB hP2), (cB hP2)⟩ (fun hHeld => ?_)
      clear hK K
      refine n_ ?_
      refine ea_ 3 #[true, true, true, true, true, false, false, false] (some 24) (fun K hK => ?_)
      refine slit_ (.cells #[.int .i64 0, .int .i64 0, .int .i64 a0, .int .i64 a1] 103 (0, 0)) 1 (by rfl) rfl ?_ ?_
      ·first | (go_simp; done) | (go_simp; rfl)
      intro g3 W3 hg3 hl3 hs
      have hl3 : w.heap.size ≤ g3 := Nat.le_trans (Nat.le_trans hW1.size hB2.size) hl3
      have hB3 := below_step hB2 hs
      have hP3 := blk_below hP2 hs
      replace hg4 := blk_below hg4 hs
      refine hK.out _ _ ⟨(cB hP3), (cB hP3), (cB hP3), (cB hP3)⟩ (fun hHeld => ?_)
      clear hK K
      refine n_ ?_
      exact m_ (hCont (g3, g4) _ ⟨hg3, hg4, hl3, hl4, hB3⟩)
    ·skip
     refine slit_ (.cells #[.bool false] 4 (0, 0)) 1 (by rfl) rfl ?_ ?_
     ·first | (go_simp; done) | (go_simp; rfl)
     intro g4 W1 hg4 hl4 hs
     have hl4 : w.heap.size ≤ g4 := Nat.le_trans (Nat.le_trans hW1.size hB0.size) hl4
     have hB1 := below_step hB0 hs
     have hP1 := blk_below hP0 hs
     refine hK.out _ _ ⟨(cB hP1), (cB hP1), (cB hP1), (cB hP1)⟩ (fun hHeld => ?_)
     clear hK K
     refine n_ ?_
     refine ea_ 2 #[true, true, true, false, true, false, false, false] (some 23) (fun K hK => ?_)
     refine goes_ Try.func61 (by kernel_rfl) rfl #[.agg #[.int .i64 a0, .int .i64 a1, .int .i64 a2, .slice A l.length c]] (by rfl) rfl rfl (by simp only [List.map_toArray, List.map_cons, List.map_nil]; rfl) ?_
     with_reducible refine (plate_Plate_whole.calls a0 a1 a2 A c l 0 0 a0 a1 _ (Kd.C_below HL.out (below_step hW1 hB1)) HLC.out rfl).mono ?_
     rintro e W2 ⟨rfl, hs⟩
     have hB2 := below_step hB1 hs
     have hP2 := blk_below hP1 hs
     replace hg4 := blk_below hg4 hs
     refine ⟨_, rfl, ?_⟩
     refine hK.out _ _ ⟨(cB hP2), (cB hP2), (cB hP2), (cB hP2)⟩ (fun hHeld => ?_)
     clear hK K
     refine n_ ?_
     refine ea_ 3 #[true, true, true, true, true, false, false, false] (some 24) (fun K hK => ?_)
     refine slit_ (.cells #[.int .i64 0, .int .i64 0, .int .i64 a0, .int .i64 a1] 103 (0, 0)) 1 (by rfl) rfl ?_ ?_
     ·first | (go_simp; done) | (go_simp; rfl)
     intro g3 W3 hg3 hl3 hs
     have hl3 : w.heap.size ≤ g3 := Nat.le_trans (Nat.le_trans hW1.size hB2.size) hl3
     have hB3 := below_step hB2 hs
     have hP3 := blk_below hP2 hs
     replace hg4 := blk_below hg4 hs
     refine hK.out _ _ ⟨(cB hP3), (cB hP3), (cB hP3), (cB hP3)⟩ (fun hHeld => ?_)
     clear hK K
     refine n_ ?_
     exact m_ (hCont (g3, g4) _ ⟨hg3, hg4, hl3, hl4, hB3⟩)
   clear hHeld
   rintro ⟨g3, g4⟩ W3 ⟨hg3, hg4, hl3, hl4, hB3⟩
   have hP3 := blk_below hP1 hB3
   have hHeld : W3.cell? ⟨w.heap.size, 0, none⟩ = some (.int .i64 a0) ∧ W3.cell? ⟨w.heap.size, 1, none⟩ = some (.int .i64 a1) ∧ W3.cell? ⟨w.heap.size, 2, none⟩ = some (.int .i64 a2) ∧ W3.cell? ⟨w.heap.size, 3, none⟩ = some (.slice A l.length c) := ⟨(cB hP3), (cB hP3), (cB hP3), (cB hP3)⟩
   refine m_ ?_
   refine pa_ 5 #[true, true, true, true, true, true, false, false] (some 26) ?_
   refine ea_ 6 #[true, true, true, true, true, true, true, false] (some 27) (fun K hK => ?_)
   refine pbox_ (.cells #[.int .i64 a0, .int .i64 a1, .int .i64 a2, .slice A l.length c, .slice (some ⟨g3, 0, none⟩) 1 1, .slice (some ⟨g4, 0, none⟩) 1 1] 134 (0, 0)) (by rfl) rfl ?_ ?_
   ·first | (go_simp; done) | (go_simp; rfl)
   intro g W4 hg hlg hs
   have hB4 := below_step hB3 hs
   have hP4 := blk_below hP3 hs
   replace hg3 := blk_below hg3 hs
   replace hg4 := blk_below hg4 hs
   refine hK.out _ _ ⟨(cB hP4), (cB hP4), (cB hP4), (cB hP4)⟩ (fun hHeld => ?_)
   clear hK K
   refine n_ ?_
   refine pa_ 7 #[true, true, true, true, true, true, true, true] (some 7) ?_
   refine done_ (by kernel_rfl) ?_
   have hWA : WorkAt W4 w.heap.size g a0 a1 a2 (.slice A l.length c) (.slice (some ⟨g3, 0, none⟩) 1 1) (.slice (some ⟨g4, 0, none⟩) 1 1) [⟨0, 0, a0, a1⟩] [false] :=
    ⟨hg, by have := hW1.size; have := hB3.size; omega, ⟨rfl, .inr ⟨g3, 1, _, rfl, hl3, hg3, by simp, by simp [maxLen], rfl, rfl⟩⟩, ⟨rfl, .inr ⟨g4, 1, _, rfl, hl4, hg4, by simp, by simp [maxLen], rfl, rfl⟩⟩⟩
   have hW4 := below_step hW1 hB4
   clear hP0 hP1 hP3 hB0 hB3 hB4 hg hg3 hg4 hl3 hl4 hlg hs hHeld hW1
   have HWA := Lib.hid hWA
   have HP4 := Lib.hid hP4
   clear hWA hP4
   go_wp2
   go_loopw [30] (fun v wr => ∃ (k : Nat) (ps : List S103) (cs : List Bool) (v1 v2 : Value), v = .int .i64 k ∧ k ≤ cuts.length ∧ ps.length ≤ 1 + 2 * k ∧ Hid (cs.length = ps.length) ∧ Hid (WorkAt wr w.heap.size g a0 a1 a2 (.slice A l.length c) v1 v2 ps cs) ∧
    Hid (wr.heap[w.heap.size]? = some (.cells #[.int .i64 a0, .int .i64 a1, .int .i64 a2, .slice A l.length c] 55 (0, 0))) ∧ Hid (doAll a2 ([⟨0, 0, a0, a1⟩], [false]) cuts = doAll a2 (ps, cs) (cuts.drop k)) ∧ Below w.heap.size w wr) (fun v _ => cuts.length - (intOf v).toNat)
   case atStart => exact ⟨0, _, _, _, _, rfl, Nat.zero_le _, by simp, Lib.hid rfl, HWA, HP4, Lib.hid rfl, hW4⟩
   case round =>
    clear HWA HP4 hW4
    obtain ⟨k, ps, cs, v1, v2, rfl, hk, hpl, HCL, HWA, HP, HDA, hB⟩ := hrel
    by_cases hlt : k < cuts.length
    ·have hi0 : (0 : Int) ≤ (k : Int) := by omega
     have hi1 : (k : Int) < (cuts.length : Int) := by omega
     obtain ⟨ad, rfl, hx0, hx1, hx2⟩ := at_T112 (Kd.C_below HQ.out hB) (k : Int) hi0 hi1
     simp only [Int.toNat_natCast] at hx0 hx1 hx2
     have hdr : cuts.drop k = rd_T112 cuts (k : Int) :: cuts.drop (k + 1) := by rw [List.drop_eq_getElem_cons hlt]; simp [rd_T112, hlt, List.getD_eq_getElem?_getD]
     have HDR := Lib.hid hdr
     clear hdr
     generalize hxe : rd_T112 cuts (k : Int) = x at *
     clear hxe
     go_wp2
     obtain ⟨w5, hw5⟩ : ∃ w5, w5 = wr.alloc (.cells #[.int .i64 x.f0, .bool x.f1, .int .i64 x.f2] 112) := ⟨_, rfl⟩
     rw [← hw5]
     have hC5 : w5.heap[wr.heap.size]? = some (.cells #[.int .i64 x.f0, .bool x.f1, .int .i64 x.f2] 112 (0, 0)) := by rw [hw5]; exact alloc_at rfl
     have hb5 : Below wr.heap.size wr w5 := by rw [hw5]; exact below_alloc (Below.refl _ _) _
     clear hw5 hx0 hx1 hx2
     have hWA5 := HWA.out.below hb5
     have hP5 := blk_below HP.out hb5
     have hB5 := below_step hB hb5
     have hbc := blk_lt hC5
     generalize wr.heap.size = bc at hC5 hbc ⊢
     clear hb5 HWA HP hB
     obtain ⟨m, hm⟩ : ∃ m, ps.length = m := ⟨_, rfl⟩
     have hm1 : m ≤ 83 := by omega
     have hm2 : m ≤ 1 + 2 * k := by omega
     have own1 := hWA5.ps
     have own2 := hWA5.cs
     rw [HCL.out] at own2
     rw [hm] at own1 own2
     have HM := Lib.hid hm
     clear hm hpl
     obtain ⟨A1, c1, rfl⟩ := own_form own1
     have hwl : wrap64 ((m : Int) - 1) = (m : Int) - 1 := by unfold wrap64; omega
     have HWL := Lib.hid hwl
     clear hwl
     by_cases hin : 0 ≤ x.f0 ∧ x.f0 < (m : Int)
     ·have hm0 : 0 < m := by omega
      obtain ⟨g2, c2, rfl, hlo2, hg2⟩ := own2.form hm0
      have hmk := own_at_of (enc := Value.bool) (d := false) own2 x.f0 hin.1 hin.2
      have hwt : plate_within.f x.f0 0 (wrap64 ((m : Int) - 1)) = some true := within_yes (by rw [HWL.out]; omega)
      have HWT := Lib.hid hwt
      clear hwt HWL
      have hp0 := eq_true hin.1
      have hp1 := eq_true hin.2
      by_cases hcut : rdOf false cs x.f0 = true
      ·have hst : doStep a2 (ps, cs) x = none := by unfold doStep; rw [if_pos (by rw [HM.out]; exact hin), if_pos (show (ps, cs).2.getD x.f0.toNat false = true from hcut)]
       have hdn : doOf a0 a1 a2 l cuts = (11, none) := by rw [HDO.out, HDA.out, HDR.out, doAll_bad hst]; rfl
       have HDN := Lib.hid hdn
       rw [hcut] at hmk
       clear hst hdn HDO HDA HDR hlt hi0 hi1 hcut hin
       refine s_ 20 (fun w' => w'.cell? ⟨g, 4, none⟩ = some (.slice A1 m c1) ∧ w'.cell? ⟨bc, 0, none⟩ = some (.int .i64 x.f0) ∧ w'.cell? ⟨g, 5, none⟩ = some (.slice (some ⟨g2, 0, none⟩) m c2) ∧ w'.cell? ⟨g2, x.f0.toNat, none⟩ = some (.bool true)) [] ⟨(cB hWA5.blk), (cB hC5), (cB hWA5.blk), hmk.1⟩ (fun hHeld => ?_)
       refine p_ 0 (some 34) ?_
       refine p_ 2 (some 36) ?_
       refine p_ 3 (some 37) ?_
       refine p_ 4 (some 38) ?_
       refine t_ 1 (some 35) hHeld ?_
       refine t_ 5 (some 39) hHeld ?_
       refine p_ 6 (some 40) ?_
       refine p_ 7 (some 41) ?_
       refine e_ 8 (some 42) (fun K hK => ?_)
       refine goes_ Try.func72 (by kernel_rfl) rfl #[.int .i64 x.f0, .int .i64 0, .int .i64 (wrap64 (↑m - 1))] (by rfl) rfl rfl (by simp only [List.map_toArray, List.map_cons, List.map_nil]; rfl) ?_
       with_reducible refine (plate_within.calls _ _ _ true _ HWT.out).mono ?_
       rintro e W6 ⟨rfl, hs⟩
       have hb6 := hs.below
       refine ⟨_, rfl, ?_⟩
       refine hK.out _ _ (mv4 hb6 hHeld) (fun hHeld => ?_)
       clear hK K
       refine n_ ?_
       refine p_ 9 (some 43) ?_
       refine p_ 10 (some 44) ?_
       refine p_ 11 (some 45) ?_
       refine p_ 12 (some 46) ?_
       refine p_ 13 (some 47) ?_
       refine p_ 15 (some 49) ?_
       refine t_ 14 (some 48) hHeld ?_
       refine t_ 16 (some 50) hHeld ?_
       refine p_ 17 (some 51) ?_
       refine t_ 18 (some 52) hHeld ?_
       refine p_ 19 (some 53) ?_
       refine done_ (by kernel_rfl) ?_
       go_wp2
       go_ret2
       exact DoEnd.bad HDN.out (below_step (below_drew1 hB5) hb6)
      ·have hcf : rdOf false cs x.f0 = false := by simpa using hcut
       rw [hcf] at hmk
       have HCF2 := Lib.hid hcut
       clear hcf hcut hin
       refine s_ 20 (fun w' => w'.cell? ⟨g, 4, none⟩ = some (.slice A1 m c1) ∧ w'.cell? ⟨bc, 0, none⟩ = some (.int .i64 x.f0) ∧ w'.cell? ⟨g, 5, none⟩ = some (.slice (some ⟨g2, 0, none⟩) m c2) ∧ w'.cell? ⟨g2, x.f0.toNat, none⟩ = some (.bool false)) [] ⟨(cB hWA5.blk), (cB hC5), (cB hWA5.blk), hmk.1⟩ (fun hHeld => ?_)
       refine p_ 0 (some 34) ?_
       refine p_ 2 (some 36) ?_
       refine p_ 3 (some 37) ?_
       refine p_ 4 (some 38) ?_
       refine t_ 1 (some 35) hHeld ?_
       refine t_ 5 (some 39) hHeld ?_
       refine p_ 6 (some 40) ?_
       refine p_ 7 (some 41) ?_
       refine e_ 8 (some 42) (fun K hK => ?_)
       refine goes_ Try.func72 (by kernel_rfl) rfl #[.int .i64 x.f0, .int .i64 0, .int .i64 (wrap64 (↑m - 1))] (by rfl) rfl rfl (by simp only [List.map_toArray, List.map_cons, List.map_nil]; rfl) ?_
       with_reducible refine (plate_within.calls _ _ _ true _ HWT.out).mono ?_
       rintro e W6 ⟨rfl, hs⟩
       have hb6 := hs.below
       refine ⟨_, rfl, ?_⟩
       refine hK.out _ _ (mv4 hb6 hHeld) (fun hHeld => ?_)
       clear hK K
       refine n_ ?_
       refine p_ 9 (some 43) ?_
       refine p_ 10 (some 44) ?_
       refine p_ 11 (some 45) ?_
       refine p_ 12 (some 46) ?_
       refine p_ 13 (some 47) ?_
       refine p_ 15 (some 49) ?_
       refine t_ 14 (some 48) hHeld ?_
       refine t_ 16 (some 50) hHeld ?_
       refine p_ 17 (some 51) ?_
       refine t_ 18 (some 52) hHeld ?_
       refine p_ 19 (some 53) ?_
       refine done_ (by kernel_rfl) ?_
       have hW6 : Below w5.heap.size w5 W6 := below_step (below_drew1 (Below.refl _ _)) hb6
       have hWA6 := hWA5.below hW6
       have hP6 := blk_below hP5 hW6
       have hC6 := blk_below hC5 hW6
       have hB6 := below_step hB5 hW6
       have own16 := pw_own_below own1 hW6
       have own26 := pw_own_below own2 hW6
       have hlo6 := hW6.size
       clear hb6 hs hHeld hmk hWA5 hP5 hC5 hB5 own1 own2 hW6
       go_wp2
       have hR1 := own_R103 (ok := fun _ => True) (by rw [HM.out]; exact own16) (fun _ _ => trivial)
       obtain ⟨-, -, hCC⟩ := Kd.R_reads' hR1
       obtain ⟨ad1, rfl, hy0, hy1, hy2, hy3⟩ := at_T103 hCC x.f0 (of_eq_true hp0) (by rw [HM.out]; exact of_eq_true hp1)
       clear hR1 hCC
       generalize hpe : rd_T103 ps x.f0 = p at hy0 hy1 hy2 hy3
       have HPE := Lib.hid hpe
       clear hpe
       have h68 := fun W => parts_calls x.f1 p x.f2 a2 W
       unfold pv at h68
       have H68 := Lib.hid h68
       clear h68
       refine s_ 17 (fun w' => w'.cell? ⟨bc, 0, none⟩ = some (.int .i64 x.f0) ∧ w'.cell? ⟨bc, 1, none⟩ = some (.bool x.f1) ∧ w'.cell? ⟨bc, 2, none⟩ = some (.int .i64 x.f2) ∧ w'.cell? ⟨g, 4, none⟩ = some (.slice (some ad1) m c1) ∧ w'.cell? (ad1.add (x.f0.toNat * 4)) = some (.int .i64 p.f0) ∧ w'.cell? ⟨(ad1.add (x.f0.toNat * 4)).block, (ad1.add (x.f0.toNat * 4)).off + 1, none⟩ = some (.int .i64 p.f1) ∧ w'.cell? ⟨(ad1.add (x.f0.toNat * 4)).block, (ad1.add (x.f0.toNat * 4)).off + 2, none⟩ = some (.int .i64 p.f2) ∧ w'.cell? ⟨(ad1.add (x.f0.toNat * 4)).block, (ad1.add (x.f0.toNat * 4)).off + 3, none⟩ = some (.int .i64 p.f3) ∧ w'.cell? ⟨w.heap.size, 2, none⟩ = some (.int .i64 a2)) [] ⟨(cB hC6), (cB hC6), (cB hC6), (cB hWA6.blk), hy0, hy1, hy2, hy3, (cB hP6)⟩ (fun hHeld => ?_)
       refine p_ 2 (some 56) ?_
       refine p_ 3 (some 57) ?_
       refine p_ 4 (some 58) ?_
       refine p_ 6 (some 60) ?_
       refine p_ 10 (some 64) ?_
       refine p_ 12 (some 66) ?_
       refine t_ 0 (some 54) hHeld ?_
       refine t_ 5 (some 59) hHeld ?_
       refine t_ 7 (some 61) hHeld ?_
       refine p_ 8 (some 62) ?_
       refine t_ 9 (some 63) hHeld ?_
       refine t_ 11 (some 65) hHeld ?_
       refine t_ 13 (some 67) hHeld ?_
       refine e_ 1 (some 55) (fun K hK => ?_)
       refine goes_ Try.func67 (by kernel_rfl) rfl #[.agg #[.int .i64 x.f0, .bool x.f1, .int .i64 x.f2]] (by rfl) rfl rfl (by simp only [List.map_toArray, List.map_cons, List.map_nil]; rfl) ?_
       with_reducible refine (of_calls x.f0 x.f1 x.f2 _).mono ?_
       rintro e W7 ⟨rfl, hs⟩
       have hb7 : Below W6.heap.size W6 W7 := below_step (below_drew1 (Below.refl _ _)) hs
       refine ⟨_, rfl, ?_⟩
       refine hK.out _ _ (mv9 hs hHeld) (fun hHeld => ?_)
       clear hK K
       refine n_ ?_
       refine e_ 14 (some 68) (fun K hK => ?_)
       refine goes_ Try.func68 (by kernel_rfl) rfl #[dv x.f1, .agg #[.int .i64 p.f0, .int .i64 p.f1, .int .i64 p.f2, .int .i64 p.f3], .int .i64 x.f2, .int .i64 a2] (by rfl) rfl rfl (by simp only [List.map_toArray, List.map_cons, List.map_nil]; rfl) ?_
       with_reducible refine (H68.out _).mono ?_
       rintro e W8 ⟨gs, hgs1, hgs2, rfl, PA, hs⟩
       have hb8 := below_step hb7 hs
       refine ⟨_, rfl, ?_⟩
       refine hK.out _ _ (mv9 hs hHeld) (fun hHeld => ?_)
       clear hK K
       refine n_ ?_
       refine e_ 15 (some 69) (fun K hK => ?_)
       refine goes_ Try.func87 (by kernel_rfl) rfl #[seqV gs] (by rfl) rfl rfl (by simp only [List.map_toArray, List.map_cons, List.map_nil]; rfl) ?_
       with_reducible refine (collect_calls x.f1 p x.f2 a2 gs _ PA hgs2).mono ?_
       rintro e W9 ⟨A3, c3, rfl, own3, hs⟩
       have hb9 := below_step hb8 hs
       refine ⟨_, rfl, ?_⟩
       refine hK.out _ _ (mv9 hs hHeld) (fun hHeld => ?_)
       clear hK K
       refine n_ ?_
       refine p_ 16 (some 10) ?_
       refine done_ (by kernel_rfl) ?_
       clear hHeld hs PA hgs1 hgs2
       have hWA9 := hWA6.below hb9
       have hP9 := blk_below hP6 hb9
       have hC9 := blk_below hC6 hb9
       have hB9 := below_step hB6 hb9
       have own19 := pw_own_below own16 hb9
       have own29 := pw_own_below own26 hb9
       have hb8s := hb8.size
       have hB6s := hB6.size
       have hne3 : NeRow (.slice A3 (partsOf x.f1 p x.f2 a2).length c3) (.slice (some ad1) m c1) := fun k h1 h2 => by have := own_base own3 k h1; have := own_lt own16 k h2; omega
       have hg29 := Nat.lt_of_lt_of_le (Nat.lt_of_lt_of_le hg2 hlo6) hb9.size
       clear hy0 hy1 hy2 hy3 hb7 hb8 hb9 hWA6 hP6 hC6 hB6 own16 own26 H68
       have hn3 := partsOf_len x.f1 p x.f2 a2
       generalize hLe : partsOf x.f1 p x.f2 a2 = L at own3 hn3 hne3
       have HLE := Lib.hid hLe
       clear hLe
       generalize hn3e : L.length = n3 at own3 hn3 hne3 ⊢
       have HN3 := Lib.hid hn3e
       clear hn3e
       by_cases hn0 : n3 = 0
       ·subst hn0
        have hst : doStep a2 (ps, cs) x = none := by
         unfold doStep; rw [if_pos (by rw [HM.out]; exact ⟨of_eq_true hp0, of_eq_true hp1⟩), if_neg (show ¬ (ps, cs).2.getD x.f0.toNat false = true from HCF2.out)]
         have e1 : partsOf x.f1 ((ps, cs).1.getD x.f0.toNat z103) x.f2 a2 = L := by rw [← HLE.out, ← HPE.out]; rfl
         simp only [e1]
         rw [if_pos HN3.out]
        have hdn : doOf a0 a1 a2 l cuts = (11, none) := by rw [HDO.out, HDA.out, HDR.out, doAll_bad hst]; rfl
        have HDN := Lib.hid hdn
        clear hst hdn HDO HDA HDR hlt hi0 hi1
        go_wp2
        go_ret2
        exact DoEnd.bad HDN.out hB9
       have hst : doStep a2 (ps, cs) x = some (ps ++ L, cs.set x.f0.toNat true ++ L.map (fun _ => false)) := by
        unfold doStep; rw [if_pos (by rw [HM.out]; exact ⟨of_eq_true hp0, of_eq_true hp1⟩), if_neg (show ¬ (ps, cs).2.getD x.f0.toNat false = true from HCF2.out)]
        have e1 : partsOf x.f1 ((ps, cs).1.getD x.f0.toNat z103) x.f2 a2 = L := by rw [← HLE.out, ← HPE.out]; rfl
        simp only [e1]
        rw [if_neg (by rw [HN3.out]; exact hn0)]
       have HST := Lib.hid hst
       have hbn : ((n3 : Int) == 0) = false := by rw [beq_eq_false_iff_ne]; omega
       have hn1 : 1 ≤ n3 := by omega
       clear hst hn0
       go_wp2
       have hmk := own_at_of (enc := Value.bool) (d := false) own29 x.f0 (of_eq_true hp0) (of_eq_true hp1)
       obtain ⟨hmk1, hmk2⟩ := hmk
       refine s_ 8 (fun w' => w'.cell? ⟨g, 5, none⟩ = some (.slice (some ⟨g2, 0, none⟩) m c2) ∧ w'.cell? ⟨bc, 0, none⟩ = some (.int .i64 x.f0)) [7] ⟨(cB hWA9.blk), (cB hC9)⟩ (fun hHeld => ?_)
       refine p_ 0 (some 73) ?_
       refine p_ 1 (some 74) ?_
       refine p_ 2 (some 75) ?_
       refine p_ 4 (some 77) ?_
       refine t_ 3 (some 76) hHeld ?_
       refine t_ 5 (some 78) hHeld ?_
       refine p_ 6 (some 79) ?_
       refine l_ 7 none (fun K hK => ?_)
       refine skip_ (w1 := ?_) (by rfl) rfl ?_ ?_
       rotate_left
       ·go_simp
        rfl
       refine hK.out _ _ ?_
       clear hK K
       refine done_ (by kernel_rfl) ?_
       have hst2 := own_store_of (enc := Value.bool) own29 x.f0 true
       obtain ⟨w10, hw10⟩ : ∃ W, W = (W9.setCell ⟨g2, x.f0.toNat, none⟩ (.bool true)).drew := ⟨_, rfl⟩
       rw [← hw10]
       have hgr : W9.grownBy w10 (some g2) := by rw [hw10]; exact ⟨hst2.2.os, hst2.2.tape, hst2.2.output, hst2.2.size, hst2.2.block⟩
       have own210 : w10.ownsRow w.heap.size 4 1 (.slice (some ⟨g2, 0, none⟩) m c2) m (bools (cs.set x.f0.toNat true)) := by rw [hw10]; exact hst2.1
       clear hst2 hw10 hmk1 hmk2
       have own110 := own_other own19 hgr (own_type_ne own19 own29 (by decide))
       have own310 := own_weaken (own_other own3 hgr (own_type_ne own3 own29 (by decide))) (Nat.le_trans hB6s hb8s)
       have hWb : w10.heap[g]? = some (.cells #[.int .i64 a0, .int .i64 a1, .int .i64 a2, .slice A l.length c, .slice (some ad1) m c1, .slice (some ⟨g2, 0, none⟩) m c2] 134 (0, 0)) := blk_grown hWA9.blk hgr (own_ne own29 hWA9.blk (by decide))
       have hWlo := hWA9.lo
       have hP10 := blk_grown hP9 hgr (own_ne own29 hP9 (by decide))
       have hB10 := pw_below_grown hB9 (some g2) hB9.size hgr (fun k e => by cases e; exact hlo2)
       have hcsl : (cs.set x.f0.toNat true).length = m := by rw [List.length_set, HCL.out, HM.out]
       have HCSL := Lib.hid hcsl
       have hrel0 : Hid (WorkAt w10 w.heap.size g a0 a1 a2 (.slice A l.length c) (.slice (some ad1) m c1) (.slice (some ⟨g2, 0, none⟩) m c2) (ps ++ L.take 0) (cs.set x.f0.toNat true ++ (L.take 0).map fun _ => false)) :=
        Lib.hid ⟨hWb, hWlo, by rw [List.take_zero, List.append_nil, HM.out]; exact own110, by rw [List.take_zero, List.map_nil, List.append_nil, hcsl]; exact own210⟩
       have hne10 := hne3
       have HP10 := Lib.hid hP10
       have HO3 := Lib.hid own310
       have HNE := Lib.hid hne3
       clear hcsl hP10 own310 hne3 hne10 hWb hWlo own110 own210 hgr hB9 hP9 hC9 hWA9 own19 own29 own3 hg29 hb8s hB6s hHeld
       generalize hv1 : Value.slice (some ad1) m c1 = v1 at hrel0 HNE
       generalize hv2 : Value.slice (some (⟨g2, 0, none⟩ : Addr)) m c2 = v2 at hrel0
       clear hv1 hv2
       go_wp2
       go_loopw [82] (fun v wz => ∃ (j : Nat) (v1 v2 : Value), v = .int .i64 j ∧ j ≤ n3 ∧ Hid (WorkAt wz w.heap.size g a0 a1 a2 (.slice A l.length c) v1 v2 (ps ++ L.take j) (cs.set x.f0.toNat true ++ (L.take j).map fun _ => false)) ∧
        Hid (wz.heap[w.heap.size]? = some (.cells #[.int .i64 a0, .int .i64 a1, .int .i64 a2, .slice A l.length c] 55 (0, 0))) ∧ Hid (wz.ownsRow w.heap.size 103 4 (.slice A3 n3 c3) n3 (pcs L)) ∧ Hid (NeRow (.slice A3 n3 c3) v1) ∧ Below w.heap.size w wz) (fun v _ => n3 - (intOf v).toNat)
       case atStart => exact ⟨0, v1, v2, rfl, Nat.zero_le _, hrel0, HP10, HO3, HNE, hB10⟩
       case round =>
        clear hrel0 HP10 HO3 HNE hB10
        obtain ⟨j, y1, y2, rfl, hj, HWZ, HPZ, HO3, HNE, hBZ⟩ := hrel
        have hplen : (ps ++ L.take j).length = m + j := by rw [List.length_append, List.length_take, HM.out, HN3.out]; omega
        have hclen : (cs.set x.f0.toNat true ++ (L.take j).map fun _ => false).length = m + j := by rw [List.length_append, List.length_map, List.length_take, HCSL.out, HN3.out]; omega
        have HPL := Lib.hid hplen
        have HCLN := Lib.hid hclen
        clear hplen hclen
        by_cases hjl : j < n3
        ·have hj0 : (0 : Int) ≤ (j : Int) := by omega
         have hj1 : (j : Int) < (n3 : Int) := by omega
         have hR3 := own_R103 (ok := fun _ => True) (by rw [HN3.out]; exact HO3.out) (fun _ _ => trivial)
         obtain ⟨-, -, hCC⟩ := Kd.R_reads' hR3
         obtain ⟨ad3, hA3, hz0, hz1, hz2, hz3⟩ := at_T103 hCC (j : Int) hj0 (by rw [HN3.out]; exact hj1)
         subst hA3
         simp only [Int.toNat_natCast] at hz0 hz1 hz2 hz3
         clear hR3 hCC
         have htk : L.take (j + 1) = L.take j ++ [rd_T103 L (j : Int)] := by
          have hjL : j < L.length := by rw [HN3.out]; exact hjl
          rw [List.take_succ_eq_append_getElem hjL]; simp [rd_T103, hjL, List.getD_eq_getElem?_getD]
         have HTK := Lib.hid htk
         clear htk
         generalize hye : rd_T103 L (j : Int) = y at *
         clear hye
         go_wp2
         obtain ⟨q0, hq0⟩ : ∃ W, W = wr.alloc (.cells #[.int .i64 y.f0, .int .i64 y.f1, .int .i64 y.f2, .int .i64 y.f3] 103) := ⟨_, rfl⟩
         rw [← hq0]
         have hPB : q0.heap[wr.heap.size]? = some (.cells #[.int .i64 y.f0, .int .i64 y.f1, .int .i64 y.f2, .int .i64 y.f3] 103 (0, 0)) := by rw [hq0]; exact alloc_at rfl
         have hbq : Below wr.heap.size wr q0 := by rw [hq0]; exact below_alloc (Below.refl _ _) _
         clear hq0 hz0 hz1 hz2 hz3
         have hnb : ∀ k, y1.ownBlock = some k → k < wr.heap.size := own_lt HWZ.out.ps
         have HNB := Lib.hid hnb
         clear hnb
         have hWq := HWZ.out.below hbq
         have hPq := blk_below HPZ.out hbq
         have hOq := pw_own_below HO3.out hbq
         have hBq := below_step hBZ hbq
         generalize wr.heap.size = bp at hPB HNB ⊢
         clear HWZ HPZ HO3 hbq hBZ
         have o1 := hWq.ps
         have o2 := hWq.cs
         rw [HPL.out] at o1
         rw [HCLN.out] at o2
         have hn1 : m + j ≤ 85 := by omega
         generalize hn1e : m + j = n1 at o1 o2 hn1 HPL HCLN
         clear hn1e
         obtain ⟨A1, c1, rfl⟩ := own_form o1
         obtain ⟨A2, c2, rfl⟩ := own_form o2
         have hG : q0.drew.heap[g]? = some (.cells #[.int .i64 a0, .int .i64 a1, .int .i64 a2, .slice A l.length c, .slice A1 n1 c1, .slice A2 n1 c2] 134 (0, 0)) := hWq.blk
         have hPBd : q0.drew.heap[bp]? = some (.cells #[.int .i64 y.f0, .int .i64 y.f1, .int .i64 y.f2, .int .i64 y.f3] 103 (0, 0)) := hPB
         have hPl : q0.drew.heap[w.heap.size]? = some (.cells #[.int .i64 a0, .int .i64 a1, .int .i64 a2, .slice A l.length c] 55 (0, 0)) := hPq
         have p1 : q0.drew.ownsRow w.heap.size 103 4 (.slice A1 n1 c1) n1 (pcs (ps ++ L.take j)) := o1
         have p2 : q0.drew.ownsRow w.heap.size 4 1 (.slice A2 n1 c2) n1 (bools (cs.set x.f0.toNat true ++ (L.take j).map fun _ => false)) := o2
         have hO : q0.drew.ownsRow w.heap.size 103 4 (.slice (some ad3) n3 c3) n3 (pcs L) := hOq
         have hBd : Below w.heap.size w q0.drew := below_drew1 hBq
         have hlog := hWq.lo
         have HNe := HNE
         clear o1 o2 hPB hPq hOq hBq hWq HNE
         refine s_ 21 (fun w' => w'.cell? ⟨g, 4, none⟩ = some (.slice A1 n1 c1) ∧ w'.cell? ⟨bp, 0, none⟩ = some (.int .i64 y.f0) ∧ w'.cell? ⟨bp, 1, none⟩ = some (.int .i64 y.f1) ∧ w'.cell? ⟨bp, 2, none⟩ = some (.int .i64 y.f2) ∧ w'.cell? ⟨bp, 3, none⟩ = some (.int .i64 y.f3) ∧ w'.cell? ⟨g, 5, none⟩ = some (.slice A2 n1 c2)) [17, 20] ⟨(cB hG), (cB hPBd), (cB hPBd), (cB hPBd), (cB hPBd), (cB hG)⟩ (fun hHeld => ?_)
         refine pa_ 0 #[true, false, false, false, false, false, false, false, false, false, false, false, false, false, false, false, false, false, false, false, false] (some 86) ?_
         refine pa_ 1 #[true, true, false, false, false, false, false, false, false, false, false, false, false, false, false, false, false, false, false, false, false] (some 87) ?_
         refine pa_ 2 #[true, true, true, false, false, false, false, false, false, false, false, false, false, false, false, false, false, false, false, false, false] (some 88) ?_
         refine pa_ 3 #[true, true, true, true, false, false, false, false, false, false, false, false, false, false, false, false, false, false, false, false, false] (some 89) ?_
         refine pa_ 4 #[true, true, true, true, true, false, false, false, false, false, false, false, false, false, false, false, false, false, false, false, false] (some 90) ?_
         refine pa_ 9 #[true, true, true, true, true, false, false, false, false, true, false, false, false, false, false, false, false, false, false, false, false] (some 95) ?_
         refine pa_ 10 #[true, true, true, true, true, false, false, false, false, true, true, false, false, false, false, false, false, false, false, false, false] (some 96) ?_
         refine pa_ 11 #[true, true, true, true, true, false, false, false, false, true, true, true, false, false, false, false, false, false, false, false, false] (some 97) ?_
         refine ta_ 5 #[true, true, true, true, true, true, false, false, false, true, true, true, false, false, false, false, false, false, false, false, false] (some 91) hHeld ?_
         refine ta_ 6 #[true, true, true, true, true, true, true, false, false, true, true, true, false, false, false, false, false, false, false, false, false] (some 92) hHeld ?_
         refine ta_ 12 #[true, true, true, true, true, true, true, false, false, true, true, true, true, false, false, false, false, false, false, false, false] (some 98) hHeld ?_
         refine join_ (σ := Nat × Nat × Nat × Nat) 7 #[true, true, true, true, true, true, true, true, true, true, true, true, true, true, false, false, false, false, false, false, false] (fun s => [(93, .slice (some ⟨s.1, 0, none⟩) 1 1), (94, .slice (some ⟨s.2.1, 0, none⟩) (n1 + 1) s.2.2.1), (99, .slice (some ⟨s.2.2.2, 0, none⟩) 1 1)]) (fun s w' => w'.heap[g]? = some (.cells #[.int .i64 a0, .int .i64 a1, .int .i64 a2, .slice A l.length c, .slice A1 n1 c1, .slice A2 n1 c2] 134 (0, 0)) ∧ w'.heap[bp]? = some (.cells #[.int .i64 y.f0, .int .i64 y.f1, .int .i64 y.f2, .int .i64 y.f3] 103 (0, 0)) ∧ w'.heap[w.heap.size]? = some (.cells #[.int .i64 a0, .int .i64 a1, .int .i64 a2, .slice A l.length c] 55 (0, 0)) ∧ w'.heap[s.2.2.2]? = some (.cells #[.bool false] 4 (0, 0)) ∧ w'.ownsRow w.heap.size 103 4 (.slice (some ⟨s.2.1, 0, none⟩) (n1 + 1) s.2.2.1) (n1 + 1) (pcs (ps ++ L.take j) ++ pc y) ∧ w'.ownsRow w.heap.size 4 1 (.slice A2 n1 c2) n1 (bools (cs.set x.f0.toNat true ++ (L.take j).map fun _ => false)) ∧ w'.ownsRow w.heap.size 103 4 (.slice (some ad3) n3 c3) n3 (pcs L) ∧ NeRow (.slice (some ad3) n3 c3) (.slice (some ⟨s.2.1, 0, none⟩) (n1 + 1) s.2.2.1) ∧ Below w.heap.size w w') ?_ ?_
         rotate_left
         ·intro hCont
          refine two_ (i := 7) (j := 13) (Ni := some 93) (Nj := some 99) #[true, true, true, true, true, true, true, true, false, true, true, true, true, false, false, false, false, false, false, false, false] #[true, true, true, true, true, true, true, false, false, true, true, true, true, true, false, false, false, false, false, false, false] rfl rfl rfl rfl (by kernel_rfl) (by decide) (by decide) (fun K hK => ?_) (fun K hK => ?_)
          ·skip
           refine slit_ (.cells #[.int .i64 y.f0, .int .i64 y.f1, .int .i64 y.f2, .int .i64 y.f3] 103 (0, 0)) 1 (by rfl) rfl ?_ ?_
           ·first | (go_simp; done) | (go_simp; rfl)
           intro g7 V1 hg7 hl7 hs
           replace hG := blk_below hG hs
           replace hPBd := blk_below hPBd hs
           replace hPl := blk_below hPl hs
           replace p2 := pw_own_below p2 hs
           replace hO := pw_own_below hO hs
           replace p1 := pw_own_below p1 hs
           replace hBd := below_step hBd hs
           clear hs
           refine hK.out _ _ ⟨(cB hG), (cB hPBd), (cB hPBd), (cB hPBd), (cB hPBd), (cB hG)⟩ (fun hHeld => ?_)
           clear hK K
           refine n_ ?_
           refine two_ (i := 8) (j := 13) (Ni := some 94) (Nj := some 99) #[true, true, true, true, true, true, true, true, true, true, true, true, true, false, false, false, false, false, false, false, false] #[true, true, true, true, true, true, true, true, false, true, true, true, true, true, false, false, false, false, false, false, false] rfl rfl rfl rfl (by kernel_rfl) (by decide) (by decide) (fun K hK => ?_) (fun K hK => ?_)
           ·skip
            refine app_ w.heap.size (by rfl) rfl _ _ 96 103 _ 4 32 rfl Try.underlying96 infoS103 rfl (by decide) (by decide) (.slice A1 n1 c1) n1 (pcs (ps ++ L.take j)) (pc y) (by rfl) (by rfl) hg7 rfl (by simp [pc, Value.oneCell']) p1 hBd.size (by omega) ?_
            intro v8 V2 own8 hgr hat
            obtain ⟨g8, c8, rfl⟩ := ownsRow_succ own8
            have hne8 : NeRow (.slice (some ad3) n3 c3) (.slice (some ⟨g8, 0, none⟩) (n1 + 1) c8) := fun k h1 h2 => by
             rcases hat with e | e
             ·exact HNe.out k h1 (e.symm.trans h2)
             ·have e1 := own_lt hO k h1
              rw [h2] at e; cases e; omega
            replace hG := blk_grown hG hgr (own_ne p1 hG (by decide))
            replace hPBd := blk_grown hPBd hgr (fun e => by have := HNB.out bp e.symm; omega)
            replace hPl := blk_grown hPl hgr (own_ne p1 hPl (by decide))
            replace p2 := own_other p2 hgr (own_type_ne p2 p1 (by decide))
            replace hO := own_other hO hgr (ne_other (ne_symm HNe.out))
            replace hBd := pw_below_grown hBd _ hBd.size hgr (own_base p1)
            clear hgr hat p1
            refine hK.out _ _ ⟨(cB hG), (cB hPBd), (cB hPBd), (cB hPBd), (cB hPBd), (cB hG)⟩ (fun hHeld => ?_)
            clear hK K
            refine n_ ?_
            refine ea_ 13 #[true, true, true, true, true, true, true, true, true, true, true, true, true, true, false, false, false, false, false, false, false] (some 99) (fun K hK => ?_)
            refine slit_ (.cells #[.bool false] 4 (0, 0)) 1 (by rfl) rfl ?_ ?_
            ·first | (go_simp; done) | (go_simp; rfl)
            intro g13 V3 hg13 hl13 hs
            replace hG := blk_below hG hs
            replace hPBd := blk_below hPBd hs
            replace hPl := blk_below hPl hs
            replace p2 := pw_own_below p2 hs
            replace hO := pw_own_below hO hs
            replace own8 := pw_own_below own8 hs
            replace hBd := below_step hBd hs
            clear hs
            refine hK.out _ _ ⟨(cB hG), (cB hPBd), (cB hPBd), (cB hPBd), (cB hPBd), (cB hG)⟩ (fun hHeld => ?_)
            clear hK K
            refine n_ ?_
            exact m_ (hCont (g7, g8, c8, g13) _ ⟨hG, hPBd, hPl, hg13, own8, p2, hO, hne8, hBd⟩)
           ·skip
            refine slit_ (.cells #[.bool false] 4 (0, 0)) 1 (by rfl) rfl ?_ ?_
            ·first | (go_simp; done) | (go_simp; rfl)
            intro g13 V2 hg13 hl13 hs
            replace hG := blk_below hG hs
            replace hPBd := blk_below hPBd hs
            replace hPl := blk_below hPl hs
            replace p2 := pw_own_below p2 hs
            replace hO := pw_own_below hO hs
            replace p1 := pw_own_below p1 hs
            replace hg7 := blk_below hg7 hs
            replace hBd := below_step hBd hs
            clear hs
            refine hK.out _ _ ⟨(cB hG), (cB hPBd), (cB hPBd), (cB hPBd), (cB hPBd), (cB hG)⟩ (fun hHeld => ?_)
            clear hK K
            refine n_ ?_
            refine ea_ 8 #[true, true, true, true, true, true, true, true, true, true, true, true, true, true, false, false, false, false, false, false, false] (some 94) (fun K hK => ?_)
            refine app_ w.heap.size (by rfl) rfl _ _ 96 103 _ 4 32 rfl Try.underlying96 infoS103 rfl (by decide) (by decide) (.slice A1 n1 c1) n1 (pcs (ps ++ L.take j)) (pc y) (by rfl) (by rfl) hg7 rfl (by simp [pc, Value.oneCell']) p1 hBd.size (by omega) ?_
            intro v8 V3 own8 hgr hat
            obtain ⟨g8, c8, rfl⟩ := ownsRow_succ own8
            have hne8 : NeRow (.slice (some ad3) n3 c3) (.slice (some ⟨g8, 0, none⟩) (n1 + 1) c8) := fun k h1 h2 => by
             rcases hat with e | e
             ·exact HNe.out k h1 (e.symm.trans h2)
             ·have e1 := own_lt hO k h1
              rw [h2] at e; cases e; omega
            replace hG := blk_grown hG hgr (own_ne p1 hG (by decide))
            replace hPBd := blk_grown hPBd hgr (fun e => by have := HNB.out bp e.symm; omega)
            replace hPl := blk_grown hPl hgr (own_ne p1 hPl (by decide))
            replace p2 := own_other p2 hgr (own_type_ne p2 p1 (by decide))
            replace hO := own_other hO hgr (ne_other (ne_symm HNe.out))
            replace hg13 := blk_grown hg13 hgr (own_ne p1 hg13 (by decide))
            replace hBd := pw_below_grown hBd _ hBd.size hgr (own_base p1)
            clear hgr hat p1
            refine hK.out _ _ ⟨(cB hG), (cB hPBd), (cB hPBd), (cB hPBd), (cB hPBd), (cB hG)⟩ (fun hHeld => ?_)
            clear hK K
            refine n_ ?_
            exact m_ (hCont (g7, g8, c8, g13) _ ⟨hG, hPBd, hPl, hg13, own8, p2, hO, hne8, hBd⟩)
          ·skip
           refine slit_ (.cells #[.bool false] 4 (0, 0)) 1 (by rfl) rfl ?_ ?_
           ·first | (go_simp; done) | (go_simp; rfl)
           intro g13 V1 hg13 hl13 hs
           replace hG := blk_below hG hs
           replace hPBd := blk_below hPBd hs
           replace hPl := blk_below hPl hs
           replace p2 := pw_own_below p2 hs
           replace hO := pw_own_below hO hs
           replace p1 := pw_own_below p1 hs
           replace hBd := below_step hBd hs
           clear hs
           refine hK.out _ _ ⟨(cB hG), (cB hPBd), (cB hPBd), (cB hPBd), (cB hPBd), (cB hG)⟩ (fun hHeld => ?_)
           clear hK K
           refine n_ ?_
           refine ea_ 7 #[true, true, true, true, true, true, true, true, false, true, true, true, true, true, false, false, false, false, false, false, false] (some 93) (fun K hK => ?_)
           refine slit_ (.cells #[.int .i64 y.f0, .int .i64 y.f1, .int .i64 y.f2, .int .i64 y.f3] 103 (0, 0)) 1 (by rfl) rfl ?_ ?_
           ·first | (go_simp; done) | (go_simp; rfl)
           intro g7 V2 hg7 hl7 hs
           replace hG := blk_below hG hs
           replace hPBd := blk_below hPBd hs
           replace hPl := blk_below hPl hs
           replace p2 := pw_own_below p2 hs
           replace hO := pw_own_below hO hs
           replace p1 := pw_own_below p1 hs
           replace hg13 := blk_below hg13 hs
           replace hBd := below_step hBd hs
           clear hs
           refine hK.out _ _ ⟨(cB hG), (cB hPBd), (cB hPBd), (cB hPBd), (cB hPBd), (cB hG)⟩ (fun hHeld => ?_)
           clear hK K
           refine n_ ?_
           refine ea_ 8 #[true, true, true, true, true, true, true, true, true, true, true, true, true, true, false, false, false, false, false, false, false] (some 94) (fun K hK => ?_)
           refine app_ w.heap.size (by rfl) rfl _ _ 96 103 _ 4 32 rfl Try.underlying96 infoS103 rfl (by decide) (by decide) (.slice A1 n1 c1) n1 (pcs (ps ++ L.take j)) (pc y) (by rfl) (by rfl) hg7 rfl (by simp [pc, Value.oneCell']) p1 hBd.size (by omega) ?_
           intro v8 V3 own8 hgr hat
           obtain ⟨g8, c8, rfl⟩ := ownsRow_succ own8
           have hne8 : NeRow (.slice (some ad3) n3 c3) (.slice (some ⟨g8, 0, none⟩) (n1 + 1) c8) := fun k h1 h2 => by
            rcases hat with e | e
            ·exact HNe.out k h1 (e.symm.trans h2)
            ·have e1 := own_lt hO k h1
             rw [h2] at e; cases e; omega
           replace hG := blk_grown hG hgr (own_ne p1 hG (by decide))
           replace hPBd := blk_grown hPBd hgr (fun e => by have := HNB.out bp e.symm; omega)
           replace hPl := blk_grown hPl hgr (own_ne p1 hPl (by decide))
           replace p2 := own_other p2 hgr (own_type_ne p2 p1 (by decide))
           replace hO := own_other hO hgr (ne_other (ne_symm HNe.out))
           replace hg13 := blk_grown hg13 hgr (own_ne p1 hg13 (by decide))
           replace hBd := pw_below_grown hBd _ hBd.size hgr (own_base p1)
           clear hgr hat p1
           refine hK.out _ _ ⟨(cB hG), (cB hPBd), (cB hPBd), (cB hPBd), (cB hPBd), (cB hG)⟩ (fun hHeld => ?_)
           clear hK K
           refine n_ ?_
           exact m_ (hCont (g7, g8, c8, g13) _ ⟨hG, hPBd, hPl, hg13, own8, p2, hO, hne8, hBd⟩)
         clear hHeld hG hPBd hPl p1 p2 hO hBd
         rintro ⟨g7, g8, c8, g13⟩ V0 ⟨hG, hPBd, hPl, hg13, own8, p2, hO, hne8, hBd⟩
         dsimp only at hg13 own8 hne8
         have hHeld : V0.cell? ⟨g, 4, none⟩ = some (.slice A1 n1 c1) ∧ V0.cell? ⟨bp, 0, none⟩ = some (.int .i64 y.f0) ∧ V0.cell? ⟨bp, 1, none⟩ = some (.int .i64 y.f1) ∧ V0.cell? ⟨bp, 2, none⟩ = some (.int .i64 y.f2) ∧ V0.cell? ⟨bp, 3, none⟩ = some (.int .i64 y.f3) ∧ V0.cell? ⟨g, 5, none⟩ = some (.slice A2 n1 c2) := ⟨(cB hG), (cB hPBd), (cB hPBd), (cB hPBd), (cB hPBd), (cB hG)⟩
         refine m_ ?_
         refine ea_ 14 #[true, true, true, true, true, true, true, true, true, true, true, true, true, true, true, false, false, false, false, false, false] (some 100) (fun K hK => ?_)
         refine app_ w.heap.size (by rfl) rfl _ _ 39 4 _ 1 1 rfl Try.underlying39 infoS4 rfl (by decide) (by decide) (.slice A2 n1 c2) n1 (bools (cs.set x.f0.toNat true ++ (L.take j).map fun _ => false)) [.bool false] (by rfl) (by rfl) hg13 rfl (by simp [Value.oneCell']) p2 hBd.size (by omega) ?_
         intro v14 V1 own14 hgr hat
         obtain ⟨g14, c14, rfl⟩ := ownsRow_succ own14
         replace hG := blk_grown hG hgr (own_ne p2 hG (by decide))
         replace hPl := blk_grown hPl hgr (own_ne p2 hPl (by decide))
         replace hPBd := blk_grown hPBd hgr (own_ne p2 hPBd (by decide))
         replace own8 := own_other own8 hgr (own_type_ne own8 p2 (by decide))
         replace hO := own_other hO hgr (own_type_ne hO p2 (by decide))
         replace hBd := pw_below_grown hBd _ hBd.size hgr (own_base p2)
         clear hgr hat p2 hg13
         have cz4 : V1.cell? ⟨g, 4, none⟩ = some (.slice A1 n1 c1) := (blk_cell hG 4).trans rfl
         have cz5 : V1.cell? ⟨g, 5, none⟩ = some (.slice A2 n1 c2) := (blk_cell hG 5).trans rfl
         have fz4 : V1.frozen? ⟨g, 4, none⟩ = false := blk_frozen hG 4
         have fz5 : V1.frozen? ⟨g, 5, none⟩ = false := blk_frozen hG 5
         refine hK.out _ _ ⟨(cB hG), (cB hPBd), (cB hPBd), (cB hPBd), (cB hPBd), (cB hG)⟩ (fun hHeld => ?_)
         clear hK K
         refine n_ ?_
         refine pa_ 15 #[true, true, true, true, true, true, true, true, true, true, true, true, true, true, true, true, false, false, false, false, false] (some 101) ?_
         refine pa_ 16 #[true, true, true, true, true, true, true, true, true, true, true, true, true, true, true, true, true, false, false, false, false] (some 102) ?_
         refine la_ 17 #[true, true, true, true, true, true, true, true, true, true, true, true, true, true, true, true, true, true, false, false, false] none (fun K hK => ?_)
         refine skip_ (w1 := ?_) (by rfl) rfl ?_ ?_
         rotate_left
         ·go_simp
          rfl
         refine hK.out _ _ ?_
         clear hK K
         refine pa_ 18 #[true, true, true, true, true, true, true, true, true, true, true, true, true, true, true, true, true, true, true, false, false] (some 103) ?_
         refine pa_ 19 #[true, true, true, true, true, true, true, true, true, true, true, true, true, true, true, true, true, true, true, true, false] (some 104) ?_
         refine la_ 20 #[true, true, true, true, true, true, true, true, true, true, true, true, true, true, true, true, true, true, true, true, true] none (fun K hK => ?_)
         refine skip_ (w1 := ?_) (by rfl) rfl ?_ ?_
         rotate_left
         ·go_simp
          rfl
         refine hK.out _ _ ?_
         clear hK K
         refine done_ (by kernel_rfl) ?_
         obtain ⟨q1, hq1⟩ : ∃ W, W = (V1.setCell ⟨g, 4, none⟩ (.slice (some ⟨g8, 0, none⟩) (n1 + 1) c8)).setCell ⟨g, 5, none⟩ (.slice (some ⟨g14, 0, none⟩) (n1 + 1) c14) := ⟨_, rfl⟩
         rw [← hq1]
         have hne1 := own_ne own8 hG (by decide)
         have hne2 := own_ne own14 hG (by decide)
         have hWn : Hid (WorkAt q1 w.heap.size g a0 a1 a2 (.slice A l.length c) (.slice (some ⟨g8, 0, none⟩) (n1 + 1) c8) (.slice (some ⟨g14, 0, none⟩) (n1 + 1) c14) (ps ++ L.take (j + 1)) (cs.set x.f0.toNat true ++ (L.take (j + 1)).map fun _ => false)) := by
          have e1 : (ps ++ L.take (j + 1)).length = n1 + 1 := by rw [HTK.out, ← List.append_assoc, List.length_append, HPL.out]; rfl
          have e2 : (cs.set x.f0.toNat true ++ (L.take (j + 1)).map fun _ => false).length = n1 + 1 := by rw [HTK.out, List.map_append, ← List.append_assoc, List.length_append, HCLN.out]; rfl
          have e3 : pcs (ps ++ L.take (j + 1)) = pcs (ps ++ L.take j) ++ pc y := by rw [HTK.out, ← List.append_assoc, pcs_append, pcs_one]
          have e4 : bools (cs.set x.f0.toNat true ++ (L.take (j + 1)).map fun _ => false) = bools (cs.set x.f0.toNat true ++ (L.take j).map fun _ => false) ++ [.bool false] := by rw [HTK.out, List.map_append, ← List.append_assoc]; simp [bools]
          refine Lib.hid ⟨?_, hlog, ?_, ?_⟩
          ·rw [hq1]; exact blk_put (blk_put hG 4 _ rfl) 5 _ rfl
          ·rw [hq1, e1, e3]; exact own_setCell (own_setCell own8 hne1 _) hne1 _
          ·rw [hq1, e2, e4]; exact own_setCell (own_setCell own14 hne2 _) hne2 _
         have hgpl := blk_ne hPl hG (by decide)
         have hPn : Hid (q1.heap[w.heap.size]? = some (.cells #[.int .i64 a0, .int .i64 a1, .int .i64 a2, .slice A l.length c] 55 (0, 0))) := by rw [hq1]; exact Lib.hid (blk_far (blk_far hPl hgpl _) hgpl _)
         have hOn : Hid (q1.ownsRow w.heap.size 103 4 (.slice (some ad3) n3 c3) n3 (pcs L)) := by rw [hq1]; exact Lib.hid (own_setCell (own_setCell hO (own_ne hO hG (by decide)) _) (own_ne hO hG (by decide)) _)
         have hBn : Below w.heap.size w q1 := by rw [hq1]; exact below_set (below_set hBd hlog) hlog
         have HNn := Lib.hid hne8
         clear hq1 hne1 hne2 hgpl hG hPl hO hBd own8 own14 hPBd cz4 cz5 fz4 fz5 hne8
         go_wp2
         go_roundw
         case rel => exact ⟨j + 1, _, _, by go_num, by omega, hWn, hPn, hOn, HNn, hBn⟩
         case measure => simp [intOf]; omega
        ·have hje : j = n3 := by omega
         subst hje
         rw [List.take_of_length_le (by rw [HN3.out]; exact Nat.le_refl _)] at HWZ HPL HCLN
         have hda : doAll a2 ([⟨0, 0, a0, a1⟩], [false]) cuts = doAll a2 (ps ++ L, cs.set x.f0.toNat true ++ L.map fun _ => false) (cuts.drop (k + 1)) := by
          rw [HDA.out, HDR.out]; exact doAll_good HST.out
         have HDA2 := Lib.hid hda
         clear hda HDA
         go_wp2
         go_roundw
         case rel => exact ⟨k + 1, _, _, y1, y2, by go_num, by omega, by rw [HPL.out]; omega, Lib.hid (by rw [HPL.out, HCLN.out]), HWZ, HPZ, HDA2, hBZ⟩
         case measure => simp [intOf]; omega
     ·have hst : doStep a2 (ps, cs) x = none := by unfold doStep; rw [if_neg (by rw [HM.out]; exact hin)]
      have hdn : doOf a0 a1 a2 l cuts = (11, none) := by rw [HDO.out, HDA.out, HDR.out, doAll_bad hst]; rfl
      have HDN := Lib.hid hdn
      have hwt : plate_within.f x.f0 0 (wrap64 ((m : Int) - 1)) = some false := within_no (by rw [HWL.out]; omega)
      have HWT := Lib.hid hwt
      clear hst hdn hwt HDO HDA HDR hlt hi0 hi1
      refine s_ 20 (fun w' => w'.cell? ⟨g, 4, none⟩ = some (.slice A1 m c1) ∧ w'.cell? ⟨bc, 0, none⟩ = some (.int .i64 x.f0)) [] ⟨(cB hWA5.blk), (cB hC5)⟩ (fun hHeld => ?_)
      refine p_ 0 (some 34) ?_
      refine p_ 2 (some 36) ?_
      refine p_ 3 (some 37) ?_
      refine p_ 4 (some 38) ?_
      refine t_ 1 (some 35) hHeld ?_
      refine t_ 5 (some 39) hHeld ?_
      refine p_ 6 (some 40) ?_
      refine p_ 7 (some 41) ?_
      refine e_ 8 (some 42) (fun K hK => ?_)
      refine goes_ Try.func72 (by kernel_rfl) rfl #[.int .i64 x.f0, .int .i64 0, .int .i64 (wrap64 (↑m - 1))] (by rfl) rfl rfl (by simp only [List.map_toArray, List.map_cons, List.map_nil]; rfl) ?_
      with_reducible refine (plate_within.calls _ _ _ false _ HWT.out).mono ?_
      rintro e W6 ⟨rfl, hs⟩
      have hb6 := hs.below
      refine ⟨_, rfl, ?_⟩
      refine hK.out _ _ (mv2 hb6 hHeld) (fun hHeld => ?_)
      clear hK K
      refine n_ ?_
      refine p_ 9 (some 43) ?_
      refine p_ 10 (some 44) ?_
      refine o_ 11 (some 45) ?_
      refine o_ 12 (some 46) ?_
      refine o_ 13 (some 47) ?_
      refine o_ 14 (some 48) ?_
      refine o_ 15 (some 49) ?_
      refine o_ 16 (some 50) ?_
      refine o_ 17 (some 51) ?_
      refine o_ 18 (some 52) ?_
      refine p_ 19 (some 53) ?_
      refine done_ (by kernel_rfl) ?_
      go_wp2
      go_ret2
      exact DoEnd.bad HDN.out (below_step (below_drew1 hB5) hb6)
    ·have hke : k = cuts.length := by omega
     subst hke
     have hda : doOf a0 a1 a2 l cuts = (0, some (ps, cs)) := by rw [HDO.out, HDA.out, List.drop_length]; rfl
     have HDN := Lib.hid hda
     have hlen : cs.length = ps.length := HCL.out
     obtain ⟨A1, c1, rfl⟩ := own_form HWA.out.ps
     obtain ⟨A2, c2, rfl⟩ := own_form HWA.out.cs
     clear hda HDO HDA HCL hlen
     go_wp2
     go_ret2
     unfold DoEnd
     rw [HDN.out]
     exact ⟨hB, g, A1, c1, A2, c2, rfl, HWA.out⟩
 ·have hne : (er == 0) = false := by simpa using he0
  have hne' : (er != 0) = true := by simpa using he0
  have hdo : doOf a0 a1 a2 l cuts = (er, none) := by unfold doOf; rw [HER.out, if_pos he0]
  have HDO := Lib.hid hdo
  clear hdo
  go_enter Try.func75, Try.ntmps75
  go_wp2_with (go_at_call 47; refine (plate_CheckPlate.calls _ _ _ _ _ l _ _ (Kd.C_below HL.out (below_alloc (Below.refl _ _) _)) HLC.out HCF.out).mono ?_; rintro e w1 ⟨rfl, hb1⟩)
  go_ret2
  exact DoEnd.bad HDO.out (below_step (below_alloc (Below.refl _ _) _) hb1)
end Go.Proofs.Ytffjbaknglemdaa.X
