import Derived.Test.YtffjbaknglemdaaHNx
namespace Go.Proofs.Ytffjbaknglemdaa.X
open Go.RowKit Go.Maps Go.Proofs.YtffjbaknglemdaaW.PrintWords Go.Proofs.YtffjbaknglemdaaW.PrintLast Go.Proofs.YtffjbaknglemdaaW.PrintMore
set_option linter.unusedSimpArgs false
set_option linter.unusedVariables false

/-! ### PlateNames -/
theorem own_cell {W : World} {base g n c size : Nat} {e : TypeId} {xs : List Value} (h : W.ownsRow base e size (.slice (some ⟨g, 0, none⟩) n c) n xs) (i : Nat) {v : Value} (he : xs[i]? = some v) : W.cell? ⟨g, i, none⟩ = some v := by
  have hc := h.cells (g := g) rfl i v he
  rwa [add_plain] at hc
def bestC : List S112 := [⟨0, false, 3⟩, ⟨1, true, 3⟩, ⟨3, false, 1⟩]
def bestU : List Int := [2, 5, 4]
def pieces5 : List S103 := [⟨0, 0, 6, 4⟩, ⟨0, 0, 2, 4⟩, ⟨3, 0, 3, 4⟩, ⟨3, 0, 3, 1⟩, ⟨3, 2, 3, 2⟩]
def zcuts : List S112 := List.replicate 41 ⟨0, false, 0⟩
theorem nm_pieces : plate_Pieces.f 6 4 1 sheetL sawnC = some (pieces5, 0) := by kernel_rfl
theorem nm_trace1 : plate_Trace.f 6 4 1 sheetL sawnC sawnU 2 3 = some (-1, -1, 0) := by kernel_rfl
theorem nm_trace2 : plate_Trace.f 6 4 1 sheetL sawnC sawnU 5 3 = some (4, -1, 0) := by kernel_rfl
theorem nm_trace3 : plate_Trace.f 6 4 1 sheetL sawnC sawnU 6 0 = some (0, 0, 2) := by kernel_rfl
theorem nm_prove1 : plate_ProvePlan.f 6 4 1 sheetL bestC bestU 12 3 = some true := by kernel_rfl
theorem nm_prove2 : plate_ProvePlan.f 6 4 1 sheetL bestC bestU 12 2 = some false := by kernel_rfl
theorem nm_prove3 : plate_ProvePlan.f 6 4 1 sheetL bestC bestU 13 3 = some false := by kernel_rfl
theorem nm_prove4 : plate_ProvePlan.f 6 4 1 sheetL sawnC sawnU 9 2 = some true := by kernel_rfl
theorem nm_spoil1 : plate_Pieces.f 6 4 1 sheetL [⟨0, false, 6⟩] = some ([], 11) := by kernel_rfl
theorem nm_spoil2 : plate_Pieces.f 6 4 1 sheetL [⟨0, false, 2⟩, ⟨0, false, 1⟩] = some ([], 11) := by kernel_rfl
theorem nm_limit : plate_Pieces.f 6 4 1 sheetL zcuts = some ([], 3) := by kernel_rfl
theorem nm_away : plate_Weigh.f 6 4 1 sheetL sawnC [1, 3, 5] = some (0, 0, 0, 0, 2) := by kernel_rfl
theorem nm_few : plate_Weigh.f 6 4 1 sheetL sawnC [1, 3] = some (0, 0, 0, 0, 2) := by kernel_rfl
theorem nm_same : plate_Weigh.f 6 4 1 sheetL sawnC [1, 3, 3] = some (0, 0, 0, 0, 11) := by kernel_rfl

set_option maxRecDepth 100000 in
set_option maxHeartbeats 16000000 in
theorem names_calls (w : World) : Calls Try.prog 16 #[] w fun e w' => e = .returned (.bool true) ∧ Below w.heap.size w w' := by
  have hfd : ∀ gb ge w, (Instr.field 59 (.agg #[.slice (some ⟨gb, 0, none⟩) 2 2, .slice (some ⟨ge, 0, none⟩) 3 3]) 0).run Try.prog w = .ok (.slice (some ⟨gb, 0, none⟩) 2 2) w := fun _ _ _ => by kernel_rfl
  have hn0 : ∀ w, (binOp .neq 103 (.agg #[.int .i64 0, .int .i64 0, .int .i64 6, .int .i64 4]) (.agg #[.int .i64 0, .int .i64 0, .int .i64 6, .int .i64 4])).run Try.prog w = .ok (.bool false) w := fun _ => by kernel_rfl
  have hn1 : ∀ w, (binOp .neq 103 (.agg #[.int .i64 0, .int .i64 0, .int .i64 2, .int .i64 4]) (.agg #[.int .i64 0, .int .i64 0, .int .i64 2, .int .i64 4])).run Try.prog w = .ok (.bool false) w := fun _ => by kernel_rfl
  have hn2 : ∀ w, (binOp .neq 103 (.agg #[.int .i64 3, .int .i64 0, .int .i64 3, .int .i64 4]) (.agg #[.int .i64 3, .int .i64 0, .int .i64 3, .int .i64 4])).run Try.prog w = .ok (.bool false) w := fun _ => by kernel_rfl
  have hn3 : ∀ w, (binOp .neq 103 (.agg #[.int .i64 3, .int .i64 0, .int .i64 3, .int .i64 1]) (.agg #[.int .i64 3, .int .i64 0, .int .i64 3, .int .i64 1])).run Try.prog w = .ok (.bool false) w := fun _ => by kernel_rfl
  have hn4 : ∀ w, (binOp .neq 103 (.agg #[.int .i64 3, .int .i64 2, .int .i64 3, .int .i64 2]) (.agg #[.int .i64 3, .int .i64 2, .int .i64 3, .int .i64 2])).run Try.prog w = .ok (.bool false) w := fun _ => by kernel_rfl
  go_enter Try.func16, Try.ntmps16
  go_wp2_with fail
  refine (sheet_calls _).mono ?_
  rintro e w1 ⟨A1, rfl, hA1, hb1⟩
  go_wp2_with fail
  refine (sawn_calls _).mono ?_
  rintro e w2 ⟨gb2, ge2, rfl, hB2, hE2, hl1, hl2, hb2⟩
  have HA := Lib.hid (Kd.C_below hA1 hb2)
  have HB := Lib.hid (c112 (n := 2) hB2 rfl (by omega))
  clear hA1 hB2 hE2
  go_wp2_with fail
  refine (pieces_at (k := 5) HA.out HB.out rfl (by omega) nm_pieces rfl).mono ?_
  rintro e w3 ⟨P3, c3, rfl, own3, hb3⟩
  obtain ⟨g3, c3', he3, hlo3, hg3⟩ := own3.form (by omega)
  obtain ⟨rfl, rfl⟩ : P3 = some ⟨g3, 0, none⟩ ∧ c3 = c3' := by injection he3 with e1 e2 e3; exact ⟨e1, e3⟩
  have HO3 := Lib.hid own3
  have HW := Lib.hid (below_step (below_step hb1 hb2) hb3)
  clear HA HB own3 hb1 hb2 hb3 hl1 hl2 he3 hlo3 hg3 hfd
  go_wp2_with fail
  refine (sheet_calls _).mono ?_
  rintro e w1 ⟨A1, rfl, hA1, hb1⟩
  go_wp2_with fail
  refine (sawn_calls _).mono ?_
  rintro e w2 ⟨gb2, ge2, rfl, hB2, hE2, hl1, hl2, hb2⟩
  have HA := Lib.hid (Kd.C_below hA1 hb2)
  have HB := Lib.hid (c112 (n := 2) hB2 rfl (by omega))
  have HE := Lib.hid (cints (n := 3) (xs := sawnU) hE2 rfl (by omega))
  clear hA1 hB2 hE2
  go_wp2_with fail
  refine (trace_at HA.out HB.out HE.out rfl rfl (by omega) (by omega) nm_trace1).mono ?_
  rintro e w3 ⟨rfl, hb3⟩
  have HO3' := Lib.hid (pw_own_below (pw_own_below (pw_own_below HO3.out hb1) hb2) hb3)
  have HW' := Lib.hid (below_step (below_step (below_step HW.out hb1) hb2) hb3)
  clear HO3 HW
  have HO3 := HO3'
  have HW := HW'
  clear HO3' HW'
  clear HA HB HE hb1 hb2 hb3 hl1 hl2
  go_wp2_with fail
  refine (sheet_calls _).mono ?_
  rintro e w1 ⟨A1, rfl, hA1, hb1⟩
  go_wp2_with fail
  refine (sawn_calls _).mono ?_
  rintro e w2 ⟨gb2, ge2, rfl, hB2, hE2, hl1, hl2, hb2⟩
  have HA := Lib.hid (Kd.C_below hA1 hb2)
  have HB := Lib.hid (c112 (n := 2) hB2 rfl (by omega))
  have HE := Lib.hid (cints (n := 3) (xs := sawnU) hE2 rfl (by omega))
  clear hA1 hB2 hE2
  go_wp2_with fail
  refine (trace_at HA.out HB.out HE.out rfl rfl (by omega) (by omega) nm_trace2).mono ?_
  rintro e w3 ⟨rfl, hb3⟩
  have HO3' := Lib.hid (pw_own_below (pw_own_below (pw_own_below HO3.out hb1) hb2) hb3)
  have HW' := Lib.hid (below_step (below_step (below_step HW.out hb1) hb2) hb3)
  clear HO3 HW
  have HO3 := HO3'
  have HW := HW'
  clear HO3' HW'
  clear HA HB HE hb1 hb2 hb3 hl1 hl2
  go_wp2
  obtain ⟨V4, hV4⟩ : ∃ V4, V4 = (((w3.alloc (.cells #[.int .i64 0, .bool false, .int .i64 3, .int .i64 1, .bool true, .int .i64 3, .int .i64 3, .bool false, .int .i64 1] 112)).alloc (.cells #[.int .i64 2, .int .i64 5, .int .i64 4] 3)).alloc (.cells #[.slice (some ⟨w3.heap.size, 0, none⟩) 3 3, .slice (some ⟨w3.heap.size + 1, 0, none⟩) 3 3] 59)) := ⟨_, rfl⟩
  rw [← hV4]
  have hb4 : Below w3.heap.size w3 V4 := by rw [hV4]; exact below_alloc (below_alloc (below_alloc (Below.refl _ _) _) _) _
  have HC9 : Hid (Kd.C k112 V4 (some ⟨w3.heap.size, 0, none⟩) 3 bestC) := Lib.hid (by rw [hV4]; exact c112 (blk_below (blk_below (alloc_at rfl) (below_alloc (Below.refl _ _) _)) (below_alloc (Below.refl _ _) _)) rfl (by omega))
  have HU9 : Hid (Kd.C (Kd.int .i64) V4 (some ⟨w3.heap.size + 1, 0, none⟩) 3 bestU) := Lib.hid (by rw [hV4]; exact cints (xs := bestU) (blk_below (alloc_at (by simp)) (below_alloc (Below.refl _ _) _)) rfl (by omega))
  have h9 : V4.heap[w3.heap.size + 1 + 1]? = some (.cells #[.slice (some ⟨w3.heap.size, 0, none⟩) 3 3, .slice (some ⟨w3.heap.size + 1, 0, none⟩) 3 3] 59 (0, 0)) := by rw [hV4]; exact alloc_at (by simp)
  clear hV4
  have hO4 := pw_own_below HO3.out hb4
  have HW4 := Lib.hid (below_step HW.out hb4)
  have hS : ∀ V, Below V4.heap.size V4 V → V.cell? ⟨g3, 0, none⟩ = some (.int .i64 0) ∧ V.cell? ⟨g3, 1, none⟩ = some (.int .i64 0) ∧ V.cell? ⟨g3, 2, none⟩ = some (.int .i64 6) ∧ V.cell? ⟨g3, 3, none⟩ = some (.int .i64 4) ∧ V.cell? ⟨g3, 4, none⟩ = some (.int .i64 0) ∧ V.cell? ⟨g3, 5, none⟩ = some (.int .i64 0) ∧ V.cell? ⟨g3, 6, none⟩ = some (.int .i64 2) ∧ V.cell? ⟨g3, 7, none⟩ = some (.int .i64 4) ∧ V.cell? ⟨g3, 8, none⟩ = some (.int .i64 3) ∧ V.cell? ⟨g3, 9, none⟩ = some (.int .i64 0) ∧ V.cell? ⟨g3, 10, none⟩ = some (.int .i64 3) ∧ V.cell? ⟨g3, 11, none⟩ = some (.int .i64 4) ∧ V.cell? ⟨g3, 12, none⟩ = some (.int .i64 3) ∧ V.cell? ⟨g3, 13, none⟩ = some (.int .i64 0) ∧ V.cell? ⟨g3, 14, none⟩ = some (.int .i64 3) ∧ V.cell? ⟨g3, 15, none⟩ = some (.int .i64 1) ∧ V.cell? ⟨g3, 16, none⟩ = some (.int .i64 3) ∧ V.cell? ⟨g3, 17, none⟩ = some (.int .i64 2) ∧ V.cell? ⟨g3, 18, none⟩ = some (.int .i64 3) ∧ V.cell? ⟨g3, 19, none⟩ = some (.int .i64 2) ∧ V.cell? ⟨w3.heap.size + 1 + 1, 0, none⟩ = some (.slice (some ⟨w3.heap.size, 0, none⟩) 3 3) ∧ V.cell? ⟨w3.heap.size + 1 + 1, 1, none⟩ = some (.slice (some ⟨w3.heap.size + 1, 0, none⟩) 3 3) := fun V hV => ⟨own_cell (pw_own_below hO4 hV) 0 rfl, own_cell (pw_own_below hO4 hV) 1 rfl, own_cell (pw_own_below hO4 hV) 2 rfl, own_cell (pw_own_below hO4 hV) 3 rfl, own_cell (pw_own_below hO4 hV) 4 rfl, own_cell (pw_own_below hO4 hV) 5 rfl, own_cell (pw_own_below hO4 hV) 6 rfl, own_cell (pw_own_below hO4 hV) 7 rfl, own_cell (pw_own_below hO4 hV) 8 rfl, own_cell (pw_own_below hO4 hV) 9 rfl, own_cell (pw_own_below hO4 hV) 10 rfl, own_cell (pw_own_below hO4 hV) 11 rfl, own_cell (pw_own_below hO4 hV) 12 rfl, own_cell (pw_own_below hO4 hV) 13 rfl, own_cell (pw_own_below hO4 hV) 14 rfl, own_cell (pw_own_below hO4 hV) 15 rfl, own_cell (pw_own_below hO4 hV) 16 rfl, own_cell (pw_own_below hO4 hV) 17 rfl, own_cell (pw_own_below hO4 hV) 18 rfl, own_cell (pw_own_below hO4 hV) 19 rfl, (blk_cell (blk_below h9 hV) 0).trans rfl, (blk_cell (blk_below h9 hV) 1).trans rfl⟩
  have HS := Lib.hid hS
  have hB : Below V4.heap.size V4 V4.drew := below_drew1 (Below.refl _ _)
  clear hS hb4 h9 hO4 HO3 HW
  rename_i K1 hK1 K2 hK2
  suffices hgo : ∀ V5, Below V4.heap.size V4 V5 → ∀ z1 z2 z3 z4 z5 z6 z7 z8 z9 z28 z29 z30 z31 z32 z33 z34 z35 z36 z37 z38 z39 z40 z41 z42 z43 z44 z45 z46 z47 z48 z49 z50 z51 z52 z53 z54 z55 z56 z57 z58 z59 z60 z61 z62 z63 z64 z65 z66 z67 z68 z69 z70 z71 z72 z73 z74 z75 z76 z77 z78 z79 z80 z81 z82 z83 z84 z85 z86 z87 z88 z89 z90 z91 z92 z93 z94 z95 z96 z97 z98 z99 z100 z101 z102 z103 z104 z105 z106 z107 z108 z109 z110 z111 z112 z113 z114 z115 z116 z117 z118 z119 z120 z121 z122 z123 z124 z125 z126 z127 z128 z129 z130 z131 z132 z133 z134 z135 z136 z137 z138 z139 z140 z141 : Value, Exit.then K2 (Exit.then K1 (bodyPost Try.prog Try.f16 fun e w' => e = .returned (.bool true) ∧ Below w.heap.size w w')) Exit.normal ⟨#[.bool false, z1, z2, z3, z4, z5, z6, z7, z8, z9, undef, undef, undef, undef, undef, undef, undef, undef, undef, undef, undef, undef, undef, undef, undef, undef, undef, undef, z28, z29, z30, z31, z32, z33, z34, z35, z36, z37, z38, z39, z40, z41, z42, z43, z44, z45, z46, z47, z48, z49, z50, z51, z52, z53, z54, z55, z56, z57, z58, z59, z60, z61, z62, z63, z64, z65, z66, z67, z68, z69, z70, z71, z72, z73, z74, z75, z76, z77, z78, z79, z80, z81, z82, z83, z84, z85, z86, z87, z88, z89, z90, z91, z92, z93, z94, z95, z96, z97, z98, z99, z100, z101, z102, z103, z104, z105, z106, z107, z108, z109, z110, z111, z112, z113, z114, z115, z116, z117, z118, z119, z120, z121, z122, z123, z124, z125, z126, z127, z128, z129, z130, z131, z132, z133, z134, z135, z136, z137, z138, z139, z140, z141, .bool false, undef, undef, undef, undef, undef, undef, undef, undef, undef, undef, undef, undef, undef, undef, undef, undef, undef, undef, undef, undef, undef, undef, undef, undef, undef, undef, undef, undef, undef, undef, undef, undef, undef, undef, undef, undef, undef, undef, undef, undef, undef, undef, undef, undef, undef, undef, undef, undef, undef, undef, undef, undef, undef, undef, undef, undef, undef, undef, undef, undef, undef, undef, undef, undef, undef, undef, undef, undef, undef, undef, undef, undef, undef, undef, undef, undef, undef, undef, undef, undef, undef, undef, undef, undef, undef, undef, undef, undef, undef, undef, undef, undef, undef, undef, undef, undef, undef, undef, undef, undef, undef, undef, undef, undef, undef, undef, undef, undef, undef, undef, undef, undef, undef, undef, undef, undef, undef, undef, undef, undef, undef, undef, undef, undef, undef, undef, undef, undef, undef, undef, undef, undef, undef], []⟩ V5 by
    as_aux_lemma =>
    refine start_ (n := 88) (S := fun w' => w'.cell? ⟨g3, 0, none⟩ = some (.int .i64 0) ∧ w'.cell? ⟨g3, 1, none⟩ = some (.int .i64 0) ∧ w'.cell? ⟨g3, 2, none⟩ = some (.int .i64 6) ∧ w'.cell? ⟨g3, 3, none⟩ = some (.int .i64 4) ∧ w'.cell? ⟨g3, 4, none⟩ = some (.int .i64 0) ∧ w'.cell? ⟨g3, 5, none⟩ = some (.int .i64 0) ∧ w'.cell? ⟨g3, 6, none⟩ = some (.int .i64 2) ∧ w'.cell? ⟨g3, 7, none⟩ = some (.int .i64 4) ∧ w'.cell? ⟨g3, 8, none⟩ = some (.int .i64 3) ∧ w'.cell? ⟨g3, 9, none⟩ = some (.int .i64 0) ∧ w'.cell? ⟨g3, 10, none⟩ = some (.int .i64 3) ∧ w'.cell? ⟨g3, 11, none⟩ = some (.int .i64 4) ∧ w'.cell? ⟨g3, 12, none⟩ = some (.int .i64 3) ∧ w'.cell? ⟨g3, 13, none⟩ = some (.int .i64 0) ∧ w'.cell? ⟨g3, 14, none⟩ = some (.int .i64 3) ∧ w'.cell? ⟨g3, 15, none⟩ = some (.int .i64 1) ∧ w'.cell? ⟨g3, 16, none⟩ = some (.int .i64 3) ∧ w'.cell? ⟨g3, 17, none⟩ = some (.int .i64 2) ∧ w'.cell? ⟨g3, 18, none⟩ = some (.int .i64 3) ∧ w'.cell? ⟨g3, 19, none⟩ = some (.int .i64 2) ∧ w'.cell? ⟨w3.heap.size + 1 + 1, 0, none⟩ = some (.slice (some ⟨w3.heap.size, 0, none⟩) 3 3) ∧ w'.cell? ⟨w3.heap.size + 1 + 1, 1, none⟩ = some (.slice (some ⟨w3.heap.size + 1, 0, none⟩) 3 3)) (ds := []) #[false, false, false, false, false, false, false, false, false, false, false, false, false, false, false, false, false, false, false, false, false, false, false, false, false, false, false, false, false, false, false, false, false, false, false, false, false, false, false, false, false, false, false, false, false, false, false, false, false, false, false, false, false, false, false, false, false, false, false, false, false, false, false, false, false, false, false, false, false, false, false, false, false, false, false, false, false, false, false, false, false, false, false, false, false, false, false, false] (by kernel_rfl) rfl rfl ⟨(HS.out _ hB).1, (HS.out _ hB).2.1, (HS.out _ hB).2.2.1, (HS.out _ hB).2.2.2.1, (HS.out _ hB).2.2.2.2.1, (HS.out _ hB).2.2.2.2.2.1, (HS.out _ hB).2.2.2.2.2.2.1, (HS.out _ hB).2.2.2.2.2.2.2.1, (HS.out _ hB).2.2.2.2.2.2.2.2.1, (HS.out _ hB).2.2.2.2.2.2.2.2.2.1, (HS.out _ hB).2.2.2.2.2.2.2.2.2.2.1, (HS.out _ hB).2.2.2.2.2.2.2.2.2.2.2.1, (HS.out _ hB).2.2.2.2.2.2.2.2.2.2.2.2.1, (HS.out _ hB).2.2.2.2.2.2.2.2.2.2.2.2.2.1, (HS.out _ hB).2.2.2.2.2.2.2.2.2.2.2.2.2.2.1, (HS.out _ hB).2.2.2.2.2.2.2.2.2.2.2.2.2.2.2.1, (HS.out _ hB).2.2.2.2.2.2.2.2.2.2.2.2.2.2.2.2.1, (HS.out _ hB).2.2.2.2.2.2.2.2.2.2.2.2.2.2.2.2.2.1, (HS.out _ hB).2.2.2.2.2.2.2.2.2.2.2.2.2.2.2.2.2.2.1, (HS.out _ hB).2.2.2.2.2.2.2.2.2.2.2.2.2.2.2.2.2.2.2.1, (HS.out _ hB).2.2.2.2.2.2.2.2.2.2.2.2.2.2.2.2.2.2.2.2.1, (HS.out _ hB).2.2.2.2.2.2.2.2.2.2.2.2.2.2.2.2.2.2.2.2.2⟩ (fun hHeld => ?_)
    refine pure_ (i := 0) (N := some 55) (v := ?_) (a' := ?_) #[true, false, false, false, false, false, false, false, false, false, false, false, false, false, false, false, false, false, false, false, false, false, false, false, false, false, false, false, false, false, false, false, false, false, false, false, false, false, false, false, false, false, false, false, false, false, false, false, false, false, false, false, false, false, false, false, false, false, false, false, false, false, false, false, false, false, false, false, false, false, false, false, false, false, false, false, false, false, false, false, false, false, false, false, false, false, false, false] rfl rfl (by kernel_rfl) (fun _ _ _ h => h) (Or.inl ⟨by rfl, ?_⟩) ?_ ?_
    rotate_left
    · intro w'
      go_simp
      with_reducible rfl
    rotate_left
    · simp only [Act.put, List.setIfInBounds_toArray, List.set_cons_zero, List.set_cons_succ, i64_w, i32_w]
      rfl
    refine pure_ (i := 1) (N := some 56) (v := ?_) (a' := ?_) #[true, true, false, false, false, false, false, false, false, false, false, false, false, false, false, false, false, false, false, false, false, false, false, false, false, false, false, false, false, false, false, false, false, false, false, false, false, false, false, false, false, false, false, false, false, false, false, false, false, false, false, false, false, false, false, false, false, false, false, false, false, false, false, false, false, false, false, false, false, false, false, false, false, false, false, false, false, false, false, false, false, false, false, false, false, false, false, false] rfl rfl (by kernel_rfl) (fun _ _ _ h => h) (Or.inl ⟨by rfl, ?_⟩) ?_ ?_
    rotate_left
    · intro w'
      go_simp
      with_reducible rfl
    rotate_left
    · simp only [Act.put, List.setIfInBounds_toArray, List.set_cons_zero, List.set_cons_succ, i64_w, i32_w]
      rfl
    refine pure_ (i := 2) (N := some 57) (v := ?_) (a' := ?_) #[true, true, true, false, false, false, false, false, false, false, false, false, false, false, false, false, false, false, false, false, false, false, false, false, false, false, false, false, false, false, false, false, false, false, false, false, false, false, false, false, false, false, false, false, false, false, false, false, false, false, false, false, false, false, false, false, false, false, false, false, false, false, false, false, false, false, false, false, false, false, false, false, false, false, false, false, false, false, false, false, false, false, false, false, false, false, false, false] rfl rfl (by kernel_rfl) (fun _ _ _ h => h) (Or.inl ⟨by rfl, ?_⟩) ?_ ?_
    rotate_left
    · intro w'
      go_simp
      with_reducible rfl
    rotate_left
    · simp only [Act.put, List.setIfInBounds_toArray, List.set_cons_zero, List.set_cons_succ, i64_w, i32_w]
      rfl
    refine pure_ (i := 3) (N := some 58) (v := ?_) (a' := ?_) #[true, true, true, true, false, false, false, false, false, false, false, false, false, false, false, false, false, false, false, false, false, false, false, false, false, false, false, false, false, false, false, false, false, false, false, false, false, false, false, false, false, false, false, false, false, false, false, false, false, false, false, false, false, false, false, false, false, false, false, false, false, false, false, false, false, false, false, false, false, false, false, false, false, false, false, false, false, false, false, false, false, false, false, false, false, false, false, false] rfl rfl (by kernel_rfl) (fun _ _ _ h => h) (Or.inl ⟨by rfl, ?_⟩) ?_ ?_
    rotate_left
    · intro w'
      go_simp
      with_reducible rfl
    rotate_left
    · simp only [Act.put, List.setIfInBounds_toArray, List.set_cons_zero, List.set_cons_succ, i64_w, i32_w]
      rfl
    refine pure_ (i := 4) (N := some 59) (v := ?_) (a' := ?_) #[true, true, true, true, true, false, false, false, false, false, false, false, false, false, false, false, false, false, false, false, false, false, false, false, false, false, false, false, false, false, false, false, false, false, false, false, false, false, false, false, false, false, false, false, false, false, false, false, false, false, false, false, false, false, false, false, false, false, false, false, false, false, false, false, false, false, false, false, false, false, false, false, false, false, false, false, false, false, false, false, false, false, false, false, false, false, false, false] rfl rfl (by kernel_rfl) (fun _ _ _ h => h) (Or.inl ⟨by rfl, ?_⟩) ?_ ?_
    rotate_left
    · intro w'
      go_simp
      with_reducible rfl
    rotate_left
    · simp only [Act.put, List.setIfInBounds_toArray, List.set_cons_zero, List.set_cons_succ, i64_w, i32_w]
      rfl
    refine pure_ (i := 5) (N := some 60) (v := ?_) (a' := ?_) #[true, true, true, true, true, true, false, false, false, false, false, false, false, false, false, false, false, false, false, false, false, false, false, false, false, false, false, false, false, false, false, false, false, false, false, false, false, false, false, false, false, false, false, false, false, false, false, false, false, false, false, false, false, false, false, false, false, false, false, false, false, false, false, false, false, false, false, false, false, false, false, false, false, false, false, false, false, false, false, false, false, false, false, false, false, false, false, false] rfl rfl (by kernel_rfl) (fun _ _ _ h => h) (Or.inl ⟨by rfl, ?_⟩) ?_ ?_
    rotate_left
    · intro w'
      go_simp
      with_reducible rfl
    rotate_left
    · simp only [Act.put, List.setIfInBounds_toArray, List.set_cons_zero, List.set_cons_succ, i64_w, i32_w]
      rfl
    refine pure_ (i := 6) (N := some 61) (v := ?_) (a' := ?_) #[true, true, true, true, true, true, true, false, false, false, false, false, false, false, false, false, false, false, false, false, false, false, false, false, false, false, false, false, false, false, false, false, false, false, false, false, false, false, false, false, false, false, false, false, false, false, false, false, false, false, false, false, false, false, false, false, false, false, false, false, false, false, false, false, false, false, false, false, false, false, false, false, false, false, false, false, false, false, false, false, false, false, false, false, false, false, false, false] rfl rfl (by kernel_rfl) (fun _ _ _ h => h) (Or.inl ⟨by rfl, ?_⟩) ?_ ?_
    rotate_left
    · intro w'
      go_simp
      with_reducible rfl
    rotate_left
    · simp only [Act.put, List.setIfInBounds_toArray, List.set_cons_zero, List.set_cons_succ, i64_w, i32_w]
      rfl
    refine pure_ (i := 7) (N := some 62) (v := ?_) (a' := ?_) #[true, true, true, true, true, true, true, true, false, false, false, false, false, false, false, false, false, false, false, false, false, false, false, false, false, false, false, false, false, false, false, false, false, false, false, false, false, false, false, false, false, false, false, false, false, false, false, false, false, false, false, false, false, false, false, false, false, false, false, false, false, false, false, false, false, false, false, false, false, false, false, false, false, false, false, false, false, false, false, false, false, false, false, false, false, false, false, false] rfl rfl (by kernel_rfl) (fun _ _ _ h => h) (Or.inl ⟨by rfl, ?_⟩) ?_ ?_
    rotate_left
    · intro w'
      go_simp
      with_reducible rfl
    rotate_left
    · simp only [Act.put, List.setIfInBounds_toArray, List.set_cons_zero, List.set_cons_succ, i64_w, i32_w]
      rfl
    refine pure_ (i := 8) (N := some 63) (v := ?_) (a' := ?_) #[true, true, true, true, true, true, true, true, true, false, false, false, false, false, false, false, false, false, false, false, false, false, false, false, false, false, false, false, false, false, false, false, false, false, false, false, false, false, false, false, false, false, false, false, false, false, false, false, false, false, false, false, false, false, false, false, false, false, false, false, false, false, false, false, false, false, false, false, false, false, false, false, false, false, false, false, false, false, false, false, false, false, false, false, false, false, false, false] rfl rfl (by kernel_rfl) (fun _ _ _ h => h) (Or.inl ⟨by rfl, ?_⟩) ?_ ?_
    rotate_left
    · intro w'
      go_simp
      with_reducible rfl
    rotate_left
    · simp only [Act.put, List.setIfInBounds_toArray, List.set_cons_zero, List.set_cons_succ, i64_w, i32_w]
      rfl
    refine pure_ (i := 9) (N := some 64) (v := ?_) (a' := ?_) #[true, true, true, true, true, true, true, true, true, true, false, false, false, false, false, false, false, false, false, false, false, false, false, false, false, false, false, false, false, false, false, false, false, false, false, false, false, false, false, false, false, false, false, false, false, false, false, false, false, false, false, false, false, false, false, false, false, false, false, false, false, false, false, false, false, false, false, false, false, false, false, false, false, false, false, false, false, false, false, false, false, false, false, false, false, false, false, false] rfl rfl (by kernel_rfl) (fun _ _ _ h => h) (Or.inl ⟨by rfl, ?_⟩) ?_ ?_
    rotate_left
    · intro w'
      go_simp
      with_reducible rfl
    rotate_left
    · simp only [Act.put, List.setIfInBounds_toArray, List.set_cons_zero, List.set_cons_succ, i64_w, i32_w]
      rfl
    refine pure_ (i := 11) (N := some 66) (v := ?_) (a' := ?_) #[true, true, true, true, true, true, true, true, true, true, false, true, false, false, false, false, false, false, false, false, false, false, false, false, false, false, false, false, false, false, false, false, false, false, false, false, false, false, false, false, false, false, false, false, false, false, false, false, false, false, false, false, false, false, false, false, false, false, false, false, false, false, false, false, false, false, false, false, false, false, false, false, false, false, false, false, false, false, false, false, false, false, false, false, false, false, false, false] rfl rfl (by kernel_rfl) (fun _ _ _ h => h) (Or.inl ⟨by rfl, ?_⟩) ?_ ?_
    rotate_left
    · intro w'
      go_simp
      with_reducible rfl
    rotate_left
    · simp only [Act.put, List.setIfInBounds_toArray, List.set_cons_zero, List.set_cons_succ, i64_w, i32_w]
      rfl
    refine take_ (i := 10) (N := some 65) (v := ?_) (a' := ?_) #[true, true, true, true, true, true, true, true, true, true, true, true, false, false, false, false, false, false, false, false, false, false, false, false, false, false, false, false, false, false, false, false, false, false, false, false, false, false, false, false, false, false, false, false, false, false, false, false, false, false, false, false, false, false, false, false, false, false, false, false, false, false, false, false, false, false, false, false, false, false, false, false, false, false, false, false, false, false, false, false, false, false, false, false, false, false, false, false] rfl rfl (by kernel_rfl) (fun _ _ _ h => h) (Or.inl ⟨by rfl, ?_⟩) hHeld ?_ ?_
    rotate_left
    · rintro w' ⟨s0, s1, s2, s3, s4, s5, s6, s7, s8, s9, s10, s11, s12, s13, s14, s15, s16, s17, s18, s19, s20, s21⟩
      go_simp
      with_reducible rfl
    rotate_left
    · simp only [Act.put, List.setIfInBounds_toArray, List.set_cons_zero, List.set_cons_succ, i64_w, i32_w]
      rfl
    refine pure_ (i := 12) (N := some 67) (v := ?_) (a' := ?_) #[true, true, true, true, true, true, true, true, true, true, true, true, true, false, false, false, false, false, false, false, false, false, false, false, false, false, false, false, false, false, false, false, false, false, false, false, false, false, false, false, false, false, false, false, false, false, false, false, false, false, false, false, false, false, false, false, false, false, false, false, false, false, false, false, false, false, false, false, false, false, false, false, false, false, false, false, false, false, false, false, false, false, false, false, false, false, false, false] rfl rfl (by kernel_rfl) (fun _ _ _ h => h) (Or.inl ⟨by rfl, ?_⟩) ?_ ?_
    rotate_left
    · intro w'
      go_simp
      with_reducible rfl
    rotate_left
    · simp only [Act.put, List.setIfInBounds_toArray, List.set_cons_zero, List.set_cons_succ, i64_w, i32_w]
      rfl
    refine pure_ (i := 13) (N := some 68) (v := ?_) (a' := ?_) #[true, true, true, true, true, true, true, true, true, true, true, true, true, true, false, false, false, false, false, false, false, false, false, false, false, false, false, false, false, false, false, false, false, false, false, false, false, false, false, false, false, false, false, false, false, false, false, false, false, false, false, false, false, false, false, false, false, false, false, false, false, false, false, false, false, false, false, false, false, false, false, false, false, false, false, false, false, false, false, false, false, false, false, false, false, false, false, false] rfl rfl (by kernel_rfl) (fun _ _ _ h => h) (Or.inl ⟨by rfl, ?_⟩) ?_ ?_
    rotate_left
    · intro w'
      go_simp
      with_reducible rfl
    rotate_left
    · simp only [Act.put, List.setIfInBounds_toArray, List.set_cons_zero, List.set_cons_succ, i64_w, i32_w]
      rfl
    refine pure_ (i := 14) (N := some 69) (v := ?_) (a' := ?_) #[true, true, true, true, true, true, true, true, true, true, true, true, true, true, true, false, false, false, false, false, false, false, false, false, false, false, false, false, false, false, false, false, false, false, false, false, false, false, false, false, false, false, false, false, false, false, false, false, false, false, false, false, false, false, false, false, false, false, false, false, false, false, false, false, false, false, false, false, false, false, false, false, false, false, false, false, false, false, false, false, false, false, false, false, false, false, false, false] rfl rfl (by kernel_rfl) (fun _ _ _ h => h) (Or.inl ⟨by rfl, ?_⟩) ?_ ?_
    rotate_left
    · intro w'
      go_simp
      with_reducible rfl
    rotate_left
    · simp only [Act.put, List.setIfInBounds_toArray, List.set_cons_zero, List.set_cons_succ, i64_w, i32_w]
      rfl
    refine pure_ (i := 15) (N := some 70) (v := ?_) (a' := ?_) #[true, true, true, true, true, true, true, true, true, true, true, true, true, true, true, true, false, false, false, false, false, false, false, false, false, false, false, false, false, false, false, false, false, false, false, false, false, false, false, false, false, false, false, false, false, false, false, false, false, false, false, false, false, false, false, false, false, false, false, false, false, false, false, false, false, false, false, false, false, false, false, false, false, false, false, false, false, false, false, false, false, false, false, false, false, false, false, false] rfl rfl (by kernel_rfl) (fun _ _ _ h => h) (Or.inl ⟨by rfl, ?_⟩) ?_ ?_
    rotate_left
    · intro w'
      go_simp
      with_reducible rfl
    rotate_left
    · simp only [Act.put, List.setIfInBounds_toArray, List.set_cons_zero, List.set_cons_succ, i64_w, i32_w]
      rfl
    refine pure_ (i := 16) (N := some 71) (v := ?_) (a' := ?_) #[true, true, true, true, true, true, true, true, true, true, true, true, true, true, true, true, true, false, false, false, false, false, false, false, false, false, false, false, false, false, false, false, false, false, false, false, false, false, false, false, false, false, false, false, false, false, false, false, false, false, false, false, false, false, false, false, false, false, false, false, false, false, false, false, false, false, false, false, false, false, false, false, false, false, false, false, false, false, false, false, false, false, false, false, false, false, false, false] rfl rfl (by kernel_rfl) (fun _ _ _ h => h) (Or.inl ⟨by rfl, ?_⟩) ?_ ?_
    rotate_left
    · intro w'
      go_simp
      with_reducible rfl
    rotate_left
    · simp only [Act.put, List.setIfInBounds_toArray, List.set_cons_zero, List.set_cons_succ, i64_w, i32_w]
      rfl
    refine pure_ (i := 18) (N := some 73) (v := ?_) (a' := ?_) #[true, true, true, true, true, true, true, true, true, true, true, true, true, true, true, true, true, false, true, false, false, false, false, false, false, false, false, false, false, false, false, false, false, false, false, false, false, false, false, false, false, false, false, false, false, false, false, false, false, false, false, false, false, false, false, false, false, false, false, false, false, false, false, false, false, false, false, false, false, false, false, false, false, false, false, false, false, false, false, false, false, false, false, false, false, false, false, false] rfl rfl (by kernel_rfl) (fun _ _ _ h => h) (Or.inl ⟨by rfl, ?_⟩) ?_ ?_
    rotate_left
    · intro w'
      go_simp
      with_reducible rfl
    rotate_left
    · simp only [Act.put, List.setIfInBounds_toArray, List.set_cons_zero, List.set_cons_succ, i64_w, i32_w]
      rfl
    refine take_ (i := 17) (N := some 72) (v := ?_) (a' := ?_) #[true, true, true, true, true, true, true, true, true, true, true, true, true, true, true, true, true, true, true, false, false, false, false, false, false, false, false, false, false, false, false, false, false, false, false, false, false, false, false, false, false, false, false, false, false, false, false, false, false, false, false, false, false, false, false, false, false, false, false, false, false, false, false, false, false, false, false, false, false, false, false, false, false, false, false, false, false, false, false, false, false, false, false, false, false, false, false, false] rfl rfl (by kernel_rfl) (fun _ _ _ h => h) (Or.inl ⟨by rfl, ?_⟩) hHeld ?_ ?_
    rotate_left
    · rintro w' ⟨s0, s1, s2, s3, s4, s5, s6, s7, s8, s9, s10, s11, s12, s13, s14, s15, s16, s17, s18, s19, s20, s21⟩
      go_simp
      with_reducible rfl
    rotate_left
    · simp only [Act.put, List.setIfInBounds_toArray, List.set_cons_zero, List.set_cons_succ, i64_w, i32_w]
      rfl
    refine pure_ (i := 19) (N := some 74) (v := ?_) (a' := ?_) #[true, true, true, true, true, true, true, true, true, true, true, true, true, true, true, true, true, true, true, true, false, false, false, false, false, false, false, false, false, false, false, false, false, false, false, false, false, false, false, false, false, false, false, false, false, false, false, false, false, false, false, false, false, false, false, false, false, false, false, false, false, false, false, false, false, false, false, false, false, false, false, false, false, false, false, false, false, false, false, false, false, false, false, false, false, false, false, false] rfl rfl (by kernel_rfl) (fun _ _ _ h => h) (Or.inl ⟨by rfl, ?_⟩) ?_ ?_
    rotate_left
    · intro w'
      go_simp
      with_reducible rfl
    rotate_left
    · simp only [Act.put, List.setIfInBounds_toArray, List.set_cons_zero, List.set_cons_succ, i64_w, i32_w]
      rfl
    refine pure_ (i := 20) (N := some 75) (v := ?_) (a' := ?_) #[true, true, true, true, true, true, true, true, true, true, true, true, true, true, true, true, true, true, true, true, true, false, false, false, false, false, false, false, false, false, false, false, false, false, false, false, false, false, false, false, false, false, false, false, false, false, false, false, false, false, false, false, false, false, false, false, false, false, false, false, false, false, false, false, false, false, false, false, false, false, false, false, false, false, false, false, false, false, false, false, false, false, false, false, false, false, false, false] rfl rfl (by kernel_rfl) (fun _ _ _ h => h) (Or.inl ⟨by rfl, ?_⟩) ?_ ?_
    rotate_left
    · intro w'
      go_simp
      with_reducible rfl
    rotate_left
    · simp only [Act.put, List.setIfInBounds_toArray, List.set_cons_zero, List.set_cons_succ, i64_w, i32_w]
      rfl
    refine pure_ (i := 21) (N := some 76) (v := ?_) (a' := ?_) #[true, true, true, true, true, true, true, true, true, true, true, true, true, true, true, true, true, true, true, true, true, true, false, false, false, false, false, false, false, false, false, false, false, false, false, false, false, false, false, false, false, false, false, false, false, false, false, false, false, false, false, false, false, false, false, false, false, false, false, false, false, false, false, false, false, false, false, false, false, false, false, false, false, false, false, false, false, false, false, false, false, false, false, false, false, false, false, false] rfl rfl (by kernel_rfl) (fun _ _ _ h => h) (Or.inl ⟨by rfl, ?_⟩) ?_ ?_
    rotate_left
    · intro w'
      go_simp
      with_reducible rfl
    rotate_left
    · simp only [Act.put, List.setIfInBounds_toArray, List.set_cons_zero, List.set_cons_succ, i64_w, i32_w]
      rfl
    refine pure_ (i := 22) (N := some 77) (v := ?_) (a' := ?_) #[true, true, true, true, true, true, true, true, true, true, true, true, true, true, true, true, true, true, true, true, true, true, true, false, false, false, false, false, false, false, false, false, false, false, false, false, false, false, false, false, false, false, false, false, false, false, false, false, false, false, false, false, false, false, false, false, false, false, false, false, false, false, false, false, false, false, false, false, false, false, false, false, false, false, false, false, false, false, false, false, false, false, false, false, false, false, false, false] rfl rfl (by kernel_rfl) (fun _ _ _ h => h) (Or.inl ⟨by rfl, ?_⟩) ?_ ?_
    rotate_left
    · intro w'
      go_simp
      with_reducible rfl
    rotate_left
    · simp only [Act.put, List.setIfInBounds_toArray, List.set_cons_zero, List.set_cons_succ, i64_w, i32_w]
      rfl
    as_aux_lemma =>
    refine pure_ (i := 23) (N := some 78) (v := ?_) (a' := ?_) #[true, true, true, true, true, true, true, true, true, true, true, true, true, true, true, true, true, true, true, true, true, true, true, true, false, false, false, false, false, false, false, false, false, false, false, false, false, false, false, false, false, false, false, false, false, false, false, false, false, false, false, false, false, false, false, false, false, false, false, false, false, false, false, false, false, false, false, false, false, false, false, false, false, false, false, false, false, false, false, false, false, false, false, false, false, false, false, false] rfl rfl (by kernel_rfl) (fun _ _ _ h => h) (Or.inl ⟨by rfl, ?_⟩) ?_ ?_
    rotate_left
    · intro w'
      go_simp
      with_reducible rfl
    rotate_left
    · simp only [Act.put, List.setIfInBounds_toArray, List.set_cons_zero, List.set_cons_succ, i64_w, i32_w]
      rfl
    refine pure_ (i := 25) (N := some 80) (v := ?_) (a' := ?_) #[true, true, true, true, true, true, true, true, true, true, true, true, true, true, true, true, true, true, true, true, true, true, true, true, false, true, false, false, false, false, false, false, false, false, false, false, false, false, false, false, false, false, false, false, false, false, false, false, false, false, false, false, false, false, false, false, false, false, false, false, false, false, false, false, false, false, false, false, false, false, false, false, false, false, false, false, false, false, false, false, false, false, false, false, false, false, false, false] rfl rfl (by kernel_rfl) (fun _ _ _ h => h) (Or.inl ⟨by rfl, ?_⟩) ?_ ?_
    rotate_left
    · intro w'
      go_simp
      with_reducible rfl
    rotate_left
    · simp only [Act.put, List.setIfInBounds_toArray, List.set_cons_zero, List.set_cons_succ, i64_w, i32_w]
      rfl
    refine take_ (i := 24) (N := some 79) (v := ?_) (a' := ?_) #[true, true, true, true, true, true, true, true, true, true, true, true, true, true, true, true, true, true, true, true, true, true, true, true, true, true, false, false, false, false, false, false, false, false, false, false, false, false, false, false, false, false, false, false, false, false, false, false, false, false, false, false, false, false, false, false, false, false, false, false, false, false, false, false, false, false, false, false, false, false, false, false, false, false, false, false, false, false, false, false, false, false, false, false, false, false, false, false] rfl rfl (by kernel_rfl) (fun _ _ _ h => h) (Or.inl ⟨by rfl, ?_⟩) hHeld ?_ ?_
    rotate_left
    · rintro w' ⟨s0, s1, s2, s3, s4, s5, s6, s7, s8, s9, s10, s11, s12, s13, s14, s15, s16, s17, s18, s19, s20, s21⟩
      go_simp
      with_reducible rfl
    rotate_left
    · simp only [Act.put, List.setIfInBounds_toArray, List.set_cons_zero, List.set_cons_succ, i64_w, i32_w]
      rfl
    refine pure_ (i := 26) (N := some 81) (v := ?_) (a' := ?_) #[true, true, true, true, true, true, true, true, true, true, true, true, true, true, true, true, true, true, true, true, true, true, true, true, true, true, true, false, false, false, false, false, false, false, false, false, false, false, false, false, false, false, false, false, false, false, false, false, false, false, false, false, false, false, false, false, false, false, false, false, false, false, false, false, false, false, false, false, false, false, false, false, false, false, false, false, false, false, false, false, false, false, false, false, false, false, false, false] rfl rfl (by kernel_rfl) (fun _ _ _ h => h) (Or.inl ⟨by rfl, ?_⟩) ?_ ?_
    rotate_left
    · intro w'
      go_simp
      with_reducible rfl
    rotate_left
    · simp only [Act.put, List.setIfInBounds_toArray, List.set_cons_zero, List.set_cons_succ, i64_w, i32_w]
      rfl
    refine pure_ (i := 27) (N := some 82) (v := ?_) (a' := ?_) #[true, true, true, true, true, true, true, true, true, true, true, true, true, true, true, true, true, true, true, true, true, true, true, true, true, true, true, true, false, false, false, false, false, false, false, false, false, false, false, false, false, false, false, false, false, false, false, false, false, false, false, false, false, false, false, false, false, false, false, false, false, false, false, false, false, false, false, false, false, false, false, false, false, false, false, false, false, false, false, false, false, false, false, false, false, false, false, false] rfl rfl (by kernel_rfl) (fun _ _ _ h => h) (Or.inl ⟨by rfl, ?_⟩) ?_ ?_
    rotate_left
    · intro w'
      go_simp
      with_reducible rfl
    rotate_left
    · simp only [Act.put, List.setIfInBounds_toArray, List.set_cons_zero, List.set_cons_succ, i64_w, i32_w]
      rfl
    refine pure_ (i := 28) (N := some 83) (v := ?_) (a' := ?_) #[true, true, true, true, true, true, true, true, true, true, true, true, true, true, true, true, true, true, true, true, true, true, true, true, true, true, true, true, true, false, false, false, false, false, false, false, false, false, false, false, false, false, false, false, false, false, false, false, false, false, false, false, false, false, false, false, false, false, false, false, false, false, false, false, false, false, false, false, false, false, false, false, false, false, false, false, false, false, false, false, false, false, false, false, false, false, false, false] rfl rfl (by kernel_rfl) (fun _ _ _ h => h) (Or.inl ⟨by rfl, ?_⟩) ?_ ?_
    rotate_left
    · intro w'
      go_simp
      with_reducible rfl
    rotate_left
    · simp only [Act.put, List.setIfInBounds_toArray, List.set_cons_zero, List.set_cons_succ, i64_w, i32_w]
      rfl
    refine pure_ (i := 29) (N := some 84) (v := ?_) (a' := ?_) #[true, true, true, true, true, true, true, true, true, true, true, true, true, true, true, true, true, true, true, true, true, true, true, true, true, true, true, true, true, true, false, false, false, false, false, false, false, false, false, false, false, false, false, false, false, false, false, false, false, false, false, false, false, false, false, false, false, false, false, false, false, false, false, false, false, false, false, false, false, false, false, false, false, false, false, false, false, false, false, false, false, false, false, false, false, false, false, false] rfl rfl (by kernel_rfl) (fun _ _ _ h => h) (Or.inl ⟨by rfl, ?_⟩) ?_ ?_
    rotate_left
    · intro w'
      go_simp
      with_reducible rfl
    rotate_left
    · simp only [Act.put, List.setIfInBounds_toArray, List.set_cons_zero, List.set_cons_succ, i64_w, i32_w]
      rfl
    refine pure_ (i := 30) (N := some 85) (v := ?_) (a' := ?_) #[true, true, true, true, true, true, true, true, true, true, true, true, true, true, true, true, true, true, true, true, true, true, true, true, true, true, true, true, true, true, true, false, false, false, false, false, false, false, false, false, false, false, false, false, false, false, false, false, false, false, false, false, false, false, false, false, false, false, false, false, false, false, false, false, false, false, false, false, false, false, false, false, false, false, false, false, false, false, false, false, false, false, false, false, false, false, false, false] rfl rfl (by kernel_rfl) (fun _ _ _ h => h) (Or.inl ⟨by rfl, ?_⟩) ?_ ?_
    rotate_left
    · intro w'
      go_simp
      with_reducible rfl
    rotate_left
    · simp only [Act.put, List.setIfInBounds_toArray, List.set_cons_zero, List.set_cons_succ, i64_w, i32_w]
      rfl
    refine pure_ (i := 32) (N := some 87) (v := ?_) (a' := ?_) #[true, true, true, true, true, true, true, true, true, true, true, true, true, true, true, true, true, true, true, true, true, true, true, true, true, true, true, true, true, true, true, false, true, false, false, false, false, false, false, false, false, false, false, false, false, false, false, false, false, false, false, false, false, false, false, false, false, false, false, false, false, false, false, false, false, false, false, false, false, false, false, false, false, false, false, false, false, false, false, false, false, false, false, false, false, false, false, false] rfl rfl (by kernel_rfl) (fun _ _ _ h => h) (Or.inl ⟨by rfl, ?_⟩) ?_ ?_
    rotate_left
    · intro w'
      go_simp
      with_reducible rfl
    rotate_left
    · simp only [Act.put, List.setIfInBounds_toArray, List.set_cons_zero, List.set_cons_succ, i64_w, i32_w]
      rfl
    refine take_ (i := 31) (N := some 86) (v := ?_) (a' := ?_) #[true, true, true, true, true, true, true, true, true, true, true, true, true, true, true, true, true, true, true, true, true, true, true, true, true, true, true, true, true, true, true, true, true, false, false, false, false, false, false, false, false, false, false, false, false, false, false, false, false, false, false, false, false, false, false, false, false, false, false, false, false, false, false, false, false, false, false, false, false, false, false, false, false, false, false, false, false, false, false, false, false, false, false, false, false, false, false, false] rfl rfl (by kernel_rfl) (fun _ _ _ h => h) (Or.inl ⟨by rfl, ?_⟩) hHeld ?_ ?_
    rotate_left
    · rintro w' ⟨s0, s1, s2, s3, s4, s5, s6, s7, s8, s9, s10, s11, s12, s13, s14, s15, s16, s17, s18, s19, s20, s21⟩
      go_simp
      with_reducible rfl
    rotate_left
    · simp only [Act.put, List.setIfInBounds_toArray, List.set_cons_zero, List.set_cons_succ, i64_w, i32_w]
      rfl
    refine pure_ (i := 33) (N := some 88) (v := ?_) (a' := ?_) #[true, true, true, true, true, true, true, true, true, true, true, true, true, true, true, true, true, true, true, true, true, true, true, true, true, true, true, true, true, true, true, true, true, true, false, false, false, false, false, false, false, false, false, false, false, false, false, false, false, false, false, false, false, false, false, false, false, false, false, false, false, false, false, false, false, false, false, false, false, false, false, false, false, false, false, false, false, false, false, false, false, false, false, false, false, false, false, false] rfl rfl (by kernel_rfl) (fun _ _ _ h => h) (Or.inl ⟨by rfl, ?_⟩) ?_ ?_
    rotate_left
    · intro w'
      go_simp
      with_reducible rfl
    rotate_left
    · simp only [Act.put, List.setIfInBounds_toArray, List.set_cons_zero, List.set_cons_succ, i64_w, i32_w]
      rfl
    refine pure_ (i := 34) (N := some 89) (v := ?_) (a' := ?_) #[true, true, true, true, true, true, true, true, true, true, true, true, true, true, true, true, true, true, true, true, true, true, true, true, true, true, true, true, true, true, true, true, true, true, true, false, false, false, false, false, false, false, false, false, false, false, false, false, false, false, false, false, false, false, false, false, false, false, false, false, false, false, false, false, false, false, false, false, false, false, false, false, false, false, false, false, false, false, false, false, false, false, false, false, false, false, false, false] rfl rfl (by kernel_rfl) (fun _ _ _ h => h) (Or.inl ⟨by rfl, ?_⟩) ?_ ?_
    rotate_left
    · intro w'
      go_simp
      with_reducible rfl
    rotate_left
    · simp only [Act.put, List.setIfInBounds_toArray, List.set_cons_zero, List.set_cons_succ, i64_w, i32_w]
      rfl
    refine pure_ (i := 35) (N := some 90) (v := ?_) (a' := ?_) #[true, true, true, true, true, true, true, true, true, true, true, true, true, true, true, true, true, true, true, true, true, true, true, true, true, true, true, true, true, true, true, true, true, true, true, true, false, false, false, false, false, false, false, false, false, false, false, false, false, false, false, false, false, false, false, false, false, false, false, false, false, false, false, false, false, false, false, false, false, false, false, false, false, false, false, false, false, false, false, false, false, false, false, false, false, false, false, false] rfl rfl (by kernel_rfl) (fun _ _ _ h => h) (Or.inl ⟨by rfl, ?_⟩) ?_ ?_
    rotate_left
    · intro w'
      go_simp
      with_reducible rfl
    rotate_left
    · simp only [Act.put, List.setIfInBounds_toArray, List.set_cons_zero, List.set_cons_succ, i64_w, i32_w]
      rfl
    refine pure_ (i := 36) (N := some 91) (v := ?_) (a' := ?_) #[true, true, true, true, true, true, true, true, true, true, true, true, true, true, true, true, true, true, true, true, true, true, true, true, true, true, true, true, true, true, true, true, true, true, true, true, true, false, false, false, false, false, false, false, false, false, false, false, false, false, false, false, false, false, false, false, false, false, false, false, false, false, false, false, false, false, false, false, false, false, false, false, false, false, false, false, false, false, false, false, false, false, false, false, false, false, false, false] rfl rfl (by kernel_rfl) (fun _ _ _ h => h) (Or.inl ⟨by rfl, ?_⟩) ?_ ?_
    rotate_left
    · intro w'
      go_simp
      with_reducible rfl
    rotate_left
    · simp only [Act.put, List.setIfInBounds_toArray, List.set_cons_zero, List.set_cons_succ, i64_w, i32_w]
      rfl
    refine pure_ (i := 37) (N := some 92) (v := ?_) (a' := ?_) #[true, true, true, true, true, true, true, true, true, true, true, true, true, true, true, true, true, true, true, true, true, true, true, true, true, true, true, true, true, true, true, true, true, true, true, true, true, true, false, false, false, false, false, false, false, false, false, false, false, false, false, false, false, false, false, false, false, false, false, false, false, false, false, false, false, false, false, false, false, false, false, false, false, false, false, false, false, false, false, false, false, false, false, false, false, false, false, false] rfl rfl (by kernel_rfl) (fun _ _ _ h => h) (Or.inl ⟨by rfl, ?_⟩) ?_ ?_
    rotate_left
    · intro w'
      go_simp
      with_reducible rfl
    rotate_left
    · simp only [Act.put, List.setIfInBounds_toArray, List.set_cons_zero, List.set_cons_succ, i64_w, i32_w]
      rfl
    refine pure_ (i := 39) (N := some 94) (v := ?_) (a' := ?_) #[true, true, true, true, true, true, true, true, true, true, true, true, true, true, true, true, true, true, true, true, true, true, true, true, true, true, true, true, true, true, true, true, true, true, true, true, true, true, false, true, false, false, false, false, false, false, false, false, false, false, false, false, false, false, false, false, false, false, false, false, false, false, false, false, false, false, false, false, false, false, false, false, false, false, false, false, false, false, false, false, false, false, false, false, false, false, false, false] rfl rfl (by kernel_rfl) (fun _ _ _ h => h) (Or.inl ⟨by rfl, ?_⟩) ?_ ?_
    rotate_left
    · intro w'
      go_simp
      with_reducible rfl
    rotate_left
    · simp only [Act.put, List.setIfInBounds_toArray, List.set_cons_zero, List.set_cons_succ, i64_w, i32_w]
      rfl
    refine take_ (i := 38) (N := some 93) (v := ?_) (a' := ?_) #[true, true, true, true, true, true, true, true, true, true, true, true, true, true, true, true, true, true, true, true, true, true, true, true, true, true, true, true, true, true, true, true, true, true, true, true, true, true, true, true, false, false, false, false, false, false, false, false, false, false, false, false, false, false, false, false, false, false, false, false, false, false, false, false, false, false, false, false, false, false, false, false, false, false, false, false, false, false, false, false, false, false, false, false, false, false, false, false] rfl rfl (by kernel_rfl) (fun _ _ _ h => h) (Or.inl ⟨by rfl, ?_⟩) hHeld ?_ ?_
    rotate_left
    · rintro w' ⟨s0, s1, s2, s3, s4, s5, s6, s7, s8, s9, s10, s11, s12, s13, s14, s15, s16, s17, s18, s19, s20, s21⟩
      go_simp
      with_reducible rfl
    rotate_left
    · simp only [Act.put, List.setIfInBounds_toArray, List.set_cons_zero, List.set_cons_succ, i64_w, i32_w]
      rfl
    refine pure_ (i := 40) (N := some 95) (v := ?_) (a' := ?_) #[true, true, true, true, true, true, true, true, true, true, true, true, true, true, true, true, true, true, true, true, true, true, true, true, true, true, true, true, true, true, true, true, true, true, true, true, true, true, true, true, true, false, false, false, false, false, false, false, false, false, false, false, false, false, false, false, false, false, false, false, false, false, false, false, false, false, false, false, false, false, false, false, false, false, false, false, false, false, false, false, false, false, false, false, false, false, false, false] rfl rfl (by kernel_rfl) (fun _ _ _ h => h) (Or.inl ⟨by rfl, ?_⟩) ?_ ?_
    rotate_left
    · intro w'
      go_simp
      with_reducible rfl
    rotate_left
    · simp only [Act.put, List.setIfInBounds_toArray, List.set_cons_zero, List.set_cons_succ, i64_w, i32_w]
      rfl
    refine pure_ (i := 41) (N := some 96) (v := ?_) (a' := ?_) #[true, true, true, true, true, true, true, true, true, true, true, true, true, true, true, true, true, true, true, true, true, true, true, true, true, true, true, true, true, true, true, true, true, true, true, true, true, true, true, true, true, true, false, false, false, false, false, false, false, false, false, false, false, false, false, false, false, false, false, false, false, false, false, false, false, false, false, false, false, false, false, false, false, false, false, false, false, false, false, false, false, false, false, false, false, false, false, false] rfl rfl (by kernel_rfl) (fun _ _ _ h => h) (Or.inl ⟨by rfl, ?_⟩) ?_ ?_
    rotate_left
    · intro w'
      go_simp
      with_reducible rfl
    rotate_left
    · simp only [Act.put, List.setIfInBounds_toArray, List.set_cons_zero, List.set_cons_succ, i64_w, i32_w]
      rfl
    refine pure_ (i := 42) (N := some 97) (v := ?_) (a' := ?_) #[true, true, true, true, true, true, true, true, true, true, true, true, true, true, true, true, true, true, true, true, true, true, true, true, true, true, true, true, true, true, true, true, true, true, true, true, true, true, true, true, true, true, true, false, false, false, false, false, false, false, false, false, false, false, false, false, false, false, false, false, false, false, false, false, false, false, false, false, false, false, false, false, false, false, false, false, false, false, false, false, false, false, false, false, false, false, false, false] rfl rfl (by kernel_rfl) (fun _ _ _ h => h) (Or.inl ⟨by rfl, ?_⟩) ?_ ?_
    rotate_left
    · intro w'
      go_simp
      with_reducible rfl
    rotate_left
    · simp only [Act.put, List.setIfInBounds_toArray, List.set_cons_zero, List.set_cons_succ, i64_w, i32_w]
      rfl
    refine pure_ (i := 43) (N := some 98) (v := ?_) (a' := ?_) #[true, true, true, true, true, true, true, true, true, true, true, true, true, true, true, true, true, true, true, true, true, true, true, true, true, true, true, true, true, true, true, true, true, true, true, true, true, true, true, true, true, true, true, true, false, false, false, false, false, false, false, false, false, false, false, false, false, false, false, false, false, false, false, false, false, false, false, false, false, false, false, false, false, false, false, false, false, false, false, false, false, false, false, false, false, false, false, false] rfl rfl (by kernel_rfl) (fun _ _ _ h => h) (Or.inl ⟨by rfl, ?_⟩) ?_ ?_
    rotate_left
    · intro w'
      go_simp
      with_reducible rfl
    rotate_left
    · simp only [Act.put, List.setIfInBounds_toArray, List.set_cons_zero, List.set_cons_succ, i64_w, i32_w]
      rfl
    refine pure_ (i := 44) (N := some 99) (v := ?_) (a' := ?_) #[true, true, true, true, true, true, true, true, true, true, true, true, true, true, true, true, true, true, true, true, true, true, true, true, true, true, true, true, true, true, true, true, true, true, true, true, true, true, true, true, true, true, true, true, true, false, false, false, false, false, false, false, false, false, false, false, false, false, false, false, false, false, false, false, false, false, false, false, false, false, false, false, false, false, false, false, false, false, false, false, false, false, false, false, false, false, false, false] rfl rfl (by kernel_rfl) (fun _ _ _ h => h) (Or.inl ⟨by rfl, ?_⟩) ?_ ?_
    rotate_left
    · intro w'
      go_simp
      with_reducible rfl
    rotate_left
    · simp only [Act.put, List.setIfInBounds_toArray, List.set_cons_zero, List.set_cons_succ, i64_w, i32_w]
      rfl
    refine pure_ (i := 45) (N := some 100) (v := ?_) (a' := ?_) #[true, true, true, true, true, true, true, true, true, true, true, true, true, true, true, true, true, true, true, true, true, true, true, true, true, true, true, true, true, true, true, true, true, true, true, true, true, true, true, true, true, true, true, true, true, true, false, false, false, false, false, false, false, false, false, false, false, false, false, false, false, false, false, false, false, false, false, false, false, false, false, false, false, false, false, false, false, false, false, false, false, false, false, false, false, false, false, false] rfl rfl (by kernel_rfl) (fun _ _ _ h => h) (Or.inl ⟨by rfl, ?_⟩) ?_ ?_
    rotate_left
    · intro w'
      go_simp
      with_reducible rfl
    rotate_left
    · simp only [Act.put, List.setIfInBounds_toArray, List.set_cons_zero, List.set_cons_succ, i64_w, i32_w]
      rfl
    refine pure_ (i := 46) (N := some 101) (v := ?_) (a' := ?_) #[true, true, true, true, true, true, true, true, true, true, true, true, true, true, true, true, true, true, true, true, true, true, true, true, true, true, true, true, true, true, true, true, true, true, true, true, true, true, true, true, true, true, true, true, true, true, true, false, false, false, false, false, false, false, false, false, false, false, false, false, false, false, false, false, false, false, false, false, false, false, false, false, false, false, false, false, false, false, false, false, false, false, false, false, false, false, false, false] rfl rfl (by kernel_rfl) (fun _ _ _ h => h) (Or.inl ⟨by rfl, ?_⟩) ?_ ?_
    rotate_left
    · intro w'
      go_simp
      with_reducible rfl
    rotate_left
    · simp only [Act.put, List.setIfInBounds_toArray, List.set_cons_zero, List.set_cons_succ, i64_w, i32_w]
      rfl
    as_aux_lemma =>
    refine pure_ (i := 47) (N := some 102) (v := ?_) (a' := ?_) #[true, true, true, true, true, true, true, true, true, true, true, true, true, true, true, true, true, true, true, true, true, true, true, true, true, true, true, true, true, true, true, true, true, true, true, true, true, true, true, true, true, true, true, true, true, true, true, true, false, false, false, false, false, false, false, false, false, false, false, false, false, false, false, false, false, false, false, false, false, false, false, false, false, false, false, false, false, false, false, false, false, false, false, false, false, false, false, false] rfl rfl (by kernel_rfl) (fun _ _ _ h => h) (Or.inl ⟨by rfl, ?_⟩) ?_ ?_
    rotate_left
    · intro w'
      go_simp
      with_reducible rfl
    rotate_left
    · simp only [Act.put, List.setIfInBounds_toArray, List.set_cons_zero, List.set_cons_succ, i64_w, i32_w]
      rfl
    refine pure_ (i := 48) (N := some 103) (v := ?_) (a' := ?_) #[true, true, true, true, true, true, true, true, true, true, true, true, true, true, true, true, true, true, true, true, true, true, true, true, true, true, true, true, true, true, true, true, true, true, true, true, true, true, true, true, true, true, true, true, true, true, true, true, true, false, false, false, false, false, false, false, false, false, false, false, false, false, false, false, false, false, false, false, false, false, false, false, false, false, false, false, false, false, false, false, false, false, false, false, false, false, false, false] rfl rfl (by kernel_rfl) (fun _ _ _ h => h) (Or.inl ⟨by rfl, ?_⟩) ?_ ?_
    rotate_left
    · intro w'
      go_simp
      with_reducible rfl
    rotate_left
    · simp only [Act.put, List.setIfInBounds_toArray, List.set_cons_zero, List.set_cons_succ, i64_w, i32_w]
      rfl
    refine pure_ (i := 49) (N := some 104) (v := ?_) (a' := ?_) #[true, true, true, true, true, true, true, true, true, true, true, true, true, true, true, true, true, true, true, true, true, true, true, true, true, true, true, true, true, true, true, true, true, true, true, true, true, true, true, true, true, true, true, true, true, true, true, true, true, true, false, false, false, false, false, false, false, false, false, false, false, false, false, false, false, false, false, false, false, false, false, false, false, false, false, false, false, false, false, false, false, false, false, false, false, false, false, false] rfl rfl (by kernel_rfl) (fun _ _ _ h => h) (Or.inl ⟨by rfl, ?_⟩) ?_ ?_
    rotate_left
    · intro w'
      go_simp
      with_reducible rfl
    rotate_left
    · simp only [Act.put, List.setIfInBounds_toArray, List.set_cons_zero, List.set_cons_succ, i64_w, i32_w]
      rfl
    refine pure_ (i := 50) (N := some 105) (v := ?_) (a' := ?_) #[true, true, true, true, true, true, true, true, true, true, true, true, true, true, true, true, true, true, true, true, true, true, true, true, true, true, true, true, true, true, true, true, true, true, true, true, true, true, true, true, true, true, true, true, true, true, true, true, true, true, true, false, false, false, false, false, false, false, false, false, false, false, false, false, false, false, false, false, false, false, false, false, false, false, false, false, false, false, false, false, false, false, false, false, false, false, false, false] rfl rfl (by kernel_rfl) (fun _ _ _ h => h) (Or.inl ⟨by rfl, ?_⟩) ?_ ?_
    rotate_left
    · intro w'
      go_simp
      with_reducible rfl
    rotate_left
    · simp only [Act.put, List.setIfInBounds_toArray, List.set_cons_zero, List.set_cons_succ, i64_w, i32_w]
      rfl
    refine pure_ (i := 51) (N := some 106) (v := ?_) (a' := ?_) #[true, true, true, true, true, true, true, true, true, true, true, true, true, true, true, true, true, true, true, true, true, true, true, true, true, true, true, true, true, true, true, true, true, true, true, true, true, true, true, true, true, true, true, true, true, true, true, true, true, true, true, true, false, false, false, false, false, false, false, false, false, false, false, false, false, false, false, false, false, false, false, false, false, false, false, false, false, false, false, false, false, false, false, false, false, false, false, false] rfl rfl (by kernel_rfl) (fun _ _ _ h => h) (Or.inl ⟨by rfl, ?_⟩) ?_ ?_
    rotate_left
    · intro w'
      go_simp
      with_reducible rfl
    rotate_left
    · simp only [Act.put, List.setIfInBounds_toArray, List.set_cons_zero, List.set_cons_succ, i64_w, i32_w]
      rfl
    refine pure_ (i := 52) (N := some 107) (v := ?_) (a' := ?_) #[true, true, true, true, true, true, true, true, true, true, true, true, true, true, true, true, true, true, true, true, true, true, true, true, true, true, true, true, true, true, true, true, true, true, true, true, true, true, true, true, true, true, true, true, true, true, true, true, true, true, true, true, true, false, false, false, false, false, false, false, false, false, false, false, false, false, false, false, false, false, false, false, false, false, false, false, false, false, false, false, false, false, false, false, false, false, false, false] rfl rfl (by kernel_rfl) (fun _ _ _ h => h) (Or.inl ⟨by rfl, ?_⟩) ?_ ?_
    rotate_left
    · intro w'
      go_simp
      with_reducible rfl
    rotate_left
    · simp only [Act.put, List.setIfInBounds_toArray, List.set_cons_zero, List.set_cons_succ, i64_w, i32_w]
      rfl
    refine pure_ (i := 53) (N := some 108) (v := ?_) (a' := ?_) #[true, true, true, true, true, true, true, true, true, true, true, true, true, true, true, true, true, true, true, true, true, true, true, true, true, true, true, true, true, true, true, true, true, true, true, true, true, true, true, true, true, true, true, true, true, true, true, true, true, true, true, true, true, true, false, false, false, false, false, false, false, false, false, false, false, false, false, false, false, false, false, false, false, false, false, false, false, false, false, false, false, false, false, false, false, false, false, false] rfl rfl (by kernel_rfl) (fun _ _ _ h => h) (Or.inl ⟨by rfl, ?_⟩) ?_ ?_
    rotate_left
    · intro w'
      go_simp
      with_reducible rfl
    rotate_left
    · simp only [Act.put, List.setIfInBounds_toArray, List.set_cons_zero, List.set_cons_succ, i64_w, i32_w]
      rfl
    refine pure_ (i := 54) (N := some 109) (v := ?_) (a' := ?_) #[true, true, true, true, true, true, true, true, true, true, true, true, true, true, true, true, true, true, true, true, true, true, true, true, true, true, true, true, true, true, true, true, true, true, true, true, true, true, true, true, true, true, true, true, true, true, true, true, true, true, true, true, true, true, true, false, false, false, false, false, false, false, false, false, false, false, false, false, false, false, false, false, false, false, false, false, false, false, false, false, false, false, false, false, false, false, false, false] rfl rfl (by kernel_rfl) (fun _ _ _ h => h) (Or.inl ⟨by rfl, ?_⟩) ?_ ?_
    rotate_left
    · intro w'
      go_simp
      with_reducible rfl
    rotate_left
    · simp only [Act.put, List.setIfInBounds_toArray, List.set_cons_zero, List.set_cons_succ, i64_w, i32_w]
      rfl
    refine pure_ (i := 55) (N := some 110) (v := ?_) (a' := ?_) #[true, true, true, true, true, true, true, true, true, true, true, true, true, true, true, true, true, true, true, true, true, true, true, true, true, true, true, true, true, true, true, true, true, true, true, true, true, true, true, true, true, true, true, true, true, true, true, true, true, true, true, true, true, true, true, true, false, false, false, false, false, false, false, false, false, false, false, false, false, false, false, false, false, false, false, false, false, false, false, false, false, false, false, false, false, false, false, false] rfl rfl (by kernel_rfl) (fun _ _ _ h => h) (Or.inl ⟨by rfl, ?_⟩) ?_ ?_
    rotate_left
    · intro w'
      go_simp
      with_reducible rfl
    rotate_left
    · simp only [Act.put, List.setIfInBounds_toArray, List.set_cons_zero, List.set_cons_succ, i64_w, i32_w]
      rfl
    refine pure_ (i := 56) (N := some 111) (v := ?_) (a' := ?_) #[true, true, true, true, true, true, true, true, true, true, true, true, true, true, true, true, true, true, true, true, true, true, true, true, true, true, true, true, true, true, true, true, true, true, true, true, true, true, true, true, true, true, true, true, true, true, true, true, true, true, true, true, true, true, true, true, true, false, false, false, false, false, false, false, false, false, false, false, false, false, false, false, false, false, false, false, false, false, false, false, false, false, false, false, false, false, false, false] rfl rfl (by kernel_rfl) (fun _ _ _ h => h) (Or.inl ⟨by rfl, ?_⟩) ?_ ?_
    rotate_left
    · intro w'
      go_simp
      with_reducible rfl
    rotate_left
    · simp only [Act.put, List.setIfInBounds_toArray, List.set_cons_zero, List.set_cons_succ, i64_w, i32_w]
      rfl
    refine pure_ (i := 57) (N := some 112) (v := ?_) (a' := ?_) #[true, true, true, true, true, true, true, true, true, true, true, true, true, true, true, true, true, true, true, true, true, true, true, true, true, true, true, true, true, true, true, true, true, true, true, true, true, true, true, true, true, true, true, true, true, true, true, true, true, true, true, true, true, true, true, true, true, true, false, false, false, false, false, false, false, false, false, false, false, false, false, false, false, false, false, false, false, false, false, false, false, false, false, false, false, false, false, false] rfl rfl (by kernel_rfl) (fun _ _ _ h => h) (Or.inl ⟨by rfl, ?_⟩) ?_ ?_
    rotate_left
    · intro w'
      go_simp
      with_reducible rfl
    rotate_left
    · simp only [Act.put, List.setIfInBounds_toArray, List.set_cons_zero, List.set_cons_succ, i64_w, i32_w]
      rfl
    refine pure_ (i := 58) (N := some 113) (v := ?_) (a' := ?_) #[true, true, true, true, true, true, true, true, true, true, true, true, true, true, true, true, true, true, true, true, true, true, true, true, true, true, true, true, true, true, true, true, true, true, true, true, true, true, true, true, true, true, true, true, true, true, true, true, true, true, true, true, true, true, true, true, true, true, true, false, false, false, false, false, false, false, false, false, false, false, false, false, false, false, false, false, false, false, false, false, false, false, false, false, false, false, false, false] rfl rfl (by kernel_rfl) (fun _ _ _ h => h) (Or.inl ⟨by rfl, ?_⟩) ?_ ?_
    rotate_left
    · intro w'
      go_simp
      with_reducible rfl
    rotate_left
    · simp only [Act.put, List.setIfInBounds_toArray, List.set_cons_zero, List.set_cons_succ, i64_w, i32_w]
      rfl
    refine pure_ (i := 59) (N := some 114) (v := ?_) (a' := ?_) #[true, true, true, true, true, true, true, true, true, true, true, true, true, true, true, true, true, true, true, true, true, true, true, true, true, true, true, true, true, true, true, true, true, true, true, true, true, true, true, true, true, true, true, true, true, true, true, true, true, true, true, true, true, true, true, true, true, true, true, true, false, false, false, false, false, false, false, false, false, false, false, false, false, false, false, false, false, false, false, false, false, false, false, false, false, false, false, false] rfl rfl (by kernel_rfl) (fun _ _ _ h => h) (Or.inl ⟨by rfl, ?_⟩) ?_ ?_
    rotate_left
    · intro w'
      go_simp
      with_reducible rfl
    rotate_left
    · simp only [Act.put, List.setIfInBounds_toArray, List.set_cons_zero, List.set_cons_succ, i64_w, i32_w]
      rfl
    refine pure_ (i := 60) (N := some 115) (v := ?_) (a' := ?_) #[true, true, true, true, true, true, true, true, true, true, true, true, true, true, true, true, true, true, true, true, true, true, true, true, true, true, true, true, true, true, true, true, true, true, true, true, true, true, true, true, true, true, true, true, true, true, true, true, true, true, true, true, true, true, true, true, true, true, true, true, true, false, false, false, false, false, false, false, false, false, false, false, false, false, false, false, false, false, false, false, false, false, false, false, false, false, false, false] rfl rfl (by kernel_rfl) (fun _ _ _ h => h) (Or.inl ⟨by rfl, ?_⟩) ?_ ?_
    rotate_left
    · intro w'
      go_simp
      with_reducible rfl
    rotate_left
    · simp only [Act.put, List.setIfInBounds_toArray, List.set_cons_zero, List.set_cons_succ, i64_w, i32_w]
      rfl
    refine pure_ (i := 61) (N := some 116) (v := ?_) (a' := ?_) #[true, true, true, true, true, true, true, true, true, true, true, true, true, true, true, true, true, true, true, true, true, true, true, true, true, true, true, true, true, true, true, true, true, true, true, true, true, true, true, true, true, true, true, true, true, true, true, true, true, true, true, true, true, true, true, true, true, true, true, true, true, true, false, false, false, false, false, false, false, false, false, false, false, false, false, false, false, false, false, false, false, false, false, false, false, false, false, false] rfl rfl (by kernel_rfl) (fun _ _ _ h => h) (Or.inl ⟨by rfl, ?_⟩) ?_ ?_
    rotate_left
    · intro w'
      go_simp
      with_reducible rfl
    rotate_left
    · simp only [Act.put, List.setIfInBounds_toArray, List.set_cons_zero, List.set_cons_succ, i64_w, i32_w]
      rfl
    refine pure_ (i := 62) (N := some 117) (v := ?_) (a' := ?_) #[true, true, true, true, true, true, true, true, true, true, true, true, true, true, true, true, true, true, true, true, true, true, true, true, true, true, true, true, true, true, true, true, true, true, true, true, true, true, true, true, true, true, true, true, true, true, true, true, true, true, true, true, true, true, true, true, true, true, true, true, true, true, true, false, false, false, false, false, false, false, false, false, false, false, false, false, false, false, false, false, false, false, false, false, false, false, false, false] rfl rfl (by kernel_rfl) (fun _ _ _ h => h) (Or.inl ⟨by rfl, ?_⟩) ?_ ?_
    rotate_left
    · intro w'
      go_simp
      with_reducible rfl
    rotate_left
    · simp only [Act.put, List.setIfInBounds_toArray, List.set_cons_zero, List.set_cons_succ, i64_w, i32_w]
      rfl
    refine pure_ (i := 63) (N := some 118) (v := ?_) (a' := ?_) #[true, true, true, true, true, true, true, true, true, true, true, true, true, true, true, true, true, true, true, true, true, true, true, true, true, true, true, true, true, true, true, true, true, true, true, true, true, true, true, true, true, true, true, true, true, true, true, true, true, true, true, true, true, true, true, true, true, true, true, true, true, true, true, true, false, false, false, false, false, false, false, false, false, false, false, false, false, false, false, false, false, false, false, false, false, false, false, false] rfl rfl (by kernel_rfl) (fun _ _ _ h => h) (Or.inl ⟨by rfl, ?_⟩) ?_ ?_
    rotate_left
    · intro w'
      go_simp
      with_reducible rfl
    rotate_left
    · simp only [Act.put, List.setIfInBounds_toArray, List.set_cons_zero, List.set_cons_succ, i64_w, i32_w]
      rfl
    refine pure_ (i := 64) (N := some 119) (v := ?_) (a' := ?_) #[true, true, true, true, true, true, true, true, true, true, true, true, true, true, true, true, true, true, true, true, true, true, true, true, true, true, true, true, true, true, true, true, true, true, true, true, true, true, true, true, true, true, true, true, true, true, true, true, true, true, true, true, true, true, true, true, true, true, true, true, true, true, true, true, true, false, false, false, false, false, false, false, false, false, false, false, false, false, false, false, false, false, false, false, false, false, false, false] rfl rfl (by kernel_rfl) (fun _ _ _ h => h) (Or.inl ⟨by rfl, ?_⟩) ?_ ?_
    rotate_left
    · intro w'
      go_simp
      with_reducible rfl
    rotate_left
    · simp only [Act.put, List.setIfInBounds_toArray, List.set_cons_zero, List.set_cons_succ, i64_w, i32_w]
      rfl
    refine pure_ (i := 65) (N := some 120) (v := ?_) (a' := ?_) #[true, true, true, true, true, true, true, true, true, true, true, true, true, true, true, true, true, true, true, true, true, true, true, true, true, true, true, true, true, true, true, true, true, true, true, true, true, true, true, true, true, true, true, true, true, true, true, true, true, true, true, true, true, true, true, true, true, true, true, true, true, true, true, true, true, true, false, false, false, false, false, false, false, false, false, false, false, false, false, false, false, false, false, false, false, false, false, false] rfl rfl (by kernel_rfl) (fun _ _ _ h => h) (Or.inl ⟨by rfl, ?_⟩) ?_ ?_
    rotate_left
    · intro w'
      go_simp
      with_reducible rfl
    rotate_left
    · simp only [Act.put, List.setIfInBounds_toArray, List.set_cons_zero, List.set_cons_succ, i64_w, i32_w]
      rfl
    refine pure_ (i := 66) (N := some 121) (v := ?_) (a' := ?_) #[true, true, true, true, true, true, true, true, true, true, true, true, true, true, true, true, true, true, true, true, true, true, true, true, true, true, true, true, true, true, true, true, true, true, true, true, true, true, true, true, true, true, true, true, true, true, true, true, true, true, true, true, true, true, true, true, true, true, true, true, true, true, true, true, true, true, true, false, false, false, false, false, false, false, false, false, false, false, false, false, false, false, false, false, false, false, false, false] rfl rfl (by kernel_rfl) (fun _ _ _ h => h) (Or.inl ⟨by rfl, ?_⟩) ?_ ?_
    rotate_left
    · intro w'
      go_simp
      with_reducible rfl
    rotate_left
    · simp only [Act.put, List.setIfInBounds_toArray, List.set_cons_zero, List.set_cons_succ, i64_w, i32_w]
      rfl
    refine take_ (i := 68) (N := some 123) (v := ?_) (a' := ?_) #[true, true, true, true, true, true, true, true, true, true, true, true, true, true, true, true, true, true, true, true, true, true, true, true, true, true, true, true, true, true, true, true, true, true, true, true, true, true, true, true, true, true, true, true, true, true, true, true, true, true, true, true, true, true, true, true, true, true, true, true, true, true, true, true, true, true, true, false, true, false, false, false, false, false, false, false, false, false, false, false, false, false, false, false, false, false, false, false] rfl rfl (by kernel_rfl) (fun _ _ _ h => h) (Or.inl ⟨by rfl, ?_⟩) hHeld ?_ ?_
    rotate_left
    · rintro w' ⟨s0, s1, s2, s3, s4, s5, s6, s7, s8, s9, s10, s11, s12, s13, s14, s15, s16, s17, s18, s19, s20, s21⟩
      go_simp
      with_reducible rfl
    rotate_left
    · simp only [Act.put, List.setIfInBounds_toArray, List.set_cons_zero, List.set_cons_succ, i64_w, i32_w]
      rfl
    refine one_ (i := 67) (N := some 122) #[true, true, true, true, true, true, true, true, true, true, true, true, true, true, true, true, true, true, true, true, true, true, true, true, true, true, true, true, true, true, true, true, true, true, true, true, true, true, true, true, true, true, true, true, true, true, true, true, true, true, true, true, true, true, true, true, true, true, true, true, true, true, true, true, true, true, true, true, true, false, false, false, false, false, false, false, false, false, false, false, false, false, false, false, false, false, false, false] rfl rfl (by kernel_rfl) (by decide) (fun K hK => ?_)
    refine goes_ Try.func51 (by kernel_rfl) rfl #[] (by rfl) rfl rfl (by simp only [List.map_toArray, List.map_cons, List.map_nil]) ?_
    with_reducible refine (sheet_calls _).mono ?_
    rintro e V5 ⟨A5, rfl, hA5, hs⟩
    replace hB := below_step hB hs
    clear hs
    refine ⟨_, rfl, ?_⟩
    refine hK.out _ _ ⟨(HS.out _ hB).1, (HS.out _ hB).2.1, (HS.out _ hB).2.2.1, (HS.out _ hB).2.2.2.1, (HS.out _ hB).2.2.2.2.1, (HS.out _ hB).2.2.2.2.2.1, (HS.out _ hB).2.2.2.2.2.2.1, (HS.out _ hB).2.2.2.2.2.2.2.1, (HS.out _ hB).2.2.2.2.2.2.2.2.1, (HS.out _ hB).2.2.2.2.2.2.2.2.2.1, (HS.out _ hB).2.2.2.2.2.2.2.2.2.2.1, (HS.out _ hB).2.2.2.2.2.2.2.2.2.2.2.1, (HS.out _ hB).2.2.2.2.2.2.2.2.2.2.2.2.1, (HS.out _ hB).2.2.2.2.2.2.2.2.2.2.2.2.2.1, (HS.out _ hB).2.2.2.2.2.2.2.2.2.2.2.2.2.2.1, (HS.out _ hB).2.2.2.2.2.2.2.2.2.2.2.2.2.2.2.1, (HS.out _ hB).2.2.2.2.2.2.2.2.2.2.2.2.2.2.2.2.1, (HS.out _ hB).2.2.2.2.2.2.2.2.2.2.2.2.2.2.2.2.2.1, (HS.out _ hB).2.2.2.2.2.2.2.2.2.2.2.2.2.2.2.2.2.2.1, (HS.out _ hB).2.2.2.2.2.2.2.2.2.2.2.2.2.2.2.2.2.2.2.1, (HS.out _ hB).2.2.2.2.2.2.2.2.2.2.2.2.2.2.2.2.2.2.2.2.1, (HS.out _ hB).2.2.2.2.2.2.2.2.2.2.2.2.2.2.2.2.2.2.2.2.2⟩ (fun hHeld => ?_)
    clear hK K
    refine norm_ (a' := ?_) ?_ ?_
    rotate_left
    · show Act.put _ (some 122) _ = _
      simp only [Act.put, List.setIfInBounds_toArray, List.set_cons_zero, List.set_cons_succ, i64_w, i32_w]
      rfl
    refine one_ (i := 69) (N := some 124) #[true, true, true, true, true, true, true, true, true, true, true, true, true, true, true, true, true, true, true, true, true, true, true, true, true, true, true, true, true, true, true, true, true, true, true, true, true, true, true, true, true, true, true, true, true, true, true, true, true, true, true, true, true, true, true, true, true, true, true, true, true, true, true, true, true, true, true, true, true, true, false, false, false, false, false, false, false, false, false, false, false, false, false, false, false, false, false, false] rfl rfl (by kernel_rfl) (by decide) (fun K hK => ?_)
    refine goes_ Try.func46 (by kernel_rfl) rfl #[.agg #[.int .i64 6, .int .i64 4, .int .i64 1, .slice A5 3 3], .agg #[.slice (some ⟨w3.heap.size, 0, none⟩) 3 3, .slice (some ⟨w3.heap.size + 1, 0, none⟩) 3 3], .int .i64 12, .int .i64 3] (by rfl) rfl rfl (by simp only [List.map_toArray, List.map_cons, List.map_nil]; rfl) ?_
    with_reducible refine (prove_at hA5 (Kd.C_below HC9.out hB) (Kd.C_below HU9.out hB) rfl rfl (by omega) (by omega) nm_prove1).mono ?_
    rintro e V5 ⟨rfl, hs⟩
    replace hB := below_step hB hs
    clear hs hA5
    refine ⟨_, rfl, ?_⟩
    refine hK.out _ _ ⟨(HS.out _ hB).1, (HS.out _ hB).2.1, (HS.out _ hB).2.2.1, (HS.out _ hB).2.2.2.1, (HS.out _ hB).2.2.2.2.1, (HS.out _ hB).2.2.2.2.2.1, (HS.out _ hB).2.2.2.2.2.2.1, (HS.out _ hB).2.2.2.2.2.2.2.1, (HS.out _ hB).2.2.2.2.2.2.2.2.1, (HS.out _ hB).2.2.2.2.2.2.2.2.2.1, (HS.out _ hB).2.2.2.2.2.2.2.2.2.2.1, (HS.out _ hB).2.2.2.2.2.2.2.2.2.2.2.1, (HS.out _ hB).2.2.2.2.2.2.2.2.2.2.2.2.1, (HS.out _ hB).2.2.2.2.2.2.2.2.2.2.2.2.2.1, (HS.out _ hB).2.2.2.2.2.2.2.2.2.2.2.2.2.2.1, (HS.out _ hB).2.2.2.2.2.2.2.2.2.2.2.2.2.2.2.1, (HS.out _ hB).2.2.2.2.2.2.2.2.2.2.2.2.2.2.2.2.1, (HS.out _ hB).2.2.2.2.2.2.2.2.2.2.2.2.2.2.2.2.2.1, (HS.out _ hB).2.2.2.2.2.2.2.2.2.2.2.2.2.2.2.2.2.2.1, (HS.out _ hB).2.2.2.2.2.2.2.2.2.2.2.2.2.2.2.2.2.2.2.1, (HS.out _ hB).2.2.2.2.2.2.2.2.2.2.2.2.2.2.2.2.2.2.2.2.1, (HS.out _ hB).2.2.2.2.2.2.2.2.2.2.2.2.2.2.2.2.2.2.2.2.2⟩ (fun hHeld => ?_)
    clear hK K
    refine norm_ (a' := ?_) ?_ ?_
    rotate_left
    · show Act.put _ (some 124) _ = _
      simp only [Act.put, List.setIfInBounds_toArray, List.set_cons_zero, List.set_cons_succ, i64_w, i32_w]
      rfl
    refine pure_ (i := 70) (N := some 125) (v := ?_) (a' := ?_) #[true, true, true, true, true, true, true, true, true, true, true, true, true, true, true, true, true, true, true, true, true, true, true, true, true, true, true, true, true, true, true, true, true, true, true, true, true, true, true, true, true, true, true, true, true, true, true, true, true, true, true, true, true, true, true, true, true, true, true, true, true, true, true, true, true, true, true, true, true, true, true, false, false, false, false, false, false, false, false, false, false, false, false, false, false, false, false, false] rfl rfl (by kernel_rfl) (fun _ _ _ h => h) (Or.inl ⟨by rfl, ?_⟩) ?_ ?_
    rotate_left
    · intro w'
      go_simp
      with_reducible rfl
    rotate_left
    · simp only [Act.put, List.setIfInBounds_toArray, List.set_cons_zero, List.set_cons_succ, i64_w, i32_w]
      rfl
    as_aux_lemma =>
    refine pure_ (i := 71) (N := some 126) (v := ?_) (a' := ?_) #[true, true, true, true, true, true, true, true, true, true, true, true, true, true, true, true, true, true, true, true, true, true, true, true, true, true, true, true, true, true, true, true, true, true, true, true, true, true, true, true, true, true, true, true, true, true, true, true, true, true, true, true, true, true, true, true, true, true, true, true, true, true, true, true, true, true, true, true, true, true, true, true, false, false, false, false, false, false, false, false, false, false, false, false, false, false, false, false] rfl rfl (by kernel_rfl) (fun _ _ _ h => h) (Or.inl ⟨by rfl, ?_⟩) ?_ ?_
    rotate_left
    · intro w'
      go_simp
      with_reducible rfl
    rotate_left
    · simp only [Act.put, List.setIfInBounds_toArray, List.set_cons_zero, List.set_cons_succ, i64_w, i32_w]
      rfl
    refine pure_ (i := 72) (N := some 127) (v := ?_) (a' := ?_) #[true, true, true, true, true, true, true, true, true, true, true, true, true, true, true, true, true, true, true, true, true, true, true, true, true, true, true, true, true, true, true, true, true, true, true, true, true, true, true, true, true, true, true, true, true, true, true, true, true, true, true, true, true, true, true, true, true, true, true, true, true, true, true, true, true, true, true, true, true, true, true, true, true, false, false, false, false, false, false, false, false, false, false, false, false, false, false, false] rfl rfl (by kernel_rfl) (fun _ _ _ h => h) (Or.inl ⟨by rfl, ?_⟩) ?_ ?_
    rotate_left
    · intro w'
      go_simp
      with_reducible rfl
    rotate_left
    · simp only [Act.put, List.setIfInBounds_toArray, List.set_cons_zero, List.set_cons_succ, i64_w, i32_w]
      rfl
    refine take_ (i := 74) (N := some 129) (v := ?_) (a' := ?_) #[true, true, true, true, true, true, true, true, true, true, true, true, true, true, true, true, true, true, true, true, true, true, true, true, true, true, true, true, true, true, true, true, true, true, true, true, true, true, true, true, true, true, true, true, true, true, true, true, true, true, true, true, true, true, true, true, true, true, true, true, true, true, true, true, true, true, true, true, true, true, true, true, true, false, true, false, false, false, false, false, false, false, false, false, false, false, false, false] rfl rfl (by kernel_rfl) (fun _ _ _ h => h) (Or.inl ⟨by rfl, ?_⟩) hHeld ?_ ?_
    rotate_left
    · rintro w' ⟨s0, s1, s2, s3, s4, s5, s6, s7, s8, s9, s10, s11, s12, s13, s14, s15, s16, s17, s18, s19, s20, s21⟩
      go_simp
      with_reducible rfl
    rotate_left
    · simp only [Act.put, List.setIfInBounds_toArray, List.set_cons_zero, List.set_cons_succ, i64_w, i32_w]
      rfl
    refine one_ (i := 73) (N := some 128) #[true, true, true, true, true, true, true, true, true, true, true, true, true, true, true, true, true, true, true, true, true, true, true, true, true, true, true, true, true, true, true, true, true, true, true, true, true, true, true, true, true, true, true, true, true, true, true, true, true, true, true, true, true, true, true, true, true, true, true, true, true, true, true, true, true, true, true, true, true, true, true, true, true, true, true, false, false, false, false, false, false, false, false, false, false, false, false, false] rfl rfl (by kernel_rfl) (by decide) (fun K hK => ?_)
    refine goes_ Try.func51 (by kernel_rfl) rfl #[] (by rfl) rfl rfl (by simp only [List.map_toArray, List.map_cons, List.map_nil]) ?_
    with_reducible refine (sheet_calls _).mono ?_
    rintro e V5 ⟨A5, rfl, hA5, hs⟩
    replace hB := below_step hB hs
    clear hs
    refine ⟨_, rfl, ?_⟩
    refine hK.out _ _ ⟨(HS.out _ hB).1, (HS.out _ hB).2.1, (HS.out _ hB).2.2.1, (HS.out _ hB).2.2.2.1, (HS.out _ hB).2.2.2.2.1, (HS.out _ hB).2.2.2.2.2.1, (HS.out _ hB).2.2.2.2.2.2.1, (HS.out _ hB).2.2.2.2.2.2.2.1, (HS.out _ hB).2.2.2.2.2.2.2.2.1, (HS.out _ hB).2.2.2.2.2.2.2.2.2.1, (HS.out _ hB).2.2.2.2.2.2.2.2.2.2.1, (HS.out _ hB).2.2.2.2.2.2.2.2.2.2.2.1, (HS.out _ hB).2.2.2.2.2.2.2.2.2.2.2.2.1, (HS.out _ hB).2.2.2.2.2.2.2.2.2.2.2.2.2.1, (HS.out _ hB).2.2.2.2.2.2.2.2.2.2.2.2.2.2.1, (HS.out _ hB).2.2.2.2.2.2.2.2.2.2.2.2.2.2.2.1, (HS.out _ hB).2.2.2.2.2.2.2.2.2.2.2.2.2.2.2.2.1, (HS.out _ hB).2.2.2.2.2.2.2.2.2.2.2.2.2.2.2.2.2.1, (HS.out _ hB).2.2.2.2.2.2.2.2.2.2.2.2.2.2.2.2.2.2.1, (HS.out _ hB).2.2.2.2.2.2.2.2.2.2.2.2.2.2.2.2.2.2.2.1, (HS.out _ hB).2.2.2.2.2.2.2.2.2.2.2.2.2.2.2.2.2.2.2.2.1, (HS.out _ hB).2.2.2.2.2.2.2.2.2.2.2.2.2.2.2.2.2.2.2.2.2⟩ (fun hHeld => ?_)
    clear hK K
    refine norm_ (a' := ?_) ?_ ?_
    rotate_left
    · show Act.put _ (some 128) _ = _
      simp only [Act.put, List.setIfInBounds_toArray, List.set_cons_zero, List.set_cons_succ, i64_w, i32_w]
      rfl
    refine one_ (i := 75) (N := some 130) #[true, true, true, true, true, true, true, true, true, true, true, true, true, true, true, true, true, true, true, true, true, true, true, true, true, true, true, true, true, true, true, true, true, true, true, true, true, true, true, true, true, true, true, true, true, true, true, true, true, true, true, true, true, true, true, true, true, true, true, true, true, true, true, true, true, true, true, true, true, true, true, true, true, true, true, true, false, false, false, false, false, false, false, false, false, false, false, false] rfl rfl (by kernel_rfl) (by decide) (fun K hK => ?_)
    refine goes_ Try.func46 (by kernel_rfl) rfl #[.agg #[.int .i64 6, .int .i64 4, .int .i64 1, .slice A5 3 3], .agg #[.slice (some ⟨w3.heap.size, 0, none⟩) 3 3, .slice (some ⟨w3.heap.size + 1, 0, none⟩) 3 3], .int .i64 12, .int .i64 2] (by rfl) rfl rfl (by simp only [List.map_toArray, List.map_cons, List.map_nil]; rfl) ?_
    with_reducible refine (prove_at hA5 (Kd.C_below HC9.out hB) (Kd.C_below HU9.out hB) rfl rfl (by omega) (by omega) nm_prove2).mono ?_
    rintro e V5 ⟨rfl, hs⟩
    replace hB := below_step hB hs
    clear hs hA5
    refine ⟨_, rfl, ?_⟩
    refine hK.out _ _ ⟨(HS.out _ hB).1, (HS.out _ hB).2.1, (HS.out _ hB).2.2.1, (HS.out _ hB).2.2.2.1, (HS.out _ hB).2.2.2.2.1, (HS.out _ hB).2.2.2.2.2.1, (HS.out _ hB).2.2.2.2.2.2.1, (HS.out _ hB).2.2.2.2.2.2.2.1, (HS.out _ hB).2.2.2.2.2.2.2.2.1, (HS.out _ hB).2.2.2.2.2.2.2.2.2.1, (HS.out _ hB).2.2.2.2.2.2.2.2.2.2.1, (HS.out _ hB).2.2.2.2.2.2.2.2.2.2.2.1, (HS.out _ hB).2.2.2.2.2.2.2.2.2.2.2.2.1, (HS.out _ hB).2.2.2.2.2.2.2.2.2.2.2.2.2.1, (HS.out _ hB).2.2.2.2.2.2.2.2.2.2.2.2.2.2.1, (HS.out _ hB).2.2.2.2.2.2.2.2.2.2.2.2.2.2.2.1, (HS.out _ hB).2.2.2.2.2.2.2.2.2.2.2.2.2.2.2.2.1, (HS.out _ hB).2.2.2.2.2.2.2.2.2.2.2.2.2.2.2.2.2.1, (HS.out _ hB).2.2.2.2.2.2.2.2.2.2.2.2.2.2.2.2.2.2.1, (HS.out _ hB).2.2.2.2.2.2.2.2.2.2.2.2.2.2.2.2.2.2.2.1, (HS.out _ hB).2.2.2.2.2.2.2.2.2.2.2.2.2.2.2.2.2.2.2.2.1, (HS.out _ hB).2.2.2.2.2.2.2.2.2.2.2.2.2.2.2.2.2.2.2.2.2⟩ (fun hHeld => ?_)
    clear hK K
    refine norm_ (a' := ?_) ?_ ?_
    rotate_left
    · show Act.put _ (some 130) _ = _
      simp only [Act.put, List.setIfInBounds_toArray, List.set_cons_zero, List.set_cons_succ, i64_w, i32_w]
      rfl
    refine pure_ (i := 76) (N := some 131) (v := ?_) (a' := ?_) #[true, true, true, true, true, true, true, true, true, true, true, true, true, true, true, true, true, true, true, true, true, true, true, true, true, true, true, true, true, true, true, true, true, true, true, true, true, true, true, true, true, true, true, true, true, true, true, true, true, true, true, true, true, true, true, true, true, true, true, true, true, true, true, true, true, true, true, true, true, true, true, true, true, true, true, true, true, false, false, false, false, false, false, false, false, false, false, false] rfl rfl (by kernel_rfl) (fun _ _ _ h => h) (Or.inl ⟨by rfl, ?_⟩) ?_ ?_
    rotate_left
    · intro w'
      go_simp
      with_reducible rfl
    rotate_left
    · simp only [Act.put, List.setIfInBounds_toArray, List.set_cons_zero, List.set_cons_succ, i64_w, i32_w]
      rfl
    refine pure_ (i := 77) (N := some 132) (v := ?_) (a' := ?_) #[true, true, true, true, true, true, true, true, true, true, true, true, true, true, true, true, true, true, true, true, true, true, true, true, true, true, true, true, true, true, true, true, true, true, true, true, true, true, true, true, true, true, true, true, true, true, true, true, true, true, true, true, true, true, true, true, true, true, true, true, true, true, true, true, true, true, true, true, true, true, true, true, true, true, true, true, true, true, false, false, false, false, false, false, false, false, false, false] rfl rfl (by kernel_rfl) (fun _ _ _ h => h) (Or.inl ⟨by rfl, ?_⟩) ?_ ?_
    rotate_left
    · intro w'
      go_simp
      with_reducible rfl
    rotate_left
    · simp only [Act.put, List.setIfInBounds_toArray, List.set_cons_zero, List.set_cons_succ, i64_w, i32_w]
      rfl
    refine take_ (i := 79) (N := some 134) (v := ?_) (a' := ?_) #[true, true, true, true, true, true, true, true, true, true, true, true, true, true, true, true, true, true, true, true, true, true, true, true, true, true, true, true, true, true, true, true, true, true, true, true, true, true, true, true, true, true, true, true, true, true, true, true, true, true, true, true, true, true, true, true, true, true, true, true, true, true, true, true, true, true, true, true, true, true, true, true, true, true, true, true, true, true, false, true, false, false, false, false, false, false, false, false] rfl rfl (by kernel_rfl) (fun _ _ _ h => h) (Or.inl ⟨by rfl, ?_⟩) hHeld ?_ ?_
    rotate_left
    · rintro w' ⟨s0, s1, s2, s3, s4, s5, s6, s7, s8, s9, s10, s11, s12, s13, s14, s15, s16, s17, s18, s19, s20, s21⟩
      go_simp
      with_reducible rfl
    rotate_left
    · simp only [Act.put, List.setIfInBounds_toArray, List.set_cons_zero, List.set_cons_succ, i64_w, i32_w]
      rfl
    refine one_ (i := 78) (N := some 133) #[true, true, true, true, true, true, true, true, true, true, true, true, true, true, true, true, true, true, true, true, true, true, true, true, true, true, true, true, true, true, true, true, true, true, true, true, true, true, true, true, true, true, true, true, true, true, true, true, true, true, true, true, true, true, true, true, true, true, true, true, true, true, true, true, true, true, true, true, true, true, true, true, true, true, true, true, true, true, true, true, false, false, false, false, false, false, false, false] rfl rfl (by kernel_rfl) (by decide) (fun K hK => ?_)
    refine goes_ Try.func51 (by kernel_rfl) rfl #[] (by rfl) rfl rfl (by simp only [List.map_toArray, List.map_cons, List.map_nil]) ?_
    with_reducible refine (sheet_calls _).mono ?_
    rintro e V5 ⟨A5, rfl, hA5, hs⟩
    replace hB := below_step hB hs
    clear hs
    refine ⟨_, rfl, ?_⟩
    refine hK.out _ _ ⟨(HS.out _ hB).1, (HS.out _ hB).2.1, (HS.out _ hB).2.2.1, (HS.out _ hB).2.2.2.1, (HS.out _ hB).2.2.2.2.1, (HS.out _ hB).2.2.2.2.2.1, (HS.out _ hB).2.2.2.2.2.2.1, (HS.out _ hB).2.2.2.2.2.2.2.1, (HS.out _ hB).2.2.2.2.2.2.2.2.1, (HS.out _ hB).2.2.2.2.2.2.2.2.2.1, (HS.out _ hB).2.2.2.2.2.2.2.2.2.2.1, (HS.out _ hB).2.2.2.2.2.2.2.2.2.2.2.1, (HS.out _ hB).2.2.2.2.2.2.2.2.2.2.2.2.1, (HS.out _ hB).2.2.2.2.2.2.2.2.2.2.2.2.2.1, (HS.out _ hB).2.2.2.2.2.2.2.2.2.2.2.2.2.2.1, (HS.out _ hB).2.2.2.2.2.2.2.2.2.2.2.2.2.2.2.1, (HS.out _ hB).2.2.2.2.2.2.2.2.2.2.2.2.2.2.2.2.1, (HS.out _ hB).2.2.2.2.2.2.2.2.2.2.2.2.2.2.2.2.2.1, (HS.out _ hB).2.2.2.2.2.2.2.2.2.2.2.2.2.2.2.2.2.2.1, (HS.out _ hB).2.2.2.2.2.2.2.2.2.2.2.2.2.2.2.2.2.2.2.1, (HS.out _ hB).2.2.2.2.2.2.2.2.2.2.2.2.2.2.2.2.2.2.2.2.1, (HS.out _ hB).2.2.2.2.2.2.2.2.2.2.2.2.2.2.2.2.2.2.2.2.2⟩ (fun hHeld => ?_)
    clear hK K
    refine norm_ (a' := ?_) ?_ ?_
    rotate_left
    · show Act.put _ (some 133) _ = _
      simp only [Act.put, List.setIfInBounds_toArray, List.set_cons_zero, List.set_cons_succ, i64_w, i32_w]
      rfl
    refine one_ (i := 80) (N := some 135) #[true, true, true, true, true, true, true, true, true, true, true, true, true, true, true, true, true, true, true, true, true, true, true, true, true, true, true, true, true, true, true, true, true, true, true, true, true, true, true, true, true, true, true, true, true, true, true, true, true, true, true, true, true, true, true, true, true, true, true, true, true, true, true, true, true, true, true, true, true, true, true, true, true, true, true, true, true, true, true, true, true, false, false, false, false, false, false, false] rfl rfl (by kernel_rfl) (by decide) (fun K hK => ?_)
    refine goes_ Try.func46 (by kernel_rfl) rfl #[.agg #[.int .i64 6, .int .i64 4, .int .i64 1, .slice A5 3 3], .agg #[.slice (some ⟨w3.heap.size, 0, none⟩) 3 3, .slice (some ⟨w3.heap.size + 1, 0, none⟩) 3 3], .int .i64 13, .int .i64 3] (by rfl) rfl rfl (by simp only [List.map_toArray, List.map_cons, List.map_nil]; rfl) ?_
    with_reducible refine (prove_at hA5 (Kd.C_below HC9.out hB) (Kd.C_below HU9.out hB) rfl rfl (by omega) (by omega) nm_prove3).mono ?_
    rintro e V5 ⟨rfl, hs⟩
    replace hB := below_step hB hs
    clear hs hA5
    refine ⟨_, rfl, ?_⟩
    refine hK.out _ _ ⟨(HS.out _ hB).1, (HS.out _ hB).2.1, (HS.out _ hB).2.2.1, (HS.out _ hB).2.2.2.1, (HS.out _ hB).2.2.2.2.1, (HS.out _ hB).2.2.2.2.2.1, (HS.out _ hB).2.2.2.2.2.2.1, (HS.out _ hB).2.2.2.2.2.2.2.1, (HS.out _ hB).2.2.2.2.2.2.2.2.1, (HS.out _ hB).2.2.2.2.2.2.2.2.2.1, (HS.out _ hB).2.2.2.2.2.2.2.2.2.2.1, (HS.out _ hB).2.2.2.2.2.2.2.2.2.2.2.1, (HS.out _ hB).2.2.2.2.2.2.2.2.2.2.2.2.1, (HS.out _ hB).2.2.2.2.2.2.2.2.2.2.2.2.2.1, (HS.out _ hB).2.2.2.2.2.2.2.2.2.2.2.2.2.2.1, (HS.out _ hB).2.2.2.2.2.2.2.2.2.2.2.2.2.2.2.1, (HS.out _ hB).2.2.2.2.2.2.2.2.2.2.2.2.2.2.2.2.1, (HS.out _ hB).2.2.2.2.2.2.2.2.2.2.2.2.2.2.2.2.2.1, (HS.out _ hB).2.2.2.2.2.2.2.2.2.2.2.2.2.2.2.2.2.2.1, (HS.out _ hB).2.2.2.2.2.2.2.2.2.2.2.2.2.2.2.2.2.2.2.1, (HS.out _ hB).2.2.2.2.2.2.2.2.2.2.2.2.2.2.2.2.2.2.2.2.1, (HS.out _ hB).2.2.2.2.2.2.2.2.2.2.2.2.2.2.2.2.2.2.2.2.2⟩ (fun hHeld => ?_)
    clear hK K
    refine norm_ (a' := ?_) ?_ ?_
    rotate_left
    · show Act.put _ (some 135) _ = _
      simp only [Act.put, List.setIfInBounds_toArray, List.set_cons_zero, List.set_cons_succ, i64_w, i32_w]
      rfl
    refine pure_ (i := 81) (N := some 136) (v := ?_) (a' := ?_) #[true, true, true, true, true, true, true, true, true, true, true, true, true, true, true, true, true, true, true, true, true, true, true, true, true, true, true, true, true, true, true, true, true, true, true, true, true, true, true, true, true, true, true, true, true, true, true, true, true, true, true, true, true, true, true, true, true, true, true, true, true, true, true, true, true, true, true, true, true, true, true, true, true, true, true, true, true, true, true, true, true, true, false, false, false, false, false, false] rfl rfl (by kernel_rfl) (fun _ _ _ h => h) (Or.inl ⟨by rfl, ?_⟩) ?_ ?_
    rotate_left
    · intro w'
      go_simp
      with_reducible rfl
    rotate_left
    · simp only [Act.put, List.setIfInBounds_toArray, List.set_cons_zero, List.set_cons_succ, i64_w, i32_w]
      rfl
    refine pure_ (i := 82) (N := some 137) (v := ?_) (a' := ?_) #[true, true, true, true, true, true, true, true, true, true, true, true, true, true, true, true, true, true, true, true, true, true, true, true, true, true, true, true, true, true, true, true, true, true, true, true, true, true, true, true, true, true, true, true, true, true, true, true, true, true, true, true, true, true, true, true, true, true, true, true, true, true, true, true, true, true, true, true, true, true, true, true, true, true, true, true, true, true, true, true, true, true, true, false, false, false, false, false] rfl rfl (by kernel_rfl) (fun _ _ _ h => h) (Or.inl ⟨by rfl, ?_⟩) ?_ ?_
    rotate_left
    · intro w'
      go_simp
      with_reducible rfl
    rotate_left
    · simp only [Act.put, List.setIfInBounds_toArray, List.set_cons_zero, List.set_cons_succ, i64_w, i32_w]
      rfl
    refine one_ (i := 83) (N := some 138) #[true, true, true, true, true, true, true, true, true, true, true, true, true, true, true, true, true, true, true, true, true, true, true, true, true, true, true, true, true, true, true, true, true, true, true, true, true, true, true, true, true, true, true, true, true, true, true, true, true, true, true, true, true, true, true, true, true, true, true, true, true, true, true, true, true, true, true, true, true, true, true, true, true, true, true, true, true, true, true, true, true, true, true, true, false, false, false, false] rfl rfl (by kernel_rfl) (by decide) (fun K hK => ?_)
    refine goes_ Try.func51 (by kernel_rfl) rfl #[] (by rfl) rfl rfl (by simp only [List.map_toArray, List.map_cons, List.map_nil]) ?_
    with_reducible refine (sheet_calls _).mono ?_
    rintro e V5 ⟨A5, rfl, hA5, hs⟩
    replace hB := below_step hB hs
    clear hs
    refine ⟨_, rfl, ?_⟩
    refine hK.out _ _ ⟨(HS.out _ hB).1, (HS.out _ hB).2.1, (HS.out _ hB).2.2.1, (HS.out _ hB).2.2.2.1, (HS.out _ hB).2.2.2.2.1, (HS.out _ hB).2.2.2.2.2.1, (HS.out _ hB).2.2.2.2.2.2.1, (HS.out _ hB).2.2.2.2.2.2.2.1, (HS.out _ hB).2.2.2.2.2.2.2.2.1, (HS.out _ hB).2.2.2.2.2.2.2.2.2.1, (HS.out _ hB).2.2.2.2.2.2.2.2.2.2.1, (HS.out _ hB).2.2.2.2.2.2.2.2.2.2.2.1, (HS.out _ hB).2.2.2.2.2.2.2.2.2.2.2.2.1, (HS.out _ hB).2.2.2.2.2.2.2.2.2.2.2.2.2.1, (HS.out _ hB).2.2.2.2.2.2.2.2.2.2.2.2.2.2.1, (HS.out _ hB).2.2.2.2.2.2.2.2.2.2.2.2.2.2.2.1, (HS.out _ hB).2.2.2.2.2.2.2.2.2.2.2.2.2.2.2.2.1, (HS.out _ hB).2.2.2.2.2.2.2.2.2.2.2.2.2.2.2.2.2.1, (HS.out _ hB).2.2.2.2.2.2.2.2.2.2.2.2.2.2.2.2.2.2.1, (HS.out _ hB).2.2.2.2.2.2.2.2.2.2.2.2.2.2.2.2.2.2.2.1, (HS.out _ hB).2.2.2.2.2.2.2.2.2.2.2.2.2.2.2.2.2.2.2.2.1, (HS.out _ hB).2.2.2.2.2.2.2.2.2.2.2.2.2.2.2.2.2.2.2.2.2⟩ (fun hHeld => ?_)
    clear hK K
    refine norm_ (a' := ?_) ?_ ?_
    rotate_left
    · show Act.put _ (some 138) _ = _
      simp only [Act.put, List.setIfInBounds_toArray, List.set_cons_zero, List.set_cons_succ, i64_w, i32_w]
      rfl
    refine one_ (i := 84) (N := some 139) #[true, true, true, true, true, true, true, true, true, true, true, true, true, true, true, true, true, true, true, true, true, true, true, true, true, true, true, true, true, true, true, true, true, true, true, true, true, true, true, true, true, true, true, true, true, true, true, true, true, true, true, true, true, true, true, true, true, true, true, true, true, true, true, true, true, true, true, true, true, true, true, true, true, true, true, true, true, true, true, true, true, true, true, true, true, false, false, false] rfl rfl (by kernel_rfl) (by decide) (fun K hK => ?_)
    refine goes_ Try.func52 (by kernel_rfl) rfl #[] (by rfl) rfl rfl (by simp only [List.map_toArray, List.map_cons, List.map_nil]) ?_
    with_reducible refine (sawn_calls _).mono ?_
    rintro e V5 ⟨gb5, ge5, rfl, hB5, hE5, hl5, hl6, hs⟩
    replace hB := below_step hB hs
    replace hA5 := Kd.C_below hA5 hs
    clear hs
    refine ⟨_, rfl, ?_⟩
    refine hK.out _ _ ⟨(HS.out _ hB).1, (HS.out _ hB).2.1, (HS.out _ hB).2.2.1, (HS.out _ hB).2.2.2.1, (HS.out _ hB).2.2.2.2.1, (HS.out _ hB).2.2.2.2.2.1, (HS.out _ hB).2.2.2.2.2.2.1, (HS.out _ hB).2.2.2.2.2.2.2.1, (HS.out _ hB).2.2.2.2.2.2.2.2.1, (HS.out _ hB).2.2.2.2.2.2.2.2.2.1, (HS.out _ hB).2.2.2.2.2.2.2.2.2.2.1, (HS.out _ hB).2.2.2.2.2.2.2.2.2.2.2.1, (HS.out _ hB).2.2.2.2.2.2.2.2.2.2.2.2.1, (HS.out _ hB).2.2.2.2.2.2.2.2.2.2.2.2.2.1, (HS.out _ hB).2.2.2.2.2.2.2.2.2.2.2.2.2.2.1, (HS.out _ hB).2.2.2.2.2.2.2.2.2.2.2.2.2.2.2.1, (HS.out _ hB).2.2.2.2.2.2.2.2.2.2.2.2.2.2.2.2.1, (HS.out _ hB).2.2.2.2.2.2.2.2.2.2.2.2.2.2.2.2.2.1, (HS.out _ hB).2.2.2.2.2.2.2.2.2.2.2.2.2.2.2.2.2.2.1, (HS.out _ hB).2.2.2.2.2.2.2.2.2.2.2.2.2.2.2.2.2.2.2.1, (HS.out _ hB).2.2.2.2.2.2.2.2.2.2.2.2.2.2.2.2.2.2.2.2.1, (HS.out _ hB).2.2.2.2.2.2.2.2.2.2.2.2.2.2.2.2.2.2.2.2.2⟩ (fun hHeld => ?_)
    clear hK K
    refine norm_ (a' := ?_) ?_ ?_
    rotate_left
    · show Act.put _ (some 139) _ = _
      simp only [Act.put, List.setIfInBounds_toArray, List.set_cons_zero, List.set_cons_succ, i64_w, i32_w]
      rfl
    refine one_ (i := 85) (N := some 140) #[true, true, true, true, true, true, true, true, true, true, true, true, true, true, true, true, true, true, true, true, true, true, true, true, true, true, true, true, true, true, true, true, true, true, true, true, true, true, true, true, true, true, true, true, true, true, true, true, true, true, true, true, true, true, true, true, true, true, true, true, true, true, true, true, true, true, true, true, true, true, true, true, true, true, true, true, true, true, true, true, true, true, true, true, true, true, false, false] rfl rfl (by kernel_rfl) (by decide) (fun K hK => ?_)
    refine goes_ Try.func46 (by kernel_rfl) rfl #[.agg #[.int .i64 6, .int .i64 4, .int .i64 1, .slice A5 3 3], .agg #[.slice (some ⟨gb5, 0, none⟩) 2 2, .slice (some ⟨ge5, 0, none⟩) 3 3], .int .i64 9, .int .i64 2] (by rfl) rfl rfl (by simp only [List.map_toArray, List.map_cons, List.map_nil]; rfl) ?_
    with_reducible refine (prove_at hA5 (c112 (n := 2) hB5 rfl (by omega)) (cints (n := 3) (xs := sawnU) hE5 rfl (by omega)) rfl rfl (by omega) (by omega) nm_prove4).mono ?_
    rintro e V5 ⟨rfl, hs⟩
    replace hB := below_step hB hs
    clear hs hA5 hB5 hE5 hl5 hl6
    refine ⟨_, rfl, ?_⟩
    refine hK.out _ _ ⟨(HS.out _ hB).1, (HS.out _ hB).2.1, (HS.out _ hB).2.2.1, (HS.out _ hB).2.2.2.1, (HS.out _ hB).2.2.2.2.1, (HS.out _ hB).2.2.2.2.2.1, (HS.out _ hB).2.2.2.2.2.2.1, (HS.out _ hB).2.2.2.2.2.2.2.1, (HS.out _ hB).2.2.2.2.2.2.2.2.1, (HS.out _ hB).2.2.2.2.2.2.2.2.2.1, (HS.out _ hB).2.2.2.2.2.2.2.2.2.2.1, (HS.out _ hB).2.2.2.2.2.2.2.2.2.2.2.1, (HS.out _ hB).2.2.2.2.2.2.2.2.2.2.2.2.1, (HS.out _ hB).2.2.2.2.2.2.2.2.2.2.2.2.2.1, (HS.out _ hB).2.2.2.2.2.2.2.2.2.2.2.2.2.2.1, (HS.out _ hB).2.2.2.2.2.2.2.2.2.2.2.2.2.2.2.1, (HS.out _ hB).2.2.2.2.2.2.2.2.2.2.2.2.2.2.2.2.1, (HS.out _ hB).2.2.2.2.2.2.2.2.2.2.2.2.2.2.2.2.2.1, (HS.out _ hB).2.2.2.2.2.2.2.2.2.2.2.2.2.2.2.2.2.2.1, (HS.out _ hB).2.2.2.2.2.2.2.2.2.2.2.2.2.2.2.2.2.2.2.1, (HS.out _ hB).2.2.2.2.2.2.2.2.2.2.2.2.2.2.2.2.2.2.2.2.1, (HS.out _ hB).2.2.2.2.2.2.2.2.2.2.2.2.2.2.2.2.2.2.2.2.2⟩ (fun hHeld => ?_)
    clear hK K
    refine norm_ (a' := ?_) ?_ ?_
    rotate_left
    · show Act.put _ (some 140) _ = _
      simp only [Act.put, List.setIfInBounds_toArray, List.set_cons_zero, List.set_cons_succ, i64_w, i32_w]
      rfl
    refine pure_ (i := 86) (N := some 141) (v := ?_) (a' := ?_) #[true, true, true, true, true, true, true, true, true, true, true, true, true, true, true, true, true, true, true, true, true, true, true, true, true, true, true, true, true, true, true, true, true, true, true, true, true, true, true, true, true, true, true, true, true, true, true, true, true, true, true, true, true, true, true, true, true, true, true, true, true, true, true, true, true, true, true, true, true, true, true, true, true, true, true, true, true, true, true, true, true, true, true, true, true, true, true, false] rfl rfl (by kernel_rfl) (fun _ _ _ h => h) (Or.inl ⟨by rfl, ?_⟩) ?_ ?_
    rotate_left
    · intro w'
      go_simp
      with_reducible rfl
    rotate_left
    · simp only [Act.put, List.setIfInBounds_toArray, List.set_cons_zero, List.set_cons_succ, i64_w, i32_w]
      rfl
    refine pure_ (i := 87) (N := some 142) (v := ?_) (a' := ?_) #[true, true, true, true, true, true, true, true, true, true, true, true, true, true, true, true, true, true, true, true, true, true, true, true, true, true, true, true, true, true, true, true, true, true, true, true, true, true, true, true, true, true, true, true, true, true, true, true, true, true, true, true, true, true, true, true, true, true, true, true, true, true, true, true, true, true, true, true, true, true, true, true, true, true, true, true, true, true, true, true, true, true, true, true, true, true, true, true] rfl rfl (by kernel_rfl) (fun _ _ _ h => h) (Or.inl ⟨by rfl, ?_⟩) ?_ ?_
    rotate_left
    · intro w'
      go_simp
      with_reducible rfl
    rotate_left
    · simp only [Act.put, List.setIfInBounds_toArray, List.set_cons_zero, List.set_cons_succ, i64_w, i32_w]
      rfl
    refine done_ (by kernel_rfl) ?_
    clear hHeld
    exact hgo _ hB _ _ _ _ _ _ _ _ _ _ _ _ _ _ _ _ _ _ _ _ _ _ _ _ _ _ _ _ _ _ _ _ _ _ _ _ _ _ _ _ _ _ _ _ _ _ _ _ _ _ _ _ _ _ _ _ _ _ _ _ _ _ _ _ _ _ _ _ _ _ _ _ _ _ _ _ _ _ _ _ _ _ _ _ _ _ _ _ _ _ _ _ _ _ _ _ _ _ _ _ _ _ _ _ _ _ _ _ _ _ _ _ _ _ _ _ _ _ _ _ _ _ _
  intro V5 hB z1 z2 z3 z4 z5 z6 z7 z8 z9 z28 z29 z30 z31 z32 z33 z34 z35 z36 z37 z38 z39 z40 z41 z42 z43 z44 z45 z46 z47 z48 z49 z50 z51 z52 z53 z54 z55 z56 z57 z58 z59 z60 z61 z62 z63 z64 z65 z66 z67 z68 z69 z70 z71 z72 z73 z74 z75 z76 z77 z78 z79 z80 z81 z82 z83 z84 z85 z86 z87 z88 z89 z90 z91 z92 z93 z94 z95 z96 z97 z98 z99 z100 z101 z102 z103 z104 z105 z106 z107 z108 z109 z110 z111 z112 z113 z114 z115 z116 z117 z118 z119 z120 z121 z122 z123 z124 z125 z126 z127 z128 z129 z130 z131 z132 z133 z134 z135 z136 z137 z138 z139 z140 z141
  have HW5 := Lib.hid (below_step HW4.out hB)
  clear HS hB HC9 HU9 HW4 hn0 hn1 hn2 hn3 hn4
  go_wp2_with fail
  refine (sheet_calls _).mono ?_
  rintro e w1 ⟨A1, rfl, hA1, hb1⟩
  go_wp2_with fail
  refine (pieces_at (k := 0) (Kd.C_below hA1 (below_alloc (Below.refl _ _) _)) (c112 (n := 1) (xs := [⟨0, false, 6⟩]) (alloc_at rfl) rfl (by omega)) rfl (by omega) nm_spoil1 rfl).mono ?_
  rintro e w2 ⟨P, c, rfl, -, hb2⟩
  have HW6 := Lib.hid (below_step (below_alloc (below_step HW5.out hb1) _) hb2)
  clear HW5 hA1 hb1 hb2
  go_wp2_with fail
  refine (sheet_calls _).mono ?_
  rintro e w1 ⟨A1, rfl, hA1, hb1⟩
  go_wp2_with fail
  refine (pieces_at (k := 0) (Kd.C_below hA1 (below_alloc (Below.refl _ _) _)) (c112 (n := 2) (xs := [⟨0, false, 2⟩, ⟨0, false, 1⟩]) (alloc_at rfl) rfl (by omega)) rfl (by omega) nm_spoil2 rfl).mono ?_
  rintro e w7 ⟨P7, c7, rfl, -, hb2⟩
  have HW7 := Lib.hid (below_step (below_alloc (below_step HW6.out hb1) _) hb2)
  clear HW6 hA1 hb1 hb2
  go_wp2
  have hB : Below w7.heap.size w7 w7.drew := below_drew1 (Below.refl _ _)
  refine start_ (n := 7) (S := fun w' => True) (ds := []) #[false, false, false, false, false, false, false] (by kernel_rfl) rfl rfl trivial (fun hHeld => ?_)
  refine join_ (σ := Option Addr × Nat) 5 #[true, true, false, false, false, false, false] (fun s => [(159, .agg #[.int .i64 6, .int .i64 4, .int .i64 1, .slice s.1 3 3]), (160, .slice (some ⟨s.2, 0, none⟩) 41 41)]) (fun s w' => Kd.C k115 w' s.1 3 sheetL ∧ w'.heap[s.2]? = some (.cells (ccs zcuts).toArray 112 (0, 0)) ∧ Below w7.heap.size w7 w') ?_ ?_
  rotate_left
  · intro hCont
    refine two_ (i := 0) (j := 1) (Ni := some 159) (Nj := some 160) #[true, false, false, false, false, false, false] #[false, true, false, false, false, false, false] rfl rfl rfl rfl (by kernel_rfl) (by decide) (by decide) (fun K hK => ?_) (fun K hK => ?_)
    · skip
      refine goes_ Try.func51 (by kernel_rfl) rfl #[] (by rfl) rfl rfl (by simp only [List.map_toArray, List.map_cons, List.map_nil]) ?_
      with_reducible refine (sheet_calls _).mono ?_
      rintro e V8 ⟨A8, rfl, hA8, hs⟩
      replace hB := below_step hB hs
      clear hs
      refine ⟨_, rfl, ?_⟩
      refine hK.out _ _ trivial (fun hHeld => ?_)
      clear hK K
      refine norm_ (a' := ?_) ?_ ?_
      rotate_left
      · show Act.put _ (some 159) _ = _
        simp only [Act.put, List.setIfInBounds_toArray, List.set_cons_zero, List.set_cons_succ, i64_w, i32_w]
        rfl
      refine one_ (i := 1) (N := some 160) #[true, true, false, false, false, false, false] rfl rfl (by kernel_rfl) (by decide) (fun K hK => ?_)
      refine slit_ (.cells (ccs zcuts).toArray 112 (0, 0)) 41 (by rfl) rfl ?_ ?_
      · kernel_rfl
      intro g8 V8 hg8 hl8 hs
      replace hB := below_step hB hs
      replace hA8 := Kd.C_below hA8 hs
      clear hs hl8
      refine hK.out _ _ trivial (fun hHeld => ?_)
      clear hK K
      refine norm_ (a' := ?_) ?_ ?_
      rotate_left
      · show Act.put _ (some 160) _ = _
        simp only [Act.put, List.setIfInBounds_toArray, List.set_cons_zero, List.set_cons_succ, i64_w, i32_w]
        rfl
      exact norm_ (by simp only [putAll, Act.put, List.setIfInBounds_toArray, List.set_cons_zero, List.set_cons_succ]) (hCont (A8, g8) _ ⟨hA8, hg8, hB⟩)
    · skip
      refine slit_ (.cells (ccs zcuts).toArray 112 (0, 0)) 41 (by rfl) rfl ?_ ?_
      · kernel_rfl
      intro g8 V8 hg8 hl8 hs
      replace hB := below_step hB hs
      clear hs hl8
      refine hK.out _ _ trivial (fun hHeld => ?_)
      clear hK K
      refine norm_ (a' := ?_) ?_ ?_
      rotate_left
      · show Act.put _ (some 160) _ = _
        simp only [Act.put, List.setIfInBounds_toArray, List.set_cons_zero, List.set_cons_succ, i64_w, i32_w]
        rfl
      refine one_ (i := 0) (N := some 159) #[true, true, false, false, false, false, false] rfl rfl (by kernel_rfl) (by decide) (fun K hK => ?_)
      refine goes_ Try.func51 (by kernel_rfl) rfl #[] (by rfl) rfl rfl (by simp only [List.map_toArray, List.map_cons, List.map_nil]) ?_
      with_reducible refine (sheet_calls _).mono ?_
      rintro e V8 ⟨A8, rfl, hA8, hs⟩
      replace hB := below_step hB hs
      replace hg8 := blk_below hg8 hs
      clear hs
      refine ⟨_, rfl, ?_⟩
      refine hK.out _ _ trivial (fun hHeld => ?_)
      clear hK K
      refine norm_ (a' := ?_) ?_ ?_
      rotate_left
      · show Act.put _ (some 159) _ = _
        simp only [Act.put, List.setIfInBounds_toArray, List.set_cons_zero, List.set_cons_succ, i64_w, i32_w]
        rfl
      exact norm_ (by simp only [putAll, Act.put, List.setIfInBounds_toArray, List.set_cons_zero, List.set_cons_succ]) (hCont (A8, g8) _ ⟨hA8, hg8, hB⟩)
  clear hHeld hB
  rintro ⟨A8, g8⟩ V8 ⟨hA8, hg8, hB⟩
  have hHeld : True := trivial
  refine norm_ (a' := ?_) ?_ ?_
  rotate_left
  · simp only [putAll, Act.put, List.setIfInBounds_toArray, List.set_cons_zero, List.set_cons_succ]
    rfl
  refine one_ (i := 2) (N := some 161) #[true, true, true, false, false, false, false] rfl rfl (by kernel_rfl) (by decide) (fun K hK => ?_)
  refine goes_ Try.func48 (by kernel_rfl) rfl #[.agg #[.int .i64 6, .int .i64 4, .int .i64 1, .slice A8 3 3], .slice (some ⟨g8, 0, none⟩) 41 41] (by rfl) rfl rfl (by simp only [List.map_toArray, List.map_cons, List.map_nil]; rfl) ?_
  with_reducible refine (pieces_at (k := 0) hA8 (c112 (n := 41) hg8 rfl (by omega)) rfl (by omega) nm_limit rfl).mono ?_
  rintro e V9 ⟨P9, c9, rfl, -, hs⟩
  replace hB := below_step hB hs
  clear hs hA8 hg8
  refine ⟨_, rfl, ?_⟩
  refine hK.out _ _ trivial (fun hHeld => ?_)
  clear hK K
  refine norm_ (a' := ?_) ?_ ?_
  rotate_left
  · show Act.put _ (some 161) _ = _
    simp only [Act.put, List.setIfInBounds_toArray, List.set_cons_zero, List.set_cons_succ, i64_w, i32_w]
    rfl
  refine pure_ (i := 3) (N := some 158) (v := ?_) (a' := ?_) #[true, true, true, true, false, false, false] rfl rfl (by kernel_rfl) (fun _ _ _ h => h) (Or.inl ⟨by rfl, ?_⟩) ?_ ?_
  rotate_left
  · intro w'
    go_simp
    with_reducible rfl
  rotate_left
  · simp only [Act.put, List.setIfInBounds_toArray, List.set_cons_zero, List.set_cons_succ, i64_w, i32_w]
    rfl
  refine pure_ (i := 4) (N := some 162) (v := ?_) (a' := ?_) #[true, true, true, true, true, false, false] rfl rfl (by kernel_rfl) (fun _ _ _ h => h) (Or.inl ⟨by rfl, ?_⟩) ?_ ?_
  rotate_left
  · intro w'
    go_simp
    with_reducible rfl
  rotate_left
  · simp only [Act.put, List.setIfInBounds_toArray, List.set_cons_zero, List.set_cons_succ, i64_w, i32_w]
    rfl
  refine pure_ (i := 5) (N := some 163) (v := ?_) (a' := ?_) #[true, true, true, true, true, true, false] rfl rfl (by kernel_rfl) (fun _ _ _ h => h) (Or.inl ⟨by rfl, ?_⟩) ?_ ?_
  rotate_left
  · intro w'
    go_simp
    with_reducible rfl
  rotate_left
  · simp only [Act.put, List.setIfInBounds_toArray, List.set_cons_zero, List.set_cons_succ, i64_w, i32_w]
    rfl
  refine pure_ (i := 6) (N := some 8) (v := ?_) (a' := ?_) #[true, true, true, true, true, true, true] rfl rfl (by kernel_rfl) (fun _ _ _ h => h) (Or.inl ⟨by rfl, ?_⟩) ?_ ?_
  rotate_left
  · intro w'
    go_simp
    with_reducible rfl
  rotate_left
  · simp only [Act.put, List.setIfInBounds_toArray, List.set_cons_zero, List.set_cons_succ, i64_w, i32_w]
    rfl
  refine done_ (by kernel_rfl) ?_
  have HW9 := Lib.hid (below_step HW7.out hB)
  clear hHeld hB HW7
  go_wp2_with fail
  refine (sawn_calls _).mono ?_
  rintro e w1 ⟨gb1, ge1, rfl, hB1, hE1, hl1, hm1, hb1⟩
  go_wp2_with fail
  refine (sawn_calls _).mono ?_
  rintro e w2 ⟨gb2, ge2, rfl, hB2, hE2, hl2, hm2, hb2⟩
  go_wp2_with fail
  refine (sawn_calls _).mono ?_
  rintro e w3 ⟨gb3, ge3, rfl, hB3, hE3, hl3, hm3, hb3⟩
  obtain ⟨⟨k1, k2, k3⟩, ⟨k4, k5⟩, ⟨k6, k7, k8⟩, hsp⟩ := spoil HW9.out hB1 hE1 hl1 hm1 hb1 hB2 hE2 hl2 hm2 hb2 hB3 hE3 hl3 hm3 hb3
  unfold spC spB spA at k6 k7 k8
  unfold spB spA at k4 k5
  unfold spA at k1 k2 k3
  have HSP := Lib.hid hsp
  clear hsp hB1 hE1 hl1 hm1 hb1 hB2 hE2 hl2 hm2 hb2 hB3 hE3 hl3 hm3 hb3 HW9
  go_wp2
  clear k1 k2 k3 k4 k5 k6 k7 k8
  obtain ⟨V13, hV⟩ : ∃ V13, spD w3 gb1 ge1 gb2 ge2 gb3 ge3 = V13 := ⟨_, rfl⟩
  rw [hV] at HSP
  unfold spD spC spB spA at hV
  rw [hV]
  clear hV
  have hB : Below V13.heap.size V13 V13.drew := below_drew1 (Below.refl _ _)
  refine start_ (n := 9) (S := fun w' => w'.cell? ⟨w3.heap.size, 0, none⟩ = some (.slice (some ⟨gb1, 0, none⟩) 2 2) ∧ w'.cell? ⟨w3.heap.size, 1, none⟩ = some (.slice (some ⟨ge1, 0, none⟩) 3 3)) (ds := [7]) #[false, false, false, false, false, false, false, false, false] (by kernel_rfl) rfl rfl ⟨(blk_cell (HSP.out.step hB).b1 0).trans rfl, (blk_cell (HSP.out.step hB).b1 1).trans rfl⟩ (fun hHeld => ?_)
  refine take_ (i := 1) (N := some 179) (v := ?_) (a' := ?_) #[false, true, false, false, false, false, false, false, false] rfl rfl (by kernel_rfl) (fun _ _ _ h => h) (Or.inl ⟨by rfl, ?_⟩) hHeld ?_ ?_
  rotate_left
  · rintro w' ⟨s0, s1⟩
    go_simp
    with_reducible rfl
  rotate_left
  · simp only [Act.put, List.setIfInBounds_toArray, List.set_cons_zero, List.set_cons_succ, i64_w, i32_w]
    rfl
  refine join_ (σ := Option Addr × Nat) 2 #[true, true, true, true, true, true, true, false, false] (fun s => [(178, .agg #[.int .i64 6, .int .i64 4, .int .i64 1, .slice s.1 3 3]), (180, .tuple #[.agg #[.int .i64 0, .int .i64 0, .int .i64 0, .int .i64 0], .int .i64 2]), (177, .tuple #[.agg #[.int .i64 0, .int .i64 0, .int .i64 0, .int .i64 0], .int .i64 2]), (181, .agg #[.int .i64 0, .int .i64 0, .int .i64 0, .int .i64 0]), (182, .int .i64 2), (13, .pointer (some ⟨s.2, 0, none⟩))]) (fun s w' => w'.heap[s.2]? = some (.cells #[.int .i64 0, .int .i64 0, .int .i64 0, .int .i64 0] 49 (0, 0)) ∧ V13.heap.size ≤ s.2 ∧ Below V13.heap.size V13 w') ?_ ?_
  rotate_left
  · intro hCont
    refine two_ (i := 0) (j := 6) (Ni := some 178) (Nj := some 13) #[true, true, false, false, false, false, false, false, false] #[false, true, false, false, false, false, true, false, false] rfl rfl rfl rfl (by kernel_rfl) (by decide) (by decide) (fun K hK => ?_) (fun K hK => ?_)
    · skip
      refine goes_ Try.func51 (by kernel_rfl) rfl #[] (by rfl) rfl rfl (by simp only [List.map_toArray, List.map_cons, List.map_nil]) ?_
      with_reducible refine (sheet_calls _).mono ?_
      rintro e V8 ⟨A8, rfl, hA8, hs⟩
      replace hB := below_step hB hs
      clear hs
      refine ⟨_, rfl, ?_⟩
      refine hK.out _ _ ⟨(blk_cell (HSP.out.step hB).b1 0).trans rfl, (blk_cell (HSP.out.step hB).b1 1).trans rfl⟩ (fun hHeld => ?_)
      clear hK K
      refine norm_ (a' := ?_) ?_ ?_
      rotate_left
      · show Act.put _ (some 178) _ = _
        simp only [Act.put, List.setIfInBounds_toArray, List.set_cons_zero, List.set_cons_succ, i64_w, i32_w]
        rfl
      refine two_ (i := 2) (j := 6) (Ni := some 180) (Nj := some 13) #[true, true, true, false, false, false, false, false, false] #[true, true, false, false, false, false, true, false, false] rfl rfl rfl rfl (by kernel_rfl) (by decide) (by decide) (fun K hK => ?_) (fun K hK => ?_)
      · skip
        refine goes_ Try.func26 (by kernel_rfl) rfl #[.agg #[.int .i64 6, .int .i64 4, .int .i64 1, .slice A8 3 3], .agg #[.slice (some ⟨gb1, 0, none⟩) 2 2, .slice (some ⟨ge1, 0, none⟩) 3 3]] (by rfl) rfl rfl (by simp only [List.map_toArray, List.map_cons, List.map_nil]; rfl) ?_
        with_reducible refine (weigh_at hA8 (cut2 (HSP.out.step hB).c1) (use3 (HSP.out.step hB).u1) rfl rfl (by omega) (by omega) nm_away).mono ?_
        rintro e V9 ⟨rfl, hs⟩
        replace hB := below_step hB hs
        clear hA8
        clear hs
        refine ⟨_, rfl, ?_⟩
        refine hK.out _ _ ⟨(blk_cell (HSP.out.step hB).b1 0).trans rfl, (blk_cell (HSP.out.step hB).b1 1).trans rfl⟩ (fun hHeld => ?_)
        clear hK K
        refine norm_ (a' := ?_) ?_ ?_
        rotate_left
        · show Act.put _ (some 180) _ = _
          simp only [Act.put, List.setIfInBounds_toArray, List.set_cons_zero, List.set_cons_succ, i64_w, i32_w]
          rfl
        refine pure_ (i := 3) (N := some 177) (v := ?_) (a' := ?_) #[true, true, true, true, false, false, false, false, false] rfl rfl (by kernel_rfl) (fun _ _ _ h => h) (Or.inl ⟨by rfl, ?_⟩) ?_ ?_
        rotate_left
        · intro w'
          go_simp
          with_reducible rfl
        rotate_left
        · simp only [Act.put, List.setIfInBounds_toArray, List.set_cons_zero, List.set_cons_succ, i64_w, i32_w]
          rfl
        refine pure_ (i := 4) (N := some 181) (v := ?_) (a' := ?_) #[true, true, true, true, true, false, false, false, false] rfl rfl (by kernel_rfl) (fun _ _ _ h => h) (Or.inl ⟨by rfl, ?_⟩) ?_ ?_
        rotate_left
        · intro w'
          go_simp
          with_reducible rfl
        rotate_left
        · simp only [Act.put, List.setIfInBounds_toArray, List.set_cons_zero, List.set_cons_succ, i64_w, i32_w]
          rfl
        refine pure_ (i := 5) (N := some 182) (v := ?_) (a' := ?_) #[true, true, true, true, true, true, false, false, false] rfl rfl (by kernel_rfl) (fun _ _ _ h => h) (Or.inl ⟨by rfl, ?_⟩) ?_ ?_
        rotate_left
        · intro w'
          go_simp
          with_reducible rfl
        rotate_left
        · simp only [Act.put, List.setIfInBounds_toArray, List.set_cons_zero, List.set_cons_succ, i64_w, i32_w]
          rfl
        refine one_ (i := 6) (N := some 13) #[true, true, true, true, true, true, true, false, false] rfl rfl (by kernel_rfl) (by decide) (fun K hK => ?_)
        refine pbox_ (.cells #[.int .i64 0, .int .i64 0, .int .i64 0, .int .i64 0] 49 (0, 0)) (by rfl) rfl ?_ ?_
        · first | (go_simp; done) | (go_simp; rfl)
        intro g8 V10 hg8 hl8 hs
        replace hl8 : V13.heap.size ≤ g8 := by have := hB.size; omega
        replace hB := below_step hB hs
        clear hs
        refine hK.out _ _ ⟨(blk_cell (HSP.out.step hB).b1 0).trans rfl, (blk_cell (HSP.out.step hB).b1 1).trans rfl⟩ (fun hHeld => ?_)
        clear hK K
        refine norm_ (a' := ?_) ?_ ?_
        rotate_left
        · show Act.put _ (some 13) _ = _
          simp only [Act.put, List.setIfInBounds_toArray, List.set_cons_zero, List.set_cons_succ, i64_w, i32_w]
          rfl
        exact norm_ (by simp only [putAll, Act.put, List.setIfInBounds_toArray, List.set_cons_zero, List.set_cons_succ]) (hCont (A8, g8) _ ⟨hg8, hl8, hB⟩)
      · skip
        refine pbox_ (.cells #[.int .i64 0, .int .i64 0, .int .i64 0, .int .i64 0] 49 (0, 0)) (by rfl) rfl ?_ ?_
        · first | (go_simp; done) | (go_simp; rfl)
        intro g8 V10 hg8 hl8 hs
        replace hl8 : V13.heap.size ≤ g8 := by have := hB.size; omega
        replace hB := below_step hB hs
        replace hA8 := Kd.C_below hA8 hs
        clear hs
        refine hK.out _ _ ⟨(blk_cell (HSP.out.step hB).b1 0).trans rfl, (blk_cell (HSP.out.step hB).b1 1).trans rfl⟩ (fun hHeld => ?_)
        clear hK K
        refine norm_ (a' := ?_) ?_ ?_
        rotate_left
        · show Act.put _ (some 13) _ = _
          simp only [Act.put, List.setIfInBounds_toArray, List.set_cons_zero, List.set_cons_succ, i64_w, i32_w]
          rfl
        refine one_ (i := 2) (N := some 180) #[true, true, true, false, false, false, true, false, false] rfl rfl (by kernel_rfl) (by decide) (fun K hK => ?_)
        refine goes_ Try.func26 (by kernel_rfl) rfl #[.agg #[.int .i64 6, .int .i64 4, .int .i64 1, .slice A8 3 3], .agg #[.slice (some ⟨gb1, 0, none⟩) 2 2, .slice (some ⟨ge1, 0, none⟩) 3 3]] (by rfl) rfl rfl (by simp only [List.map_toArray, List.map_cons, List.map_nil]; rfl) ?_
        with_reducible refine (weigh_at hA8 (cut2 (HSP.out.step hB).c1) (use3 (HSP.out.step hB).u1) rfl rfl (by omega) (by omega) nm_away).mono ?_
        rintro e V9 ⟨rfl, hs⟩
        replace hB := below_step hB hs
        clear hA8
        replace hg8 := blk_below hg8 hs
        clear hs
        refine ⟨_, rfl, ?_⟩
        refine hK.out _ _ ⟨(blk_cell (HSP.out.step hB).b1 0).trans rfl, (blk_cell (HSP.out.step hB).b1 1).trans rfl⟩ (fun hHeld => ?_)
        clear hK K
        refine norm_ (a' := ?_) ?_ ?_
        rotate_left
        · show Act.put _ (some 180) _ = _
          simp only [Act.put, List.setIfInBounds_toArray, List.set_cons_zero, List.set_cons_succ, i64_w, i32_w]
          rfl
        refine pure_ (i := 3) (N := some 177) (v := ?_) (a' := ?_) #[true, true, true, true, false, false, true, false, false] rfl rfl (by kernel_rfl) (fun _ _ _ h => h) (Or.inl ⟨by rfl, ?_⟩) ?_ ?_
        rotate_left
        · intro w'
          go_simp
          with_reducible rfl
        rotate_left
        · simp only [Act.put, List.setIfInBounds_toArray, List.set_cons_zero, List.set_cons_succ, i64_w, i32_w]
          rfl
        refine pure_ (i := 4) (N := some 181) (v := ?_) (a' := ?_) #[true, true, true, true, true, false, true, false, false] rfl rfl (by kernel_rfl) (fun _ _ _ h => h) (Or.inl ⟨by rfl, ?_⟩) ?_ ?_
        rotate_left
        · intro w'
          go_simp
          with_reducible rfl
        rotate_left
        · simp only [Act.put, List.setIfInBounds_toArray, List.set_cons_zero, List.set_cons_succ, i64_w, i32_w]
          rfl
        refine pure_ (i := 5) (N := some 182) (v := ?_) (a' := ?_) #[true, true, true, true, true, true, true, false, false] rfl rfl (by kernel_rfl) (fun _ _ _ h => h) (Or.inl ⟨by rfl, ?_⟩) ?_ ?_
        rotate_left
        · intro w'
          go_simp
          with_reducible rfl
        rotate_left
        · simp only [Act.put, List.setIfInBounds_toArray, List.set_cons_zero, List.set_cons_succ, i64_w, i32_w]
          rfl
        exact norm_ (by simp only [putAll, Act.put, List.setIfInBounds_toArray, List.set_cons_zero, List.set_cons_succ]) (hCont (A8, g8) _ ⟨hg8, hl8, hB⟩)
    · skip
      refine pbox_ (.cells #[.int .i64 0, .int .i64 0, .int .i64 0, .int .i64 0] 49 (0, 0)) (by rfl) rfl ?_ ?_
      · first | (go_simp; done) | (go_simp; rfl)
      intro g8 V10 hg8 hl8 hs
      replace hl8 : V13.heap.size ≤ g8 := by have := hB.size; omega
      replace hB := below_step hB hs
      clear hs
      refine hK.out _ _ ⟨(blk_cell (HSP.out.step hB).b1 0).trans rfl, (blk_cell (HSP.out.step hB).b1 1).trans rfl⟩ (fun hHeld => ?_)
      clear hK K
      refine norm_ (a' := ?_) ?_ ?_
      rotate_left
      · show Act.put _ (some 13) _ = _
        simp only [Act.put, List.setIfInBounds_toArray, List.set_cons_zero, List.set_cons_succ, i64_w, i32_w]
        rfl
      refine one_ (i := 0) (N := some 178) #[true, true, false, false, false, false, true, false, false] rfl rfl (by kernel_rfl) (by decide) (fun K hK => ?_)
      refine goes_ Try.func51 (by kernel_rfl) rfl #[] (by rfl) rfl rfl (by simp only [List.map_toArray, List.map_cons, List.map_nil]) ?_
      with_reducible refine (sheet_calls _).mono ?_
      rintro e V8 ⟨A8, rfl, hA8, hs⟩
      replace hB := below_step hB hs
      replace hg8 := blk_below hg8 hs
      clear hs
      refine ⟨_, rfl, ?_⟩
      refine hK.out _ _ ⟨(blk_cell (HSP.out.step hB).b1 0).trans rfl, (blk_cell (HSP.out.step hB).b1 1).trans rfl⟩ (fun hHeld => ?_)
      clear hK K
      refine norm_ (a' := ?_) ?_ ?_
      rotate_left
      · show Act.put _ (some 178) _ = _
        simp only [Act.put, List.setIfInBounds_toArray, List.set_cons_zero, List.set_cons_succ, i64_w, i32_w]
        rfl
      refine one_ (i := 2) (N := some 180) #[true, true, true, false, false, false, true, false, false] rfl rfl (by kernel_rfl) (by decide) (fun K hK => ?_)
      refine goes_ Try.func26 (by kernel_rfl) rfl #[.agg #[.int .i64 6, .int .i64 4, .int .i64 1, .slice A8 3 3], .agg #[.slice (some ⟨gb1, 0, none⟩) 2 2, .slice (some ⟨ge1, 0, none⟩) 3 3]] (by rfl) rfl rfl (by simp only [List.map_toArray, List.map_cons, List.map_nil]; rfl) ?_
      with_reducible refine (weigh_at hA8 (cut2 (HSP.out.step hB).c1) (use3 (HSP.out.step hB).u1) rfl rfl (by omega) (by omega) nm_away).mono ?_
      rintro e V9 ⟨rfl, hs⟩
      replace hB := below_step hB hs
      clear hA8
      replace hg8 := blk_below hg8 hs
      clear hs
      refine ⟨_, rfl, ?_⟩
      refine hK.out _ _ ⟨(blk_cell (HSP.out.step hB).b1 0).trans rfl, (blk_cell (HSP.out.step hB).b1 1).trans rfl⟩ (fun hHeld => ?_)
      clear hK K
      refine norm_ (a' := ?_) ?_ ?_
      rotate_left
      · show Act.put _ (some 180) _ = _
        simp only [Act.put, List.setIfInBounds_toArray, List.set_cons_zero, List.set_cons_succ, i64_w, i32_w]
        rfl
      refine pure_ (i := 3) (N := some 177) (v := ?_) (a' := ?_) #[true, true, true, true, false, false, true, false, false] rfl rfl (by kernel_rfl) (fun _ _ _ h => h) (Or.inl ⟨by rfl, ?_⟩) ?_ ?_
      rotate_left
      · intro w'
        go_simp
        with_reducible rfl
      rotate_left
      · simp only [Act.put, List.setIfInBounds_toArray, List.set_cons_zero, List.set_cons_succ, i64_w, i32_w]
        rfl
      refine pure_ (i := 4) (N := some 181) (v := ?_) (a' := ?_) #[true, true, true, true, true, false, true, false, false] rfl rfl (by kernel_rfl) (fun _ _ _ h => h) (Or.inl ⟨by rfl, ?_⟩) ?_ ?_
      rotate_left
      · intro w'
        go_simp
        with_reducible rfl
      rotate_left
      · simp only [Act.put, List.setIfInBounds_toArray, List.set_cons_zero, List.set_cons_succ, i64_w, i32_w]
        rfl
      refine pure_ (i := 5) (N := some 182) (v := ?_) (a' := ?_) #[true, true, true, true, true, true, true, false, false] rfl rfl (by kernel_rfl) (fun _ _ _ h => h) (Or.inl ⟨by rfl, ?_⟩) ?_ ?_
      rotate_left
      · intro w'
        go_simp
        with_reducible rfl
      rotate_left
      · simp only [Act.put, List.setIfInBounds_toArray, List.set_cons_zero, List.set_cons_succ, i64_w, i32_w]
        rfl
      exact norm_ (by simp only [putAll, Act.put, List.setIfInBounds_toArray, List.set_cons_zero, List.set_cons_succ]) (hCont (A8, g8) _ ⟨hg8, hl8, hB⟩)
  clear hHeld hB
  rintro ⟨A8, g8⟩ V11 ⟨hg8, hl8, hB⟩
  have hHeld : V11.cell? ⟨w3.heap.size, 0, none⟩ = some (.slice (some ⟨gb1, 0, none⟩) 2 2) ∧ V11.cell? ⟨w3.heap.size, 1, none⟩ = some (.slice (some ⟨ge1, 0, none⟩) 3 3) := ⟨(blk_cell (HSP.out.step hB).b1 0).trans rfl, (blk_cell (HSP.out.step hB).b1 1).trans rfl⟩
  refine norm_ (a' := ?_) ?_ ?_
  rotate_left
  · simp only [putAll, Act.put, List.setIfInBounds_toArray, List.set_cons_zero, List.set_cons_succ]
    rfl
  refine last_ (i := 7) (N := none) #[true, true, true, true, true, true, true, true, false] rfl rfl (by kernel_rfl) (by decide) (fun K hK => ?_)
  have hk0 : (V11).cell? ⟨g8, 0, none⟩ = some (.int .i64 0) := (blk_cell hg8 0).trans rfl; have hkf0 : (V11).frozen? ⟨g8, 0, none⟩ = false := blk_frozen hg8 0; have hk1 : (V11).cell? ⟨g8, 1, none⟩ = some (.int .i64 0) := (blk_cell hg8 1).trans rfl; have hkf1 : (V11).frozen? ⟨g8, 1, none⟩ = false := blk_frozen hg8 1; have hk2 : (V11).cell? ⟨g8, 2, none⟩ = some (.int .i64 0) := (blk_cell hg8 2).trans rfl; have hkf2 : (V11).frozen? ⟨g8, 2, none⟩ = false := blk_frozen hg8 2; have hk3 : (V11).cell? ⟨g8, 3, none⟩ = some (.int .i64 0) := (blk_cell hg8 3).trans rfl; have hkf3 : (V11).frozen? ⟨g8, 3, none⟩ = false := blk_frozen hg8 3
  refine skip_ (w1 := ?_) (by rfl) rfl ?_ ?_
  rotate_left
  · go_simp
    rfl
  refine hK.out _ _ ?_
  clear hK K
  refine pure_ (i := 8) (N := some 14) (v := ?_) (a' := ?_) #[true, true, true, true, true, true, true, true, true] rfl rfl (by kernel_rfl) (fun _ _ _ h => h) (Or.inl ⟨by rfl, ?_⟩) ?_ ?_
  rotate_left
  · intro w'
    go_simp
    with_reducible rfl
  rotate_left
  · simp only [Act.put, List.setIfInBounds_toArray, List.set_cons_zero, List.set_cons_succ, i64_w, i32_w]
    rfl
  refine done_ (by kernel_rfl) ?_
  have hB2 := put4_below (a := .int .i64 0) (b := .int .i64 0) (c := .int .i64 0) (d := .int .i64 0) hB hl8
  obtain ⟨V14, hV⟩ : ∃ V2, put4 V11 g8 (.int .i64 0) (.int .i64 0) (.int .i64 0) (.int .i64 0) = V2 := ⟨_, rfl⟩
  rw [hV] at hB2
  unfold put4 at hV
  rw [hV]
  have HSQ := Lib.hid (HSP.out.step hB2)
  clear hV hB2 hB hl8 hg8 hHeld HSP hk0 hk1 hk2 hk3 hkf0 hkf1 hkf2 hkf3
  have HSP := HSQ
  clear HSQ
  go_wp2
  have hB : Below V14.heap.size V14 V14.drew := below_drew1 (Below.refl _ _)
  refine start_ (n := 9) (S := fun w' => w'.cell? ⟨w3.heap.size + 1, 0, none⟩ = some (.slice (some ⟨gb2, 0, none⟩) 2 2) ∧ w'.cell? ⟨w3.heap.size + 1, 1, none⟩ = some (.slice (some ⟨ge2, 0, none⟩) 2 3)) (ds := [7]) #[false, false, false, false, false, false, false, false, false] (by kernel_rfl) rfl rfl ⟨(blk_cell (HSP.out.step hB).b2 0).trans rfl, (blk_cell (HSP.out.step hB).b2 1).trans rfl⟩ (fun hHeld => ?_)
  refine take_ (i := 1) (N := some 185) (v := ?_) (a' := ?_) #[false, true, false, false, false, false, false, false, false] rfl rfl (by kernel_rfl) (fun _ _ _ h => h) (Or.inl ⟨by rfl, ?_⟩) hHeld ?_ ?_
  rotate_left
  · rintro w' ⟨s0, s1⟩
    go_simp
    with_reducible rfl
  rotate_left
  · simp only [Act.put, List.setIfInBounds_toArray, List.set_cons_zero, List.set_cons_succ, i64_w, i32_w]
    rfl
  refine join_ (σ := Option Addr × Nat) 2 #[true, true, true, true, true, true, true, false, false] (fun s => [(184, .agg #[.int .i64 6, .int .i64 4, .int .i64 1, .slice s.1 3 3]), (186, .tuple #[.agg #[.int .i64 0, .int .i64 0, .int .i64 0, .int .i64 0], .int .i64 2]), (183, .tuple #[.agg #[.int .i64 0, .int .i64 0, .int .i64 0, .int .i64 0], .int .i64 2]), (187, .agg #[.int .i64 0, .int .i64 0, .int .i64 0, .int .i64 0]), (188, .int .i64 2), (15, .pointer (some ⟨s.2, 0, none⟩))]) (fun s w' => w'.heap[s.2]? = some (.cells #[.int .i64 0, .int .i64 0, .int .i64 0, .int .i64 0] 49 (0, 0)) ∧ V14.heap.size ≤ s.2 ∧ Below V14.heap.size V14 w') ?_ ?_
  rotate_left
  · intro hCont
    refine two_ (i := 0) (j := 6) (Ni := some 184) (Nj := some 15) #[true, true, false, false, false, false, false, false, false] #[false, true, false, false, false, false, true, false, false] rfl rfl rfl rfl (by kernel_rfl) (by decide) (by decide) (fun K hK => ?_) (fun K hK => ?_)
    · skip
      refine goes_ Try.func51 (by kernel_rfl) rfl #[] (by rfl) rfl rfl (by simp only [List.map_toArray, List.map_cons, List.map_nil]) ?_
      with_reducible refine (sheet_calls _).mono ?_
      rintro e V8 ⟨A8, rfl, hA8, hs⟩
      replace hB := below_step hB hs
      clear hs
      refine ⟨_, rfl, ?_⟩
      refine hK.out _ _ ⟨(blk_cell (HSP.out.step hB).b2 0).trans rfl, (blk_cell (HSP.out.step hB).b2 1).trans rfl⟩ (fun hHeld => ?_)
      clear hK K
      refine norm_ (a' := ?_) ?_ ?_
      rotate_left
      · show Act.put _ (some 184) _ = _
        simp only [Act.put, List.setIfInBounds_toArray, List.set_cons_zero, List.set_cons_succ, i64_w, i32_w]
        rfl
      refine two_ (i := 2) (j := 6) (Ni := some 186) (Nj := some 15) #[true, true, true, false, false, false, false, false, false] #[true, true, false, false, false, false, true, false, false] rfl rfl rfl rfl (by kernel_rfl) (by decide) (by decide) (fun K hK => ?_) (fun K hK => ?_)
      · skip
        refine goes_ Try.func26 (by kernel_rfl) rfl #[.agg #[.int .i64 6, .int .i64 4, .int .i64 1, .slice A8 3 3], .agg #[.slice (some ⟨gb2, 0, none⟩) 2 2, .slice (some ⟨ge2, 0, none⟩) 2 3]] (by rfl) rfl rfl (by simp only [List.map_toArray, List.map_cons, List.map_nil]; rfl) ?_
        with_reducible refine (weigh_at hA8 (cut2 (HSP.out.step hB).c2) (use2 (HSP.out.step hB).u2) rfl rfl (by omega) (by omega) nm_few).mono ?_
        rintro e V9 ⟨rfl, hs⟩
        replace hB := below_step hB hs
        clear hA8
        clear hs
        refine ⟨_, rfl, ?_⟩
        refine hK.out _ _ ⟨(blk_cell (HSP.out.step hB).b2 0).trans rfl, (blk_cell (HSP.out.step hB).b2 1).trans rfl⟩ (fun hHeld => ?_)
        clear hK K
        refine norm_ (a' := ?_) ?_ ?_
        rotate_left
        · show Act.put _ (some 186) _ = _
          simp only [Act.put, List.setIfInBounds_toArray, List.set_cons_zero, List.set_cons_succ, i64_w, i32_w]
          rfl
        refine pure_ (i := 3) (N := some 183) (v := ?_) (a' := ?_) #[true, true, true, true, false, false, false, false, false] rfl rfl (by kernel_rfl) (fun _ _ _ h => h) (Or.inl ⟨by rfl, ?_⟩) ?_ ?_
        rotate_left
        · intro w'
          go_simp
          with_reducible rfl
        rotate_left
        · simp only [Act.put, List.setIfInBounds_toArray, List.set_cons_zero, List.set_cons_succ, i64_w, i32_w]
          rfl
        refine pure_ (i := 4) (N := some 187) (v := ?_) (a' := ?_) #[true, true, true, true, true, false, false, false, false] rfl rfl (by kernel_rfl) (fun _ _ _ h => h) (Or.inl ⟨by rfl, ?_⟩) ?_ ?_
        rotate_left
        · intro w'
          go_simp
          with_reducible rfl
        rotate_left
        · simp only [Act.put, List.setIfInBounds_toArray, List.set_cons_zero, List.set_cons_succ, i64_w, i32_w]
          rfl
        refine pure_ (i := 5) (N := some 188) (v := ?_) (a' := ?_) #[true, true, true, true, true, true, false, false, false] rfl rfl (by kernel_rfl) (fun _ _ _ h => h) (Or.inl ⟨by rfl, ?_⟩) ?_ ?_
        rotate_left
        · intro w'
          go_simp
          with_reducible rfl
        rotate_left
        · simp only [Act.put, List.setIfInBounds_toArray, List.set_cons_zero, List.set_cons_succ, i64_w, i32_w]
          rfl
        refine one_ (i := 6) (N := some 15) #[true, true, true, true, true, true, true, false, false] rfl rfl (by kernel_rfl) (by decide) (fun K hK => ?_)
        refine pbox_ (.cells #[.int .i64 0, .int .i64 0, .int .i64 0, .int .i64 0] 49 (0, 0)) (by rfl) rfl ?_ ?_
        · first | (go_simp; done) | (go_simp; rfl)
        intro g8 V10 hg8 hl8 hs
        replace hl8 : V14.heap.size ≤ g8 := by have := hB.size; omega
        replace hB := below_step hB hs
        clear hs
        refine hK.out _ _ ⟨(blk_cell (HSP.out.step hB).b2 0).trans rfl, (blk_cell (HSP.out.step hB).b2 1).trans rfl⟩ (fun hHeld => ?_)
        clear hK K
        refine norm_ (a' := ?_) ?_ ?_
        rotate_left
        · show Act.put _ (some 15) _ = _
          simp only [Act.put, List.setIfInBounds_toArray, List.set_cons_zero, List.set_cons_succ, i64_w, i32_w]
          rfl
        exact norm_ (by simp only [putAll, Act.put, List.setIfInBounds_toArray, List.set_cons_zero, List.set_cons_succ]) (hCont (A8, g8) _ ⟨hg8, hl8, hB⟩)
      · skip
        refine pbox_ (.cells #[.int .i64 0, .int .i64 0, .int .i64 0, .int .i64 0] 49 (0, 0)) (by rfl) rfl ?_ ?_
        · first | (go_simp; done) | (go_simp; rfl)
        intro g8 V10 hg8 hl8 hs
        replace hl8 : V14.heap.size ≤ g8 := by have := hB.size; omega
        replace hB := below_step hB hs
        replace hA8 := Kd.C_below hA8 hs
        clear hs
        refine hK.out _ _ ⟨(blk_cell (HSP.out.step hB).b2 0).trans rfl, (blk_cell (HSP.out.step hB).b2 1).trans rfl⟩ (fun hHeld => ?_)
        clear hK K
        refine norm_ (a' := ?_) ?_ ?_
        rotate_left
        · show Act.put _ (some 15) _ = _
          simp only [Act.put, List.setIfInBounds_toArray, List.set_cons_zero, List.set_cons_succ, i64_w, i32_w]
          rfl
        refine one_ (i := 2) (N := some 186) #[true, true, true, false, false, false, true, false, false] rfl rfl (by kernel_rfl) (by decide) (fun K hK => ?_)
        refine goes_ Try.func26 (by kernel_rfl) rfl #[.agg #[.int .i64 6, .int .i64 4, .int .i64 1, .slice A8 3 3], .agg #[.slice (some ⟨gb2, 0, none⟩) 2 2, .slice (some ⟨ge2, 0, none⟩) 2 3]] (by rfl) rfl rfl (by simp only [List.map_toArray, List.map_cons, List.map_nil]; rfl) ?_
        with_reducible refine (weigh_at hA8 (cut2 (HSP.out.step hB).c2) (use2 (HSP.out.step hB).u2) rfl rfl (by omega) (by omega) nm_few).mono ?_
        rintro e V9 ⟨rfl, hs⟩
        replace hB := below_step hB hs
        clear hA8
        replace hg8 := blk_below hg8 hs
        clear hs
        refine ⟨_, rfl, ?_⟩
        refine hK.out _ _ ⟨(blk_cell (HSP.out.step hB).b2 0).trans rfl, (blk_cell (HSP.out.step hB).b2 1).trans rfl⟩ (fun hHeld => ?_)
        clear hK K
        refine norm_ (a' := ?_) ?_ ?_
        rotate_left
        · show Act.put _ (some 186) _ = _
          simp only [Act.put, List.setIfInBounds_toArray, List.set_cons_zero, List.set_cons_succ, i64_w, i32_w]
          rfl
        refine pure_ (i := 3) (N := some 183) (v := ?_) (a' := ?_) #[true, true, true, true, false, false, true, false, false] rfl rfl (by kernel_rfl) (fun _ _ _ h => h) (Or.inl ⟨by rfl, ?_⟩) ?_ ?_
        rotate_left
        · intro w'
          go_simp
          with_reducible rfl
        rotate_left
        · simp only [Act.put, List.setIfInBounds_toArray, List.set_cons_zero, List.set_cons_succ, i64_w, i32_w]
          rfl
        refine pure_ (i := 4) (N := some 187) (v := ?_) (a' := ?_) #[true, true, true, true, true, false, true, false, false] rfl rfl (by kernel_rfl) (fun _ _ _ h => h) (Or.inl ⟨by rfl, ?_⟩) ?_ ?_
        rotate_left
        · intro w'
          go_simp
          with_reducible rfl
        rotate_left
        · simp only [Act.put, List.setIfInBounds_toArray, List.set_cons_zero, List.set_cons_succ, i64_w, i32_w]
          rfl
        refine pure_ (i := 5) (N := some 188) (v := ?_) (a' := ?_) #[true, true, true, true, true, true, true, false, false] rfl rfl (by kernel_rfl) (fun _ _ _ h => h) (Or.inl ⟨by rfl, ?_⟩) ?_ ?_
        rotate_left
        · intro w'
          go_simp
          with_reducible rfl
        rotate_left
        · simp only [Act.put, List.setIfInBounds_toArray, List.set_cons_zero, List.set_cons_succ, i64_w, i32_w]
          rfl
        exact norm_ (by simp only [putAll, Act.put, List.setIfInBounds_toArray, List.set_cons_zero, List.set_cons_succ]) (hCont (A8, g8) _ ⟨hg8, hl8, hB⟩)
    · skip
      refine pbox_ (.cells #[.int .i64 0, .int .i64 0, .int .i64 0, .int .i64 0] 49 (0, 0)) (by rfl) rfl ?_ ?_
      · first | (go_simp; done) | (go_simp; rfl)
      intro g8 V10 hg8 hl8 hs
      replace hl8 : V14.heap.size ≤ g8 := by have := hB.size; omega
      replace hB := below_step hB hs
      clear hs
      refine hK.out _ _ ⟨(blk_cell (HSP.out.step hB).b2 0).trans rfl, (blk_cell (HSP.out.step hB).b2 1).trans rfl⟩ (fun hHeld => ?_)
      clear hK K
      refine norm_ (a' := ?_) ?_ ?_
      rotate_left
      · show Act.put _ (some 15) _ = _
        simp only [Act.put, List.setIfInBounds_toArray, List.set_cons_zero, List.set_cons_succ, i64_w, i32_w]
        rfl
      refine one_ (i := 0) (N := some 184) #[true, true, false, false, false, false, true, false, false] rfl rfl (by kernel_rfl) (by decide) (fun K hK => ?_)
      refine goes_ Try.func51 (by kernel_rfl) rfl #[] (by rfl) rfl rfl (by simp only [List.map_toArray, List.map_cons, List.map_nil]) ?_
      with_reducible refine (sheet_calls _).mono ?_
      rintro e V8 ⟨A8, rfl, hA8, hs⟩
      replace hB := below_step hB hs
      replace hg8 := blk_below hg8 hs
      clear hs
      refine ⟨_, rfl, ?_⟩
      refine hK.out _ _ ⟨(blk_cell (HSP.out.step hB).b2 0).trans rfl, (blk_cell (HSP.out.step hB).b2 1).trans rfl⟩ (fun hHeld => ?_)
      clear hK K
      refine norm_ (a' := ?_) ?_ ?_
      rotate_left
      · show Act.put _ (some 184) _ = _
        simp only [Act.put, List.setIfInBounds_toArray, List.set_cons_zero, List.set_cons_succ, i64_w, i32_w]
        rfl
      refine one_ (i := 2) (N := some 186) #[true, true, true, false, false, false, true, false, false] rfl rfl (by kernel_rfl) (by decide) (fun K hK => ?_)
      refine goes_ Try.func26 (by kernel_rfl) rfl #[.agg #[.int .i64 6, .int .i64 4, .int .i64 1, .slice A8 3 3], .agg #[.slice (some ⟨gb2, 0, none⟩) 2 2, .slice (some ⟨ge2, 0, none⟩) 2 3]] (by rfl) rfl rfl (by simp only [List.map_toArray, List.map_cons, List.map_nil]; rfl) ?_
      with_reducible refine (weigh_at hA8 (cut2 (HSP.out.step hB).c2) (use2 (HSP.out.step hB).u2) rfl rfl (by omega) (by omega) nm_few).mono ?_
      rintro e V9 ⟨rfl, hs⟩
      replace hB := below_step hB hs
      clear hA8
      replace hg8 := blk_below hg8 hs
      clear hs
      refine ⟨_, rfl, ?_⟩
      refine hK.out _ _ ⟨(blk_cell (HSP.out.step hB).b2 0).trans rfl, (blk_cell (HSP.out.step hB).b2 1).trans rfl⟩ (fun hHeld => ?_)
      clear hK K
      refine norm_ (a' := ?_) ?_ ?_
      rotate_left
      · show Act.put _ (some 186) _ = _
        simp only [Act.put, List.setIfInBounds_toArray, List.set_cons_zero, List.set_cons_succ, i64_w, i32_w]
        rfl
      refine pure_ (i := 3) (N := some 183) (v := ?_) (a' := ?_) #[true, true, true, true, false, false, true, false, false] rfl rfl (by kernel_rfl) (fun _ _ _ h => h) (Or.inl ⟨by rfl, ?_⟩) ?_ ?_
      rotate_left
      · intro w'
        go_simp
        with_reducible rfl
      rotate_left
      · simp only [Act.put, List.setIfInBounds_toArray, List.set_cons_zero, List.set_cons_succ, i64_w, i32_w]
        rfl
      refine pure_ (i := 4) (N := some 187) (v := ?_) (a' := ?_) #[true, true, true, true, true, false, true, false, false] rfl rfl (by kernel_rfl) (fun _ _ _ h => h) (Or.inl ⟨by rfl, ?_⟩) ?_ ?_
      rotate_left
      · intro w'
        go_simp
        with_reducible rfl
      rotate_left
      · simp only [Act.put, List.setIfInBounds_toArray, List.set_cons_zero, List.set_cons_succ, i64_w, i32_w]
        rfl
      refine pure_ (i := 5) (N := some 188) (v := ?_) (a' := ?_) #[true, true, true, true, true, true, true, false, false] rfl rfl (by kernel_rfl) (fun _ _ _ h => h) (Or.inl ⟨by rfl, ?_⟩) ?_ ?_
      rotate_left
      · intro w'
        go_simp
        with_reducible rfl
      rotate_left
      · simp only [Act.put, List.setIfInBounds_toArray, List.set_cons_zero, List.set_cons_succ, i64_w, i32_w]
        rfl
      exact norm_ (by simp only [putAll, Act.put, List.setIfInBounds_toArray, List.set_cons_zero, List.set_cons_succ]) (hCont (A8, g8) _ ⟨hg8, hl8, hB⟩)
  clear hHeld hB
  rintro ⟨A8, g8⟩ V11 ⟨hg8, hl8, hB⟩
  have hHeld : V11.cell? ⟨w3.heap.size + 1, 0, none⟩ = some (.slice (some ⟨gb2, 0, none⟩) 2 2) ∧ V11.cell? ⟨w3.heap.size + 1, 1, none⟩ = some (.slice (some ⟨ge2, 0, none⟩) 2 3) := ⟨(blk_cell (HSP.out.step hB).b2 0).trans rfl, (blk_cell (HSP.out.step hB).b2 1).trans rfl⟩
  refine norm_ (a' := ?_) ?_ ?_
  rotate_left
  · simp only [putAll, Act.put, List.setIfInBounds_toArray, List.set_cons_zero, List.set_cons_succ]
    rfl
  refine last_ (i := 7) (N := none) #[true, true, true, true, true, true, true, true, false] rfl rfl (by kernel_rfl) (by decide) (fun K hK => ?_)
  have hk0 : (V11).cell? ⟨g8, 0, none⟩ = some (.int .i64 0) := (blk_cell hg8 0).trans rfl; have hkf0 : (V11).frozen? ⟨g8, 0, none⟩ = false := blk_frozen hg8 0; have hk1 : (V11).cell? ⟨g8, 1, none⟩ = some (.int .i64 0) := (blk_cell hg8 1).trans rfl; have hkf1 : (V11).frozen? ⟨g8, 1, none⟩ = false := blk_frozen hg8 1; have hk2 : (V11).cell? ⟨g8, 2, none⟩ = some (.int .i64 0) := (blk_cell hg8 2).trans rfl; have hkf2 : (V11).frozen? ⟨g8, 2, none⟩ = false := blk_frozen hg8 2; have hk3 : (V11).cell? ⟨g8, 3, none⟩ = some (.int .i64 0) := (blk_cell hg8 3).trans rfl; have hkf3 : (V11).frozen? ⟨g8, 3, none⟩ = false := blk_frozen hg8 3
  refine skip_ (w1 := ?_) (by rfl) rfl ?_ ?_
  rotate_left
  · go_simp
    rfl
  refine hK.out _ _ ?_
  clear hK K
  refine pure_ (i := 8) (N := some 16) (v := ?_) (a' := ?_) #[true, true, true, true, true, true, true, true, true] rfl rfl (by kernel_rfl) (fun _ _ _ h => h) (Or.inl ⟨by rfl, ?_⟩) ?_ ?_
  rotate_left
  · intro w'
    go_simp
    with_reducible rfl
  rotate_left
  · simp only [Act.put, List.setIfInBounds_toArray, List.set_cons_zero, List.set_cons_succ, i64_w, i32_w]
    rfl
  refine done_ (by kernel_rfl) ?_
  have hB2 := put4_below (a := .int .i64 0) (b := .int .i64 0) (c := .int .i64 0) (d := .int .i64 0) hB hl8
  obtain ⟨V15, hV⟩ : ∃ V2, put4 V11 g8 (.int .i64 0) (.int .i64 0) (.int .i64 0) (.int .i64 0) = V2 := ⟨_, rfl⟩
  rw [hV] at hB2
  unfold put4 at hV
  rw [hV]
  have HSQ := Lib.hid (HSP.out.step hB2)
  clear hV hB2 hB hl8 hg8 hHeld HSP hk0 hk1 hk2 hk3 hkf0 hkf1 hkf2 hkf3
  have HSP := HSQ
  clear HSQ
  go_wp2
  have hB : Below V15.heap.size V15 V15.drew := below_drew1 (Below.refl _ _)
  refine start_ (n := 9) (S := fun w' => w'.cell? ⟨w3.heap.size + 1 + 1, 0, none⟩ = some (.slice (some ⟨gb3, 0, none⟩) 2 2) ∧ w'.cell? ⟨w3.heap.size + 1 + 1, 1, none⟩ = some (.slice (some ⟨ge3, 0, none⟩) 3 3)) (ds := [7]) #[false, false, false, false, false, false, false, false, false] (by kernel_rfl) rfl rfl ⟨(blk_cell (HSP.out.step hB).b3 0).trans rfl, (blk_cell (HSP.out.step hB).b3 1).trans rfl⟩ (fun hHeld => ?_)
  refine take_ (i := 1) (N := some 191) (v := ?_) (a' := ?_) #[false, true, false, false, false, false, false, false, false] rfl rfl (by kernel_rfl) (fun _ _ _ h => h) (Or.inl ⟨by rfl, ?_⟩) hHeld ?_ ?_
  rotate_left
  · rintro w' ⟨s0, s1⟩
    go_simp
    with_reducible rfl
  rotate_left
  · simp only [Act.put, List.setIfInBounds_toArray, List.set_cons_zero, List.set_cons_succ, i64_w, i32_w]
    rfl
  refine join_ (σ := Option Addr × Nat) 2 #[true, true, true, true, true, true, true, false, false] (fun s => [(190, .agg #[.int .i64 6, .int .i64 4, .int .i64 1, .slice s.1 3 3]), (192, .tuple #[.agg #[.int .i64 0, .int .i64 0, .int .i64 0, .int .i64 0], .int .i64 11]), (189, .tuple #[.agg #[.int .i64 0, .int .i64 0, .int .i64 0, .int .i64 0], .int .i64 11]), (193, .agg #[.int .i64 0, .int .i64 0, .int .i64 0, .int .i64 0]), (194, .int .i64 11), (17, .pointer (some ⟨s.2, 0, none⟩))]) (fun s w' => w'.heap[s.2]? = some (.cells #[.int .i64 0, .int .i64 0, .int .i64 0, .int .i64 0] 49 (0, 0)) ∧ V15.heap.size ≤ s.2 ∧ Below V15.heap.size V15 w') ?_ ?_
  rotate_left
  · intro hCont
    refine two_ (i := 0) (j := 6) (Ni := some 190) (Nj := some 17) #[true, true, false, false, false, false, false, false, false] #[false, true, false, false, false, false, true, false, false] rfl rfl rfl rfl (by kernel_rfl) (by decide) (by decide) (fun K hK => ?_) (fun K hK => ?_)
    · skip
      refine goes_ Try.func51 (by kernel_rfl) rfl #[] (by rfl) rfl rfl (by simp only [List.map_toArray, List.map_cons, List.map_nil]) ?_
      with_reducible refine (sheet_calls _).mono ?_
      rintro e V8 ⟨A8, rfl, hA8, hs⟩
      replace hB := below_step hB hs
      clear hs
      refine ⟨_, rfl, ?_⟩
      refine hK.out _ _ ⟨(blk_cell (HSP.out.step hB).b3 0).trans rfl, (blk_cell (HSP.out.step hB).b3 1).trans rfl⟩ (fun hHeld => ?_)
      clear hK K
      refine norm_ (a' := ?_) ?_ ?_
      rotate_left
      · show Act.put _ (some 190) _ = _
        simp only [Act.put, List.setIfInBounds_toArray, List.set_cons_zero, List.set_cons_succ, i64_w, i32_w]
        rfl
      refine two_ (i := 2) (j := 6) (Ni := some 192) (Nj := some 17) #[true, true, true, false, false, false, false, false, false] #[true, true, false, false, false, false, true, false, false] rfl rfl rfl rfl (by kernel_rfl) (by decide) (by decide) (fun K hK => ?_) (fun K hK => ?_)
      · skip
        refine goes_ Try.func26 (by kernel_rfl) rfl #[.agg #[.int .i64 6, .int .i64 4, .int .i64 1, .slice A8 3 3], .agg #[.slice (some ⟨gb3, 0, none⟩) 2 2, .slice (some ⟨ge3, 0, none⟩) 3 3]] (by rfl) rfl rfl (by simp only [List.map_toArray, List.map_cons, List.map_nil]; rfl) ?_
        with_reducible refine (weigh_at hA8 (cut2 (HSP.out.step hB).c3) (use3 (HSP.out.step hB).u3) rfl rfl (by omega) (by omega) nm_same).mono ?_
        rintro e V9 ⟨rfl, hs⟩
        replace hB := below_step hB hs
        clear hA8
        clear hs
        refine ⟨_, rfl, ?_⟩
        refine hK.out _ _ ⟨(blk_cell (HSP.out.step hB).b3 0).trans rfl, (blk_cell (HSP.out.step hB).b3 1).trans rfl⟩ (fun hHeld => ?_)
        clear hK K
        refine norm_ (a' := ?_) ?_ ?_
        rotate_left
        · show Act.put _ (some 192) _ = _
          simp only [Act.put, List.setIfInBounds_toArray, List.set_cons_zero, List.set_cons_succ, i64_w, i32_w]
          rfl
        refine pure_ (i := 3) (N := some 189) (v := ?_) (a' := ?_) #[true, true, true, true, false, false, false, false, false] rfl rfl (by kernel_rfl) (fun _ _ _ h => h) (Or.inl ⟨by rfl, ?_⟩) ?_ ?_
        rotate_left
        · intro w'
          go_simp
          with_reducible rfl
        rotate_left
        · simp only [Act.put, List.setIfInBounds_toArray, List.set_cons_zero, List.set_cons_succ, i64_w, i32_w]
          rfl
        refine pure_ (i := 4) (N := some 193) (v := ?_) (a' := ?_) #[true, true, true, true, true, false, false, false, false] rfl rfl (by kernel_rfl) (fun _ _ _ h => h) (Or.inl ⟨by rfl, ?_⟩) ?_ ?_
        rotate_left
        · intro w'
          go_simp
          with_reducible rfl
        rotate_left
        · simp only [Act.put, List.setIfInBounds_toArray, List.set_cons_zero, List.set_cons_succ, i64_w, i32_w]
          rfl
        refine pure_ (i := 5) (N := some 194) (v := ?_) (a' := ?_) #[true, true, true, true, true, true, false, false, false] rfl rfl (by kernel_rfl) (fun _ _ _ h => h) (Or.inl ⟨by rfl, ?_⟩) ?_ ?_
        rotate_left
        · intro w'
          go_simp
          with_reducible rfl
        rotate_left
        · simp only [Act.put, List.setIfInBounds_toArray, List.set_cons_zero, List.set_cons_succ, i64_w, i32_w]
          rfl
        refine one_ (i := 6) (N := some 17) #[true, true, true, true, true, true, true, false, false] rfl rfl (by kernel_rfl) (by decide) (fun K hK => ?_)
        refine pbox_ (.cells #[.int .i64 0, .int .i64 0, .int .i64 0, .int .i64 0] 49 (0, 0)) (by rfl) rfl ?_ ?_
        · first | (go_simp; done) | (go_simp; rfl)
        intro g8 V10 hg8 hl8 hs
        replace hl8 : V15.heap.size ≤ g8 := by have := hB.size; omega
        replace hB := below_step hB hs
        clear hs
        refine hK.out _ _ ⟨(blk_cell (HSP.out.step hB).b3 0).trans rfl, (blk_cell (HSP.out.step hB).b3 1).trans rfl⟩ (fun hHeld => ?_)
        clear hK K
        refine norm_ (a' := ?_) ?_ ?_
        rotate_left
        · show Act.put _ (some 17) _ = _
          simp only [Act.put, List.setIfInBounds_toArray, List.set_cons_zero, List.set_cons_succ, i64_w, i32_w]
          rfl
        exact norm_ (by simp only [putAll, Act.put, List.setIfInBounds_toArray, List.set_cons_zero, List.set_cons_succ]) (hCont (A8, g8) _ ⟨hg8, hl8, hB⟩)
      · skip
        refine pbox_ (.cells #[.int .i64 0, .int .i64 0, .int .i64 0, .int .i64 0] 49 (0, 0)) (by rfl) rfl ?_ ?_
        · first | (go_simp; done) | (go_simp; rfl)
        intro g8 V10 hg8 hl8 hs
        replace hl8 : V15.heap.size ≤ g8 := by have := hB.size; omega
        replace hB := below_step hB hs
        replace hA8 := Kd.C_below hA8 hs
        clear hs
        refine hK.out _ _ ⟨(blk_cell (HSP.out.step hB).b3 0).trans rfl, (blk_cell (HSP.out.step hB).b3 1).trans rfl⟩ (fun hHeld => ?_)
        clear hK K
        refine norm_ (a' := ?_) ?_ ?_
        rotate_left
        · show Act.put _ (some 17) _ = _
          simp only [Act.put, List.setIfInBounds_toArray, List.set_cons_zero, List.set_cons_succ, i64_w, i32_w]
          rfl
        refine one_ (i := 2) (N := some 192) #[true, true, true, false, false, false, true, false, false] rfl rfl (by kernel_rfl) (by decide) (fun K hK => ?_)
        refine goes_ Try.func26 (by kernel_rfl) rfl #[.agg #[.int .i64 6, .int .i64 4, .int .i64 1, .slice A8 3 3], .agg #[.slice (some ⟨gb3, 0, none⟩) 2 2, .slice (some ⟨ge3, 0, none⟩) 3 3]] (by rfl) rfl rfl (by simp only [List.map_toArray, List.map_cons, List.map_nil]; rfl) ?_
        with_reducible refine (weigh_at hA8 (cut2 (HSP.out.step hB).c3) (use3 (HSP.out.step hB).u3) rfl rfl (by omega) (by omega) nm_same).mono ?_
        rintro e V9 ⟨rfl, hs⟩
        replace hB := below_step hB hs
        clear hA8
        replace hg8 := blk_below hg8 hs
        clear hs
        refine ⟨_, rfl, ?_⟩
        refine hK.out _ _ ⟨(blk_cell (HSP.out.step hB).b3 0).trans rfl, (blk_cell (HSP.out.step hB).b3 1).trans rfl⟩ (fun hHeld => ?_)
        clear hK K
        refine norm_ (a' := ?_) ?_ ?_
        rotate_left
        · show Act.put _ (some 192) _ = _
          simp only [Act.put, List.setIfInBounds_toArray, List.set_cons_zero, List.set_cons_succ, i64_w, i32_w]
          rfl
        refine pure_ (i := 3) (N := some 189) (v := ?_) (a' := ?_) #[true, true, true, true, false, false, true, false, false] rfl rfl (by kernel_rfl) (fun _ _ _ h => h) (Or.inl ⟨by rfl, ?_⟩) ?_ ?_
        rotate_left
        · intro w'
          go_simp
          with_reducible rfl
        rotate_left
        · simp only [Act.put, List.setIfInBounds_toArray, List.set_cons_zero, List.set_cons_succ, i64_w, i32_w]
          rfl
        refine pure_ (i := 4) (N := some 193) (v := ?_) (a' := ?_) #[true, true, true, true, true, false, true, false, false] rfl rfl (by kernel_rfl) (fun _ _ _ h => h) (Or.inl ⟨by rfl, ?_⟩) ?_ ?_
        rotate_left
        · intro w'
          go_simp
          with_reducible rfl
        rotate_left
        · simp only [Act.put, List.setIfInBounds_toArray, List.set_cons_zero, List.set_cons_succ, i64_w, i32_w]
          rfl
        refine pure_ (i := 5) (N := some 194) (v := ?_) (a' := ?_) #[true, true, true, true, true, true, true, false, false] rfl rfl (by kernel_rfl) (fun _ _ _ h => h) (Or.inl ⟨by rfl, ?_⟩) ?_ ?_
        rotate_left
        · intro w'
          go_simp
          with_reducible rfl
        rotate_left
        · simp only [Act.put, List.setIfInBounds_toArray, List.set_cons_zero, List.set_cons_succ, i64_w, i32_w]
          rfl
        exact norm_ (by simp only [putAll, Act.put, List.setIfInBounds_toArray, List.set_cons_zero, List.set_cons_succ]) (hCont (A8, g8) _ ⟨hg8, hl8, hB⟩)
    · skip
      refine pbox_ (.cells #[.int .i64 0, .int .i64 0, .int .i64 0, .int .i64 0] 49 (0, 0)) (by rfl) rfl ?_ ?_
      · first | (go_simp; done) | (go_simp; rfl)
      intro g8 V10 hg8 hl8 hs
      replace hl8 : V15.heap.size ≤ g8 := by have := hB.size; omega
      replace hB := below_step hB hs
      clear hs
      refine hK.out _ _ ⟨(blk_cell (HSP.out.step hB).b3 0).trans rfl, (blk_cell (HSP.out.step hB).b3 1).trans rfl⟩ (fun hHeld => ?_)
      clear hK K
      refine norm_ (a' := ?_) ?_ ?_
      rotate_left
      · show Act.put _ (some 17) _ = _
        simp only [Act.put, List.setIfInBounds_toArray, List.set_cons_zero, List.set_cons_succ, i64_w, i32_w]
        rfl
      refine one_ (i := 0) (N := some 190) #[true, true, false, false, false, false, true, false, false] rfl rfl (by kernel_rfl) (by decide) (fun K hK => ?_)
      refine goes_ Try.func51 (by kernel_rfl) rfl #[] (by rfl) rfl rfl (by simp only [List.map_toArray, List.map_cons, List.map_nil]) ?_
      with_reducible refine (sheet_calls _).mono ?_
      rintro e V8 ⟨A8, rfl, hA8, hs⟩
      replace hB := below_step hB hs
      replace hg8 := blk_below hg8 hs
      clear hs
      refine ⟨_, rfl, ?_⟩
      refine hK.out _ _ ⟨(blk_cell (HSP.out.step hB).b3 0).trans rfl, (blk_cell (HSP.out.step hB).b3 1).trans rfl⟩ (fun hHeld => ?_)
      clear hK K
      refine norm_ (a' := ?_) ?_ ?_
      rotate_left
      · show Act.put _ (some 190) _ = _
        simp only [Act.put, List.setIfInBounds_toArray, List.set_cons_zero, List.set_cons_succ, i64_w, i32_w]
        rfl
      refine one_ (i := 2) (N := some 192) #[true, true, true, false, false, false, true, false, false] rfl rfl (by kernel_rfl) (by decide) (fun K hK => ?_)
      refine goes_ Try.func26 (by kernel_rfl) rfl #[.agg #[.int .i64 6, .int .i64 4, .int .i64 1, .slice A8 3 3], .agg #[.slice (some ⟨gb3, 0, none⟩) 2 2, .slice (some ⟨ge3, 0, none⟩) 3 3]] (by rfl) rfl rfl (by simp only [List.map_toArray, List.map_cons, List.map_nil]; rfl) ?_
      with_reducible refine (weigh_at hA8 (cut2 (HSP.out.step hB).c3) (use3 (HSP.out.step hB).u3) rfl rfl (by omega) (by omega) nm_same).mono ?_
      rintro e V9 ⟨rfl, hs⟩
      replace hB := below_step hB hs
      clear hA8
      replace hg8 := blk_below hg8 hs
      clear hs
      refine ⟨_, rfl, ?_⟩
      refine hK.out _ _ ⟨(blk_cell (HSP.out.step hB).b3 0).trans rfl, (blk_cell (HSP.out.step hB).b3 1).trans rfl⟩ (fun hHeld => ?_)
      clear hK K
      refine norm_ (a' := ?_) ?_ ?_
      rotate_left
      · show Act.put _ (some 192) _ = _
        simp only [Act.put, List.setIfInBounds_toArray, List.set_cons_zero, List.set_cons_succ, i64_w, i32_w]
        rfl
      refine pure_ (i := 3) (N := some 189) (v := ?_) (a' := ?_) #[true, true, true, true, false, false, true, false, false] rfl rfl (by kernel_rfl) (fun _ _ _ h => h) (Or.inl ⟨by rfl, ?_⟩) ?_ ?_
      rotate_left
      · intro w'
        go_simp
        with_reducible rfl
      rotate_left
      · simp only [Act.put, List.setIfInBounds_toArray, List.set_cons_zero, List.set_cons_succ, i64_w, i32_w]
        rfl
      refine pure_ (i := 4) (N := some 193) (v := ?_) (a' := ?_) #[true, true, true, true, true, false, true, false, false] rfl rfl (by kernel_rfl) (fun _ _ _ h => h) (Or.inl ⟨by rfl, ?_⟩) ?_ ?_
      rotate_left
      · intro w'
        go_simp
        with_reducible rfl
      rotate_left
      · simp only [Act.put, List.setIfInBounds_toArray, List.set_cons_zero, List.set_cons_succ, i64_w, i32_w]
        rfl
      refine pure_ (i := 5) (N := some 194) (v := ?_) (a' := ?_) #[true, true, true, true, true, true, true, false, false] rfl rfl (by kernel_rfl) (fun _ _ _ h => h) (Or.inl ⟨by rfl, ?_⟩) ?_ ?_
      rotate_left
      · intro w'
        go_simp
        with_reducible rfl
      rotate_left
      · simp only [Act.put, List.setIfInBounds_toArray, List.set_cons_zero, List.set_cons_succ, i64_w, i32_w]
        rfl
      exact norm_ (by simp only [putAll, Act.put, List.setIfInBounds_toArray, List.set_cons_zero, List.set_cons_succ]) (hCont (A8, g8) _ ⟨hg8, hl8, hB⟩)
  clear hHeld hB
  rintro ⟨A8, g8⟩ V11 ⟨hg8, hl8, hB⟩
  have hHeld : V11.cell? ⟨w3.heap.size + 1 + 1, 0, none⟩ = some (.slice (some ⟨gb3, 0, none⟩) 2 2) ∧ V11.cell? ⟨w3.heap.size + 1 + 1, 1, none⟩ = some (.slice (some ⟨ge3, 0, none⟩) 3 3) := ⟨(blk_cell (HSP.out.step hB).b3 0).trans rfl, (blk_cell (HSP.out.step hB).b3 1).trans rfl⟩
  refine norm_ (a' := ?_) ?_ ?_
  rotate_left
  · simp only [putAll, Act.put, List.setIfInBounds_toArray, List.set_cons_zero, List.set_cons_succ]
    rfl
  refine last_ (i := 7) (N := none) #[true, true, true, true, true, true, true, true, false] rfl rfl (by kernel_rfl) (by decide) (fun K hK => ?_)
  have hk0 : (V11).cell? ⟨g8, 0, none⟩ = some (.int .i64 0) := (blk_cell hg8 0).trans rfl; have hkf0 : (V11).frozen? ⟨g8, 0, none⟩ = false := blk_frozen hg8 0; have hk1 : (V11).cell? ⟨g8, 1, none⟩ = some (.int .i64 0) := (blk_cell hg8 1).trans rfl; have hkf1 : (V11).frozen? ⟨g8, 1, none⟩ = false := blk_frozen hg8 1; have hk2 : (V11).cell? ⟨g8, 2, none⟩ = some (.int .i64 0) := (blk_cell hg8 2).trans rfl; have hkf2 : (V11).frozen? ⟨g8, 2, none⟩ = false := blk_frozen hg8 2; have hk3 : (V11).cell? ⟨g8, 3, none⟩ = some (.int .i64 0) := (blk_cell hg8 3).trans rfl; have hkf3 : (V11).frozen? ⟨g8, 3, none⟩ = false := blk_frozen hg8 3
  refine skip_ (w1 := ?_) (by rfl) rfl ?_ ?_
  rotate_left
  · go_simp
    rfl
  refine hK.out _ _ ?_
  clear hK K
  refine pure_ (i := 8) (N := some 18) (v := ?_) (a' := ?_) #[true, true, true, true, true, true, true, true, true] rfl rfl (by kernel_rfl) (fun _ _ _ h => h) (Or.inl ⟨by rfl, ?_⟩) ?_ ?_
  rotate_left
  · intro w'
    go_simp
    with_reducible rfl
  rotate_left
  · simp only [Act.put, List.setIfInBounds_toArray, List.set_cons_zero, List.set_cons_succ, i64_w, i32_w]
    rfl
  refine done_ (by kernel_rfl) ?_
  have hB2 := put4_below (a := .int .i64 0) (b := .int .i64 0) (c := .int .i64 0) (d := .int .i64 0) hB hl8
  obtain ⟨V16, hV⟩ : ∃ V2, put4 V11 g8 (.int .i64 0) (.int .i64 0) (.int .i64 0) (.int .i64 0) = V2 := ⟨_, rfl⟩
  rw [hV] at hB2
  unfold put4 at hV
  rw [hV]
  have HSQ := Lib.hid (HSP.out.step hB2)
  clear hV hB2 hB hl8 hg8 hHeld HSP hk0 hk1 hk2 hk3 hkf0 hkf1 hkf2 hkf3
  have HSP := HSQ
  clear HSQ
  have HW16 := Lib.hid HSP.out.old
  clear HSP
  go_wp2_with fail
  refine (sheet_calls _).mono ?_
  rintro e x1 ⟨A1, rfl, hA1, hb1⟩
  go_wp2_with fail
  refine (sawn_calls _).mono ?_
  rintro e x2 ⟨gb2, ge2, rfl, hB2, hE2, hl1, hl2, hb2⟩
  have HA := Lib.hid (Kd.C_below hA1 hb2)
  have HB := Lib.hid (c112 (n := 2) hB2 rfl (by omega))
  have HE := Lib.hid (cints (n := 3) (xs := sawnU) hE2 rfl (by omega))
  clear hA1 hB2 hE2
  go_wp2_with fail
  refine (trace_at HA.out HB.out HE.out rfl rfl (by omega) (by omega) nm_trace3).mono ?_
  rintro e x3 ⟨rfl, hb3⟩
  have HW17 := Lib.hid (below_step (below_step (below_step HW16.out hb1) hb2) hb3)
  clear HA HB HE hb1 hb2 hb3 hl1 hl2 HW16
  go_wp2_with fail
  refine (sheet_calls _).mono ?_
  rintro e x4 ⟨A4, rfl, hA4, hb4⟩
  go_wp2_with fail
  refine (sheet_calls _).mono ?_
  rintro e x5 ⟨A5, rfl, hA5, hb5⟩
  obtain ⟨⟨k1, k2⟩, ⟨k3, k4⟩, k5, k6, k7, k8, hpl⟩ := plates (A4 := A4) (below_step (below_step HW17.out hb4) hb5) hA5
  unfold plA at k1 k2
  unfold plB at k3 k4
  unfold plD at k5 k6 k7 k8
  have hmk : ∀ w, (Instr.makeSlice 53 (.int .i64 5) (.int .i64 5)).run Try.prog w = .ok (.slice (some ⟨w.heap.size, 0, none⟩) 5 5) (w.alloc (.cells (zwants.flatMap wc).toArray 115)) := fun w => by kernel_rfl
  have HPL := Lib.hid hpl
  clear hpl hb4 hb5 hA4 hA5 HW17
  go_wp2_with fail
  refine (none_at _).mono ?_
  rintro e y ⟨C, c, U, d, rfl, hs⟩
  have HPX := Lib.hid ((HPL.out.step hs).step (below_alloc (Below.refl _ _) (.cells #[.slice C 0 c, .slice U 0 d] 59)))
  have HT : Hid ((y.alloc (.cells #[.slice C 0 c, .slice U 0 d] 59)).heap[y.heap.size]? = some (.cells #[.slice C 0 c, .slice U 0 d] 59 (0, 0))) := Lib.hid (alloc_at rfl)
  clear k1 k2 k3 k4 k5 k6 k7 k8 hmk hs HPL
  have hp := HPX.out.p1
  have j0 : (y.alloc (.cells #[.slice C 0 c, .slice U 0 d] 59)).cell? ⟨x5.heap.size, 0, none⟩ = some (.int .i64 6) := (blk_cell hp 0).trans rfl
  have j1 : (y.alloc (.cells #[.slice C 0 c, .slice U 0 d] 59)).cell? ⟨x5.heap.size, 1, none⟩ = some (.int .i64 4) := (blk_cell hp 1).trans rfl
  have j2 : (y.alloc (.cells #[.slice C 0 c, .slice U 0 d] 59)).cell? ⟨x5.heap.size, 2, none⟩ = some (.int .i64 1) := (blk_cell hp 2).trans rfl
  have j3 : (y.alloc (.cells #[.slice C 0 c, .slice U 0 d] 59)).cell? ⟨x5.heap.size, 3, none⟩ = some (.slice (some ⟨x5.heap.size + 1 + 1, 0, none⟩) 5 5) := (blk_cell hp 3).trans rfl
  clear hp
  go_wp2_with fail
  refine (check_at HPX.out.many rfl (by omega) nm_many).mono ?_
  rintro e y1 ⟨rfl, hs⟩
  have HP1 := Lib.hid (HPX.out.step hs)
  have HT1 := Lib.hid (blk_below HT.out hs)
  clear j0 j1 j2 j3 hs HPX HT
  have hp := HP1.out.p2
  have j0 : (y1).cell? ⟨x5.heap.size + 1, 0, none⟩ = some (.int .i64 6) := (blk_cell hp 0).trans rfl
  have j1 : (y1).cell? ⟨x5.heap.size + 1, 1, none⟩ = some (.int .i64 4) := (blk_cell hp 1).trans rfl
  have j2 : (y1).cell? ⟨x5.heap.size + 1, 2, none⟩ = some (.int .i64 3) := (blk_cell hp 2).trans rfl
  have j3 : (y1).cell? ⟨x5.heap.size + 1, 3, none⟩ = some (.slice A5 3 3) := (blk_cell hp 3).trans rfl
  clear hp
  go_wp2_with fail
  refine (check_at HP1.out.a5 rfl (by omega) nm_odd).mono ?_
  rintro e y2 ⟨rfl, hs⟩
  have HP2 := Lib.hid (below_step HP1.out.old hs)
  have HT2 := Lib.hid (blk_below HT1.out hs)
  clear j0 j1 j2 j3 hs HP1 HT1
  go_wp2_with fail
  refine (check_at (none115 _) rfl (by omega) nm_zero).mono ?_
  rintro e y3 ⟨rfl, hs⟩
  have HP3 := Lib.hid (below_step HP2.out hs)
  have hp := blk_below HT2.out hs
  have j0 : (y3).cell? ⟨y.heap.size, 0, none⟩ = some (.slice C 0 c) := (blk_cell hp 0).trans rfl
  have j1 : (y3).cell? ⟨y.heap.size, 1, none⟩ = some (.slice U 0 d) := (blk_cell hp 1).trans rfl
  clear hp hs HP2 HT2
  go_wp2_with fail
  refine (wakes_calls _).mono ?_
  rintro e y4 ⟨rfl, hs⟩
  have HP4 := Lib.hid (below_step HP3.out hs)
  clear j0 j1 hs HP3
  go_wp2
  go_ret
  exact ⟨rfl, HP4.out⟩

end Go.Proofs.Ytffjbaknglemdaa.X
