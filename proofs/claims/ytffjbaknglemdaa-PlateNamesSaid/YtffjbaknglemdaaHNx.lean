import Derived.Test.YtffjbaknglemdaaHNw
namespace Go.Proofs.Ytffjbaknglemdaa.X
open Go.RowKit Go.Maps Go.Proofs.YtffjbaknglemdaaW.PrintWords Go.Proofs.YtffjbaknglemdaaW.PrintLast Go.Proofs.YtffjbaknglemdaaW.PrintMore
set_option linter.unusedSimpArgs false
set_option linter.unusedVariables false

/-! ### the plates spoilt -/
def zwants : List S115 := List.replicate 5 ⟨0, 0, false, 0, ⟨0, 0⟩, ⟨0, 0⟩⟩
theorem nm_many : plate_CheckPlate.f 6 4 1 zwants = some 3 := by kernel_rfl
theorem nm_odd : plate_CheckPlate.f 6 4 3 sheetL = some 1 := by kernel_rfl
theorem nm_zero : plate_CheckPlate.f 0 0 0 [] = some 1 := by kernel_rfl
theorem nm_none : plate_Best.f 1 1 0 [] = some ([], [], 0, 0) := by kernel_rfl
theorem none115 (W : World) : Kd.C k115 W none 0 [] := (Kd.R_reads' (own_R115 (xs := []) (base := 0) (ok := fun _ => True) (v := .slice none 0 0) (w := W) (World.ownsRow_nil _ _ _ _) (fun _ _ => trivial))).2.2
theorem check_at {W : World} {A : Option Addr} {n d : Nat} {a0 a1 a2 r : Int} {l : List S115} (hA : Kd.C k115 W A n l) (hn : l.length = n) (hd : n ≤ d) (h : plate_CheckPlate.f a0 a1 a2 l = some r) :
    Calls Try.prog 47 #[.agg #[.int .i64 a0, .int .i64 a1, .int .i64 a2, .slice A n d]] W fun e w' => e = .returned (.int .i64 r) ∧ Below W.heap.size W w' := by
  subst hn
  exact plate_CheckPlate.calls a0 a1 a2 A d l r W hA hd h
theorem none_at (W : World) : Calls Try.prog 36 #[.agg #[.int .i64 1, .int .i64 1, .int .i64 0, .slice none 0 0]] W fun e w' => ∃ C c U d, e = .returned (.tuple #[.agg #[.slice C 0 c, .slice U 0 d], .int .i64 0, .int .i64 0]) ∧ Below W.heap.size W w' := by
  refine (plate_Best.calls 1 1 0 none 0 [] [] [] 0 0 W (none115 W) (by decide) nm_none).mono ?_
  rintro e w' ⟨v0, v1, rfl, ⟨_, inner, ho, _⟩, ⟨_, inner2, ho2, _⟩, hb⟩
  obtain ⟨C, c, rfl⟩ := own_form ho
  obtain ⟨U, d, rfl⟩ := own_form ho2
  exact ⟨C, c, U, d, rfl, hb⟩
abbrev plA (x : World) (A4 A5 : Option Addr) : World := ((x.alloc (.cells #[.int .i64 6, .int .i64 4, .int .i64 1, .slice A4 3 3] 55)).alloc (.cells #[.int .i64 6, .int .i64 4, .int .i64 1, .slice A5 3 3] 55)).alloc (.cells (zwants.flatMap wc).toArray 115)
abbrev plB (x : World) (A4 A5 : Option Addr) : World := ((x.alloc (.cells #[.int .i64 6, .int .i64 4, .int .i64 1, .slice (some ⟨x.heap.size + 1 + 1, 0, none⟩) 5 5] 55)).alloc (.cells #[.int .i64 6, .int .i64 4, .int .i64 1, .slice A5 3 3] 55)).alloc (.cells (zwants.flatMap wc).toArray 115)
abbrev plD (x : World) (A4 A5 : Option Addr) : World := (((x.alloc (.cells #[.int .i64 6, .int .i64 4, .int .i64 1, .slice (some ⟨x.heap.size + 1 + 1, 0, none⟩) 5 5] 55)).alloc (.cells #[.int .i64 6, .int .i64 4, .int .i64 3, .slice A5 3 3] 55)).alloc (.cells (zwants.flatMap wc).toArray 115)).alloc (.cells #[.int .i64 1, .int .i64 1, .int .i64 0, .slice none 0 0] 55)
structure Plates (w V : World) (s : Nat) (A5 : Option Addr) : Prop where
  old : Below w.heap.size w V
  p1 : V.heap[s]? = some (.cells #[.int .i64 6, .int .i64 4, .int .i64 1, .slice (some ⟨s + 1 + 1, 0, none⟩) 5 5] 55 (0, 0))
  p2 : V.heap[s + 1]? = some (.cells #[.int .i64 6, .int .i64 4, .int .i64 3, .slice A5 3 3] 55 (0, 0))
  z : V.heap[s + 1 + 1]? = some (.cells (zwants.flatMap wc).toArray 115 (0, 0))
  a5 : Kd.C k115 V A5 3 sheetL
theorem Plates.step {w V V' : World} {s : Nat} {A5 : Option Addr} (h : Plates w V s A5) (hb : Below V.heap.size V V') : Plates w V' s A5 :=
  ⟨below_step h.old hb, blk_below h.p1 hb, blk_below h.p2 hb, blk_below h.z hb, Kd.C_below h.a5 hb⟩
theorem Plates.many {w V : World} {s : Nat} {A5 : Option Addr} (h : Plates w V s A5) : Kd.C k115 V (some ⟨s + 1 + 1, 0, none⟩) 5 zwants := c115 (n := 5) h.z rfl (by omega)
theorem plates {w x : World} {A4 A5 : Option Addr} (hW : Below w.heap.size w x) (hA : Kd.C k115 x A5 3 sheetL) :
    ((plA x A4 A5).cell? ⟨x.heap.size, 3, none⟩ = some (.slice A4 3 3) ∧ (plA x A4 A5).frozen? ⟨x.heap.size, 3, none⟩ = false) ∧
    ((plB x A4 A5).cell? ⟨x.heap.size + 1, 2, none⟩ = some (.int .i64 1) ∧ (plB x A4 A5).frozen? ⟨x.heap.size + 1, 2, none⟩ = false) ∧
    (plD x A4 A5).cell? ⟨x.heap.size + 1 + 1 + 1, 0, none⟩ = some (.int .i64 1) ∧ (plD x A4 A5).cell? ⟨x.heap.size + 1 + 1 + 1, 1, none⟩ = some (.int .i64 1) ∧ (plD x A4 A5).cell? ⟨x.heap.size + 1 + 1 + 1, 2, none⟩ = some (.int .i64 0) ∧ (plD x A4 A5).cell? ⟨x.heap.size + 1 + 1 + 1, 3, none⟩ = some (.slice none 0 0) ∧
    Plates w (plD x A4 A5) x.heap.size A5 := by
  have A1 : (plA x A4 A5).heap[x.heap.size]? = some (.cells #[.int .i64 6, .int .i64 4, .int .i64 1, .slice A4 3 3] 55 (0, 0)) := blk_below (blk_below (alloc_at rfl) (below_alloc (Below.refl _ _) _)) (below_alloc (Below.refl _ _) _)
  have B2 : (plB x A4 A5).heap[x.heap.size + 1]? = some (.cells #[.int .i64 6, .int .i64 4, .int .i64 1, .slice A5 3 3] 55 (0, 0)) := blk_below (alloc_at (by simp)) (below_alloc (Below.refl _ _) _)
  have hx : Below x.heap.size x (plD x A4 A5) := below_alloc (below_alloc (below_alloc (below_alloc (Below.refl _ _) _) _) _) _
  have D1 : (plD x A4 A5).heap[x.heap.size]? = some (.cells #[.int .i64 6, .int .i64 4, .int .i64 1, .slice (some ⟨x.heap.size + 1 + 1, 0, none⟩) 5 5] 55 (0, 0)) := blk_below (blk_below (blk_below (alloc_at rfl) (below_alloc (Below.refl _ _) _)) (below_alloc (Below.refl _ _) _)) (below_alloc (Below.refl _ _) _)
  have D2 : (plD x A4 A5).heap[x.heap.size + 1]? = some (.cells #[.int .i64 6, .int .i64 4, .int .i64 3, .slice A5 3 3] 55 (0, 0)) := blk_below (blk_below (alloc_at (by simp)) (below_alloc (Below.refl _ _) _)) (below_alloc (Below.refl _ _) _)
  have D3 : (plD x A4 A5).heap[x.heap.size + 1 + 1]? = some (.cells (zwants.flatMap wc).toArray 115 (0, 0)) := blk_below (alloc_at (by simp)) (below_alloc (Below.refl _ _) _)
  have D4 : (plD x A4 A5).heap[x.heap.size + 1 + 1 + 1]? = some (.cells #[.int .i64 1, .int .i64 1, .int .i64 0, .slice none 0 0] 55 (0, 0)) := alloc_at (by simp)
  exact ⟨⟨(blk_cell A1 3).trans rfl, blk_frozen A1 3⟩, ⟨(blk_cell B2 2).trans rfl, blk_frozen B2 2⟩, (blk_cell D4 0).trans rfl, (blk_cell D4 1).trans rfl, (blk_cell D4 2).trans rfl, (blk_cell D4 3).trans rfl, ⟨below_step hW hx, D1, D2, D3, Kd.C_below hA hx⟩⟩
end Go.Proofs.Ytffjbaknglemdaa.X
