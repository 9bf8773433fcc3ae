import Derived.Test.YtffjbaknglemdaaHW1
namespace Go.Proofs.Ytffjbaknglemdaa.X
open Go.RowKit Go.Maps Go.Proofs.YtffjbaknglemdaaW.PrintWords Go.Proofs.YtffjbaknglemdaaW.PrintLast Go.Proofs.YtffjbaknglemdaaW.PrintMore
set_option linter.unusedSimpArgs false
set_option linter.unusedVariables false

/-! ### three plans spoilt -/
def box2 (gb ge : Nat) (n : Nat) : Obj := .cells #[.slice (some ⟨gb, 0, none⟩) 2 2, .slice (some ⟨ge, 0, none⟩) n 3] 59 (0, 0)
def uses3 (a b c : Int) : Obj := .cells #[.int .i64 a, .int .i64 b, .int .i64 c] 3 (0, 0)
def saw3 : Obj := .cells (ccs sawnC).toArray 112 (0, 0)
abbrev spA (w3 : World) (gb1 ge1 gb2 ge2 gb3 ge3 : Nat) : World := ((w3.alloc (.cells #[.slice (some ⟨gb1, 0, none⟩) 2 2, .slice (some ⟨ge1, 0, none⟩) 3 3] 59)).alloc (.cells #[.slice (some ⟨gb2, 0, none⟩) 2 2, .slice (some ⟨ge2, 0, none⟩) 3 3] 59)).alloc (.cells #[.slice (some ⟨gb3, 0, none⟩) 2 2, .slice (some ⟨ge3, 0, none⟩) 3 3] 59)
abbrev spB (w3 : World) (gb1 ge1 gb2 ge2 gb3 ge3 : Nat) : World := (spA w3 gb1 ge1 gb2 ge2 gb3 ge3).setCell ⟨ge1, 2, none⟩ (.int .i64 5)
abbrev spC (w3 : World) (gb1 ge1 gb2 ge2 gb3 ge3 : Nat) : World := (spB w3 gb1 ge1 gb2 ge2 gb3 ge3).setCell ⟨w3.heap.size + 1, 1, none⟩ (.slice (some ⟨ge2, 0, none⟩) 2 3)
abbrev spD (w3 : World) (gb1 ge1 gb2 ge2 gb3 ge3 : Nat) : World := (spC w3 gb1 ge1 gb2 ge2 gb3 ge3).setCell ⟨ge3, 2, none⟩ (.int .i64 3)
structure Spoilt (w V : World) (s gb1 ge1 gb2 ge2 gb3 ge3 : Nat) : Prop where
  old : Below w.heap.size w V
  c1 : V.heap[gb1]? = some saw3
  c2 : V.heap[gb2]? = some saw3
  c3 : V.heap[gb3]? = some saw3
  u1 : V.heap[ge1]? = some (uses3 1 3 5)
  u2 : V.heap[ge2]? = some (uses3 1 3 (-1))
  u3 : V.heap[ge3]? = some (uses3 1 3 3)
  b1 : V.heap[s]? = some (box2 gb1 ge1 3)
  b2 : V.heap[s + 1]? = some (box2 gb2 ge2 2)
  b3 : V.heap[s + 1 + 1]? = some (box2 gb3 ge3 3)
theorem spoil {w W0 w1 w2 w3 : World} {gb1 ge1 gb2 ge2 gb3 ge3 : Nat} (hW : Below w.heap.size w W0)
    (hB1 : w1.heap[gb1]? = some saw3) (hE1 : w1.heap[ge1]? = some (uses3 1 3 (-1))) (l1 : W0.heap.size ≤ gb1) (m1 : W0.heap.size ≤ ge1) (hb1 : Below W0.heap.size W0 w1)
    (hB2 : w2.heap[gb2]? = some saw3) (hE2 : w2.heap[ge2]? = some (uses3 1 3 (-1))) (l2 : w1.heap.size ≤ gb2) (m2 : w1.heap.size ≤ ge2) (hb2 : Below w1.heap.size w1 w2)
    (hB3 : w3.heap[gb3]? = some saw3) (hE3 : w3.heap[ge3]? = some (uses3 1 3 (-1))) (l3 : w2.heap.size ≤ gb3) (m3 : w2.heap.size ≤ ge3) (hb3 : Below w2.heap.size w2 w3) :
    ((spA w3 gb1 ge1 gb2 ge2 gb3 ge3).cell? ⟨w3.heap.size, 1, none⟩ = some (.slice (some ⟨ge1, 0, none⟩) 3 3) ∧ (spA w3 gb1 ge1 gb2 ge2 gb3 ge3).cell? ⟨ge1, 2, none⟩ = some (.int .i64 (-1)) ∧ (spA w3 gb1 ge1 gb2 ge2 gb3 ge3).frozen? ⟨ge1, 2, none⟩ = false) ∧
    ((spB w3 gb1 ge1 gb2 ge2 gb3 ge3).cell? ⟨w3.heap.size + 1, 1, none⟩ = some (.slice (some ⟨ge2, 0, none⟩) 3 3) ∧ (spB w3 gb1 ge1 gb2 ge2 gb3 ge3).frozen? ⟨w3.heap.size + 1, 1, none⟩ = false) ∧
    ((spC w3 gb1 ge1 gb2 ge2 gb3 ge3).cell? ⟨w3.heap.size + 1 + 1, 1, none⟩ = some (.slice (some ⟨ge3, 0, none⟩) 3 3) ∧ (spC w3 gb1 ge1 gb2 ge2 gb3 ge3).cell? ⟨ge3, 2, none⟩ = some (.int .i64 (-1)) ∧ (spC w3 gb1 ge1 gb2 ge2 gb3 ge3).frozen? ⟨ge3, 2, none⟩ = false) ∧
    Spoilt w (spD w3 gb1 ge1 gb2 ge2 gb3 ge3) w3.heap.size gb1 ge1 gb2 ge2 gb3 ge3 := by
  have hA : Below w3.heap.size w3 (spA w3 gb1 ge1 gb2 ge2 gb3 ge3) := below_alloc (below_alloc (below_alloc (Below.refl _ _) _) _) _
  have o1 := blk_lt hE1
  have o2 := blk_lt hE2
  have o3 := blk_lt hE3
  have p1 := blk_lt hB1
  have p2 := blk_lt hB2
  have p3 := blk_lt hB3
  have s0 := hW.size
  have s1 := hb1.size
  have s2 := hb2.size
  have s3 := hb3.size
  have n1 := ne_type hB1 hE1 (by decide)
  have n2 := ne_type hB2 hE2 (by decide)
  have n3 := ne_type hB3 hE3 (by decide)
  have A1 : (spA w3 gb1 ge1 gb2 ge2 gb3 ge3).heap[w3.heap.size]? = some (box2 gb1 ge1 3) := blk_below (blk_below (alloc_at rfl) (below_alloc (Below.refl _ _) _)) (below_alloc (Below.refl _ _) _)
  have A2 : (spA w3 gb1 ge1 gb2 ge2 gb3 ge3).heap[w3.heap.size + 1]? = some (box2 gb2 ge2 3) := blk_below (alloc_at (by simp)) (below_alloc (Below.refl _ _) _)
  have A3 : (spA w3 gb1 ge1 gb2 ge2 gb3 ge3).heap[w3.heap.size + 1 + 1]? = some (box2 gb3 ge3 3) := alloc_at (by simp)
  have C1 := blk_below (blk_below (blk_below hB1 hb2) hb3) hA
  have C2 := blk_below (blk_below hB2 hb3) hA
  have C3 := blk_below hB3 hA
  have U1 := blk_below (blk_below (blk_below hE1 hb2) hb3) hA
  have U2 := blk_below (blk_below hE2 hb3) hA
  have U3 := blk_below hE3 hA
  have F : ∀ {g h i : Nat} {V : World} {o : Array Value} {t : TypeId} {v : Value}, V.heap[g]? = some (.cells o t (0, 0)) → g ≠ h → (V.setCell ⟨h, i, none⟩ v).heap[g]? = some (.cells o t (0, 0)) := fun h hne => blk_far h hne _
  have a2 := F (h := ge1) (i := 2) (v := .int .i64 5) A2 (by omega)
  have a3 := F (h := w3.heap.size + 1) (i := 1) (v := .slice (some ⟨ge2, 0, none⟩) 2 3) (F (h := ge1) (i := 2) (v := .int .i64 5) A3 (by omega)) (by omega)
  have u3 := F (h := w3.heap.size + 1) (i := 1) (v := .slice (some ⟨ge2, 0, none⟩) 2 3) (F (h := ge1) (i := 2) (v := .int .i64 5) U3 (by omega)) (by omega)
  refine ⟨⟨(blk_cell A1 1).trans rfl, (blk_cell U1 2).trans rfl, blk_frozen U1 2⟩, ⟨(blk_cell a2 1).trans rfl, blk_frozen a2 1⟩, ⟨(blk_cell a3 1).trans rfl, (blk_cell u3 2).trans rfl, blk_frozen u3 2⟩, ?_⟩
  exact ⟨below_set (below_set (below_set (below_step (below_step (below_step (below_step hW hb1) hb2) hb3) hA) (by show w.heap.size ≤ ge1; omega)) (by show w.heap.size ≤ w3.heap.size + 1; omega)) (by show w.heap.size ≤ ge3; omega),
    F (F (F C1 (by omega)) (by omega)) (by omega), F (F (F C2 (by omega)) (by omega)) (by omega), F (F (F C3 (by omega)) (by omega)) (by omega),
    F (F (blk_put U1 2 (.int .i64 5) rfl) (by omega)) (by omega), F (F (F U2 (by omega)) (by omega)) (by omega), blk_put u3 2 (.int .i64 3) rfl,
    F (F (F A1 (by omega)) (by omega)) (by omega), F (blk_put a2 1 (.slice (some ⟨ge2, 0, none⟩) 2 3) rfl) (by omega), F a3 (by omega)⟩
theorem Spoilt.step {w V V' : World} {s gb1 ge1 gb2 ge2 gb3 ge3 : Nat} (h : Spoilt w V s gb1 ge1 gb2 ge2 gb3 ge3) (hb : Below V.heap.size V V') : Spoilt w V' s gb1 ge1 gb2 ge2 gb3 ge3 :=
  ⟨below_step h.old hb, blk_below h.c1 hb, blk_below h.c2 hb, blk_below h.c3 hb, blk_below h.u1 hb, blk_below h.u2 hb, blk_below h.u3 hb, blk_below h.b1 hb, blk_below h.b2 hb, blk_below h.b3 hb⟩
theorem cut2 {V : World} {g : Nat} (h : V.heap[g]? = some saw3) : Kd.C k112 V (some ⟨g, 0, none⟩) 2 sawnC := c112 (n := 2) h rfl (by omega)
theorem use3 {V : World} {g : Nat} {a b c : Int} (h : V.heap[g]? = some (uses3 a b c)) : Kd.C (Kd.int .i64) V (some ⟨g, 0, none⟩) 3 [a, b, c] := cints (n := 3) (xs := [a, b, c]) h rfl (by omega)
theorem use2 {V : World} {g : Nat} {a b c : Int} (h : V.heap[g]? = some (uses3 a b c)) : Kd.C (Kd.int .i64) V (some ⟨g, 0, none⟩) 2 [a, b] :=
  (Kd.R_reads' (own_Rint (xs := [a, b]) (base := 0) (ok := fun _ => True) (v := .slice (some ⟨g, 0, none⟩) 2 3) (w := V) ⟨rfl, .inr ⟨g, 3, _, rfl, Nat.zero_le _, h, by show 2 ≤ 3; omega, by decide, rfl, rfl⟩⟩ (fun _ _ => trivial))).2.2
def put4 (V : World) (g : Nat) (a b c d : Value) : World := (((V.setCell ⟨g, 0, none⟩ a).setCell ⟨g, 1, none⟩ b).setCell ⟨g, 2, none⟩ c).setCell ⟨g, 3, none⟩ d
theorem put4_below {V W : World} {g : Nat} {a b c d : Value} (h : Below W.heap.size W V) (hg : W.heap.size ≤ g) : Below W.heap.size W (put4 V g a b c d) := below_set (below_set (below_set (below_set h hg) hg) hg) hg
end Go.Proofs.Ytffjbaknglemdaa.X
