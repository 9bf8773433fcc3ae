import Derived.Test.YtffjbaknglemdaaHC
import Derived.Test.YtffjbaknglemdaaXF61
import Derived.Test.YtffjbaknglemdaaXF47
namespace Go.Proofs.Ytffjbaknglemdaa.X
open Go.RowKit Go.Proofs.YtffjbaknglemdaaW.PrintWords Go.Proofs.YtffjbaknglemdaaW.PrintLast Go.Proofs.YtffjbaknglemdaaW.PrintMore
set_option linter.unusedSimpArgs false
set_option linter.unusedVariables false

section
variable {P : Program} {ops : Array Oper} {Q : Exit → Act → World → Prop}
/-- A slice literal in a region's step: a new block, by letters. -/
theorem slit_ {oi : Oper} {N : Option Tmp} {a : Act} {w : World} {K : Act → World → Prop} (o : Obj) (n : Nat) (hw : Region.wanted oi (yielded ops a.tmps) = true) (hN : oi.dst = N)
  (hrun : (execOp a.eval oi).run P w = .ok (.value (.slice (some ⟨w.heap.size, 0, none⟩) n n)) (w.alloc o))
  (h : ∀ g w1, w1.heap[g]? = some o → w.heap.size ≤ g → Below w.heap.size w w1 → K (a.put N (.slice (some ⟨g, 0, none⟩) n n)) w1) :
  if Region.wanted oi (yielded ops a.tmps) = true then Oper.wp P oi a w K Q else K (a.put N undef) w :=
 value_ hw hN hrun (h w.heap.size (w.alloc o) (heap_alloc_new w o) (Nat.le_refl _) (below_alloc (Below.refl _ _) _))
/-- A variable made in a region's step: a new block, by letters. -/
theorem pbox_ {oi : Oper} {N : Option Tmp} {a : Act} {w : World} {K : Act → World → Prop} (o : Obj) (hw : Region.wanted oi (yielded ops a.tmps) = true) (hN : oi.dst = N)
  (hrun : (execOp a.eval oi).run P w = .ok (.value (.pointer (some ⟨w.heap.size, 0, none⟩))) (w.alloc o))
  (h : ∀ g w1, w1.heap[g]? = some o → w.heap.size ≤ g → Below w.heap.size w w1 → K (a.put N (.pointer (some ⟨g, 0, none⟩))) w1) :
  if Region.wanted oi (yielded ops a.tmps) = true then Oper.wp P oi a w K Q else K (a.put N undef) w :=
 value_ hw hN hrun (h w.heap.size (w.alloc o) (heap_alloc_new w o) (Nat.le_refl _) (below_alloc (Below.refl _ _) _))
/-- append of one element that lies in a block of its own, in a region's step. -/
theorem app_ {oi : Oper} {N : Option Tmp} {a : Act} {W : World} {K : Act → World → Prop} (base : Nat) (hw : Region.wanted oi (yielded ops a.tmps) = true) (hN : oi.dst = N) (s x : Operand) (t e : TypeId) (z : Value) (size bytes : Nat)
  (ho : oi.op = .call { callee := .builtin .append, args := #[s, x], argTypes := #[t, t] })
  (ht : P.underlying t = some (.slice e)) (hinfo : (P.info? e).map (fun i => (i.zero, i.size, i.bytes)) = some (some z, size, bytes)) (hz : z.cells.size = size) (hs0 : 0 < size) (hb0 : 0 < bytes)
  (v : Value) (n : Nat) (xs ys : List Value) (hs : a.eval s = v) {g : Nat} {ty : TypeId} (hx : a.eval x = .slice (some ⟨g, 0, none⟩) 1 1) (hg : W.heap[g]? = some (.cells ys.toArray ty (0, 0))) (hys : ys.length = size) (h1 : ∀ u ∈ ys, u.oneCell' = true)
  (HO : W.ownsRow base e size v n xs) (hbase : base ≤ W.heap.size) (hl : (n + 1) * bytes ≤ 140737488355328)
  (h : ∀ v1 w1, w1.ownsRow base e size v1 (n + 1) (xs ++ ys) → W.grownBy w1 v.ownBlock → (v1.ownBlock = v.ownBlock ∨ v1.ownBlock = some W.heap.size) → K (a.put N v1) w1) :
  if Region.wanted oi (yielded ops a.tmps) = true then Oper.wp P oi a W K Q else K (a.put N undef) W := by
 obtain ⟨i0, hi, hzz⟩ := Option.map_eq_some_iff.1 hinfo
 simp only [Prod.mk.injEq] at hzz
 obtain ⟨hz0, hz1, hz2⟩ := hzz
 have hlen : n + 1 ≤ 140737488355328 := Nat.le_trans (Nat.le_mul_of_pos_right _ hb0) hl
 subst hN
 rw [if_pos hw]
 obtain ⟨v1, w1, hr, hown, hgr, _, hat⟩ := run_append_own_at (P := P) W base t oi.type e i0 z size bytes ht hi hz0 hz1 hz2 hz hs0 v n xs HO ⟨g, 0, none⟩ 1 1 ys (by rw [hys]; simp)
  (by simpa using World.news_of_block (cs := ys.toArray) (t := ty) (fr := (0, 0)) hg) h1 (by simp only [maxLen]; omega) hl hbase
 unfold Oper.wp execOp
 simp only [ho, resolve, invoke, builtin, Sem.run_bind, Sem.run_pure, Result.andThen_ok, List.map_toArray, List.map_cons, List.map_nil, hs, hx, hr]
 exact h v1 w1 hown hgr hat
end

theorem infoS4 : (Try.prog.info? 4).map (fun i => (i.zero, i.size, i.bytes)) = some (some (.bool false), 1, 1) := by kernel_rfl

/-- The plate at work: its block, its rows of pieces and of marks. -/
structure WorkAt (W : World) (base g : Nat) (a0 a1 a2 : Int) (sv v1 v2 : Value) (ps : List S103) (cs : List Bool) : Prop where
 blk : W.heap[g]? = some (.cells #[.int .i64 a0, .int .i64 a1, .int .i64 a2, sv, v1, v2] 134 (0, 0))
 lo : base ≤ g
 ps : W.ownsRow base 103 4 v1 ps.length (pcs ps)
 cs : W.ownsRow base 4 1 v2 cs.length (bools cs)
theorem WorkAt.below {W W' : World} {base g : Nat} {a0 a1 a2 : Int} {sv v1 v2 : Value} {ps : List S103} {cs : List Bool} (h : WorkAt W base g a0 a1 a2 sv v1 v2 ps cs) (hb : Below W.heap.size W W') : WorkAt W' base g a0 a1 a2 sv v1 v2 ps cs :=
 ⟨blk_below h.blk hb, h.lo, pw_own_below h.ps hb, pw_own_below h.cs hb⟩

/-! ### what do computes -/
def chk (a0 a1 a2 : Int) (l : List S115) : Int := (plate_CheckPlate.f a0 a1 a2 l).getD 0
def doStep (saw : Int) (st : List S103 × List Bool) (c : S112) : Option (List S103 × List Bool) :=
 if 0 ≤ c.f0 ∧ c.f0 < st.1.length then
  if st.2.getD c.f0.toNat false = true then none else
  let l := partsOf c.f1 (st.1.getD c.f0.toNat z103) c.f2 saw
  if l.length = 0 then none else some (st.1 ++ l, st.2.set c.f0.toNat true ++ l.map (fun _ => false))
 else none
def doAll (saw : Int) : List S103 × List Bool → List S112 → Option (List S103 × List Bool)
 | st, [] => some st
 | st, c :: cs => match doStep saw st c with
  | none => none
  | some st' => doAll saw st' cs
def doFin : Option (List S103 × List Bool) → Int × Option (List S103 × List Bool)
 | none => (11, none)
 | some st => (0, some st)
/-- The error, and the pieces with their marks. -/
def doOf (a0 a1 a2 : Int) (l : List S115) (cuts : List S112) : Int × Option (List S103 × List Bool) :=
 if chk a0 a1 a2 l ≠ 0 then (chk a0 a1 a2 l, none) else if 40 < cuts.length then (3, none) else
 doFin (doAll a2 ([⟨0, 0, a0, a1⟩], [false]) cuts)

theorem doAll_bad {saw : Int} {st : List S103 × List Bool} {c : S112} {cs : List S112} (h : doStep saw st c = none) : doAll saw st (c :: cs) = none := by simp only [doAll, h]
theorem doAll_good {saw : Int} {st st' : List S103 × List Bool} {c : S112} {cs : List S112} (h : doStep saw st c = some st') : doAll saw st (c :: cs) = doAll saw st' cs := by simp only [doAll, h]
theorem within_yes {a b c : Int} (h : b ≤ a ∧ a ≤ c) : plate_within.f a b c = some true := by unfold plate_within.f; rw [if_pos h.1, decide_eq_true h.2]
theorem within_no {a b c : Int} (h : ¬ (b ≤ a ∧ a ≤ c)) : plate_within.f a b c = some false := by
 unfold plate_within.f
 by_cases h1 : b ≤ a
 ·rw [if_pos h1, decide_eq_false (fun h2 => h ⟨h1, h2⟩)]
 ·rw [if_neg h1]
end Go.Proofs.Ytffjbaknglemdaa.X
