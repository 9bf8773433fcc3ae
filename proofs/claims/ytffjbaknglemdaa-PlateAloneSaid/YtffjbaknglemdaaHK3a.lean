import Derived.Test.YtffjbaknglemdaaHP1
import Derived.DeepKeys
namespace Go.Proofs.Ytffjbaknglemdaa.X
open Go.RowKit Go.Maps Go.Proofs.YtffjbaknglemdaaW.PrintWords Go.Proofs.YtffjbaknglemdaaW.PrintLast Go.Proofs.YtffjbaknglemdaaW.PrintMore
set_option linter.unusedSimpArgs false
set_option linter.unusedVariables false
theorem laid : laidOutB Try.prog = true := by kernel_rfl
theorem row149 : (149 : TypeId) < Try.prog.types.size := of_decide_eq_true (by kernel_rfl)
theorem wide149 : (match Try.prog.underlying 149 with | some (.array _ _) | some (.struct _) => true | _ => false) = true := by rw [Try.underlying149]
set_option maxRecDepth 100000 in
theorem keyed149 : Keyed Try.prog 149 := Keyed.of_law (deep_law_laid laid (m := 4) (by omega) row149 (by kernel_rfl) wide149)
theorem cells4 : Try.prog.cellsOf 4 = 1 := by kernel_rfl
theorem plain4 : Try.prog.plainKey 4 = true := by kernel_rfl
theorem eqB (d : Nat) (x y : Bool) (w : World) : (Op.equalIn (d + 1) 4 (.bool x) (.bool y)).run Try.prog w = .ok (x == y) w := by
 simp [Op.equalIn, run_underlying Try.underlying4, Result.andThen]
theorem eqI_cons (d : Nat) (xs ys : Array Value) (i : Nat) (is : List Nat) (x y s : Bool) (w : World) (hx : xs[i * 1]? = some (.bool x)) (hy : ys[i * 1]? = some (.bool y)) (h : (Op.eqItems (d + 1) 4 1 xs ys is).run Try.prog w = .ok s w) :
  (Op.eqItems (d + 1) 4 1 xs ys (i :: is)).run Try.prog w = .ok (x == y && s) w := by
 simp only [Op.eqItems, Sem.run_bind, run_part_plain w plain4 hx, run_part_plain w plain4 hy, eqB, Result.andThen_ok]
 cases x == y
 ·simp
 ·simpa using h
theorem eqA141 (d : Nat) (w : World) (x0 y0 x1 y1 x2 y2 x3 y3 : Bool) :
  (Op.equalIn (d + 2) 141 (.agg #[.bool x0, .bool x1, .bool x2, .bool x3]) (.agg #[.bool y0, .bool y1, .bool y2, .bool y3])).run Try.prog w = .ok (x0 == y0 && (x1 == y1 && (x2 == y2 && (x3 == y3 && true)))) w := by
 obtain ⟨i, hi, -⟩ := info_parts infoS4
 rw [show d + 2 = (d + 1) + 1 from rfl, run_equalIn_array w (d + 1) _ _ Try.underlying141 hi, cells4]
 exact eqI_cons d _ _ 0 [1, 2, 3] _ _ _ w rfl rfl (eqI_cons d _ _ 1 [2, 3] _ _ _ w rfl rfl (eqI_cons d _ _ 2 [3] _ _ _ w rfl rfl (eqI_cons d _ _ 3 [] _ _ _ w rfl rfl (by simp [Op.eqItems]))))
theorem eqW (a b : W4) (w : World) : (binOp .eql 141 (.agg #[.bool a.b0, .bool a.b1, .bool a.b2, .bool a.b3]) (.agg #[.bool b.b0, .bool b.b1, .bool b.b2, .bool b.b3])).run Try.prog w = .ok (.bool (decide (a = b))) w := by
 have h := eqA141 9998 w a.b0 b.b0 a.b1 b.b1 a.b2 b.b2 a.b3 b.b3
 have e : (a.b0 == b.b0 && (a.b1 == b.b1 && (a.b2 == b.b2 && (a.b3 == b.b3 && true)))) = decide (a = b) := by
  obtain ⟨a0, a1, a2, a3⟩ := a
  obtain ⟨b0, b1, b2, b3⟩ := b
  rw [Bool.eq_iff_iff]; simp
 rw [e] at h
 simp [binOp, Op.equal, Op.maxDepth, h, Result.andThen]
theorem neW (a b : W4) (w : World) : (binOp .neq 141 (.agg #[.bool a.b0, .bool a.b1, .bool a.b2, .bool a.b3]) (.agg #[.bool b.b0, .bool b.b1, .bool b.b2, .bool b.b3])).run Try.prog w = .ok (.bool (!decide (a = b))) w := by
 have h := eqA141 9998 w a.b0 b.b0 a.b1 b.b1 a.b2 b.b2 a.b3 b.b3
 have e : (a.b0 == b.b0 && (a.b1 == b.b1 && (a.b2 == b.b2 && (a.b3 == b.b3 && true)))) = decide (a = b) := by
  obtain ⟨a0, a1, a2, a3⟩ := a
  obtain ⟨b0, b1, b2, b3⟩ := b
  rw [Bool.eq_iff_iff]; simp
 rw [e] at h
 simp [binOp, Op.equal, Op.maxDepth, h, Result.andThen]
theorem kl3 (D : Nat) {n : Int} (h : (Lit.int .i64 n).wf = true) : Try.prog.keyLits (D + 1) 3 [.int .i64 n] = some [.int .i64 n] := by
 unfold Program.keyLits; simp only [Try.underlying3, h]; simp
theorem kl4 (D : Nat) (b : Bool) : Try.prog.keyLits (D + 1) 4 [.bool b] = some [.bool b] := by
 unfold Program.keyLits; simp only [Try.underlying4]
theorem cells3 : Try.prog.cellsOf 3 = 1 := by kernel_rfl
theorem cells103 : Try.prog.cellsOf 103 = 4 := by kernel_rfl
theorem cells141 : Try.prog.cellsOf 141 = 4 := by kernel_rfl
theorem cells149 : Try.prog.cellsOf 149 = 8 := by kernel_rfl
theorem wfI {n : Int} (h : -9223372036854775808 ≤ n ∧ n ≤ 9223372036854775807) : (Lit.int .i64 n).wf = true := by
 have e1 : IntKind.i64.min = -9223372036854775808 := (by decide); have e2 : IntKind.i64.max = 9223372036854775807 := (by decide); simp [Lit.wf, e1, e2]; omega
theorem kl103 (D : Nat) {a b c d : Int} (ha : (Lit.int .i64 a).wf = true) (hb : (Lit.int .i64 b).wf = true) (hc : (Lit.int .i64 c).wf = true) (hd : (Lit.int .i64 d).wf = true) :
  Try.prog.keyLits (D + 2) 103 [.int .i64 a, .int .i64 b, .int .i64 c, .int .i64 d] = some [.int .i64 a, .int .i64 b, .int .i64 c, .int .i64 d] := by
 unfold Program.keyLits
 simp only [Try.underlying103, cells103]
 simp [cells3, kl3 D ha, kl3 D hb, kl3 D hc, kl3 D hd]
theorem kl141 (D : Nat) (a b c d : Bool) : Try.prog.keyLits (D + 2) 141 [.bool a, .bool b, .bool c, .bool d] = some [.bool a, .bool b, .bool c, .bool d] := by
 unfold Program.keyLits
 simp only [Try.underlying141, cells141]
 simp [cells4, kl4 D, show List.range 4 = [0, 1, 2, 3] from rfl]
theorem key149 {p : S103} (hp : In8 p) (v : W4) : ∃ kl, keyOf Try.prog 149 (stateV p v) = some kl := by
 obtain ⟨x0, y0, w0, l0, x1, y1⟩ := hp
 unfold stateV
 obtain ⟨m, hm⟩ : ∃ m, Try.prog.types.size + 1 = m + 3 := ⟨Try.prog.types.size - 2, by have : 10 ≤ Try.prog.types.size := of_decide_eq_true (by kernel_rfl); omega⟩
 have h1 := kl103 m (wfI (n := p.f0) (by omega)) (wfI (n := p.f1) (by omega)) (wfI (n := p.f2) (by omega)) (wfI (n := p.f3) (by omega))
 have h2 := kl141 m v.b0 v.b1 v.b2 v.b3
 have hkt : Try.prog.keyType 149 = true := by kernel_rfl
 unfold keyOf
 simp only [Try.underlying149]
 rw [if_pos (by simp [hkt, Value.formed, Try.underlying149, cells149]), hm]
 unfold Program.keyLits
 simp only [Try.underlying149, Value.cells, cells149]
 simp [cells103, cells141, h1, h2]
end Go.Proofs.Ytffjbaknglemdaa.X
