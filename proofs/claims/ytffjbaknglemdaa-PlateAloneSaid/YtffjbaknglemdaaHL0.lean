import Derived.Test.YtffjbaknglemdaaHQ1
namespace Go.Proofs.Ytffjbaknglemdaa.X
open Go.RowKit Go.Maps Go.Proofs.YtffjbaknglemdaaW.PrintWords Go.Proofs.YtffjbaknglemdaaW.PrintLast Go.Proofs.YtffjbaknglemdaaW.PrintMore
set_option linter.unusedSimpArgs false
set_option linter.unusedVariables false

/-! ### the contracts in the form in which the statements call them -/
section
variable {W : World} {a0 a1 a2 : Int} {A B E : Option Addr} {n m q c d u : Nat} {l : List S115} {cuts : List S112} {uses : List Int}
theorem C_len {α : Type} {k : Kd α} {xs : List α} (h : Kd.C k W A n xs) : xs.length = n := h.1
theorem own_C115 {base : Nat} {xs : List S115} (h : W.ownsRow base 115 8 (.slice A n c) n (xs.flatMap wc)) (hn : xs.length = n) : n ≤ c ∧ Kd.C k115 W A n xs := by
  subst hn
  have := Kd.R_reads' (own_R115 (ok := fun _ => True) h (fun _ _ => trivial))
  exact ⟨this.2.1, this.2.2⟩
theorem own_C112 {base : Nat} {xs : List S112} (h : W.ownsRow base 112 3 (.slice A n c) n (ccs xs)) (hn : xs.length = n) : n ≤ c ∧ Kd.C k112 W A n xs := by
  subst hn
  have := Kd.R_reads' (own_R112 (ok := fun _ => True) h (fun _ _ => trivial))
  exact ⟨this.2.1, this.2.2⟩
theorem own_Cint {base : Nat} {xs : List Int} (h : W.ownsRow base 3 1 (.slice A n c) n (ints xs)) (hn : xs.length = n) : n ≤ c ∧ Kd.C (Kd.int .i64) W A n xs := by
  subst hn
  have := Kd.R_reads' (own_Rint (ok := fun _ => True) h (fun _ _ => trivial))
  exact ⟨this.2.1, this.2.2⟩
theorem own_C103 {base : Nat} {xs : List S103} (h : W.ownsRow base 103 4 (.slice A n c) n (pcs xs)) (hn : xs.length = n) : n ≤ c ∧ Kd.C k103 W A n xs := by
  subst hn
  have := Kd.R_reads' (own_R103 (ok := fun _ => True) h (fun _ _ => trivial))
  exact ⟨this.2.1, this.2.2⟩
theorem own_C88 {base : Nat} {xs : List S88} (h : W.ownsRow base 88 4 (.slice A n c) n (pvs xs)) (hn : xs.length = n) : n ≤ c ∧ Kd.C k88 W A n xs := by
  subst hn
  have := Kd.R_reads' (own_R88 (ok := fun _ => True) h (fun _ _ => trivial))
  exact ⟨this.2.1, this.2.2⟩
theorem lplate_of {l : List S82} (hl : Kd.C k82 W A n l) (hcm : n ≤ 1000) : Calls Try.prog 27 #[.agg #[.int .i64 a0, .int .i64 a1, .int .i64 a2, .slice A n c]] W fun e w' => ∃ P p, e = .returned (.agg #[.int .i64 a0, .int .i64 a1, .int .i64 a2, .slice P n p]) ∧ n ≤ p ∧ Kd.C k115 w' P n (l.map toW) ∧ Below W.heap.size W w' := by
  obtain rfl := C_len hl
  refine (lplate_calls a0 a1 a2 A c l W hl hcm).mono ?_
  rintro e w' ⟨v, rfl, ow, hb⟩
  obtain ⟨P, p, rfl⟩ := own_form ow
  have := own_C115 ow (by simp)
  exact ⟨P, p, rfl, this.1, this.2, hb⟩
theorem lcuts_of {cuts : List S107} (hq : Kd.C k107 W B m cuts) (hcm : m ≤ 1000) : Calls Try.prog 49 #[.slice B m d] W fun e w' => ∃ P p, e = .returned (.slice P m p) ∧ m ≤ p ∧ Kd.C k112 w' P m (cuts.map toC) ∧ Below W.heap.size W w' := by
  obtain rfl := C_len hq
  refine (lcuts_calls B d cuts W hq hcm).mono ?_
  rintro e w' ⟨v, rfl, ow, hb⟩
  obtain ⟨P, p, rfl⟩ := own_form ow
  have := own_C112 ow (by simp)
  exact ⟨P, p, rfl, this.1, this.2, hb⟩
theorem lplan_of {cuts : List S107} (hq : Kd.C k107 W B m cuts) (hcm : m ≤ 1000) (hu : Kd.C (Kd.int .i64) W E q uses) (hum : q ≤ 1000) : Calls Try.prog 28 #[.agg #[.slice B m d, .slice E q u]] W fun e w' => ∃ P p R r, e = .returned (.agg #[.slice P m p, .slice R q r]) ∧ m ≤ p ∧ q ≤ r ∧ Kd.C k112 w' P m (cuts.map toC) ∧ Kd.C (Kd.int .i64) w' R q uses ∧ Below W.heap.size W w' := by
  obtain rfl := C_len hq
  obtain rfl := C_len hu
  refine (lplan_calls B d cuts E u uses W hq hcm hu hum).mono ?_
  rintro e w' ⟨v, v', rfl, ow, ow', hb⟩
  obtain ⟨P, p, rfl⟩ := own_form ow
  obtain ⟨R, r, rfl⟩ := own_form ow'
  have h1 := own_C112 ow (by simp)
  have h2 := own_Cint ow' rfl
  exact ⟨P, p, R, r, rfl, h1.1, h2.1, h1.2, h2.2, hb⟩
theorem check_of (hA : Kd.C k115 W A n l) (hn : n ≤ c) : Calls Try.prog 47 #[.agg #[.int .i64 a0, .int .i64 a1, .int .i64 a2, .slice A n c]] W fun e w' => e = .returned (.int .i64 (chk a0 a1 a2 l)) ∧ Below W.heap.size W w' := by
  obtain rfl := C_len hA
  exact plate_CheckPlate.calls a0 a1 a2 A c l _ W hA hn (checkPlate_some a0 a1 a2 l)
theorem weigh_of {r1 r2 r3 r4 r5 : Int} (hA : Kd.C k115 W A n l) (hn : n ≤ c) (hB : Kd.C k112 W B m cuts) (hm : m ≤ d) (hE : Kd.C (Kd.int .i64) W E q uses) (hq : q ≤ u) (h : plate_Weigh.f a0 a1 a2 l cuts uses = some (r1, r2, r3, r4, r5)) :
    Calls Try.prog 26 #[.agg #[.int .i64 a0, .int .i64 a1, .int .i64 a2, .slice A n c], .agg #[.slice B m d, .slice E q u]] W fun e w' => e = .returned (.tuple #[.agg #[.int .i64 r1, .int .i64 r2, .int .i64 r3, .int .i64 r4], .int .i64 r5]) ∧ Below W.heap.size W w' := by
  obtain rfl := C_len hA
  obtain rfl := C_len hB
  obtain rfl := C_len hE
  exact plate_Weigh.calls a0 a1 a2 A c l B d cuts E u uses r1 r2 r3 r4 r5 W hA hn hB hm hE hq h
theorem trace_of {x y r1 r2 r3 : Int} (hA : Kd.C k115 W A n l) (hn : n ≤ c) (hB : Kd.C k112 W B m cuts) (hm : m ≤ d) (hE : Kd.C (Kd.int .i64) W E q uses) (hq : q ≤ u) (h : plate_Trace.f a0 a1 a2 l cuts uses x y = some (r1, r2, r3)) :
    Calls Try.prog 31 #[.agg #[.int .i64 a0, .int .i64 a1, .int .i64 a2, .slice A n c], .agg #[.slice B m d, .slice E q u], .int .i64 x, .int .i64 y] W fun e w' => e = .returned (.tuple #[.int .i64 r1, .int .i64 r2, .int .i64 r3]) ∧ Below W.heap.size W w' := by
  obtain rfl := C_len hA
  obtain rfl := C_len hB
  obtain rfl := C_len hE
  exact plate_Trace.calls a0 a1 a2 A c l B d cuts E u uses x y r1 r2 r3 W hA hn hB hm hE hq h
theorem prove_of {x y : Int} {r : Bool} (hA : Kd.C k115 W A n l) (hn : n ≤ c) (hB : Kd.C k112 W B m cuts) (hm : m ≤ d) (hE : Kd.C (Kd.int .i64) W E q uses) (hq : q ≤ u) (h : plate_ProvePlan.f a0 a1 a2 l cuts uses x y = some r) :
    Calls Try.prog 46 #[.agg #[.int .i64 a0, .int .i64 a1, .int .i64 a2, .slice A n c], .agg #[.slice B m d, .slice E q u], .int .i64 x, .int .i64 y] W fun e w' => e = .returned (.bool r) ∧ Below W.heap.size W w' := by
  obtain rfl := C_len hA
  obtain rfl := C_len hB
  obtain rfl := C_len hE
  exact plate_ProvePlan.calls a0 a1 a2 A c l B d cuts E u uses x y r W hA hn hB hm hE hq h
theorem pieces_of {r1 : List S103} {r2 : Int} {k : Nat} (hA : Kd.C k115 W A n l) (hn : n ≤ c) (hB : Kd.C k112 W B m cuts) (hm : m ≤ d) (h : plate_Pieces.f a0 a1 a2 l cuts = some (r1, r2)) (hk : r1.length = k) :
    Calls Try.prog 48 #[.agg #[.int .i64 a0, .int .i64 a1, .int .i64 a2, .slice A n c], .slice B m d] W fun e w' => ∃ P p, e = .returned (.tuple #[.slice P k p, .int .i64 r2]) ∧ Kd.C k103 w' P k r1 ∧ Below W.heap.size W w' := by
  obtain rfl := C_len hA
  obtain rfl := C_len hB
  subst hk
  refine (plate_Pieces.calls a0 a1 a2 A c l B d cuts r1 r2 W hA hn hB hm h).mono ?_
  rintro e w' ⟨v, rfl, hR, hb⟩
  have ho := R103_own hR
  obtain ⟨P, p, rfl⟩ := own_form ho
  exact ⟨P, p, rfl, (own_C103 ho rfl).2, hb⟩
theorem best_of {r1 : List S112} {r2 : List Int} {r3 r4 : Int} {k j : Nat} (hA : Kd.C k115 W A n l) (hn : n ≤ c) (h : plate_Best.f a0 a1 a2 l = some (r1, r2, r3, r4)) (hk : r1.length = k) (hj : r2.length = j) :
    Calls Try.prog 36 #[.agg #[.int .i64 a0, .int .i64 a1, .int .i64 a2, .slice A n c]] W fun e w' => ∃ P p R r, e = .returned (.tuple #[.agg #[.slice P k p, .slice R j r], .int .i64 r3, .int .i64 r4]) ∧ k ≤ p ∧ j ≤ r ∧ Kd.C k112 w' P k r1 ∧ Kd.C (Kd.int .i64) w' R j r2 ∧ Below W.heap.size W w' := by
  obtain rfl := C_len hA
  subst hk hj
  refine (plate_Best.calls a0 a1 a2 A c l r1 r2 r3 r4 W hA hn h).mono ?_
  rintro e w' ⟨v, v', rfl, hR, hR', hb⟩
  obtain ⟨P, p, rfl, h1, h2⟩ := Kd.R_reads hR
  obtain ⟨R, r, rfl, h3, h4⟩ := Kd.R_reads hR'
  exact ⟨P, p, R, r, rfl, h1, h3, h2, h4, hb⟩
end
/-- The world behind some calls of a statement: its plate lies in a block of its own. -/
structure LI (w : World) (a0 a1 a2 : Int) (sv : Value) (wr : World) : Prop where
  b0 : wr.heap[w.heap.size]? = some (.cells #[.int .i64 a0, .int .i64 a1, .int .i64 a2, sv] 24 (0, 0))
  low : Below w.heap.size w wr
theorem LI.below {w wr W : World} {a0 a1 a2 : Int} {sv : Value} (h : LI w a0 a1 a2 sv wr) (hb : Below wr.heap.size wr W) : LI w a0 a1 a2 sv W := ⟨blk_below h.b0 hb, below_step h.low hb⟩
end Go.Proofs.Ytffjbaknglemdaa.X
