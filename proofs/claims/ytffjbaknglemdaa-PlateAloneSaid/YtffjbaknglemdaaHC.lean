import Derived.Test.YtffjbaknglemdaaHB
import Derived.Test.YtffjbaknglemdaaXF74
import Derived.Test.YtffjbaknglemdaaXF99
import Derived.Test.YtffjbaknglemdaaXF72
namespace Go.Proofs.Ytffjbaknglemdaa.X
open Go.RowKit Go.Proofs.YtffjbaknglemdaaW.PrintWords Go.Proofs.YtffjbaknglemdaaW.PrintLast Go.Proofs.YtffjbaknglemdaaW.PrintMore
set_option linter.unusedSimpArgs false
set_option linter.unusedVariables false

/-- The list has one that q refuses, from i on. -/
theorem any_drop {α : Type} (q : α → Bool) (l : List α) (i : Nat) (h : i < l.length) (z : α) : (l.drop i).any (fun x => !q x) = (!q (l.getD i z) || (l.drop (i + 1)).any (fun x => !q x)) := by
  rw [List.drop_eq_getElem_cons h, List.any_cons]
  simp [List.getD_eq_getElem?_getD, h]
def IdxEnd {α : Type} (q : α → Bool) (l : List α) (w : World) (e : Ending) (w' : World) : Prop := ∃ r : Int, e = .returned (.int .i64 r) ∧ decide (r ≥ 0) = l.any (fun x => !q x) ∧ Below w.heap.size w w'
theorem max_len {n : Nat} (h : n ≤ 140737488351232) : n ≤ 9223372036854775807 := by omega

/-! ### all[S115] -/
def arg108 (x : S115) : Value := .agg #[.int .i64 x.f0, .int .i64 x.f1, .bool x.f2, .int .i64 x.f3, .int .i64 x.f4.f0, .int .i64 x.f4.f1, .int .i64 x.f5.f0, .int .i64 x.f5.f1]
/-- right: a function value that answers q in every world from w on, and turns nothing that was. -/
def Right108 (right : Value) (q : S115 → Bool) (w : World) : Prop := ∃ (f : Nat) (cs : Array Value), right = .func (.func f) #[] cs ∧ (∀ args W, (callFunc f args).run Try.prog W = .ok (.enter f args) W) ∧ ∀ x W, Below w.heap.size w W → Calls Try.prog f (#[arg108 x] ++ cs) W fun e W' => e = .returned (.bool (q x)) ∧ Below W.heap.size W W'
theorem Right108.below {right : Value} {q : S115 → Bool} {w w' : World} (h : Right108 right q w) (hb : Below w.heap.size w w') : Right108 right q w' := by
  obtain ⟨f, cs, h1, h2, h3⟩ := h
  exact ⟨f, cs, h1, h2, fun x W hW => h3 x W (below_step hb hW)⟩
set_option maxRecDepth 100000 in
set_option maxHeartbeats 1000000 in
theorem clo94_calls (q : S115 → Bool) (f : Nat) (cs : Array Value) (b : Nat) (x : S115) (w : World) (hB : w.heap[b]? = some (.cells #[.func (.func f) #[] cs] 167 (0, 0)))
    (hent : ∀ args W, (callFunc f args).run Try.prog W = .ok (.enter f args) W) (hcall : ∀ W, Below w.heap.size w W → Calls Try.prog f (#[arg108 x] ++ cs) W fun e W' => e = .returned (.bool (q x)) ∧ Below W.heap.size W W') :
    Calls Try.prog 94 #[arg108 x, .pointer (some ⟨b, 0, none⟩)] w fun e w' => e = .returned (.bool (!q x)) ∧ Below w.heap.size w w' := by
  have hc : w.cell? ⟨b, 0, none⟩ = some (.func (.func f) #[] cs) := (blk_cell hB 0).trans rfl
  have hblt := blk_lt hB
  have HC := Lib.hid hcall
  have HE := Lib.hid hent
  clear hcall hent hB
  unfold arg108
  go_enter Try.func94, Try.ntmps94
  go_wp2_with fail
  rw [HE.out, Oper.upon_enter]
  refine (HC.out _ (below_alloc (Below.refl _ _) _)).mono ?_
  rintro e w1 ⟨rfl, hb⟩
  go_wp2
  go_ret
  exact ⟨rfl, below_step (below_alloc (Below.refl _ _) _) hb⟩

set_option maxRecDepth 100000 in
set_option maxHeartbeats 2000000 in
theorem idx108_calls (q : S115 → Bool) (f : Nat) (cs : Array Value) (b : Nat) (A : Option Addr) (c : Nat) (l : List S115) (w : World) (hl : Kd.C k115 w A l.length l) (hlc : l.length ≤ c) (hB : w.heap[b]? = some (.cells #[.func (.func f) #[] cs] 167 (0, 0)))
    (hent : ∀ args W, (callFunc f args).run Try.prog W = .ok (.enter f args) W) (hcall : ∀ x W, Below w.heap.size w W → Calls Try.prog f (#[arg108 x] ++ cs) W fun e W' => e = .returned (.bool (q x)) ∧ Below W.heap.size W W') :
    Calls Try.prog 108 #[.slice A l.length c, .func (.func 94) #[] #[.pointer (some ⟨b, 0, none⟩)]] w (IdxEnd q l w) := by
  have hmax : l.length ≤ 9223372036854775807 := hl.2.1
  have HL := Lib.hid hl
  have HBK := Lib.hid hB
  have HC := Lib.hid hcall
  have HE := Lib.hid hent
  clear hcall hent hB hl
  go_enter Try.func108, Try.ntmps108
  go_wp2
  go_loopw [8] (fun v wr => ∃ k : Nat, v = .int .i64 k ∧ k ≤ l.length ∧ Hid (l.any (fun x => !q x) = (l.drop k).any (fun x => !q x)) ∧ Below w.heap.size w wr) (fun v _ => l.length - (intOf v).toNat)
  case atStart => exact ⟨0, rfl, Nat.zero_le _, Lib.hid (by simp), Below.refl _ _⟩
  case round =>
    obtain ⟨k, rfl, hk, HQ, hB⟩ := hrel
    by_cases hlt : k < l.length
    · have hi0 : (0 : Int) ≤ (k : Int) := by omega
      have hi1 : (k : Int) < (l.length : Int) := by omega
      obtain ⟨ad, rfl, hx0, hx1, hx2, hx3, hx4, hx5, hx6, hx7⟩ := at_T115 (Kd.C_below HL.out hB) (k : Int) hi0 hi1
      simp only [Int.toNat_natCast] at hx0 hx1 hx2 hx3 hx4 hx5 hx6 hx7
      have hstep := any_drop q l k hlt z115
      have HS := Lib.hid hstep
      clear hstep
      have hgd : rd_T115 l (k : Int) = l.getD k z115 := by simp [rd_T115]
      rw [hgd] at hx0 hx1 hx2 hx3 hx4 hx5 hx6 hx7
      have HG := Lib.hid hgd
      clear hgd
      generalize hxe : l.getD k z115 = x at *
      have HX := Lib.hid hxe
      clear hxe
      go_wp2_with (go_at_call 94; refine (clo94_calls q f cs b x _ (blk_below HBK.out (by exact hB)) HE.out (fun W hW => HC.out x W (below_step hB hW))).mono ?_; rintro e w1 ⟨rfl, hb1⟩)
      · go_ret
        refine ⟨(k : Int), rfl, ?_, below_step hB hb1⟩
        have h : (!q x) = true := by assumption
        rw [HQ.out, HS.out, h]
        simp
      · have h : (!q x) = false := by assumption
        refine ⟨⟨k + 1, by simp, by omega, Lib.hid (by rw [HQ.out, HS.out, h]; simp), below_step hB hb1⟩, by simp [intOf]; omega⟩
    · go_wp2
      go_ret
      refine ⟨-1, rfl, ?_, hB⟩
      obtain rfl : k = l.length := by omega
      rw [HQ.out]
      simp

set_option maxRecDepth 100000 in
set_option maxHeartbeats 1000000 in
theorem con93_calls (q : S115 → Bool) (f : Nat) (cs : Array Value) (b : Nat) (A : Option Addr) (c : Nat) (l : List S115) (w : World) (hl : Kd.C k115 w A l.length l) (hlc : l.length ≤ c) (hB : w.heap[b]? = some (.cells #[.func (.func f) #[] cs] 167 (0, 0)))
    (hent : ∀ args W, (callFunc f args).run Try.prog W = .ok (.enter f args) W) (hcall : ∀ x W, Below w.heap.size w W → Calls Try.prog f (#[arg108 x] ++ cs) W fun e W' => e = .returned (.bool (q x)) ∧ Below W.heap.size W W') :
    Calls Try.prog 93 #[.slice A l.length c, .func (.func 94) #[] #[.pointer (some ⟨b, 0, none⟩)]] w fun e w' => e = .returned (.bool (l.any (fun x => !q x))) ∧ Below w.heap.size w w' := by
  have h1 := idx108_calls q f cs b A c l w hl hlc hB hent hcall
  have H1 := Lib.hid h1
  clear h1 hl hB hent hcall
  go_enter Try.func93, Try.ntmps93
  go_wp2_with (go_at_call 108; refine H1.out.mono ?_; rintro e w1 ⟨r, rfl, hr, hb⟩; have HR := Lib.hid hr; clear hr)
  go_ret
  exact ⟨by rw [← HR.out]; rfl, hb⟩

set_option maxRecDepth 100000 in
set_option maxHeartbeats 1000000 in
/-- all(l, right). -/
theorem all73_calls (q : S115 → Bool) (f : Nat) (cs : Array Value) (A : Option Addr) (c : Nat) (l : List S115) (w : World) (hl : Kd.C k115 w A l.length l) (hlc : l.length ≤ c)
    (hent : ∀ args W, (callFunc f args).run Try.prog W = .ok (.enter f args) W) (hcall : ∀ x W, Below w.heap.size w W → Calls Try.prog f (#[arg108 x] ++ cs) W fun e W' => e = .returned (.bool (q x)) ∧ Below W.heap.size W W') :
    Calls Try.prog 73 #[.slice A l.length c, .func (.func f) #[] cs] w fun e w' => e = .returned (.bool (l.all q)) ∧ Below w.heap.size w w' := by
  have h1 := con93_calls q f cs w.heap.size A c l (w.alloc (.cells #[.func (.func f) #[] cs] 167)) (Kd.C_below hl (below_alloc (Below.refl _ _) _)) hlc (alloc_at rfl) hent (fun x W hW => hcall x W (below_step (below_alloc (Below.refl _ _) _) hW))
  have H1 := Lib.hid h1
  clear h1 hl hent hcall
  go_enter Try.func73, Try.ntmps73
  go_wp2_with (go_at_call 93; refine H1.out.mono ?_; rintro e w1 ⟨rfl, hb⟩)
  go_ret
  exact ⟨by simp [List.any_eq_not_all_not], below_step (below_alloc (Below.refl _ _) _) hb⟩

/-! ### all[S118] -/
def arg112 (x : S118) : Value := .agg #[.int .i64 x.f0, .int .i64 x.f1, .int .i64 x.f2]
/-- right: a function value that answers q in every world from w on, and turns nothing that was. -/
def Right112 (right : Value) (q : S118 → Bool) (w : World) : Prop := ∃ (f : Nat) (cs : Array Value), right = .func (.func f) #[] cs ∧ (∀ args W, (callFunc f args).run Try.prog W = .ok (.enter f args) W) ∧ ∀ x W, Below w.heap.size w W → Calls Try.prog f (#[arg112 x] ++ cs) W fun e W' => e = .returned (.bool (q x)) ∧ Below W.heap.size W W'
theorem Right112.below {right : Value} {q : S118 → Bool} {w w' : World} (h : Right112 right q w) (hb : Below w.heap.size w w') : Right112 right q w' := by
  obtain ⟨f, cs, h1, h2, h3⟩ := h
  exact ⟨f, cs, h1, h2, fun x W hW => h3 x W (below_step hb hW)⟩
set_option maxRecDepth 100000 in
set_option maxHeartbeats 1000000 in
theorem clo110_calls (q : S118 → Bool) (f : Nat) (cs : Array Value) (b : Nat) (x : S118) (w : World) (hB : w.heap[b]? = some (.cells #[.func (.func f) #[] cs] 190 (0, 0)))
    (hent : ∀ args W, (callFunc f args).run Try.prog W = .ok (.enter f args) W) (hcall : ∀ W, Below w.heap.size w W → Calls Try.prog f (#[arg112 x] ++ cs) W fun e W' => e = .returned (.bool (q x)) ∧ Below W.heap.size W W') :
    Calls Try.prog 110 #[arg112 x, .pointer (some ⟨b, 0, none⟩)] w fun e w' => e = .returned (.bool (!q x)) ∧ Below w.heap.size w w' := by
  have hc : w.cell? ⟨b, 0, none⟩ = some (.func (.func f) #[] cs) := (blk_cell hB 0).trans rfl
  have hblt := blk_lt hB
  have HC := Lib.hid hcall
  have HE := Lib.hid hent
  clear hcall hent hB
  unfold arg112
  go_enter Try.func110, Try.ntmps110
  go_wp2_with fail
  rw [HE.out, Oper.upon_enter]
  refine (HC.out _ (below_alloc (Below.refl _ _) _)).mono ?_
  rintro e w1 ⟨rfl, hb⟩
  go_wp2
  go_ret
  exact ⟨rfl, below_step (below_alloc (Below.refl _ _) _) hb⟩

set_option maxRecDepth 100000 in
set_option maxHeartbeats 2000000 in
theorem idx112_calls (q : S118 → Bool) (f : Nat) (cs : Array Value) (b : Nat) (A : Option Addr) (c : Nat) (l : List S118) (w : World) (hl : Kd.C k118 w A l.length l) (hlc : l.length ≤ c) (hB : w.heap[b]? = some (.cells #[.func (.func f) #[] cs] 190 (0, 0)))
    (hent : ∀ args W, (callFunc f args).run Try.prog W = .ok (.enter f args) W) (hcall : ∀ x W, Below w.heap.size w W → Calls Try.prog f (#[arg112 x] ++ cs) W fun e W' => e = .returned (.bool (q x)) ∧ Below W.heap.size W W') :
    Calls Try.prog 112 #[.slice A l.length c, .func (.func 110) #[] #[.pointer (some ⟨b, 0, none⟩)]] w (IdxEnd q l w) := by
  have hmax : l.length ≤ 9223372036854775807 := hl.2.1
  have HL := Lib.hid hl
  have HBK := Lib.hid hB
  have HC := Lib.hid hcall
  have HE := Lib.hid hent
  clear hcall hent hB hl
  go_enter Try.func112, Try.ntmps112
  go_wp2
  go_loopw [8] (fun v wr => ∃ k : Nat, v = .int .i64 k ∧ k ≤ l.length ∧ Hid (l.any (fun x => !q x) = (l.drop k).any (fun x => !q x)) ∧ Below w.heap.size w wr) (fun v _ => l.length - (intOf v).toNat)
  case atStart => exact ⟨0, rfl, Nat.zero_le _, Lib.hid (by simp), Below.refl _ _⟩
  case round =>
    obtain ⟨k, rfl, hk, HQ, hB⟩ := hrel
    by_cases hlt : k < l.length
    · have hi0 : (0 : Int) ≤ (k : Int) := by omega
      have hi1 : (k : Int) < (l.length : Int) := by omega
      obtain ⟨ad, rfl, hx0, hx1, hx2⟩ := at_T118 (Kd.C_below HL.out hB) (k : Int) hi0 hi1
      simp only [Int.toNat_natCast] at hx0 hx1 hx2
      have hstep := any_drop q l k hlt z118
      have HS := Lib.hid hstep
      clear hstep
      have hgd : rd_T118 l (k : Int) = l.getD k z118 := by simp [rd_T118]
      rw [hgd] at hx0 hx1 hx2
      have HG := Lib.hid hgd
      clear hgd
      generalize hxe : l.getD k z118 = x at *
      have HX := Lib.hid hxe
      clear hxe
      go_wp2_with (go_at_call 110; refine (clo110_calls q f cs b x _ (blk_below HBK.out (by exact hB)) HE.out (fun W hW => HC.out x W (below_step hB hW))).mono ?_; rintro e w1 ⟨rfl, hb1⟩)
      · go_ret
        refine ⟨(k : Int), rfl, ?_, below_step hB hb1⟩
        have h : (!q x) = true := by assumption
        rw [HQ.out, HS.out, h]
        simp
      · have h : (!q x) = false := by assumption
        refine ⟨⟨k + 1, by simp, by omega, Lib.hid (by rw [HQ.out, HS.out, h]; simp), below_step hB hb1⟩, by simp [intOf]; omega⟩
    · go_wp2
      go_ret
      refine ⟨-1, rfl, ?_, hB⟩
      obtain rfl : k = l.length := by omega
      rw [HQ.out]
      simp

set_option maxRecDepth 100000 in
set_option maxHeartbeats 1000000 in
theorem con109_calls (q : S118 → Bool) (f : Nat) (cs : Array Value) (b : Nat) (A : Option Addr) (c : Nat) (l : List S118) (w : World) (hl : Kd.C k118 w A l.length l) (hlc : l.length ≤ c) (hB : w.heap[b]? = some (.cells #[.func (.func f) #[] cs] 190 (0, 0)))
    (hent : ∀ args W, (callFunc f args).run Try.prog W = .ok (.enter f args) W) (hcall : ∀ x W, Below w.heap.size w W → Calls Try.prog f (#[arg112 x] ++ cs) W fun e W' => e = .returned (.bool (q x)) ∧ Below W.heap.size W W') :
    Calls Try.prog 109 #[.slice A l.length c, .func (.func 110) #[] #[.pointer (some ⟨b, 0, none⟩)]] w fun e w' => e = .returned (.bool (l.any (fun x => !q x))) ∧ Below w.heap.size w w' := by
  have h1 := idx112_calls q f cs b A c l w hl hlc hB hent hcall
  have H1 := Lib.hid h1
  clear h1 hl hB hent hcall
  go_enter Try.func109, Try.ntmps109
  go_wp2_with (go_at_call 112; refine H1.out.mono ?_; rintro e w1 ⟨r, rfl, hr, hb⟩; have HR := Lib.hid hr; clear hr)
  go_ret
  exact ⟨by rw [← HR.out]; rfl, hb⟩

set_option maxRecDepth 100000 in
set_option maxHeartbeats 1000000 in
/-- all(l, right). -/
theorem all98_calls (q : S118 → Bool) (f : Nat) (cs : Array Value) (A : Option Addr) (c : Nat) (l : List S118) (w : World) (hl : Kd.C k118 w A l.length l) (hlc : l.length ≤ c)
    (hent : ∀ args W, (callFunc f args).run Try.prog W = .ok (.enter f args) W) (hcall : ∀ x W, Below w.heap.size w W → Calls Try.prog f (#[arg112 x] ++ cs) W fun e W' => e = .returned (.bool (q x)) ∧ Below W.heap.size W W') :
    Calls Try.prog 98 #[.slice A l.length c, .func (.func f) #[] cs] w fun e w' => e = .returned (.bool (l.all q)) ∧ Below w.heap.size w w' := by
  have h1 := con109_calls q f cs w.heap.size A c l (w.alloc (.cells #[.func (.func f) #[] cs] 190)) (Kd.C_below hl (below_alloc (Below.refl _ _) _)) hlc (alloc_at rfl) hent (fun x W hW => hcall x W (below_step (below_alloc (Below.refl _ _) _) hW))
  have H1 := Lib.hid h1
  clear h1 hl hent hcall
  go_enter Try.func98, Try.ntmps98
  go_wp2_with (go_at_call 109; refine H1.out.mono ?_; rintro e w1 ⟨rfl, hb⟩)
  go_ret
  exact ⟨by simp [List.any_eq_not_all_not], below_step (below_alloc (Below.refl _ _) _) hb⟩

/-! ### all[Int] -/
def arg111 (x : Int) : Value := .int .i64 x
/-- right: a function value that answers q in every world from w on, and turns nothing that was. -/
def Right111 (right : Value) (q : Int → Bool) (w : World) : Prop := ∃ (f : Nat) (cs : Array Value), right = .func (.func f) #[] cs ∧ (∀ args W, (callFunc f args).run Try.prog W = .ok (.enter f args) W) ∧ ∀ x W, Below w.heap.size w W → Calls Try.prog f (#[arg111 x] ++ cs) W fun e W' => e = .returned (.bool (q x)) ∧ Below W.heap.size W W'
theorem Right111.below {right : Value} {q : Int → Bool} {w w' : World} (h : Right111 right q w) (hb : Below w.heap.size w w') : Right111 right q w' := by
  obtain ⟨f, cs, h1, h2, h3⟩ := h
  exact ⟨f, cs, h1, h2, fun x W hW => h3 x W (below_step hb hW)⟩
set_option maxRecDepth 100000 in
set_option maxHeartbeats 1000000 in
theorem clo101_calls (q : Int → Bool) (f : Nat) (cs : Array Value) (b : Nat) (x : Int) (w : World) (hB : w.heap[b]? = some (.cells #[.func (.func f) #[] cs] 165 (0, 0)))
    (hent : ∀ args W, (callFunc f args).run Try.prog W = .ok (.enter f args) W) (hcall : ∀ W, Below w.heap.size w W → Calls Try.prog f (#[arg111 x] ++ cs) W fun e W' => e = .returned (.bool (q x)) ∧ Below W.heap.size W W') :
    Calls Try.prog 101 #[arg111 x, .pointer (some ⟨b, 0, none⟩)] w fun e w' => e = .returned (.bool (!q x)) ∧ Below w.heap.size w w' := by
  have hc : w.cell? ⟨b, 0, none⟩ = some (.func (.func f) #[] cs) := (blk_cell hB 0).trans rfl
  have hblt := blk_lt hB
  have HC := Lib.hid hcall
  have HE := Lib.hid hent
  clear hcall hent hB
  unfold arg111
  go_enter Try.func101, Try.ntmps101
  go_wp2_with fail
  rw [HE.out, Oper.upon_enter]
  refine (HC.out _ (Below.refl _ _)).mono ?_
  rintro e w1 ⟨rfl, hb⟩
  go_wp2
  go_ret
  exact ⟨rfl, hb⟩

set_option maxRecDepth 100000 in
set_option maxHeartbeats 2000000 in
theorem idx111_calls (q : Int → Bool) (f : Nat) (cs : Array Value) (b : Nat) (A : Option Addr) (c : Nat) (l : List Int) (w : World) (hl : Kd.C (Kd.int .i64) w A l.length l) (hlc : l.length ≤ c) (hB : w.heap[b]? = some (.cells #[.func (.func f) #[] cs] 165 (0, 0)))
    (hent : ∀ args W, (callFunc f args).run Try.prog W = .ok (.enter f args) W) (hcall : ∀ x W, Below w.heap.size w W → Calls Try.prog f (#[arg111 x] ++ cs) W fun e W' => e = .returned (.bool (q x)) ∧ Below W.heap.size W W') :
    Calls Try.prog 111 #[.slice A l.length c, .func (.func 101) #[] #[.pointer (some ⟨b, 0, none⟩)]] w (IdxEnd q l w) := by
  have hmax : l.length ≤ 9223372036854775807 := hl.2.1
  have HL := Lib.hid hl
  have HBK := Lib.hid hB
  have HC := Lib.hid hcall
  have HE := Lib.hid hent
  clear hcall hent hB hl
  go_enter Try.func111, Try.ntmps111
  go_wp2
  go_loopw [8] (fun v wr => ∃ k : Nat, v = .int .i64 k ∧ k ≤ l.length ∧ Hid (l.any (fun x => !q x) = (l.drop k).any (fun x => !q x)) ∧ Below w.heap.size w wr) (fun v _ => l.length - (intOf v).toNat)
  case atStart => exact ⟨0, rfl, Nat.zero_le _, Lib.hid (by simp), Below.refl _ _⟩
  case round =>
    obtain ⟨k, rfl, hk, HQ, hB⟩ := hrel
    by_cases hlt : k < l.length
    · have hi0 : (0 : Int) ≤ (k : Int) := by omega
      have hi1 : (k : Int) < (l.length : Int) := by omega
      obtain ⟨ad, rfl, hx0⟩ := Kd.at_int (Kd.C_below HL.out hB) (k : Int) hi0 hi1
      simp only [Int.toNat_natCast] at hx0
      have hstep := any_drop q l k hlt 0
      have HS := Lib.hid hstep
      clear hstep
      have hgd : rd l (k : Int) = l.getD k 0 := by simp [rd]
      rw [hgd] at hx0
      have HG := Lib.hid hgd
      clear hgd
      generalize hxe : l.getD k 0 = x at *
      have HX := Lib.hid hxe
      clear hxe
      go_wp2_with (go_at_call 101; refine (clo101_calls q f cs b x _ (blk_below HBK.out (by exact hB)) HE.out (fun W hW => HC.out x W (below_step hB hW))).mono ?_; rintro e w1 ⟨rfl, hb1⟩)
      · go_ret
        refine ⟨(k : Int), rfl, ?_, below_step hB hb1⟩
        have h : (!q x) = true := by assumption
        rw [HQ.out, HS.out, h]
        simp
      · have h : (!q x) = false := by assumption
        refine ⟨⟨k + 1, by simp, by omega, Lib.hid (by rw [HQ.out, HS.out, h]; simp), below_step hB hb1⟩, by simp [intOf]; omega⟩
    · go_wp2
      go_ret
      refine ⟨-1, rfl, ?_, hB⟩
      obtain rfl : k = l.length := by omega
      rw [HQ.out]
      simp

set_option maxRecDepth 100000 in
set_option maxHeartbeats 1000000 in
theorem con100_calls (q : Int → Bool) (f : Nat) (cs : Array Value) (b : Nat) (A : Option Addr) (c : Nat) (l : List Int) (w : World) (hl : Kd.C (Kd.int .i64) w A l.length l) (hlc : l.length ≤ c) (hB : w.heap[b]? = some (.cells #[.func (.func f) #[] cs] 165 (0, 0)))
    (hent : ∀ args W, (callFunc f args).run Try.prog W = .ok (.enter f args) W) (hcall : ∀ x W, Below w.heap.size w W → Calls Try.prog f (#[arg111 x] ++ cs) W fun e W' => e = .returned (.bool (q x)) ∧ Below W.heap.size W W') :
    Calls Try.prog 100 #[.slice A l.length c, .func (.func 101) #[] #[.pointer (some ⟨b, 0, none⟩)]] w fun e w' => e = .returned (.bool (l.any (fun x => !q x))) ∧ Below w.heap.size w w' := by
  have h1 := idx111_calls q f cs b A c l w hl hlc hB hent hcall
  have H1 := Lib.hid h1
  clear h1 hl hB hent hcall
  go_enter Try.func100, Try.ntmps100
  go_wp2_with (go_at_call 111; refine H1.out.mono ?_; rintro e w1 ⟨r, rfl, hr, hb⟩; have HR := Lib.hid hr; clear hr)
  go_ret
  exact ⟨by rw [← HR.out]; rfl, hb⟩

set_option maxRecDepth 100000 in
set_option maxHeartbeats 1000000 in
/-- all(l, right). -/
theorem all79_calls (q : Int → Bool) (f : Nat) (cs : Array Value) (A : Option Addr) (c : Nat) (l : List Int) (w : World) (hl : Kd.C (Kd.int .i64) w A l.length l) (hlc : l.length ≤ c)
    (hent : ∀ args W, (callFunc f args).run Try.prog W = .ok (.enter f args) W) (hcall : ∀ x W, Below w.heap.size w W → Calls Try.prog f (#[arg111 x] ++ cs) W fun e W' => e = .returned (.bool (q x)) ∧ Below W.heap.size W W') :
    Calls Try.prog 79 #[.slice A l.length c, .func (.func f) #[] cs] w fun e w' => e = .returned (.bool (l.all q)) ∧ Below w.heap.size w w' := by
  have h1 := con100_calls q f cs w.heap.size A c l (w.alloc (.cells #[.func (.func f) #[] cs] 165)) (Kd.C_below hl (below_alloc (Below.refl _ _) _)) hlc (alloc_at rfl) hent (fun x W hW => hcall x W (below_step (below_alloc (Below.refl _ _) _) hW))
  have H1 := Lib.hid h1
  clear h1 hl hent hcall
  go_enter Try.func79, Try.ntmps79
  go_wp2_with (go_at_call 100; refine H1.out.mono ?_; rintro e w1 ⟨rfl, hb⟩)
  go_ret
  exact ⟨by simp [List.any_eq_not_all_not], below_step (below_alloc (Below.refl _ _) _) hb⟩

/-! ### the two that a method expression is handed to -/
def validB (x : S115) : Bool := (plate_Wanted_valid.f x.f0 x.f1 x.f2 x.f3 x.f4.f0 x.f4.f1 x.f5.f0 x.f5.f1).getD false
theorem within_some (a b c : Int) : ∃ r, plate_within.f a b c = some r := by unfold plate_within.f; split <;> exact ⟨_, rfl⟩
theorem side_some (a : Int) : ∃ r, plate_side.f a = some r := by
  unfold plate_side.f; obtain ⟨r, h⟩ := within_some a 1 8; rw [h]; exact ⟨_, rfl⟩
theorem zone_some (a b : Int) : ∃ r, plate_Range_zone.f a b = some r := by unfold plate_Range_zone.f; repeat' split
                                                                           all_goals exact ⟨_, rfl⟩
theorem valid_f (x : S115) : plate_Wanted_valid.f x.f0 x.f1 x.f2 x.f3 x.f4.f0 x.f4.f1 x.f5.f0 x.f5.f1 = some (validB x) := by
  unfold validB
  have : ∃ r, plate_Wanted_valid.f x.f0 x.f1 x.f2 x.f3 x.f4.f0 x.f4.f1 x.f5.f0 x.f5.f1 = some r := by
    unfold plate_Wanted_valid.f
    obtain ⟨r0, h0⟩ := side_some x.f0; obtain ⟨r1, h1⟩ := side_some x.f1; obtain ⟨r2, h2⟩ := within_some x.f3 0 1000; obtain ⟨r3, h3⟩ := zone_some x.f4.f0 x.f4.f1; obtain ⟨r4, h4⟩ := zone_some x.f5.f0 x.f5.f1
    rw [h0]; simp only [Option.bind_some]; rw [h1]; simp only [Option.bind_some]; rw [h2]; simp only [Option.bind_some]; rw [h3]; simp only [Option.bind_some]; rw [h4]; simp only [Option.bind_some]
    repeat' split
    all_goals exact ⟨_, rfl⟩
  obtain ⟨r, h⟩ := this
  rw [h]; rfl
def takesB (x : S118) : Bool := (plan_Stage_takes.f x.f0 x.f1 x.f2).getD false
theorem takes_f (x : S118) : plan_Stage_takes.f x.f0 x.f1 x.f2 = some (takesB x) := rfl
def plate_all_Wanted.f (l : List S115) (_ : Unit) : Option Bool := some (l.all validB)
def plan_all_Stage.f (l : List S118) (_ : Unit) : Option Bool := some (l.all takesB)
theorem plate_all_Wanted.calls (A : Option Addr) (c : Nat) (l : List S115) (u : Unit) (r : Bool) (w : World) (hl : Kd.C k115 w A l.length l) (hlc : l.length ≤ c) (h : plate_all_Wanted.f l u = some r) :
    Calls Try.prog 73 #[.slice A l.length c, .func (.func 74) #[] #[]] w fun e w' => e = .returned (.bool r) ∧ Below w.heap.size w w' := by
  obtain rfl : l.all validB = r := by injection h
  exact all73_calls validB 74 #[] A c l w hl hlc (fun args W => enters_ Try.func74 (by kernel_rfl) rfl args W) (fun x W _ => plate_Wanted_valid.calls _ _ _ _ _ _ _ _ _ W (valid_f x))
theorem plan_all_Stage.calls (A : Option Addr) (c : Nat) (l : List S118) (u : Unit) (r : Bool) (w : World) (hl : Kd.C k118 w A l.length l) (hlc : l.length ≤ c) (h : plan_all_Stage.f l u = some r) :
    Calls Try.prog 98 #[.slice A l.length c, .func (.func 99) #[] #[]] w fun e w' => e = .returned (.bool r) ∧ Below w.heap.size w w' := by
  obtain rfl : l.all takesB = r := by injection h
  exact all98_calls takesB 99 #[] A c l w hl hlc (fun args W => enters_ Try.func99 (by kernel_rfl) rfl args W) (fun x W _ => plan_Stage_takes.calls _ _ _ _ W (takes_f x))
end Go.Proofs.Ytffjbaknglemdaa.X
