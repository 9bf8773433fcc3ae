import Derived.Test.YtffjbaknglemdaaHA
import Derived.RangeFuncBox
import Derived.Maps.AppendAt
import Derived.Maps.OwnIn
import Derived.Deep.AppendLies
namespace Go.Proofs.Ytffjbaknglemdaa.X
open Go.RowKit Go.Shelf Go.Proofs.YtffjbaknglemdaaW.PrintWords Go.Proofs.YtffjbaknglemdaaW.PrintLast Go.Proofs.YtffjbaknglemdaaW.PrintMore
set_option linter.unusedSimpArgs false
set_option linter.unusedVariables false
attribute [local go_sem] Oper.semAt_some

theorem infoS103 : (Try.prog.info? 103).map (fun i => (i.zero, i.size, i.bytes)) = some (some (.agg #[.int .i64 0, .int .i64 0, .int .i64 0, .int .i64 0]), 4, 32) := by kernel_rfl

/-- The cells of a piece, and of a list of pieces. -/
def pc (p : S103) : List Value := [.int .i64 p.f0, .int .i64 p.f1, .int .i64 p.f2, .int .i64 p.f3]
def pcs (l : List S103) : List Value := l.flatMap pc
theorem pcs_append (a b : List S103) : pcs (a ++ b) = pcs a ++ pcs b := by simp [pcs]
theorem pcs_one (p : S103) : pcs [p] = pc p := by simp [pcs]
theorem pcs_len (l : List S103) : (pcs l).length = l.length * 4 := by
 induction l with
 | nil => rfl
 | cons x l ih => simp only [pcs, List.flatMap_cons, List.length_append] at *; simp [pc, ih]; omega

theorem grownBy_trans {w W W' : World} {r row : Option Nat} (h : w.grownBy W r) (hg : W.grownBy W' row) (hr : ∀ k, row = some k → w.heap.size ≤ k ∨ r = some k) : w.grownBy W' r :=
 ⟨hg.os.trans h.os, hg.tape.trans h.tape, hg.output.trans h.output, Nat.le_trans h.size hg.size, fun k hk hne => by
  have hk' : k < W.heap.size := Nat.lt_of_lt_of_le hk h.size
  refine (hg.block k hk' ?_).trans (h.block k hk hne)
  intro e
  rcases hr k e.symm with h1 | h1
  ·omega
  ·exact hne h1.symm⟩
theorem grownBy_refl (w : World) (r : Option Nat) : w.grownBy w r := ⟨rfl, rfl, rfl, Nat.le_refl _, fun _ _ _ => rfl⟩

/-- A row of pieces that has grown out of v in world w. -/
structure Grew (w W : World) (base : Nat) (v : Value) (xs ys : List S103) (v' : Value) : Prop where
 own : W.ownsRow base 103 4 v' (xs ++ ys).length (pcs (xs ++ ys))
 blk : v'.ownBlock = v.ownBlock ∨ ∃ b, v'.ownBlock = some b ∧ w.heap.size ≤ b
 grown : w.grownBy W v.ownBlock
theorem own_form {w : World} {base : Nat} {e : TypeId} {size n : Nat} {v : Value} {xs : List Value} (h : w.ownsRow base e size v n xs) : ∃ A c, v = .slice A n c := by
 rcases h.2 with ⟨rfl, rfl⟩ | ⟨g, cap, cur, rfl, _⟩
 ·exact ⟨_, _, rfl⟩
 ·exact ⟨_, _, rfl⟩
theorem Grew.ownFrom (w : World) (base B Bx : Nat) (v : Value) (xs : List S103) (hB : w.heap.size ≤ B) : OwnFrom B (fun (pre : List S103) W => ∃ v', Boxed W Bx 96 v' ∧ Grew w W base v xs pre v') := fun s W W' row hs hg hr => by
 obtain ⟨v', hb, ho, hk, hgr⟩ := hs
 refine ⟨v', hb.kept hg (fun e => ?_), ho.kept hg ?_, hk, grownBy_trans hgr hg (fun k e => .inl (by have := (hr k e).1; omega))⟩
 ·obtain ⟨_, o, h1, h2⟩ := hr _ e.symm
  rw [show W.heap[Bx]? = _ from hb] at h1
  cases h1; simp [Obj.isCells] at h2
 ·rcases hv : v'.ownBlock with _ | k
  ·exact .inl rfl
  ·refine .inr (fun e => ?_)
   obtain ⟨_, o, h1, h2⟩ := hr _ e.symm
   obtain ⟨cells, hc⟩ := own_typed ho k hv
   rw [hc] at h1
   cases h1; simp [Obj.isCells] at h2

theorem Grew.alloc {w W : World} {base : Nat} {v v' : Value} {xs ys : List S103} (h : Grew w W base v xs ys v') (o : Obj) : Grew w (W.alloc o) base v xs ys v' :=
 ⟨h.own.alloc o, h.blk, grownBy_trans h.grown (World.grownBy_alloc W o none) (fun k e => by cases e)⟩
theorem Grew.step {w W w1 : World} {base B : Nat} {v v' v1 : Value} {xs pre : List S103} {x : S103} {o : Obj} (h : Grew w W base v xs pre v') (hB : w.heap.size ≤ B) (hb : base ≤ w.heap.size)
  (hown : (w1.setCell ⟨B, 0, none⟩ v1).ownsRow base 103 4 v1 ((xs ++ pre).length + 1) (pcs (xs ++ pre) ++ pc x)) (hgrow : (W.alloc o).grownBy w1 v'.ownBlock) (hat : v1.ownBlock = v'.ownBlock ∨ v1.ownBlock = some (W.alloc o).heap.size) :
  Grew w (w1.setCell ⟨B, 0, none⟩ v1) base v xs (pre ++ [x]) v1 := by
 have hz := h.grown.size
 refine ⟨?_, ?_, ?_⟩
 ·rw [← List.append_assoc, pcs_append, pcs_one, List.length_append (bs := [x])]; exact hown
 ·rcases hat with e | e
  ·rw [e]; exact h.blk
  ·exact .inr ⟨_, e, by simp; omega⟩
 ·refine grownBy_trans (grownBy_trans (grownBy_trans h.grown (World.grownBy_alloc W o none) (fun k e => by cases e)) hgrow (fun k e => ?_)) (grownBy_setCell' w1 B v1) (fun k e => .inl (by cases e; exact hB))
  rcases h.blk with e' | ⟨b, e', hb'⟩
  ·exact .inr (e'.symm.trans e)
  ·rw [e'] at e; cases e; exact .inl hb'

set_option maxRecDepth 100000 in
set_option maxHeartbeats 4000000 in
theorem appendSeq_calls (across : Bool) (p : S103) (at_ saw : Int) (g base : Nat) (A : Option Addr) (n c : Nat) (xs : List S103) (w : World) (PA : PartsAt w g across p at_ saw) (hg : g + 3 < w.heap.size)
  (ho : w.ownsRow base 103 4 (.slice A n c) xs.length (pcs xs)) (hbase : base ≤ w.heap.size) (hm : xs.length ≤ 1000000) (hgv : ∀ k, (Value.slice A n c).ownBlock = some k → k < g) :
  Calls Try.prog 66 #[.slice A n c, seqV g] w fun e w' => ∃ v', e = .returned v' ∧ Grew w w' base (.slice A n c) xs (partsOf across p at_ saw) v' := by
 obtain ⟨i0, hi, hz0, hz1, hz2⟩ := info_parts infoS103
 have hlt : ∀ k, (Value.slice A n c).ownBlock = some k → k < w.heap.size := fun k hk => by have := hgv k hk; omega
 have HLT := Lib.hid hlt
 have HGV := Lib.hid hgv
 clear hlt hgv
 refine (callsIn_wide (n := 20)).1 ?_
 refine callsIn_of_wp_marks Try.func66 rfl trivial ?_ rfl
 simp only [Try.ntmps66, List.size_toArray, List.length_cons, List.length_nil, Nat.reduceAdd, Nat.reduceSub, Array.replicate_succ, Array.replicate_zero, List.push_toArray, List.append_toArray, List.nil_append, List.cons_append]
 unfold seqV
 gi_wp2
 have bV := Boxed.new w 96 (.slice A n c)
 have PA1 : PartsAt (w.alloc (.cells #[.slice A n c] 96)) g across p at_ saw := PA.below hg (below_alloc (Below.refl _ _) _)
 refine wpIn_rangeFunc_ownH rfl (by decide) (gf := 91) (lb := #[.pointer (some ⟨g, 0, none⟩), .pointer (some ⟨g + 1, 0, none⟩), .pointer (some ⟨g + 1 + 1, 0, none⟩), .pointer (some ⟨g + 1 + 1 + 1, 0, none⟩)]) rfl trivial (enters_of Try.func91 (by kernel_rfl) rfl)
  (parts_stops 19 (by decide) across g p at_ saw _ PA1 (by simp; omega)) (fun h k => fun i a b => (k i a b).trans (h i a b)) (fun W l o o' hl ho hc _ => fun i a b => World.putObj_heap_other (by simp at hl; omega)) (Below.refl _ _) (fun _ => rfl)
  (fun pre W => ∃ v', Boxed W w.heap.size 96 v' ∧ Grew w W base (.slice A n c) xs pre v')
  (fun _ _ _ => False)
  (Grew.ownFrom w base _ w.heap.size _ xs (by simp)) (fun _ _ _ _ _ hs _ _ => hs)
  ⟨_, bV, by rw [List.append_nil]; exact ho.alloc _, .inl rfl, World.grownBy_alloc w _ _⟩
  (fun x a' W => ∃ Bx, w.heap.size < Bx ∧ W.heap[Bx]? = some (.cells #[.int .i64 x.f0, .int .i64 x.f1, .int .i64 x.f2, .int .i64 x.f3] 103 (0, 0)) ∧ a' = { tmps := #[.slice A n c, .func (.func 91) #[] #[.pointer (some ⟨g, 0, none⟩), .pointer (some ⟨g + 1, 0, none⟩), .pointer (some ⟨g + 1 + 1, 0, none⟩), .pointer (some ⟨g + 1 + 1 + 1, 0, none⟩)], .pointer (some ⟨w.heap.size, 0, none⟩), undef, .slice none 0 0, .pointer (some ⟨Bx, 0, none⟩), .func (.func 91) #[] #[.pointer (some ⟨g, 0, none⟩), .pointer (some ⟨g + 1, 0, none⟩), .pointer (some ⟨g + 1 + 1, 0, none⟩), .pointer (some ⟨g + 1 + 1 + 1, 0, none⟩)], pv x, undef, undef, undef, undef, undef], defers := [] })
  ?hAx ?assign ?body ?done ?stop
 case hAx =>
  intro x a' _ X Y row hs hg hr
  obtain ⟨Bx, h1, h2, h3⟩ := hs
  refine ⟨Bx, h1, (hg.block Bx (blk_lt h2) (fun e => ?_)).trans h2, h3⟩
  obtain ⟨_, o, h4, h5⟩ := hr _ e.symm
  rw [h2] at h4
  cases h4; simp [Obj.isCells] at h5
 case assign =>
  rintro l pre x W K ⟨v', bv, hgr⟩ hK
  have HK := Lib.hid hK
  clear hK
  have hz := hgr.grown.size
  unfold pv
  gi_wp2
  exact HK.out _ _ ((KeepsOthers.alloc _ _).from _) (fun k h1 h2 => Below.heap_alloc W _ k (by omega)) ⟨v', bv.alloc _, hgr.alloc _⟩ ⟨W.heap.size, bv.lt, alloc_at rfl, rfl⟩
 case body =>
  rintro l pre x a' W hl ⟨r, hr⟩ ⟨v', bv, hgr⟩ ⟨Bx, hBx, bX, rfl⟩ hlt
  have hz := hgr.grown.size
  obtain ⟨m, hm'⟩ : ∃ m, (xs ++ pre).length = m := ⟨_, rfl⟩
  have hlen : m ≤ 1000002 := by rw [← hm', List.length_append]; omega
  have hlen2 : m + 1 ≤ maxLen := by unfold maxLen; omega
  have HL := Lib.hid hlen
  have HL2 := Lib.hid hlen2
  have hown := hgr.own
  rw [hm'] at hown
  have HM := Lib.hid hm'
  clear hlen hlen2 hm'
  obtain ⟨A', c', rfl⟩ := own_form hown
  have hcv : W.cell? ⟨w.heap.size, 0, none⟩ = some (.slice A' m c') := bv.cell
  have x_ := c4 bX
  have HBV := Lib.hid bv
  clear bv bX
  unfold pv
  gi_wp2_with (gi_at_builtin; refine wpListIn_append_own_at _ rfl _ _ 96 rfl base 103 i0 _ 4 32 Try.underlying96 hi hz0 hz1 hz2 rfl (by decide) _ _ _ rfl (hown.alloc _) ⟨W.heap.size, 0, none⟩ 1 1 (pc x) rfl rfl (World.news_of_block (alloc_at rfl)) (by simp [pc, Value.oneCell']) HL2.out (by have := HL.out; omega) (by simp; omega) ?_; intro v1 w1 hown1 hgrow _ hat; obtain ⟨g1, cap1, rfl⟩ := ownsRow_succ hown1; obtain ⟨hv1, hv2, hr2, hk2, hb2⟩ := HBV.out.appended (by decide) hown (by omega) hbase hown1 hgrow; have hc1 := hv1.cell; have hf1 := hv1.frozen)
  refine ⟨hk2.from _, fun k h1 h2 => ?_, _, hv2, hgr.step (Nat.le_refl _) hbase (by rw [HM.out]; exact hr2) hgrow hat⟩
  refine (Below.heap_setCell w1 ⟨w.heap.size, 0, none⟩ _ k (by simp; omega)).trans ((hgrow.block k (by simp; omega) (fun e => ?_)).trans (Below.heap_alloc W _ k (by omega)))
  rcases hgr.blk with e' | ⟨b, e', hb'⟩
  ·have := HGV.out k (e'.symm.trans e.symm); omega
  ·have e2 := e'.symm.trans e.symm; cases e2; omega
 case done =>
  rintro D ys W hD rfl ⟨v', bv, hgr⟩ hK
  obtain ⟨m, hm'⟩ : ∃ m, (xs ++ partsOf across p at_ saw).length = m := ⟨_, rfl⟩
  have hown := hgr.own
  rw [hm'] at hown
  obtain ⟨A', c', rfl⟩ := own_form hown
  have hcv : W.cell? ⟨w.heap.size, 0, none⟩ = some (.slice A' m c') := bv.cell
  clear hown hm'
  have HK := Lib.hid hK
  have HG := Lib.hid hgr
  clear hK hgr bv
  gi_wp2
  refine ⟨by simp, .inl ⟨_, _, rfl, run_takeDeferred HK.out, ?_⟩⟩
  exact ⟨_, results_tmp rfl _ _ _, .slice A' m c', rfl, ownsRow_putObj HG.out.own _ HK.out rfl, HG.out.blk, grownBy_trans HG.out.grown (grownBy_putObj' W D _) (fun k e => .inl (by cases e; simp at hD; omega))⟩
 case stop =>
  rintro D c pre W _ _ h _
  exact h.elim

theorem below_of_grown {w w' : World} (h : w.grownBy w' none) : Below w.heap.size w w' := ⟨h.os, h.tape, h.output, h.size, fun k hk => h.block k hk (by simp)⟩

set_option maxHeartbeats 1000000 in
theorem collect_calls (across : Bool) (p : S103) (at_ saw : Int) (g : Nat) (w : World) (PA : PartsAt w g across p at_ saw) (hg : g + 3 < w.heap.size) :
  Calls Try.prog 87 #[seqV g] w fun e w' => ∃ A c, e = .returned (.slice A (partsOf across p at_ saw).length c) ∧
   w'.ownsRow w.heap.size 103 4 (.slice A (partsOf across p at_ saw).length c) (partsOf across p at_ saw).length (pcs (partsOf across p at_ saw)) ∧ Below w.heap.size w w' := by
 have h66 := (appendSeq_calls across p at_ saw g w.heap.size none 0 0 [] w PA hg (World.ownsRow_nil _ _ _ _) (Nat.le_refl _) (by simp) (fun k hk => by simp [Value.ownBlock] at hk))
 have H66 := Lib.hid h66
 clear h66
 generalize hs : seqV g = s
 rw [hs] at H66
 have HS := Lib.hid hs
 clear hs
 go_enter Try.func87, Try.ntmps87
 go_wp2_with (go_at_call 66; refine H66.out.mono ?_; rintro e w1 ⟨v', rfl, hgr⟩; obtain ⟨A, c, rfl⟩ := own_form hgr.own; have HG := Lib.hid hgr; clear hgr)
 go_ret
 exact ⟨A, c, rfl, HG.out.own, below_of_grown HG.out.grown⟩

/-! ### rows of pieces: two words for one thing -/
theorem reps_cut {α : Type} {R : α → List Value → Prop} {size : Nat} (f : α → List Value) (hR : ∀ p c, R p c → c = f p) : ∀ (ps : List α) (cs : List Value), Reps R size ps cs → (∀ p, (f p).length = size) → cs = ps.flatMap f
 | [], cs, h, _ => by have := h.1; simp at this; simp [this]
 | p :: ps, cs, h, hf => by
  have h0 := hR _ _ (h.2 0 p rfl)
  simp only [Nat.zero_mul, List.drop_zero] at h0
  have hlen := h.1
  have h2 : Reps R size ps (cs.drop size) := ⟨by rw [List.length_drop, hlen, List.length_cons, Nat.add_mul]; omega, fun j q hq => by
   have := h.2 (j + 1) q (by simpa using hq)
   rw [Nat.add_mul, Nat.one_mul] at this
   rwa [List.drop_drop, Nat.add_comm size]⟩
  have h3 := reps_cut f hR ps _ h2 hf
  rw [List.flatMap_cons, ← h3, ← h0, List.take_append_drop]
theorem reps_flat' {α : Type} {R : α → List Value → Prop} {size : Nat} (f : α → List Value) (hR : ∀ p, R p (f p)) (hf : ∀ p, (f p).length = size) : ∀ (ps qs : List α), Reps R size qs (qs.flatMap f) → Reps R size (qs ++ ps) ((qs ++ ps).flatMap f)
 | [], qs, h => by simpa using h
 | p :: ps, qs, h => by
  have := reps_flat' f hR hf ps (qs ++ [p]) (by rw [List.flatMap_append]; simpa using h.snoc (hR p) (hf p))
  simpa using this
theorem reps_flat {α : Type} {R : α → List Value → Prop} {size : Nat} (f : α → List Value) (hR : ∀ p, R p (f p)) (hf : ∀ p, (f p).length = size) (ps : List α) : Reps R size ps (ps.flatMap f) := by
 simpa using reps_flat' f hR hf ps [] (Reps.none _ _)
theorem R103_own {w : World} {base : Nat} {ok : Nat → Prop} {v : Value} {xs : List S103} (h : Kd.R k103 103 w base ok v xs) : w.ownsRow base 103 4 v xs.length (pcs xs) := by
 obtain ⟨h0, inner, ho, hr⟩ := h
 have := reps_cut pc (fun p c hc => k103_openM hc) xs inner hr (fun p => rfl)
 rw [this] at ho
 exact ho
theorem own_R103 {w : World} {base : Nat} {ok : Nat → Prop} {v : Value} {xs : List S103} (h : w.ownsRow base 103 4 v xs.length (pcs xs)) (hok : ∀ k, v.ownBlock = some k → ok k) : Kd.R k103 103 w base ok v xs :=
 ⟨hok, pcs xs, h, reps_flat pc (fun p => k103_mkM _ _ _ p) (fun p => rfl) xs⟩
end Go.Proofs.Ytffjbaknglemdaa.X
