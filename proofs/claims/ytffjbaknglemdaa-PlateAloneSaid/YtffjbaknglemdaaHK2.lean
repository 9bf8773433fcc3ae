import Derived.Test.YtffjbaknglemdaaHK1
import Derived.RangeFuncBox
import Derived.Maps.AppendAt
import Derived.Maps.OwnIn
import Derived.Deep.AppendLies
namespace Go.Proofs.Ytffjbaknglemdaa.X
open Go.RowKit Go.Shelf Go.Maps Go.Proofs.YtffjbaknglemdaaW.PrintWords Go.Proofs.YtffjbaknglemdaaW.PrintLast Go.Proofs.YtffjbaknglemdaaW.PrintMore
set_option linter.unusedSimpArgs false
set_option linter.unusedVariables false
attribute [local go_sem] Oper.semAt_some

/-! ### cuts: all cuts that a piece may have -/
def cc (x : S112) : List Value := [.int .i64 x.f0, .bool x.f1, .int .i64 x.f2]
def ccs (l : List S112) : List Value := l.flatMap cc
/-- The cuts in one direction, from place i on. -/
def cutsRow (saw : Int) (p : S103) (across : Bool) : Nat → Nat → List S112
 | 0, _ => []
 | n + 1, i => (if partsOf across p i saw = [] then [] else [⟨0, across, i⟩]) ++ cutsRow saw p across n (i + 1)
def cutsOf (saw : Int) (p : S103) : List S112 := cutsRow saw p false (p.f2 + 1).toNat 0 ++ cutsRow saw p true (p.f3 + 1).toNat 0
theorem ccs_append (a b : List S112) : ccs (a ++ b) = ccs a ++ ccs b := by simp [ccs]
theorem ccs_one (p : S112) : ccs [p] = cc p := by simp [ccs]
theorem cutsRow_len (saw : Int) (p : S103) (across : Bool) : ∀ n i, (cutsRow saw p across n i).length ≤ n := by
 intro n
 induction n with
 | zero => intro i; simp [cutsRow]
 | succ n ih => intro i; have := ih (i + 1); simp only [cutsRow, List.length_append]; split <;> simp <;> omega
theorem infoS112 : (Try.prog.info? 112).map (fun i => (i.zero, i.size, i.bytes)) = some (some (.agg #[.int .i64 0, .bool false, .int .i64 0]), 3, 24) := by kernel_rfl

theorem cutsRow_no {saw : Int} {p : S103} {across : Bool} {N i : Nat} (hi : i < N) (h : partsOf across p i saw = []) : cutsRow saw p across (N - i) i = cutsRow saw p across (N - (i + 1)) (i + 1) := by
 have : N - i = (N - (i + 1)) + 1 := by omega
 rw [this, cutsRow, if_pos h, List.nil_append]
theorem cutsRow_yes {saw : Int} {p : S103} {across : Bool} {N i : Nat} (hi : i < N) (h : partsOf across p i saw ≠ []) : cutsRow saw p across (N - i) i = ⟨0, across, i⟩ :: cutsRow saw p across (N - (i + 1)) (i + 1) := by
 have : N - i = (N - (i + 1)) + 1 := by omega
 rw [this, cutsRow, if_neg h, List.singleton_append]
theorem pre_ne {l pre : List S103} (h : pre <+: l) (h1 : pre.length = 1) : l ≠ [] := by
 rintro rfl
 have := List.prefix_nil.1 h
 subst this
 simp at h1

theorem load57 {w : World} {g : Nat} {v : Value} (h : w.cell? ⟨g, 0, none⟩ = some v) : (loadVar 57 ⟨g, 0, none⟩).run Try.prog w = .ok v w := by
 simp [loadVar, go_sem, h]
theorem res57 {w : World} {g : Nat} {v : Value} {fn : Func} {tmps : Array Value} (hf : fn.results = #[.cell 4 57]) (ht : tmps.getD 4 undef = .pointer (some ⟨g, 0, none⟩)) (h : w.cell? ⟨g, 0, none⟩ = some v) : (results fn tmps).run Try.prog w = .ok v w := by
 unfold results
 rw [hf]
 have ht' : tmps[4]?.getD undef = .pointer (some ⟨g, 0, none⟩) := by simpa using ht
 simp [asAddr, ht', h, go_sem]

/-! ### marks: what a range over a function leaves behind on the frame -/
def mark (D : Nat) : Deferred := { target := .collected D, args := #[] }
structure Marks (base : Nat) (ds : List Deferred) (W : World) : Prop where
 out : ∃ Ds : List Nat, ds = Ds.map mark ∧ Ds.Nodup ∧ ∀ D ∈ Ds, base ≤ D ∧ W.heap[D]? = some (Obj.deferred (some []))
theorem Marks.none_ (base : Nat) (W : World) : Marks base [] W := ⟨[], rfl, List.nodup_nil, fun D h => by cases h⟩
theorem Marks.keep {base : Nat} {ds : List Deferred} {W W' : World} (h : Marks base ds W) (hk : ∀ D : Nat, W.heap[D]? = some (Obj.deferred (some [])) → W'.heap[D]? = some (Obj.deferred (some []))) : Marks base ds W' := by
 obtain ⟨Ds, h1, h2, h3⟩ := h.out
 exact ⟨Ds, h1, h2, fun D hD => ⟨(h3 D hD).1, hk D (h3 D hD).2⟩⟩
theorem Marks.below {base : Nat} {ds : List Deferred} {W W' : World} (h : Marks base ds W) (hb : Below W.heap.size W W') : Marks base ds W' := h.keep (fun D hD => blk_below hD hb)
theorem Marks.set {base b i : Nat} {ds : List Deferred} {W : World} {cs : Array Value} {t : TypeId} (h : Marks base ds W) (hb : W.heap[b]? = some (.cells cs t (0, 0))) (v : Value) : Marks base ds (W.setCell ⟨b, i, none⟩ v) :=
 h.keep (fun D hD => (Below.heap_setCell W ⟨b, i, none⟩ v D (fun e => by subst e; rw [hb] at hD; cases hD)).trans hD)
theorem Marks.grown {base : Nat} {ds : List Deferred} {W W' : World} {e : TypeId} {size n bs : Nat} {v : Value} {xs : List Value} (h : Marks base ds W) (ho : W.ownsRow bs e size v n xs) (hg : W.grownBy W' v.ownBlock) : Marks base ds W' :=
 h.keep (fun D hD => (hg.block D (blk_lt hD) (fun he => by obtain ⟨cells, hc⟩ := own_typed ho D he.symm; rw [hc] at hD; cases hD)).trans hD)
theorem Marks.more {base D : Nat} {ds : List Deferred} {W W0 : World} (h : Marks base ds W) (h0 : Marks base ds W0) (hD : W0.heap.size ≤ D) (hb : base ≤ D) (hm : W.heap[D]? = some (Obj.deferred (some []))) : Marks base ({ target := .collected D, args := #[] } :: ds) W := by
 obtain ⟨Ds, h1, h2, h3⟩ := h.out
 obtain ⟨Ds0, h10, h20, h30⟩ := h0.out
 refine ⟨D :: Ds0, by rw [h10]; rfl, List.nodup_cons.2 ⟨fun hm => ?_, h20⟩, ?_⟩
 ·have := blk_lt (h30 D hm).2; omega
 ·intro D' hD'
  rcases List.mem_cons.1 hD' with rfl | hD'
  ·exact ⟨hb, hm⟩
  ·have e : Ds = Ds0 := by
    have := h1.symm.trans h10
    exact (List.map_inj_right (fun a b hab => by simp [mark] at hab; exact hab)).1 this
   subst e
   exact h3 D' hD'
theorem leaves_marks {F : Fence} {n : Nat} {P : Program} {fn : Func} {tmps : Array Value} {R : Ending → World → Prop} (base : Nat) (J : World → Prop)
  (hJ : ∀ W D, base ≤ D → J W → W.heap[D]? = some (Obj.deferred (some [])) → J (W.putObj D (.deferred none))) (hend : ∀ W, J W → LeavesInM F n P fn tmps R [] .returning W) :
  ∀ (Ds : List Nat) (W : World), Ds.Nodup → (∀ D ∈ Ds, base ≤ D ∧ W.heap[D]? = some (Obj.deferred (some []))) → J W → LeavesInM F n P fn tmps R (Ds.map mark) .returning W
 | [], W, _, _, h => hend W h
 | D :: Ds, W, hn, hd, h => by
  obtain ⟨hn1, hn2⟩ := List.nodup_cons.1 hn
  refine ⟨by simp, .inl ⟨_, _, rfl, run_takeDeferred (hd D List.mem_cons_self).2, ?_⟩⟩
  refine leaves_marks base J hJ hend Ds _ hn2 (fun D' hD' => ⟨(hd D' (List.mem_cons_of_mem _ hD')).1, ?_⟩) (hJ W D (hd D List.mem_cons_self).1 h (hd D List.mem_cons_self).2)
  exact (World.putObj_heap_other (fun e => by subst e; exact hn1 hD')).trans (hd D' (List.mem_cons_of_mem _ hD')).2

/-- Where cuts stands: blocks that stay, the row that is grown, the marks. -/
structure CSt (w0 : World) (bl : List (Nat × Array Value × TypeId)) (bo : Nat) (ov : Value) (L : List S112) (ds : List Deferred) (W : World) : Prop where
 st : ∀ x ∈ bl, W.heap[x.1]? = some (Obj.cells x.2.1 x.2.2 (0, 0))
 out : W.heap[bo]? = some (Obj.cells #[ov] 57 (0, 0))
 own : W.ownsRow w0.heap.size 112 3 ov L.length (ccs L)
 mrk : Marks w0.heap.size ds W
 bw : Below w0.heap.size w0 W
theorem CSt.below {w0 W W' : World} {bl : List (Nat × Array Value × TypeId)} {bo : Nat} {ov : Value} {L : List S112} {ds : List Deferred} (h : CSt w0 bl bo ov L ds W) (hb : Below W.heap.size W W') : CSt w0 bl bo ov L ds W' :=
 ⟨fun x hx => blk_below (h.st x hx) hb, blk_below h.out hb, pw_own_below h.own hb, h.mrk.below hb, below_step h.bw hb⟩
theorem CSt.grown {w0 W W' : World} {bl : List (Nat × Array Value × TypeId)} {bo : Nat} {ov : Value} {L : List S112} {ds : List Deferred} {row : Option Nat} {B : Nat} (h : CSt w0 bl bo ov L ds W) (hd : ∀ D, mark D ∈ ds → D < B) (hB : w0.heap.size ≤ B)
  (hg : W.grownBy W' row) (hr : ∀ r, row = some r → B ≤ r ∧ ∃ o : Obj, W.heap[r]? = some o ∧ o.isCells = false) : CSt w0 bl bo ov L ds W' := by
 have hne : ∀ b (cs : Array Value) t, W.heap[b]? = some (Obj.cells cs t (0, 0)) → some b ≠ row := fun b cs t hb e => by
  obtain ⟨_, o, h1, h2⟩ := hr b e.symm
  rw [hb] at h1; cases h1; simp [Obj.isCells] at h2
 refine ⟨fun x hx => blk_grown (h.st x hx) hg (hne _ _ _ (h.st x hx)), blk_grown h.out hg (hne _ _ _ h.out), ?_, ?_, pw_below_grown h.bw row h.bw.size hg (fun k e => Nat.le_trans hB (hr k e).1)⟩
 ·refine own_other h.own hg ?_
  rcases hv : ov.ownBlock with _ | k
  ·exact .inl rfl
  ·obtain ⟨cells, hc⟩ := own_typed h.own k hv
   exact .inr (hne k _ _ hc)
 ·obtain ⟨Ds, h1, h2, h3⟩ := h.mrk.out
  exact ⟨Ds, h1, h2, fun D hD => ⟨(h3 D hD).1, (hg.block D (blk_lt (h3 D hD).2) (fun e => by have := (hr D e.symm).1; have := hd D (by rw [h1]; exact List.mem_map_of_mem hD); omega)).trans (h3 D hD).2⟩⟩
theorem CSt.lt {w0 W : World} {bl : List (Nat × Array Value × TypeId)} {bo : Nat} {ov : Value} {L : List S112} {ds : List Deferred} (h : CSt w0 bl bo ov L ds W) : ∀ D, mark D ∈ ds → D < W.heap.size := fun D hD => by
 obtain ⟨Ds, h1, h2, h3⟩ := h.mrk.out
 rw [h1] at hD
 obtain ⟨D', hD', e⟩ := List.mem_map.1 hD
 have : D' = D := by simp [mark] at e; exact e
 subst this
 exact blk_lt (h3 _ hD').2

theorem CSt.append {w0 W w1 : World} {bl : List (Nat × Array Value × TypeId)} {bo : Nat} {ov v1 : Value} {L : List S112} {ds : List Deferred} {o : Obj} {x : S112} (h : CSt w0 bl bo ov L ds W) (ht : ∀ y ∈ bl, y.2.2 ≠ 112 ∧ y.2.2 ≠ 57) (hlo : w0.heap.size ≤ bo)
  (hown : w1.ownsRow w0.heap.size 112 3 v1 (L.length + 1) (ccs L ++ cc x)) (hg : (W.alloc o).grownBy w1 ov.ownBlock) :
  w1.heap[bo]? = some (Obj.cells #[ov] 57 (0, 0)) ∧ CSt w0 bl bo v1 (L ++ [x]) ds (w1.setCell ⟨bo, 0, none⟩ v1) ∧ ∀ B, KeepsFrom B W (w1.setCell ⟨bo, 0, none⟩ v1) := by
 have hA := h.below (below_alloc (Below.refl _ _) o)
 have hb1 := blk_grown hA.out hg (own_ne hA.own hA.out (by decide))
 have hne1 := own_ne hown hb1 (by decide)
 refine ⟨hb1, ⟨fun y hy => ?_, blk_put hb1 0 _ rfl, ?_, ?_, below_set (pw_below_grown hA.bw _ hA.bw.size hg (own_base hA.own)) hlo⟩, fun B => ⟨?_, fun k ob _ hk hob => ?_⟩⟩
 ·have h1 := blk_grown (hA.st y hy) hg (own_ne hA.own (hA.st y hy) (ht y hy).1.symm)
  exact blk_far h1 (blk_ne h1 hb1 (ht y hy).2) _
 ·rw [List.length_append, ccs_append, ccs_one]; exact own_setCell hown hne1 _
 ·exact (hA.mrk.grown hA.own hg).set hb1 _
 ·have h1 := hg.size; have h2 := (below_alloc (Below.refl W.heap.size W) o).size
  simp only [World.setCell] at *
  have : (w1.setCell ⟨bo, 0, none⟩ v1).heap.size = w1.heap.size := by simp [World.setCell]
  first | omega | (simp [World.setCell] at *; omega)
 ·have hk1 := blk_below hk (below_alloc (Below.refl _ _) o)
  have hk2 : w1.heap[k]? = some ob := (hg.block k (blk_lt hk1) (fun e => by obtain ⟨cells, hc⟩ := own_typed hA.own k e.symm; rw [hc] at hk1; cases hk1; simp [Obj.isCells] at hob)).trans hk1
  exact (Below.heap_setCell w1 ⟨bo, 0, none⟩ v1 k (fun e => by subst e; rw [hb1] at hk2; cases hk2; simp [Obj.isCells] at hob)).trans hk2

/-- The blocks that stay: the piece, the directions, their number, the direction, the place. -/
def cutBl (bp g b5 b6 b7 : Nat) (p : S103) (across : Bool) (i : Nat) : List (Nat × Array Value × TypeId) :=
 [(bp, #[.int .i64 p.f0, .int .i64 p.f1, .int .i64 p.f2, .int .i64 p.f3], 103), (g, #[.func (.func 104) #[] #[], .func (.func 105) #[] #[], .func (.func 106) #[] #[], .func (.func 107) #[] #[]], 156),
  (b5, #[.int .i64 (if across then 1 else 0)], 3), (b6, #[(dcell across).1, (dcell across).2], 156), (b7, #[.int .i64 i], 3)]

/-- What a body that ranges over functions must come to: it returns. -/
def retPost (fn : Func) (R : Ending → World → Prop) : Exit → Act → World → Prop
 | .ret, a, w => LeavesInM Fence.wide 20 Try.prog fn a.tmps R a.defers .returning w
 | _, _, _ => False
theorem retPost_M {fn : Func} {R : Ending → World → Prop} : ∀ e a w, retPost fn R e a w → bodyPostM Fence.wide 20 Try.prog fn R e a w
 | .ret, _, _, h => h
 | .normal, _, _, h => h.elim
 | .exit _, _, _, h => h.elim
 | .goto _, _, _, h => h.elim
 | .panic _, _, _, h => h.elim
 | .outgrown, _, _, h => h.elim

set_option maxRecDepth 100000 in
set_option maxHeartbeats 4000000 in
theorem cuts_calls (cb : Nat) (a0 a1 a2 : Int) (sv mv : Value) (p : S103) (w : World) (hc : w.heap[cb]? = some (.cells #[.int .i64 a0, .int .i64 a1, .int .i64 a2, sv, mv] 139 (0, 0))) (hp2 : 0 ≤ p.f2 ∧ p.f2 ≤ 8) (hp3 : 0 ≤ p.f3 ∧ p.f3 ≤ 8) :
  Calls Try.prog 86 #[.pointer (some ⟨cb, 0, none⟩), .agg #[.int .i64 p.f0, .int .i64 p.f1, .int .i64 p.f2, .int .i64 p.f3]] w fun e w' => ∃ A c, e = .returned (.slice A (cutsOf a2 p).length c) ∧ w'.ownsRow w.heap.size 112 3 (.slice A (cutsOf a2 p).length c) (cutsOf a2 p).length (ccs (cutsOf a2 p)) ∧ Below w.heap.size w w' := by
 have HC := Lib.hid hc
 have hcl := blk_lt hc
 clear hc
 have hb2 : Below w.heap.size w ((w.alloc (.cells #[.int .i64 p.f0, .int .i64 p.f1, .int .i64 p.f2, .int .i64 p.f3] 103)).alloc (.cells #[.slice none 0 0] 57)) := below_alloc (below_alloc (Below.refl _ _) _) _
 have hP2 : ((w.alloc (.cells #[.int .i64 p.f0, .int .i64 p.f1, .int .i64 p.f2, .int .i64 p.f3] 103)).alloc (.cells #[.slice none 0 0] 57)).heap[w.heap.size]? = some (.cells #[.int .i64 p.f0, .int .i64 p.f1, .int .i64 p.f2, .int .i64 p.f3] 103 (0, 0)) := blk_below (alloc_at rfl) (below_alloc (Below.refl _ _) _)
 have hO2 : ((w.alloc (.cells #[.int .i64 p.f0, .int .i64 p.f1, .int .i64 p.f2, .int .i64 p.f3] 103)).alloc (.cells #[.slice none 0 0] 57)).heap[w.heap.size + 1]? = some (.cells #[.slice none 0 0] 57 (0, 0)) := alloc_at (by simp)
 have HP2 := Lib.hid hP2
 have HO2 := Lib.hid hO2
 clear hP2 hO2
 refine (callsIn_wide (n := 20)).1 ?_
 refine callsIn_of_wp_marks Try.func86 rfl trivial ?_ rfl
 simp only [Try.ntmps86, List.size_toArray, List.length_cons, List.length_nil, Nat.reduceAdd, Nat.reduceSub, Array.replicate_succ, Array.replicate_zero, List.push_toArray, List.append_toArray, List.nil_append, List.cons_append]
 refine (wpIn_wide (n := 20)).2 ?_
 refine Code.wp_mono retPost_M ?_
 obtain ⟨i0, hinf, hz0, hz1, hz2⟩ := info_parts infoS112
 go_wp2_with (go_at_call 90; refine (directions_calls _).mono ?_; rintro e w1 ⟨g, rfl, hD1, hb1⟩; have HD1 := Lib.hid hD1; clear hD1)
 have hW1 := below_step hb2 hb1
 have HP1 := Lib.hid (blk_below HP2.out hb1)
 have HO1 := Lib.hid (blk_below HO2.out hb1)
 clear HP2 HO2 hb2 hb1
 refine wp_loop (fun a wr => ∃ (k : Nat) (ov : Value) (L : List S112) (ds : List Deferred) (u5 u6 u7 u11 u12 u13 u14 u15 u16 u17 u18 u19 u20 u21 u22 u23 u24 u25 u26 u27 u28 u29 u30 u31 u33 u34 u35 u36 u37 u38 u39 u40 u41 : Value), a = { tmps := #[.pointer (some ⟨cb, 0, none⟩), .agg #[.int .i64 p.f0, .int .i64 p.f1, .int .i64 p.f2, .int .i64 p.f3], undef, .pointer (some ⟨w.heap.size, 0, none⟩), .pointer (some ⟨w.heap.size + 1, 0, none⟩), u5, u6, u7, .slice (some ⟨g, 0, none⟩) 2 2, .int .i64 2, .int .i64 k, u11, u12, u13, u14, u15, u16, u17, u18, u19, u20, u21, u22, u23, u24, u25, u26, u27, u28, u29, u30, u31, undef, u33, u34, u35, u36, u37, u38, u39, u40, u41, undef], defers := ds } ∧ k ≤ 2 ∧ L.length ≤ 9 * k ∧ Hid (L = (if k = 0 then [] else if k = 1 then cutsRow a2 p false (p.f2 + 1).toNat 0 else cutsOf a2 p)) ∧ Hid (wr.ownsRow w.heap.size 112 3 ov L.length (ccs L)) ∧ Hid (wr.heap[w.heap.size + 1]? = some (.cells #[ov] 57 (0, 0))) ∧ Hid (wr.heap[w.heap.size]? = some (.cells #[.int .i64 p.f0, .int .i64 p.f1, .int .i64 p.f2, .int .i64 p.f3] 103 (0, 0))) ∧ Hid (wr.heap[g]? = some (.cells #[.func (.func 104) #[] #[], .func (.func 105) #[] #[], .func (.func 106) #[] #[], .func (.func 107) #[] #[]] 156 (0, 0))) ∧ Hid (Marks w.heap.size ds wr) ∧ Below w.heap.size w wr) (fun a _ => 2 - (intOf (a.tmps.getD 10 undef)).toNat) ?_ ?_
 ·exact ⟨0, _, [], [], _, _, _, _, _, _, _, _, _, _, _, _, _, _, _, _, _, _, _, _, _, _, _, _, _, _, _, _, _, _, _, _, _, rfl, by omega, by simp, Lib.hid rfl, Lib.hid (World.ownsRow_nil _ _ _ _), HO1, HP1, HD1, Lib.hid (Marks.none_ _ _), hW1⟩
 rintro a wr ⟨k, ov, L, ds, u5, u6, u7, u11, u12, u13, u14, u15, u16, u17, u18, u19, u20, u21, u22, u23, u24, u25, u26, u27, u28, u29, u30, u31, u33, u34, u35, u36, u37, u38, u39, u40, u41, rfl, hk, hLl, HL, HOW, HO, HP, HD, HM, hB⟩
 clear HO1 HP1 HD1 hW1
 have h3 : k = 0 ∨ k = 1 ∨ k = 2 := by omega
 dsimp only
 rcases h3 with rfl | rfl | rfl
 ·have hbA : Below wr.heap.size wr ((wr.alloc (.cells #[.int .i64 0] 3)).alloc (.cells #[.func (.func 104) #[] #[], .func (.func 105) #[] #[]] 156)) := below_alloc (below_alloc (Below.refl _ _) _) _
  have hTA : ((wr.alloc (.cells #[.int .i64 0] 3)).alloc (.cells #[.func (.func 104) #[] #[], .func (.func 105) #[] #[]] 156)).heap[wr.heap.size]? = some (.cells #[.int .i64 0] 3 (0, 0)) := blk_below (alloc_at rfl) (below_alloc (Below.refl _ _) _)
  have hDA : ((wr.alloc (.cells #[.int .i64 0] 3)).alloc (.cells #[.func (.func 104) #[] #[], .func (.func 105) #[] #[]] 156)).heap[wr.heap.size + 1]? = some (.cells #[.func (.func 104) #[] #[], .func (.func 105) #[] #[]] 156 (0, 0)) := alloc_at (by simp)
  have hPA := blk_below HP.out hbA
  have hda0 : wr.cell? ⟨g, 0, none⟩ = some (.func (.func 104) #[] #[]) := (blk_cell HD.out 0).trans rfl
  have hda1 : wr.cell? ⟨g, 1, none⟩ = some (.func (.func 105) #[] #[]) := (blk_cell HD.out 1).trans rfl
  have hdb0 : ((wr.alloc (.cells #[.int .i64 0] 3)).alloc (.cells #[.func (.func 104) #[] #[], .func (.func 105) #[] #[]] 156)).cell? ⟨wr.heap.size + 1, 0, none⟩ = some (.func (.func 104) #[] #[]) := (blk_cell hDA 0).trans rfl
  have hdb1 : ((wr.alloc (.cells #[.int .i64 0] 3)).alloc (.cells #[.func (.func 104) #[] #[], .func (.func 105) #[] #[]] 156)).cell? ⟨wr.heap.size + 1, 1, none⟩ = some (.func (.func 105) #[] #[]) := (blk_cell hDA 1).trans rfl
  have hpa0 : (((wr.alloc (.cells #[.int .i64 0] 3)).alloc (.cells #[.func (.func 104) #[] #[], .func (.func 105) #[] #[]] 156))).cell? ⟨w.heap.size, 0, none⟩ = some (.int .i64 p.f0) := (blk_cell hPA 0).trans rfl
  have hpa1 : (((wr.alloc (.cells #[.int .i64 0] 3)).alloc (.cells #[.func (.func 104) #[] #[], .func (.func 105) #[] #[]] 156))).cell? ⟨w.heap.size, 1, none⟩ = some (.int .i64 p.f1) := (blk_cell hPA 1).trans rfl
  have hpa2 : (((wr.alloc (.cells #[.int .i64 0] 3)).alloc (.cells #[.func (.func 104) #[] #[], .func (.func 105) #[] #[]] 156))).cell? ⟨w.heap.size, 2, none⟩ = some (.int .i64 p.f2) := (blk_cell hPA 2).trans rfl
  have hpa3 : (((wr.alloc (.cells #[.int .i64 0] 3)).alloc (.cells #[.func (.func 104) #[] #[], .func (.func 105) #[] #[]] 156))).cell? ⟨w.heap.size, 3, none⟩ = some (.int .i64 p.f3) := (blk_cell hPA 3).trans rfl
  go_wp2_with fail
  refine (wide_calls _ _ _ _ _).mono ?_
  rintro e w2 ⟨rfl, hb2⟩
  have hbr := below_step hbA hb2
  have HP2 := Lib.hid (blk_below HP.out hbr)
  have HO2 := Lib.hid (blk_below HO.out hbr)
  have HD2 := Lib.hid (blk_below HD.out hbr)
  have HM2 := Lib.hid (HM.out.below hbr)
  have HOW2 := Lib.hid (pw_own_below HOW.out hbr)
  have HT2 := Lib.hid (blk_below hTA hb2)
  have HDA2 := Lib.hid (blk_below hDA hb2)
  have hB2 := below_step hB hbr
  clear hbA hTA hDA hPA hda0 hda1 hdb0 hdb1 hpa0 hpa1 hpa2 hpa3 hb2 HP HO HD HM HOW
  go_wp2
  refine wp_loop (fun a wi => ∃ (i : Nat) (ov : Value) (L1 : List S112) (ds : List Deferred) (u7 u21 u22 u23 u24 u25 u26 u27 u28 u29 u30 u31 u33 u34 u35 u36 u37 u38 u39 u40 u41 : Value), a = { tmps := #[.pointer (some ⟨cb, 0, none⟩), .agg #[.int .i64 p.f0, .int .i64 p.f1, .int .i64 p.f2, .int .i64 p.f3], undef, .pointer (some ⟨w.heap.size, 0, none⟩), .pointer (some ⟨w.heap.size + 1, 0, none⟩), .pointer (some ⟨wr.heap.size, 0, none⟩), .pointer (some ⟨wr.heap.size + 1, 0, none⟩), u7, .slice (some ⟨g, 0, none⟩) 2 2, .int .i64 2, .int .i64 0, .bool true, .int .i64 0, .pointer (some ⟨g, 0, none⟩), .agg #[.func (.func 104) #[] #[], .func (.func 105) #[] #[]], .pointer (some ⟨wr.heap.size + 1, 0, none⟩), .func (.func 104) #[] #[], .agg #[.int .i64 p.f0, .int .i64 p.f1, .int .i64 p.f2, .int .i64 p.f3], .int .i64 p.f2, .int .i64 (p.f2 + 1), .int .i64 i, u21, u22, u23, u24, u25, u26, u27, u28, u29, u30, u31, undef, u33, u34, u35, u36, u37, u38, u39, u40, u41, undef], defers := ds } ∧ (i : Int) ≤ (p.f2 + 1) ∧ L1.length ≤ 9 * 0 + i ∧ Hid (L ++ cutsRow a2 p false (p.f2 + 1).toNat 0 = L1 ++ cutsRow a2 p false ((p.f2 + 1).toNat - i) i) ∧ Hid (wi.ownsRow w.heap.size 112 3 ov L1.length (ccs L1)) ∧ Hid (wi.heap[w.heap.size + 1]? = some (.cells #[ov] 57 (0, 0))) ∧ Hid (wi.heap[w.heap.size]? = some (.cells #[.int .i64 p.f0, .int .i64 p.f1, .int .i64 p.f2, .int .i64 p.f3] 103 (0, 0))) ∧ Hid (wi.heap[g]? = some (.cells #[.func (.func 104) #[] #[], .func (.func 105) #[] #[], .func (.func 106) #[] #[], .func (.func 107) #[] #[]] 156 (0, 0))) ∧ Hid (wi.heap[wr.heap.size]? = some (.cells #[.int .i64 0] 3 (0, 0))) ∧ Hid (wi.heap[wr.heap.size + 1]? = some (.cells #[.func (.func 104) #[] #[], .func (.func 105) #[] #[]] 156 (0, 0))) ∧ Hid (Marks w.heap.size ds wi) ∧ Below w.heap.size w wi) (fun a _ => (p.f2 + 1).toNat - (intOf (a.tmps.getD 20 undef)).toNat) ?_ ?_
  ·exact ⟨0, _, L, _, _, _, _, _, _, _, _, _, _, _, _, _, _, _, _, _, _, _, _, _, _, rfl, by omega, by omega, Lib.hid rfl, HOW2, HO2, HP2, HD2, HT2, HDA2, HM2, hB2⟩
  rintro a wi ⟨i, ov, L1, ds, u7, u21, u22, u23, u24, u25, u26, u27, u28, u29, u30, u31, u33, u34, u35, u36, u37, u38, u39, u40, u41, rfl, hi, hLl1, HL1, HOW, HO, HP, HD, HT, HDA, HM, hB⟩
  clear HOW2 HO2 HP2 HD2 HT2 HDA2 HM2 hB2
  dsimp only
  by_cases hlt : (i : Int) < (p.f2 + 1)
  ·have hbB := below_alloc (Below.refl wi.heap.size wi) (.cells #[.int .i64 i] 3)
   have hAB : (wi.alloc (.cells #[.int .i64 i] 3)).heap[wi.heap.size]? = some (.cells #[.int .i64 i] 3 (0, 0)) := alloc_at rfl
   have hDB := blk_below HDA.out hbB
   have hPB := blk_below HP.out hbB
   have hBB := below_step hB hbB
   have hCB := blk_below HC.out hBB
   have h68 : ∀ W, Calls Try.prog 68 #[.agg #[.func (.func 104) #[] #[], .func (.func 105) #[] #[]], .agg #[.int .i64 p.f0, .int .i64 p.f1, .int .i64 p.f2, .int .i64 p.f3], .int .i64 i, .int .i64 a2] W _ := fun W => parts_calls false p i a2 W
   have H68 := Lib.hid h68
   clear h68
   go_wp2
   refine s_ 9 (fun w' => w'.cell? ⟨wr.heap.size + 1, 0, none⟩ = some (.func (.func 104) #[] #[]) ∧ w'.cell? ⟨wr.heap.size + 1, 1, none⟩ = some (.func (.func 105) #[] #[]) ∧ w'.cell? ⟨w.heap.size, 0, none⟩ = some (.int .i64 p.f0) ∧ w'.cell? ⟨w.heap.size, 1, none⟩ = some (.int .i64 p.f1) ∧ w'.cell? ⟨w.heap.size, 2, none⟩ = some (.int .i64 p.f2) ∧ w'.cell? ⟨w.heap.size, 3, none⟩ = some (.int .i64 p.f3) ∧ w'.cell? ⟨wi.heap.size, 0, none⟩ = some (.int .i64 i) ∧ w'.cell? ⟨cb, 2, none⟩ = some (.int .i64 a2)) [] ⟨(cB hDB), (cB hDB), (cB hPB), (cB hPB), (cB hPB), (cB hPB), (cB hAB), (cB hCB)⟩ (fun hHeld => ?_)
   refine p_ 3 (some 26) ?_
   refine p_ 4 (some 27) ?_
   refine p_ 5 (some 28) ?_
   refine p_ 6 (some 29) ?_
   refine t_ 0 (some 23) hHeld ?_
   refine t_ 1 (some 24) hHeld ?_
   refine t_ 2 (some 25) hHeld ?_
   refine t_ 7 (some 30) hHeld ?_
   refine e_ 8 (some 31) (fun K hK => ?_)
   refine goes_ Try.func68 (by kernel_rfl) rfl #[.agg #[.func (.func 104) #[] #[], .func (.func 105) #[] #[]], .agg #[.int .i64 p.f0, .int .i64 p.f1, .int .i64 p.f2, .int .i64 p.f3], .int .i64 i, .int .i64 a2] (by rfl) rfl rfl (by simp only [List.map_toArray, List.map_cons, List.map_nil]; rfl) ?_
   with_reducible refine (H68.out _).mono ?_
   rintro e W8 ⟨gs, hgs1, hgs2, rfl, PA, hs⟩
   refine ⟨_, rfl, ?_⟩
   refine hK.out _ _ (mv8 hs hHeld) (fun hHeld => ?_)
   clear hK K
   refine n_ ?_
   refine done_ (by kernel_rfl) ?_
   have hb8 : Below wi.heap.size wi W8 := below_step (below_drew1 hbB) hs
   have hst : CSt w (cutBl w.heap.size g wr.heap.size (wr.heap.size + 1) wi.heap.size p false i) (w.heap.size + 1) ov L1 ds W8 := ⟨fun x hx => by
     simp only [cutBl, List.mem_cons, List.not_mem_nil, or_false] at hx
     rcases hx with rfl | rfl | rfl | rfl | rfl
     ·exact blk_below HP.out hb8
     ·exact blk_below HD.out hb8
     ·exact blk_below HT.out hb8
     ·exact blk_below HDA.out hb8
     ·exact blk_below hAB (below_step (below_drew1 (Below.refl _ _)) hs),
    blk_below HO.out hb8, pw_own_below HOW.out hb8, HM.out.below hb8, below_step hB hb8⟩
   have hLL : L1.length ≤ 40 := by omega
   have HST := Lib.hid hst
   have HPA := Lib.hid PA
   clear hbB hAB hDB hPB hBB hCB H68 hHeld hs hb8 hst HP HO HD HT HDA HM HOW PA
   go_wp2
   have hlt8 := HST.out.lt
   have hw8 := HST.out.bw.size
   generalize hbl : cutBl w.heap.size g wr.heap.size (wr.heap.size + 1) wi.heap.size p false i = bl at HST
   have HBL := Lib.hid hbl
   clear hbl
   unfold seqV
   refine (wpIn_wide (n := 20)).1 ?_
   refine wpIn_rangeFunc_ownH rfl (by decide) (gf := 91) (lb := #[.pointer (some ⟨gs, 0, none⟩), .pointer (some ⟨gs + 1, 0, none⟩), .pointer (some ⟨gs + 1 + 1, 0, none⟩), .pointer (some ⟨gs + 1 + 1 + 1, 0, none⟩)]) rfl trivial (enters_of Try.func91 (by kernel_rfl) rfl)
    (parts_stops 19 (by decide) false gs p i a2 W8 HPA.out hgs2) (fun h k => fun i a b => (k i a b).trans (h i a b)) (fun W l o o' hl ho hc _ => fun i a b => World.putObj_heap_other (by omega)) (Below.refl _ _) (fun _ => rfl)
    (fun pre W => pre = [] ∧ CSt w bl (w.heap.size + 1) ov L1 ds W)
    (fun cd pre W => cd = .exit 4 ∧ pre.length = 1 ∧ ∃ ov', CSt w bl (w.heap.size + 1) ov' (L1 ++ [⟨0, false, i⟩]) ds W)
    (fun s W W' row hs hg hr => ⟨hs.1, hs.2.grown hlt8 hw8 hg hr⟩) (fun cd s W W' row hs hg hr => ⟨hs.1, hs.2.1, hs.2.2.elim fun ov' h => ⟨ov', h.grown hlt8 hw8 hg hr⟩⟩)
    ⟨rfl, HST.out⟩
    (fun x a' W => a' = { tmps := #[.pointer (some ⟨cb, 0, none⟩), .agg #[.int .i64 p.f0, .int .i64 p.f1, .int .i64 p.f2, .int .i64 p.f3], undef, .pointer (some ⟨w.heap.size, 0, none⟩), .pointer (some ⟨w.heap.size + 1, 0, none⟩), .pointer (some ⟨wr.heap.size, 0, none⟩), .pointer (some ⟨wr.heap.size + 1, 0, none⟩), .pointer (some ⟨wi.heap.size, 0, none⟩), .slice (some ⟨g, 0, none⟩) 2 2, .int .i64 2, .int .i64 0, .bool true, .int .i64 0, .pointer (some ⟨g, 0, none⟩), .agg #[.func (.func 104) #[] #[], .func (.func 105) #[] #[]], .pointer (some ⟨wr.heap.size + 1, 0, none⟩), .func (.func 104) #[] #[], .agg #[.int .i64 p.f0, .int .i64 p.f1, .int .i64 p.f2, .int .i64 p.f3], .int .i64 p.f2, .int .i64 (p.f2 + 1), .int .i64 i, .bool true, .int .i64 i, .agg #[.func (.func 104) #[] #[], .func (.func 105) #[] #[]], .agg #[.int .i64 p.f0, .int .i64 p.f1, .int .i64 p.f2, .int .i64 p.f3], .int .i64 i, .pointer (some ⟨cb, 0, none⟩), .pointer (some ⟨cb, 0, none⟩), .pointer (some ⟨cb, 0, none⟩), .pointer (some ⟨cb, 2, none⟩), .int .i64 a2, .func (.func 91) #[] #[.pointer (some ⟨gs, 0, none⟩), .pointer (some ⟨gs + 1, 0, none⟩), .pointer (some ⟨gs + 1 + 1, 0, none⟩), .pointer (some ⟨gs + 1 + 1 + 1, 0, none⟩)], pv x, u33, u34, u35, u36, u37, u38, u39, u40, u41, undef], defers := [] })
    ?hAx ?assign ?body ?done ?stop
   case hAx => intro x a' _ X Y row hs hg hr; exact hs
   case assign =>
    rintro l pre x W K hI hK
    have HK := Lib.hid hK
    clear hK
    gi_wp2
    exact HK.out _ _ (KeepsFrom.refl _ _) (fun _ _ _ => rfl) hI rfl
   case body =>
    rintro l pre x a' W hl ⟨r, hr⟩ ⟨rfl, hst⟩ rfl hlt0
    have hT1 := hst.st (wr.heap.size, #[.int .i64 0], 3) (by rw [← HBL.out]; simp [cutBl])
    have hI1 := hst.st (wi.heap.size, #[.int .i64 i], 3) (by rw [← HBL.out]; simp [cutBl])
    have ho1 : W.cell? ⟨w.heap.size + 1, 0, none⟩ = some ov := (blk_cell hst.out 0).trans rfl
    have ht1 : W.cell? ⟨wr.heap.size, 0, none⟩ = some (.int .i64 0) := (blk_cell hT1 0).trans rfl
    have hi1 : W.cell? ⟨wi.heap.size, 0, none⟩ = some (.int .i64 i) := (blk_cell hI1 0).trans rfl
    obtain ⟨m, hm⟩ : ∃ m, L1.length = m := ⟨_, rfl⟩
    have hown := hst.own
    rw [hm] at hown
    obtain ⟨A', c', rfl⟩ := own_form hown
    have hm2 : m ≤ 40 := by omega
    have HM := Lib.hid hm
    have HS := Lib.hid hst
    clear hm hst hT1 hI1 hLL
    unfold pv
    gi_wp2_with (gi_at_builtin; refine wpListIn_append_own_at _ rfl _ _ 57 rfl w.heap.size 112 i0 _ 3 24 Try.underlying57 hinf hz0 hz1 hz2 rfl (by decide) _ _ _ rfl (hown.alloc _) ⟨W.heap.size, 0, none⟩ 1 1 (cc ⟨0, false, i⟩) rfl rfl (World.news_of_block (alloc_at rfl)) (by simp [cc, Value.oneCell']) (by simp [maxLen]; omega) (by omega) (by have := HS.out.bw.size; simp; omega) ?_; intro v1 w1 hown1 hgrow _ hat; obtain ⟨hb1, hS1, hkf⟩ := HS.out.append (x := ⟨0, false, i⟩) (by rw [← HBL.out]; simp [cutBl]) (by omega) (by rw [HM.out]; exact hown1) hgrow; obtain ⟨g1, cap1, rfl⟩ := ownsRow_succ hown1; have hc1 : w1.cell? ⟨w.heap.size + 1, 0, none⟩ = some (.slice A' m c') := (blk_cell hb1 0).trans rfl; have hf1 : w1.frozen? ⟨w.heap.size + 1, 0, none⟩ = false := blk_frozen hb1 0)
    exact ⟨hkf _, rfl, rfl, _, hS1⟩
   case done =>
    rintro D ys W hD rfl ⟨hnil, hst⟩ hK
    have HST2 := Lib.hid hst
    have HNIL := Lib.hid hnil
    have HK := Lib.hid hK
    clear hnil hst hK
    have hnext : L ++ cutsRow a2 p false (p.f2 + 1).toNat 0 = (L1) ++ cutsRow a2 p false ((p.f2 + 1).toNat - (i + 1)) (i + 1) := by rw [HL1.out, cutsRow_no (by omega) HNIL.out]
    have HNX := Lib.hid hnext
    have HMK := Lib.hid ((HST2.out.mrk).more HST.out.mrk hD (by omega) HK.out)
    clear hnext
    go_wp2
    refine ⟨⟨i + 1, _, _, _, _, _, _, _, _, _, _, _, _, _, _, _, _, _, _, _, _, _, _, _, _, rfl, by omega, ?_, HNX, Lib.hid HST2.out.own, Lib.hid HST2.out.out, Lib.hid (HST2.out.st (w.heap.size, _, 103) (by rw [← HBL.out]; simp [cutBl])), Lib.hid (HST2.out.st (g, _, 156) (by rw [← HBL.out]; simp [cutBl])), Lib.hid (HST2.out.st (wr.heap.size, #[.int .i64 0], 3) (by rw [← HBL.out]; simp [cutBl])), Lib.hid (HST2.out.st (wr.heap.size + 1, #[.func (.func 104) #[] #[], .func (.func 105) #[] #[]], 156) (by rw [← HBL.out]; simp [cutBl, dcell])), HMK, HST2.out.bw⟩, ?_⟩
    ·omega
    ·simp [intOf]; omega
   case stop =>
    rintro D cd pre W hD hpre ⟨rfl, hl1, ov', hst⟩ hK
    have HST2 := Lib.hid hst
    have HK := Lib.hid hK
    have HPRE := Lib.hid hpre
    clear hst hK hpre
    gi_wp2
    have hnext : L ++ cutsRow a2 p false (p.f2 + 1).toNat 0 = (L1 ++ [⟨0, false, i⟩]) ++ cutsRow a2 p false ((p.f2 + 1).toNat - (i + 1)) (i + 1) := by rw [HL1.out, cutsRow_yes (by omega) (pre_ne HPRE.out hl1), List.append_assoc, List.singleton_append]
    have HNX := Lib.hid hnext
    have HMK := Lib.hid ((HST2.out.mrk).more HST.out.mrk hD (by omega) HK.out)
    clear hnext
    go_wp2
    refine ⟨⟨i + 1, _, _, _, _, _, _, _, _, _, _, _, _, _, _, _, _, _, _, _, _, _, _, _, _, rfl, by omega, ?_, HNX, Lib.hid HST2.out.own, Lib.hid HST2.out.out, Lib.hid (HST2.out.st (w.heap.size, _, 103) (by rw [← HBL.out]; simp [cutBl])), Lib.hid (HST2.out.st (g, _, 156) (by rw [← HBL.out]; simp [cutBl])), Lib.hid (HST2.out.st (wr.heap.size, #[.int .i64 0], 3) (by rw [← HBL.out]; simp [cutBl])), Lib.hid (HST2.out.st (wr.heap.size + 1, #[.func (.func 104) #[] #[], .func (.func 105) #[] #[]], 156) (by rw [← HBL.out]; simp [cutBl, dcell])), HMK, HST2.out.bw⟩, ?_⟩
    ·simp; omega
    ·simp [intOf]; omega
  ·have hie : (p.f2 + 1).toNat - i = 0 := by omega
   have hdone : L1 = L ++ cutsRow a2 p false (p.f2 + 1).toNat 0 := by rw [HL1.out, hie]; simp [cutsRow]
   have HDN := Lib.hid hdone
   clear hdone HL1 hie
   go_wp2
   refine ⟨⟨1, _, _, _, ⟨rfl, rfl⟩, by omega, ?_, ?_, HOW, HO, HM⟩, ?_⟩
   ·omega
   ·exact Lib.hid (by rw [HDN.out, HL.out]; simp)
   ·simp [intOf]
 ·have hbA : Below wr.heap.size wr ((wr.alloc (.cells #[.int .i64 1] 3)).alloc (.cells #[.func (.func 106) #[] #[], .func (.func 107) #[] #[]] 156)) := below_alloc (below_alloc (Below.refl _ _) _) _
  have hTA : ((wr.alloc (.cells #[.int .i64 1] 3)).alloc (.cells #[.func (.func 106) #[] #[], .func (.func 107) #[] #[]] 156)).heap[wr.heap.size]? = some (.cells #[.int .i64 1] 3 (0, 0)) := blk_below (alloc_at rfl) (below_alloc (Below.refl _ _) _)
  have hDA : ((wr.alloc (.cells #[.int .i64 1] 3)).alloc (.cells #[.func (.func 106) #[] #[], .func (.func 107) #[] #[]] 156)).heap[wr.heap.size + 1]? = some (.cells #[.func (.func 106) #[] #[], .func (.func 107) #[] #[]] 156 (0, 0)) := alloc_at (by simp)
  have hPA := blk_below HP.out hbA
  have hda0 : wr.cell? ⟨g, 2, none⟩ = some (.func (.func 106) #[] #[]) := (blk_cell HD.out 2).trans rfl
  have hda1 : wr.cell? ⟨g, 3, none⟩ = some (.func (.func 107) #[] #[]) := (blk_cell HD.out 3).trans rfl
  have hdb0 : ((wr.alloc (.cells #[.int .i64 1] 3)).alloc (.cells #[.func (.func 106) #[] #[], .func (.func 107) #[] #[]] 156)).cell? ⟨wr.heap.size + 1, 0, none⟩ = some (.func (.func 106) #[] #[]) := (blk_cell hDA 0).trans rfl
  have hdb1 : ((wr.alloc (.cells #[.int .i64 1] 3)).alloc (.cells #[.func (.func 106) #[] #[], .func (.func 107) #[] #[]] 156)).cell? ⟨wr.heap.size + 1, 1, none⟩ = some (.func (.func 107) #[] #[]) := (blk_cell hDA 1).trans rfl
  have hpa0 : (((wr.alloc (.cells #[.int .i64 1] 3)).alloc (.cells #[.func (.func 106) #[] #[], .func (.func 107) #[] #[]] 156))).cell? ⟨w.heap.size, 0, none⟩ = some (.int .i64 p.f0) := (blk_cell hPA 0).trans rfl
  have hpa1 : (((wr.alloc (.cells #[.int .i64 1] 3)).alloc (.cells #[.func (.func 106) #[] #[], .func (.func 107) #[] #[]] 156))).cell? ⟨w.heap.size, 1, none⟩ = some (.int .i64 p.f1) := (blk_cell hPA 1).trans rfl
  have hpa2 : (((wr.alloc (.cells #[.int .i64 1] 3)).alloc (.cells #[.func (.func 106) #[] #[], .func (.func 107) #[] #[]] 156))).cell? ⟨w.heap.size, 2, none⟩ = some (.int .i64 p.f2) := (blk_cell hPA 2).trans rfl
  have hpa3 : (((wr.alloc (.cells #[.int .i64 1] 3)).alloc (.cells #[.func (.func 106) #[] #[], .func (.func 107) #[] #[]] 156))).cell? ⟨w.heap.size, 3, none⟩ = some (.int .i64 p.f3) := (blk_cell hPA 3).trans rfl
  go_wp2_with fail
  refine (long_calls _ _ _ _ _).mono ?_
  rintro e w2 ⟨rfl, hb2⟩
  have hbr := below_step hbA hb2
  have HP2 := Lib.hid (blk_below HP.out hbr)
  have HO2 := Lib.hid (blk_below HO.out hbr)
  have HD2 := Lib.hid (blk_below HD.out hbr)
  have HM2 := Lib.hid (HM.out.below hbr)
  have HOW2 := Lib.hid (pw_own_below HOW.out hbr)
  have HT2 := Lib.hid (blk_below hTA hb2)
  have HDA2 := Lib.hid (blk_below hDA hb2)
  have hB2 := below_step hB hbr
  clear hbA hTA hDA hPA hda0 hda1 hdb0 hdb1 hpa0 hpa1 hpa2 hpa3 hb2 HP HO HD HM HOW
  go_wp2
  refine wp_loop (fun a wi => ∃ (i : Nat) (ov : Value) (L1 : List S112) (ds : List Deferred) (u7 u21 u22 u23 u24 u25 u26 u27 u28 u29 u30 u31 u33 u34 u35 u36 u37 u38 u39 u40 u41 : Value), a = { tmps := #[.pointer (some ⟨cb, 0, none⟩), .agg #[.int .i64 p.f0, .int .i64 p.f1, .int .i64 p.f2, .int .i64 p.f3], undef, .pointer (some ⟨w.heap.size, 0, none⟩), .pointer (some ⟨w.heap.size + 1, 0, none⟩), .pointer (some ⟨wr.heap.size, 0, none⟩), .pointer (some ⟨wr.heap.size + 1, 0, none⟩), u7, .slice (some ⟨g, 0, none⟩) 2 2, .int .i64 2, .int .i64 1, .bool true, .int .i64 1, .pointer (some ⟨g, 2, none⟩), .agg #[.func (.func 106) #[] #[], .func (.func 107) #[] #[]], .pointer (some ⟨wr.heap.size + 1, 0, none⟩), .func (.func 106) #[] #[], .agg #[.int .i64 p.f0, .int .i64 p.f1, .int .i64 p.f2, .int .i64 p.f3], .int .i64 p.f3, .int .i64 (p.f3 + 1), .int .i64 i, u21, u22, u23, u24, u25, u26, u27, u28, u29, u30, u31, undef, u33, u34, u35, u36, u37, u38, u39, u40, u41, undef], defers := ds } ∧ (i : Int) ≤ (p.f3 + 1) ∧ L1.length ≤ 9 * 1 + i ∧ Hid (L ++ cutsRow a2 p true (p.f3 + 1).toNat 0 = L1 ++ cutsRow a2 p true ((p.f3 + 1).toNat - i) i) ∧ Hid (wi.ownsRow w.heap.size 112 3 ov L1.length (ccs L1)) ∧ Hid (wi.heap[w.heap.size + 1]? = some (.cells #[ov] 57 (0, 0))) ∧ Hid (wi.heap[w.heap.size]? = some (.cells #[.int .i64 p.f0, .int .i64 p.f1, .int .i64 p.f2, .int .i64 p.f3] 103 (0, 0))) ∧ Hid (wi.heap[g]? = some (.cells #[.func (.func 104) #[] #[], .func (.func 105) #[] #[], .func (.func 106) #[] #[], .func (.func 107) #[] #[]] 156 (0, 0))) ∧ Hid (wi.heap[wr.heap.size]? = some (.cells #[.int .i64 1] 3 (0, 0))) ∧ Hid (wi.heap[wr.heap.size + 1]? = some (.cells #[.func (.func 106) #[] #[], .func (.func 107) #[] #[]] 156 (0, 0))) ∧ Hid (Marks w.heap.size ds wi) ∧ Below w.heap.size w wi) (fun a _ => (p.f3 + 1).toNat - (intOf (a.tmps.getD 20 undef)).toNat) ?_ ?_
  ·exact ⟨0, _, L, _, _, _, _, _, _, _, _, _, _, _, _, _, _, _, _, _, _, _, _, _, _, rfl, by omega, by omega, Lib.hid rfl, HOW2, HO2, HP2, HD2, HT2, HDA2, HM2, hB2⟩
  rintro a wi ⟨i, ov, L1, ds, u7, u21, u22, u23, u24, u25, u26, u27, u28, u29, u30, u31, u33, u34, u35, u36, u37, u38, u39, u40, u41, rfl, hi, hLl1, HL1, HOW, HO, HP, HD, HT, HDA, HM, hB⟩
  clear HOW2 HO2 HP2 HD2 HT2 HDA2 HM2 hB2
  dsimp only
  by_cases hlt : (i : Int) < (p.f3 + 1)
  ·have hbB := below_alloc (Below.refl wi.heap.size wi) (.cells #[.int .i64 i] 3)
   have hAB : (wi.alloc (.cells #[.int .i64 i] 3)).heap[wi.heap.size]? = some (.cells #[.int .i64 i] 3 (0, 0)) := alloc_at rfl
   have hDB := blk_below HDA.out hbB
   have hPB := blk_below HP.out hbB
   have hBB := below_step hB hbB
   have hCB := blk_below HC.out hBB
   have h68 : ∀ W, Calls Try.prog 68 #[.agg #[.func (.func 106) #[] #[], .func (.func 107) #[] #[]], .agg #[.int .i64 p.f0, .int .i64 p.f1, .int .i64 p.f2, .int .i64 p.f3], .int .i64 i, .int .i64 a2] W _ := fun W => parts_calls true p i a2 W
   have H68 := Lib.hid h68
   clear h68
   go_wp2
   refine s_ 9 (fun w' => w'.cell? ⟨wr.heap.size + 1, 0, none⟩ = some (.func (.func 106) #[] #[]) ∧ w'.cell? ⟨wr.heap.size + 1, 1, none⟩ = some (.func (.func 107) #[] #[]) ∧ w'.cell? ⟨w.heap.size, 0, none⟩ = some (.int .i64 p.f0) ∧ w'.cell? ⟨w.heap.size, 1, none⟩ = some (.int .i64 p.f1) ∧ w'.cell? ⟨w.heap.size, 2, none⟩ = some (.int .i64 p.f2) ∧ w'.cell? ⟨w.heap.size, 3, none⟩ = some (.int .i64 p.f3) ∧ w'.cell? ⟨wi.heap.size, 0, none⟩ = some (.int .i64 i) ∧ w'.cell? ⟨cb, 2, none⟩ = some (.int .i64 a2)) [] ⟨(cB hDB), (cB hDB), (cB hPB), (cB hPB), (cB hPB), (cB hPB), (cB hAB), (cB hCB)⟩ (fun hHeld => ?_)
   refine p_ 3 (some 26) ?_
   refine p_ 4 (some 27) ?_
   refine p_ 5 (some 28) ?_
   refine p_ 6 (some 29) ?_
   refine t_ 0 (some 23) hHeld ?_
   refine t_ 1 (some 24) hHeld ?_
   refine t_ 2 (some 25) hHeld ?_
   refine t_ 7 (some 30) hHeld ?_
   refine e_ 8 (some 31) (fun K hK => ?_)
   refine goes_ Try.func68 (by kernel_rfl) rfl #[.agg #[.func (.func 106) #[] #[], .func (.func 107) #[] #[]], .agg #[.int .i64 p.f0, .int .i64 p.f1, .int .i64 p.f2, .int .i64 p.f3], .int .i64 i, .int .i64 a2] (by rfl) rfl rfl (by simp only [List.map_toArray, List.map_cons, List.map_nil]; rfl) ?_
   with_reducible refine (H68.out _).mono ?_
   rintro e W8 ⟨gs, hgs1, hgs2, rfl, PA, hs⟩
   refine ⟨_, rfl, ?_⟩
   refine hK.out _ _ (mv8 hs hHeld) (fun hHeld => ?_)
   clear hK K
   refine n_ ?_
   refine done_ (by kernel_rfl) ?_
   have hb8 : Below wi.heap.size wi W8 := below_step (below_drew1 hbB) hs
   have hst : CSt w (cutBl w.heap.size g wr.heap.size (wr.heap.size + 1) wi.heap.size p true i) (w.heap.size + 1) ov L1 ds W8 := ⟨fun x hx => by
     simp only [cutBl, List.mem_cons, List.not_mem_nil, or_false] at hx
     rcases hx with rfl | rfl | rfl | rfl | rfl
     ·exact blk_below HP.out hb8
     ·exact blk_below HD.out hb8
     ·exact blk_below HT.out hb8
     ·exact blk_below HDA.out hb8
     ·exact blk_below hAB (below_step (below_drew1 (Below.refl _ _)) hs),
    blk_below HO.out hb8, pw_own_below HOW.out hb8, HM.out.below hb8, below_step hB hb8⟩
   have hLL : L1.length ≤ 40 := by omega
   have HST := Lib.hid hst
   have HPA := Lib.hid PA
   clear hbB hAB hDB hPB hBB hCB H68 hHeld hs hb8 hst HP HO HD HT HDA HM HOW PA
   go_wp2
   have hlt8 := HST.out.lt
   have hw8 := HST.out.bw.size
   generalize hbl : cutBl w.heap.size g wr.heap.size (wr.heap.size + 1) wi.heap.size p true i = bl at HST
   have HBL := Lib.hid hbl
   clear hbl
   unfold seqV
   refine (wpIn_wide (n := 20)).1 ?_
   refine wpIn_rangeFunc_ownH rfl (by decide) (gf := 91) (lb := #[.pointer (some ⟨gs, 0, none⟩), .pointer (some ⟨gs + 1, 0, none⟩), .pointer (some ⟨gs + 1 + 1, 0, none⟩), .pointer (some ⟨gs + 1 + 1 + 1, 0, none⟩)]) rfl trivial (enters_of Try.func91 (by kernel_rfl) rfl)
    (parts_stops 19 (by decide) true gs p i a2 W8 HPA.out hgs2) (fun h k => fun i a b => (k i a b).trans (h i a b)) (fun W l o o' hl ho hc _ => fun i a b => World.putObj_heap_other (by omega)) (Below.refl _ _) (fun _ => rfl)
    (fun pre W => pre = [] ∧ CSt w bl (w.heap.size + 1) ov L1 ds W)
    (fun cd pre W => cd = .exit 4 ∧ pre.length = 1 ∧ ∃ ov', CSt w bl (w.heap.size + 1) ov' (L1 ++ [⟨0, true, i⟩]) ds W)
    (fun s W W' row hs hg hr => ⟨hs.1, hs.2.grown hlt8 hw8 hg hr⟩) (fun cd s W W' row hs hg hr => ⟨hs.1, hs.2.1, hs.2.2.elim fun ov' h => ⟨ov', h.grown hlt8 hw8 hg hr⟩⟩)
    ⟨rfl, HST.out⟩
    (fun x a' W => a' = { tmps := #[.pointer (some ⟨cb, 0, none⟩), .agg #[.int .i64 p.f0, .int .i64 p.f1, .int .i64 p.f2, .int .i64 p.f3], undef, .pointer (some ⟨w.heap.size, 0, none⟩), .pointer (some ⟨w.heap.size + 1, 0, none⟩), .pointer (some ⟨wr.heap.size, 0, none⟩), .pointer (some ⟨wr.heap.size + 1, 0, none⟩), .pointer (some ⟨wi.heap.size, 0, none⟩), .slice (some ⟨g, 0, none⟩) 2 2, .int .i64 2, .int .i64 1, .bool true, .int .i64 1, .pointer (some ⟨g, 2, none⟩), .agg #[.func (.func 106) #[] #[], .func (.func 107) #[] #[]], .pointer (some ⟨wr.heap.size + 1, 0, none⟩), .func (.func 106) #[] #[], .agg #[.int .i64 p.f0, .int .i64 p.f1, .int .i64 p.f2, .int .i64 p.f3], .int .i64 p.f3, .int .i64 (p.f3 + 1), .int .i64 i, .bool true, .int .i64 i, .agg #[.func (.func 106) #[] #[], .func (.func 107) #[] #[]], .agg #[.int .i64 p.f0, .int .i64 p.f1, .int .i64 p.f2, .int .i64 p.f3], .int .i64 i, .pointer (some ⟨cb, 0, none⟩), .pointer (some ⟨cb, 0, none⟩), .pointer (some ⟨cb, 0, none⟩), .pointer (some ⟨cb, 2, none⟩), .int .i64 a2, .func (.func 91) #[] #[.pointer (some ⟨gs, 0, none⟩), .pointer (some ⟨gs + 1, 0, none⟩), .pointer (some ⟨gs + 1 + 1, 0, none⟩), .pointer (some ⟨gs + 1 + 1 + 1, 0, none⟩)], pv x, u33, u34, u35, u36, u37, u38, u39, u40, u41, undef], defers := [] })
    ?hAx ?assign ?body ?done ?stop
   case hAx => intro x a' _ X Y row hs hg hr; exact hs
   case assign =>
    rintro l pre x W K hI hK
    have HK := Lib.hid hK
    clear hK
    gi_wp2
    exact HK.out _ _ (KeepsFrom.refl _ _) (fun _ _ _ => rfl) hI rfl
   case body =>
    rintro l pre x a' W hl ⟨r, hr⟩ ⟨rfl, hst⟩ rfl hlt0
    have hT1 := hst.st (wr.heap.size, #[.int .i64 1], 3) (by rw [← HBL.out]; simp [cutBl])
    have hI1 := hst.st (wi.heap.size, #[.int .i64 i], 3) (by rw [← HBL.out]; simp [cutBl])
    have ho1 : W.cell? ⟨w.heap.size + 1, 0, none⟩ = some ov := (blk_cell hst.out 0).trans rfl
    have ht1 : W.cell? ⟨wr.heap.size, 0, none⟩ = some (.int .i64 1) := (blk_cell hT1 0).trans rfl
    have hi1 : W.cell? ⟨wi.heap.size, 0, none⟩ = some (.int .i64 i) := (blk_cell hI1 0).trans rfl
    obtain ⟨m, hm⟩ : ∃ m, L1.length = m := ⟨_, rfl⟩
    have hown := hst.own
    rw [hm] at hown
    obtain ⟨A', c', rfl⟩ := own_form hown
    have hm2 : m ≤ 40 := by omega
    have HM := Lib.hid hm
    have HS := Lib.hid hst
    clear hm hst hT1 hI1 hLL
    unfold pv
    gi_wp2_with (gi_at_builtin; refine wpListIn_append_own_at _ rfl _ _ 57 rfl w.heap.size 112 i0 _ 3 24 Try.underlying57 hinf hz0 hz1 hz2 rfl (by decide) _ _ _ rfl (hown.alloc _) ⟨W.heap.size, 0, none⟩ 1 1 (cc ⟨0, true, i⟩) rfl rfl (World.news_of_block (alloc_at rfl)) (by simp [cc, Value.oneCell']) (by simp [maxLen]; omega) (by omega) (by have := HS.out.bw.size; simp; omega) ?_; intro v1 w1 hown1 hgrow _ hat; obtain ⟨hb1, hS1, hkf⟩ := HS.out.append (x := ⟨0, true, i⟩) (by rw [← HBL.out]; simp [cutBl]) (by omega) (by rw [HM.out]; exact hown1) hgrow; obtain ⟨g1, cap1, rfl⟩ := ownsRow_succ hown1; have hc1 : w1.cell? ⟨w.heap.size + 1, 0, none⟩ = some (.slice A' m c') := (blk_cell hb1 0).trans rfl; have hf1 : w1.frozen? ⟨w.heap.size + 1, 0, none⟩ = false := blk_frozen hb1 0)
    exact ⟨hkf _, rfl, rfl, _, hS1⟩
   case done =>
    rintro D ys W hD rfl ⟨hnil, hst⟩ hK
    have HST2 := Lib.hid hst
    have HNIL := Lib.hid hnil
    have HK := Lib.hid hK
    clear hnil hst hK
    have hnext : L ++ cutsRow a2 p true (p.f3 + 1).toNat 0 = (L1) ++ cutsRow a2 p true ((p.f3 + 1).toNat - (i + 1)) (i + 1) := by rw [HL1.out, cutsRow_no (by omega) HNIL.out]
    have HNX := Lib.hid hnext
    have HMK := Lib.hid ((HST2.out.mrk).more HST.out.mrk hD (by omega) HK.out)
    clear hnext
    go_wp2
    refine ⟨⟨i + 1, _, _, _, _, _, _, _, _, _, _, _, _, _, _, _, _, _, _, _, _, _, _, _, _, rfl, by omega, ?_, HNX, Lib.hid HST2.out.own, Lib.hid HST2.out.out, Lib.hid (HST2.out.st (w.heap.size, _, 103) (by rw [← HBL.out]; simp [cutBl])), Lib.hid (HST2.out.st (g, _, 156) (by rw [← HBL.out]; simp [cutBl])), Lib.hid (HST2.out.st (wr.heap.size, #[.int .i64 1], 3) (by rw [← HBL.out]; simp [cutBl])), Lib.hid (HST2.out.st (wr.heap.size + 1, #[.func (.func 106) #[] #[], .func (.func 107) #[] #[]], 156) (by rw [← HBL.out]; simp [cutBl, dcell])), HMK, HST2.out.bw⟩, ?_⟩
    ·omega
    ·simp [intOf]; omega
   case stop =>
    rintro D cd pre W hD hpre ⟨rfl, hl1, ov', hst⟩ hK
    have HST2 := Lib.hid hst
    have HK := Lib.hid hK
    have HPRE := Lib.hid hpre
    clear hst hK hpre
    gi_wp2
    have hnext : L ++ cutsRow a2 p true (p.f3 + 1).toNat 0 = (L1 ++ [⟨0, true, i⟩]) ++ cutsRow a2 p true ((p.f3 + 1).toNat - (i + 1)) (i + 1) := by rw [HL1.out, cutsRow_yes (by omega) (pre_ne HPRE.out hl1), List.append_assoc, List.singleton_append]
    have HNX := Lib.hid hnext
    have HMK := Lib.hid ((HST2.out.mrk).more HST.out.mrk hD (by omega) HK.out)
    clear hnext
    go_wp2
    refine ⟨⟨i + 1, _, _, _, _, _, _, _, _, _, _, _, _, _, _, _, _, _, _, _, _, _, _, _, _, rfl, by omega, ?_, HNX, Lib.hid HST2.out.own, Lib.hid HST2.out.out, Lib.hid (HST2.out.st (w.heap.size, _, 103) (by rw [← HBL.out]; simp [cutBl])), Lib.hid (HST2.out.st (g, _, 156) (by rw [← HBL.out]; simp [cutBl])), Lib.hid (HST2.out.st (wr.heap.size, #[.int .i64 1], 3) (by rw [← HBL.out]; simp [cutBl])), Lib.hid (HST2.out.st (wr.heap.size + 1, #[.func (.func 106) #[] #[], .func (.func 107) #[] #[]], 156) (by rw [← HBL.out]; simp [cutBl, dcell])), HMK, HST2.out.bw⟩, ?_⟩
    ·simp; omega
    ·simp [intOf]; omega
  ·have hie : (p.f3 + 1).toNat - i = 0 := by omega
   have hdone : L1 = L ++ cutsRow a2 p true (p.f3 + 1).toNat 0 := by rw [HL1.out, hie]; simp [cutsRow]
   have HDN := Lib.hid hdone
   clear hdone HL1 hie
   go_wp2
   refine ⟨⟨2, _, _, _, ⟨rfl, rfl⟩, by omega, ?_, ?_, HOW, HO, HM⟩, ?_⟩
   ·omega
   ·exact Lib.hid (by rw [HDN.out, HL.out]; simp [cutsOf])
   ·simp [intOf]
 ·have hL2 : L = cutsOf a2 p := HL.out
  subst hL2
  have ho1 : wr.cell? ⟨w.heap.size + 1, 0, none⟩ = some ov := (blk_cell HO.out 0).trans rfl
  have hf1 : wr.frozen? ⟨w.heap.size + 1, 0, none⟩ = false := blk_frozen HO.out 0
  obtain ⟨A', c', rfl⟩ := own_form HOW.out
  go_wp2
  have hO2 := blk_put (i := 0) (u := .slice A' (cutsOf a2 p).length c') HO.out (cs' := #[.slice A' (cutsOf a2 p).length c']) rfl
  have hM2 := HM.out.set HO.out (i := 0) (.slice A' (cutsOf a2 p).length c')
  have hB2 := below_set (j := 0) (v := .slice A' (cutsOf a2 p).length c') hB (Nat.le_succ w.heap.size)
  have hW2 := own_setCell HOW.out (p := ⟨w.heap.size + 1, 0, none⟩) (own_ne HOW.out HO.out (by decide)) (.slice A' (cutsOf a2 p).length c')
  obtain ⟨Ds, rfl, hnd, hDs⟩ := hM2.out
  refine leaves_marks w.heap.size (fun W => W.heap[w.heap.size + 1]? = some (Obj.cells #[.slice A' (cutsOf a2 p).length c'] 57 (0, 0)) ∧ W.ownsRow w.heap.size 112 3 (.slice A' (cutsOf a2 p).length c') (cutsOf a2 p).length (ccs (cutsOf a2 p)) ∧ Below w.heap.size w W) ?_ ?_ Ds _ hnd hDs ⟨hO2, hW2, hB2⟩
  ·rintro W D hlo ⟨h1, h2, h3⟩ hD
   refine ⟨(World.putObj_heap_other (fun e => by subst e; rw [h1] at hD; cases hD)).trans h1, ownsRow_putObj h2 _ hD rfl, ⟨h3.os, h3.tape, h3.output, by simpa using h3.size, fun k hk => (World.putObj_heap_other (by omega)).trans (h3.block k hk)⟩⟩
  ·rintro W ⟨h1, h2, h3⟩
   exact ⟨_, res57 rfl rfl (cB h1), A', c', rfl, h2, h3⟩
end Go.Proofs.Ytffjbaknglemdaa.X
