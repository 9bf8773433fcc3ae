import Derived.Test.YtffjbaknglemdaaHK3b
namespace Go.Proofs.Ytffjbaknglemdaa.X
open Go.RowKit Go.Maps Go.Proofs.YtffjbaknglemdaaW.PrintWords Go.Proofs.YtffjbaknglemdaaW.PrintLast Go.Proofs.YtffjbaknglemdaaW.PrintMore
set_option linter.unusedSimpArgs false
set_option linter.unusedVariables false

/-! ### best -/
structure BSt (cb pb sb rb ob : Nat) (p : S103) (v : W4) (o : Stp) (W : World) : Prop where
 ptr : W.heap[pb]? = some (.cells #[.pointer (some ⟨cb, 0, none⟩)] 136 (0, 0))
 st : W.heap[sb]? = some (.cells #[.int .i64 p.f0, .int .i64 p.f1, .int .i64 p.f2, .int .i64 p.f3, .bool v.b0, .bool v.b1, .bool v.b2, .bool v.b3] 149 (0, 0))
 res : W.heap[rb]? = some (.cells #[.int .i64 0, .int .i64 0, .int .i64 0, .bool false, .int .i64 0, .bool false, .int .i64 0, .bool false, .bool false, .bool false, .bool false] 146 (0, 0))
 out : W.heap[ob]? = some (.cells #[.int .i64 o.worth, .int .i64 o.cuts, .int .i64 o.use, .bool o.cut, .int .i64 o.how.f0, .bool o.how.f1, .int .i64 o.how.f2, .bool o.first.b0, .bool o.first.b1, .bool o.first.b2, .bool o.first.b3] 146 (0, 0))

theorem BSt.fr {S : Nat → Prop} {cb pb sb rb ob : Nat} {p : S103} {v : W4} {o : Stp} {W W' : World} (h : BSt cb pb sb rb ob p v o W) (hf : Fr S W W') (h1 : ¬ S pb) (h2 : ¬ S sb) (h3 : ¬ S rb) (h4 : ¬ S ob) : BSt cb pb sb rb ob p v o W' :=
 ⟨blk_fr h.ptr hf h1, blk_fr h.st hf h2, blk_fr h.res hf h3, blk_fr h.out hf h4⟩
theorem BSt.below {cb pb sb rb ob : Nat} {p : S103} {v : W4} {o : Stp} {W W' : World} (h : BSt cb pb sb rb ob p v o W) (hb : Below W.heap.size W W') : BSt cb pb sb rb ob p v o W' :=
 ⟨blk_below h.ptr hb, blk_below h.st hb, blk_below h.res hb, blk_below h.out hb⟩
/-- The result's cell is written. -/
theorem BSt.done {cb pb sb rb ob : Nat} {p : S103} {v : W4} {o : Stp} {W : World} (h : BSt cb pb sb rb ob p v o W) : (put11 W rb (.int .i64 o.worth) (.int .i64 o.cuts) (.int .i64 o.use) (.bool o.cut) (.int .i64 o.how.f0) (.bool o.how.f1) (.int .i64 o.how.f2) (.bool o.first.b0) (.bool o.first.b1) (.bool o.first.b2) (.bool o.first.b3)).heap[rb]? = some (.cells #[.int .i64 o.worth, .int .i64 o.cuts, .int .i64 o.use, .bool o.cut, .int .i64 o.how.f0, .bool o.how.f1, .int .i64 o.how.f2, .bool o.first.b0, .bool o.first.b1, .bool o.first.b2, .bool o.first.b3] 146 (0, 0)) := put11_blk h.res (.int .i64 o.worth) (.int .i64 o.cuts) (.int .i64 o.use) (.bool o.cut) (.int .i64 o.how.f0) (.bool o.how.f1) (.int .i64 o.how.f2) (.bool o.first.b0) (.bool o.first.b1) (.bool o.first.b2) (.bool o.first.b3)
def BEnd (w0 : World) (cb mb : Nat) (a0 a1 a2 : Int) (A : Option Addr) (c : Nat) (l : List S115) (p : S103) (v : W4) (W : World) (e : Ending) (W' : World) : Prop :=
 e = .returned (.agg #[.int .i64 (bestP l a2 p v).worth, .int .i64 (bestP l a2 p v).cuts, .int .i64 (bestP l a2 p v).use, .bool (bestP l a2 p v).cut, .int .i64 (bestP l a2 p v).how.f0, .bool (bestP l a2 p v).how.f1, .int .i64 (bestP l a2 p v).how.f2, .bool (bestP l a2 p v).first.b0, .bool (bestP l a2 p v).first.b1, .bool (bestP l a2 p v).first.b2, .bool (bestP l a2 p v).first.b3]) ∧ CInv w0 cb mb a0 a1 a2 A c l W' ∧ Fr (fun i => i = mb) W W'
section
variable {w0 : World} {cb mb : Nat} {a0 a1 a2 : Int} {A : Option Addr} {c : Nat} {l : List S115}

set_option maxRecDepth 100000 in
set_option maxHeartbeats 4000000 in
theorem best_none (p : S103) (v : W4) (W : World) (hv : v = W4.none4) (hb : bestP l a2 p v = stp0) (hci : CInv w0 cb mb a0 a1 a2 A c l W) : Calls Try.prog 65 #[.pointer (some ⟨cb, 0, none⟩), .agg #[.int .i64 p.f0, .int .i64 p.f1, .int .i64 p.f2, .int .i64 p.f3, .bool v.b0, .bool v.b1, .bool v.b2, .bool v.b3]] W (BEnd w0 cb mb a0 a1 a2 A c l p v W) := by
 have heq := eqW v W4.none4
 rw [decide_eq_true hv] at heq
 simp only [W4.none4] at heq
 unfold BEnd
 rw [hb]
 have hb4 : Below W.heap.size W ((((W.alloc (.cells #[.pointer (some ⟨cb, 0, none⟩)] 136)).alloc (.cells #[.int .i64 p.f0, .int .i64 p.f1, .int .i64 p.f2, .int .i64 p.f3, .bool v.b0, .bool v.b1, .bool v.b2, .bool v.b3] 149)).alloc (.cells #[.int .i64 0, .int .i64 0, .int .i64 0, .bool false, .int .i64 0, .bool false, .int .i64 0, .bool false, .bool false, .bool false, .bool false] 146)).alloc (.cells #[.int .i64 0, .int .i64 0, .int .i64 (-1), .bool false, .int .i64 0, .bool false, .int .i64 0, .bool false, .bool false, .bool false, .bool false] 146)) := below_alloc (below_alloc (below_alloc (below_alloc (Below.refl _ _) _) _) _) _
 have hB4 : BSt cb (W.heap.size) (W.heap.size + 1) (W.heap.size + 1 + 1) (W.heap.size + 1 + 1 + 1) p v stp0 ((((W.alloc (.cells #[.pointer (some ⟨cb, 0, none⟩)] 136)).alloc (.cells #[.int .i64 p.f0, .int .i64 p.f1, .int .i64 p.f2, .int .i64 p.f3, .bool v.b0, .bool v.b1, .bool v.b2, .bool v.b3] 149)).alloc (.cells #[.int .i64 0, .int .i64 0, .int .i64 0, .bool false, .int .i64 0, .bool false, .int .i64 0, .bool false, .bool false, .bool false, .bool false] 146)).alloc (.cells #[.int .i64 0, .int .i64 0, .int .i64 (-1), .bool false, .int .i64 0, .bool false, .int .i64 0, .bool false, .bool false, .bool false, .bool false] 146)) := ⟨blk_below (blk_below (blk_below (alloc_at rfl) (below_alloc (Below.refl _ _) _)) (below_alloc (Below.refl _ _) _)) (below_alloc (Below.refl _ _) _), blk_below (blk_below (alloc_at (by simp)) (below_alloc (Below.refl _ _) _)) (below_alloc (Below.refl _ _) _), blk_below (alloc_at (by simp)) (below_alloc (Below.refl _ _) _), alloc_at (by simp)⟩
 have hci4 := hci.below hb4
 have HCI := Lib.hid hci
 clear hv hb hci hb4 hB4 hci4
 go_enter Try.func65, Try.ntmps65
 go_wp2
 refine bodyPost_ret (results_single rfl (.cell (W.heap.size + 1 + 1) 146 #[.int .i64 0, .int .i64 0, .int .i64 (-1), .bool false, .int .i64 0, .bool false, .int .i64 0, .bool false, .bool false, .bool false, .bool false] (0, 0) _ rfl (blk_below (alloc_at (by simp)) (below_alloc (Below.refl _ _) _)) Try.underlying146 rfl (by kernel_rfl) .nil)) rfl ?_
 have hb4' : Below W.heap.size W ((((W.alloc (.cells #[.pointer (some ⟨cb, 0, none⟩)] 136)).alloc (.cells #[.int .i64 p.f0, .int .i64 p.f1, .int .i64 p.f2, .int .i64 p.f3, .bool v.b0, .bool v.b1, .bool v.b2, .bool v.b3] 149)).alloc (.cells #[.int .i64 0, .int .i64 0, .int .i64 (-1), .bool false, .int .i64 0, .bool false, .int .i64 0, .bool false, .bool false, .bool false, .bool false] 146)).alloc (.cells #[.int .i64 0, .int .i64 0, .int .i64 (-1), .bool false, .int .i64 0, .bool false, .int .i64 0, .bool false, .bool false, .bool false, .bool false] 146)) := below_alloc (below_alloc (below_alloc (below_alloc (Below.refl _ _) _) _) _) _
 exact ⟨rfl, HCI.out.below hb4', Fr.of_below hb4'⟩

set_option maxRecDepth 100000 in
set_option maxHeartbeats 4000000 in
theorem best_known (p : S103) (v : W4) (W : World) (hv : v ≠ W4.none4) (hp : In8 p) (hci : CInv w0 cb mb a0 a1 a2 A c l W) (hk : ∀ V, Below W.heap.size W V → (Instr.lookup 137 (.map (some mb)) (.agg #[.int .i64 p.f0, .int .i64 p.f1, .int .i64 p.f2, .int .i64 p.f3, .bool v.b0, .bool v.b1, .bool v.b2, .bool v.b3]) true).run Try.prog V = .ok (.tuple #[.agg #[.int .i64 (bestP l a2 p v).worth, .int .i64 (bestP l a2 p v).cuts, .int .i64 (bestP l a2 p v).use, .bool (bestP l a2 p v).cut, .int .i64 (bestP l a2 p v).how.f0, .bool (bestP l a2 p v).how.f1, .int .i64 (bestP l a2 p v).how.f2, .bool (bestP l a2 p v).first.b0, .bool (bestP l a2 p v).first.b1, .bool (bestP l a2 p v).first.b2, .bool (bestP l a2 p v).first.b3], .bool true]) V) : Calls Try.prog 65 #[.pointer (some ⟨cb, 0, none⟩), .agg #[.int .i64 p.f0, .int .i64 p.f1, .int .i64 p.f2, .int .i64 p.f3, .bool v.b0, .bool v.b1, .bool v.b2, .bool v.b3]] W (BEnd w0 cb mb a0 a1 a2 A c l p v W) := by
 have heq := eqW v W4.none4
 rw [decide_eq_false hv] at heq
 simp only [W4.none4] at heq
 unfold BEnd
 generalize bestP l a2 p v = s at *
 have hb4 : Below W.heap.size W ((((W.alloc (.cells #[.pointer (some ⟨cb, 0, none⟩)] 136)).alloc (.cells #[.int .i64 p.f0, .int .i64 p.f1, .int .i64 p.f2, .int .i64 p.f3, .bool v.b0, .bool v.b1, .bool v.b2, .bool v.b3] 149)).alloc (.cells #[.int .i64 0, .int .i64 0, .int .i64 0, .bool false, .int .i64 0, .bool false, .int .i64 0, .bool false, .bool false, .bool false, .bool false] 146)).alloc (.cells #[.int .i64 0, .int .i64 0, .int .i64 (-1), .bool false, .int .i64 0, .bool false, .int .i64 0, .bool false, .bool false, .bool false, .bool false] 146)) := below_alloc (below_alloc (below_alloc (below_alloc (Below.refl _ _) _) _) _) _
 have hB4 : BSt cb (W.heap.size) (W.heap.size + 1) (W.heap.size + 1 + 1) (W.heap.size + 1 + 1 + 1) p v stp0 ((((W.alloc (.cells #[.pointer (some ⟨cb, 0, none⟩)] 136)).alloc (.cells #[.int .i64 p.f0, .int .i64 p.f1, .int .i64 p.f2, .int .i64 p.f3, .bool v.b0, .bool v.b1, .bool v.b2, .bool v.b3] 149)).alloc (.cells #[.int .i64 0, .int .i64 0, .int .i64 0, .bool false, .int .i64 0, .bool false, .int .i64 0, .bool false, .bool false, .bool false, .bool false] 146)).alloc (.cells #[.int .i64 0, .int .i64 0, .int .i64 (-1), .bool false, .int .i64 0, .bool false, .int .i64 0, .bool false, .bool false, .bool false, .bool false] 146)) := ⟨blk_below (blk_below (blk_below (alloc_at rfl) (below_alloc (Below.refl _ _) _)) (below_alloc (Below.refl _ _) _)) (below_alloc (Below.refl _ _) _), blk_below (blk_below (alloc_at (by simp)) (below_alloc (Below.refl _ _) _)) (below_alloc (Below.refl _ _) _), blk_below (alloc_at (by simp)) (below_alloc (Below.refl _ _) _), alloc_at (by simp)⟩
 have hci4 := hci.below hb4
 have HK := Lib.hid hk
 have HB4 := Lib.hid hB4
 have HI4 := Lib.hid hci4
 have HBW := Lib.hid hb4
 have HCI := Lib.hid hci
 clear hv hci hb4 hB4 hci4 hk
 go_enter Try.func65, Try.ntmps65
 go_wp2
 obtain ⟨V4, hV4⟩ : ∃ V4, V4 = (((W.alloc (.cells #[.pointer (some ⟨cb, 0, none⟩)] 136)).alloc (.cells #[.int .i64 p.f0, .int .i64 p.f1, .int .i64 p.f2, .int .i64 p.f3, .bool v.b0, .bool v.b1, .bool v.b2, .bool v.b3] 149)).alloc (.cells #[.int .i64 0, .int .i64 0, .int .i64 0, .bool false, .int .i64 0, .bool false, .int .i64 0, .bool false, .bool false, .bool false, .bool false] 146)).alloc (.cells #[.int .i64 0, .int .i64 0, .int .i64 (-1), .bool false, .int .i64 0, .bool false, .int .i64 0, .bool false, .bool false, .bool false, .bool false] 146) := ⟨_, rfl⟩
 rw [← hV4] at HB4 HI4 HBW ⊢
 clear hV4 heq
 have hB4 := HB4.out
 have hc4 := HI4.out.blk
 have hlk := HK.out V4.drew (below_drew1 HBW.out)
 refine s_ 12 (fun w' => w'.cell? ⟨W.heap.size, 0, none⟩ = some (.pointer (some ⟨cb, 0, none⟩)) ∧ w'.cell? ⟨cb, 4, none⟩ = some (.map (some mb)) ∧ w'.cell? ⟨W.heap.size + 1, 0, none⟩ = some (.int .i64 p.f0) ∧ w'.cell? ⟨W.heap.size + 1, 1, none⟩ = some (.int .i64 p.f1) ∧ w'.cell? ⟨W.heap.size + 1, 2, none⟩ = some (.int .i64 p.f2) ∧ w'.cell? ⟨W.heap.size + 1, 3, none⟩ = some (.int .i64 p.f3) ∧ w'.cell? ⟨W.heap.size + 1, 4, none⟩ = some (.bool v.b0) ∧ w'.cell? ⟨W.heap.size + 1, 5, none⟩ = some (.bool v.b1) ∧ w'.cell? ⟨W.heap.size + 1, 6, none⟩ = some (.bool v.b2) ∧ w'.cell? ⟨W.heap.size + 1, 7, none⟩ = some (.bool v.b3) ∧ (Instr.lookup 137 (.map (some mb)) (.agg #[.int .i64 p.f0, .int .i64 p.f1, .int .i64 p.f2, .int .i64 p.f3, .bool v.b0, .bool v.b1, .bool v.b2, .bool v.b3]) true).run Try.prog w' = .ok (.tuple #[.agg #[.int .i64 s.worth, .int .i64 s.cuts, .int .i64 s.use, .bool s.cut, .int .i64 s.how.f0, .bool s.how.f1, .int .i64 s.how.f2, .bool s.first.b0, .bool s.first.b1, .bool s.first.b2, .bool s.first.b3], .bool true]) w') [10] ⟨(cB hB4.ptr), (cB hc4), (cB hB4.st), (cB hB4.st), (cB hB4.st), (cB hB4.st), (cB hB4.st), (cB hB4.st), (cB hB4.st), (cB hB4.st), hlk⟩ (fun hHeld => ?_)
 refine t_ 0 (some 21) hHeld ?_
 refine p_ 1 (some 22) ?_
 refine p_ 2 (some 23) ?_
 refine t_ 3 (some 24) hHeld ?_
 refine t_ 4 (some 25) hHeld ?_
 refine t_ 5 (some 26) hHeld ?_
 refine p_ 6 (some 20) ?_
 refine p_ 7 (some 27) ?_
 refine p_ 8 (some 28) ?_
 refine e_ 9 (some 6) (fun K hK => ?_)
 refine pbox_ (.cells #[.int .i64 0, .int .i64 0, .int .i64 0, .bool false, .int .i64 0, .bool false, .int .i64 0, .bool false, .bool false, .bool false, .bool false] 146 (0, 0)) (by rfl) rfl ?_ ?_
 ·first | (go_simp; done) | (go_simp; rfl)
 intro g6 W6 hg6 hl6 hs6
 refine hK.out _ _ ⟨((blk_cell (blk_below hB4.ptr (below_step (below_drew1 (Below.refl _ _)) hs6)) 0).trans rfl), ((blk_cell (blk_below hc4 (below_step (below_drew1 (Below.refl _ _)) hs6)) 4).trans rfl), ((blk_cell (blk_below hB4.st (below_step (below_drew1 (Below.refl _ _)) hs6)) 0).trans rfl), ((blk_cell (blk_below hB4.st (below_step (below_drew1 (Below.refl _ _)) hs6)) 1).trans rfl), ((blk_cell (blk_below hB4.st (below_step (below_drew1 (Below.refl _ _)) hs6)) 2).trans rfl), ((blk_cell (blk_below hB4.st (below_step (below_drew1 (Below.refl _ _)) hs6)) 3).trans rfl), ((blk_cell (blk_below hB4.st (below_step (below_drew1 (Below.refl _ _)) hs6)) 4).trans rfl), ((blk_cell (blk_below hB4.st (below_step (below_drew1 (Below.refl _ _)) hs6)) 5).trans rfl), ((blk_cell (blk_below hB4.st (below_step (below_drew1 (Below.refl _ _)) hs6)) 6).trans rfl), ((blk_cell (blk_below hB4.st (below_step (below_drew1 (Below.refl _ _)) hs6)) 7).trans rfl), (HK.out _ (below_step HBW.out (below_step (below_drew1 (Below.refl _ _)) hs6)))⟩ (fun hHeld => ?_)
 clear hK K
 refine n_ ?_
 refine l_ 10 none (fun K hK => ?_)
 have hk_ := cf11 hg6
 refine skip_ (w1 := ?_) (by rfl) rfl ?_ ?_
 rotate_left
 ·go_simp
  rfl
 refine hK.out _ _ ?_
 clear hK K
 refine p_ 11 (some 7) ?_
 refine done_ (by kernel_rfl) ?_
 have hG7 := put11_blk hg6 (.int .i64 s.worth) (.int .i64 s.cuts) (.int .i64 s.use) (.bool s.cut) (.int .i64 s.how.f0) (.bool s.how.f1) (.int .i64 s.how.f2) (.bool s.first.b0) (.bool s.first.b1) (.bool s.first.b2) (.bool s.first.b3)
 have hfr7 := put11_fr W6 g6 (.int .i64 s.worth) (.int .i64 s.cuts) (.int .i64 s.use) (.bool s.cut) (.int .i64 s.how.f0) (.bool s.how.f1) (.int .i64 s.how.f2) (.bool s.first.b0) (.bool s.first.b1) (.bool s.first.b2) (.bool s.first.b3)
 obtain ⟨W7, hWe⟩ : ∃ W7, put11 W6 g6 (.int .i64 s.worth) (.int .i64 s.cuts) (.int .i64 s.use) (.bool s.cut) (.int .i64 s.how.f0) (.bool s.how.f1) (.int .i64 s.how.f2) (.bool s.first.b0) (.bool s.first.b1) (.bool s.first.b2) (.bool s.first.b3) = W7 := ⟨_, rfl⟩
 rw [hWe] at hG7 hfr7
 unfold put11 at hWe
 rw [hWe]
 clear hWe hHeld hk_ hlk
 have hs7 := below_step (below_drew1 (Below.refl V4.heap.size V4)) hs6
 have hp7 := blk_lt hB4.ptr
 have hq7 := blk_lt hB4.st
 have hr7 := blk_lt hB4.res
 have ho7 := blk_lt hB4.out
 have hl7 : V4.heap.size ≤ g6 := hl6
 have hB7 := (hB4.below hs7).fr hfr7 (by omega) (by omega) (by omega) (by omega)
 have hbs := HBW.out.size
 have hb6 := below_step HBW.out hs7
 have hb7 : Below W.heap.size W W7 := hb6.trans (hfr7.below hb6.size (fun k e => by subst e; omega))
 have HB7 := Lib.hid hB7
 have HG7 := Lib.hid hG7
 have HBW7 := Lib.hid hb7
 clear hb6 hb7 hB7 hG7 hs6 hs7 hg6 hB4 hc4 hfr7 HB4 HI4 HK
 have hB7 := HB7.out
 have hr7 := hB7.res
 have hg7 := HG7.out
 have hk_ := c11 hg7
 have hz0 : (W7).cell? ⟨W.heap.size + 1 + 1, 0, none⟩ = some (.int .i64 0) := (blk_cell hr7 0).trans rfl; have hzf0 : (W7).frozen? ⟨W.heap.size + 1 + 1, 0, none⟩ = false := blk_frozen hr7 0; have hz1 : (W7).cell? ⟨W.heap.size + 1 + 1, 1, none⟩ = some (.int .i64 0) := (blk_cell hr7 1).trans rfl; have hzf1 : (W7).frozen? ⟨W.heap.size + 1 + 1, 1, none⟩ = false := blk_frozen hr7 1; have hz2 : (W7).cell? ⟨W.heap.size + 1 + 1, 2, none⟩ = some (.int .i64 0) := (blk_cell hr7 2).trans rfl; have hzf2 : (W7).frozen? ⟨W.heap.size + 1 + 1, 2, none⟩ = false := blk_frozen hr7 2; have hz3 : (W7).cell? ⟨W.heap.size + 1 + 1, 3, none⟩ = some (.bool false) := (blk_cell hr7 3).trans rfl; have hzf3 : (W7).frozen? ⟨W.heap.size + 1 + 1, 3, none⟩ = false := blk_frozen hr7 3; have hz4 : (W7).cell? ⟨W.heap.size + 1 + 1, 4, none⟩ = some (.int .i64 0) := (blk_cell hr7 4).trans rfl; have hzf4 : (W7).frozen? ⟨W.heap.size + 1 + 1, 4, none⟩ = false := blk_frozen hr7 4; have hz5 : (W7).cell? ⟨W.heap.size + 1 + 1, 5, none⟩ = some (.bool false) := (blk_cell hr7 5).trans rfl; have hzf5 : (W7).frozen? ⟨W.heap.size + 1 + 1, 5, none⟩ = false := blk_frozen hr7 5; have hz6 : (W7).cell? ⟨W.heap.size + 1 + 1, 6, none⟩ = some (.int .i64 0) := (blk_cell hr7 6).trans rfl; have hzf6 : (W7).frozen? ⟨W.heap.size + 1 + 1, 6, none⟩ = false := blk_frozen hr7 6; have hz7 : (W7).cell? ⟨W.heap.size + 1 + 1, 7, none⟩ = some (.bool false) := (blk_cell hr7 7).trans rfl; have hzf7 : (W7).frozen? ⟨W.heap.size + 1 + 1, 7, none⟩ = false := blk_frozen hr7 7; have hz8 : (W7).cell? ⟨W.heap.size + 1 + 1, 8, none⟩ = some (.bool false) := (blk_cell hr7 8).trans rfl; have hzf8 : (W7).frozen? ⟨W.heap.size + 1 + 1, 8, none⟩ = false := blk_frozen hr7 8; have hz9 : (W7).cell? ⟨W.heap.size + 1 + 1, 9, none⟩ = some (.bool false) := (blk_cell hr7 9).trans rfl; have hzf9 : (W7).frozen? ⟨W.heap.size + 1 + 1, 9, none⟩ = false := blk_frozen hr7 9; have hz10 : (W7).cell? ⟨W.heap.size + 1 + 1, 10, none⟩ = some (.bool false) := (blk_cell hr7 10).trans rfl; have hzf10 : (W7).frozen? ⟨W.heap.size + 1 + 1, 10, none⟩ = false := blk_frozen hr7 10
 clear hg7 hr7 hB7
 go_wp2
 have hE8 := put11_blk HB7.out.res (.int .i64 s.worth) (.int .i64 s.cuts) (.int .i64 s.use) (.bool s.cut) (.int .i64 s.how.f0) (.bool s.how.f1) (.int .i64 s.how.f2) (.bool s.first.b0) (.bool s.first.b1) (.bool s.first.b2) (.bool s.first.b3)
 have hfr8 := put11_fr W7 (W.heap.size + 1 + 1) (.int .i64 s.worth) (.int .i64 s.cuts) (.int .i64 s.use) (.bool s.cut) (.int .i64 s.how.f0) (.bool s.how.f1) (.int .i64 s.how.f2) (.bool s.first.b0) (.bool s.first.b1) (.bool s.first.b2) (.bool s.first.b3)
 obtain ⟨W8, hWe⟩ : ∃ W8, put11 W7 (W.heap.size + 1 + 1) (.int .i64 s.worth) (.int .i64 s.cuts) (.int .i64 s.use) (.bool s.cut) (.int .i64 s.how.f0) (.bool s.how.f1) (.int .i64 s.how.f2) (.bool s.first.b0) (.bool s.first.b1) (.bool s.first.b2) (.bool s.first.b3) = W8 := ⟨_, rfl⟩
 rw [hWe] at hE8 hfr8
 unfold put11 at hWe
 rw [hWe]
 clear hWe
 have hb8 : Below W.heap.size W W8 := HBW7.out.trans (hfr8.below HBW7.out.size (fun k e => by omega))
 refine bodyPost_ret (results_single rfl (.cell (W.heap.size + 1 + 1) 146 #[.int .i64 s.worth, .int .i64 s.cuts, .int .i64 s.use, .bool s.cut, .int .i64 s.how.f0, .bool s.how.f1, .int .i64 s.how.f2, .bool s.first.b0, .bool s.first.b1, .bool s.first.b2, .bool s.first.b3] (0, 0) _ rfl hE8 Try.underlying146 rfl (by kernel_rfl) .nil)) rfl ?_
 exact ⟨rfl, HCI.out.below hb8, Fr.of_below hb8⟩

theorem own_R112 {w : World} {base : Nat} {ok : Nat → Prop} {v : Value} {xs : List S112} (h : w.ownsRow base 112 3 v xs.length (ccs xs)) (hok : ∀ k, v.ownBlock = some k → ok k) : Kd.R k112 112 w base ok v xs :=
 ⟨hok, ccs xs, h, reps_flat cc (fun p => k112_mkM _ _ _ p) (fun p => rfl) xs⟩
theorem useAll_step {p : S103} {v : W4} {l : List S115} {i : Nat} {o f : Stp} (hi : i < l.length) (h : useAll p v (l.drop i) i o = f) : useAll p v (l.drop (i + 1)) (i + 1) (if v.get i = true ∧ fitsB (rd_T115 l (i : Int)) p = true ∧ better (rd_T115 l (i : Int)).f3 0 o.worth o.cuts = true then ⟨(rd_T115 l (i : Int)).f3, 0, i, false, ⟨0, false, 0⟩, W4.none4⟩ else o) = f := by
 have hd : l.drop i = rd_T115 l (i : Int) :: l.drop (i + 1) := by rw [List.drop_eq_getElem_cons hi]; simp [rd_T115, hi, List.getD_eq_getElem?_getD]
 rw [hd] at h
 exact h
theorem get_cell8 {w : World} {b : Nat} {a0 a1 a2 a3 : Value} {x : W4} {t : TypeId} (h : w.heap[b]? = some (.cells #[a0, a1, a2, a3, .bool x.b0, .bool x.b1, .bool x.b2, .bool x.b3] t (0, 0))) (i : Nat) (hi : i < 4) : w.cell? ⟨b, 4 + i, none⟩ = some (.bool (x.get i)) := by
 have := blk_cell h (4 + i)
 have h4 : i = 0 ∨ i = 1 ∨ i = 2 ∨ i = 3 := by omega
 rcases h4 with rfl | rfl | rfl | rfl <;> exact this

set_option maxRecDepth 100000 in
set_option maxHeartbeats 8000000 in
theorem best_new (p : S103) (v : W4) (W : World) (hv : v ≠ W4.none4) (hp : In8 p) (hs : 0 ≤ a2 ∧ a2 ≤ 2) (hl4 : l.length ≤ 4) (hlc : l.length ≤ c) (hci : CInv w0 cb mb a0 a1 a2 A c l W) (hk : ∀ V, Below W.heap.size W V → (Instr.lookup 137 (.map (some mb)) (.agg #[.int .i64 p.f0, .int .i64 p.f1, .int .i64 p.f2, .int .i64 p.f3, .bool v.b0, .bool v.b1, .bool v.b2, .bool v.b3]) true).run Try.prog V = .ok (.tuple #[.agg #[.int .i64 0, .int .i64 0, .int .i64 0, .bool false, .int .i64 0, .bool false, .int .i64 0, .bool false, .bool false, .bool false, .bool false], .bool false]) V) (hbest : ∀ x q W, In8 x → msr x < msr p → CInv w0 cb mb a0 a1 a2 A c l W → Calls Try.prog 65 #[.pointer (some ⟨cb, 0, none⟩), .agg #[.int .i64 x.f0, .int .i64 x.f1, .int .i64 x.f2, .int .i64 x.f3, .bool q.b0, .bool q.b1, .bool q.b2, .bool q.b3]] W (BEnd w0 cb mb a0 a1 a2 A c l x q W)) : Calls Try.prog 65 #[.pointer (some ⟨cb, 0, none⟩), .agg #[.int .i64 p.f0, .int .i64 p.f1, .int .i64 p.f2, .int .i64 p.f3, .bool v.b0, .bool v.b1, .bool v.b2, .bool v.b3]] W (BEnd w0 cb mb a0 a1 a2 A c l p v W) := by
 have heq := eqW v W4.none4
 rw [decide_eq_false hv] at heq
 simp only [W4.none4] at heq
 unfold BEnd
 have hfin : bestP l a2 p v = cutAll (bestP l a2) a2 p v (cutsOf a2 p) (useAll p v l 0 stp0) := by rw [bestP_step hs hp.ok, if_neg hv]
 obtain ⟨u0, hu0⟩ : ∃ u0, useAll p v l 0 stp0 = u0 := ⟨_, rfl⟩
 obtain ⟨s, hse⟩ : ∃ s, bestP l a2 p v = s := ⟨_, rfl⟩
 rw [hse, hu0] at hfin
 rw [hse]
 have HFIN := Lib.hid hfin
 have HU0 := Lib.hid hu0
 have HSE := Lib.hid hse
 have HPP := Lib.hid hp
 have HLC := Lib.hid hlc
 have HBEST := Lib.hid hbest
 have hb4 : Below W.heap.size W ((((W.alloc (.cells #[.pointer (some ⟨cb, 0, none⟩)] 136)).alloc (.cells #[.int .i64 p.f0, .int .i64 p.f1, .int .i64 p.f2, .int .i64 p.f3, .bool v.b0, .bool v.b1, .bool v.b2, .bool v.b3] 149)).alloc (.cells #[.int .i64 0, .int .i64 0, .int .i64 0, .bool false, .int .i64 0, .bool false, .int .i64 0, .bool false, .bool false, .bool false, .bool false] 146)).alloc (.cells #[.int .i64 0, .int .i64 0, .int .i64 (-1), .bool false, .int .i64 0, .bool false, .int .i64 0, .bool false, .bool false, .bool false, .bool false] 146)) := below_alloc (below_alloc (below_alloc (below_alloc (Below.refl _ _) _) _) _) _
 have hB4 : BSt cb (W.heap.size) (W.heap.size + 1) (W.heap.size + 1 + 1) (W.heap.size + 1 + 1 + 1) p v stp0 ((((W.alloc (.cells #[.pointer (some ⟨cb, 0, none⟩)] 136)).alloc (.cells #[.int .i64 p.f0, .int .i64 p.f1, .int .i64 p.f2, .int .i64 p.f3, .bool v.b0, .bool v.b1, .bool v.b2, .bool v.b3] 149)).alloc (.cells #[.int .i64 0, .int .i64 0, .int .i64 0, .bool false, .int .i64 0, .bool false, .int .i64 0, .bool false, .bool false, .bool false, .bool false] 146)).alloc (.cells #[.int .i64 0, .int .i64 0, .int .i64 (-1), .bool false, .int .i64 0, .bool false, .int .i64 0, .bool false, .bool false, .bool false, .bool false] 146)) := ⟨blk_below (blk_below (blk_below (alloc_at rfl) (below_alloc (Below.refl _ _) _)) (below_alloc (Below.refl _ _) _)) (below_alloc (Below.refl _ _) _), blk_below (blk_below (alloc_at (by simp)) (below_alloc (Below.refl _ _) _)) (below_alloc (Below.refl _ _) _), blk_below (alloc_at (by simp)) (below_alloc (Below.refl _ _) _), alloc_at (by simp)⟩
 have hci4 := hci.below hb4
 have HK := Lib.hid hk
 have HB4 := Lib.hid hB4
 have HI4 := Lib.hid hci4
 have HBW := Lib.hid hb4
 have HCI := Lib.hid hci
 clear hv hci hb4 hB4 hci4 hk hfin hu0 hse hp hlc hbest
 go_enter Try.func65, Try.ntmps65
 go_wp2
 obtain ⟨V4, hV4⟩ : ∃ V4, V4 = (((W.alloc (.cells #[.pointer (some ⟨cb, 0, none⟩)] 136)).alloc (.cells #[.int .i64 p.f0, .int .i64 p.f1, .int .i64 p.f2, .int .i64 p.f3, .bool v.b0, .bool v.b1, .bool v.b2, .bool v.b3] 149)).alloc (.cells #[.int .i64 0, .int .i64 0, .int .i64 0, .bool false, .int .i64 0, .bool false, .int .i64 0, .bool false, .bool false, .bool false, .bool false] 146)).alloc (.cells #[.int .i64 0, .int .i64 0, .int .i64 (-1), .bool false, .int .i64 0, .bool false, .int .i64 0, .bool false, .bool false, .bool false, .bool false] 146) := ⟨_, rfl⟩
 rw [← hV4] at HB4 HI4 HBW ⊢
 clear hV4 heq
 have hB4 := HB4.out
 have hc4 := HI4.out.blk
 have hlk := HK.out V4.drew (below_drew1 HBW.out)
 refine s_ 12 (fun w' => w'.cell? ⟨W.heap.size, 0, none⟩ = some (.pointer (some ⟨cb, 0, none⟩)) ∧ w'.cell? ⟨cb, 4, none⟩ = some (.map (some mb)) ∧ w'.cell? ⟨W.heap.size + 1, 0, none⟩ = some (.int .i64 p.f0) ∧ w'.cell? ⟨W.heap.size + 1, 1, none⟩ = some (.int .i64 p.f1) ∧ w'.cell? ⟨W.heap.size + 1, 2, none⟩ = some (.int .i64 p.f2) ∧ w'.cell? ⟨W.heap.size + 1, 3, none⟩ = some (.int .i64 p.f3) ∧ w'.cell? ⟨W.heap.size + 1, 4, none⟩ = some (.bool v.b0) ∧ w'.cell? ⟨W.heap.size + 1, 5, none⟩ = some (.bool v.b1) ∧ w'.cell? ⟨W.heap.size + 1, 6, none⟩ = some (.bool v.b2) ∧ w'.cell? ⟨W.heap.size + 1, 7, none⟩ = some (.bool v.b3) ∧ (Instr.lookup 137 (.map (some mb)) (.agg #[.int .i64 p.f0, .int .i64 p.f1, .int .i64 p.f2, .int .i64 p.f3, .bool v.b0, .bool v.b1, .bool v.b2, .bool v.b3]) true).run Try.prog w' = .ok (.tuple #[.agg #[.int .i64 0, .int .i64 0, .int .i64 0, .bool false, .int .i64 0, .bool false, .int .i64 0, .bool false, .bool false, .bool false, .bool false], .bool false]) w') [10] ⟨(cB hB4.ptr), (cB hc4), (cB hB4.st), (cB hB4.st), (cB hB4.st), (cB hB4.st), (cB hB4.st), (cB hB4.st), (cB hB4.st), (cB hB4.st), hlk⟩ (fun hHeld => ?_)
 refine t_ 0 (some 21) hHeld ?_
 refine p_ 1 (some 22) ?_
 refine p_ 2 (some 23) ?_
 refine t_ 3 (some 24) hHeld ?_
 refine t_ 4 (some 25) hHeld ?_
 refine t_ 5 (some 26) hHeld ?_
 refine p_ 6 (some 20) ?_
 refine p_ 7 (some 27) ?_
 refine p_ 8 (some 28) ?_
 refine e_ 9 (some 6) (fun K hK => ?_)
 refine pbox_ (.cells #[.int .i64 0, .int .i64 0, .int .i64 0, .bool false, .int .i64 0, .bool false, .int .i64 0, .bool false, .bool false, .bool false, .bool false] 146 (0, 0)) (by rfl) rfl ?_ ?_
 ·first | (go_simp; done) | (go_simp; rfl)
 intro g6 W6 hg6 hl6 hs6
 refine hK.out _ _ ⟨((blk_cell (blk_below hB4.ptr (below_step (below_drew1 (Below.refl _ _)) hs6)) 0).trans rfl), ((blk_cell (blk_below hc4 (below_step (below_drew1 (Below.refl _ _)) hs6)) 4).trans rfl), ((blk_cell (blk_below hB4.st (below_step (below_drew1 (Below.refl _ _)) hs6)) 0).trans rfl), ((blk_cell (blk_below hB4.st (below_step (below_drew1 (Below.refl _ _)) hs6)) 1).trans rfl), ((blk_cell (blk_below hB4.st (below_step (below_drew1 (Below.refl _ _)) hs6)) 2).trans rfl), ((blk_cell (blk_below hB4.st (below_step (below_drew1 (Below.refl _ _)) hs6)) 3).trans rfl), ((blk_cell (blk_below hB4.st (below_step (below_drew1 (Below.refl _ _)) hs6)) 4).trans rfl), ((blk_cell (blk_below hB4.st (below_step (below_drew1 (Below.refl _ _)) hs6)) 5).trans rfl), ((blk_cell (blk_below hB4.st (below_step (below_drew1 (Below.refl _ _)) hs6)) 6).trans rfl), ((blk_cell (blk_below hB4.st (below_step (below_drew1 (Below.refl _ _)) hs6)) 7).trans rfl), (HK.out _ (below_step HBW.out (below_step (below_drew1 (Below.refl _ _)) hs6)))⟩ (fun hHeld => ?_)
 clear hK K
 refine n_ ?_
 refine l_ 10 none (fun K hK => ?_)
 have hk_ := cf11 hg6
 refine skip_ (w1 := ?_) (by rfl) rfl ?_ ?_
 rotate_left
 ·go_simp
  rfl
 refine hK.out _ _ ?_
 clear hK K
 refine p_ 11 (some 7) ?_
 refine done_ (by kernel_rfl) ?_
 have hG7 := put11_blk hg6 (.int .i64 0) (.int .i64 0) (.int .i64 0) (.bool false) (.int .i64 0) (.bool false) (.int .i64 0) (.bool false) (.bool false) (.bool false) (.bool false)
 have hfr7 := put11_fr W6 g6 (.int .i64 0) (.int .i64 0) (.int .i64 0) (.bool false) (.int .i64 0) (.bool false) (.int .i64 0) (.bool false) (.bool false) (.bool false) (.bool false)
 obtain ⟨W7, hWe⟩ : ∃ W7, put11 W6 g6 (.int .i64 0) (.int .i64 0) (.int .i64 0) (.bool false) (.int .i64 0) (.bool false) (.int .i64 0) (.bool false) (.bool false) (.bool false) (.bool false) = W7 := ⟨_, rfl⟩
 rw [hWe] at hG7 hfr7
 unfold put11 at hWe
 rw [hWe]
 clear hWe hHeld hk_ hlk
 have hs7 := below_step (below_drew1 (Below.refl V4.heap.size V4)) hs6
 have hp7 := blk_lt hB4.ptr
 have hq7 := blk_lt hB4.st
 have hr7 := blk_lt hB4.res
 have ho7 := blk_lt hB4.out
 have hl7 : V4.heap.size ≤ g6 := hl6
 have hB7 := (hB4.below hs7).fr hfr7 (by omega) (by omega) (by omega) (by omega)
 have hbs := HBW.out.size
 have hb6 := below_step HBW.out hs7
 have hb7 : Below W.heap.size W W7 := hb6.trans (hfr7.below hb6.size (fun k e => by subst e; omega))
 have HB7 := Lib.hid hB7
 have HI7 := Lib.hid (HCI.out.below hb7)
 have hpc := (blk_cell hB7.ptr 0).trans rfl
 clear hb6 hB7 hG7 hs6 hs7 hg6 hB4 hc4 hfr7 HB4 HI4 HK HBW hl6 hl7 hbs hp7 hq7 hr7 ho7
 have hpp : W7.cell? ⟨W.heap.size, 0, none⟩ = some (.pointer (some ⟨cb, 0, none⟩)) := (blk_cell HB7.out.ptr 0).trans rfl
 have hcc : W7.cell? ⟨cb, 3, none⟩ = some (.slice A l.length c) := (blk_cell HI7.out.blk 3).trans rfl
 go_wp2
 go_loopw [39] (fun t wr => ∃ (i : Nat) (o : Stp), t = .int .i64 i ∧ i ≤ l.length ∧ Hid (useAll p v (l.drop i) i o = u0) ∧ Hid (BSt cb (W.heap.size) (W.heap.size + 1) (W.heap.size + 1 + 1) (W.heap.size + 1 + 1 + 1) p v o wr) ∧ Hid (CInv w0 cb mb a0 a1 a2 A c l wr) ∧ Below W.heap.size W wr) (fun t _ => l.length - (intOf t).toNat)
 case atStart => exact ⟨0, stp0, rfl, Nat.zero_le _, HU0, HB7, HI7, hb7⟩
 case round =>
  clear HB7 HI7 hb7 hpp hcc
  obtain ⟨i, o, rfl, hi, HQ, HB, HI, hbw⟩ := hrel
  by_cases hlt : i < l.length
  ·have hi0 : (0 : Int) ≤ (i : Int) := by omega
   have hi1 : (i : Int) < (l.length : Int) := by omega
   have hi4 : i < 4 := by omega
   obtain ⟨ad, hA, hz0, hz1, hz2, hz3, hz4, hz5, hz6, hz7⟩ := at_T115 HI.out.list (i : Int) hi0 hi1
   subst hA
   simp only [Int.toNat_natCast] at hz0 hz1 hz2 hz3 hz4 hz5 hz6 hz7
   have hqs := useAll_step hlt HQ.out
   have hff := fits_f (rd_T115 l (i : Int)) p
   obtain ⟨ft, hft⟩ : ∃ ft, fitsB (rd_T115 l (i : Int)) p = ft := ⟨_, rfl⟩
   obtain ⟨gi, hgi⟩ : ∃ gi, v.get i = gi := ⟨_, rfl⟩
   rw [hft, hgi] at hqs
   have hbA := below_alloc (Below.refl wr.heap.size wr) (.cells #[.int .i64 (rd_T115 l (i : Int)).f3, .int .i64 0] 144)
   have h84 := may_calls cb a0 a1 a2 (some ad) c l (.map (some mb)) i p _ (HI.out.below hbA).blk (HI.out.below hbA).list hlt
   rw [hft] at h84
   have H84 := Lib.hid h84
   clear hz0 hz1 hz2 hz4 hz5 hz6 hz7 hft h84 hff HQ
   generalize rd_T115 l (i : Int) = x at *
   have HQS := Lib.hid hqs
   have HBA := Lib.hid (HB.out.below hbA)
   have HIA := Lib.hid (HI.out.below hbA)
   have hTA : (wr.alloc (.cells #[.int .i64 x.f3, .int .i64 0] 144)).heap[wr.heap.size]? = some (.cells #[.int .i64 x.f3, .int .i64 0] 144 (0, 0)) := alloc_at rfl
   have HTA := Lib.hid hTA
   have hwA := below_step hbw hbA
   have HWA := Lib.hid hwA
   have hgc : (wr.alloc (.cells #[.int .i64 x.f3, .int .i64 0] 144)).cell? ⟨W.heap.size + 1, 4 + i, none⟩ = some (.bool (v.get i)) := get_cell8 HBA.out.st i hi4
   rw [hgi] at hgc
   have hst := HBA.out.st
   have hy0 : ((wr.alloc (.cells #[.int .i64 x.f3, .int .i64 0] 144))).cell? ⟨W.heap.size + 1, 0, none⟩ = some (.int .i64 p.f0) := (blk_cell hst 0).trans rfl
   have hy1 : ((wr.alloc (.cells #[.int .i64 x.f3, .int .i64 0] 144))).cell? ⟨W.heap.size + 1, 1, none⟩ = some (.int .i64 p.f1) := (blk_cell hst 1).trans rfl
   have hy2 : ((wr.alloc (.cells #[.int .i64 x.f3, .int .i64 0] 144))).cell? ⟨W.heap.size + 1, 2, none⟩ = some (.int .i64 p.f2) := (blk_cell hst 2).trans rfl
   have hy3 : ((wr.alloc (.cells #[.int .i64 x.f3, .int .i64 0] 144))).cell? ⟨W.heap.size + 1, 3, none⟩ = some (.int .i64 p.f3) := (blk_cell hst 3).trans rfl
   have hpp : wr.cell? ⟨W.heap.size, 0, none⟩ = some (.pointer (some ⟨cb, 0, none⟩)) := (blk_cell HB.out.ptr 0).trans rfl
   have hcc : wr.cell? ⟨cb, 3, none⟩ = some (.slice (some ad) l.length c) := (blk_cell HI.out.blk 3).trans rfl
   clear hqs hbA hTA hwA hst HB HI hgi
   cases gi with
   | false =>
    go_wp2
    go_roundw
    case rel => exact ⟨i + 1, o, by go_num, by omega, Lib.hid (by have := HQS.out; rw [if_neg (by simp)] at this; exact this), HBA, HIA, HWA.out⟩
    case measure => simp [intOf]; omega
   | true =>
    cases ft with
    | false =>
     go_wp2_with (go_at_call 84; refine H84.out.mono ?_; rintro e w9 ⟨rfl, hb9⟩)
     go_roundw
     case rel => exact ⟨i + 1, o, by go_num, by omega, Lib.hid (by have := HQS.out; rw [if_neg (by simp)] at this; exact this), Lib.hid (HBA.out.below hb9), Lib.hid (HIA.out.below hb9), below_step HWA.out hb9⟩
     case measure => simp [intOf]; omega
    | true =>
     obtain ⟨b, hbb⟩ : ∃ b, better x.f3 0 o.worth o.cuts = b := ⟨_, rfl⟩
     have H85 := Lib.hid (fun W => plate_gain_better.calls x.f3 0 o.worth o.cuts b W (by rw [better_f, hbb]))
     have hqs := HQS.out
     rw [hbb] at hqs
     have HQS' := Lib.hid hqs
     clear hbb hqs HQS
     have HU9 := Lib.hid (fun V (hV : Below (wr.alloc (.cells #[.int .i64 x.f3, .int .i64 0] 144)).heap.size (wr.alloc (.cells #[.int .i64 x.f3, .int .i64 0] 144)) V) => blk_below HTA.out hV)
     have HO9 := Lib.hid (fun V (hV : Below (wr.alloc (.cells #[.int .i64 x.f3, .int .i64 0] 144)).heap.size (wr.alloc (.cells #[.int .i64 x.f3, .int .i64 0] 144)) V) => (HBA.out.below hV).out)
     cases b with
     | false =>
      go_wp2_with first | (go_at_call 84; refine H84.out.mono ?_; rintro e w9 ⟨rfl, hb9⟩; have hT9 := HU9.out _ hb9; have hO9 := HO9.out _ hb9; have ha_ := c2 hT9; have hb_0 : (w9).cell? ⟨W.heap.size + 1 + 1 + 1, 0, none⟩ = some (.int .i64 o.worth) := (blk_cell hO9 0).trans rfl; have hb_1 : (w9).cell? ⟨W.heap.size + 1 + 1 + 1, 1, none⟩ = some (.int .i64 o.cuts) := (blk_cell hO9 1).trans rfl; clear hT9 hO9) | (go_at_call 85; refine (H85.out _).mono ?_; rintro e w10 ⟨rfl, hb10⟩)
      go_roundw
      case rel => exact ⟨i + 1, o, by go_num, by omega, Lib.hid (by have := HQS'.out; rw [if_neg (by simp)] at this; exact this), Lib.hid ((HBA.out.below hb9).below hb10), Lib.hid ((HIA.out.below hb9).below hb10), below_step (below_step HWA.out hb9) hb10⟩
      case measure => simp [intOf]; omega
     | true =>
      go_wp2_with first | (go_at_call 84; refine H84.out.mono ?_; rintro e w9 ⟨rfl, hb9⟩; have hT9 := HU9.out _ hb9; have hO9 := HO9.out _ hb9; have ha_ := c2 hT9; have hb_0 : (w9).cell? ⟨W.heap.size + 1 + 1 + 1, 0, none⟩ = some (.int .i64 o.worth) := (blk_cell hO9 0).trans rfl; have hb_1 : (w9).cell? ⟨W.heap.size + 1 + 1 + 1, 1, none⟩ = some (.int .i64 o.cuts) := (blk_cell hO9 1).trans rfl; clear hT9 hO9) | (go_at_call 85; refine (H85.out _).mono ?_; rintro e w10 ⟨rfl, hb10⟩; have hT10 := blk_below (HU9.out _ hb9) hb10; have hO10 := blk_below (HO9.out _ hb9) hb10; have hc_ := c2 hT10; have hd_ := cf11 hO10; clear hT10 hO10)
      have hb11 := below_step (below_step HWA.out hb9) hb10
      have hB10 := (HBA.out.below hb9).below hb10
      have hI10 := (HIA.out.below hb9).below hb10
      have hO11 := put11_blk hB10.out (.int .i64 x.f3) (.int .i64 0) (.int .i64 i) (.bool false) (.int .i64 0) (.bool false) (.int .i64 0) (.bool false) (.bool false) (.bool false) (.bool false)
      have hfr11 := put11_fr w10 (W.heap.size + 1 + 1 + 1) (.int .i64 x.f3) (.int .i64 0) (.int .i64 i) (.bool false) (.int .i64 0) (.bool false) (.int .i64 0) (.bool false) (.bool false) (.bool false) (.bool false)
      obtain ⟨W11, hWe⟩ : ∃ W11, put11 w10 (W.heap.size + 1 + 1 + 1) (.int .i64 x.f3) (.int .i64 0) (.int .i64 i) (.bool false) (.int .i64 0) (.bool false) (.int .i64 0) (.bool false) (.bool false) (.bool false) (.bool false) = W11 := ⟨_, rfl⟩
      rw [hWe] at hO11 hfr11
      unfold put11 at hWe
      rw [hWe]
      clear hWe
      have hne := hI10.ne
      have hci11 : CInv w0 cb mb a0 a1 a2 (some ad) c l W11 := HCI.out.below (hb11.trans (hfr11.below hb11.size (fun k e => by omega)))
      have hB11 : BSt cb (W.heap.size) (W.heap.size + 1) (W.heap.size + 1 + 1) (W.heap.size + 1 + 1 + 1) p v ⟨x.f3, 0, i, false, ⟨0, false, 0⟩, W4.none4⟩ W11 := ⟨blk_fr hB10.ptr hfr11 (by omega), blk_fr hB10.st hfr11 (by omega), blk_fr hB10.res hfr11 (by omega), hO11⟩
      go_wp2
      go_roundw
      case rel => exact ⟨i + 1, _, by go_num, by omega, Lib.hid (by have := HQS'.out; rw [if_pos (by simp)] at this; exact this), Lib.hid hB11, Lib.hid hci11, hb11.trans (hfr11.below hb11.size (fun k e => by omega))⟩
      case measure => simp [intOf]; omega
  ·obtain rfl : i = l.length := by omega
   obtain rfl : o = u0 := by have := HQ.out; rw [List.drop_length] at this; exact this
   have hp8 := HPP.out
   obtain ⟨q0, q1, q2, q3, q4, q5⟩ := hp8
   have h86 := cuts_calls cb a0 a1 a2 (.slice A l.length c) (.map (some mb)) p wr HI.out.blk (by omega) (by omega)
   have H86 := Lib.hid h86
   have hpp : wr.cell? ⟨W.heap.size, 0, none⟩ = some (.pointer (some ⟨cb, 0, none⟩)) := (blk_cell HB.out.ptr 0).trans rfl
   have hst := HB.out.st
   have hy0 : (wr).cell? ⟨W.heap.size + 1, 0, none⟩ = some (.int .i64 p.f0) := (blk_cell hst 0).trans rfl
   have hy1 : (wr).cell? ⟨W.heap.size + 1, 1, none⟩ = some (.int .i64 p.f1) := (blk_cell hst 1).trans rfl
   have hy2 : (wr).cell? ⟨W.heap.size + 1, 2, none⟩ = some (.int .i64 p.f2) := (blk_cell hst 2).trans rfl
   have hy3 : (wr).cell? ⟨W.heap.size + 1, 3, none⟩ = some (.int .i64 p.f3) := (blk_cell hst 3).trans rfl
   clear h86 hst q0 q1 q2 q3 q4 q5 HQ HU0
   obtain ⟨cs, hcs⟩ : ∃ cs, cutsOf a2 p = cs := ⟨_, rfl⟩
   have hmem : ∀ x ∈ cs, ∃ (ac : Bool) (at_ : Int), partsN ac p at_ a2 ≠ [] ∧ x = ⟨0, ac, at_⟩ := fun x hx => (mem_cutsOf hs HPP.out).1 (by rw [hcs]; exact hx)
   have HMEM := Lib.hid hmem
   rw [hcs] at HFIN H86
   have hcl : cs.length ≤ 9223372036854775807 := by
    have := cutsRow_len a2 p false (p.f2 + 1).toNat 0; have := cutsRow_len a2 p true (p.f3 + 1).toNat 0; have hp9 := HPP.out; obtain ⟨q0, q1, q2, q3, q4, q5⟩ := hp9
    rw [← hcs]; unfold cutsOf; rw [List.length_append]; omega
   clear hcs hmem
   have hmW := HCI.out.mlt
   go_wp2_with (go_at_call 86; refine H86.out.mono ?_; rintro e w15 ⟨A2, c2, rfl, hown, hb15⟩)
   have HB15 := Lib.hid (HB.out.below hb15)
   have HI15 := Lib.hid (HI.out.below hb15)
   have HO15 := Lib.hid (own_weaken hown hbw.size)
   have HF15 : Hid (Fr (fun i => i = mb) W w15) := Lib.hid (Fr.of_below (below_step hbw hb15))
   clear hpp hown H86 HB HI hbw hb15 hi
   clear hy0 hy1 hy2 hy3
   go_loopw [78] (fun t wz => ∃ (i : Nat) (o : Stp), t = .int .i64 i ∧ i ≤ cs.length ∧ Hid (cutAll (bestP l a2) a2 p v (cs.drop i) o = s) ∧ Hid (BSt cb (W.heap.size) (W.heap.size + 1) (W.heap.size + 1 + 1) (W.heap.size + 1 + 1 + 1) p v o wz) ∧ Hid (CInv w0 cb mb a0 a1 a2 A c l wz) ∧ Hid (wz.ownsRow W.heap.size 112 3 (.slice A2 cs.length c2) cs.length (ccs cs)) ∧ Hid (Fr (fun i => i = mb) W wz)) (fun t _ => cs.length - (intOf t).toNat)
   case atStart => exact ⟨0, o, rfl, Nat.zero_le _, Lib.hid HFIN.out.symm, HB15, HI15, HO15, HF15⟩
   case round =>
    clear HB15 HI15 HO15 HF15 HFIN
    obtain ⟨i, o, rfl, hi, HQ, HB, HI, HO, HF⟩ := hrel
    by_cases hlt : i < cs.length
    ·have hi0 : (0 : Int) ≤ (i : Int) := by omega
     have hi1 : (i : Int) < (cs.length : Int) := by omega
     obtain ⟨-, -, hCC⟩ := Kd.R_reads' (own_R112 (ok := fun _ => True) HO.out (fun _ _ => trivial))
     obtain ⟨ad, hA, hz0, hz1, hz2⟩ := at_T112 hCC (i : Int) hi0 hi1
     subst hA
     simp only [Int.toNat_natCast] at hz0 hz1 hz2
     have hdr : cs.drop i = rd_T112 cs (i : Int) :: cs.drop (i + 1) := by rw [List.drop_eq_getElem_cons hlt]; simp [rd_T112, hlt, List.getD_eq_getElem?_getD]
     have hxm : rd_T112 cs (i : Int) ∈ cs := by simp [rd_T112, List.getD_eq_getElem?_getD, List.getElem?_eq_getElem hlt]
     have hq := HQ.out
     rw [hdr] at hq
     clear hdr hCC HQ
     generalize rd_T112 cs (i : Int) = x at *
     have HQ := Lib.hid hq
     have HXM := Lib.hid (HMEM.out x hxm)
     clear hq hxm
     go_wp2
     obtain ⟨W17, hWe⟩ : ∃ W17, W17 = wr.alloc (.cells #[.int .i64 x.f0, .bool x.f1, .int .i64 x.f2] 112) := ⟨_, rfl⟩
     rw [← hWe]
     have hb17 : Below wr.heap.size wr W17 := by rw [hWe]; exact below_alloc (Below.refl _ _) _
     have hk17 : W17.heap[wr.heap.size]? = some (.cells #[.int .i64 x.f0, .bool x.f1, .int .i64 x.f2] 112 (0, 0)) := by rw [hWe]; exact alloc_at rfl
     clear hWe hz0 hz1 hz2
     have hB17 := HB.out.below hb17
     have hI17 := HI.out.below hb17
     have HO17 := Lib.hid (pw_own_below HO.out hb17)
     have hF17 : Fr (fun i => i = mb) W W17 := HF.out.trans (Fr.of_below hb17)
     have hs17 := hb17.size
     have hkl := blk_lt hk17
     have hwl := HF.out.size
     have hS18 : ∀ V, Below W17.heap.size W17 V → V.cell? ⟨wr.heap.size, 0, none⟩ = some (.int .i64 x.f0) ∧ V.cell? ⟨wr.heap.size, 1, none⟩ = some (.bool x.f1) ∧ V.cell? ⟨wr.heap.size, 2, none⟩ = some (.int .i64 x.f2) ∧ V.cell? ⟨W.heap.size + 1, 0, none⟩ = some (.int .i64 p.f0) ∧ V.cell? ⟨W.heap.size + 1, 1, none⟩ = some (.int .i64 p.f1) ∧ V.cell? ⟨W.heap.size + 1, 2, none⟩ = some (.int .i64 p.f2) ∧ V.cell? ⟨W.heap.size + 1, 3, none⟩ = some (.int .i64 p.f3) ∧ V.cell? ⟨W.heap.size, 0, none⟩ = some (.pointer (some ⟨cb, 0, none⟩)) ∧ V.cell? ⟨cb, 2, none⟩ = some (.int .i64 a2) := fun V hV => ⟨(blk_cell (blk_below hk17 hV) 0).trans rfl, (blk_cell (blk_below hk17 hV) 1).trans rfl, (blk_cell (blk_below hk17 hV) 2).trans rfl, (blk_cell (blk_below hB17.st hV) 0).trans rfl, (blk_cell (blk_below hB17.st hV) 1).trans rfl, (blk_cell (blk_below hB17.st hV) 2).trans rfl, (blk_cell (blk_below hB17.st hV) 3).trans rfl, (blk_cell (blk_below hB17.ptr hV) 0).trans rfl, (blk_cell (blk_below hI17.blk hV) 2).trans rfl⟩
     have HS18 := Lib.hid hS18
     have hB : Below W17.heap.size W17 W17.drew := below_drew1 (Below.refl _ _)
     have h68 := fun W => parts_calls x.f1 p x.f2 a2 W
     unfold pv at h68
     have H68 := Lib.hid h68
     have HB17 := Lib.hid hB17
     have HI17 := Lib.hid hI17
     have HF17 := Lib.hid hF17
     have HK17 := Lib.hid hk17
     clear hS18 h68 hB17 hI17 hF17 hk17 HB HI HO HF hb17
     refine s_ 15 (fun w' => w'.cell? ⟨wr.heap.size, 0, none⟩ = some (.int .i64 x.f0) ∧ w'.cell? ⟨wr.heap.size, 1, none⟩ = some (.bool x.f1) ∧ w'.cell? ⟨wr.heap.size, 2, none⟩ = some (.int .i64 x.f2) ∧ w'.cell? ⟨W.heap.size + 1, 0, none⟩ = some (.int .i64 p.f0) ∧ w'.cell? ⟨W.heap.size + 1, 1, none⟩ = some (.int .i64 p.f1) ∧ w'.cell? ⟨W.heap.size + 1, 2, none⟩ = some (.int .i64 p.f2) ∧ w'.cell? ⟨W.heap.size + 1, 3, none⟩ = some (.int .i64 p.f3) ∧ w'.cell? ⟨W.heap.size, 0, none⟩ = some (.pointer (some ⟨cb, 0, none⟩)) ∧ w'.cell? ⟨cb, 2, none⟩ = some (.int .i64 a2)) [14] (HS18.out _ hB) (fun hHeld => ?_)
     refine pa_ 2 #[false, false, true, false, false, false, false, false, false, false, false, false, false, false, false] (some 84) ?_
     refine pa_ 4 #[false, false, true, false, true, false, false, false, false, false, false, false, false, false, false] (some 86) ?_
     refine ta_ 0 #[true, false, true, false, true, false, false, false, false, false, false, false, false, false, false] (some 82) hHeld ?_
     refine ta_ 3 #[true, false, true, true, true, false, false, false, false, false, false, false, false, false, false] (some 85) hHeld ?_
     refine ta_ 5 #[true, false, true, true, true, true, false, false, false, false, false, false, false, false, false] (some 87) hHeld ?_
     refine ta_ 6 #[true, false, true, true, true, true, true, false, false, false, false, false, false, false, false] (some 88) hHeld ?_
     refine pa_ 7 #[true, false, true, true, true, true, true, true, false, false, false, false, false, false, false] (some 89) ?_
     refine pa_ 8 #[true, false, true, true, true, true, true, true, true, false, false, false, false, false, false] (some 90) ?_
     refine pa_ 9 #[true, false, true, true, true, true, true, true, true, true, false, false, false, false, false] (some 91) ?_
     refine ta_ 10 #[true, false, true, true, true, true, true, true, true, true, true, false, false, false, false] (some 92) hHeld ?_
     refine join_ (σ := Nat × Option Addr × Nat × Nat) 1 #[true, true, true, true, true, true, true, true, true, true, true, true, true, true, false] (fun s => [(83, dv x.f1), (93, seqV s.1), (94, .slice s.2.1 (partsOf x.f1 p x.f2 a2).length s.2.2.1), (13, .pointer (some ⟨s.2.2.2, 0, none⟩))]) (fun s w' => w'.heap[s.2.2.2]? = some (.cells #[.slice none 0 0] 96 (0, 0)) ∧ W17.heap.size ≤ s.2.2.2 ∧ w'.ownsRow W17.heap.size 103 4 (.slice s.2.1 (partsOf x.f1 p x.f2 a2).length s.2.2.1) (partsOf x.f1 p x.f2 a2).length (pcs (partsOf x.f1 p x.f2 a2)) ∧ Below W17.heap.size W17 w') ?_ ?_
     rotate_left
     ·intro hCont
      refine two_ (i := 1) (j := 13) (Ni := some 83) (Nj := some 13) #[true, true, true, true, true, true, true, true, true, true, true, false, false, false, false] #[true, false, true, true, true, true, true, true, true, true, true, false, false, true, false] rfl rfl rfl rfl (by kernel_rfl) (by decide) (by decide) (fun K hK => ?_) (fun K hK => ?_)
      ·skip
       refine goes_ Try.func67 (by kernel_rfl) rfl #[.agg #[.int .i64 x.f0, .bool x.f1, .int .i64 x.f2]] (by rfl) rfl rfl (by simp only [List.map_toArray, List.map_cons, List.map_nil]; rfl) ?_
       with_reducible refine (of_calls x.f0 x.f1 x.f2 _).mono ?_
       rintro e V1 ⟨rfl, hs⟩
       replace hB := below_step hB hs
       clear hs
       refine ⟨_, rfl, ?_⟩
       refine hK.out _ _ (HS18.out _ hB) (fun hHeld => ?_)
       clear hK K
       refine n_ ?_
       refine two_ (i := 11) (j := 13) (Ni := some 93) (Nj := some 13) #[true, true, true, true, true, true, true, true, true, true, true, true, false, false, false] #[true, true, true, true, true, true, true, true, true, true, true, false, false, true, false] rfl rfl rfl rfl (by kernel_rfl) (by decide) (by decide) (fun K hK => ?_) (fun K hK => ?_)
       ·skip
        refine goes_ Try.func68 (by kernel_rfl) rfl #[dv x.f1, .agg #[.int .i64 p.f0, .int .i64 p.f1, .int .i64 p.f2, .int .i64 p.f3], .int .i64 x.f2, .int .i64 a2] (by rfl) rfl rfl (by simp only [List.map_toArray, List.map_cons, List.map_nil]; rfl) ?_
        with_reducible refine (H68.out _).mono ?_
        rintro e V2 ⟨gs, hgs1, hgs2, rfl, PA, hs⟩
        replace hB := below_step hB hs
        clear hs
        refine ⟨_, rfl, ?_⟩
        refine hK.out _ _ (HS18.out _ hB) (fun hHeld => ?_)
        clear hK K
        refine n_ ?_
        refine two_ (i := 12) (j := 13) (Ni := some 94) (Nj := some 13) #[true, true, true, true, true, true, true, true, true, true, true, true, true, false, false] #[true, true, true, true, true, true, true, true, true, true, true, true, false, true, false] rfl rfl rfl rfl (by kernel_rfl) (by decide) (by decide) (fun K hK => ?_) (fun K hK => ?_)
        ·skip
         refine goes_ Try.func87 (by kernel_rfl) rfl #[seqV gs] (by rfl) rfl rfl (by simp only [List.map_toArray, List.map_cons, List.map_nil]; rfl) ?_
         with_reducible refine (collect_calls x.f1 p x.f2 a2 gs _ PA hgs2).mono ?_
         rintro e V3 ⟨A3, c3, rfl, own3, hs⟩
         replace own3 := own_weaken own3 hB.size
         clear PA hgs1 hgs2
         replace hB := below_step hB hs
         clear hs
         refine ⟨_, rfl, ?_⟩
         refine hK.out _ _ (HS18.out _ hB) (fun hHeld => ?_)
         clear hK K
         refine n_ ?_
         refine ea_ 13 #[true, true, true, true, true, true, true, true, true, true, true, true, true, true, false] (some 13) (fun K hK => ?_)
         refine pbox_ (.cells #[.slice none 0 0] 96 (0, 0)) (by rfl) rfl ?_ ?_
         ·first | (go_simp; done) | (go_simp; rfl)
         intro g13 V4 hg13 hl13 hs
         replace hl13 : W17.heap.size ≤ g13 := by have := hB.size; omega
         replace own3 := pw_own_below own3 hs
         replace hB := below_step hB hs
         clear hs
         refine hK.out _ _ (HS18.out _ hB) (fun hHeld => ?_)
         clear hK K
         refine n_ ?_
         exact m_ (hCont (gs, A3, c3, g13) _ ⟨hg13, hl13, own3, hB⟩)
        ·skip
         refine pbox_ (.cells #[.slice none 0 0] 96 (0, 0)) (by rfl) rfl ?_ ?_
         ·first | (go_simp; done) | (go_simp; rfl)
         intro g13 V4 hg13 hl13 hs
         replace hl13 : W17.heap.size ≤ g13 := by have := hB.size; omega
         replace PA := PA.below hgs2 hs
         replace hgs2 := Nat.lt_of_lt_of_le hgs2 hs.size
         replace hB := below_step hB hs
         clear hs
         refine hK.out _ _ (HS18.out _ hB) (fun hHeld => ?_)
         clear hK K
         refine n_ ?_
         refine ea_ 12 #[true, true, true, true, true, true, true, true, true, true, true, true, true, true, false] (some 94) (fun K hK => ?_)
         refine goes_ Try.func87 (by kernel_rfl) rfl #[seqV gs] (by rfl) rfl rfl (by simp only [List.map_toArray, List.map_cons, List.map_nil]; rfl) ?_
         with_reducible refine (collect_calls x.f1 p x.f2 a2 gs _ PA hgs2).mono ?_
         rintro e V3 ⟨A3, c3, rfl, own3, hs⟩
         replace own3 := own_weaken own3 hB.size
         clear PA hgs1 hgs2
         replace hg13 := blk_below hg13 hs
         replace hB := below_step hB hs
         clear hs
         refine ⟨_, rfl, ?_⟩
         refine hK.out _ _ (HS18.out _ hB) (fun hHeld => ?_)
         clear hK K
         refine n_ ?_
         exact m_ (hCont (gs, A3, c3, g13) _ ⟨hg13, hl13, own3, hB⟩)
       ·skip
        refine pbox_ (.cells #[.slice none 0 0] 96 (0, 0)) (by rfl) rfl ?_ ?_
        ·first | (go_simp; done) | (go_simp; rfl)
        intro g13 V4 hg13 hl13 hs
        replace hl13 : W17.heap.size ≤ g13 := by have := hB.size; omega
        replace hB := below_step hB hs
        clear hs
        refine hK.out _ _ (HS18.out _ hB) (fun hHeld => ?_)
        clear hK K
        refine n_ ?_
        refine ea_ 11 #[true, true, true, true, true, true, true, true, true, true, true, true, false, true, false] (some 93) (fun K hK => ?_)
        refine goes_ Try.func68 (by kernel_rfl) rfl #[dv x.f1, .agg #[.int .i64 p.f0, .int .i64 p.f1, .int .i64 p.f2, .int .i64 p.f3], .int .i64 x.f2, .int .i64 a2] (by rfl) rfl rfl (by simp only [List.map_toArray, List.map_cons, List.map_nil]; rfl) ?_
        with_reducible refine (H68.out _).mono ?_
        rintro e V2 ⟨gs, hgs1, hgs2, rfl, PA, hs⟩
        replace hg13 := blk_below hg13 hs
        replace hB := below_step hB hs
        clear hs
        refine ⟨_, rfl, ?_⟩
        refine hK.out _ _ (HS18.out _ hB) (fun hHeld => ?_)
        clear hK K
        refine n_ ?_
        refine ea_ 12 #[true, true, true, true, true, true, true, true, true, true, true, true, true, true, false] (some 94) (fun K hK => ?_)
        refine goes_ Try.func87 (by kernel_rfl) rfl #[seqV gs] (by rfl) rfl rfl (by simp only [List.map_toArray, List.map_cons, List.map_nil]; rfl) ?_
        with_reducible refine (collect_calls x.f1 p x.f2 a2 gs _ PA hgs2).mono ?_
        rintro e V3 ⟨A3, c3, rfl, own3, hs⟩
        replace own3 := own_weaken own3 hB.size
        clear PA hgs1 hgs2
        replace hg13 := blk_below hg13 hs
        replace hB := below_step hB hs
        clear hs
        refine ⟨_, rfl, ?_⟩
        refine hK.out _ _ (HS18.out _ hB) (fun hHeld => ?_)
        clear hK K
        refine n_ ?_
        exact m_ (hCont (gs, A3, c3, g13) _ ⟨hg13, hl13, own3, hB⟩)
      ·skip
       refine pbox_ (.cells #[.slice none 0 0] 96 (0, 0)) (by rfl) rfl ?_ ?_
       ·first | (go_simp; done) | (go_simp; rfl)
       intro g13 V4 hg13 hl13 hs
       replace hl13 : W17.heap.size ≤ g13 := by have := hB.size; omega
       replace hB := below_step hB hs
       clear hs
       refine hK.out _ _ (HS18.out _ hB) (fun hHeld => ?_)
       clear hK K
       refine n_ ?_
       refine ea_ 1 #[true, true, true, true, true, true, true, true, true, true, true, false, false, true, false] (some 83) (fun K hK => ?_)
       refine goes_ Try.func67 (by kernel_rfl) rfl #[.agg #[.int .i64 x.f0, .bool x.f1, .int .i64 x.f2]] (by rfl) rfl rfl (by simp only [List.map_toArray, List.map_cons, List.map_nil]; rfl) ?_
       with_reducible refine (of_calls x.f0 x.f1 x.f2 _).mono ?_
       rintro e V1 ⟨rfl, hs⟩
       replace hg13 := blk_below hg13 hs
       replace hB := below_step hB hs
       clear hs
       refine ⟨_, rfl, ?_⟩
       refine hK.out _ _ (HS18.out _ hB) (fun hHeld => ?_)
       clear hK K
       refine n_ ?_
       refine ea_ 11 #[true, true, true, true, true, true, true, true, true, true, true, true, false, true, false] (some 93) (fun K hK => ?_)
       refine goes_ Try.func68 (by kernel_rfl) rfl #[dv x.f1, .agg #[.int .i64 p.f0, .int .i64 p.f1, .int .i64 p.f2, .int .i64 p.f3], .int .i64 x.f2, .int .i64 a2] (by rfl) rfl rfl (by simp only [List.map_toArray, List.map_cons, List.map_nil]; rfl) ?_
       with_reducible refine (H68.out _).mono ?_
       rintro e V2 ⟨gs, hgs1, hgs2, rfl, PA, hs⟩
       replace hg13 := blk_below hg13 hs
       replace hB := below_step hB hs
       clear hs
       refine ⟨_, rfl, ?_⟩
       refine hK.out _ _ (HS18.out _ hB) (fun hHeld => ?_)
       clear hK K
       refine n_ ?_
       refine ea_ 12 #[true, true, true, true, true, true, true, true, true, true, true, true, true, true, false] (some 94) (fun K hK => ?_)
       refine goes_ Try.func87 (by kernel_rfl) rfl #[seqV gs] (by rfl) rfl rfl (by simp only [List.map_toArray, List.map_cons, List.map_nil]; rfl) ?_
       with_reducible refine (collect_calls x.f1 p x.f2 a2 gs _ PA hgs2).mono ?_
       rintro e V3 ⟨A3, c3, rfl, own3, hs⟩
       replace own3 := own_weaken own3 hB.size
       clear PA hgs1 hgs2
       replace hg13 := blk_below hg13 hs
       replace hB := below_step hB hs
       clear hs
       refine ⟨_, rfl, ?_⟩
       refine hK.out _ _ (HS18.out _ hB) (fun hHeld => ?_)
       clear hK K
       refine n_ ?_
       exact m_ (hCont (gs, A3, c3, g13) _ ⟨hg13, hl13, own3, hB⟩)
     clear hHeld hB
     rintro ⟨gs, A3, c3, g13⟩ V18 ⟨hg13, hl13, own3, hB⟩
     dsimp only at hg13 hl13 own3
     have hHeld := HS18.out _ hB
     refine m_ ?_
     refine la_ 14 #[true, true, true, true, true, true, true, true, true, true, true, true, true, true, true] none (fun K hK => ?_)
     have hk_ := cf1 hg13
     refine skip_ (w1 := ?_) (by rfl) rfl ?_ ?_
     rotate_left
     ·go_simp
      rfl
     refine hK.out _ _ ?_
     clear hK K
     refine done_ (by kernel_rfl) ?_
     have hmb := HCI.out.mlt
     have hR19 := blk_put (cs' := #[.slice A3 (partsOf x.f1 p x.f2 a2).length c3]) hg13 0 (.slice A3 (partsOf x.f1 p x.f2 a2).length c3) rfl
     have hfr19 : Fr (fun i => i = g13) V18 (V18.setCell ⟨g13, 0, none⟩ (.slice A3 (partsOf x.f1 p x.f2 a2).length c3)) := by
      have st : ∀ {V : World} {j : Nat} {u : Value}, Fr (fun i => i = g13) V18 V → Fr (fun i => i = g13) V18 (V.setCell ⟨g13, j, none⟩ u) := fun h => h.set (.inl rfl)
      exact st (Fr.refl _ V18)
     have hO19 := own_setCell own3 (p := ⟨g13, 0, none⟩) (own_ne own3 hg13 (by decide)) (.slice A3 (partsOf x.f1 p x.f2 a2).length c3)
     obtain ⟨V19, hWe⟩ : ∃ V19, V18.setCell ⟨g13, 0, none⟩ (.slice A3 (partsOf x.f1 p x.f2 a2).length c3) = V19 := ⟨_, rfl⟩
     rw [hWe] at hR19 hfr19 hO19 ⊢
     obtain ⟨ac, at_, hpn, hxe⟩ := HXM.out
     have hat : 0 ≤ at_ ∧ at_ ≤ 8 := by
      obtain ⟨q0, q1, q2, q3, q4, q5⟩ := id HPP.out
      rcases partsN_cases HPP.out hs (across := ac) (at_ := at_) with h' | ⟨h', c1, c2, c3⟩ | ⟨h', c1, c2, c3⟩ | ⟨h', c1, c2⟩
      ·exact absurd h' hpn
      ·unfold far at c3; cases ac <;> simp only [Bool.false_eq_true, if_false, if_true] at c3 <;> omega
      ·omega
      ·unfold far at c2; cases ac <;> simp only [Bool.false_eq_true, if_false, if_true] at c2 <;> omega
     have hpe : partsOf x.f1 p x.f2 a2 = partsN ac p at_ a2 := by rw [hxe]; exact partsOf_eq HPP.out hs (show at_ ≤ 9223372036854775807 by omega)
     have hL12 : (partsOf x.f1 p x.f2 a2).length = 1 ∨ (partsOf x.f1 p x.f2 a2).length = 2 := by
      rw [hpe]
      rcases partsN_cases HPP.out hs (across := ac) (at_ := at_) with h' | ⟨h', _⟩ | ⟨h', _⟩ | ⟨h', _⟩
      ·exact absurd h' hpn
      ·rw [h']; exact .inl rfl
      ·rw [h']; exact .inl rfl
      ·rw [h']; exact .inr rfl
     have hin : ∀ y ∈ partsOf x.f1 p x.f2 a2, In8 y ∧ msr y < msr p := fun y hy => partsN_in8 HPP.out hs y (by rw [← hpe]; exact hy)
     have hbest' : ∀ y q V, y ∈ partsOf x.f1 p x.f2 a2 → CInv w0 cb mb a0 a1 a2 A c l V → Calls Try.prog 65 #[.pointer (some ⟨cb, 0, none⟩), .agg #[.int .i64 y.f0, .int .i64 y.f1, .int .i64 y.f2, .int .i64 y.f3, .bool q.b0, .bool q.b1, .bool q.b2, .bool q.b3]] V fun e W' => e = .returned (.agg #[.int .i64 (bestP l a2 y q).worth, .int .i64 (bestP l a2 y q).cuts, .int .i64 (bestP l a2 y q).use, .bool (bestP l a2 y q).cut, .int .i64 (bestP l a2 y q).how.f0, .bool (bestP l a2 y q).how.f1, .int .i64 (bestP l a2 y q).how.f2, .bool (bestP l a2 y q).first.b0, .bool (bestP l a2 y q).first.b1, .bool (bestP l a2 y q).first.b2, .bool (bestP l a2 y q).first.b3]) ∧ CInv w0 cb mb a0 a1 a2 A c l W' ∧ Fr (fun i => i = mb) V W' := fun y q V hy hV => HBEST.out y q V (hin y hy).1 (hin y hy).2 hV
     have hstep : ∀ cs o, cutAll (bestP l a2) a2 p v (x :: cs) o = cutAll (bestP l a2) a2 p v cs (v.parts.foldl (see1 (bestP l a2) v (partsOf x.f1 p x.f2 a2) x) o) := fun _ _ => rfl
     have hqq := HQ.out
     rw [hstep] at hqq
     obtain ⟨L, hL⟩ : ∃ L, partsOf x.f1 p x.f2 a2 = L := ⟨_, rfl⟩
     rw [hL] at hR19 hO19 hL12 hbest' hqq ⊢
     have hs18 := hB.size
     have hg13l := blk_lt hg13
     have hs19 := hfr19.size
     have hb19 : Below W17.heap.size W17 V19 := hB.trans (hfr19.below hB.size (fun k e => by omega))
     have hB19 := HB17.out.below hb19
     have hI19 := HI17.out.below hb19
     have hK19 := blk_below HK17.out hb19
     have hml := hI19.mlt
     have hcl19 := blk_lt hI19.blk
     have hol := blk_lt hB19.out
     have hstl := blk_lt hB19.st
     have hptl := blk_lt hB19.ptr
     have hol7 := HCI.out.old.size
     have hsee : SeeI w0 cb mb a0 a1 a2 A c l V19.heap.size g13 (W.heap.size + 1) (W.heap.size) (W.heap.size + 1 + 1 + 1) wr.heap.size W17.heap.size A3 c3 L p v x o V19 := ⟨hI19, hR19, hO19, hB19.st, hB19.ptr, hB19.out, hK19, ⟨hcl19, hml, by omega, hstl, hptl, hol, by omega, hI19.old.size⟩, fun i hi => own_lt hO19 i hi, by omega⟩
     have h88 := some_calls V19.heap.size 89 #[.pointer (some ⟨g13, 0, none⟩), .pointer (some ⟨W.heap.size + 1, 0, none⟩), .pointer (some ⟨W.heap.size, 0, none⟩), .pointer (some ⟨W.heap.size + 1 + 1 + 1, 0, none⟩), .pointer (some ⟨wr.heap.size, 0, none⟩)] (fun i => i = mb ∨ i = W.heap.size + 1 + 1 + 1) (fun done V => SeeI w0 cb mb a0 a1 a2 A c l V19.heap.size g13 (W.heap.size + 1) (W.heap.size) (W.heap.size + 1 + 1 + 1) wr.heap.size W17.heap.size A3 c3 L p v x (done.foldl (see1 (bestP l a2) v L x) o) V) v
      (fun args W => enters_ Try.func89 (by kernel_rfl) rfl args W) (fun k hk => by rcases hk with e | e <;> omega) V19 (Nat.le_refl _) (fun done V V' h hb => h.below hb) (fun part done V hbV hI => by
       rw [List.foldl_append]
       simp only [List.foldl_cons, List.foldl_nil]
       rcases hL12 with h1 | h2
       ·by_cases hu : part = v
        ·rw [hu]; exact see_take1 V h1 hbV hbest' hI
        ·refine (see_skip part V h1 hu hbV hI).mono ?_
         rintro e w' ⟨h3, h4, h5⟩
         refine ⟨h3, ?_, h5⟩
         have : see1 (bestP l a2) v L x (done.foldl (see1 (bestP l a2) v L x) o) part = done.foldl (see1 (bestP l a2) v L x) o := by unfold see1; rw [if_pos ⟨h1, hu⟩]
         rw [this]; exact h4
       ·exact see_take2 part V h2 hbV hbest' hI) hsee
     unfold W4.val at h88
     have H88 := Lib.hid h88
     have HQQ := Lib.hid hqq
     have HB19 := Lib.hid hB19
     have HI19 := Lib.hid hI19
     have HO19 := Lib.hid (pw_own_below HO17.out hb19)
     have HF19 : Hid (Fr (fun i => i = mb) W V19) := Lib.hid (HF17.out.trans (Fr.of_below hb19))
     have hst := HB19.out.st
     have hs4 : V19.cell? ⟨W.heap.size + 1, 4, none⟩ = some (.bool v.b0) := (blk_cell hst 4).trans rfl
     have hs5 : V19.cell? ⟨W.heap.size + 1, 5, none⟩ = some (.bool v.b1) := (blk_cell hst 5).trans rfl
     have hs6 : V19.cell? ⟨W.heap.size + 1, 6, none⟩ = some (.bool v.b2) := (blk_cell hst 6).trans rfl
     have hs7 : V19.cell? ⟨W.heap.size + 1, 7, none⟩ = some (.bool v.b3) := (blk_cell hst 7).trans rfl
     clear hst h88 hsee hqq hstep hbest' hin hL12 hL hpe hat hxe hpn hWe hfr19 hR19 hO19 hB19 hI19 hK19 hb19 hHeld hk_ hB own3 hg13 HQ H68 HS18 HB17 HI17 HF17 HK17 HO17 HXM
     go_wp2_with (go_at_call 88; refine H88.out.mono ?_; rintro e w20 ⟨he, hI20, hfr20⟩; unfold retNone at he; subst he)
     have hmw := HCI.out.mlt
     have hB20 : BSt cb (W.heap.size) (W.heap.size + 1) (W.heap.size + 1 + 1) (W.heap.size + 1 + 1 + 1) p v (v.parts.foldl (see1 (bestP l a2) v L x) o) w20 := ⟨hI20.ptr, hI20.st, blk_fr HB19.out.res hfr20 (by omega), hI20.out⟩
     have hci20 := hI20.ci
     have hO20 := own_fr HO19.out hfr20 (fun k hk e => by
      obtain ⟨cells, hc⟩ := own_typed HO19.out k hk
      rcases e with rfl | rfl
      ·obtain ⟨es, hm1, hm2⟩ := HI19.out.map
       exact hm1.ne_cells hc rfl
      ·exact ne_type hc HB19.out.out (by decide) rfl)
     have hF20 : Fr (fun i => i = mb) W w20 := HF19.out.trans' hfr20 (fun k hk e => by rcases e with e | e; exact e; omega)
     have HB20 := Lib.hid hB20
     have HI20 := Lib.hid hci20
     have HO20 := Lib.hid hO20
     have HF20 := Lib.hid hF20
     clear hI20 hfr20 hB20 hci20 hO20 hF20 H88 HB19 HO19 HF19 hs4 hs5 hs6 hs7
     go_wp2
     go_roundw
     case rel => exact ⟨i + 1, _, by go_num, by omega, HQQ, HB20, HI20, HO20, HF20⟩
     case measure => simp [intOf]; omega
    ·obtain rfl : i = cs.length := by omega
     obtain rfl : o = s := by have := HQ.out; rw [List.drop_length] at this; exact this
     have hB := HB.out
     have hIb := HI.out.blk
     obtain ⟨es, hm1, hm2⟩ := HI.out.map
     obtain ⟨kl, hkl⟩ := key149 HPP.out v
     unfold stateV at hkl
     obtain ⟨w21, es', hrun, hm3, hgr, hm4, hm5, hm6⟩ := (hm1.below (below_drew1 (Below.refl wr.heap.size wr))).update keyed149 Try.underlying137 (val := .agg #[.int .i64 o.worth, .int .i64 o.cuts, .int .i64 o.use, .bool o.cut, .int .i64 o.how.f0, .bool o.how.f1, .int .i64 o.how.f2, .bool o.first.b0, .bool o.first.b1, .bool o.first.b2, .bool o.first.b3]) hkl
     have HRUN := Lib.hid hrun
     go_wp2
     refine s_ 7 (fun w' => w'.cell? ⟨W.heap.size, 0, none⟩ = some (.pointer (some ⟨cb, 0, none⟩)) ∧ w'.cell? ⟨cb, 4, none⟩ = some (.map (some mb)) ∧ w'.cell? ⟨W.heap.size + 1, 0, none⟩ = some (.int .i64 p.f0) ∧ w'.cell? ⟨W.heap.size + 1, 1, none⟩ = some (.int .i64 p.f1) ∧ w'.cell? ⟨W.heap.size + 1, 2, none⟩ = some (.int .i64 p.f2) ∧ w'.cell? ⟨W.heap.size + 1, 3, none⟩ = some (.int .i64 p.f3) ∧ w'.cell? ⟨W.heap.size + 1, 4, none⟩ = some (.bool v.b0) ∧ w'.cell? ⟨W.heap.size + 1, 5, none⟩ = some (.bool v.b1) ∧ w'.cell? ⟨W.heap.size + 1, 6, none⟩ = some (.bool v.b2) ∧ w'.cell? ⟨W.heap.size + 1, 7, none⟩ = some (.bool v.b3) ∧ w'.cell? ⟨W.heap.size + 1 + 1 + 1, 0, none⟩ = some (.int .i64 o.worth) ∧ w'.cell? ⟨W.heap.size + 1 + 1 + 1, 1, none⟩ = some (.int .i64 o.cuts) ∧ w'.cell? ⟨W.heap.size + 1 + 1 + 1, 2, none⟩ = some (.int .i64 o.use) ∧ w'.cell? ⟨W.heap.size + 1 + 1 + 1, 3, none⟩ = some (.bool o.cut) ∧ w'.cell? ⟨W.heap.size + 1 + 1 + 1, 4, none⟩ = some (.int .i64 o.how.f0) ∧ w'.cell? ⟨W.heap.size + 1 + 1 + 1, 5, none⟩ = some (.bool o.how.f1) ∧ w'.cell? ⟨W.heap.size + 1 + 1 + 1, 6, none⟩ = some (.int .i64 o.how.f2) ∧ w'.cell? ⟨W.heap.size + 1 + 1 + 1, 7, none⟩ = some (.bool o.first.b0) ∧ w'.cell? ⟨W.heap.size + 1 + 1 + 1, 8, none⟩ = some (.bool o.first.b1) ∧ w'.cell? ⟨W.heap.size + 1 + 1 + 1, 9, none⟩ = some (.bool o.first.b2) ∧ w'.cell? ⟨W.heap.size + 1 + 1 + 1, 10, none⟩ = some (.bool o.first.b3)) [6] ⟨(cB hB.ptr), (cB hIb), (cB hB.st), (cB hB.st), (cB hB.st), (cB hB.st), (cB hB.st), (cB hB.st), (cB hB.st), (cB hB.st), (cB hB.out), (cB hB.out), (cB hB.out), (cB hB.out), (cB hB.out), (cB hB.out), (cB hB.out), (cB hB.out), (cB hB.out), (cB hB.out), (cB hB.out)⟩ (fun hHeld => ?_)
     refine t_ 0 (some 100) hHeld ?_
     refine p_ 1 (some 101) ?_
     refine p_ 2 (some 102) ?_
     refine t_ 3 (some 103) hHeld ?_
     refine t_ 4 (some 104) hHeld ?_
     refine t_ 5 (some 105) hHeld ?_
     refine l_ 6 none (fun K hK => ?_)
     have hrun := HRUN.out
     refine skip_ (w1 := w21) (by rfl) rfl ?_ ?_
     ·go_simp
      done
     refine hK.out _ _ ?_
     clear hK K
     refine done_ (by kernel_rfl) ?_
     have hmw := HCI.out.mlt
     have hfr21 : Fr (fun i => i = mb) wr w21 := (Fr.of_below (below_drew1 (Below.refl wr.heap.size wr))).trans (Fr.grown hgr (fun k e => by simpa using e.symm))
     have hB21 := HB.out.fr hfr21 (by omega) (by omega) (by omega) (by omega)
     have hci21 : CInv w0 cb mb a0 a1 a2 A c l w21 := ⟨blk_fr HI.out.blk hfr21 HI.out.ne, ⟨es', hm3, fun e he => by
      rcases hm4 e he with h | ⟨h1, h2⟩
      ·exact hm2 e h
      ·exact ⟨p, v, HPP.out, h1, by rw [h2, HSE.out]; rfl⟩⟩, HI.out.old.trans (hfr21.below HI.out.old.size (fun k e => by subst e; exact HI.out.mb0)), HI.out.cb0, HI.out.mb0, HI.out.row⟩
     have HF21 : Hid (Fr (fun i => i = mb) W w21) := Lib.hid (HF.out.trans hfr21)
     have HB21 := Lib.hid hB21
     have HI21 := Lib.hid hci21
     clear hHeld hrun HRUN hm1 hm2 hm3 hm4 hm5 hm6 hgr hfr21 hB hIb hB21 hci21 hkl HB HI HF HO HQ
     have hr21 := HB21.out.res
     have ho21 := HB21.out.out
     have hz0 : (w21).cell? ⟨W.heap.size + 1 + 1, 0, none⟩ = some (.int .i64 0) := (blk_cell hr21 0).trans rfl
     have hzf0 : (w21).frozen? ⟨W.heap.size + 1 + 1, 0, none⟩ = false := blk_frozen hr21 0
     have hz1 : (w21).cell? ⟨W.heap.size + 1 + 1, 1, none⟩ = some (.int .i64 0) := (blk_cell hr21 1).trans rfl
     have hzf1 : (w21).frozen? ⟨W.heap.size + 1 + 1, 1, none⟩ = false := blk_frozen hr21 1
     have hz2 : (w21).cell? ⟨W.heap.size + 1 + 1, 2, none⟩ = some (.int .i64 0) := (blk_cell hr21 2).trans rfl
     have hzf2 : (w21).frozen? ⟨W.heap.size + 1 + 1, 2, none⟩ = false := blk_frozen hr21 2
     have hz3 : (w21).cell? ⟨W.heap.size + 1 + 1, 3, none⟩ = some (.bool false) := (blk_cell hr21 3).trans rfl
     have hzf3 : (w21).frozen? ⟨W.heap.size + 1 + 1, 3, none⟩ = false := blk_frozen hr21 3
     have hz4 : (w21).cell? ⟨W.heap.size + 1 + 1, 4, none⟩ = some (.int .i64 0) := (blk_cell hr21 4).trans rfl
     have hzf4 : (w21).frozen? ⟨W.heap.size + 1 + 1, 4, none⟩ = false := blk_frozen hr21 4
     have hz5 : (w21).cell? ⟨W.heap.size + 1 + 1, 5, none⟩ = some (.bool false) := (blk_cell hr21 5).trans rfl
     have hzf5 : (w21).frozen? ⟨W.heap.size + 1 + 1, 5, none⟩ = false := blk_frozen hr21 5
     have hz6 : (w21).cell? ⟨W.heap.size + 1 + 1, 6, none⟩ = some (.int .i64 0) := (blk_cell hr21 6).trans rfl
     have hzf6 : (w21).frozen? ⟨W.heap.size + 1 + 1, 6, none⟩ = false := blk_frozen hr21 6
     have hz7 : (w21).cell? ⟨W.heap.size + 1 + 1, 7, none⟩ = some (.bool false) := (blk_cell hr21 7).trans rfl
     have hzf7 : (w21).frozen? ⟨W.heap.size + 1 + 1, 7, none⟩ = false := blk_frozen hr21 7
     have hz8 : (w21).cell? ⟨W.heap.size + 1 + 1, 8, none⟩ = some (.bool false) := (blk_cell hr21 8).trans rfl
     have hzf8 : (w21).frozen? ⟨W.heap.size + 1 + 1, 8, none⟩ = false := blk_frozen hr21 8
     have hz9 : (w21).cell? ⟨W.heap.size + 1 + 1, 9, none⟩ = some (.bool false) := (blk_cell hr21 9).trans rfl
     have hzf9 : (w21).frozen? ⟨W.heap.size + 1 + 1, 9, none⟩ = false := blk_frozen hr21 9
     have hz10 : (w21).cell? ⟨W.heap.size + 1 + 1, 10, none⟩ = some (.bool false) := (blk_cell hr21 10).trans rfl
     have hzf10 : (w21).frozen? ⟨W.heap.size + 1 + 1, 10, none⟩ = false := blk_frozen hr21 10
     have hk_ := c11 ho21
     clear hr21 ho21
     go_wp2
     have hE := put11_blk HB21.out.res (.int .i64 o.worth) (.int .i64 o.cuts) (.int .i64 o.use) (.bool o.cut) (.int .i64 o.how.f0) (.bool o.how.f1) (.int .i64 o.how.f2) (.bool o.first.b0) (.bool o.first.b1) (.bool o.first.b2) (.bool o.first.b3)
     have hfr22 := put11_fr w21 (W.heap.size + 1 + 1) (.int .i64 o.worth) (.int .i64 o.cuts) (.int .i64 o.use) (.bool o.cut) (.int .i64 o.how.f0) (.bool o.how.f1) (.int .i64 o.how.f2) (.bool o.first.b0) (.bool o.first.b1) (.bool o.first.b2) (.bool o.first.b3)
     obtain ⟨W22, hWe⟩ : ∃ W22, put11 w21 (W.heap.size + 1 + 1) (.int .i64 o.worth) (.int .i64 o.cuts) (.int .i64 o.use) (.bool o.cut) (.int .i64 o.how.f0) (.bool o.how.f1) (.int .i64 o.how.f2) (.bool o.first.b0) (.bool o.first.b1) (.bool o.first.b2) (.bool o.first.b3) = W22 := ⟨_, rfl⟩
     rw [hWe] at hE hfr22
     unfold put11 at hWe
     rw [hWe]
     clear hWe
     refine bodyPost_ret (results_single rfl (.cell (W.heap.size + 1 + 1) 146 #[.int .i64 o.worth, .int .i64 o.cuts, .int .i64 o.use, .bool o.cut, .int .i64 o.how.f0, .bool o.how.f1, .int .i64 o.how.f2, .bool o.first.b0, .bool o.first.b1, .bool o.first.b2, .bool o.first.b3] (0, 0) _ rfl hE Try.underlying146 rfl (by kernel_rfl) .nil)) rfl ?_
     have hcl := blk_lt HCI.out.blk
     have hol := HCI.out.old.size
     exact ⟨rfl, HI21.out.fr hfr22 (by omega) (by omega) (fun k e => by omega), HF21.out.trans' hfr22 (fun k hk e => absurd hk (by omega))⟩

theorem stateV_inj {p p' : S103} {v v' : W4} (h : stateV p v = stateV p' v') : p = p' ∧ v = v' := by
 unfold stateV at h
 simp only [Value.agg.injEq, Array.mk.injEq, List.cons.injEq, Value.int.injEq, Value.bool.injEq, true_and, and_true] at h
 obtain ⟨h0, h1, h2, h3, h4, h5, h6, h7⟩ := h
 obtain ⟨f0, f1, f2, f3⟩ := p
 obtain ⟨g0, g1, g2, g3⟩ := p'
 obtain ⟨b0, b1, b2, b3⟩ := v
 obtain ⟨d0, d1, d2, d3⟩ := v'
 simp only at h0 h1 h2 h3 h4 h5 h6 h7
 subst h0 h1 h2 h3 h4 h5 h6 h7
 exact ⟨rfl, rfl⟩
theorem best_calls (hs : 0 ≤ a2 ∧ a2 ≤ 2) (hl4 : l.length ≤ 4) (hlc : l.length ≤ c) : ∀ (n : Nat) (p : S103) (v : W4) (W : World), In8 p → msr p < n → CInv w0 cb mb a0 a1 a2 A c l W → Calls Try.prog 65 #[.pointer (some ⟨cb, 0, none⟩), .agg #[.int .i64 p.f0, .int .i64 p.f1, .int .i64 p.f2, .int .i64 p.f3, .bool v.b0, .bool v.b1, .bool v.b2, .bool v.b3]] W (BEnd w0 cb mb a0 a1 a2 A c l p v W) := by
 intro n
 induction n with
 | zero => intro p v W _ h; omega
 | succ n ih =>
  intro p v W hp hn hci
  have hbest : ∀ x q W, In8 x → msr x < msr p → CInv w0 cb mb a0 a1 a2 A c l W → Calls Try.prog 65 #[.pointer (some ⟨cb, 0, none⟩), .agg #[.int .i64 x.f0, .int .i64 x.f1, .int .i64 x.f2, .int .i64 x.f3, .bool q.b0, .bool q.b1, .bool q.b2, .bool q.b3]] W (BEnd w0 cb mb a0 a1 a2 A c l x q W) := fun x q V hx hm hV => ih x q V hx (by omega) hV
  by_cases hv : v = W4.none4
  ·exact best_none p v W hv (by rw [bestP_step hs hp.ok, if_pos hv]) hci
  ·obtain ⟨es, hm1, hm2⟩ := hci.map
   obtain ⟨kl, hkl⟩ := key149 hp v
   by_cases hex : ∃ e0 ∈ es, e0.key = stateV p v
   ·obtain ⟨e0, he0, hek⟩ := hex
    refine best_known p v W hv hp hci (fun V hV => ?_)
    rcases (hm1.below hV).look keyed149 Try.underlying137 (z := .agg #[.int .i64 0, .int .i64 0, .int .i64 0, .bool false, .int .i64 0, .bool false, .int .i64 0, .bool false, .bool false, .bool false, .bool false]) (by kernel_rfl) hkl true with ⟨_, h2⟩ | ⟨e1, h1, h2, h3⟩
    ·exact absurd hek (h2 e0 he0)
    ·obtain ⟨p2, v2, _, hk2, hval2⟩ := hm2 e1 h1
     obtain ⟨rfl, rfl⟩ := stateV_inj (h2.symm.trans hk2)
     rw [hval2] at h3
     exact h3
   ·refine best_new p v W hv hp hs hl4 hlc hci (fun V hV => ?_) hbest
    rcases (hm1.below hV).look keyed149 Try.underlying137 (z := .agg #[.int .i64 0, .int .i64 0, .int .i64 0, .bool false, .int .i64 0, .bool false, .int .i64 0, .bool false, .bool false, .bool false, .bool false]) (by kernel_rfl) hkl true with ⟨h1, _⟩ | ⟨e1, h1, h2, h3⟩
    ·exact h1
    ·exact absurd ⟨e1, h1, h2⟩ hex

end
end Go.Proofs.Ytffjbaknglemdaa.X
