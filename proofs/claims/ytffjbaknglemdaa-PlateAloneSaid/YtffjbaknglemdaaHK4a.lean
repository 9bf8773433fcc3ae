import Derived.Test.YtffjbaknglemdaaHK3c
import Derived.Test.YtffjbaknglemdaaHK4p
namespace Go.Proofs.Ytffjbaknglemdaa.X
open Go.RowKit Go.Maps Go.Proofs.YtffjbaknglemdaaW.PrintWords Go.Proofs.YtffjbaknglemdaaW.PrintLast Go.Proofs.YtffjbaknglemdaaW.PrintMore
set_option linter.unusedSimpArgs false
set_option linter.unusedVariables false

/-! ### Best's inner function -/
def ints (l : List Int) : List Value := l.map (Value.int .i64)
def doFn (cp pbx xb pp db : Nat) : Value := .func (.func 64) #[] #[.pointer (some ⟨cp, 0, none⟩), .pointer (some ⟨pbx, 0, none⟩), .pointer (some ⟨xb, 0, none⟩), .pointer (some ⟨pp, 0, none⟩), .pointer (some ⟨db, 0, none⟩)]
structure DSt (w0 : World) (cb mb : Nat) (a0 a1 a2 : Int) (A : Option Addr) (c : Nat) (l : List S115) (cp pbx xb pp db : Nat) (st : PSt) (W : World) : Prop where
 ci : CInv w0 cb mb a0 a1 a2 A c l W
 cpt : W.heap[cp]? = some (.cells #[.pointer (some ⟨cb, 0, none⟩)] 136 (0, 0))
 plt : W.heap[pp]? = some (.cells #[.int .i64 a0, .int .i64 a1, .int .i64 a2, .slice A l.length c] 55 (0, 0))
 dof : W.heap[db]? = some (.cells #[doFn cp pbx xb pp db] 142 (0, 0))
 row : ∃ R rc, W.heap[pbx]? = some (.cells #[.slice R st.pieces.length rc] 96 (0, 0)) ∧ W.ownsRow w0.heap.size 103 4 (.slice R st.pieces.length rc) st.pieces.length (pcs st.pieces)
 pln : ∃ Q qc U uc, W.heap[xb]? = some (.cells #[.slice Q st.cuts.length qc, .slice U st.uses.length uc] 59 (0, 0)) ∧ W.ownsRow w0.heap.size 112 3 (.slice Q st.cuts.length qc) st.cuts.length (ccs st.cuts) ∧ W.ownsRow w0.heap.size 3 1 (.slice U st.uses.length uc) st.uses.length (ints st.uses)
 lo : w0.heap.size ≤ cp ∧ w0.heap.size ≤ pbx ∧ w0.heap.size ≤ xb ∧ w0.heap.size ≤ pp ∧ w0.heap.size ≤ db
/-- What is kept: blocks of wants and of steps. -/
structure Kp (W W' : World) : Prop where
 size : W.heap.size ≤ W'.heap.size
 keep : ∀ (k : Nat) (cells : Array Value) (t : TypeId), (t = 141 ∨ t = 146) → W.heap[k]? = some (.cells cells t (0, 0)) → W'.heap[k]? = some (.cells cells t (0, 0))
theorem Kp.refl (W : World) : Kp W W := ⟨Nat.le_refl _, fun _ _ _ _ h => h⟩
theorem Kp.trans {a b c : World} (h : Kp a b) (k : Kp b c) : Kp a c := ⟨Nat.le_trans h.size k.size, fun i cs t ht hi => k.keep i cs t ht (h.keep i cs t ht hi)⟩
theorem Kp.below {a b c : World} (h : Kp a b) (k : Below b.heap.size b c) : Kp a c := ⟨Nat.le_trans h.size k.size, fun i cs t ht hi => blk_below (h.keep i cs t ht hi) k⟩
theorem Kp.fr {S : Nat → Prop} {a b c : World} (h : Kp a b) (k : Fr S b c) (hS : ∀ (i : Nat) (cells : Array Value) (t : TypeId), (t = 141 ∨ t = 146) → a.heap[i]? = some (.cells cells t (0, 0)) → ¬ S i) : Kp a c :=
 ⟨Nat.le_trans h.size k.size, fun i cs t ht hi => blk_fr (h.keep i cs t ht hi) k (hS i cs t ht hi)⟩
section
variable {w0 : World} {cb mb : Nat} {a0 a1 a2 : Int} {A : Option Addr} {c : Nat} {l : List S115} {cp pbx xb pp db : Nat} {st : PSt}
theorem DSt.fr {S : Nat → Prop} {W W' : World} (h : DSt w0 cb mb a0 a1 a2 A c l cp pbx xb pp db st W) (hf : Fr S W W') (hc : CInv w0 cb mb a0 a1 a2 A c l W') (hS : ∀ (k : Nat), S k → k = mb ∨ W.heap.size ≤ k ∨ ∃ cells : Array Value, W.heap[k]? = some (.cells cells 146 (0, 0))) : DSt w0 cb mb a0 a1 a2 A c l cp pbx xb pp db st W' := by
 obtain ⟨es, hm, _⟩ := h.ci.map
 have hn : ∀ {g : Nat} {cs : Array Value} {t : TypeId}, W.heap[g]? = some (.cells cs t (0, 0)) → t ≠ 146 → ¬ S g := fun hg ht hs => by
  rcases hS _ hs with e | e | ⟨cells, e⟩
  ·exact hm.ne_cells hg e.symm
  ·have := blk_lt hg; omega
  ·exact ne_type hg e ht rfl
 have hno : ∀ {b n size : Nat} {e : TypeId} {v : Value} {xs : List Value}, W.ownsRow b e size v n xs → e ≠ 146 → W'.ownsRow b e size v n xs := fun ho he => own_fr ho hf (fun k hk => by
  obtain ⟨cells, hcs⟩ := own_typed ho k hk
  exact hn hcs he)
 obtain ⟨R, rc, r1, r2⟩ := h.row
 obtain ⟨Q, qc, U, uc, p1, p2, p3⟩ := h.pln
 exact ⟨hc, blk_fr h.cpt hf (hn h.cpt (by decide)), blk_fr h.plt hf (hn h.plt (by decide)), blk_fr h.dof hf (hn h.dof (by decide)), ⟨R, rc, blk_fr r1 hf (hn r1 (by decide)), hno r2 (by decide)⟩, ⟨Q, qc, U, uc, blk_fr p1 hf (hn p1 (by decide)), hno p2 (by decide), hno p3 (by decide)⟩, h.lo⟩
/-- A step that changes blocks of one type alone, or new ones. -/
structure Up (w0 : World) (cb mb : Nat) (a0 a1 a2 : Int) (A : Option Addr) (c : Nat) (l : List S115) (tb : TypeId) (W W' : World) : Prop where
 size : W.heap.size ≤ W'.heap.size
 blk : ∀ {g : Nat} {cs : Array Value} {t : TypeId}, W.heap[g]? = some (.cells cs t (0, 0)) → t ≠ tb → W'.heap[g]? = some (.cells cs t (0, 0))
 own : ∀ {b m_ size : Nat} {e : TypeId} {v : Value} {xs : List Value}, W.ownsRow b e size v m_ xs → e ≠ tb → W'.ownsRow b e size v m_ xs
 ci : tb ≠ 139 → CInv w0 cb mb a0 a1 a2 A c l W → CInv w0 cb mb a0 a1 a2 A c l W'
theorem Up.of {tb : TypeId} {S : Nat → Prop} {W W' : World} (hf : Fr S W W') (hS : ∀ (k : Nat), S k → w0.heap.size ≤ k ∧ (W.heap.size ≤ k ∨ ∃ cells : Array Value, W.heap[k]? = some (.cells cells tb (0, 0)))) : Up w0 cb mb a0 a1 a2 A c l tb W W' := by
 have hn : ∀ {g : Nat} {cs : Array Value} {t : TypeId}, W.heap[g]? = some (.cells cs t (0, 0)) → t ≠ tb → ¬ S g := fun hg ht hs => by
  rcases (hS _ hs).2 with e | ⟨cells, e⟩
  ·have := blk_lt hg; omega
  ·exact ne_type hg e ht rfl
 refine ⟨hf.size, fun hg ht => blk_fr hg hf (hn hg ht), fun ho he => own_fr ho hf (fun k hk => by
  obtain ⟨cells, hcs⟩ := own_typed ho k hk
  exact hn hcs he), fun h139 hc => hc.fr hf (hn hc.blk (fun e => h139 e.symm)) (fun hs => by
  obtain ⟨es, hm, _⟩ := hc.map
  rcases (hS _ hs).2 with e | ⟨cells, e⟩
  ·have := hc.mlt; omega
  ·exact hm.ne_cells e rfl) (fun k hk => (hS k hk).1)⟩
theorem Kp.up {tb : TypeId} {a b d : World} (h : Kp a b) (k : Up w0 cb mb a0 a1 a2 A c l tb b d) (h1 : tb ≠ 141) (h2 : tb ≠ 146) : Kp a d :=
 ⟨Nat.le_trans h.size k.size, fun i cs t ht hi => k.blk (h.keep i cs t ht hi) (by rcases ht with rfl | rfl <;> exact fun e => by first | exact h1 e.symm | exact h2 e.symm)⟩
theorem DSt.below {W W' : World} (h : DSt w0 cb mb a0 a1 a2 A c l cp pbx xb pp db st W) (hb : Below W.heap.size W W') : DSt w0 cb mb a0 a1 a2 A c l cp pbx xb pp db st W' := h.fr (below_fr hb) (h.ci.below hb) (fun k hk => .inr (.inl hk))

set_option maxRecDepth 100000 in
set_option maxHeartbeats 4000000 in
theorem do_none (n : Nat) (v : W4) (W : World) (p : S103) (hpp : st.pieces.getD n z103 = p) (hn : n < st.pieces.length) (hD : DSt w0 cb mb a0 a1 a2 A c l cp pbx xb pp db st W) (hbc : ∀ V, CInv w0 cb mb a0 a1 a2 A c l V → Calls Try.prog 65 #[.pointer (some ⟨cb, 0, none⟩), .agg #[.int .i64 p.f0, .int .i64 p.f1, .int .i64 p.f2, .int .i64 p.f3, .bool v.b0, .bool v.b1, .bool v.b2, .bool v.b3]] V fun e W' => e = .returned (.agg #[.int .i64 0, .int .i64 0, .int .i64 (-1), .bool false, .int .i64 0, .bool false, .int .i64 0, .bool false, .bool false, .bool false, .bool false]) ∧ CInv w0 cb mb a0 a1 a2 A c l W' ∧ Fr (fun i => i = mb) V W') : Calls Try.prog 64 #[.int .i64 n, .agg #[.bool v.b0, .bool v.b1, .bool v.b2, .bool v.b3], .pointer (some ⟨cp, 0, none⟩), .pointer (some ⟨pbx, 0, none⟩), .pointer (some ⟨xb, 0, none⟩), .pointer (some ⟨pp, 0, none⟩), .pointer (some ⟨db, 0, none⟩)] W fun e W' => retNone e ∧ DSt w0 cb mb a0 a1 a2 A c l cp pbx xb pp db st W' ∧ Kp W W' := by
 obtain ⟨R, rc, hr1, hr2⟩ := hD.row
 have hi0 : (0 : Int) ≤ (n : Int) := by omega
 have hi1 : (n : Int) < (st.pieces.length : Int) := by omega
 obtain ⟨-, -, hCC⟩ := Kd.R_reads' (own_R103 (ok := fun _ => True) hr2 (fun _ _ => trivial))
 obtain ⟨ad, hA, hz0, hz1, hz2, hz3⟩ := at_T103 hCC (n : Int) hi0 hi1
 subst hA
 simp only [Int.toNat_natCast] at hz0 hz1 hz2 hz3
 have hpe : rd_T103 st.pieces (n : Int) = st.pieces.getD n z103 := by simp [rd_T103]
 rw [hpe, hpp] at hz0 hz1 hz2 hz3
 have hb1 := below_alloc (Below.refl W.heap.size W) (.cells #[.bool v.b0, .bool v.b1, .bool v.b2, .bool v.b3] 141)
 have hP1 : (W.alloc (.cells #[.bool v.b0, .bool v.b1, .bool v.b2, .bool v.b3] 141)).heap[W.heap.size]? = some (.cells #[.bool v.b0, .bool v.b1, .bool v.b2, .bool v.b3] 141 (0, 0)) := alloc_at rfl
 have hK1 : Kp W (W.alloc (.cells #[.bool v.b0, .bool v.b1, .bool v.b2, .bool v.b3] 141)) := (Kp.refl W).below hb1
 have hD1 := hD.below hb1
 replace hz0 := pw_cell_below hb1 hz0
 replace hz1 := pw_cell_below hb1 hz1
 replace hz2 := pw_cell_below hb1 hz2
 replace hz3 := pw_cell_below hb1 hz3
 replace hr1 := blk_below hr1 hb1
 replace hr2 := pw_own_below hr2 hb1
 have HD1 := Lib.hid hD1
 have HP1 := Lib.hid hP1
 have HK1 := Lib.hid hK1
 have HR1 := Lib.hid hr1
 have HR2 := Lib.hid hr2
 have HPP := Lib.hid hpp
 have HBC := Lib.hid hbc
 clear hpe hCC hpp hbc hD hD1 hP1 hK1 hr1 hr2
 go_enter Try.func64, Try.ntmps64
 go_wp2
 obtain ⟨W1, hWe⟩ : ∃ W1, W.alloc (.cells #[.bool v.b0, .bool v.b1, .bool v.b2, .bool v.b3] 141) = W1 := ⟨_, rfl⟩
 have hwl : W.heap.size + 1 ≤ W1.heap.size := by rw [← hWe]; simp
 rw [hWe] at HD1 HP1 HK1 HR1 HR2 hz0 hz1 hz2 hz3 hb1 ⊢
 clear hWe
 have hS : ∀ V, Fr (fun i => i = mb) W1 V → V.cell? ⟨cp, 0, none⟩ = some (.pointer (some ⟨cb, 0, none⟩)) ∧ V.cell? ⟨pbx, 0, none⟩ = some (.slice (some ad) st.pieces.length rc) ∧ V.cell? (ad.add (n * 4)) = some (.int .i64 p.f0) ∧ V.cell? ⟨(ad.add (n * 4)).block, (ad.add (n * 4)).off + 1, none⟩ = some (.int .i64 p.f1) ∧ V.cell? ⟨(ad.add (n * 4)).block, (ad.add (n * 4)).off + 2, none⟩ = some (.int .i64 p.f2) ∧ V.cell? ⟨(ad.add (n * 4)).block, (ad.add (n * 4)).off + 3, none⟩ = some (.int .i64 p.f3) ∧ V.cell? ⟨W.heap.size, 0, none⟩ = some (.bool v.b0) ∧ V.cell? ⟨W.heap.size, 1, none⟩ = some (.bool v.b1) ∧ V.cell? ⟨W.heap.size, 2, none⟩ = some (.bool v.b2) ∧ V.cell? ⟨W.heap.size, 3, none⟩ = some (.bool v.b3) := fun V hV => by
  obtain ⟨es, hm, _⟩ := HD1.out.ci.map
  obtain ⟨cells, hrc⟩ := own_typed HR2.out ad.block rfl
  have hne1 : cp ≠ mb := fun e => hm.ne_cells HD1.out.cpt e.symm
  have hne2 : pbx ≠ mb := fun e => hm.ne_cells HR1.out e.symm
  have hne3 : ∀ n, (ad.add n).block ≠ mb := fun n => by rw [add_block]; exact fun e => hm.ne_cells hrc e.symm
  have hne4 : W.heap.size ≠ mb := fun e => hm.ne_cells HP1.out e.symm
  exact ⟨(blk_cell (blk_fr HD1.out.cpt hV hne1) 0).trans rfl, (blk_cell (blk_fr HR1.out hV hne2) 0).trans rfl, cell_fr hV hz0 (hne3 _), cell_fr hV hz1 (hne3 _), cell_fr hV hz2 (hne3 _), cell_fr hV hz3 (hne3 _), (blk_cell (blk_fr HP1.out hV hne4) 0).trans rfl, (blk_cell (blk_fr HP1.out hV hne4) 1).trans rfl, (blk_cell (blk_fr HP1.out hV hne4) 2).trans rfl, (blk_cell (blk_fr HP1.out hV hne4) 3).trans rfl⟩
 have HS := Lib.hid hS
 have hci := HD1.out.ci.below (below_drew1 (Below.refl W1.heap.size W1))
 have hf : Fr (fun i => i = mb) W1 W1.drew := Fr.of_below (below_drew1 (Below.refl W1.heap.size W1))
 have hmb := HD1.out.ci.mlt
 clear hS
 refine s_ 10 (fun w' => w'.cell? ⟨cp, 0, none⟩ = some (.pointer (some ⟨cb, 0, none⟩)) ∧ w'.cell? ⟨pbx, 0, none⟩ = some (.slice (some ad) st.pieces.length rc) ∧ w'.cell? (ad.add (n * 4)) = some (.int .i64 p.f0) ∧ w'.cell? ⟨(ad.add (n * 4)).block, (ad.add (n * 4)).off + 1, none⟩ = some (.int .i64 p.f1) ∧ w'.cell? ⟨(ad.add (n * 4)).block, (ad.add (n * 4)).off + 2, none⟩ = some (.int .i64 p.f2) ∧ w'.cell? ⟨(ad.add (n * 4)).block, (ad.add (n * 4)).off + 3, none⟩ = some (.int .i64 p.f3) ∧ w'.cell? ⟨W.heap.size, 0, none⟩ = some (.bool v.b0) ∧ w'.cell? ⟨W.heap.size, 1, none⟩ = some (.bool v.b1) ∧ w'.cell? ⟨W.heap.size, 2, none⟩ = some (.bool v.b2) ∧ w'.cell? ⟨W.heap.size, 3, none⟩ = some (.bool v.b3)) [9] (HS.out _ hf) (fun hHeld => ?_)
 refine pa_ 2 #[false, false, true, false, false, false, false, false, false, false] (some 15) ?_
 refine ta_ 0 #[true, false, true, false, false, false, false, false, false, false] (some 13) hHeld ?_
 refine ta_ 1 #[true, true, true, false, false, false, false, false, false, false] (some 14) hHeld ?_
 refine pa_ 3 #[true, true, true, true, false, false, false, false, false, false] (some 16) ?_
 refine ta_ 4 #[true, true, true, true, true, false, false, false, false, false] (some 17) hHeld ?_
 refine ta_ 5 #[true, true, true, true, true, true, false, false, false, false] (some 18) hHeld ?_
 refine pa_ 6 #[true, true, true, true, true, true, true, false, false, false] (some 19) ?_
 refine join_ (σ := Nat) 1 #[true, true, true, true, true, true, true, true, true, false] (fun s => [(20, .agg #[.int .i64 0, .int .i64 0, .int .i64 (-1), .bool false, .int .i64 0, .bool false, .int .i64 0, .bool false, .bool false, .bool false, .bool false]), (9, .pointer (some ⟨s, 0, none⟩))]) (fun s w' => w'.heap[s]? = some (.cells #[.int .i64 0, .int .i64 0, .int .i64 0, .bool false, .int .i64 0, .bool false, .int .i64 0, .bool false, .bool false, .bool false, .bool false] 146 (0, 0)) ∧ W1.heap.size ≤ s ∧ CInv w0 cb mb a0 a1 a2 A c l w' ∧ Fr (fun i => i = mb) W1 w') ?_ ?_
 rotate_left
 ·intro hCont
  refine two_ (i := 7) (j := 8) (Ni := some 20) (Nj := some 9) #[true, true, true, true, true, true, true, true, false, false] #[true, true, true, true, true, true, true, false, true, false] rfl rfl rfl rfl (by kernel_rfl) (by decide) (by decide) (fun K hK => ?_) (fun K hK => ?_)
  ·skip
   refine goes_ Try.func65 (by kernel_rfl) rfl #[.pointer (some ⟨cb, 0, none⟩), .agg #[.int .i64 p.f0, .int .i64 p.f1, .int .i64 p.f2, .int .i64 p.f3, .bool v.b0, .bool v.b1, .bool v.b2, .bool v.b3]] (by rfl) rfl rfl (by simp only [List.map_toArray, List.map_cons, List.map_nil]; rfl) ?_
   with_reducible refine (HBC.out _ hci).mono ?_
   rintro e V7 ⟨rfl, hc7, hfr⟩
   clear hci
   have hci := hc7
   clear hc7
   replace hf := hf.trans hfr
   clear hfr
   refine ⟨_, rfl, ?_⟩
   refine hK.out _ _ (HS.out _ hf) (fun hHeld => ?_)
   clear hK K
   refine n_ ?_
   refine ea_ 8 #[true, true, true, true, true, true, true, true, true, false] (some 9) (fun K hK => ?_)
   refine pbox_ (.cells #[.int .i64 0, .int .i64 0, .int .i64 0, .bool false, .int .i64 0, .bool false, .int .i64 0, .bool false, .bool false, .bool false, .bool false] 146 (0, 0)) (by rfl) rfl ?_ ?_
   ·first | (go_simp; done) | (go_simp; rfl)
   intro g10 V8 hg10 hl10 hs
   replace hl10 : W1.heap.size ≤ g10 := by have := hf.size; omega
   replace hci := hci.below hs
   replace hf := hf.trans (Fr.of_below hs)
   clear hs
   refine hK.out _ _ (HS.out _ hf) (fun hHeld => ?_)
   clear hK K
   refine n_ ?_
   exact m_ (hCont g10 _ ⟨hg10, hl10, hci, hf⟩)
  ·skip
   refine pbox_ (.cells #[.int .i64 0, .int .i64 0, .int .i64 0, .bool false, .int .i64 0, .bool false, .int .i64 0, .bool false, .bool false, .bool false, .bool false] 146 (0, 0)) (by rfl) rfl ?_ ?_
   ·first | (go_simp; done) | (go_simp; rfl)
   intro g10 V8 hg10 hl10 hs
   replace hl10 : W1.heap.size ≤ g10 := by have := hf.size; omega
   replace hci := hci.below hs
   replace hf := hf.trans (Fr.of_below hs)
   clear hs
   refine hK.out _ _ (HS.out _ hf) (fun hHeld => ?_)
   clear hK K
   refine n_ ?_
   refine ea_ 7 #[true, true, true, true, true, true, true, true, true, false] (some 20) (fun K hK => ?_)
   refine goes_ Try.func65 (by kernel_rfl) rfl #[.pointer (some ⟨cb, 0, none⟩), .agg #[.int .i64 p.f0, .int .i64 p.f1, .int .i64 p.f2, .int .i64 p.f3, .bool v.b0, .bool v.b1, .bool v.b2, .bool v.b3]] (by rfl) rfl rfl (by simp only [List.map_toArray, List.map_cons, List.map_nil]; rfl) ?_
   with_reducible refine (HBC.out _ hci).mono ?_
   rintro e V7 ⟨rfl, hc7, hfr⟩
   replace hg10 := blk_fr hg10 hfr (by omega)
   clear hci
   have hci := hc7
   clear hc7
   replace hf := hf.trans hfr
   clear hfr
   refine ⟨_, rfl, ?_⟩
   refine hK.out _ _ (HS.out _ hf) (fun hHeld => ?_)
   clear hK K
   refine n_ ?_
   exact m_ (hCont g10 _ ⟨hg10, hl10, hci, hf⟩)
 clear hHeld hci hf
 rintro g10 V9 ⟨hg10, hl10, hci, hf⟩
 have hHeld := HS.out _ hf
 refine m_ ?_
 refine la_ 9 #[true, true, true, true, true, true, true, true, true, true] none (fun K hK => ?_)
 have hk_ := cf11 hg10
 refine skip_ (w1 := ?_) (by rfl) rfl ?_ ?_
 rotate_left
 ·go_simp
  rfl
 refine hK.out _ _ ?_
 clear hK K
 refine done_ (by kernel_rfl) ?_
 have hG10 := put11_blk hg10 (.int .i64 0) (.int .i64 0) (.int .i64 (-1)) (.bool false) (.int .i64 0) (.bool false) (.int .i64 0) (.bool false) (.bool false) (.bool false) (.bool false)
 have hfr10 := put11_fr V9 g10 (.int .i64 0) (.int .i64 0) (.int .i64 (-1)) (.bool false) (.int .i64 0) (.bool false) (.int .i64 0) (.bool false) (.bool false) (.bool false) (.bool false)
 obtain ⟨V10, hWe⟩ : ∃ V10, put11 V9 g10 (.int .i64 0) (.int .i64 0) (.int .i64 (-1)) (.bool false) (.int .i64 0) (.bool false) (.int .i64 0) (.bool false) (.bool false) (.bool false) (.bool false) = V10 := ⟨_, rfl⟩
 rw [hWe] at hG10 hfr10
 unfold put11 at hWe
 rw [hWe]
 clear hWe hHeld hk_
 have hf10 : Fr (fun i => i = mb) W1 V10 := hf.trans' hfr10 (fun i hi e => by omega)
 have hcb := blk_lt HD1.out.ci.blk
 have hw0 := HD1.out.ci.old.size
 have hci10 := hci.fr hfr10 (by omega) (by omega) (fun k e => by omega)
 have HD10 := Lib.hid (HD1.out.fr hf10 hci10 (fun k e => .inl e))
 have HK10 : Hid (Kp W V10) := Lib.hid (HK1.out.fr hf10 (fun i cells t ht hi e => by
  obtain ⟨es, hm, _⟩ := HD1.out.ci.map
  exact hm.ne_cells (HK1.out.keep i cells t ht hi) e.symm))
 have hP10 := blk_fr HP1.out hf10 (fun e => by
  obtain ⟨es, hm, _⟩ := HD1.out.ci.map
  exact hm.ne_cells HP1.out e.symm)
 have hs10 := hf10.size
 have HG10 := Lib.hid hG10
 have HP10 := Lib.hid hP10
 clear hG10 hP10 hf10 hfr10 hci10 hci hf hg10 HS HD1 HK1 HP1 HR1 HR2 HBC hz0 hz1 hz2 hz3 hb1 hcb hi0 hi1
 have hG := HG10.out
 have hg0 : (V10).cell? ⟨g10, 0, none⟩ = some (.int .i64 0) := (blk_cell hG 0).trans rfl
 have hg1 : (V10).cell? ⟨g10, 1, none⟩ = some (.int .i64 0) := (blk_cell hG 1).trans rfl
 have hg2 : (V10).cell? ⟨g10, 2, none⟩ = some (.int .i64 (-1)) := (blk_cell hG 2).trans rfl
 have hg3 : (V10).cell? ⟨g10, 3, none⟩ = some (.bool false) := (blk_cell hG 3).trans rfl
 have hg4 : (V10).cell? ⟨g10, 4, none⟩ = some (.int .i64 0) := (blk_cell hG 4).trans rfl
 have hg5 : (V10).cell? ⟨g10, 5, none⟩ = some (.bool false) := (blk_cell hG 5).trans rfl
 have hg6 : (V10).cell? ⟨g10, 6, none⟩ = some (.int .i64 0) := (blk_cell hG 6).trans rfl
 have hg7 : (V10).cell? ⟨g10, 7, none⟩ = some (.bool false) := (blk_cell hG 7).trans rfl
 have hg8 : (V10).cell? ⟨g10, 8, none⟩ = some (.bool false) := (blk_cell hG 8).trans rfl
 have hg9 : (V10).cell? ⟨g10, 9, none⟩ = some (.bool false) := (blk_cell hG 9).trans rfl
 have hg10 : (V10).cell? ⟨g10, 10, none⟩ = some (.bool false) := (blk_cell hG 10).trans rfl
 clear hG
 go_wp2
 refine bodyPost_ret (results_none rfl _ _ _) rfl ?_
 exact ⟨rfl, HD10.out, HK10.out⟩

set_option maxRecDepth 100000 in
set_option maxHeartbeats 4000000 in
theorem do_use (i : Nat) (x : S115) (n : Nat) (v : W4) (W : World) (p : S103) (hpp : st.pieces.getD n z103 = p) (hn : n < st.pieces.length) (hD : DSt w0 cb mb a0 a1 a2 A c l cp pbx xb pp db st W) (hi : i < st.uses.length) (hbc : ∀ V, CInv w0 cb mb a0 a1 a2 A c l V → Calls Try.prog 65 #[.pointer (some ⟨cb, 0, none⟩), .agg #[.int .i64 p.f0, .int .i64 p.f1, .int .i64 p.f2, .int .i64 p.f3, .bool v.b0, .bool v.b1, .bool v.b2, .bool v.b3]] V fun e W' => e = .returned (.agg #[.int .i64 x.f3, .int .i64 0, .int .i64 i, .bool false, .int .i64 0, .bool false, .int .i64 0, .bool false, .bool false, .bool false, .bool false]) ∧ CInv w0 cb mb a0 a1 a2 A c l W' ∧ Fr (fun i => i = mb) V W') : Calls Try.prog 64 #[.int .i64 n, .agg #[.bool v.b0, .bool v.b1, .bool v.b2, .bool v.b3], .pointer (some ⟨cp, 0, none⟩), .pointer (some ⟨pbx, 0, none⟩), .pointer (some ⟨xb, 0, none⟩), .pointer (some ⟨pp, 0, none⟩), .pointer (some ⟨db, 0, none⟩)] W fun e W' => retNone e ∧ DSt w0 cb mb a0 a1 a2 A c l cp pbx xb pp db { st with uses := st.uses.set i n } W' ∧ Kp W W' := by
 obtain ⟨R, rc, hr1, hr2⟩ := hD.row
 have hi0 : (0 : Int) ≤ (n : Int) := by omega
 have hi1 : (n : Int) < (st.pieces.length : Int) := by omega
 obtain ⟨-, -, hCC⟩ := Kd.R_reads' (own_R103 (ok := fun _ => True) hr2 (fun _ _ => trivial))
 obtain ⟨ad, hA, hz0, hz1, hz2, hz3⟩ := at_T103 hCC (n : Int) hi0 hi1
 subst hA
 simp only [Int.toNat_natCast] at hz0 hz1 hz2 hz3
 have hpe : rd_T103 st.pieces (n : Int) = st.pieces.getD n z103 := by simp [rd_T103]
 rw [hpe, hpp] at hz0 hz1 hz2 hz3
 have hb1 := below_alloc (Below.refl W.heap.size W) (.cells #[.bool v.b0, .bool v.b1, .bool v.b2, .bool v.b3] 141)
 have hP1 : (W.alloc (.cells #[.bool v.b0, .bool v.b1, .bool v.b2, .bool v.b3] 141)).heap[W.heap.size]? = some (.cells #[.bool v.b0, .bool v.b1, .bool v.b2, .bool v.b3] 141 (0, 0)) := alloc_at rfl
 have hK1 : Kp W (W.alloc (.cells #[.bool v.b0, .bool v.b1, .bool v.b2, .bool v.b3] 141)) := (Kp.refl W).below hb1
 have hD1 := hD.below hb1
 replace hz0 := pw_cell_below hb1 hz0
 replace hz1 := pw_cell_below hb1 hz1
 replace hz2 := pw_cell_below hb1 hz2
 replace hz3 := pw_cell_below hb1 hz3
 replace hr1 := blk_below hr1 hb1
 replace hr2 := pw_own_below hr2 hb1
 have HD1 := Lib.hid hD1
 have HP1 := Lib.hid hP1
 have HK1 := Lib.hid hK1
 have HR1 := Lib.hid hr1
 have HR2 := Lib.hid hr2
 have HPP := Lib.hid hpp
 have HBC := Lib.hid hbc
 clear hpe hCC hpp hbc hD hD1 hP1 hK1 hr1 hr2
 go_enter Try.func64, Try.ntmps64
 go_wp2
 obtain ⟨W1, hWe⟩ : ∃ W1, W.alloc (.cells #[.bool v.b0, .bool v.b1, .bool v.b2, .bool v.b3] 141) = W1 := ⟨_, rfl⟩
 have hwl : W.heap.size + 1 ≤ W1.heap.size := by rw [← hWe]; simp
 rw [hWe] at HD1 HP1 HK1 HR1 HR2 hz0 hz1 hz2 hz3 hb1 ⊢
 clear hWe
 have hS : ∀ V, Fr (fun i => i = mb) W1 V → V.cell? ⟨cp, 0, none⟩ = some (.pointer (some ⟨cb, 0, none⟩)) ∧ V.cell? ⟨pbx, 0, none⟩ = some (.slice (some ad) st.pieces.length rc) ∧ V.cell? (ad.add (n * 4)) = some (.int .i64 p.f0) ∧ V.cell? ⟨(ad.add (n * 4)).block, (ad.add (n * 4)).off + 1, none⟩ = some (.int .i64 p.f1) ∧ V.cell? ⟨(ad.add (n * 4)).block, (ad.add (n * 4)).off + 2, none⟩ = some (.int .i64 p.f2) ∧ V.cell? ⟨(ad.add (n * 4)).block, (ad.add (n * 4)).off + 3, none⟩ = some (.int .i64 p.f3) ∧ V.cell? ⟨W.heap.size, 0, none⟩ = some (.bool v.b0) ∧ V.cell? ⟨W.heap.size, 1, none⟩ = some (.bool v.b1) ∧ V.cell? ⟨W.heap.size, 2, none⟩ = some (.bool v.b2) ∧ V.cell? ⟨W.heap.size, 3, none⟩ = some (.bool v.b3) := fun V hV => by
  obtain ⟨es, hm, _⟩ := HD1.out.ci.map
  obtain ⟨cells, hrc⟩ := own_typed HR2.out ad.block rfl
  have hne1 : cp ≠ mb := fun e => hm.ne_cells HD1.out.cpt e.symm
  have hne2 : pbx ≠ mb := fun e => hm.ne_cells HR1.out e.symm
  have hne3 : ∀ n, (ad.add n).block ≠ mb := fun n => by rw [add_block]; exact fun e => hm.ne_cells hrc e.symm
  have hne4 : W.heap.size ≠ mb := fun e => hm.ne_cells HP1.out e.symm
  exact ⟨(blk_cell (blk_fr HD1.out.cpt hV hne1) 0).trans rfl, (blk_cell (blk_fr HR1.out hV hne2) 0).trans rfl, cell_fr hV hz0 (hne3 _), cell_fr hV hz1 (hne3 _), cell_fr hV hz2 (hne3 _), cell_fr hV hz3 (hne3 _), (blk_cell (blk_fr HP1.out hV hne4) 0).trans rfl, (blk_cell (blk_fr HP1.out hV hne4) 1).trans rfl, (blk_cell (blk_fr HP1.out hV hne4) 2).trans rfl, (blk_cell (blk_fr HP1.out hV hne4) 3).trans rfl⟩
 have HS := Lib.hid hS
 have hci := HD1.out.ci.below (below_drew1 (Below.refl W1.heap.size W1))
 have hf : Fr (fun i => i = mb) W1 W1.drew := Fr.of_below (below_drew1 (Below.refl W1.heap.size W1))
 have hmb := HD1.out.ci.mlt
 clear hS
 refine s_ 10 (fun w' => w'.cell? ⟨cp, 0, none⟩ = some (.pointer (some ⟨cb, 0, none⟩)) ∧ w'.cell? ⟨pbx, 0, none⟩ = some (.slice (some ad) st.pieces.length rc) ∧ w'.cell? (ad.add (n * 4)) = some (.int .i64 p.f0) ∧ w'.cell? ⟨(ad.add (n * 4)).block, (ad.add (n * 4)).off + 1, none⟩ = some (.int .i64 p.f1) ∧ w'.cell? ⟨(ad.add (n * 4)).block, (ad.add (n * 4)).off + 2, none⟩ = some (.int .i64 p.f2) ∧ w'.cell? ⟨(ad.add (n * 4)).block, (ad.add (n * 4)).off + 3, none⟩ = some (.int .i64 p.f3) ∧ w'.cell? ⟨W.heap.size, 0, none⟩ = some (.bool v.b0) ∧ w'.cell? ⟨W.heap.size, 1, none⟩ = some (.bool v.b1) ∧ w'.cell? ⟨W.heap.size, 2, none⟩ = some (.bool v.b2) ∧ w'.cell? ⟨W.heap.size, 3, none⟩ = some (.bool v.b3)) [9] (HS.out _ hf) (fun hHeld => ?_)
 refine pa_ 2 #[false, false, true, false, false, false, false, false, false, false] (some 15) ?_
 refine ta_ 0 #[true, false, true, false, false, false, false, false, false, false] (some 13) hHeld ?_
 refine ta_ 1 #[true, true, true, false, false, false, false, false, false, false] (some 14) hHeld ?_
 refine pa_ 3 #[true, true, true, true, false, false, false, false, false, false] (some 16) ?_
 refine ta_ 4 #[true, true, true, true, true, false, false, false, false, false] (some 17) hHeld ?_
 refine ta_ 5 #[true, true, true, true, true, true, false, false, false, false] (some 18) hHeld ?_
 refine pa_ 6 #[true, true, true, true, true, true, true, false, false, false] (some 19) ?_
 refine join_ (σ := Nat) 1 #[true, true, true, true, true, true, true, true, true, false] (fun s => [(20, .agg #[.int .i64 x.f3, .int .i64 0, .int .i64 i, .bool false, .int .i64 0, .bool false, .int .i64 0, .bool false, .bool false, .bool false, .bool false]), (9, .pointer (some ⟨s, 0, none⟩))]) (fun s w' => w'.heap[s]? = some (.cells #[.int .i64 0, .int .i64 0, .int .i64 0, .bool false, .int .i64 0, .bool false, .int .i64 0, .bool false, .bool false, .bool false, .bool false] 146 (0, 0)) ∧ W1.heap.size ≤ s ∧ CInv w0 cb mb a0 a1 a2 A c l w' ∧ Fr (fun i => i = mb) W1 w') ?_ ?_
 rotate_left
 ·intro hCont
  refine two_ (i := 7) (j := 8) (Ni := some 20) (Nj := some 9) #[true, true, true, true, true, true, true, true, false, false] #[true, true, true, true, true, true, true, false, true, false] rfl rfl rfl rfl (by kernel_rfl) (by decide) (by decide) (fun K hK => ?_) (fun K hK => ?_)
  ·skip
   refine goes_ Try.func65 (by kernel_rfl) rfl #[.pointer (some ⟨cb, 0, none⟩), .agg #[.int .i64 p.f0, .int .i64 p.f1, .int .i64 p.f2, .int .i64 p.f3, .bool v.b0, .bool v.b1, .bool v.b2, .bool v.b3]] (by rfl) rfl rfl (by simp only [List.map_toArray, List.map_cons, List.map_nil]; rfl) ?_
   with_reducible refine (HBC.out _ hci).mono ?_
   rintro e V7 ⟨rfl, hc7, hfr⟩
   clear hci
   have hci := hc7
   clear hc7
   replace hf := hf.trans hfr
   clear hfr
   refine ⟨_, rfl, ?_⟩
   refine hK.out _ _ (HS.out _ hf) (fun hHeld => ?_)
   clear hK K
   refine n_ ?_
   refine ea_ 8 #[true, true, true, true, true, true, true, true, true, false] (some 9) (fun K hK => ?_)
   refine pbox_ (.cells #[.int .i64 0, .int .i64 0, .int .i64 0, .bool false, .int .i64 0, .bool false, .int .i64 0, .bool false, .bool false, .bool false, .bool false] 146 (0, 0)) (by rfl) rfl ?_ ?_
   ·first | (go_simp; done) | (go_simp; rfl)
   intro g10 V8 hg10 hl10 hs
   replace hl10 : W1.heap.size ≤ g10 := by have := hf.size; omega
   replace hci := hci.below hs
   replace hf := hf.trans (Fr.of_below hs)
   clear hs
   refine hK.out _ _ (HS.out _ hf) (fun hHeld => ?_)
   clear hK K
   refine n_ ?_
   exact m_ (hCont g10 _ ⟨hg10, hl10, hci, hf⟩)
  ·skip
   refine pbox_ (.cells #[.int .i64 0, .int .i64 0, .int .i64 0, .bool false, .int .i64 0, .bool false, .int .i64 0, .bool false, .bool false, .bool false, .bool false] 146 (0, 0)) (by rfl) rfl ?_ ?_
   ·first | (go_simp; done) | (go_simp; rfl)
   intro g10 V8 hg10 hl10 hs
   replace hl10 : W1.heap.size ≤ g10 := by have := hf.size; omega
   replace hci := hci.below hs
   replace hf := hf.trans (Fr.of_below hs)
   clear hs
   refine hK.out _ _ (HS.out _ hf) (fun hHeld => ?_)
   clear hK K
   refine n_ ?_
   refine ea_ 7 #[true, true, true, true, true, true, true, true, true, false] (some 20) (fun K hK => ?_)
   refine goes_ Try.func65 (by kernel_rfl) rfl #[.pointer (some ⟨cb, 0, none⟩), .agg #[.int .i64 p.f0, .int .i64 p.f1, .int .i64 p.f2, .int .i64 p.f3, .bool v.b0, .bool v.b1, .bool v.b2, .bool v.b3]] (by rfl) rfl rfl (by simp only [List.map_toArray, List.map_cons, List.map_nil]; rfl) ?_
   with_reducible refine (HBC.out _ hci).mono ?_
   rintro e V7 ⟨rfl, hc7, hfr⟩
   replace hg10 := blk_fr hg10 hfr (by omega)
   clear hci
   have hci := hc7
   clear hc7
   replace hf := hf.trans hfr
   clear hfr
   refine ⟨_, rfl, ?_⟩
   refine hK.out _ _ (HS.out _ hf) (fun hHeld => ?_)
   clear hK K
   refine n_ ?_
   exact m_ (hCont g10 _ ⟨hg10, hl10, hci, hf⟩)
 clear hHeld hci hf
 rintro g10 V9 ⟨hg10, hl10, hci, hf⟩
 have hHeld := HS.out _ hf
 refine m_ ?_
 refine la_ 9 #[true, true, true, true, true, true, true, true, true, true] none (fun K hK => ?_)
 have hk_ := cf11 hg10
 refine skip_ (w1 := ?_) (by rfl) rfl ?_ ?_
 rotate_left
 ·go_simp
  rfl
 refine hK.out _ _ ?_
 clear hK K
 refine done_ (by kernel_rfl) ?_
 have hG10 := put11_blk hg10 (.int .i64 x.f3) (.int .i64 0) (.int .i64 i) (.bool false) (.int .i64 0) (.bool false) (.int .i64 0) (.bool false) (.bool false) (.bool false) (.bool false)
 have hfr10 := put11_fr V9 g10 (.int .i64 x.f3) (.int .i64 0) (.int .i64 i) (.bool false) (.int .i64 0) (.bool false) (.int .i64 0) (.bool false) (.bool false) (.bool false) (.bool false)
 obtain ⟨V10, hWe⟩ : ∃ V10, put11 V9 g10 (.int .i64 x.f3) (.int .i64 0) (.int .i64 i) (.bool false) (.int .i64 0) (.bool false) (.int .i64 0) (.bool false) (.bool false) (.bool false) (.bool false) = V10 := ⟨_, rfl⟩
 rw [hWe] at hG10 hfr10
 unfold put11 at hWe
 rw [hWe]
 clear hWe hHeld hk_
 have hf10 : Fr (fun i => i = mb) W1 V10 := hf.trans' hfr10 (fun i hi e => by omega)
 have hcb := blk_lt HD1.out.ci.blk
 have hw0 := HD1.out.ci.old.size
 have hci10 := hci.fr hfr10 (by omega) (by omega) (fun k e => by omega)
 have HD10 := Lib.hid (HD1.out.fr hf10 hci10 (fun k e => .inl e))
 have HK10 : Hid (Kp W V10) := Lib.hid (HK1.out.fr hf10 (fun i cells t ht hi e => by
  obtain ⟨es, hm, _⟩ := HD1.out.ci.map
  exact hm.ne_cells (HK1.out.keep i cells t ht hi) e.symm))
 have hP10 := blk_fr HP1.out hf10 (fun e => by
  obtain ⟨es, hm, _⟩ := HD1.out.ci.map
  exact hm.ne_cells HP1.out e.symm)
 have hs10 := hf10.size
 have HG10 := Lib.hid hG10
 have HP10 := Lib.hid hP10
 clear hG10 hP10 hf10 hfr10 hci10 hci hf hg10 HS HD1 HK1 HP1 HR1 HR2 HBC hz0 hz1 hz2 hz3 hb1 hcb hi0 hi1
 obtain ⟨Q, qc, U, uc, hp1, hp2, hp3⟩ := HD10.out.pln
 obtain ⟨gu, cu, hue, hul, hus⟩ := hp3.form (by omega)
 obtain ⟨rfl, -, rfl⟩ : U = some ⟨gu, 0, none⟩ ∧ st.uses.length = st.uses.length ∧ uc = cu := by injection hue with e1 e2 e3; exact ⟨e1, rfl, e3⟩
 clear hue
 have hu0 : (0 : Int) ≤ (i : Int) := by omega
 have hu1 : (i : Int) < (st.uses.length : Int) := by omega
 obtain ⟨hat1, hat2⟩ := own_at_of (enc := Value.int .i64) (d := 0) hp3 (i : Int) hu0 hu1
 simp only [Int.toNat_natCast] at hat1 hat2
 have hso := own_store_of (enc := Value.int .i64) hp3 (i : Int) (n : Int)
 simp only [Int.toNat_natCast] at hso
 have hfr : Fr (fun k => k = gu) V10 (V10.setCell ⟨gu, i, none⟩ (.int .i64 n)) := Fr.grown hso.2 (fun k e => by simpa using e.symm)
 have hub : ∃ cells, V10.heap[gu]? = some (.cells cells 3 (0, 0)) := own_typed hp3 gu rfl
 have hG := HG10.out
 have hx1 : V10.cell? ⟨xb, 1, none⟩ = some (.slice (some ⟨gu, 0, none⟩) st.uses.length uc) := (blk_cell hp1 1).trans rfl
 have hg0 : (V10).cell? ⟨g10, 0, none⟩ = some (.int .i64 x.f3) := (blk_cell hG 0).trans rfl
 have hg1 : (V10).cell? ⟨g10, 1, none⟩ = some (.int .i64 0) := (blk_cell hG 1).trans rfl
 have hg2 : (V10).cell? ⟨g10, 2, none⟩ = some (.int .i64 i) := (blk_cell hG 2).trans rfl
 have hg3 : (V10).cell? ⟨g10, 3, none⟩ = some (.bool false) := (blk_cell hG 3).trans rfl
 have hg4 : (V10).cell? ⟨g10, 4, none⟩ = some (.int .i64 0) := (blk_cell hG 4).trans rfl
 have hg5 : (V10).cell? ⟨g10, 5, none⟩ = some (.bool false) := (blk_cell hG 5).trans rfl
 have hg6 : (V10).cell? ⟨g10, 6, none⟩ = some (.int .i64 0) := (blk_cell hG 6).trans rfl
 have hg7 : (V10).cell? ⟨g10, 7, none⟩ = some (.bool false) := (blk_cell hG 7).trans rfl
 have hg8 : (V10).cell? ⟨g10, 8, none⟩ = some (.bool false) := (blk_cell hG 8).trans rfl
 have hg9 : (V10).cell? ⟨g10, 9, none⟩ = some (.bool false) := (blk_cell hG 9).trans rfl
 have hg10 : (V10).cell? ⟨g10, 10, none⟩ = some (.bool false) := (blk_cell hG 10).trans rfl
 obtain ⟨cells, hub⟩ := hub
 have hgu := ne_type hG hub (by decide)
 have hG11 := blk_far (p := ⟨gu, i, none⟩) hG hgu (.int .i64 n)
 have hh3 : (V10.setCell ⟨gu, i, none⟩ (.int .i64 n)).cell? ⟨g10, 3, none⟩ = some (.bool false) := (blk_cell hG11 3).trans rfl
 have hq1 := blk_far (p := ⟨gu, i, none⟩) hp1 (ne_type hp1 hub (by decide)) (.int .i64 n)
 have HSO := Lib.hid hso
 have HFR := Lib.hid hfr
 have HUB := Lib.hid hub
 have HP2 := Lib.hid hp2
 have HQ1 := Lib.hid hq1
 have HUL := Lib.hid hul
 have hne1 : ((i : Int) == -1) = false := by rw [beq_eq_false_iff_ne]; omega
 clear hso hfr hub hp1 hp2 hp3 hG hG11 hq1 hul
 go_wp2
 refine bodyPost_ret (results_none rfl _ _ _) rfl ?_
 have hD := HD10.out
 obtain ⟨R', rc', r1, r2⟩ := hD.row
 have hto : ∀ {b m_ size : Nat} {e : TypeId} {v : Value} {xs : List Value}, V10.ownsRow b e size v m_ xs → e ≠ 3 → (V10.setCell ⟨gu, i, none⟩ (.int .i64 n)).ownsRow b e size v m_ xs := fun ho he => own_fr ho HFR.out (fun k hk e => by
  obtain ⟨cells', hcs⟩ := own_typed ho k hk
  exact ne_type hcs HUB.out he e)
 refine ⟨rfl, ⟨hD.ci.fr HFR.out (ne_type hD.ci.blk HUB.out (by decide)) (fun e => by
  obtain ⟨es, hm, _⟩ := hD.ci.map
  exact hm.ne_cells HUB.out e) (fun k e => by subst e; exact HUL.out), blk_fr hD.cpt HFR.out (ne_type hD.cpt HUB.out (by decide)), blk_fr hD.plt HFR.out (ne_type hD.plt HUB.out (by decide)), blk_fr hD.dof HFR.out (ne_type hD.dof HUB.out (by decide)),
  ⟨R', rc', blk_fr r1 HFR.out (ne_type r1 HUB.out (by decide)), hto r2 (by decide)⟩, ⟨Q, qc, some ⟨gu, 0, none⟩, uc, ?_, hto HP2.out (by decide), ?_⟩, hD.lo⟩, HK10.out.fr HFR.out (fun k cells' t ht hk e => ne_type (HK10.out.keep k cells' t ht hk) HUB.out (by rcases ht with rfl | rfl <;> decide) e)⟩
 ·simp only [List.length_set]; exact HQ1.out
 ·simp only [List.length_set]; exact HSO.out.1

theorem up112 {w0 : World} {cb mb : Nat} {a0 a1 a2 : Int} {A : Option Addr} {c : Nat} {l : List S115} {V w : World} {v : Value} {m : Nat} {xs : List Value} {o : Obj} (ho : V.ownsRow w0.heap.size 112 3 v m xs) (hg : (V.alloc o).grownBy w v.ownBlock) (hlo : w0.heap.size ≤ V.heap.size) : Up w0 cb mb a0 a1 a2 A c l 112 (V.alloc o) w :=
 Up.of (S := fun k => v.ownBlock = some k) (Fr.grown hg (fun k e => e)) (fun k hk => ⟨own_base ho k hk, .inr (own_typed (ho.alloc o) k hk)⟩)
theorem up59 {w0 : World} {cb mb : Nat} {a0 a1 a2 : Int} {A : Option Addr} {c : Nat} {l : List S115} {V : World} {xb j : Nat} {t : TypeId} {cs : Array Value} (h : V.heap[xb]? = some (.cells cs t (0, 0))) (hlo : w0.heap.size ≤ xb) (u : Value) : Up w0 cb mb a0 a1 a2 A c l t V (V.setCell ⟨xb, j, none⟩ u) := by
 have st : ∀ {V' : World} {j : Nat} {u : Value}, Fr (fun i => i = xb) V V' → Fr (fun i => i = xb) V (V'.setCell ⟨xb, j, none⟩ u) := fun h => h.set (.inl rfl)
 exact Up.of (st (Fr.refl _ V)) (fun k hk => by subst hk; exact ⟨hlo, .inr ⟨_, h⟩⟩)
theorem dst_cut {w0 : World} {cb mb : Nat} {a0 a1 a2 : Int} {A : Option Addr} {c : Nat} {l : List S115} {cp pbx xb pp db : Nat} {st : PSt} {V w : World} {x : S112} {v1 : Value} {Q U : Option Addr} {qc uc : Nat}
  (hD : DSt w0 cb mb a0 a1 a2 A c l cp pbx xb pp db st V) (h1 : Up w0 cb mb a0 a1 a2 A c l 112 V w) (h2 : Up w0 cb mb a0 a1 a2 A c l 59 w (w.setCell ⟨xb, 0, none⟩ v1)) (ho : w.ownsRow w0.heap.size 112 3 v1 (st.cuts.length + 1) (ccs st.cuts ++ cc x)) (hx : w.heap[xb]? = some (.cells #[.slice Q st.cuts.length qc, .slice U st.uses.length uc] 59 (0, 0))) :
  DSt w0 cb mb a0 a1 a2 A c l cp pbx xb pp db ⟨st.pieces, st.cuts ++ [x], st.uses⟩ (w.setCell ⟨xb, 0, none⟩ v1) := by
 obtain ⟨R, rc, r1, r2⟩ := hD.row
 obtain ⟨Q', qc', U', uc', p1, p2, p3⟩ := hD.pln
 have he := (h1.blk p1 (by decide)).symm.trans hx
 simp only [Option.some.injEq, Obj.cells.injEq, Array.mk.injEq, List.cons.injEq, Value.slice.injEq, and_true, true_and] at he
 obtain ⟨⟨rfl, rfl⟩, rfl, rfl⟩ := he
 obtain ⟨A1, c1, rfl⟩ := own_form ho
 have hl : (st.cuts ++ [x]).length = st.cuts.length + 1 := by simp
 refine ⟨h2.ci (by decide) (h1.ci (by decide) hD.ci), h2.blk (h1.blk hD.cpt (by decide)) (by decide), h2.blk (h1.blk hD.plt (by decide)) (by decide), h2.blk (h1.blk hD.dof (by decide)) (by decide), ⟨R, rc, h2.blk (h1.blk r1 (by decide)) (by decide), h2.own (h1.own r2 (by decide)) (by decide)⟩, ⟨A1, c1, U', uc', ?_, ?_, h2.own (h1.own p3 (by decide)) (by decide)⟩, hD.lo⟩
 ·simp only [hl]; exact blk_put hx 0 _ rfl
 ·simp only [hl]; rw [ccs_append, ccs_one]; exact h2.own ho (by decide)

theorem app_cut {w0 : World} {cb mb : Nat} {a0 a1 a2 : Int} {A : Option Addr} {c : Nat} {l : List S115} {cp pbx xb pp db : Nat} {st : PSt} {W V w : World} {x : S112} {o : Obj} {g1 cap1 g10 b8 : Nat} {Q U : Option Addr} {qc uc : Nat} {gs ps : Array Value}
  (hD : Hid (DSt w0 cb mb a0 a1 a2 A c l cp pbx xb pp db st V)) (hG : Hid (V.heap[g10]? = some (.cells gs 146 (0, 0)))) (hP : Hid (V.heap[b8]? = some (.cells ps 141 (0, 0)))) (hK : Hid (Kp W V)) (hx : Hid (V.heap[xb]? = some (.cells #[.slice Q st.cuts.length qc, .slice U st.uses.length uc] 59 (0, 0)))) (ho : V.ownsRow w0.heap.size 112 3 (.slice Q st.cuts.length qc) st.cuts.length (ccs st.cuts))
  (hown : w.ownsRow w0.heap.size 112 3 (.slice (some ⟨g1, 0, none⟩) (st.cuts.length + 1) cap1) (st.cuts.length + 1) (ccs st.cuts ++ cc x)) (hgrow : (V.alloc o).grownBy w (Value.slice Q st.cuts.length qc).ownBlock) :
  w.cell? ⟨xb, 0, none⟩ = some (.slice Q st.cuts.length qc) ∧ w.frozen? ⟨xb, 0, none⟩ = false ∧ Hid (DSt w0 cb mb a0 a1 a2 A c l cp pbx xb pp db ⟨st.pieces, st.cuts ++ [x], st.uses⟩ (w.setCell ⟨xb, 0, none⟩ (.slice (some ⟨g1, 0, none⟩) (st.cuts.length + 1) cap1))) ∧
   Hid ((w.setCell ⟨xb, 0, none⟩ (.slice (some ⟨g1, 0, none⟩) (st.cuts.length + 1) cap1)).heap[g10]? = some (.cells gs 146 (0, 0))) ∧ Hid ((w.setCell ⟨xb, 0, none⟩ (.slice (some ⟨g1, 0, none⟩) (st.cuts.length + 1) cap1)).heap[b8]? = some (.cells ps 141 (0, 0))) ∧
   Hid (Kp W (w.setCell ⟨xb, 0, none⟩ (.slice (some ⟨g1, 0, none⟩) (st.cuts.length + 1) cap1))) ∧ ∃ R3 rc3, (w.setCell ⟨xb, 0, none⟩ (.slice (some ⟨g1, 0, none⟩) (st.cuts.length + 1) cap1)).cell? ⟨pbx, 0, none⟩ = some (.slice R3 st.pieces.length rc3) ∧ Hid ((w.setCell ⟨xb, 0, none⟩ (.slice (some ⟨g1, 0, none⟩) (st.cuts.length + 1) cap1)).heap[pbx]? = some (.cells #[.slice R3 st.pieces.length rc3] 96 (0, 0))) ∧ Hid ((w.setCell ⟨xb, 0, none⟩ (.slice (some ⟨g1, 0, none⟩) (st.cuts.length + 1) cap1)).ownsRow w0.heap.size 103 4 (.slice R3 st.pieces.length rc3) st.pieces.length (pcs st.pieces)) := by
 have hb := below_alloc (Below.refl V.heap.size V) o
 have h1 : Up w0 cb mb a0 a1 a2 A c l 112 (V.alloc o) w := up112 ho hgrow hD.out.ci.old.size
 have hx1 := h1.blk (blk_below hx.out hb) (by decide)
 have h2 : Up w0 cb mb a0 a1 a2 A c l 59 w _ := up59 hx1 hD.out.lo.2.2.1 (j := 0) (.slice (some ⟨g1, 0, none⟩) (st.cuts.length + 1) cap1)
 have hD3 := dst_cut (hD.out.below hb) h1 h2 hown hx1
 obtain ⟨R3, rc3, hr3, ho3⟩ := hD3.row
 exact ⟨(blk_cell hx1 0).trans rfl, blk_frozen hx1 0, Lib.hid hD3, Lib.hid (h2.blk (h1.blk (blk_below hG.out hb) (by decide)) (by decide)), Lib.hid (h2.blk (h1.blk (blk_below hP.out hb) (by decide)) (by decide)), Lib.hid (((hK.out.below hb).up h1 (by decide) (by decide)).up h2 (by decide) (by decide)), R3, rc3, (blk_cell hr3 0).trans rfl, Lib.hid hr3, Lib.hid ho3⟩

theorem app_row {w0 : World} {cb mb : Nat} {a0 a1 a2 : Int} {A : Option Addr} {c : Nat} {l : List S115} {cp pbx xb pp db : Nat} {st : PSt} {W V V15 V16 : World} {ps : List S103} {v16 : Value} {g10 b8 rc3 : Nat} {R3 : Option Addr} {gs ws : Array Value} (m' : Nat) (hm' : (st.pieces ++ ps).length = m')
  (hD : Hid (DSt w0 cb mb a0 a1 a2 A c l cp pbx xb pp db st V)) (hG : Hid (V.heap[g10]? = some (.cells gs 146 (0, 0)))) (hP : Hid (V.heap[b8]? = some (.cells ws 141 (0, 0)))) (hK : Hid (Kp W V)) (hr : Hid (V.heap[pbx]? = some (.cells #[.slice R3 st.pieces.length rc3] 96 (0, 0)))) (ho : Hid (V.ownsRow w0.heap.size 103 4 (.slice R3 st.pieces.length rc3) st.pieces.length (pcs st.pieces)))
  (hb : Below V.heap.size V V15) (hg : Grew V15 V16 w0.heap.size (.slice R3 st.pieces.length rc3) st.pieces ps v16) :
  ∃ A16 c16, v16 = .slice A16 m' c16 ∧ V16.cell? ⟨pbx, 0, none⟩ = some (.slice R3 st.pieces.length rc3) ∧ V16.frozen? ⟨pbx, 0, none⟩ = false ∧ Hid (DSt w0 cb mb a0 a1 a2 A c l cp pbx xb pp db ⟨st.pieces ++ ps, st.cuts, st.uses⟩ (V16.setCell ⟨pbx, 0, none⟩ v16)) ∧
   Hid ((V16.setCell ⟨pbx, 0, none⟩ v16).heap[g10]? = some (.cells gs 146 (0, 0))) ∧ Hid ((V16.setCell ⟨pbx, 0, none⟩ v16).heap[b8]? = some (.cells ws 141 (0, 0))) ∧ Hid (Kp W (V16.setCell ⟨pbx, 0, none⟩ v16)) ∧ Hid ((V16.setCell ⟨pbx, 0, none⟩ v16).heap[pbx]? = some (.cells #[v16] 96 (0, 0))) := by
 subst hm'
 have ho15 := pw_own_below ho.out hb
 have h1 : Up w0 cb mb a0 a1 a2 A c l 103 V15 V16 := Up.of (S := fun k => (Value.slice R3 st.pieces.length rc3).ownBlock = some k) (Fr.grown hg.grown (fun k e => e)) (fun k hk => ⟨own_base ho15 k hk, .inr (own_typed ho15 k hk)⟩)
 have hr1 := h1.blk (blk_below hr.out hb) (by decide)
 have h2 : Up w0 cb mb a0 a1 a2 A c l 96 V16 _ := up59 hr1 hD.out.lo.2.1 (j := 0) v16
 obtain ⟨A16, c16, rfl⟩ := own_form hg.own
 have hD15 := hD.out.below hb
 obtain ⟨Q, qc, U, uc, p1, p2, p3⟩ := hD15.pln
 have hr2 := blk_put (cs' := #[.slice A16 (st.pieces ++ ps).length c16]) hr1 0 (.slice A16 (st.pieces ++ ps).length c16) rfl
 exact ⟨A16, c16, rfl, (blk_cell hr1 0).trans rfl, blk_frozen hr1 0, Lib.hid ⟨h2.ci (by decide) (h1.ci (by decide) hD15.ci), h2.blk (h1.blk hD15.cpt (by decide)) (by decide), h2.blk (h1.blk hD15.plt (by decide)) (by decide), h2.blk (h1.blk hD15.dof (by decide)) (by decide),
  ⟨A16, c16, hr2, h2.own hg.own (by decide)⟩, ⟨Q, qc, U, uc, h2.blk (h1.blk p1 (by decide)) (by decide), h2.own (h1.own p2 (by decide)) (by decide), h2.own (h1.own p3 (by decide)) (by decide)⟩, hD15.lo⟩,
  Lib.hid (h2.blk (h1.blk (blk_below hG.out hb) (by decide)) (by decide)), Lib.hid (h2.blk (h1.blk (blk_below hP.out hb) (by decide)) (by decide)), Lib.hid (((hK.out.below hb).up h1 (by decide) (by decide)).up h2 (by decide) (by decide)), Lib.hid hr2⟩

set_option maxRecDepth 100000 in
set_option maxHeartbeats 8000000 in
theorem do_one (ac : Bool) (at_ gw_ gc_ : Int) (n : Nat) (v : W4) (W : World) (p : S103) (hpp : st.pieces.getD n z103 = p) (hn : n < st.pieces.length) (hD : DSt w0 cb mb a0 a1 a2 A c l cp pbx xb pp db st W) (a : S103) (hat : 0 ≤ at_ ∧ at_ ≤ 8) (hparts : partsOf ac p at_ a2 = [a]) (hm : st.pieces.length ≤ 1000000) (hcm : st.cuts.length ≤ 1000000) (hbc : ∀ V, CInv w0 cb mb a0 a1 a2 A c l V → Calls Try.prog 65 #[.pointer (some ⟨cb, 0, none⟩), .agg #[.int .i64 p.f0, .int .i64 p.f1, .int .i64 p.f2, .int .i64 p.f3, .bool v.b0, .bool v.b1, .bool v.b2, .bool v.b3]] V fun e W' => e = .returned (.agg #[.int .i64 gw_, .int .i64 gc_, .int .i64 (-1), .bool true, .int .i64 0, .bool ac, .int .i64 at_, .bool v.b0, .bool v.b1, .bool v.b2, .bool v.b3]) ∧ CInv w0 cb mb a0 a1 a2 A c l W' ∧ Fr (fun i => i = mb) V W')
  (F : PSt) (hrec1 : ∀ V, DSt w0 cb mb a0 a1 a2 A c l cp pbx xb pp db ⟨st.pieces ++ [a], st.cuts ++ [⟨n, ac, at_⟩], st.uses⟩ V → Calls Try.prog 64 #[.int .i64 st.pieces.length, .agg #[.bool v.b0, .bool v.b1, .bool v.b2, .bool v.b3], .pointer (some ⟨cp, 0, none⟩), .pointer (some ⟨pbx, 0, none⟩), .pointer (some ⟨xb, 0, none⟩), .pointer (some ⟨pp, 0, none⟩), .pointer (some ⟨db, 0, none⟩)] V fun e W' => retNone e ∧ DSt w0 cb mb a0 a1 a2 A c l cp pbx xb pp db F W' ∧ Kp V W') : Calls Try.prog 64 #[.int .i64 n, .agg #[.bool v.b0, .bool v.b1, .bool v.b2, .bool v.b3], .pointer (some ⟨cp, 0, none⟩), .pointer (some ⟨pbx, 0, none⟩), .pointer (some ⟨xb, 0, none⟩), .pointer (some ⟨pp, 0, none⟩), .pointer (some ⟨db, 0, none⟩)] W fun e W' => retNone e ∧ DSt w0 cb mb a0 a1 a2 A c l cp pbx xb pp db F W' ∧ Kp W W' := by
 have HPA := Lib.hid hparts
 clear hparts
 have HREC1 := Lib.hid hrec1
 clear hrec1
 obtain ⟨R, rc, hr1, hr2⟩ := hD.row
 have hi0 : (0 : Int) ≤ (n : Int) := by omega
 have hi1 : (n : Int) < (st.pieces.length : Int) := by omega
 obtain ⟨-, -, hCC⟩ := Kd.R_reads' (own_R103 (ok := fun _ => True) hr2 (fun _ _ => trivial))
 obtain ⟨ad, hA, hz0, hz1, hz2, hz3⟩ := at_T103 hCC (n : Int) hi0 hi1
 subst hA
 simp only [Int.toNat_natCast] at hz0 hz1 hz2 hz3
 have hpe : rd_T103 st.pieces (n : Int) = st.pieces.getD n z103 := by simp [rd_T103]
 rw [hpe, hpp] at hz0 hz1 hz2 hz3
 have hb1 := below_alloc (Below.refl W.heap.size W) (.cells #[.bool v.b0, .bool v.b1, .bool v.b2, .bool v.b3] 141)
 have hP1 : (W.alloc (.cells #[.bool v.b0, .bool v.b1, .bool v.b2, .bool v.b3] 141)).heap[W.heap.size]? = some (.cells #[.bool v.b0, .bool v.b1, .bool v.b2, .bool v.b3] 141 (0, 0)) := alloc_at rfl
 have hK1 : Kp W (W.alloc (.cells #[.bool v.b0, .bool v.b1, .bool v.b2, .bool v.b3] 141)) := (Kp.refl W).below hb1
 have hD1 := hD.below hb1
 replace hz0 := pw_cell_below hb1 hz0
 replace hz1 := pw_cell_below hb1 hz1
 replace hz2 := pw_cell_below hb1 hz2
 replace hz3 := pw_cell_below hb1 hz3
 replace hr1 := blk_below hr1 hb1
 replace hr2 := pw_own_below hr2 hb1
 have HD1 := Lib.hid hD1
 have HP1 := Lib.hid hP1
 have HK1 := Lib.hid hK1
 have HR1 := Lib.hid hr1
 have HR2 := Lib.hid hr2
 have HPP := Lib.hid hpp
 have HBC := Lib.hid hbc
 clear hpe hCC hpp hbc hD hD1 hP1 hK1 hr1 hr2
 go_enter Try.func64, Try.ntmps64
 go_wp2
 obtain ⟨W1, hWe⟩ : ∃ W1, W.alloc (.cells #[.bool v.b0, .bool v.b1, .bool v.b2, .bool v.b3] 141) = W1 := ⟨_, rfl⟩
 have hwl : W.heap.size + 1 ≤ W1.heap.size := by rw [← hWe]; simp
 rw [hWe] at HD1 HP1 HK1 HR1 HR2 hz0 hz1 hz2 hz3 hb1 ⊢
 clear hWe
 have hS : ∀ V, Fr (fun i => i = mb) W1 V → V.cell? ⟨cp, 0, none⟩ = some (.pointer (some ⟨cb, 0, none⟩)) ∧ V.cell? ⟨pbx, 0, none⟩ = some (.slice (some ad) st.pieces.length rc) ∧ V.cell? (ad.add (n * 4)) = some (.int .i64 p.f0) ∧ V.cell? ⟨(ad.add (n * 4)).block, (ad.add (n * 4)).off + 1, none⟩ = some (.int .i64 p.f1) ∧ V.cell? ⟨(ad.add (n * 4)).block, (ad.add (n * 4)).off + 2, none⟩ = some (.int .i64 p.f2) ∧ V.cell? ⟨(ad.add (n * 4)).block, (ad.add (n * 4)).off + 3, none⟩ = some (.int .i64 p.f3) ∧ V.cell? ⟨W.heap.size, 0, none⟩ = some (.bool v.b0) ∧ V.cell? ⟨W.heap.size, 1, none⟩ = some (.bool v.b1) ∧ V.cell? ⟨W.heap.size, 2, none⟩ = some (.bool v.b2) ∧ V.cell? ⟨W.heap.size, 3, none⟩ = some (.bool v.b3) := fun V hV => by
  obtain ⟨es, hm, _⟩ := HD1.out.ci.map
  obtain ⟨cells, hrc⟩ := own_typed HR2.out ad.block rfl
  have hne1 : cp ≠ mb := fun e => hm.ne_cells HD1.out.cpt e.symm
  have hne2 : pbx ≠ mb := fun e => hm.ne_cells HR1.out e.symm
  have hne3 : ∀ n, (ad.add n).block ≠ mb := fun n => by rw [add_block]; exact fun e => hm.ne_cells hrc e.symm
  have hne4 : W.heap.size ≠ mb := fun e => hm.ne_cells HP1.out e.symm
  exact ⟨(blk_cell (blk_fr HD1.out.cpt hV hne1) 0).trans rfl, (blk_cell (blk_fr HR1.out hV hne2) 0).trans rfl, cell_fr hV hz0 (hne3 _), cell_fr hV hz1 (hne3 _), cell_fr hV hz2 (hne3 _), cell_fr hV hz3 (hne3 _), (blk_cell (blk_fr HP1.out hV hne4) 0).trans rfl, (blk_cell (blk_fr HP1.out hV hne4) 1).trans rfl, (blk_cell (blk_fr HP1.out hV hne4) 2).trans rfl, (blk_cell (blk_fr HP1.out hV hne4) 3).trans rfl⟩
 have HS := Lib.hid hS
 have hci := HD1.out.ci.below (below_drew1 (Below.refl W1.heap.size W1))
 have hf : Fr (fun i => i = mb) W1 W1.drew := Fr.of_below (below_drew1 (Below.refl W1.heap.size W1))
 have hmb := HD1.out.ci.mlt
 clear hS
 refine s_ 10 (fun w' => w'.cell? ⟨cp, 0, none⟩ = some (.pointer (some ⟨cb, 0, none⟩)) ∧ w'.cell? ⟨pbx, 0, none⟩ = some (.slice (some ad) st.pieces.length rc) ∧ w'.cell? (ad.add (n * 4)) = some (.int .i64 p.f0) ∧ w'.cell? ⟨(ad.add (n * 4)).block, (ad.add (n * 4)).off + 1, none⟩ = some (.int .i64 p.f1) ∧ w'.cell? ⟨(ad.add (n * 4)).block, (ad.add (n * 4)).off + 2, none⟩ = some (.int .i64 p.f2) ∧ w'.cell? ⟨(ad.add (n * 4)).block, (ad.add (n * 4)).off + 3, none⟩ = some (.int .i64 p.f3) ∧ w'.cell? ⟨W.heap.size, 0, none⟩ = some (.bool v.b0) ∧ w'.cell? ⟨W.heap.size, 1, none⟩ = some (.bool v.b1) ∧ w'.cell? ⟨W.heap.size, 2, none⟩ = some (.bool v.b2) ∧ w'.cell? ⟨W.heap.size, 3, none⟩ = some (.bool v.b3)) [9] (HS.out _ hf) (fun hHeld => ?_)
 refine pa_ 2 #[false, false, true, false, false, false, false, false, false, false] (some 15) ?_
 refine ta_ 0 #[true, false, true, false, false, false, false, false, false, false] (some 13) hHeld ?_
 refine ta_ 1 #[true, true, true, false, false, false, false, false, false, false] (some 14) hHeld ?_
 refine pa_ 3 #[true, true, true, true, false, false, false, false, false, false] (some 16) ?_
 refine ta_ 4 #[true, true, true, true, true, false, false, false, false, false] (some 17) hHeld ?_
 refine ta_ 5 #[true, true, true, true, true, true, false, false, false, false] (some 18) hHeld ?_
 refine pa_ 6 #[true, true, true, true, true, true, true, false, false, false] (some 19) ?_
 refine join_ (σ := Nat) 1 #[true, true, true, true, true, true, true, true, true, false] (fun s => [(20, .agg #[.int .i64 gw_, .int .i64 gc_, .int .i64 (-1), .bool true, .int .i64 0, .bool ac, .int .i64 at_, .bool v.b0, .bool v.b1, .bool v.b2, .bool v.b3]), (9, .pointer (some ⟨s, 0, none⟩))]) (fun s w' => w'.heap[s]? = some (.cells #[.int .i64 0, .int .i64 0, .int .i64 0, .bool false, .int .i64 0, .bool false, .int .i64 0, .bool false, .bool false, .bool false, .bool false] 146 (0, 0)) ∧ W1.heap.size ≤ s ∧ CInv w0 cb mb a0 a1 a2 A c l w' ∧ Fr (fun i => i = mb) W1 w') ?_ ?_
 rotate_left
 ·intro hCont
  refine two_ (i := 7) (j := 8) (Ni := some 20) (Nj := some 9) #[true, true, true, true, true, true, true, true, false, false] #[true, true, true, true, true, true, true, false, true, false] rfl rfl rfl rfl (by kernel_rfl) (by decide) (by decide) (fun K hK => ?_) (fun K hK => ?_)
  ·skip
   refine goes_ Try.func65 (by kernel_rfl) rfl #[.pointer (some ⟨cb, 0, none⟩), .agg #[.int .i64 p.f0, .int .i64 p.f1, .int .i64 p.f2, .int .i64 p.f3, .bool v.b0, .bool v.b1, .bool v.b2, .bool v.b3]] (by rfl) rfl rfl (by simp only [List.map_toArray, List.map_cons, List.map_nil]; rfl) ?_
   with_reducible refine (HBC.out _ hci).mono ?_
   rintro e V7 ⟨rfl, hc7, hfr⟩
   clear hci
   have hci := hc7
   clear hc7
   replace hf := hf.trans hfr
   clear hfr
   refine ⟨_, rfl, ?_⟩
   refine hK.out _ _ (HS.out _ hf) (fun hHeld => ?_)
   clear hK K
   refine n_ ?_
   refine ea_ 8 #[true, true, true, true, true, true, true, true, true, false] (some 9) (fun K hK => ?_)
   refine pbox_ (.cells #[.int .i64 0, .int .i64 0, .int .i64 0, .bool false, .int .i64 0, .bool false, .int .i64 0, .bool false, .bool false, .bool false, .bool false] 146 (0, 0)) (by rfl) rfl ?_ ?_
   ·first | (go_simp; done) | (go_simp; rfl)
   intro g10 V8 hg10 hl10 hs
   replace hl10 : W1.heap.size ≤ g10 := by have := hf.size; omega
   replace hci := hci.below hs
   replace hf := hf.trans (Fr.of_below hs)
   clear hs
   refine hK.out _ _ (HS.out _ hf) (fun hHeld => ?_)
   clear hK K
   refine n_ ?_
   exact m_ (hCont g10 _ ⟨hg10, hl10, hci, hf⟩)
  ·skip
   refine pbox_ (.cells #[.int .i64 0, .int .i64 0, .int .i64 0, .bool false, .int .i64 0, .bool false, .int .i64 0, .bool false, .bool false, .bool false, .bool false] 146 (0, 0)) (by rfl) rfl ?_ ?_
   ·first | (go_simp; done) | (go_simp; rfl)
   intro g10 V8 hg10 hl10 hs
   replace hl10 : W1.heap.size ≤ g10 := by have := hf.size; omega
   replace hci := hci.below hs
   replace hf := hf.trans (Fr.of_below hs)
   clear hs
   refine hK.out _ _ (HS.out _ hf) (fun hHeld => ?_)
   clear hK K
   refine n_ ?_
   refine ea_ 7 #[true, true, true, true, true, true, true, true, true, false] (some 20) (fun K hK => ?_)
   refine goes_ Try.func65 (by kernel_rfl) rfl #[.pointer (some ⟨cb, 0, none⟩), .agg #[.int .i64 p.f0, .int .i64 p.f1, .int .i64 p.f2, .int .i64 p.f3, .bool v.b0, .bool v.b1, .bool v.b2, .bool v.b3]] (by rfl) rfl rfl (by simp only [List.map_toArray, List.map_cons, List.map_nil]; rfl) ?_
   with_reducible refine (HBC.out _ hci).mono ?_
   rintro e V7 ⟨rfl, hc7, hfr⟩
   replace hg10 := blk_fr hg10 hfr (by omega)
   clear hci
   have hci := hc7
   clear hc7
   replace hf := hf.trans hfr
   clear hfr
   refine ⟨_, rfl, ?_⟩
   refine hK.out _ _ (HS.out _ hf) (fun hHeld => ?_)
   clear hK K
   refine n_ ?_
   exact m_ (hCont g10 _ ⟨hg10, hl10, hci, hf⟩)
 clear hHeld hci hf
 rintro g10 V9 ⟨hg10, hl10, hci, hf⟩
 have hHeld := HS.out _ hf
 refine m_ ?_
 refine la_ 9 #[true, true, true, true, true, true, true, true, true, true] none (fun K hK => ?_)
 have hk_ := cf11 hg10
 refine skip_ (w1 := ?_) (by rfl) rfl ?_ ?_
 rotate_left
 ·go_simp
  rfl
 refine hK.out _ _ ?_
 clear hK K
 refine done_ (by kernel_rfl) ?_
 have hG10 := put11_blk hg10 (.int .i64 gw_) (.int .i64 gc_) (.int .i64 (-1)) (.bool true) (.int .i64 0) (.bool ac) (.int .i64 at_) (.bool v.b0) (.bool v.b1) (.bool v.b2) (.bool v.b3)
 have hfr10 := put11_fr V9 g10 (.int .i64 gw_) (.int .i64 gc_) (.int .i64 (-1)) (.bool true) (.int .i64 0) (.bool ac) (.int .i64 at_) (.bool v.b0) (.bool v.b1) (.bool v.b2) (.bool v.b3)
 obtain ⟨V10, hWe⟩ : ∃ V10, put11 V9 g10 (.int .i64 gw_) (.int .i64 gc_) (.int .i64 (-1)) (.bool true) (.int .i64 0) (.bool ac) (.int .i64 at_) (.bool v.b0) (.bool v.b1) (.bool v.b2) (.bool v.b3) = V10 := ⟨_, rfl⟩
 rw [hWe] at hG10 hfr10
 unfold put11 at hWe
 rw [hWe]
 clear hWe hHeld hk_
 have hf10 : Fr (fun i => i = mb) W1 V10 := hf.trans' hfr10 (fun i hi e => by omega)
 have hcb := blk_lt HD1.out.ci.blk
 have hw0 := HD1.out.ci.old.size
 have hci10 := hci.fr hfr10 (by omega) (by omega) (fun k e => by omega)
 have HD10 := Lib.hid (HD1.out.fr hf10 hci10 (fun k e => .inl e))
 have HK10 : Hid (Kp W V10) := Lib.hid (HK1.out.fr hf10 (fun i cells t ht hi e => by
  obtain ⟨es, hm, _⟩ := HD1.out.ci.map
  exact hm.ne_cells (HK1.out.keep i cells t ht hi) e.symm))
 have hP10 := blk_fr HP1.out hf10 (fun e => by
  obtain ⟨es, hm, _⟩ := HD1.out.ci.map
  exact hm.ne_cells HP1.out e.symm)
 have hs10 := hf10.size
 have HG10 := Lib.hid hG10
 have HP10 := Lib.hid hP10
 clear hG10 hP10 hf10 hfr10 hci10 hci hf hg10 HS HD1 HK1 HP1 HR1 HR2 HBC hz0 hz1 hz2 hz3 hb1 hcb hi0 hi1
 obtain ⟨i0, hinf, hq0, hq1, hq2⟩ := info_parts infoS112
 obtain ⟨Q, qc, U, uc, hp1, hp2, hp3⟩ := HD10.out.pln
 have hG := HG10.out
 have hg0 : (V10).cell? ⟨g10, 0, none⟩ = some (.int .i64 gw_) := (blk_cell hG 0).trans rfl
 have hg1 : (V10).cell? ⟨g10, 1, none⟩ = some (.int .i64 gc_) := (blk_cell hG 1).trans rfl
 have hg2 : (V10).cell? ⟨g10, 2, none⟩ = some (.int .i64 (-1)) := (blk_cell hG 2).trans rfl
 have hg3 : (V10).cell? ⟨g10, 3, none⟩ = some (.bool true) := (blk_cell hG 3).trans rfl
 have hg4 : (V10).cell? ⟨g10, 4, none⟩ = some (.int .i64 0) := (blk_cell hG 4).trans rfl
 have hg5 : (V10).cell? ⟨g10, 5, none⟩ = some (.bool ac) := (blk_cell hG 5).trans rfl
 have hg6 : (V10).cell? ⟨g10, 6, none⟩ = some (.int .i64 at_) := (blk_cell hG 6).trans rfl
 have hg7 : (V10).cell? ⟨g10, 7, none⟩ = some (.bool v.b0) := (blk_cell hG 7).trans rfl
 have hg8 : (V10).cell? ⟨g10, 8, none⟩ = some (.bool v.b1) := (blk_cell hG 8).trans rfl
 have hg9 : (V10).cell? ⟨g10, 9, none⟩ = some (.bool v.b2) := (blk_cell hG 9).trans rfl
 have hg10 : (V10).cell? ⟨g10, 10, none⟩ = some (.bool v.b3) := (blk_cell hG 10).trans rfl
 have hgf4 : V10.frozen? ⟨g10, 4, none⟩ = false := blk_frozen hG 4
 have hG11 := blk_put (cs' := #[.int .i64 gw_, .int .i64 gc_, .int .i64 (-1), .bool true, .int .i64 n, .bool ac, .int .i64 at_, .bool v.b0, .bool v.b1, .bool v.b2, .bool v.b3]) hG 4 (.int .i64 n) rfl
 have hfr11 : Fr (fun k => k = g10) V10 (V10.setCell ⟨g10, 4, none⟩ (.int .i64 n)) := by
  have st : ∀ {V : World} {j : Nat} {u : Value}, Fr (fun i => i = g10) V10 V → Fr (fun i => i = g10) V10 (V.setCell ⟨g10, j, none⟩ u) := fun h => h.set (.inl rfl)
  exact st (Fr.refl _ V10)
 have hci11 := HD10.out.ci.fr hfr11 (ne_type HD10.out.ci.blk hG (by decide)) (fun e => by
  obtain ⟨es, hm, _⟩ := HD10.out.ci.map
  exact hm.ne_cells hG e) (fun k e => by have := HD10.out.ci.old.size; have := HK10.out.size; omega)
 have hD11 := HD10.out.fr hfr11 hci11 (fun k e => .inr (.inr ⟨_, by subst e; exact hG⟩))
 have hK11 : Kp W (V10.setCell ⟨g10, 4, none⟩ (.int .i64 n)) := HK10.out.fr hfr11 (fun k cells t ht hk e => by have := blk_lt hk; omega)
 have hx11 := blk_fr hp1 hfr11 (ne_type hp1 hG (by decide))
 have ho11 := own_fr hp2 hfr11 (fun k hk e => by
  obtain ⟨cells, hcs⟩ := own_typed hp2 k hk
  exact ne_type hcs hG (by decide) e)
 have hxx0 : (V10.setCell ⟨g10, 4, none⟩ (.int .i64 n)).cell? ⟨xb, 0, none⟩ = some (.slice Q st.cuts.length qc) := (blk_cell hx11 0).trans rfl
 have hxx4 : (V10.setCell ⟨g10, 4, none⟩ (.int .i64 n)).cell? ⟨g10, 4, none⟩ = some (.int .i64 n) := (blk_cell hG11 4).trans rfl
 have hxx5 : (V10.setCell ⟨g10, 4, none⟩ (.int .i64 n)).cell? ⟨g10, 5, none⟩ = some (.bool ac) := (blk_cell hG11 5).trans rfl
 have hxx6 : (V10.setCell ⟨g10, 4, none⟩ (.int .i64 n)).cell? ⟨g10, 6, none⟩ = some (.int .i64 at_) := (blk_cell hG11 6).trans rfl
 have HG11 := Lib.hid hG11
 have HD11 := Lib.hid hD11
 have HK11 := Lib.hid hK11
 have HX11 := Lib.hid hx11
 have HP10' := Lib.hid (blk_fr HP10.out hfr11 (by omega))
 have hs11 := hfr11.size
 clear hp1 hp2 hp3 hG hG11 hfr11 hci11 hD11 hK11 hx11 HG10 HD10 HK10 HP10
 have hcl' : st.cuts.length + 1 ≤ 140737488355328 := by omega
 go_wp2_with (at_builtin; refine wpList_append_own_at _ rfl _ _ 57 rfl w0.heap.size 112 i0 _ 3 24 Try.underlying57 hinf hq0 hq1 hq2 rfl (by decide) _ _ _ rfl (ho11.alloc _) ⟨V10.heap.size, 0, none⟩ 1 1 (cc ⟨n, ac, at_⟩) rfl rfl (World.news_of_block (alloc_at (by simp))) (by simp [cc, Value.oneCell']) (by simp [maxLen]; omega) (by omega) (by have := HD11.out.ci.old.size; simp at this; simp; omega) ?_; intro v1 w12 hown1 hgrow _ hat_; obtain ⟨g1, cap1, rfl⟩ := ownsRow_succ hown1; obtain ⟨hxc, hxf, HD13, HG13, HP13, HK13, R3, rc3, hrc, HR3, HO3⟩ := app_cut HD11 HG11 HP10' HK11 HX11 ho11 hown1 hgrow; clear hgrow hat_ hown1)
 clear hxc hxf hrc hxx0 hxx4 hxx5 hxx6 ho11 hinf hq0 hq1 hq2 HD11 HG11 HP10' HK11 HX11
 obtain ⟨V13, hWe⟩ : ∃ V13, w12.setCell ⟨xb, 0, none⟩ (.slice (some ⟨g1, 0, none⟩) (st.cuts.length + 1) cap1) = V13 := ⟨_, rfl⟩
 rw [hWe] at HD13 HG13 HP13 HK13 HR3 HO3 ⊢
 clear hWe hg0 hg1 hg2 hg3 hg4 hg5 hg6 hg7 hg8 hg9 hg10 hgf4
 have hi0 : (0 : Int) ≤ (n : Int) := by omega
 have hi1 : (n : Int) < (st.pieces.length : Int) := by omega
 obtain ⟨-, -, hCC⟩ := Kd.R_reads' (own_R103 (ok := fun _ => True) HO3.out (fun _ _ => trivial))
 obtain ⟨ad3, hA, hz0, hz1, hz2, hz3⟩ := at_T103 hCC (n : Int) hi0 hi1
 subst hA
 simp only [Int.toNat_natCast] at hz0 hz1 hz2 hz3
 have hpe : rd_T103 st.pieces (n : Int) = st.pieces.getD n z103 := by simp [rd_T103]
 rw [hpe, HPP.out] at hz0 hz1 hz2 hz3
 have hG13 := HG13.out
 have hr3 := HR3.out
 have hpl3 := HD13.out.plt
 have hB : Below V13.heap.size V13 V13.drew := below_drew1 (Below.refl _ _)
 have h68 := fun W => parts_calls ac p at_ a2 W
 unfold pv at h68
 have H68 := Lib.hid h68
 have hgl := own_lt HO3.out
 have HGL := Lib.hid hgl
 clear h68 hCC hpe hgl
 refine s_ 16 (fun w' => w'.cell? ⟨pbx, 0, none⟩ = some (.slice (some ad3) st.pieces.length rc3) ∧ w'.cell? ⟨g10, 4, none⟩ = some (.int .i64 n) ∧ w'.cell? ⟨g10, 5, none⟩ = some (.bool ac) ∧ w'.cell? ⟨g10, 6, none⟩ = some (.int .i64 at_) ∧ w'.cell? (ad3.add (n * 4)) = some (.int .i64 p.f0) ∧ w'.cell? ⟨(ad3.add (n * 4)).block, (ad3.add (n * 4)).off + 1, none⟩ = some (.int .i64 p.f1) ∧ w'.cell? ⟨(ad3.add (n * 4)).block, (ad3.add (n * 4)).off + 2, none⟩ = some (.int .i64 p.f2) ∧ w'.cell? ⟨(ad3.add (n * 4)).block, (ad3.add (n * 4)).off + 3, none⟩ = some (.int .i64 p.f3) ∧ w'.cell? ⟨pp, 2, none⟩ = some (.int .i64 a2)) [14, 15] ⟨(cB hr3), (cB hG13), (cB hG13), (cB hG13), hz0, hz1, hz2, hz3, (cB hpl3)⟩ (fun hHeld => ?_)
 refine p_ 1 (some 46) ?_
 refine p_ 5 (some 50) ?_
 refine p_ 8 (some 53) ?_
 refine p_ 9 (some 54) ?_
 refine p_ 11 (some 56) ?_
 refine t_ 0 (some 45) hHeld ?_
 refine t_ 2 (some 47) hHeld ?_
 refine t_ 4 (some 49) hHeld ?_
 refine p_ 6 (some 51) ?_
 refine t_ 7 (some 52) hHeld ?_
 refine t_ 10 (some 55) hHeld ?_
 refine t_ 12 (some 57) hHeld ?_
 refine e_ 3 (some 48) (fun K hK => ?_)
 refine goes_ Try.func67 (by kernel_rfl) rfl #[.agg #[.int .i64 n, .bool ac, .int .i64 at_]] (by rfl) rfl rfl (by simp only [List.map_toArray, List.map_cons, List.map_nil]; rfl) ?_
 with_reducible refine (of_calls n ac at_ _).mono ?_
 rintro e V14 ⟨rfl, hs⟩
 replace hB := below_step hB hs
 refine ⟨_, rfl, ?_⟩
 refine hK.out _ _ (mv9 hs hHeld) (fun hHeld => ?_)
 clear hK K
 refine n_ ?_
 refine e_ 13 (some 58) (fun K hK => ?_)
 refine goes_ Try.func68 (by kernel_rfl) rfl #[dv ac, .agg #[.int .i64 p.f0, .int .i64 p.f1, .int .i64 p.f2, .int .i64 p.f3], .int .i64 at_, .int .i64 a2] (by rfl) rfl rfl (by simp only [List.map_toArray, List.map_cons, List.map_nil]; rfl) ?_
 with_reducible refine (H68.out _).mono ?_
 rintro e V15 ⟨gs, hgs1, hgs2, rfl, PA, hs⟩
 have hB14 := hB.size
 replace hB := below_step hB hs
 refine ⟨_, rfl, ?_⟩
 refine hK.out _ _ (mv9 hs hHeld) (fun hHeld => ?_)
 clear hK K
 refine n_ ?_
 refine l_ 14 (some 59) (fun K hK => ?_)
 refine goes_ Try.func66 (by kernel_rfl) rfl #[.slice (some ad3) st.pieces.length rc3, seqV gs] (by rfl) rfl rfl (by simp only [List.map_toArray, List.map_cons, List.map_nil]; rfl) ?_
 with_reducible refine (appendSeq_calls ac p at_ a2 gs w0.heap.size (some ad3) st.pieces.length rc3 st.pieces _ PA hgs2 (pw_own_below HO3.out hB) (by have := HD13.out.ci.old.size; have := hB.size; omega) hm (fun k hk => by have := HGL.out k hk; omega)).mono ?_
 rintro e V16 ⟨v16, rfl, hG16⟩
 rw [HPA.out] at hG16
 obtain ⟨A16, c16, rfl, hpc, hpf, HD17, HG17, HP17, HK17, HR17⟩ := app_row (st.pieces.length + 1) (by simp) HD13 HG13 HP13 HK13 HR3 HO3 hB hG16
 refine ⟨_, rfl, ?_⟩
 refine hK.out _ _ ?_
 clear hK K
 refine n_ ?_
 refine l_ 15 none (fun K hK => ?_)
 refine skip_ (w1 := ?_) (by rfl) rfl ?_ ?_
 rotate_left
 ·go_simp
  rfl
 refine hK.out _ _ ?_
 clear hK K
 refine done_ (by kernel_rfl) ?_
 clear hpc hpf hr3 hG13 hpl3 hz0 hz1 hz2 hz3 hHeld hs hB14 hB hgs1 hgs2 PA hG16 HD13 HG13 HP13 HK13 HR3 HO3 H68 HGL hi0 hi1
 obtain ⟨V17, hWe⟩ : ∃ V17, V16.setCell ⟨pbx, 0, none⟩ (.slice A16 (st.pieces.length + 1) c16) = V17 := ⟨_, rfl⟩
 rw [hWe] at HD17 HG17 HP17 HK17 HR17 ⊢
 clear hWe
 have hG17 := HG17.out
 have hP17 := HP17.out
 have hR17 := HR17.out
 have h69 := fun W => less_calls v v W
 unfold W4.val at h69
 have H69 := Lib.hid h69
 clear h69
 have hsub : wrap64 ((st.pieces.length : Int) + 1 - (st.pieces.length : Int)) = 1 := by rw [w64 (by omega) (by omega)]; omega
 go_wp2
 refine s_ 14 (fun w' => w'.cell? ⟨g10, 7, none⟩ = some (.bool v.b0) ∧ w'.cell? ⟨g10, 8, none⟩ = some (.bool v.b1) ∧ w'.cell? ⟨g10, 9, none⟩ = some (.bool v.b2) ∧ w'.cell? ⟨g10, 10, none⟩ = some (.bool v.b3) ∧ w'.cell? ⟨W.heap.size, 0, none⟩ = some (.bool v.b0) ∧ w'.cell? ⟨W.heap.size, 1, none⟩ = some (.bool v.b1) ∧ w'.cell? ⟨W.heap.size, 2, none⟩ = some (.bool v.b2) ∧ w'.cell? ⟨W.heap.size, 3, none⟩ = some (.bool v.b3) ∧ w'.cell? ⟨pbx, 0, none⟩ = some (.slice A16 (st.pieces.length + 1) c16)) [] ⟨(cB hG17), (cB hG17), (cB hG17), (cB hG17), (cB hP17), (cB hP17), (cB hP17), (cB hP17), (cB hR17)⟩ (fun hHeld => ?_)
 refine p_ 0 (some 60) ?_
 refine p_ 3 (some 63) ?_
 refine p_ 9 (some 69) ?_
 refine p_ 13 (some 73) ?_
 refine t_ 1 (some 61) hHeld ?_
 refine t_ 2 (some 62) hHeld ?_
 refine t_ 4 (some 64) hHeld ?_
 refine t_ 7 (some 67) hHeld ?_
 refine p_ 8 (some 68) ?_
 refine p_ 10 (some 70) ?_
 refine e_ 5 (some 65) (fun K hK => ?_)
 refine goes_ Try.func69 (by kernel_rfl) rfl #[.agg #[.bool v.b0, .bool v.b1, .bool v.b2, .bool v.b3], .agg #[.bool v.b0, .bool v.b1, .bool v.b2, .bool v.b3]] (by rfl) rfl rfl (by simp only [List.map_toArray, List.map_cons, List.map_nil]; rfl) ?_
 with_reducible refine (H69.out _).mono ?_
 rintro e V18 ⟨rfl, hs3⟩
 refine ⟨_, rfl, ?_⟩
 refine hK.out _ _ (mv9 hs3 hHeld) (fun hHeld => ?_)
 clear hK K
 refine n_ ?_
 refine e_ 6 (some 66) (fun K hK => ?_)
 refine slit_ (.cells #[.bool v.b0, .bool v.b1, .bool v.b2, .bool v.b3, .bool (v.less v).b0, .bool (v.less v).b1, .bool (v.less v).b2, .bool (v.less v).b3] 141 (0, 0)) 2 (by rfl) rfl ?_ ?_
 ·first | (go_simp; done) | (go_simp; rfl)
 intro gw V19 hgw hlw hs4
 refine hK.out _ _ (mv9 hs4 hHeld) (fun hHeld => ?_)
 clear hK K
 refine n_ ?_
 refine p_ 11 (some 71) ?_
 refine p_ 12 (some 72) ?_
 refine done_ (by kernel_rfl) ?_
 have hb19 : Below V17.heap.size V17 V19 := below_step (below_step (below_drew1 (Below.refl _ _)) hs3) hs4
 have HD19 := Lib.hid (HD17.out.below hb19)
 have HK19 := Lib.hid (HK17.out.below hb19)
 have HW19 := Lib.hid hgw
 clear hsub hs3 hs4 hb19 hgw hlw hHeld hG17 hP17 hR17 HD17 HG17 HP17 HK17 HR17 H69
 go_wp2
 go_loopw [73] (fun t wr => ((t = .int .i64 0 ∧ Hid (DSt w0 cb mb a0 a1 a2 A c l cp pbx xb pp db ⟨st.pieces ++ [a], st.cuts ++ [⟨n, ac, at_⟩], st.uses⟩ wr)) ∨ (t = .int .i64 1 ∧ Hid (DSt w0 cb mb a0 a1 a2 A c l cp pbx xb pp db F wr))) ∧ Hid (wr.heap[gw]? = some (.cells #[.bool v.b0, .bool v.b1, .bool v.b2, .bool v.b3, .bool (v.less v).b0, .bool (v.less v).b1, .bool (v.less v).b2, .bool (v.less v).b3] 141 (0, 0))) ∧ Hid (Kp W wr)) (fun t _ => 1 - (intOf t).toNat)
 case atStart => exact ⟨.inl ⟨rfl, HD19⟩, HW19, HK19⟩
 case round =>
  clear HD19 HW19 HK19
  obtain ⟨hc, HW, HK⟩ := hrel
  rcases hc with ⟨rfl, HD⟩ | ⟨rfl, HD⟩
  ·have hw := HW.out
   have hw0 : wr.cell? ⟨gw, 0, none⟩ = some (.bool v.b0) := (blk_cell hw 0).trans rfl
   have hw1 : wr.cell? ⟨gw, 1, none⟩ = some (.bool v.b1) := (blk_cell hw 1).trans rfl
   have hw2 : wr.cell? ⟨gw, 2, none⟩ = some (.bool v.b2) := (blk_cell hw 2).trans rfl
   have hw3 : wr.cell? ⟨gw, 3, none⟩ = some (.bool v.b3) := (blk_cell hw 3).trans rfl
   have hbA := below_alloc (Below.refl wr.heap.size wr) (.cells #[.bool v.b0, .bool v.b1, .bool v.b2, .bool v.b3] 141)
   have hdo : (wr.alloc (.cells #[.bool v.b0, .bool v.b1, .bool v.b2, .bool v.b3] 141)).cell? ⟨db, 0, none⟩ = some (doFn cp pbx xb pp db) := (blk_cell (HD.out.below hbA).dof 0).trans rfl
   unfold doFn at hdo
   have HDA := Lib.hid (HD.out.below hbA)
   have HKA := Lib.hid (HK.out.below hbA)
   have HWA := Lib.hid (blk_below HW.out hbA)
   clear hw hbA HD HK HW
   go_wp2_with fail
   refine (HREC1.out _ HDA.out).mono ?_
   rintro e w20 ⟨he, hD20, hK20⟩
   unfold retNone at he
   subst he
   have HD20 := Lib.hid hD20
   have HW20 := Lib.hid (hK20.keep _ _ _ (.inl rfl) HWA.out)
   have HK20 := Lib.hid (HKA.out.trans hK20)
   clear hD20 hK20 HDA HKA HWA hdo
   go_wp2
   go_roundw
   case rel => exact ⟨.inr (⟨by go_num, HD20⟩), HW20, HK20⟩
   case measure => simp [intOf]
  ·go_wp2
   go_end0
   exact ⟨rfl, HD.out, HK.out⟩

set_option maxRecDepth 100000 in
set_option maxHeartbeats 8000000 in
theorem do_two (ac : Bool) (at_ gw_ gc_ : Int) (n : Nat) (v : W4) (W : World) (p : S103) (hpp : st.pieces.getD n z103 = p) (hn : n < st.pieces.length) (hD : DSt w0 cb mb a0 a1 a2 A c l cp pbx xb pp db st W) (u : W4) (a b : S103) (hat : 0 ≤ at_ ∧ at_ ≤ 8) (hparts : partsOf ac p at_ a2 = [a, b]) (hm : st.pieces.length ≤ 1000000) (hcm : st.cuts.length ≤ 1000000) (hbc : ∀ V, CInv w0 cb mb a0 a1 a2 A c l V → Calls Try.prog 65 #[.pointer (some ⟨cb, 0, none⟩), .agg #[.int .i64 p.f0, .int .i64 p.f1, .int .i64 p.f2, .int .i64 p.f3, .bool v.b0, .bool v.b1, .bool v.b2, .bool v.b3]] V fun e W' => e = .returned (.agg #[.int .i64 gw_, .int .i64 gc_, .int .i64 (-1), .bool true, .int .i64 0, .bool ac, .int .i64 at_, .bool u.b0, .bool u.b1, .bool u.b2, .bool u.b3]) ∧ CInv w0 cb mb a0 a1 a2 A c l W' ∧ Fr (fun i => i = mb) V W')
  (F1 F : PSt) (hrec1 : ∀ V, DSt w0 cb mb a0 a1 a2 A c l cp pbx xb pp db ⟨st.pieces ++ [a, b], st.cuts ++ [⟨n, ac, at_⟩], st.uses⟩ V → Calls Try.prog 64 #[.int .i64 st.pieces.length, .agg #[.bool u.b0, .bool u.b1, .bool u.b2, .bool u.b3], .pointer (some ⟨cp, 0, none⟩), .pointer (some ⟨pbx, 0, none⟩), .pointer (some ⟨xb, 0, none⟩), .pointer (some ⟨pp, 0, none⟩), .pointer (some ⟨db, 0, none⟩)] V fun e W' => retNone e ∧ DSt w0 cb mb a0 a1 a2 A c l cp pbx xb pp db F1 W' ∧ Kp V W') (hrec2 : ∀ V, DSt w0 cb mb a0 a1 a2 A c l cp pbx xb pp db F1 V → Calls Try.prog 64 #[.int .i64 (↑st.pieces.length + 1), .agg #[.bool (v.less u).b0, .bool (v.less u).b1, .bool (v.less u).b2, .bool (v.less u).b3], .pointer (some ⟨cp, 0, none⟩), .pointer (some ⟨pbx, 0, none⟩), .pointer (some ⟨xb, 0, none⟩), .pointer (some ⟨pp, 0, none⟩), .pointer (some ⟨db, 0, none⟩)] V fun e W' => retNone e ∧ DSt w0 cb mb a0 a1 a2 A c l cp pbx xb pp db F W' ∧ Kp V W') : Calls Try.prog 64 #[.int .i64 n, .agg #[.bool v.b0, .bool v.b1, .bool v.b2, .bool v.b3], .pointer (some ⟨cp, 0, none⟩), .pointer (some ⟨pbx, 0, none⟩), .pointer (some ⟨xb, 0, none⟩), .pointer (some ⟨pp, 0, none⟩), .pointer (some ⟨db, 0, none⟩)] W fun e W' => retNone e ∧ DSt w0 cb mb a0 a1 a2 A c l cp pbx xb pp db F W' ∧ Kp W W' := by
 have HPA := Lib.hid hparts
 clear hparts
 have HREC1 := Lib.hid hrec1
 clear hrec1
 have HREC2 := Lib.hid hrec2
 clear hrec2
 obtain ⟨R, rc, hr1, hr2⟩ := hD.row
 have hi0 : (0 : Int) ≤ (n : Int) := by omega
 have hi1 : (n : Int) < (st.pieces.length : Int) := by omega
 obtain ⟨-, -, hCC⟩ := Kd.R_reads' (own_R103 (ok := fun _ => True) hr2 (fun _ _ => trivial))
 obtain ⟨ad, hA, hz0, hz1, hz2, hz3⟩ := at_T103 hCC (n : Int) hi0 hi1
 subst hA
 simp only [Int.toNat_natCast] at hz0 hz1 hz2 hz3
 have hpe : rd_T103 st.pieces (n : Int) = st.pieces.getD n z103 := by simp [rd_T103]
 rw [hpe, hpp] at hz0 hz1 hz2 hz3
 have hb1 := below_alloc (Below.refl W.heap.size W) (.cells #[.bool v.b0, .bool v.b1, .bool v.b2, .bool v.b3] 141)
 have hP1 : (W.alloc (.cells #[.bool v.b0, .bool v.b1, .bool v.b2, .bool v.b3] 141)).heap[W.heap.size]? = some (.cells #[.bool v.b0, .bool v.b1, .bool v.b2, .bool v.b3] 141 (0, 0)) := alloc_at rfl
 have hK1 : Kp W (W.alloc (.cells #[.bool v.b0, .bool v.b1, .bool v.b2, .bool v.b3] 141)) := (Kp.refl W).below hb1
 have hD1 := hD.below hb1
 replace hz0 := pw_cell_below hb1 hz0
 replace hz1 := pw_cell_below hb1 hz1
 replace hz2 := pw_cell_below hb1 hz2
 replace hz3 := pw_cell_below hb1 hz3
 replace hr1 := blk_below hr1 hb1
 replace hr2 := pw_own_below hr2 hb1
 have HD1 := Lib.hid hD1
 have HP1 := Lib.hid hP1
 have HK1 := Lib.hid hK1
 have HR1 := Lib.hid hr1
 have HR2 := Lib.hid hr2
 have HPP := Lib.hid hpp
 have HBC := Lib.hid hbc
 clear hpe hCC hpp hbc hD hD1 hP1 hK1 hr1 hr2
 go_enter Try.func64, Try.ntmps64
 go_wp2
 obtain ⟨W1, hWe⟩ : ∃ W1, W.alloc (.cells #[.bool v.b0, .bool v.b1, .bool v.b2, .bool v.b3] 141) = W1 := ⟨_, rfl⟩
 have hwl : W.heap.size + 1 ≤ W1.heap.size := by rw [← hWe]; simp
 rw [hWe] at HD1 HP1 HK1 HR1 HR2 hz0 hz1 hz2 hz3 hb1 ⊢
 clear hWe
 have hS : ∀ V, Fr (fun i => i = mb) W1 V → V.cell? ⟨cp, 0, none⟩ = some (.pointer (some ⟨cb, 0, none⟩)) ∧ V.cell? ⟨pbx, 0, none⟩ = some (.slice (some ad) st.pieces.length rc) ∧ V.cell? (ad.add (n * 4)) = some (.int .i64 p.f0) ∧ V.cell? ⟨(ad.add (n * 4)).block, (ad.add (n * 4)).off + 1, none⟩ = some (.int .i64 p.f1) ∧ V.cell? ⟨(ad.add (n * 4)).block, (ad.add (n * 4)).off + 2, none⟩ = some (.int .i64 p.f2) ∧ V.cell? ⟨(ad.add (n * 4)).block, (ad.add (n * 4)).off + 3, none⟩ = some (.int .i64 p.f3) ∧ V.cell? ⟨W.heap.size, 0, none⟩ = some (.bool v.b0) ∧ V.cell? ⟨W.heap.size, 1, none⟩ = some (.bool v.b1) ∧ V.cell? ⟨W.heap.size, 2, none⟩ = some (.bool v.b2) ∧ V.cell? ⟨W.heap.size, 3, none⟩ = some (.bool v.b3) := fun V hV => by
  obtain ⟨es, hm, _⟩ := HD1.out.ci.map
  obtain ⟨cells, hrc⟩ := own_typed HR2.out ad.block rfl
  have hne1 : cp ≠ mb := fun e => hm.ne_cells HD1.out.cpt e.symm
  have hne2 : pbx ≠ mb := fun e => hm.ne_cells HR1.out e.symm
  have hne3 : ∀ n, (ad.add n).block ≠ mb := fun n => by rw [add_block]; exact fun e => hm.ne_cells hrc e.symm
  have hne4 : W.heap.size ≠ mb := fun e => hm.ne_cells HP1.out e.symm
  exact ⟨(blk_cell (blk_fr HD1.out.cpt hV hne1) 0).trans rfl, (blk_cell (blk_fr HR1.out hV hne2) 0).trans rfl, cell_fr hV hz0 (hne3 _), cell_fr hV hz1 (hne3 _), cell_fr hV hz2 (hne3 _), cell_fr hV hz3 (hne3 _), (blk_cell (blk_fr HP1.out hV hne4) 0).trans rfl, (blk_cell (blk_fr HP1.out hV hne4) 1).trans rfl, (blk_cell (blk_fr HP1.out hV hne4) 2).trans rfl, (blk_cell (blk_fr HP1.out hV hne4) 3).trans rfl⟩
 have HS := Lib.hid hS
 have hci := HD1.out.ci.below (below_drew1 (Below.refl W1.heap.size W1))
 have hf : Fr (fun i => i = mb) W1 W1.drew := Fr.of_below (below_drew1 (Below.refl W1.heap.size W1))
 have hmb := HD1.out.ci.mlt
 clear hS
 refine s_ 10 (fun w' => w'.cell? ⟨cp, 0, none⟩ = some (.pointer (some ⟨cb, 0, none⟩)) ∧ w'.cell? ⟨pbx, 0, none⟩ = some (.slice (some ad) st.pieces.length rc) ∧ w'.cell? (ad.add (n * 4)) = some (.int .i64 p.f0) ∧ w'.cell? ⟨(ad.add (n * 4)).block, (ad.add (n * 4)).off + 1, none⟩ = some (.int .i64 p.f1) ∧ w'.cell? ⟨(ad.add (n * 4)).block, (ad.add (n * 4)).off + 2, none⟩ = some (.int .i64 p.f2) ∧ w'.cell? ⟨(ad.add (n * 4)).block, (ad.add (n * 4)).off + 3, none⟩ = some (.int .i64 p.f3) ∧ w'.cell? ⟨W.heap.size, 0, none⟩ = some (.bool v.b0) ∧ w'.cell? ⟨W.heap.size, 1, none⟩ = some (.bool v.b1) ∧ w'.cell? ⟨W.heap.size, 2, none⟩ = some (.bool v.b2) ∧ w'.cell? ⟨W.heap.size, 3, none⟩ = some (.bool v.b3)) [9] (HS.out _ hf) (fun hHeld => ?_)
 refine pa_ 2 #[false, false, true, false, false, false, false, false, false, false] (some 15) ?_
 refine ta_ 0 #[true, false, true, false, false, false, false, false, false, false] (some 13) hHeld ?_
 refine ta_ 1 #[true, true, true, false, false, false, false, false, false, false] (some 14) hHeld ?_
 refine pa_ 3 #[true, true, true, true, false, false, false, false, false, false] (some 16) ?_
 refine ta_ 4 #[true, true, true, true, true, false, false, false, false, false] (some 17) hHeld ?_
 refine ta_ 5 #[true, true, true, true, true, true, false, false, false, false] (some 18) hHeld ?_
 refine pa_ 6 #[true, true, true, true, true, true, true, false, false, false] (some 19) ?_
 refine join_ (σ := Nat) 1 #[true, true, true, true, true, true, true, true, true, false] (fun s => [(20, .agg #[.int .i64 gw_, .int .i64 gc_, .int .i64 (-1), .bool true, .int .i64 0, .bool ac, .int .i64 at_, .bool u.b0, .bool u.b1, .bool u.b2, .bool u.b3]), (9, .pointer (some ⟨s, 0, none⟩))]) (fun s w' => w'.heap[s]? = some (.cells #[.int .i64 0, .int .i64 0, .int .i64 0, .bool false, .int .i64 0, .bool false, .int .i64 0, .bool false, .bool false, .bool false, .bool false] 146 (0, 0)) ∧ W1.heap.size ≤ s ∧ CInv w0 cb mb a0 a1 a2 A c l w' ∧ Fr (fun i => i = mb) W1 w') ?_ ?_
 rotate_left
 ·intro hCont
  refine two_ (i := 7) (j := 8) (Ni := some 20) (Nj := some 9) #[true, true, true, true, true, true, true, true, false, false] #[true, true, true, true, true, true, true, false, true, false] rfl rfl rfl rfl (by kernel_rfl) (by decide) (by decide) (fun K hK => ?_) (fun K hK => ?_)
  ·skip
   refine goes_ Try.func65 (by kernel_rfl) rfl #[.pointer (some ⟨cb, 0, none⟩), .agg #[.int .i64 p.f0, .int .i64 p.f1, .int .i64 p.f2, .int .i64 p.f3, .bool v.b0, .bool v.b1, .bool v.b2, .bool v.b3]] (by rfl) rfl rfl (by simp only [List.map_toArray, List.map_cons, List.map_nil]; rfl) ?_
   with_reducible refine (HBC.out _ hci).mono ?_
   rintro e V7 ⟨rfl, hc7, hfr⟩
   clear hci
   have hci := hc7
   clear hc7
   replace hf := hf.trans hfr
   clear hfr
   refine ⟨_, rfl, ?_⟩
   refine hK.out _ _ (HS.out _ hf) (fun hHeld => ?_)
   clear hK K
   refine n_ ?_
   refine ea_ 8 #[true, true, true, true, true, true, true, true, true, false] (some 9) (fun K hK => ?_)
   refine pbox_ (.cells #[.int .i64 0, .int .i64 0, .int .i64 0, .bool false, .int .i64 0, .bool false, .int .i64 0, .bool false, .bool false, .bool false, .bool false] 146 (0, 0)) (by rfl) rfl ?_ ?_
   ·first | (go_simp; done) | (go_simp; rfl)
   intro g10 V8 hg10 hl10 hs
   replace hl10 : W1.heap.size ≤ g10 := by have := hf.size; omega
   replace hci := hci.below hs
   replace hf := hf.trans (Fr.of_below hs)
   clear hs
   refine hK.out _ _ (HS.out _ hf) (fun hHeld => ?_)
   clear hK K
   refine n_ ?_
   exact m_ (hCont g10 _ ⟨hg10, hl10, hci, hf⟩)
  ·skip
   refine pbox_ (.cells #[.int .i64 0, .int .i64 0, .int .i64 0, .bool false, .int .i64 0, .bool false, .int .i64 0, .bool false, .bool false, .bool false, .bool false] 146 (0, 0)) (by rfl) rfl ?_ ?_
   ·first | (go_simp; done) | (go_simp; rfl)
   intro g10 V8 hg10 hl10 hs
   replace hl10 : W1.heap.size ≤ g10 := by have := hf.size; omega
   replace hci := hci.below hs
   replace hf := hf.trans (Fr.of_below hs)
   clear hs
   refine hK.out _ _ (HS.out _ hf) (fun hHeld => ?_)
   clear hK K
   refine n_ ?_
   refine ea_ 7 #[true, true, true, true, true, true, true, true, true, false] (some 20) (fun K hK => ?_)
   refine goes_ Try.func65 (by kernel_rfl) rfl #[.pointer (some ⟨cb, 0, none⟩), .agg #[.int .i64 p.f0, .int .i64 p.f1, .int .i64 p.f2, .int .i64 p.f3, .bool v.b0, .bool v.b1, .bool v.b2, .bool v.b3]] (by rfl) rfl rfl (by simp only [List.map_toArray, List.map_cons, List.map_nil]; rfl) ?_
   with_reducible refine (HBC.out _ hci).mono ?_
   rintro e V7 ⟨rfl, hc7, hfr⟩
   replace hg10 := blk_fr hg10 hfr (by omega)
   clear hci
   have hci := hc7
   clear hc7
   replace hf := hf.trans hfr
   clear hfr
   refine ⟨_, rfl, ?_⟩
   refine hK.out _ _ (HS.out _ hf) (fun hHeld => ?_)
   clear hK K
   refine n_ ?_
   exact m_ (hCont g10 _ ⟨hg10, hl10, hci, hf⟩)
 clear hHeld hci hf
 rintro g10 V9 ⟨hg10, hl10, hci, hf⟩
 have hHeld := HS.out _ hf
 refine m_ ?_
 refine la_ 9 #[true, true, true, true, true, true, true, true, true, true] none (fun K hK => ?_)
 have hk_ := cf11 hg10
 refine skip_ (w1 := ?_) (by rfl) rfl ?_ ?_
 rotate_left
 ·go_simp
  rfl
 refine hK.out _ _ ?_
 clear hK K
 refine done_ (by kernel_rfl) ?_
 have hG10 := put11_blk hg10 (.int .i64 gw_) (.int .i64 gc_) (.int .i64 (-1)) (.bool true) (.int .i64 0) (.bool ac) (.int .i64 at_) (.bool u.b0) (.bool u.b1) (.bool u.b2) (.bool u.b3)
 have hfr10 := put11_fr V9 g10 (.int .i64 gw_) (.int .i64 gc_) (.int .i64 (-1)) (.bool true) (.int .i64 0) (.bool ac) (.int .i64 at_) (.bool u.b0) (.bool u.b1) (.bool u.b2) (.bool u.b3)
 obtain ⟨V10, hWe⟩ : ∃ V10, put11 V9 g10 (.int .i64 gw_) (.int .i64 gc_) (.int .i64 (-1)) (.bool true) (.int .i64 0) (.bool ac) (.int .i64 at_) (.bool u.b0) (.bool u.b1) (.bool u.b2) (.bool u.b3) = V10 := ⟨_, rfl⟩
 rw [hWe] at hG10 hfr10
 unfold put11 at hWe
 rw [hWe]
 clear hWe hHeld hk_
 have hf10 : Fr (fun i => i = mb) W1 V10 := hf.trans' hfr10 (fun i hi e => by omega)
 have hcb := blk_lt HD1.out.ci.blk
 have hw0 := HD1.out.ci.old.size
 have hci10 := hci.fr hfr10 (by omega) (by omega) (fun k e => by omega)
 have HD10 := Lib.hid (HD1.out.fr hf10 hci10 (fun k e => .inl e))
 have HK10 : Hid (Kp W V10) := Lib.hid (HK1.out.fr hf10 (fun i cells t ht hi e => by
  obtain ⟨es, hm, _⟩ := HD1.out.ci.map
  exact hm.ne_cells (HK1.out.keep i cells t ht hi) e.symm))
 have hP10 := blk_fr HP1.out hf10 (fun e => by
  obtain ⟨es, hm, _⟩ := HD1.out.ci.map
  exact hm.ne_cells HP1.out e.symm)
 have hs10 := hf10.size
 have HG10 := Lib.hid hG10
 have HP10 := Lib.hid hP10
 clear hG10 hP10 hf10 hfr10 hci10 hci hf hg10 HS HD1 HK1 HP1 HR1 HR2 HBC hz0 hz1 hz2 hz3 hb1 hcb hi0 hi1
 obtain ⟨i0, hinf, hq0, hq1, hq2⟩ := info_parts infoS112
 obtain ⟨Q, qc, U, uc, hp1, hp2, hp3⟩ := HD10.out.pln
 have hG := HG10.out
 have hg0 : (V10).cell? ⟨g10, 0, none⟩ = some (.int .i64 gw_) := (blk_cell hG 0).trans rfl
 have hg1 : (V10).cell? ⟨g10, 1, none⟩ = some (.int .i64 gc_) := (blk_cell hG 1).trans rfl
 have hg2 : (V10).cell? ⟨g10, 2, none⟩ = some (.int .i64 (-1)) := (blk_cell hG 2).trans rfl
 have hg3 : (V10).cell? ⟨g10, 3, none⟩ = some (.bool true) := (blk_cell hG 3).trans rfl
 have hg4 : (V10).cell? ⟨g10, 4, none⟩ = some (.int .i64 0) := (blk_cell hG 4).trans rfl
 have hg5 : (V10).cell? ⟨g10, 5, none⟩ = some (.bool ac) := (blk_cell hG 5).trans rfl
 have hg6 : (V10).cell? ⟨g10, 6, none⟩ = some (.int .i64 at_) := (blk_cell hG 6).trans rfl
 have hg7 : (V10).cell? ⟨g10, 7, none⟩ = some (.bool u.b0) := (blk_cell hG 7).trans rfl
 have hg8 : (V10).cell? ⟨g10, 8, none⟩ = some (.bool u.b1) := (blk_cell hG 8).trans rfl
 have hg9 : (V10).cell? ⟨g10, 9, none⟩ = some (.bool u.b2) := (blk_cell hG 9).trans rfl
 have hg10 : (V10).cell? ⟨g10, 10, none⟩ = some (.bool u.b3) := (blk_cell hG 10).trans rfl
 have hgf4 : V10.frozen? ⟨g10, 4, none⟩ = false := blk_frozen hG 4
 have hG11 := blk_put (cs' := #[.int .i64 gw_, .int .i64 gc_, .int .i64 (-1), .bool true, .int .i64 n, .bool ac, .int .i64 at_, .bool u.b0, .bool u.b1, .bool u.b2, .bool u.b3]) hG 4 (.int .i64 n) rfl
 have hfr11 : Fr (fun k => k = g10) V10 (V10.setCell ⟨g10, 4, none⟩ (.int .i64 n)) := by
  have st : ∀ {V : World} {j : Nat} {u : Value}, Fr (fun i => i = g10) V10 V → Fr (fun i => i = g10) V10 (V.setCell ⟨g10, j, none⟩ u) := fun h => h.set (.inl rfl)
  exact st (Fr.refl _ V10)
 have hci11 := HD10.out.ci.fr hfr11 (ne_type HD10.out.ci.blk hG (by decide)) (fun e => by
  obtain ⟨es, hm, _⟩ := HD10.out.ci.map
  exact hm.ne_cells hG e) (fun k e => by have := HD10.out.ci.old.size; have := HK10.out.size; omega)
 have hD11 := HD10.out.fr hfr11 hci11 (fun k e => .inr (.inr ⟨_, by subst e; exact hG⟩))
 have hK11 : Kp W (V10.setCell ⟨g10, 4, none⟩ (.int .i64 n)) := HK10.out.fr hfr11 (fun k cells t ht hk e => by have := blk_lt hk; omega)
 have hx11 := blk_fr hp1 hfr11 (ne_type hp1 hG (by decide))
 have ho11 := own_fr hp2 hfr11 (fun k hk e => by
  obtain ⟨cells, hcs⟩ := own_typed hp2 k hk
  exact ne_type hcs hG (by decide) e)
 have hxx0 : (V10.setCell ⟨g10, 4, none⟩ (.int .i64 n)).cell? ⟨xb, 0, none⟩ = some (.slice Q st.cuts.length qc) := (blk_cell hx11 0).trans rfl
 have hxx4 : (V10.setCell ⟨g10, 4, none⟩ (.int .i64 n)).cell? ⟨g10, 4, none⟩ = some (.int .i64 n) := (blk_cell hG11 4).trans rfl
 have hxx5 : (V10.setCell ⟨g10, 4, none⟩ (.int .i64 n)).cell? ⟨g10, 5, none⟩ = some (.bool ac) := (blk_cell hG11 5).trans rfl
 have hxx6 : (V10.setCell ⟨g10, 4, none⟩ (.int .i64 n)).cell? ⟨g10, 6, none⟩ = some (.int .i64 at_) := (blk_cell hG11 6).trans rfl
 have HG11 := Lib.hid hG11
 have HD11 := Lib.hid hD11
 have HK11 := Lib.hid hK11
 have HX11 := Lib.hid hx11
 have HP10' := Lib.hid (blk_fr HP10.out hfr11 (by omega))
 have hs11 := hfr11.size
 clear hp1 hp2 hp3 hG hG11 hfr11 hci11 hD11 hK11 hx11 HG10 HD10 HK10 HP10
 have hcl' : st.cuts.length + 1 ≤ 140737488355328 := by omega
 go_wp2_with (at_builtin; refine wpList_append_own_at _ rfl _ _ 57 rfl w0.heap.size 112 i0 _ 3 24 Try.underlying57 hinf hq0 hq1 hq2 rfl (by decide) _ _ _ rfl (ho11.alloc _) ⟨V10.heap.size, 0, none⟩ 1 1 (cc ⟨n, ac, at_⟩) rfl rfl (World.news_of_block (alloc_at (by simp))) (by simp [cc, Value.oneCell']) (by simp [maxLen]; omega) (by omega) (by have := HD11.out.ci.old.size; simp at this; simp; omega) ?_; intro v1 w12 hown1 hgrow _ hat_; obtain ⟨g1, cap1, rfl⟩ := ownsRow_succ hown1; obtain ⟨hxc, hxf, HD13, HG13, HP13, HK13, R3, rc3, hrc, HR3, HO3⟩ := app_cut HD11 HG11 HP10' HK11 HX11 ho11 hown1 hgrow; clear hgrow hat_ hown1)
 clear hxc hxf hrc hxx0 hxx4 hxx5 hxx6 ho11 hinf hq0 hq1 hq2 HD11 HG11 HP10' HK11 HX11
 obtain ⟨V13, hWe⟩ : ∃ V13, w12.setCell ⟨xb, 0, none⟩ (.slice (some ⟨g1, 0, none⟩) (st.cuts.length + 1) cap1) = V13 := ⟨_, rfl⟩
 rw [hWe] at HD13 HG13 HP13 HK13 HR3 HO3 ⊢
 clear hWe hg0 hg1 hg2 hg3 hg4 hg5 hg6 hg7 hg8 hg9 hg10 hgf4
 have hi0 : (0 : Int) ≤ (n : Int) := by omega
 have hi1 : (n : Int) < (st.pieces.length : Int) := by omega
 obtain ⟨-, -, hCC⟩ := Kd.R_reads' (own_R103 (ok := fun _ => True) HO3.out (fun _ _ => trivial))
 obtain ⟨ad3, hA, hz0, hz1, hz2, hz3⟩ := at_T103 hCC (n : Int) hi0 hi1
 subst hA
 simp only [Int.toNat_natCast] at hz0 hz1 hz2 hz3
 have hpe : rd_T103 st.pieces (n : Int) = st.pieces.getD n z103 := by simp [rd_T103]
 rw [hpe, HPP.out] at hz0 hz1 hz2 hz3
 have hG13 := HG13.out
 have hr3 := HR3.out
 have hpl3 := HD13.out.plt
 have hB : Below V13.heap.size V13 V13.drew := below_drew1 (Below.refl _ _)
 have h68 := fun W => parts_calls ac p at_ a2 W
 unfold pv at h68
 have H68 := Lib.hid h68
 have hgl := own_lt HO3.out
 have HGL := Lib.hid hgl
 clear h68 hCC hpe hgl
 refine s_ 16 (fun w' => w'.cell? ⟨pbx, 0, none⟩ = some (.slice (some ad3) st.pieces.length rc3) ∧ w'.cell? ⟨g10, 4, none⟩ = some (.int .i64 n) ∧ w'.cell? ⟨g10, 5, none⟩ = some (.bool ac) ∧ w'.cell? ⟨g10, 6, none⟩ = some (.int .i64 at_) ∧ w'.cell? (ad3.add (n * 4)) = some (.int .i64 p.f0) ∧ w'.cell? ⟨(ad3.add (n * 4)).block, (ad3.add (n * 4)).off + 1, none⟩ = some (.int .i64 p.f1) ∧ w'.cell? ⟨(ad3.add (n * 4)).block, (ad3.add (n * 4)).off + 2, none⟩ = some (.int .i64 p.f2) ∧ w'.cell? ⟨(ad3.add (n * 4)).block, (ad3.add (n * 4)).off + 3, none⟩ = some (.int .i64 p.f3) ∧ w'.cell? ⟨pp, 2, none⟩ = some (.int .i64 a2)) [14, 15] ⟨(cB hr3), (cB hG13), (cB hG13), (cB hG13), hz0, hz1, hz2, hz3, (cB hpl3)⟩ (fun hHeld => ?_)
 refine p_ 1 (some 46) ?_
 refine p_ 5 (some 50) ?_
 refine p_ 8 (some 53) ?_
 refine p_ 9 (some 54) ?_
 refine p_ 11 (some 56) ?_
 refine t_ 0 (some 45) hHeld ?_
 refine t_ 2 (some 47) hHeld ?_
 refine t_ 4 (some 49) hHeld ?_
 refine p_ 6 (some 51) ?_
 refine t_ 7 (some 52) hHeld ?_
 refine t_ 10 (some 55) hHeld ?_
 refine t_ 12 (some 57) hHeld ?_
 refine e_ 3 (some 48) (fun K hK => ?_)
 refine goes_ Try.func67 (by kernel_rfl) rfl #[.agg #[.int .i64 n, .bool ac, .int .i64 at_]] (by rfl) rfl rfl (by simp only [List.map_toArray, List.map_cons, List.map_nil]; rfl) ?_
 with_reducible refine (of_calls n ac at_ _).mono ?_
 rintro e V14 ⟨rfl, hs⟩
 replace hB := below_step hB hs
 refine ⟨_, rfl, ?_⟩
 refine hK.out _ _ (mv9 hs hHeld) (fun hHeld => ?_)
 clear hK K
 refine n_ ?_
 refine e_ 13 (some 58) (fun K hK => ?_)
 refine goes_ Try.func68 (by kernel_rfl) rfl #[dv ac, .agg #[.int .i64 p.f0, .int .i64 p.f1, .int .i64 p.f2, .int .i64 p.f3], .int .i64 at_, .int .i64 a2] (by rfl) rfl rfl (by simp only [List.map_toArray, List.map_cons, List.map_nil]; rfl) ?_
 with_reducible refine (H68.out _).mono ?_
 rintro e V15 ⟨gs, hgs1, hgs2, rfl, PA, hs⟩
 have hB14 := hB.size
 replace hB := below_step hB hs
 refine ⟨_, rfl, ?_⟩
 refine hK.out _ _ (mv9 hs hHeld) (fun hHeld => ?_)
 clear hK K
 refine n_ ?_
 refine l_ 14 (some 59) (fun K hK => ?_)
 refine goes_ Try.func66 (by kernel_rfl) rfl #[.slice (some ad3) st.pieces.length rc3, seqV gs] (by rfl) rfl rfl (by simp only [List.map_toArray, List.map_cons, List.map_nil]; rfl) ?_
 with_reducible refine (appendSeq_calls ac p at_ a2 gs w0.heap.size (some ad3) st.pieces.length rc3 st.pieces _ PA hgs2 (pw_own_below HO3.out hB) (by have := HD13.out.ci.old.size; have := hB.size; omega) hm (fun k hk => by have := HGL.out k hk; omega)).mono ?_
 rintro e V16 ⟨v16, rfl, hG16⟩
 rw [HPA.out] at hG16
 obtain ⟨A16, c16, rfl, hpc, hpf, HD17, HG17, HP17, HK17, HR17⟩ := app_row (st.pieces.length + 2) (by simp) HD13 HG13 HP13 HK13 HR3 HO3 hB hG16
 refine ⟨_, rfl, ?_⟩
 refine hK.out _ _ ?_
 clear hK K
 refine n_ ?_
 refine l_ 15 none (fun K hK => ?_)
 refine skip_ (w1 := ?_) (by rfl) rfl ?_ ?_
 rotate_left
 ·go_simp
  rfl
 refine hK.out _ _ ?_
 clear hK K
 refine done_ (by kernel_rfl) ?_
 clear hpc hpf hr3 hG13 hpl3 hz0 hz1 hz2 hz3 hHeld hs hB14 hB hgs1 hgs2 PA hG16 HD13 HG13 HP13 HK13 HR3 HO3 H68 HGL hi0 hi1
 obtain ⟨V17, hWe⟩ : ∃ V17, V16.setCell ⟨pbx, 0, none⟩ (.slice A16 (st.pieces.length + 2) c16) = V17 := ⟨_, rfl⟩
 rw [hWe] at HD17 HG17 HP17 HK17 HR17 ⊢
 clear hWe
 have hG17 := HG17.out
 have hP17 := HP17.out
 have hR17 := HR17.out
 have h69 := fun W => less_calls v u W
 unfold W4.val at h69
 have H69 := Lib.hid h69
 clear h69
 have hsub : wrap64 ((st.pieces.length : Int) + 2 - (st.pieces.length : Int)) = 2 := by rw [w64 (by omega) (by omega)]; omega
 go_wp2
 refine s_ 14 (fun w' => w'.cell? ⟨g10, 7, none⟩ = some (.bool u.b0) ∧ w'.cell? ⟨g10, 8, none⟩ = some (.bool u.b1) ∧ w'.cell? ⟨g10, 9, none⟩ = some (.bool u.b2) ∧ w'.cell? ⟨g10, 10, none⟩ = some (.bool u.b3) ∧ w'.cell? ⟨W.heap.size, 0, none⟩ = some (.bool v.b0) ∧ w'.cell? ⟨W.heap.size, 1, none⟩ = some (.bool v.b1) ∧ w'.cell? ⟨W.heap.size, 2, none⟩ = some (.bool v.b2) ∧ w'.cell? ⟨W.heap.size, 3, none⟩ = some (.bool v.b3) ∧ w'.cell? ⟨pbx, 0, none⟩ = some (.slice A16 (st.pieces.length + 2) c16)) [] ⟨(cB hG17), (cB hG17), (cB hG17), (cB hG17), (cB hP17), (cB hP17), (cB hP17), (cB hP17), (cB hR17)⟩ (fun hHeld => ?_)
 refine p_ 0 (some 60) ?_
 refine p_ 3 (some 63) ?_
 refine p_ 9 (some 69) ?_
 refine p_ 13 (some 73) ?_
 refine t_ 1 (some 61) hHeld ?_
 refine t_ 2 (some 62) hHeld ?_
 refine t_ 4 (some 64) hHeld ?_
 refine t_ 7 (some 67) hHeld ?_
 refine p_ 8 (some 68) ?_
 refine p_ 10 (some 70) ?_
 refine e_ 5 (some 65) (fun K hK => ?_)
 refine goes_ Try.func69 (by kernel_rfl) rfl #[.agg #[.bool v.b0, .bool v.b1, .bool v.b2, .bool v.b3], .agg #[.bool u.b0, .bool u.b1, .bool u.b2, .bool u.b3]] (by rfl) rfl rfl (by simp only [List.map_toArray, List.map_cons, List.map_nil]; rfl) ?_
 with_reducible refine (H69.out _).mono ?_
 rintro e V18 ⟨rfl, hs3⟩
 refine ⟨_, rfl, ?_⟩
 refine hK.out _ _ (mv9 hs3 hHeld) (fun hHeld => ?_)
 clear hK K
 refine n_ ?_
 refine e_ 6 (some 66) (fun K hK => ?_)
 refine slit_ (.cells #[.bool u.b0, .bool u.b1, .bool u.b2, .bool u.b3, .bool (v.less u).b0, .bool (v.less u).b1, .bool (v.less u).b2, .bool (v.less u).b3] 141 (0, 0)) 2 (by rfl) rfl ?_ ?_
 ·first | (go_simp; done) | (go_simp; rfl)
 intro gw V19 hgw hlw hs4
 refine hK.out _ _ (mv9 hs4 hHeld) (fun hHeld => ?_)
 clear hK K
 refine n_ ?_
 refine p_ 11 (some 71) ?_
 refine p_ 12 (some 72) ?_
 refine done_ (by kernel_rfl) ?_
 have hb19 : Below V17.heap.size V17 V19 := below_step (below_step (below_drew1 (Below.refl _ _)) hs3) hs4
 have HD19 := Lib.hid (HD17.out.below hb19)
 have HK19 := Lib.hid (HK17.out.below hb19)
 have HW19 := Lib.hid hgw
 clear hsub hs3 hs4 hb19 hgw hlw hHeld hG17 hP17 hR17 HD17 HG17 HP17 HK17 HR17 H69
 go_wp2
 go_loopw [73] (fun t wr => ((t = .int .i64 0 ∧ Hid (DSt w0 cb mb a0 a1 a2 A c l cp pbx xb pp db ⟨st.pieces ++ [a, b], st.cuts ++ [⟨n, ac, at_⟩], st.uses⟩ wr)) ∨ (t = .int .i64 1 ∧ Hid (DSt w0 cb mb a0 a1 a2 A c l cp pbx xb pp db F1 wr)) ∨ (t = .int .i64 2 ∧ Hid (DSt w0 cb mb a0 a1 a2 A c l cp pbx xb pp db F wr))) ∧ Hid (wr.heap[gw]? = some (.cells #[.bool u.b0, .bool u.b1, .bool u.b2, .bool u.b3, .bool (v.less u).b0, .bool (v.less u).b1, .bool (v.less u).b2, .bool (v.less u).b3] 141 (0, 0))) ∧ Hid (Kp W wr)) (fun t _ => 2 - (intOf t).toNat)
 case atStart => exact ⟨.inl ⟨rfl, HD19⟩, HW19, HK19⟩
 case round =>
  clear HD19 HW19 HK19
  obtain ⟨hc, HW, HK⟩ := hrel
  rcases hc with ⟨rfl, HD⟩ | ⟨rfl, HD⟩ | ⟨rfl, HD⟩
  ·have hw := HW.out
   have hw0 : wr.cell? ⟨gw, 0, none⟩ = some (.bool u.b0) := (blk_cell hw 0).trans rfl
   have hw1 : wr.cell? ⟨gw, 1, none⟩ = some (.bool u.b1) := (blk_cell hw 1).trans rfl
   have hw2 : wr.cell? ⟨gw, 2, none⟩ = some (.bool u.b2) := (blk_cell hw 2).trans rfl
   have hw3 : wr.cell? ⟨gw, 3, none⟩ = some (.bool u.b3) := (blk_cell hw 3).trans rfl
   have hbA := below_alloc (Below.refl wr.heap.size wr) (.cells #[.bool u.b0, .bool u.b1, .bool u.b2, .bool u.b3] 141)
   have hdo : (wr.alloc (.cells #[.bool u.b0, .bool u.b1, .bool u.b2, .bool u.b3] 141)).cell? ⟨db, 0, none⟩ = some (doFn cp pbx xb pp db) := (blk_cell (HD.out.below hbA).dof 0).trans rfl
   unfold doFn at hdo
   have HDA := Lib.hid (HD.out.below hbA)
   have HKA := Lib.hid (HK.out.below hbA)
   have HWA := Lib.hid (blk_below HW.out hbA)
   clear hw hbA HD HK HW
   go_wp2_with fail
   refine (HREC1.out _ HDA.out).mono ?_
   rintro e w20 ⟨he, hD20, hK20⟩
   unfold retNone at he
   subst he
   have HD20 := Lib.hid hD20
   have HW20 := Lib.hid (hK20.keep _ _ _ (.inl rfl) HWA.out)
   have HK20 := Lib.hid (HKA.out.trans hK20)
   clear hD20 hK20 HDA HKA HWA hdo
   go_wp2
   go_roundw
   case rel => exact ⟨.inr (.inl ⟨by go_num, HD20⟩), HW20, HK20⟩
   case measure => simp [intOf]
  ·have hw := HW.out
   have hw0 : wr.cell? ⟨gw, 4, none⟩ = some (.bool (v.less u).b0) := (blk_cell hw 4).trans rfl
   have hw1 : wr.cell? ⟨gw, 5, none⟩ = some (.bool (v.less u).b1) := (blk_cell hw 5).trans rfl
   have hw2 : wr.cell? ⟨gw, 6, none⟩ = some (.bool (v.less u).b2) := (blk_cell hw 6).trans rfl
   have hw3 : wr.cell? ⟨gw, 7, none⟩ = some (.bool (v.less u).b3) := (blk_cell hw 7).trans rfl
   have hbA := below_alloc (Below.refl wr.heap.size wr) (.cells #[.bool (v.less u).b0, .bool (v.less u).b1, .bool (v.less u).b2, .bool (v.less u).b3] 141)
   have hdo : (wr.alloc (.cells #[.bool (v.less u).b0, .bool (v.less u).b1, .bool (v.less u).b2, .bool (v.less u).b3] 141)).cell? ⟨db, 0, none⟩ = some (doFn cp pbx xb pp db) := (blk_cell (HD.out.below hbA).dof 0).trans rfl
   unfold doFn at hdo
   have HDA := Lib.hid (HD.out.below hbA)
   have HKA := Lib.hid (HK.out.below hbA)
   have HWA := Lib.hid (blk_below HW.out hbA)
   clear hw hbA HD HK HW
   go_wp2_with fail
   refine (HREC2.out _ HDA.out).mono ?_
   rintro e w20 ⟨he, hD20, hK20⟩
   unfold retNone at he
   subst he
   have HD20 := Lib.hid hD20
   have HW20 := Lib.hid (hK20.keep _ _ _ (.inl rfl) HWA.out)
   have HK20 := Lib.hid (HKA.out.trans hK20)
   clear hD20 hK20 HDA HKA HWA hdo
   go_wp2
   go_roundw
   case rel => exact ⟨.inr (.inr (⟨by go_num, HD20⟩)), HW20, HK20⟩
   case measure => simp [intOf]
  ·go_wp2
   go_end0
   exact ⟨rfl, HD.out, HK.out⟩

theorem plan_calls (hl : LOk l) (hs : 0 ≤ a2 ∧ a2 ≤ 2) (hlc : l.length ≤ c) : ∀ (k n : Nat) (v : W4) (st : PSt) (W : World), n < st.pieces.length → In8 (st.pieces.getD n z103) → msr (st.pieces.getD n z103) < k → st.pieces.length + 2 ^ (msr (st.pieces.getD n z103) + 1) ≤ 1000002 → st.cuts.length ≤ st.pieces.length → st.uses.length = l.length → DSt w0 cb mb a0 a1 a2 A c l cp pbx xb pp db st W →
  Calls Try.prog 64 #[.int .i64 n, .agg #[.bool v.b0, .bool v.b1, .bool v.b2, .bool v.b3], .pointer (some ⟨cp, 0, none⟩), .pointer (some ⟨pbx, 0, none⟩), .pointer (some ⟨xb, 0, none⟩), .pointer (some ⟨pp, 0, none⟩), .pointer (some ⟨db, 0, none⟩)] W fun e W' => retNone e ∧ DSt w0 cb mb a0 a1 a2 A c l cp pbx xb pp db (planF l a2 k n v st) W' ∧ Kp W W' := by
 intro k
 induction k with
 | zero => intro n v st W _ _ h; omega
 | succ k ih =>
  intro n v st W hn hp hk hbud hcut huse hD
  have hbc : ∀ V, CInv w0 cb mb a0 a1 a2 A c l V → Calls Try.prog 65 #[.pointer (some ⟨cb, 0, none⟩), .agg #[.int .i64 (st.pieces.getD n z103).f0, .int .i64 (st.pieces.getD n z103).f1, .int .i64 (st.pieces.getD n z103).f2, .int .i64 (st.pieces.getD n z103).f3, .bool v.b0, .bool v.b1, .bool v.b2, .bool v.b3]] V (BEnd w0 cb mb a0 a1 a2 A c l (st.pieces.getD n z103) v V) := fun V hV => best_calls hs hl.len hlc (msr (st.pieces.getD n z103) + 1) _ v V hp (Nat.lt_succ_self _) hV
  have hp2 := pow2_pos (msr (st.pieces.getD n z103))
  have hpd : 2 ^ (msr (st.pieces.getD n z103) + 1) = 2 * 2 ^ msr (st.pieces.getD n z103) := by rw [Nat.pow_succ]; omega
  unfold BEnd at hbc
  rcases best_cases hl hs hp v with h | ⟨i, x, h1, h3, h4, h⟩ | ⟨ac, at_, a, c1, c2, c3, c4, c5, c6, h⟩ | ⟨ac, at_, a, b, u, c1, c2, c3, c4, c5, c6, c7, c8, c9, h⟩
  ·rw [planF_none h]
   rw [h] at hbc
   exact do_none n v W _ rfl hn hD hbc
  ·rw [planF_use h]
   rw [h] at hbc
   exact do_use i x n v W _ rfl hn hD (by rw [huse]; exact (List.getElem?_eq_some_iff.1 h1).1) hbc
  ·rw [planF_one h c3]
   rw [h] at hbc
   have e1 := getD_at st.pieces a []
   have := pow2_lt c6
   exact do_one ac at_ _ _ n v W _ rfl hn hD a ⟨c1, c2⟩ c3 (by omega) (by omega) hbc _ (fun V hV => ih st.pieces.length v ⟨st.pieces ++ [a], st.cuts ++ [⟨n, ac, at_⟩], st.uses⟩ V (by simp) (by rw [e1]; exact c5) (by rw [e1]; omega) (by rw [e1]; simp; omega) (by simp; omega) huse hV)
  ·rw [planF_two h c3]
   rw [h] at hbc
   have e1 := getD_at st.pieces a [b]
   have e2 := getD_at1 st.pieces a b
   have := pow2_lt c7
   have := pow2_lt c9
   obtain ⟨g1, g2, g3, g4⟩ := planF_grows hl hs k st.pieces.length u ⟨st.pieces ++ [a, b], st.cuts ++ [⟨n, ac, at_⟩], st.uses⟩ (by simp) (by rw [e1]; exact c6)
   rw [e1] at g2
   have hl2 := g1.length_le
   simp only [List.length_append, List.length_cons, List.length_nil] at g2 g4 hl2
   refine do_two ac at_ _ _ n v W _ rfl hn hD u a b ⟨c1, c2⟩ c3 (by omega) (by omega) hbc _ _ (fun V hV => ih st.pieces.length u ⟨st.pieces ++ [a, b], st.cuts ++ [⟨n, ac, at_⟩], st.uses⟩ V (by simp) (by rw [e1]; exact c6) (by rw [e1]; omega) (by rw [e1]; simp; omega) (by simp; omega) huse hV) (fun V hV => ?_)
   have e3 : (planF l a2 k st.pieces.length u ⟨st.pieces ++ [a, b], st.cuts ++ [⟨n, ac, at_⟩], st.uses⟩).pieces.getD (st.pieces.length + 1) z103 = b := by rw [getD_pre g1 (by simp), e2]
   have := ih (st.pieces.length + 1) (v.less u) _ V (by omega) (by rw [e3]; exact c8) (by rw [e3]; omega) (by rw [e3]; omega) (g4 (by omega)) (g3.trans huse) hV
   simp only [Int.natCast_add, Int.cast_ofNat_Int] at this
   exact this

end
end Go.Proofs.Ytffjbaknglemdaa.X
