import Derived.Test.YtffjbaknglemdaaHK3a
namespace Go.Proofs.Ytffjbaknglemdaa.X
open Go.RowKit Go.Maps Go.Proofs.YtffjbaknglemdaaW.PrintWords Go.Proofs.YtffjbaknglemdaaW.PrintLast Go.Proofs.YtffjbaknglemdaaW.PrintMore
set_option linter.unusedSimpArgs false
set_option linter.unusedVariables false

/-! ### the cutter's memory -/
structure CInv (w0 : World) (cb mb : Nat) (a0 a1 a2 : Int) (A : Option Addr) (c : Nat) (l : List S115) (W : World) : Prop where
 blk : W.heap[cb]? = some (.cells #[.int .i64 a0, .int .i64 a1, .int .i64 a2, .slice A l.length c, .map (some mb)] 139 (0, 0))
 map : ∃ es, AMap W mb 149 es ∧ ∀ e ∈ es, ∃ p v, In8 p ∧ e.key = stateV p v ∧ e.val = stpV (bestP l a2 p v)
 old : Below w0.heap.size w0 W
 cb0 : w0.heap.size ≤ cb
 mb0 : w0.heap.size ≤ mb
 row : Kd.C k115 w0 A l.length l
theorem own_fr {S : Nat → Prop} {W W' : World} {base : Nat} {e : TypeId} {size n : Nat} {v : Value} {xs : List Value} (h : W.ownsRow base e size v n xs) (hf : Fr S W W') (hs : ∀ k, v.ownBlock = some k → ¬ S k) : W'.ownsRow base e size v n xs := by
 obtain ⟨h1, h2⟩ := h
 refine ⟨h1, ?_⟩
 rcases h2 with h2 | ⟨g, cap, cur, rfl, hg, hh, r⟩
 ·exact .inl h2
 ·exact .inr ⟨g, cap, cur, rfl, hg, blk_fr hh hf (hs g rfl), r⟩
theorem cell_fr {mb : Nat} {W W' : World} (h : Fr (fun i => i = mb) W W') {a : Addr} {v : Value} (hc : W.cell? a = some v) (hne : a.block ≠ mb) : W'.cell? a = some v := by
 have hg : W.grownBy W' (some mb) := ⟨h.os, h.tape, h.output, h.size, fun k hk hn => h.block k hk (fun e => hn (by rw [e]))⟩
 rw [hg.cell_far a (World.block_lt_of_cell? W a hc) (by simpa using hne)]
 exact hc
theorem add_block (a : Addr) (n : Nat) : (a.add n).block = a.block := by
 first | rfl | (unfold Addr.add; rfl) | (unfold Addr.add; split <;> rfl)
def put11 (W : World) (g : Nat) (v0 v1 v2 v3 v4 v5 v6 v7 v8 v9 v10 : Value) : World :=
 ((((((((((W.setCell ⟨g, 0, none⟩ v0).setCell ⟨g, 1, none⟩ v1).setCell ⟨g, 2, none⟩ v2).setCell ⟨g, 3, none⟩ v3).setCell ⟨g, 4, none⟩ v4).setCell ⟨g, 5, none⟩ v5).setCell ⟨g, 6, none⟩ v6).setCell ⟨g, 7, none⟩ v7).setCell ⟨g, 8, none⟩ v8).setCell ⟨g, 9, none⟩ v9).setCell ⟨g, 10, none⟩ v10
theorem put11_blk {W : World} {g : Nat} {z0 z1 z2 z3 z4 z5 z6 z7 z8 z9 z10 : Value} {t : TypeId} (h : W.heap[g]? = some (.cells #[z0, z1, z2, z3, z4, z5, z6, z7, z8, z9, z10] t (0, 0))) (v0 v1 v2 v3 v4 v5 v6 v7 v8 v9 v10 : Value) :
  (put11 W g v0 v1 v2 v3 v4 v5 v6 v7 v8 v9 v10).heap[g]? = some (.cells #[v0, v1, v2, v3, v4, v5, v6, v7, v8, v9, v10] t (0, 0)) := by
 unfold put11
 have h0 := blk_put (cs' := #[v0, z1, z2, z3, z4, z5, z6, z7, z8, z9, z10]) h 0 v0 rfl
 have h1 := blk_put (cs' := #[v0, v1, z2, z3, z4, z5, z6, z7, z8, z9, z10]) h0 1 v1 rfl
 have h2 := blk_put (cs' := #[v0, v1, v2, z3, z4, z5, z6, z7, z8, z9, z10]) h1 2 v2 rfl
 have h3 := blk_put (cs' := #[v0, v1, v2, v3, z4, z5, z6, z7, z8, z9, z10]) h2 3 v3 rfl
 have h4 := blk_put (cs' := #[v0, v1, v2, v3, v4, z5, z6, z7, z8, z9, z10]) h3 4 v4 rfl
 have h5 := blk_put (cs' := #[v0, v1, v2, v3, v4, v5, z6, z7, z8, z9, z10]) h4 5 v5 rfl
 have h6 := blk_put (cs' := #[v0, v1, v2, v3, v4, v5, v6, z7, z8, z9, z10]) h5 6 v6 rfl
 have h7 := blk_put (cs' := #[v0, v1, v2, v3, v4, v5, v6, v7, z8, z9, z10]) h6 7 v7 rfl
 have h8 := blk_put (cs' := #[v0, v1, v2, v3, v4, v5, v6, v7, v8, z9, z10]) h7 8 v8 rfl
 have h9 := blk_put (cs' := #[v0, v1, v2, v3, v4, v5, v6, v7, v8, v9, z10]) h8 9 v9 rfl
 have h10 := blk_put (cs' := #[v0, v1, v2, v3, v4, v5, v6, v7, v8, v9, v10]) h9 10 v10 rfl
 exact h10
theorem put11_fr (W : World) (g : Nat) (v0 v1 v2 v3 v4 v5 v6 v7 v8 v9 v10 : Value) : Fr (fun i => i = g) W (put11 W g v0 v1 v2 v3 v4 v5 v6 v7 v8 v9 v10) := by
 unfold put11
 have st : ∀ {V : World} {j : Nat} {u : Value}, Fr (fun i => i = g) W V → Fr (fun i => i = g) W (V.setCell ⟨g, j, none⟩ u) := fun h => h.set (.inl rfl)
 exact st (st (st (st (st (st (st (st (st (st (st (Fr.refl _ W)))))))))))
theorem below_fr {base : Nat} {W W' : World} (h : Below base W W') : Fr (fun k => base ≤ k) W W' := ⟨h.os, h.tape, h.output, h.size, fun k _ hn => h.block k (by omega)⟩
section
variable {w0 : World} {cb mb : Nat} {a0 a1 a2 : Int} {A : Option Addr} {c : Nat} {l : List S115}
theorem AMap.fr {S : Nat → Prop} {w w' : World} {b : Nat} {k : TypeId} {es : List MapEntry} (h : AMap w b k es) (hb : Fr S w w') (hs : ¬ S b) : AMap w' b k es := by
 obtain ⟨cl, h1⟩ := h.blk; exact ⟨⟨cl, blk_fr h1 hb hs⟩, h.keys⟩
theorem CInv.mlt {W : World} (h : CInv w0 cb mb a0 a1 a2 A c l W) : mb < W.heap.size := by obtain ⟨es, h1, _⟩ := h.map; exact h1.lt
theorem CInv.ne {W : World} (h : CInv w0 cb mb a0 a1 a2 A c l W) : cb ≠ mb := by
 obtain ⟨es, h1, _⟩ := h.map
 exact fun e => h1.ne_cells h.blk e.symm
theorem CInv.fr {S : Nat → Prop} {W W' : World} (h : CInv w0 cb mb a0 a1 a2 A c l W) (hf : Fr S W W') (h1 : ¬ S cb) (h2 : ¬ S mb) (h3 : ∀ k, S k → w0.heap.size ≤ k) : CInv w0 cb mb a0 a1 a2 A c l W' := by
 obtain ⟨es, hm, he⟩ := h.map
 exact ⟨blk_fr h.blk hf h1, ⟨es, hm.fr hf h2, he⟩, h.old.trans (hf.below h.old.size h3), h.cb0, h.mb0, h.row⟩
theorem CInv.below {W W' : World} (h : CInv w0 cb mb a0 a1 a2 A c l W) (hb : Below W.heap.size W W') : CInv w0 cb mb a0 a1 a2 A c l W' :=
 h.fr (below_fr hb) (by have := blk_lt h.blk; omega) (by have := h.mlt; omega) (fun k hk => Nat.le_trans h.old.size hk)
/-- The list of what is wanted, as it lies now. -/
theorem CInv.list {W : World} (h : CInv w0 cb mb a0 a1 a2 A c l W) : Kd.C k115 W A l.length l := Kd.C_below h.row h.old
end

/-! ### what best$1 has captured -/
structure SeeI (w0 : World) (cb mb : Nat) (a0 a1 a2 : Int) (A : Option Addr) (c : Nat) (l : List S115) (base rb sb pb ob kb lo : Nat) (R : Option Addr) (rc : Nat) (L : List S103) (p : S103) (v : W4) (k : S112) (out : Stp) (W : World) : Prop where
 ci : CInv w0 cb mb a0 a1 a2 A c l W
 row : W.heap[rb]? = some (.cells #[.slice R L.length rc] 96 (0, 0))
 own : W.ownsRow lo 103 4 (.slice R L.length rc) L.length (pcs L)
 st : W.heap[sb]? = some (.cells #[.int .i64 p.f0, .int .i64 p.f1, .int .i64 p.f2, .int .i64 p.f3, .bool v.b0, .bool v.b1, .bool v.b2, .bool v.b3] 149 (0, 0))
 ptr : W.heap[pb]? = some (.cells #[.pointer (some ⟨cb, 0, none⟩)] 136 (0, 0))
 out : W.heap[ob]? = some (.cells (stpCells out).toArray 146 (0, 0))
 cut : W.heap[kb]? = some (.cells #[.int .i64 k.f0, .bool k.f1, .int .i64 k.f2] 112 (0, 0))
 lts : cb < base ∧ mb < base ∧ rb < base ∧ sb < base ∧ pb < base ∧ ob < base ∧ kb < base ∧ w0.heap.size ≤ base
 ltr : ∀ i, (Value.slice R L.length rc).ownBlock = some i → i < base
 nes : w0.heap.size ≤ ob
theorem ne_type {W : World} {g g' : Nat} {t t' : TypeId} {cs cs' : Array Value} (h : W.heap[g]? = some (.cells cs t (0, 0))) (h' : W.heap[g']? = some (.cells cs' t' (0, 0))) (hne : t ≠ t') : g ≠ g' := blk_ne h h' hne
section
variable {w0 : World} {cb mb : Nat} {a0 a1 a2 : Int} {A : Option Addr} {c : Nat} {l : List S115} {base rb sb pb ob kb lo : Nat} {R : Option Addr} {rc : Nat} {L : List S103} {p : S103} {v : W4} {k : S112} {out : Stp}
theorem SeeI.cell_ne {W : World} (h : SeeI w0 cb mb a0 a1 a2 A c l base rb sb pb ob kb lo R rc L p v k out W) {g : Nat} {cs : Array Value} {t : TypeId} (hg : W.heap[g]? = some (.cells cs t (0, 0))) : g ≠ mb := by
 obtain ⟨es, h1, _⟩ := h.ci.map
 exact fun e => h1.ne_cells hg e.symm
theorem SeeI.own_ne_mb {W : World} (h : SeeI w0 cb mb a0 a1 a2 A c l base rb sb pb ob kb lo R rc L p v k out W) (i : Nat) (hi : (Value.slice R L.length rc).ownBlock = some i) : i ≠ mb := by
 obtain ⟨cells, hc⟩ := own_typed h.own i hi
 exact h.cell_ne hc
theorem SeeI.own_ne_ob {W : World} (h : SeeI w0 cb mb a0 a1 a2 A c l base rb sb pb ob kb lo R rc L p v k out W) (i : Nat) (hi : (Value.slice R L.length rc).ownBlock = some i) : i ≠ ob := by
 obtain ⟨cells, hc⟩ := own_typed h.own i hi
 exact ne_type hc h.out (by decide)
/-- What changes nothing of it. -/
theorem SeeI.fr {S : Nat → Prop} {W W' : World} (h : SeeI w0 cb mb a0 a1 a2 A c l base rb sb pb ob kb lo R rc L p v k out W) (hf : Fr S W W') (hs : ∀ i, S i → i = mb ∨ base ≤ i) (hc : CInv w0 cb mb a0 a1 a2 A c l W') : SeeI w0 cb mb a0 a1 a2 A c l base rb sb pb ob kb lo R rc L p v k out W' := by
 have hn : ∀ {g : Nat} {cs : Array Value} {t : TypeId}, W.heap[g]? = some (.cells cs t (0, 0)) → g < base → ¬ S g := fun hg hl hS => by
  rcases hs _ hS with e | e
  ·exact h.cell_ne hg e
  ·omega
 obtain ⟨l1, l2, l3, l4, l5, l6, l7, l8⟩ := h.lts
 exact ⟨hc, blk_fr h.row hf (hn h.row l3), own_fr h.own hf (fun i hi hS => by
  obtain ⟨cells, hcs⟩ := own_typed h.own i hi
  exact hn hcs (h.ltr i hi) hS), blk_fr h.st hf (hn h.st l4), blk_fr h.ptr hf (hn h.ptr l5), blk_fr h.out hf (hn h.out l6), blk_fr h.cut hf (hn h.cut l7), h.lts, h.ltr, h.nes⟩
theorem SeeI.below {W W' : World} (h : SeeI w0 cb mb a0 a1 a2 A c l base rb sb pb ob kb lo R rc L p v k out W) (hb : Below base W W') : SeeI w0 cb mb a0 a1 a2 A c l base rb sb pb ob kb lo R rc L p v k out W' := by
 obtain ⟨l1, l2, l3, l4, l5, l6, l7, l8⟩ := h.lts
 exact h.fr (below_fr hb) (fun i hi => .inr hi) (h.ci.fr (below_fr hb) (by omega) (by omega) (fun k hk => Nat.le_trans l8 hk))
end
section
variable {w0 : World} {cb mb : Nat} {a0 a1 a2 : Int} {A : Option Addr} {c : Nat} {l : List S115} {base rb sb pb ob kb lo : Nat} {R : Option Addr} {rc : Nat} {L : List S103} {p : S103} {v : W4} {k : S112} {out : Stp}
set_option maxRecDepth 100000 in
set_option maxHeartbeats 4000000 in
theorem see_skip (u : W4) (W : World) (hL : L.length = 1) (hu : u ≠ v) (hb : base ≤ W.heap.size) (hI : SeeI w0 cb mb a0 a1 a2 A c l base rb sb pb ob kb lo R rc L p v k out W) :
  Calls Try.prog 89 #[.agg #[.bool u.b0, .bool u.b1, .bool u.b2, .bool u.b3], .pointer (some ⟨rb, 0, none⟩), .pointer (some ⟨sb, 0, none⟩), .pointer (some ⟨pb, 0, none⟩), .pointer (some ⟨ob, 0, none⟩), .pointer (some ⟨kb, 0, none⟩)] W fun e W' => retNone e ∧ SeeI w0 cb mb a0 a1 a2 A c l base rb sb pb ob kb lo R rc L p v k out W' ∧ Fr (fun i => i = mb ∨ i = ob) W W' := by
 have hne := neW u v
 rw [decide_eq_false hu] at hne
 have hb1 := below_alloc (Below.refl W.heap.size W) (.cells #[.bool u.b0, .bool u.b1, .bool u.b2, .bool u.b3] 141)
 have hI1 := hI.below (hb1.mono hb)
 have hc1 := alloc_at (w := W) (o := (.cells #[.bool u.b0, .bool u.b1, .bool u.b2, .bool u.b3] 141)) rfl
 have hr := hI1.row
 rw [hL] at hr
 have hst := hI1.st
 have hl1 := blk_lt hI.row
 have hl2 := blk_lt hI.st
 have HI1 := Lib.hid hI1
 have HB1 := Lib.hid hb1
 have hq_ := c4 hc1
 have hx0 : (W.alloc (.cells #[.bool u.b0, .bool u.b1, .bool u.b2, .bool u.b3] 141)).cell? ⟨rb, 0, none⟩ = some (.slice R 1 rc) := (blk_cell hr 0).trans rfl
 have hy_ := c8 hst
 clear hu hI hI1 hL hc1 hr hst hb1
 go_enter Try.func89, Try.ntmps89
 go_wp2
 refine bodyPost_ret (results_none rfl _ _ _) rfl ?_
 exact ⟨rfl, HI1.out, Fr.of_below HB1.out⟩
def seeRound (sub : S103 → W4 → Stp) (v u : W4) (L : List S103) (j : Nat) (g G : Int × Int) : Prop := gains sub ((L.zip [u, v.less u]).drop j) g = G
theorem seeRound_next {sub : S103 → W4 → Stp} {v u : W4} {L : List S103} {j : Nat} {g G : Int × Int} (h : seeRound sub v u L j g G) (hj : j < L.length) (h2 : L.length ≤ 2) :
  seeRound sub v u L (j + 1) (wrap64 (g.1 + (sub (rd_T103 L (j : Int)) (if j = 0 then u else v.less u)).worth), wrap64 (g.2 + (sub (rd_T103 L (j : Int)) (if j = 0 then u else v.less u)).cuts)) G := by
 unfold seeRound at *
 have hz : (L.zip [u, v.less u]).drop j = (rd_T103 L (j : Int), if j = 0 then u else v.less u) :: (L.zip [u, v.less u]).drop (j + 1) := by
  rw [List.drop_eq_getElem_cons (by simp; omega)]
  have h01 : j = 0 ∨ j = 1 := by omega
  rcases h01 with rfl | rfl <;> simp [rd_T103, hj, List.getD_eq_getElem?_getD]
 rw [hz] at h
 exact h
theorem seeRound_end {sub : S103 → W4 → Stp} {v u : W4} {L : List S103} {g G : Int × Int} (h : seeRound sub v u L L.length g G) (h2 : L.length ≤ 2) : g = G := by
 unfold seeRound at h
 rw [List.drop_eq_nil_of_le (by simp; omega)] at h
 exact h
set_option maxRecDepth 100000 in
set_option maxHeartbeats 8000000 in
theorem see_take1 (W : World) (hL : L.length = 1) (hb : base ≤ W.heap.size) (hbest : ∀ x q W, x ∈ L → CInv w0 cb mb a0 a1 a2 A c l W → Calls Try.prog 65 #[.pointer (some ⟨cb, 0, none⟩), .agg #[.int .i64 x.f0, .int .i64 x.f1, .int .i64 x.f2, .int .i64 x.f3, .bool q.b0, .bool q.b1, .bool q.b2, .bool q.b3]] W fun e W' => e = .returned (.agg #[.int .i64 (bestP l a2 x q).worth, .int .i64 (bestP l a2 x q).cuts, .int .i64 (bestP l a2 x q).use, .bool (bestP l a2 x q).cut, .int .i64 (bestP l a2 x q).how.f0, .bool (bestP l a2 x q).how.f1, .int .i64 (bestP l a2 x q).how.f2, .bool (bestP l a2 x q).first.b0, .bool (bestP l a2 x q).first.b1, .bool (bestP l a2 x q).first.b2, .bool (bestP l a2 x q).first.b3]) ∧ CInv w0 cb mb a0 a1 a2 A c l W' ∧ Fr (fun i => i = mb) W W') (hI : SeeI w0 cb mb a0 a1 a2 A c l base rb sb pb ob kb lo R rc L p v k out W) :
  Calls Try.prog 89 #[.agg #[.bool v.b0, .bool v.b1, .bool v.b2, .bool v.b3], .pointer (some ⟨rb, 0, none⟩), .pointer (some ⟨sb, 0, none⟩), .pointer (some ⟨pb, 0, none⟩), .pointer (some ⟨ob, 0, none⟩), .pointer (some ⟨kb, 0, none⟩)] W fun e W' => retNone e ∧ SeeI w0 cb mb a0 a1 a2 A c l base rb sb pb ob kb lo R rc L p v k (see1 (bestP l a2) v L k out v) W' ∧ Fr (fun i => i = mb ∨ i = ob) W W' := by
 have hne := neW v v
 rw [decide_eq_true rfl] at hne
 simp only [Bool.not_true] at hne
 have h69 := fun W => less_calls v v W
 unfold W4.val at h69
 have H69 := Lib.hid h69
 clear h69
 have HBEST := Lib.hid hbest
 clear hbest
 obtain ⟨G, hG⟩ : ∃ G, gains (bestP l a2) (L.zip [v, v.less v]) (0, 1) = G := ⟨_, rfl⟩
 have hsee : see1 (bestP l a2) v L k out v = if better G.1 G.2 out.worth out.cuts = true then ⟨G.1, G.2, -1, true, k, v⟩ else out := by
  unfold see1; rw [if_neg (by simp [hL]), hG]
 have HSEE := Lib.hid hsee
 have HGG := Lib.hid hG
 have HLN := Lib.hid hL
 have hLe : L.length ≤ 2 := by omega
 have HLE := Lib.hid hLe
 have hb2 : Below W.heap.size W ((W.alloc (.cells #[.bool v.b0, .bool v.b1, .bool v.b2, .bool v.b3] 141)).alloc (.cells #[.int .i64 0, .int .i64 1] 144)) := below_alloc (below_alloc (Below.refl _ _) _) _
 have hP2 : ((W.alloc (.cells #[.bool v.b0, .bool v.b1, .bool v.b2, .bool v.b3] 141)).alloc (.cells #[.int .i64 0, .int .i64 1] 144)).heap[W.heap.size]? = some (.cells #[.bool v.b0, .bool v.b1, .bool v.b2, .bool v.b3] 141 (0, 0)) := blk_below (alloc_at rfl) (below_alloc (Below.refl _ _) _)
 have hQ2 : ((W.alloc (.cells #[.bool v.b0, .bool v.b1, .bool v.b2, .bool v.b3] 141)).alloc (.cells #[.int .i64 0, .int .i64 1] 144)).heap[W.heap.size + 1]? = some (.cells #[.int .i64 0, .int .i64 1] 144 (0, 0)) := alloc_at (by simp)
 have hI2 := hI.below (hb2.mono hb)
 have hI1 := hI.below ((below_alloc (Below.refl W.heap.size W) (.cells #[.bool v.b0, .bool v.b1, .bool v.b2, .bool v.b3] 141)).mono hb)
 have hP1 : (W.alloc (.cells #[.bool v.b0, .bool v.b1, .bool v.b2, .bool v.b3] 141)).heap[W.heap.size]? = some (.cells #[.bool v.b0, .bool v.b1, .bool v.b2, .bool v.b3] 141 (0, 0)) := alloc_at rfl
 have hst1 := hI1.st
 have hq_ := c4 hP1
 have hy_ := c8 hst1
 have hr1 := blk_below hI.row (below_alloc (Below.refl W.heap.size W) (.cells #[.bool v.b0, .bool v.b1, .bool v.b2, .bool v.b3] 141))
 rw [hL] at hr1
 have hx0 : (W.alloc (.cells #[.bool v.b0, .bool v.b1, .bool v.b2, .bool v.b3] 141)).cell? ⟨rb, 0, none⟩ = some (.slice R 1 rc) := (blk_cell hr1 0).trans rfl
 have HI2 := Lib.hid hI2
 have HB2 := Lib.hid hb2
 have HP2 := Lib.hid hP2
 have HQ2 := Lib.hid hQ2
 clear hsee hG hI hI2 hb2 hP2 hQ2 hr1 hL hLe hI1 hP1 hst1
 go_enter Try.func89, Try.ntmps89
 go_wp2
 clear hx0 hq_ hy_ hne
 obtain ⟨W2, hW2⟩ : ∃ W2, W2 = (W.alloc (.cells #[.bool v.b0, .bool v.b1, .bool v.b2, .bool v.b3] 141)).alloc (.cells #[.int .i64 0, .int .i64 1] 144) := ⟨_, rfl⟩
 rw [← hW2] at HI2 HB2 HP2 HQ2 ⊢
 have hz2 : W.heap.size + 2 ≤ W2.heap.size := by rw [hW2]; simp
 clear hW2
 have hrow := HI2.out.row
 rw [HLN.out] at hrow
 have hst := HI2.out.st
 have hp := HP2.out
 refine s_ 11 (fun w' => w'.cell? ⟨W.heap.size, 0, none⟩ = some (.bool v.b0) ∧ w'.cell? ⟨W.heap.size, 1, none⟩ = some (.bool v.b1) ∧ w'.cell? ⟨W.heap.size, 2, none⟩ = some (.bool v.b2) ∧ w'.cell? ⟨W.heap.size, 3, none⟩ = some (.bool v.b3) ∧ w'.cell? ⟨sb, 4, none⟩ = some (.bool v.b0) ∧ w'.cell? ⟨sb, 5, none⟩ = some (.bool v.b1) ∧ w'.cell? ⟨sb, 6, none⟩ = some (.bool v.b2) ∧ w'.cell? ⟨sb, 7, none⟩ = some (.bool v.b3) ∧ w'.cell? ⟨rb, 0, none⟩ = some (.slice R 1 rc)) [] ⟨(cB hp), (cB hp), (cB hp), (cB hp), (cB hst), (cB hst), (cB hst), (cB hst), (cB hrow)⟩ (fun hHeld => ?_)
 refine p_ 1 (some 22) ?_
 refine p_ 10 (some 31) ?_
 refine t_ 0 (some 21) hHeld ?_
 refine t_ 2 (some 23) hHeld ?_
 refine t_ 3 (some 24) hHeld ?_
 refine t_ 6 (some 27) hHeld ?_
 refine p_ 7 (some 28) ?_
 refine e_ 4 (some 25) (fun K hK => ?_)
 refine goes_ Try.func69 (by kernel_rfl) rfl #[.agg #[.bool v.b0, .bool v.b1, .bool v.b2, .bool v.b3], .agg #[.bool v.b0, .bool v.b1, .bool v.b2, .bool v.b3]] (by rfl) rfl rfl (by simp only [List.map_toArray, List.map_cons, List.map_nil]; rfl) ?_
 with_reducible refine (H69.out _).mono ?_
 rintro e W3 ⟨rfl, hs3⟩
 refine ⟨_, rfl, ?_⟩
 refine hK.out _ _ (mv9 hs3 hHeld) (fun hHeld => ?_)
 clear hK K
 refine n_ ?_
 refine e_ 5 (some 26) (fun K hK => ?_)
 refine slit_ (.cells #[.bool v.b0, .bool v.b1, .bool v.b2, .bool v.b3, .bool (v.less v).b0, .bool (v.less v).b1, .bool (v.less v).b2, .bool (v.less v).b3] 141 (0, 0)) 2 (by rfl) rfl ?_ ?_
 ·first | (go_simp; done) | (go_simp; rfl)
 intro gw W4_ hgw hlw hs4
 refine hK.out _ _ (mv9 hs4 hHeld) (fun hHeld => ?_)
 clear hK K
 refine n_ ?_
 refine p_ 8 (some 29) ?_
 refine p_ 9 (some 30) ?_
 refine done_ (by kernel_rfl) ?_
 have hb4 : Below W2.heap.size W2 W4_ := below_step (below_step (below_drew1 (Below.refl _ _)) hs3) hs4
 have hs2 := HB2.out.size
 have HI4 := Lib.hid (HI2.out.below (hb4.mono (by omega)))
 have HP4 := Lib.hid (blk_below HP2.out hb4)
 have HQ4 := Lib.hid (blk_below HQ2.out hb4)
 have HW4 := Lib.hid hgw
 have HF4 : Hid (Fr (fun i => i = mb ∨ i = ob) W W4_) := Lib.hid (Fr.of_below (below_step HB2.out hb4))
 have hbw : base ≤ W4_.heap.size := by have := hb4.size; omega
 have hlw2 : W.heap.size + 2 ≤ gw := by have := hz2; have := (below_step (below_drew1 (Below.refl W2.heap.size W2)) hs3).size; omega
 clear hs3 hs4 hz2 hgw hlw hHeld hrow hst hp HI2 HB2 HP2 HQ2 H69 hb4 hs2
 go_wp2
 go_loopw [31] (fun t wr => ∃ (j : Nat) (g : Int × Int), t = .int .i64 j ∧ j ≤ 1 ∧ Hid (seeRound (bestP l a2) v v L j g G) ∧ Hid (wr.heap[W.heap.size + 1]? = some (.cells #[.int .i64 g.1, .int .i64 g.2] 144 (0, 0))) ∧ Hid (wr.heap[gw]? = some (.cells #[.bool v.b0, .bool v.b1, .bool v.b2, .bool v.b3, .bool (v.less v).b0, .bool (v.less v).b1, .bool (v.less v).b2, .bool (v.less v).b3] 141 (0, 0))) ∧ Hid (wr.heap[W.heap.size]? = some (.cells #[.bool v.b0, .bool v.b1, .bool v.b2, .bool v.b3] 141 (0, 0))) ∧ Hid (SeeI w0 cb mb a0 a1 a2 A c l base rb sb pb ob kb lo R rc L p v k out wr) ∧ Hid (Fr (fun i => i = mb ∨ i = ob) W wr) ∧ base ≤ wr.heap.size) (fun t _ => 1 - (intOf t).toNat)
 case atStart => exact ⟨0, (0, 1), rfl, by omega, Lib.hid (by unfold seeRound; rw [List.drop_zero]; exact HGG.out), HQ4, HW4, HP4, HI4, HF4, hbw⟩
 case round =>
  clear HQ4 HW4 HP4 HI4 HF4 hbw
  obtain ⟨j, g, rfl, hj, HG, HQ, HW, HP, HI, HF, hbw⟩ := hrel
  by_cases hlt : j < 1
  ·have hj0 : (0 : Int) ≤ (j : Int) := by omega
   have hj1 : (j : Int) < 1 := by omega
   have hR := own_R103 (ok := fun _ => True) HI.out.own (fun _ _ => trivial)
   obtain ⟨-, -, hCC⟩ := Kd.R_reads' hR
   obtain ⟨ad, hA, hz0, hz1, hz2, hz3⟩ := at_T103 hCC (j : Int) hj0 (by rw [HLN.out]; exact hj1)
   subst hA
   clear hR hCC
   simp only [Int.toNat_natCast] at hz0 hz1 hz2 hz3
   have hjl : j < L.length := by rw [HLN.out]; exact hlt
   have hgn := seeRound_next HG.out hjl HLE.out
   have hxm : rd_T103 L (j : Int) ∈ L := by simp [rd_T103, List.getD_eq_getElem?_getD, List.getElem?_eq_getElem hjl]
   obtain ⟨q, hq⟩ : ∃ q, (if j = 0 then v else v.less v) = q := ⟨_, rfl⟩
   rw [hq] at hgn
   have h01 : j = 0 ∨ j = 1 := by omega
   have hw : ∀ i, i < 4 → wr.cell? ⟨gw, j * 4 + i, none⟩ = some (.bool (q.get i)) := by
    intro i hi
    have h4 : i = 0 ∨ i = 1 ∨ i = 2 ∨ i = 3 := by omega
    rcases h01 with rfl | rfl <;> rcases h4 with rfl | rfl | rfl | rfl <;> (rw [← hq]; exact (blk_cell HW.out _).trans rfl)
   have hw0 : wr.cell? ⟨gw, j * 4, none⟩ = some (.bool q.b0) := hw 0 (by omega)
   have hw1 : wr.cell? ⟨gw, j * 4 + 1, none⟩ = some (.bool q.b1) := hw 1 (by omega)
   have hw2 : wr.cell? ⟨gw, j * 4 + 2, none⟩ = some (.bool q.b2) := hw 2 (by omega)
   have hw3 : wr.cell? ⟨gw, j * 4 + 3, none⟩ = some (.bool q.b3) := hw 3 (by omega)
   generalize rd_T103 L (j : Int) = x at *
   have HGN := Lib.hid hgn
   have HXM := Lib.hid hxm
   clear hw hq h01 hgn hxm hjl HG
   go_wp2
   obtain ⟨W6, hW6⟩ : ∃ W6, W6 = wr.alloc (.cells #[.bool q.b0, .bool q.b1, .bool q.b2, .bool q.b3] 141) := ⟨_, rfl⟩
   rw [← hW6]
   have hb6 : Below wr.heap.size wr W6 := by rw [hW6]; exact below_alloc (Below.refl _ _) _
   have hq6 : W6.heap[wr.heap.size]? = some (.cells #[.bool q.b0, .bool q.b1, .bool q.b2, .bool q.b3] 141 (0, 0)) := by rw [hW6]; exact alloc_at rfl
   clear hW6
   have hI6 := HI.out.below (hb6.mono hbw)
   have hrow6 := hI6.row
   rw [HLN.out] at hrow6
   have hptr6 := hI6.ptr
   replace hz0 := pw_cell_below hb6 hz0
   replace hz1 := pw_cell_below hb6 hz1
   replace hz2 := pw_cell_below hb6 hz2
   replace hz3 := pw_cell_below hb6 hz3
   have hS6 : ∀ V, Fr (fun i => i = mb) W6 V → V.cell? ⟨pb, 0, none⟩ = some (.pointer (some ⟨cb, 0, none⟩)) ∧ V.cell? ⟨rb, 0, none⟩ = some (.slice (some ad) 1 rc) ∧ V.cell? (ad.add (j * 4)) = some (.int .i64 x.f0) ∧ V.cell? ⟨(ad.add (j * 4)).block, (ad.add (j * 4)).off + 1, none⟩ = some (.int .i64 x.f1) ∧ V.cell? ⟨(ad.add (j * 4)).block, (ad.add (j * 4)).off + 2, none⟩ = some (.int .i64 x.f2) ∧ V.cell? ⟨(ad.add (j * 4)).block, (ad.add (j * 4)).off + 3, none⟩ = some (.int .i64 x.f3) ∧ V.cell? ⟨wr.heap.size, 0, none⟩ = some (.bool q.b0) ∧ V.cell? ⟨wr.heap.size, 1, none⟩ = some (.bool q.b1) ∧ V.cell? ⟨wr.heap.size, 2, none⟩ = some (.bool q.b2) ∧ V.cell? ⟨wr.heap.size, 3, none⟩ = some (.bool q.b3) := fun V hV => by
    have hne1 := hI6.cell_ne hI6.ptr
    have hne2 := hI6.cell_ne hI6.row
    have hne3 : ∀ n, (ad.add n).block ≠ mb := fun n => by rw [add_block]; exact hI6.own_ne_mb ad.block rfl
    have hne4 := hI6.cell_ne hq6
    exact ⟨(blk_cell (blk_fr hI6.ptr hV hne1) 0).trans rfl, (blk_cell (blk_fr hrow6 hV hne2) 0).trans rfl, cell_fr hV hz0 (hne3 _), cell_fr hV hz1 (hne3 _), cell_fr hV hz2 (hne3 _), cell_fr hV hz3 (hne3 _), (blk_cell (blk_fr hq6 hV hne4) 0).trans rfl, (blk_cell (blk_fr hq6 hV hne4) 1).trans rfl, (blk_cell (blk_fr hq6 hV hne4) 2).trans rfl, (blk_cell (blk_fr hq6 hV hne4) 3).trans rfl⟩
   have HS6 := Lib.hid hS6
   have HB1 := Lib.hid (fun V hV => HBEST.out x q V HXM.out hV)
   have hci := hI6.ci.below (below_drew1 (Below.refl W6.heap.size W6))
   have hf : Fr (fun i => i = mb) W6 W6.drew := Fr.of_below (below_drew1 (Below.refl W6.heap.size W6))
   have HQ6 := Lib.hid (blk_below HQ.out hb6)
   have HW6 := Lib.hid (blk_below HW.out hb6)
   have HP6 := Lib.hid (blk_below HP.out hb6)
   have HI6 := Lib.hid hI6
   have HF6 : Hid (Fr (fun i => i = mb ∨ i = ob) W W6) := Lib.hid (HF.out.trans (Fr.of_below hb6))
   have hs6 := hb6.size
   have hmb := HI6.out.lts.2.1
   clear hw0 hw1 hw2 hw3 hI6 HQ HW HP HI HF hb6 hS6
   refine s_ 10 (fun w' => w'.cell? ⟨pb, 0, none⟩ = some (.pointer (some ⟨cb, 0, none⟩)) ∧ w'.cell? ⟨rb, 0, none⟩ = some (.slice (some ad) 1 rc) ∧ w'.cell? (ad.add (j * 4)) = some (.int .i64 x.f0) ∧ w'.cell? ⟨(ad.add (j * 4)).block, (ad.add (j * 4)).off + 1, none⟩ = some (.int .i64 x.f1) ∧ w'.cell? ⟨(ad.add (j * 4)).block, (ad.add (j * 4)).off + 2, none⟩ = some (.int .i64 x.f2) ∧ w'.cell? ⟨(ad.add (j * 4)).block, (ad.add (j * 4)).off + 3, none⟩ = some (.int .i64 x.f3) ∧ w'.cell? ⟨wr.heap.size, 0, none⟩ = some (.bool q.b0) ∧ w'.cell? ⟨wr.heap.size, 1, none⟩ = some (.bool q.b1) ∧ w'.cell? ⟨wr.heap.size, 2, none⟩ = some (.bool q.b2) ∧ w'.cell? ⟨wr.heap.size, 3, none⟩ = some (.bool q.b3)) [9] (HS6.out _ hf) (fun hHeld => ?_)
   refine pa_ 2 #[false, false, true, false, false, false, false, false, false, false] (some 38) ?_
   refine ta_ 0 #[true, false, true, false, false, false, false, false, false, false] (some 36) hHeld ?_
   refine ta_ 1 #[true, true, true, false, false, false, false, false, false, false] (some 37) hHeld ?_
   refine pa_ 3 #[true, true, true, true, false, false, false, false, false, false] (some 39) ?_
   refine ta_ 4 #[true, true, true, true, true, false, false, false, false, false] (some 40) hHeld ?_
   refine ta_ 5 #[true, true, true, true, true, true, false, false, false, false] (some 41) hHeld ?_
   refine pa_ 6 #[true, true, true, true, true, true, true, false, false, false] (some 42) ?_
   refine join_ (σ := Nat) 1 #[true, true, true, true, true, true, true, true, true, false] (fun s => [(43, .agg #[.int .i64 (bestP l a2 x q).worth, .int .i64 (bestP l a2 x q).cuts, .int .i64 (bestP l a2 x q).use, .bool (bestP l a2 x q).cut, .int .i64 (bestP l a2 x q).how.f0, .bool (bestP l a2 x q).how.f1, .int .i64 (bestP l a2 x q).how.f2, .bool (bestP l a2 x q).first.b0, .bool (bestP l a2 x q).first.b1, .bool (bestP l a2 x q).first.b2, .bool (bestP l a2 x q).first.b3]), (10, .pointer (some ⟨s, 0, none⟩))]) (fun s w' => w'.heap[s]? = some (.cells #[.int .i64 0, .int .i64 0, .int .i64 0, .bool false, .int .i64 0, .bool false, .int .i64 0, .bool false, .bool false, .bool false, .bool false] 146 (0, 0)) ∧ W6.heap.size ≤ s ∧ CInv w0 cb mb a0 a1 a2 A c l w' ∧ Fr (fun i => i = mb) W6 w') ?_ ?_
   rotate_left
   ·intro hCont
    refine two_ (i := 7) (j := 8) (Ni := some 43) (Nj := some 10) #[true, true, true, true, true, true, true, true, false, false] #[true, true, true, true, true, true, true, false, true, false] rfl rfl rfl rfl (by kernel_rfl) (by decide) (by decide) (fun K hK => ?_) (fun K hK => ?_)
    ·skip
     refine goes_ Try.func65 (by kernel_rfl) rfl #[.pointer (some ⟨cb, 0, none⟩), .agg #[.int .i64 x.f0, .int .i64 x.f1, .int .i64 x.f2, .int .i64 x.f3, .bool q.b0, .bool q.b1, .bool q.b2, .bool q.b3]] (by rfl) rfl rfl (by simp only [List.map_toArray, List.map_cons, List.map_nil]; rfl) ?_
     with_reducible refine (HB1.out _ hci).mono ?_
     rintro e V7 ⟨rfl, hc7, hfr⟩
     clear hci
     have hci := hc7
     clear hc7
     replace hf := hf.trans hfr
     clear hfr
     refine ⟨_, rfl, ?_⟩
     refine hK.out _ _ (HS6.out _ hf) (fun hHeld => ?_)
     clear hK K
     refine n_ ?_
     refine ea_ 8 #[true, true, true, true, true, true, true, true, true, false] (some 10) (fun K hK => ?_)
     refine pbox_ (.cells #[.int .i64 0, .int .i64 0, .int .i64 0, .bool false, .int .i64 0, .bool false, .int .i64 0, .bool false, .bool false, .bool false, .bool false] 146 (0, 0)) (by rfl) rfl ?_ ?_
     ·first | (go_simp; done) | (go_simp; rfl)
     intro g10 V8 hg10 hl10 hs
     replace hl10 : W6.heap.size ≤ g10 := by have := hf.size; omega
     replace hci := hci.below hs
     replace hf := hf.trans (Fr.of_below hs)
     clear hs
     refine hK.out _ _ (HS6.out _ hf) (fun hHeld => ?_)
     clear hK K
     refine n_ ?_
     exact m_ (hCont g10 _ ⟨hg10, hl10, hci, hf⟩)
    ·skip
     refine pbox_ (.cells #[.int .i64 0, .int .i64 0, .int .i64 0, .bool false, .int .i64 0, .bool false, .int .i64 0, .bool false, .bool false, .bool false, .bool false] 146 (0, 0)) (by rfl) rfl ?_ ?_
     ·first | (go_simp; done) | (go_simp; rfl)
     intro g10 V8 hg10 hl10 hs
     replace hl10 : W6.heap.size ≤ g10 := by have := hf.size; omega
     replace hci := hci.below hs
     replace hf := hf.trans (Fr.of_below hs)
     clear hs
     refine hK.out _ _ (HS6.out _ hf) (fun hHeld => ?_)
     clear hK K
     refine n_ ?_
     refine ea_ 7 #[true, true, true, true, true, true, true, true, true, false] (some 43) (fun K hK => ?_)
     refine goes_ Try.func65 (by kernel_rfl) rfl #[.pointer (some ⟨cb, 0, none⟩), .agg #[.int .i64 x.f0, .int .i64 x.f1, .int .i64 x.f2, .int .i64 x.f3, .bool q.b0, .bool q.b1, .bool q.b2, .bool q.b3]] (by rfl) rfl rfl (by simp only [List.map_toArray, List.map_cons, List.map_nil]; rfl) ?_
     with_reducible refine (HB1.out _ hci).mono ?_
     rintro e V7 ⟨rfl, hc7, hfr⟩
     replace hg10 := blk_fr hg10 hfr (by have := hl10; have := hmb; omega)
     clear hci
     have hci := hc7
     clear hc7
     replace hf := hf.trans hfr
     clear hfr
     refine ⟨_, rfl, ?_⟩
     refine hK.out _ _ (HS6.out _ hf) (fun hHeld => ?_)
     clear hK K
     refine n_ ?_
     exact m_ (hCont g10 _ ⟨hg10, hl10, hci, hf⟩)
   clear hHeld hci hf
   rintro g10 V9 ⟨hg10, hl10, hci, hf⟩
   have hHeld := HS6.out _ hf
   refine m_ ?_
   refine la_ 9 #[true, true, true, true, true, true, true, true, true, true] none (fun K hK => ?_)
   have hk_ := cf11 hg10
   refine skip_ (w1 := ?_) (by rfl) rfl ?_ ?_
   rotate_left
   ·go_simp
    rfl
   refine hK.out _ _ ?_
   clear hK K
   refine done_ (by kernel_rfl) ?_
   have hW10 := put11_blk hg10 (.int .i64 (bestP l a2 x q).worth) (.int .i64 (bestP l a2 x q).cuts) (.int .i64 (bestP l a2 x q).use) (.bool (bestP l a2 x q).cut) (.int .i64 (bestP l a2 x q).how.f0) (.bool (bestP l a2 x q).how.f1) (.int .i64 (bestP l a2 x q).how.f2) (.bool (bestP l a2 x q).first.b0) (.bool (bestP l a2 x q).first.b1) (.bool (bestP l a2 x q).first.b2) (.bool (bestP l a2 x q).first.b3)
   have hfr10 := put11_fr V9 g10 (.int .i64 (bestP l a2 x q).worth) (.int .i64 (bestP l a2 x q).cuts) (.int .i64 (bestP l a2 x q).use) (.bool (bestP l a2 x q).cut) (.int .i64 (bestP l a2 x q).how.f0) (.bool (bestP l a2 x q).how.f1) (.int .i64 (bestP l a2 x q).how.f2) (.bool (bestP l a2 x q).first.b0) (.bool (bestP l a2 x q).first.b1) (.bool (bestP l a2 x q).first.b2) (.bool (bestP l a2 x q).first.b3)
   obtain ⟨W10, hWe⟩ : ∃ W10, put11 V9 g10 (.int .i64 (bestP l a2 x q).worth) (.int .i64 (bestP l a2 x q).cuts) (.int .i64 (bestP l a2 x q).use) (.bool (bestP l a2 x q).cut) (.int .i64 (bestP l a2 x q).how.f0) (.bool (bestP l a2 x q).how.f1) (.int .i64 (bestP l a2 x q).how.f2) (.bool (bestP l a2 x q).first.b0) (.bool (bestP l a2 x q).first.b1) (.bool (bestP l a2 x q).first.b2) (.bool (bestP l a2 x q).first.b3) = W10 := ⟨_, rfl⟩
   rw [hWe] at hW10 hfr10
   unfold put11 at hWe
   rw [hWe]
   clear hWe hHeld hk_
   obtain ⟨l1, l2, l3, l4, l5, l6, l7, l8⟩ := HI6.out.lts
   have hsW := HF6.out.size
   have hbW : base ≤ W6.heap.size := by omega
   have hf10 : Fr (fun i => i = mb) W6 W10 := hf.trans' hfr10 (fun i hi e => by subst e; omega)
   have hci10 := hci.fr hfr10 (by omega) (by omega) (fun k hk => by subst hk; omega)
   have hI10 := HI6.out.fr hf10 (fun i e => .inl e) hci10
   have hQ10 := blk_fr HQ6.out hf10 (by omega)
   have HW10 := Lib.hid (blk_fr HW6.out hf10 (by omega))
   have HP10 := Lib.hid (blk_fr HP6.out hf10 (by omega))
   have HF10 : Hid (Fr (fun i => i = mb ∨ i = ob) W W10) := Lib.hid (HF6.out.trans' hf10 (fun i _ e => .inl e))
   have hs10 := hf10.size
   have HI10 := Lib.hid hI10
   have hg0 : W10.cell? ⟨W.heap.size + 1, 0, none⟩ = some (.int .i64 g.1) := (blk_cell hQ10 0).trans rfl
   have hg1 : W10.cell? ⟨W.heap.size + 1, 1, none⟩ = some (.int .i64 g.2) := (blk_cell hQ10 1).trans rfl
   have hgf0 : W10.frozen? ⟨W.heap.size + 1, 0, none⟩ = false := blk_frozen hQ10 0
   have hgf1 : W10.frozen? ⟨W.heap.size + 1, 1, none⟩ = false := blk_frozen hQ10 1
   have hq6l := blk_lt HQ6.out
   have hgne : g10 ≠ W.heap.size + 1 := by omega
   have hgn' : (g10 == W.heap.size + 1) = false := by simpa using hgne
   clear HB1 HXM hf hci hg10 hl10 HI6 HQ6 HW6 HP6 HF6 HS6 hz0 hz1 hz2 hz3 hptr6 hrow6 hq6 hfr10 hf10 hci10 hI10
   generalize bestP l a2 x q = s at *
   go_wp2
   refine s_ 16 (fun w' => w'.cell? ⟨W.heap.size + 1, 1, none⟩ = some (.int .i64 g.2) ∧ w'.cell? ⟨g10, 0, none⟩ = some (.int .i64 s.worth) ∧ w'.cell? ⟨g10, 1, none⟩ = some (.int .i64 s.cuts)) [15] ⟨hg1, (cB hW10), (cB hW10)⟩ (fun hHeld => ?_)
   refine p_ 0 (some 44) ?_
   refine p_ 2 (some 46) ?_
   refine p_ 3 (some 47) ?_
   refine p_ 6 (some 50) ?_
   refine p_ 8 (some 52) ?_
   refine p_ 9 (some 53) ?_
   refine t_ 4 (some 48) hHeld ?_
   refine t_ 7 (some 51) hHeld ?_
   refine t_ 10 (some 54) hHeld ?_
   refine p_ 11 (some 55) ?_
   refine e_ 1 (some 45) (fun K hK => ?_)
   refine value_ (w1 := ?_) (v := ?_) (by rfl) rfl ?_ ?_
   rotate_left 2
   ·go_simp
    constructor
    ·rfl
    ·rfl
   refine hK.out _ _ ⟨hHeld.1, hHeld.2.1, hHeld.2.2⟩ (fun hHeld => ?_)
   clear hK K
   refine n_ ?_
   refine p_ 5 (some 49) ?_
   refine p_ 12 (some 56) ?_
   refine e_ 13 none (fun K hK => ?_)
   refine skip_ (w1 := ?_) (by rfl) rfl ?_ ?_
   rotate_left
   ·go_simp
    rfl
   refine hK.out _ _ ⟨(by go_simp), (by go_simp; exact (blk_cell hW10 0).trans rfl), (by go_simp; exact (blk_cell hW10 1).trans rfl)⟩ (fun hHeld => ?_)
   clear hK K
   refine p_ 14 (some 57) ?_
   refine l_ 15 none (fun K hK => ?_)
   refine skip_ (w1 := ?_) (by rfl) rfl ?_ ?_
   rotate_left
   ·go_simp
    rfl
   refine hK.out _ _ ?_
   clear hK K
   refine done_ (by kernel_rfl) ?_
   have hQ11 := blk_put (cs' := #[.int .i64 (wrap64 (g.1 + s.worth)), .int .i64 g.2]) hQ10 0 (.int .i64 (wrap64 (g.1 + s.worth))) rfl
   have hQ12 := blk_put (cs' := #[.int .i64 (wrap64 (g.1 + s.worth)), .int .i64 (wrap64 (g.2 + s.cuts))]) hQ11 1 (.int .i64 (wrap64 (g.2 + s.cuts))) rfl
   have hfr12 : Fr (fun i => i = W.heap.size + 1) W10 ((W10.setCell ⟨W.heap.size + 1, 0, none⟩ (.int .i64 (wrap64 (g.1 + s.worth)))).setCell ⟨W.heap.size + 1, 1, none⟩ (.int .i64 (wrap64 (g.2 + s.cuts)))) := by
    have st : ∀ {V : World} {j : Nat} {u : Value}, Fr (fun i => i = W.heap.size + 1) W10 V → Fr (fun i => i = W.heap.size + 1) W10 (V.setCell ⟨W.heap.size + 1, j, none⟩ u) := fun h => h.set (.inl rfl)
    exact st (st (Fr.refl _ W10))
   obtain ⟨W12, hWe⟩ : ∃ W12, (W10.setCell ⟨W.heap.size + 1, 0, none⟩ (.int .i64 (wrap64 (g.1 + s.worth)))).setCell ⟨W.heap.size + 1, 1, none⟩ (.int .i64 (wrap64 (g.2 + s.cuts))) = W12 := ⟨_, rfl⟩
   rw [hWe] at hQ12 hfr12 ⊢
   have hd12 : Fr (fun i => i = W.heap.size + 1) W10 W12.drew := hfr12.trans (Fr.of_below (below_drew1 (Below.refl W12.heap.size W12)))
   have hQ13 := blk_below hQ12 (below_drew1 (Below.refl W12.heap.size W12))
   clear hWe hHeld hQ10 hQ11 hQ12 hfr12 hg0 hg1 hgf0 hgf1
   generalize W12.drew = W13 at *
   have HQ13 := Lib.hid hQ13
   have HW13 := Lib.hid (blk_fr HW10.out hd12 (by omega))
   have HP13 := Lib.hid (blk_fr HP10.out hd12 (by omega))
   have HI13 := Lib.hid (HI10.out.fr hd12 (fun i e => .inr (by omega)) (HI10.out.ci.fr hd12 (by omega) (by omega) (fun k e => by omega)))
   have HF13 : Hid (Fr (fun i => i = mb ∨ i = ob) W W13) := Lib.hid (HF10.out.trans' hd12 (fun i hi e => absurd hi (by omega)))
   have hb13 : base ≤ W13.heap.size := by have := hd12.size; omega
   clear hd12 hQ13 HW10 HP10 HI10 HF10 hW10
   go_wp2
   go_roundw
   case rel => exact ⟨j + 1, (wrap64 (g.1 + s.worth), wrap64 (g.2 + s.cuts)), by go_num, by omega, HGN, HQ13, HW13, HP13, HI13, HF13, hb13⟩
   case measure => simp [intOf]; omega
  ·obtain rfl : j = 1 := by omega
   obtain rfl : g = G := seeRound_end (by rw [HLN.out]; exact HG.out) HLE.out
   obtain ⟨l1, l2, l3, l4, l5, l6, l7, l8⟩ := HI.out.lts
   obtain ⟨b, hbb⟩ : ∃ b, better g.1 g.2 out.worth out.cuts = b := ⟨_, rfl⟩
   have H85 := Lib.hid (fun W => plate_gain_better.calls g.1 g.2 out.worth out.cuts b W (by rw [better_f, hbb]))
   have HBB := Lib.hid hbb
   have hg0 : wr.cell? ⟨W.heap.size + 1, 0, none⟩ = some (.int .i64 g.1) := (blk_cell HQ.out 0).trans rfl
   have hg1 : wr.cell? ⟨W.heap.size + 1, 1, none⟩ = some (.int .i64 g.2) := (blk_cell HQ.out 1).trans rfl
   have ho0 : wr.cell? ⟨ob, 0, none⟩ = some (.int .i64 out.worth) := (blk_cell HI.out.out 0).trans rfl
   have ho1 : wr.cell? ⟨ob, 1, none⟩ = some (.int .i64 out.cuts) := (blk_cell HI.out.out 1).trans rfl
   clear hbb HGG HG HW HBEST
   cases b with
   | false =>
    go_wp2_with (go_at_call 85; refine (H85.out _).mono ?_; rintro e w12 ⟨rfl, hb12⟩)
    go_end0
    refine ⟨rfl, ?_, HF.out.trans (Fr.of_below hb12)⟩
    rw [HSEE.out, HBB.out]
    exact HI.out.below (hb12.mono hbw)
   | true =>
    go_wp2_with (go_at_call 85; refine (H85.out _).mono ?_; rintro e w12 ⟨rfl, hb12⟩; have hQ12 := blk_below HQ.out hb12; have hP12 := blk_below HP.out hb12; have hI12 := HI.out.below (hb12.mono hbw); have hK12 := hI12.cut; have hO12 := hI12.out; have hpp_ := c2 hQ12; have hkk_ := c3 hK12; have huu_ := c4 hP12; have hoo_ := cf11 hO12; have HI12 := Lib.hid hI12; have HO12 := Lib.hid hO12; clear hQ12 hP12 hI12 hK12 hO12)
    refine bodyPost_end (results_none rfl _ _ _) rfl ?_
    have hO13 := put11_blk HO12.out (.int .i64 g.1) (.int .i64 g.2) (.int .i64 (-1)) (.bool true) (.int .i64 k.f0) (.bool k.f1) (.int .i64 k.f2) (.bool v.b0) (.bool v.b1) (.bool v.b2) (.bool v.b3)
    have hfr13 := put11_fr w12 ob (.int .i64 g.1) (.int .i64 g.2) (.int .i64 (-1)) (.bool true) (.int .i64 k.f0) (.bool k.f1) (.int .i64 k.f2) (.bool v.b0) (.bool v.b1) (.bool v.b2) (.bool v.b3)
    obtain ⟨W13, hWe⟩ : ∃ W13, put11 w12 ob (.int .i64 g.1) (.int .i64 g.2) (.int .i64 (-1)) (.bool true) (.int .i64 k.f0) (.bool k.f1) (.int .i64 k.f2) (.bool v.b0) (.bool v.b1) (.bool v.b2) (.bool v.b3) = W13 := ⟨_, rfl⟩
    rw [hWe] at hO13 hfr13
    unfold put11 at hWe
    rw [hWe]
    clear hWe
    have hI12 := HI12.out
    have hne1 := hI12.cell_ne hI12.out
    have hff : Fr (fun i => i = mb ∨ i = ob) W W13 := (HF.out.trans (Fr.of_below hb12)).trans' hfr13 (fun i _ e => .inr e)
    have hb13 := hb12.size
    refine ⟨rfl, ?_, hff⟩
    rw [HSEE.out, HBB.out]
    have hci := hI12.ci.fr hfr13 (fun e => ne_type hI12.ci.blk hI12.out (by decide) e) (fun e => hne1 e.symm) (fun k e => by subst e; exact hI12.nes)
    exact ⟨hci, blk_fr hI12.row hfr13 (ne_type hI12.row hI12.out (by decide)), own_fr hI12.own hfr13 (fun i hi e => hI12.own_ne_ob i hi e), blk_fr hI12.st hfr13 (ne_type hI12.st hI12.out (by decide)), blk_fr hI12.ptr hfr13 (ne_type hI12.ptr hI12.out (by decide)), hO13, blk_fr hI12.cut hfr13 (ne_type hI12.cut hI12.out (by decide)), hI12.lts, hI12.ltr, hI12.nes⟩
set_option maxRecDepth 100000 in
set_option maxHeartbeats 8000000 in
theorem see_take2 (u : W4) (W : World) (hL : L.length = 2) (hb : base ≤ W.heap.size) (hbest : ∀ x q W, x ∈ L → CInv w0 cb mb a0 a1 a2 A c l W → Calls Try.prog 65 #[.pointer (some ⟨cb, 0, none⟩), .agg #[.int .i64 x.f0, .int .i64 x.f1, .int .i64 x.f2, .int .i64 x.f3, .bool q.b0, .bool q.b1, .bool q.b2, .bool q.b3]] W fun e W' => e = .returned (.agg #[.int .i64 (bestP l a2 x q).worth, .int .i64 (bestP l a2 x q).cuts, .int .i64 (bestP l a2 x q).use, .bool (bestP l a2 x q).cut, .int .i64 (bestP l a2 x q).how.f0, .bool (bestP l a2 x q).how.f1, .int .i64 (bestP l a2 x q).how.f2, .bool (bestP l a2 x q).first.b0, .bool (bestP l a2 x q).first.b1, .bool (bestP l a2 x q).first.b2, .bool (bestP l a2 x q).first.b3]) ∧ CInv w0 cb mb a0 a1 a2 A c l W' ∧ Fr (fun i => i = mb) W W') (hI : SeeI w0 cb mb a0 a1 a2 A c l base rb sb pb ob kb lo R rc L p v k out W) :
  Calls Try.prog 89 #[.agg #[.bool u.b0, .bool u.b1, .bool u.b2, .bool u.b3], .pointer (some ⟨rb, 0, none⟩), .pointer (some ⟨sb, 0, none⟩), .pointer (some ⟨pb, 0, none⟩), .pointer (some ⟨ob, 0, none⟩), .pointer (some ⟨kb, 0, none⟩)] W fun e W' => retNone e ∧ SeeI w0 cb mb a0 a1 a2 A c l base rb sb pb ob kb lo R rc L p v k (see1 (bestP l a2) v L k out u) W' ∧ Fr (fun i => i = mb ∨ i = ob) W W' := by
 have h69 := fun W => less_calls v u W
 unfold W4.val at h69
 have H69 := Lib.hid h69
 clear h69
 have HBEST := Lib.hid hbest
 clear hbest
 obtain ⟨G, hG⟩ : ∃ G, gains (bestP l a2) (L.zip [u, v.less u]) (0, 1) = G := ⟨_, rfl⟩
 have hsee : see1 (bestP l a2) v L k out u = if better G.1 G.2 out.worth out.cuts = true then ⟨G.1, G.2, -1, true, k, u⟩ else out := by
  unfold see1; rw [if_neg (by simp [hL]), hG]
 have HSEE := Lib.hid hsee
 have HGG := Lib.hid hG
 have HLN := Lib.hid hL
 have hLe : L.length ≤ 2 := by omega
 have HLE := Lib.hid hLe
 have hb2 : Below W.heap.size W ((W.alloc (.cells #[.bool u.b0, .bool u.b1, .bool u.b2, .bool u.b3] 141)).alloc (.cells #[.int .i64 0, .int .i64 1] 144)) := below_alloc (below_alloc (Below.refl _ _) _) _
 have hP2 : ((W.alloc (.cells #[.bool u.b0, .bool u.b1, .bool u.b2, .bool u.b3] 141)).alloc (.cells #[.int .i64 0, .int .i64 1] 144)).heap[W.heap.size]? = some (.cells #[.bool u.b0, .bool u.b1, .bool u.b2, .bool u.b3] 141 (0, 0)) := blk_below (alloc_at rfl) (below_alloc (Below.refl _ _) _)
 have hQ2 : ((W.alloc (.cells #[.bool u.b0, .bool u.b1, .bool u.b2, .bool u.b3] 141)).alloc (.cells #[.int .i64 0, .int .i64 1] 144)).heap[W.heap.size + 1]? = some (.cells #[.int .i64 0, .int .i64 1] 144 (0, 0)) := alloc_at (by simp)
 have hI2 := hI.below (hb2.mono hb)
 have hr1 := blk_below hI.row (below_alloc (Below.refl W.heap.size W) (.cells #[.bool u.b0, .bool u.b1, .bool u.b2, .bool u.b3] 141))
 rw [hL] at hr1
 have hx0 : (W.alloc (.cells #[.bool u.b0, .bool u.b1, .bool u.b2, .bool u.b3] 141)).cell? ⟨rb, 0, none⟩ = some (.slice R 2 rc) := (blk_cell hr1 0).trans rfl
 have HI2 := Lib.hid hI2
 have HB2 := Lib.hid hb2
 have HP2 := Lib.hid hP2
 have HQ2 := Lib.hid hQ2
 clear hsee hG hI hI2 hb2 hP2 hQ2 hr1 hL hLe
 go_enter Try.func89, Try.ntmps89
 go_wp2
 clear hx0
 obtain ⟨W2, hW2⟩ : ∃ W2, W2 = (W.alloc (.cells #[.bool u.b0, .bool u.b1, .bool u.b2, .bool u.b3] 141)).alloc (.cells #[.int .i64 0, .int .i64 1] 144) := ⟨_, rfl⟩
 rw [← hW2] at HI2 HB2 HP2 HQ2 ⊢
 have hz2 : W.heap.size + 2 ≤ W2.heap.size := by rw [hW2]; simp
 clear hW2
 have hrow := HI2.out.row
 rw [HLN.out] at hrow
 have hst := HI2.out.st
 have hp := HP2.out
 refine s_ 11 (fun w' => w'.cell? ⟨W.heap.size, 0, none⟩ = some (.bool u.b0) ∧ w'.cell? ⟨W.heap.size, 1, none⟩ = some (.bool u.b1) ∧ w'.cell? ⟨W.heap.size, 2, none⟩ = some (.bool u.b2) ∧ w'.cell? ⟨W.heap.size, 3, none⟩ = some (.bool u.b3) ∧ w'.cell? ⟨sb, 4, none⟩ = some (.bool v.b0) ∧ w'.cell? ⟨sb, 5, none⟩ = some (.bool v.b1) ∧ w'.cell? ⟨sb, 6, none⟩ = some (.bool v.b2) ∧ w'.cell? ⟨sb, 7, none⟩ = some (.bool v.b3) ∧ w'.cell? ⟨rb, 0, none⟩ = some (.slice R 2 rc)) [] ⟨(cB hp), (cB hp), (cB hp), (cB hp), (cB hst), (cB hst), (cB hst), (cB hst), (cB hrow)⟩ (fun hHeld => ?_)
 refine p_ 1 (some 22) ?_
 refine p_ 10 (some 31) ?_
 refine t_ 0 (some 21) hHeld ?_
 refine t_ 2 (some 23) hHeld ?_
 refine t_ 3 (some 24) hHeld ?_
 refine t_ 6 (some 27) hHeld ?_
 refine p_ 7 (some 28) ?_
 refine e_ 4 (some 25) (fun K hK => ?_)
 refine goes_ Try.func69 (by kernel_rfl) rfl #[.agg #[.bool v.b0, .bool v.b1, .bool v.b2, .bool v.b3], .agg #[.bool u.b0, .bool u.b1, .bool u.b2, .bool u.b3]] (by rfl) rfl rfl (by simp only [List.map_toArray, List.map_cons, List.map_nil]; rfl) ?_
 with_reducible refine (H69.out _).mono ?_
 rintro e W3 ⟨rfl, hs3⟩
 refine ⟨_, rfl, ?_⟩
 refine hK.out _ _ (mv9 hs3 hHeld) (fun hHeld => ?_)
 clear hK K
 refine n_ ?_
 refine e_ 5 (some 26) (fun K hK => ?_)
 refine slit_ (.cells #[.bool u.b0, .bool u.b1, .bool u.b2, .bool u.b3, .bool (v.less u).b0, .bool (v.less u).b1, .bool (v.less u).b2, .bool (v.less u).b3] 141 (0, 0)) 2 (by rfl) rfl ?_ ?_
 ·first | (go_simp; done) | (go_simp; rfl)
 intro gw W4_ hgw hlw hs4
 refine hK.out _ _ (mv9 hs4 hHeld) (fun hHeld => ?_)
 clear hK K
 refine n_ ?_
 refine p_ 8 (some 29) ?_
 refine p_ 9 (some 30) ?_
 refine done_ (by kernel_rfl) ?_
 have hb4 : Below W2.heap.size W2 W4_ := below_step (below_step (below_drew1 (Below.refl _ _)) hs3) hs4
 have hs2 := HB2.out.size
 have HI4 := Lib.hid (HI2.out.below (hb4.mono (by omega)))
 have HP4 := Lib.hid (blk_below HP2.out hb4)
 have HQ4 := Lib.hid (blk_below HQ2.out hb4)
 have HW4 := Lib.hid hgw
 have HF4 : Hid (Fr (fun i => i = mb ∨ i = ob) W W4_) := Lib.hid (Fr.of_below (below_step HB2.out hb4))
 have hbw : base ≤ W4_.heap.size := by have := hb4.size; omega
 have hlw2 : W.heap.size + 2 ≤ gw := by have := hz2; have := (below_step (below_drew1 (Below.refl W2.heap.size W2)) hs3).size; omega
 clear hs3 hs4 hz2 hgw hlw hHeld hrow hst hp HI2 HB2 HP2 HQ2 H69 hb4 hs2
 go_wp2
 go_loopw [31] (fun t wr => ∃ (j : Nat) (g : Int × Int), t = .int .i64 j ∧ j ≤ 2 ∧ Hid (seeRound (bestP l a2) v u L j g G) ∧ Hid (wr.heap[W.heap.size + 1]? = some (.cells #[.int .i64 g.1, .int .i64 g.2] 144 (0, 0))) ∧ Hid (wr.heap[gw]? = some (.cells #[.bool u.b0, .bool u.b1, .bool u.b2, .bool u.b3, .bool (v.less u).b0, .bool (v.less u).b1, .bool (v.less u).b2, .bool (v.less u).b3] 141 (0, 0))) ∧ Hid (wr.heap[W.heap.size]? = some (.cells #[.bool u.b0, .bool u.b1, .bool u.b2, .bool u.b3] 141 (0, 0))) ∧ Hid (SeeI w0 cb mb a0 a1 a2 A c l base rb sb pb ob kb lo R rc L p v k out wr) ∧ Hid (Fr (fun i => i = mb ∨ i = ob) W wr) ∧ base ≤ wr.heap.size) (fun t _ => 2 - (intOf t).toNat)
 case atStart => exact ⟨0, (0, 1), rfl, by omega, Lib.hid (by unfold seeRound; rw [List.drop_zero]; exact HGG.out), HQ4, HW4, HP4, HI4, HF4, hbw⟩
 case round =>
  clear HQ4 HW4 HP4 HI4 HF4 hbw
  obtain ⟨j, g, rfl, hj, HG, HQ, HW, HP, HI, HF, hbw⟩ := hrel
  by_cases hlt : j < 2
  ·have hj0 : (0 : Int) ≤ (j : Int) := by omega
   have hj1 : (j : Int) < 2 := by omega
   have hR := own_R103 (ok := fun _ => True) HI.out.own (fun _ _ => trivial)
   obtain ⟨-, -, hCC⟩ := Kd.R_reads' hR
   obtain ⟨ad, hA, hz0, hz1, hz2, hz3⟩ := at_T103 hCC (j : Int) hj0 (by rw [HLN.out]; exact hj1)
   subst hA
   clear hR hCC
   simp only [Int.toNat_natCast] at hz0 hz1 hz2 hz3
   have hjl : j < L.length := by rw [HLN.out]; exact hlt
   have hgn := seeRound_next HG.out hjl HLE.out
   have hxm : rd_T103 L (j : Int) ∈ L := by simp [rd_T103, List.getD_eq_getElem?_getD, List.getElem?_eq_getElem hjl]
   obtain ⟨q, hq⟩ : ∃ q, (if j = 0 then u else v.less u) = q := ⟨_, rfl⟩
   rw [hq] at hgn
   have h01 : j = 0 ∨ j = 1 := by omega
   have hw : ∀ i, i < 4 → wr.cell? ⟨gw, j * 4 + i, none⟩ = some (.bool (q.get i)) := by
    intro i hi
    have h4 : i = 0 ∨ i = 1 ∨ i = 2 ∨ i = 3 := by omega
    rcases h01 with rfl | rfl <;> rcases h4 with rfl | rfl | rfl | rfl <;> (rw [← hq]; exact (blk_cell HW.out _).trans rfl)
   have hw0 : wr.cell? ⟨gw, j * 4, none⟩ = some (.bool q.b0) := hw 0 (by omega)
   have hw1 : wr.cell? ⟨gw, j * 4 + 1, none⟩ = some (.bool q.b1) := hw 1 (by omega)
   have hw2 : wr.cell? ⟨gw, j * 4 + 2, none⟩ = some (.bool q.b2) := hw 2 (by omega)
   have hw3 : wr.cell? ⟨gw, j * 4 + 3, none⟩ = some (.bool q.b3) := hw 3 (by omega)
   generalize rd_T103 L (j : Int) = x at *
   have HGN := Lib.hid hgn
   have HXM := Lib.hid hxm
   clear hw hq h01 hgn hxm hjl HG
   go_wp2
   obtain ⟨W6, hW6⟩ : ∃ W6, W6 = wr.alloc (.cells #[.bool q.b0, .bool q.b1, .bool q.b2, .bool q.b3] 141) := ⟨_, rfl⟩
   rw [← hW6]
   have hb6 : Below wr.heap.size wr W6 := by rw [hW6]; exact below_alloc (Below.refl _ _) _
   have hq6 : W6.heap[wr.heap.size]? = some (.cells #[.bool q.b0, .bool q.b1, .bool q.b2, .bool q.b3] 141 (0, 0)) := by rw [hW6]; exact alloc_at rfl
   clear hW6
   have hI6 := HI.out.below (hb6.mono hbw)
   have hrow6 := hI6.row
   rw [HLN.out] at hrow6
   have hptr6 := hI6.ptr
   replace hz0 := pw_cell_below hb6 hz0
   replace hz1 := pw_cell_below hb6 hz1
   replace hz2 := pw_cell_below hb6 hz2
   replace hz3 := pw_cell_below hb6 hz3
   have hS6 : ∀ V, Fr (fun i => i = mb) W6 V → V.cell? ⟨pb, 0, none⟩ = some (.pointer (some ⟨cb, 0, none⟩)) ∧ V.cell? ⟨rb, 0, none⟩ = some (.slice (some ad) 2 rc) ∧ V.cell? (ad.add (j * 4)) = some (.int .i64 x.f0) ∧ V.cell? ⟨(ad.add (j * 4)).block, (ad.add (j * 4)).off + 1, none⟩ = some (.int .i64 x.f1) ∧ V.cell? ⟨(ad.add (j * 4)).block, (ad.add (j * 4)).off + 2, none⟩ = some (.int .i64 x.f2) ∧ V.cell? ⟨(ad.add (j * 4)).block, (ad.add (j * 4)).off + 3, none⟩ = some (.int .i64 x.f3) ∧ V.cell? ⟨wr.heap.size, 0, none⟩ = some (.bool q.b0) ∧ V.cell? ⟨wr.heap.size, 1, none⟩ = some (.bool q.b1) ∧ V.cell? ⟨wr.heap.size, 2, none⟩ = some (.bool q.b2) ∧ V.cell? ⟨wr.heap.size, 3, none⟩ = some (.bool q.b3) := fun V hV => by
    have hne1 := hI6.cell_ne hI6.ptr
    have hne2 := hI6.cell_ne hI6.row
    have hne3 : ∀ n, (ad.add n).block ≠ mb := fun n => by rw [add_block]; exact hI6.own_ne_mb ad.block rfl
    have hne4 := hI6.cell_ne hq6
    exact ⟨(blk_cell (blk_fr hI6.ptr hV hne1) 0).trans rfl, (blk_cell (blk_fr hrow6 hV hne2) 0).trans rfl, cell_fr hV hz0 (hne3 _), cell_fr hV hz1 (hne3 _), cell_fr hV hz2 (hne3 _), cell_fr hV hz3 (hne3 _), (blk_cell (blk_fr hq6 hV hne4) 0).trans rfl, (blk_cell (blk_fr hq6 hV hne4) 1).trans rfl, (blk_cell (blk_fr hq6 hV hne4) 2).trans rfl, (blk_cell (blk_fr hq6 hV hne4) 3).trans rfl⟩
   have HS6 := Lib.hid hS6
   have HB1 := Lib.hid (fun V hV => HBEST.out x q V HXM.out hV)
   have hci := hI6.ci.below (below_drew1 (Below.refl W6.heap.size W6))
   have hf : Fr (fun i => i = mb) W6 W6.drew := Fr.of_below (below_drew1 (Below.refl W6.heap.size W6))
   have HQ6 := Lib.hid (blk_below HQ.out hb6)
   have HW6 := Lib.hid (blk_below HW.out hb6)
   have HP6 := Lib.hid (blk_below HP.out hb6)
   have HI6 := Lib.hid hI6
   have HF6 : Hid (Fr (fun i => i = mb ∨ i = ob) W W6) := Lib.hid (HF.out.trans (Fr.of_below hb6))
   have hs6 := hb6.size
   have hmb := HI6.out.lts.2.1
   clear hw0 hw1 hw2 hw3 hI6 HQ HW HP HI HF hb6 hS6
   refine s_ 10 (fun w' => w'.cell? ⟨pb, 0, none⟩ = some (.pointer (some ⟨cb, 0, none⟩)) ∧ w'.cell? ⟨rb, 0, none⟩ = some (.slice (some ad) 2 rc) ∧ w'.cell? (ad.add (j * 4)) = some (.int .i64 x.f0) ∧ w'.cell? ⟨(ad.add (j * 4)).block, (ad.add (j * 4)).off + 1, none⟩ = some (.int .i64 x.f1) ∧ w'.cell? ⟨(ad.add (j * 4)).block, (ad.add (j * 4)).off + 2, none⟩ = some (.int .i64 x.f2) ∧ w'.cell? ⟨(ad.add (j * 4)).block, (ad.add (j * 4)).off + 3, none⟩ = some (.int .i64 x.f3) ∧ w'.cell? ⟨wr.heap.size, 0, none⟩ = some (.bool q.b0) ∧ w'.cell? ⟨wr.heap.size, 1, none⟩ = some (.bool q.b1) ∧ w'.cell? ⟨wr.heap.size, 2, none⟩ = some (.bool q.b2) ∧ w'.cell? ⟨wr.heap.size, 3, none⟩ = some (.bool q.b3)) [9] (HS6.out _ hf) (fun hHeld => ?_)
   refine pa_ 2 #[false, false, true, false, false, false, false, false, false, false] (some 38) ?_
   refine ta_ 0 #[true, false, true, false, false, false, false, false, false, false] (some 36) hHeld ?_
   refine ta_ 1 #[true, true, true, false, false, false, false, false, false, false] (some 37) hHeld ?_
   refine pa_ 3 #[true, true, true, true, false, false, false, false, false, false] (some 39) ?_
   refine ta_ 4 #[true, true, true, true, true, false, false, false, false, false] (some 40) hHeld ?_
   refine ta_ 5 #[true, true, true, true, true, true, false, false, false, false] (some 41) hHeld ?_
   refine pa_ 6 #[true, true, true, true, true, true, true, false, false, false] (some 42) ?_
   refine join_ (σ := Nat) 1 #[true, true, true, true, true, true, true, true, true, false] (fun s => [(43, .agg #[.int .i64 (bestP l a2 x q).worth, .int .i64 (bestP l a2 x q).cuts, .int .i64 (bestP l a2 x q).use, .bool (bestP l a2 x q).cut, .int .i64 (bestP l a2 x q).how.f0, .bool (bestP l a2 x q).how.f1, .int .i64 (bestP l a2 x q).how.f2, .bool (bestP l a2 x q).first.b0, .bool (bestP l a2 x q).first.b1, .bool (bestP l a2 x q).first.b2, .bool (bestP l a2 x q).first.b3]), (10, .pointer (some ⟨s, 0, none⟩))]) (fun s w' => w'.heap[s]? = some (.cells #[.int .i64 0, .int .i64 0, .int .i64 0, .bool false, .int .i64 0, .bool false, .int .i64 0, .bool false, .bool false, .bool false, .bool false] 146 (0, 0)) ∧ W6.heap.size ≤ s ∧ CInv w0 cb mb a0 a1 a2 A c l w' ∧ Fr (fun i => i = mb) W6 w') ?_ ?_
   rotate_left
   ·intro hCont
    refine two_ (i := 7) (j := 8) (Ni := some 43) (Nj := some 10) #[true, true, true, true, true, true, true, true, false, false] #[true, true, true, true, true, true, true, false, true, false] rfl rfl rfl rfl (by kernel_rfl) (by decide) (by decide) (fun K hK => ?_) (fun K hK => ?_)
    ·skip
     refine goes_ Try.func65 (by kernel_rfl) rfl #[.pointer (some ⟨cb, 0, none⟩), .agg #[.int .i64 x.f0, .int .i64 x.f1, .int .i64 x.f2, .int .i64 x.f3, .bool q.b0, .bool q.b1, .bool q.b2, .bool q.b3]] (by rfl) rfl rfl (by simp only [List.map_toArray, List.map_cons, List.map_nil]; rfl) ?_
     with_reducible refine (HB1.out _ hci).mono ?_
     rintro e V7 ⟨rfl, hc7, hfr⟩
     clear hci
     have hci := hc7
     clear hc7
     replace hf := hf.trans hfr
     clear hfr
     refine ⟨_, rfl, ?_⟩
     refine hK.out _ _ (HS6.out _ hf) (fun hHeld => ?_)
     clear hK K
     refine n_ ?_
     refine ea_ 8 #[true, true, true, true, true, true, true, true, true, false] (some 10) (fun K hK => ?_)
     refine pbox_ (.cells #[.int .i64 0, .int .i64 0, .int .i64 0, .bool false, .int .i64 0, .bool false, .int .i64 0, .bool false, .bool false, .bool false, .bool false] 146 (0, 0)) (by rfl) rfl ?_ ?_
     ·first | (go_simp; done) | (go_simp; rfl)
     intro g10 V8 hg10 hl10 hs
     replace hl10 : W6.heap.size ≤ g10 := by have := hf.size; omega
     replace hci := hci.below hs
     replace hf := hf.trans (Fr.of_below hs)
     clear hs
     refine hK.out _ _ (HS6.out _ hf) (fun hHeld => ?_)
     clear hK K
     refine n_ ?_
     exact m_ (hCont g10 _ ⟨hg10, hl10, hci, hf⟩)
    ·skip
     refine pbox_ (.cells #[.int .i64 0, .int .i64 0, .int .i64 0, .bool false, .int .i64 0, .bool false, .int .i64 0, .bool false, .bool false, .bool false, .bool false] 146 (0, 0)) (by rfl) rfl ?_ ?_
     ·first | (go_simp; done) | (go_simp; rfl)
     intro g10 V8 hg10 hl10 hs
     replace hl10 : W6.heap.size ≤ g10 := by have := hf.size; omega
     replace hci := hci.below hs
     replace hf := hf.trans (Fr.of_below hs)
     clear hs
     refine hK.out _ _ (HS6.out _ hf) (fun hHeld => ?_)
     clear hK K
     refine n_ ?_
     refine ea_ 7 #[true, true, true, true, true, true, true, true, true, false] (some 43) (fun K hK => ?_)
     refine goes_ Try.func65 (by kernel_rfl) rfl #[.pointer (some ⟨cb, 0, none⟩), .agg #[.int .i64 x.f0, .int .i64 x.f1, .int .i64 x.f2, .int .i64 x.f3, .bool q.b0, .bool q.b1, .bool q.b2, .bool q.b3]] (by rfl) rfl rfl (by simp only [List.map_toArray, List.map_cons, List.map_nil]; rfl) ?_
     with_reducible refine (HB1.out _ hci).mono ?_
     rintro e V7 ⟨rfl, hc7, hfr⟩
     replace hg10 := blk_fr hg10 hfr (by have := hl10; have := hmb; omega)
     clear hci
     have hci := hc7
     clear hc7
     replace hf := hf.trans hfr
     clear hfr
     refine ⟨_, rfl, ?_⟩
     refine hK.out _ _ (HS6.out _ hf) (fun hHeld => ?_)
     clear hK K
     refine n_ ?_
     exact m_ (hCont g10 _ ⟨hg10, hl10, hci, hf⟩)
   clear hHeld hci hf
   rintro g10 V9 ⟨hg10, hl10, hci, hf⟩
   have hHeld := HS6.out _ hf
   refine m_ ?_
   refine la_ 9 #[true, true, true, true, true, true, true, true, true, true] none (fun K hK => ?_)
   have hk_ := cf11 hg10
   refine skip_ (w1 := ?_) (by rfl) rfl ?_ ?_
   rotate_left
   ·go_simp
    rfl
   refine hK.out _ _ ?_
   clear hK K
   refine done_ (by kernel_rfl) ?_
   have hW10 := put11_blk hg10 (.int .i64 (bestP l a2 x q).worth) (.int .i64 (bestP l a2 x q).cuts) (.int .i64 (bestP l a2 x q).use) (.bool (bestP l a2 x q).cut) (.int .i64 (bestP l a2 x q).how.f0) (.bool (bestP l a2 x q).how.f1) (.int .i64 (bestP l a2 x q).how.f2) (.bool (bestP l a2 x q).first.b0) (.bool (bestP l a2 x q).first.b1) (.bool (bestP l a2 x q).first.b2) (.bool (bestP l a2 x q).first.b3)
   have hfr10 := put11_fr V9 g10 (.int .i64 (bestP l a2 x q).worth) (.int .i64 (bestP l a2 x q).cuts) (.int .i64 (bestP l a2 x q).use) (.bool (bestP l a2 x q).cut) (.int .i64 (bestP l a2 x q).how.f0) (.bool (bestP l a2 x q).how.f1) (.int .i64 (bestP l a2 x q).how.f2) (.bool (bestP l a2 x q).first.b0) (.bool (bestP l a2 x q).first.b1) (.bool (bestP l a2 x q).first.b2) (.bool (bestP l a2 x q).first.b3)
   obtain ⟨W10, hWe⟩ : ∃ W10, put11 V9 g10 (.int .i64 (bestP l a2 x q).worth) (.int .i64 (bestP l a2 x q).cuts) (.int .i64 (bestP l a2 x q).use) (.bool (bestP l a2 x q).cut) (.int .i64 (bestP l a2 x q).how.f0) (.bool (bestP l a2 x q).how.f1) (.int .i64 (bestP l a2 x q).how.f2) (.bool (bestP l a2 x q).first.b0) (.bool (bestP l a2 x q).first.b1) (.bool (bestP l a2 x q).first.b2) (.bool (bestP l a2 x q).first.b3) = W10 := ⟨_, rfl⟩
   rw [hWe] at hW10 hfr10
   unfold put11 at hWe
   rw [hWe]
   clear hWe hHeld hk_
   obtain ⟨l1, l2, l3, l4, l5, l6, l7, l8⟩ := HI6.out.lts
   have hsW := HF6.out.size
   have hbW : base ≤ W6.heap.size := by omega
   have hf10 : Fr (fun i => i = mb) W6 W10 := hf.trans' hfr10 (fun i hi e => by subst e; omega)
   have hci10 := hci.fr hfr10 (by omega) (by omega) (fun k hk => by subst hk; omega)
   have hI10 := HI6.out.fr hf10 (fun i e => .inl e) hci10
   have hQ10 := blk_fr HQ6.out hf10 (by omega)
   have HW10 := Lib.hid (blk_fr HW6.out hf10 (by omega))
   have HP10 := Lib.hid (blk_fr HP6.out hf10 (by omega))
   have HF10 : Hid (Fr (fun i => i = mb ∨ i = ob) W W10) := Lib.hid (HF6.out.trans' hf10 (fun i _ e => .inl e))
   have hs10 := hf10.size
   have HI10 := Lib.hid hI10
   have hg0 : W10.cell? ⟨W.heap.size + 1, 0, none⟩ = some (.int .i64 g.1) := (blk_cell hQ10 0).trans rfl
   have hg1 : W10.cell? ⟨W.heap.size + 1, 1, none⟩ = some (.int .i64 g.2) := (blk_cell hQ10 1).trans rfl
   have hgf0 : W10.frozen? ⟨W.heap.size + 1, 0, none⟩ = false := blk_frozen hQ10 0
   have hgf1 : W10.frozen? ⟨W.heap.size + 1, 1, none⟩ = false := blk_frozen hQ10 1
   have hq6l := blk_lt HQ6.out
   have hgne : g10 ≠ W.heap.size + 1 := by omega
   have hgn' : (g10 == W.heap.size + 1) = false := by simpa using hgne
   clear HB1 HXM hf hci hg10 hl10 HI6 HQ6 HW6 HP6 HF6 HS6 hz0 hz1 hz2 hz3 hptr6 hrow6 hq6 hfr10 hf10 hci10 hI10
   generalize bestP l a2 x q = s at *
   go_wp2
   refine s_ 16 (fun w' => w'.cell? ⟨W.heap.size + 1, 1, none⟩ = some (.int .i64 g.2) ∧ w'.cell? ⟨g10, 0, none⟩ = some (.int .i64 s.worth) ∧ w'.cell? ⟨g10, 1, none⟩ = some (.int .i64 s.cuts)) [15] ⟨hg1, (cB hW10), (cB hW10)⟩ (fun hHeld => ?_)
   refine p_ 0 (some 44) ?_
   refine p_ 2 (some 46) ?_
   refine p_ 3 (some 47) ?_
   refine p_ 6 (some 50) ?_
   refine p_ 8 (some 52) ?_
   refine p_ 9 (some 53) ?_
   refine t_ 4 (some 48) hHeld ?_
   refine t_ 7 (some 51) hHeld ?_
   refine t_ 10 (some 54) hHeld ?_
   refine p_ 11 (some 55) ?_
   refine e_ 1 (some 45) (fun K hK => ?_)
   refine value_ (w1 := ?_) (v := ?_) (by rfl) rfl ?_ ?_
   rotate_left 2
   ·go_simp
    constructor
    ·rfl
    ·rfl
   refine hK.out _ _ ⟨hHeld.1, hHeld.2.1, hHeld.2.2⟩ (fun hHeld => ?_)
   clear hK K
   refine n_ ?_
   refine p_ 5 (some 49) ?_
   refine p_ 12 (some 56) ?_
   refine e_ 13 none (fun K hK => ?_)
   refine skip_ (w1 := ?_) (by rfl) rfl ?_ ?_
   rotate_left
   ·go_simp
    rfl
   refine hK.out _ _ ⟨(by go_simp), (by go_simp; exact (blk_cell hW10 0).trans rfl), (by go_simp; exact (blk_cell hW10 1).trans rfl)⟩ (fun hHeld => ?_)
   clear hK K
   refine p_ 14 (some 57) ?_
   refine l_ 15 none (fun K hK => ?_)
   refine skip_ (w1 := ?_) (by rfl) rfl ?_ ?_
   rotate_left
   ·go_simp
    rfl
   refine hK.out _ _ ?_
   clear hK K
   refine done_ (by kernel_rfl) ?_
   have hQ11 := blk_put (cs' := #[.int .i64 (wrap64 (g.1 + s.worth)), .int .i64 g.2]) hQ10 0 (.int .i64 (wrap64 (g.1 + s.worth))) rfl
   have hQ12 := blk_put (cs' := #[.int .i64 (wrap64 (g.1 + s.worth)), .int .i64 (wrap64 (g.2 + s.cuts))]) hQ11 1 (.int .i64 (wrap64 (g.2 + s.cuts))) rfl
   have hfr12 : Fr (fun i => i = W.heap.size + 1) W10 ((W10.setCell ⟨W.heap.size + 1, 0, none⟩ (.int .i64 (wrap64 (g.1 + s.worth)))).setCell ⟨W.heap.size + 1, 1, none⟩ (.int .i64 (wrap64 (g.2 + s.cuts)))) := by
    have st : ∀ {V : World} {j : Nat} {u : Value}, Fr (fun i => i = W.heap.size + 1) W10 V → Fr (fun i => i = W.heap.size + 1) W10 (V.setCell ⟨W.heap.size + 1, j, none⟩ u) := fun h => h.set (.inl rfl)
    exact st (st (Fr.refl _ W10))
   obtain ⟨W12, hWe⟩ : ∃ W12, (W10.setCell ⟨W.heap.size + 1, 0, none⟩ (.int .i64 (wrap64 (g.1 + s.worth)))).setCell ⟨W.heap.size + 1, 1, none⟩ (.int .i64 (wrap64 (g.2 + s.cuts))) = W12 := ⟨_, rfl⟩
   rw [hWe] at hQ12 hfr12 ⊢
   have hd12 : Fr (fun i => i = W.heap.size + 1) W10 W12.drew := hfr12.trans (Fr.of_below (below_drew1 (Below.refl W12.heap.size W12)))
   have hQ13 := blk_below hQ12 (below_drew1 (Below.refl W12.heap.size W12))
   clear hWe hHeld hQ10 hQ11 hQ12 hfr12 hg0 hg1 hgf0 hgf1
   generalize W12.drew = W13 at *
   have HQ13 := Lib.hid hQ13
   have HW13 := Lib.hid (blk_fr HW10.out hd12 (by omega))
   have HP13 := Lib.hid (blk_fr HP10.out hd12 (by omega))
   have HI13 := Lib.hid (HI10.out.fr hd12 (fun i e => .inr (by omega)) (HI10.out.ci.fr hd12 (by omega) (by omega) (fun k e => by omega)))
   have HF13 : Hid (Fr (fun i => i = mb ∨ i = ob) W W13) := Lib.hid (HF10.out.trans' hd12 (fun i hi e => absurd hi (by omega)))
   have hb13 : base ≤ W13.heap.size := by have := hd12.size; omega
   clear hd12 hQ13 HW10 HP10 HI10 HF10 hW10
   go_wp2
   go_roundw
   case rel => exact ⟨j + 1, (wrap64 (g.1 + s.worth), wrap64 (g.2 + s.cuts)), by go_num, by omega, HGN, HQ13, HW13, HP13, HI13, HF13, hb13⟩
   case measure => simp [intOf]; omega
  ·obtain rfl : j = 2 := by omega
   obtain rfl : g = G := seeRound_end (by rw [HLN.out]; exact HG.out) HLE.out
   obtain ⟨l1, l2, l3, l4, l5, l6, l7, l8⟩ := HI.out.lts
   obtain ⟨b, hbb⟩ : ∃ b, better g.1 g.2 out.worth out.cuts = b := ⟨_, rfl⟩
   have H85 := Lib.hid (fun W => plate_gain_better.calls g.1 g.2 out.worth out.cuts b W (by rw [better_f, hbb]))
   have HBB := Lib.hid hbb
   have hg0 : wr.cell? ⟨W.heap.size + 1, 0, none⟩ = some (.int .i64 g.1) := (blk_cell HQ.out 0).trans rfl
   have hg1 : wr.cell? ⟨W.heap.size + 1, 1, none⟩ = some (.int .i64 g.2) := (blk_cell HQ.out 1).trans rfl
   have ho0 : wr.cell? ⟨ob, 0, none⟩ = some (.int .i64 out.worth) := (blk_cell HI.out.out 0).trans rfl
   have ho1 : wr.cell? ⟨ob, 1, none⟩ = some (.int .i64 out.cuts) := (blk_cell HI.out.out 1).trans rfl
   clear hbb HGG HG HW HBEST
   cases b with
   | false =>
    go_wp2_with (go_at_call 85; refine (H85.out _).mono ?_; rintro e w12 ⟨rfl, hb12⟩)
    go_end0
    refine ⟨rfl, ?_, HF.out.trans (Fr.of_below hb12)⟩
    rw [HSEE.out, HBB.out]
    exact HI.out.below (hb12.mono hbw)
   | true =>
    go_wp2_with (go_at_call 85; refine (H85.out _).mono ?_; rintro e w12 ⟨rfl, hb12⟩; have hQ12 := blk_below HQ.out hb12; have hP12 := blk_below HP.out hb12; have hI12 := HI.out.below (hb12.mono hbw); have hK12 := hI12.cut; have hO12 := hI12.out; have hpp_ := c2 hQ12; have hkk_ := c3 hK12; have huu_ := c4 hP12; have hoo_ := cf11 hO12; have HI12 := Lib.hid hI12; have HO12 := Lib.hid hO12; clear hQ12 hP12 hI12 hK12 hO12)
    refine bodyPost_end (results_none rfl _ _ _) rfl ?_
    have hO13 := put11_blk HO12.out (.int .i64 g.1) (.int .i64 g.2) (.int .i64 (-1)) (.bool true) (.int .i64 k.f0) (.bool k.f1) (.int .i64 k.f2) (.bool u.b0) (.bool u.b1) (.bool u.b2) (.bool u.b3)
    have hfr13 := put11_fr w12 ob (.int .i64 g.1) (.int .i64 g.2) (.int .i64 (-1)) (.bool true) (.int .i64 k.f0) (.bool k.f1) (.int .i64 k.f2) (.bool u.b0) (.bool u.b1) (.bool u.b2) (.bool u.b3)
    obtain ⟨W13, hWe⟩ : ∃ W13, put11 w12 ob (.int .i64 g.1) (.int .i64 g.2) (.int .i64 (-1)) (.bool true) (.int .i64 k.f0) (.bool k.f1) (.int .i64 k.f2) (.bool u.b0) (.bool u.b1) (.bool u.b2) (.bool u.b3) = W13 := ⟨_, rfl⟩
    rw [hWe] at hO13 hfr13
    unfold put11 at hWe
    rw [hWe]
    clear hWe
    have hI12 := HI12.out
    have hne1 := hI12.cell_ne hI12.out
    have hff : Fr (fun i => i = mb ∨ i = ob) W W13 := (HF.out.trans (Fr.of_below hb12)).trans' hfr13 (fun i _ e => .inr e)
    have hb13 := hb12.size
    refine ⟨rfl, ?_, hff⟩
    rw [HSEE.out, HBB.out]
    have hci := hI12.ci.fr hfr13 (fun e => ne_type hI12.ci.blk hI12.out (by decide) e) (fun e => hne1 e.symm) (fun k e => by subst e; exact hI12.nes)
    exact ⟨hci, blk_fr hI12.row hfr13 (ne_type hI12.row hI12.out (by decide)), own_fr hI12.own hfr13 (fun i hi e => hI12.own_ne_ob i hi e), blk_fr hI12.st hfr13 (ne_type hI12.st hI12.out (by decide)), blk_fr hI12.ptr hfr13 (ne_type hI12.ptr hI12.out (by decide)), hO13, blk_fr hI12.cut hfr13 (ne_type hI12.cut hI12.out (by decide)), hI12.lts, hI12.ltr, hI12.nes⟩
end
end Go.Proofs.Ytffjbaknglemdaa.X
