import Derived.Test.YtffjbaknglemdaaHD0
import Derived.Maps.Keyed
import Derived.WideLaws
import Derived.MapKept
import Derived.DeepKeys4
namespace Go.Proofs.Ytffjbaknglemdaa.X
open Go.RowKit Go.Maps Go.Proofs.YtffjbaknglemdaaW.PrintWords Go.Proofs.YtffjbaknglemdaaW.PrintLast Go.Proofs.YtffjbaknglemdaaW.PrintMore
set_option linter.unusedSimpArgs false
set_option linter.unusedVariables false

/-! ### maps, by their entries -/
/-- Block b is a map with these entries, each under a key. -/
structure AMap (w : World) (b : Nat) (k : TypeId) (es : List MapEntry) : Prop where
 blk : ∃ cl, w.heap[b]? = some (.map es.toArray cl)
 keys : ∀ e ∈ es, ∃ l, keyOf Try.prog k e.key = some l
theorem AMap.made (w : World) (k : TypeId) : AMap (w.alloc (.map #[] 0)) w.heap.size k [] := ⟨⟨0, heap_alloc_new w _⟩, by simp⟩
theorem AMap.lt {w : World} {b : Nat} {k : TypeId} {es : List MapEntry} (h : AMap w b k es) : b < w.heap.size := by obtain ⟨c, hb⟩ := h.blk; exact blk_lt hb
theorem AMap.below {w w' : World} {b : Nat} {k : TypeId} {es : List MapEntry} (h : AMap w b k es) (hb : Below w.heap.size w w') : AMap w' b k es := by
 obtain ⟨c, h1⟩ := h.blk; exact ⟨⟨c, blk_below h1 hb⟩, h.keys⟩
theorem AMap.grown {w w' : World} {b : Nat} {k : TypeId} {es : List MapEntry} {row : Option Nat} (h : AMap w b k es) (hg : w.grownBy w' row) (hne : some b ≠ row) : AMap w' b k es := by
 obtain ⟨c, h1⟩ := h.blk; exact ⟨⟨c, blk_grown h1 hg hne⟩, h.keys⟩
theorem AMap.ne_cells {w : World} {b g : Nat} {k : TypeId} {es : List MapEntry} {cs : Array Value} {t : TypeId} {fr : Nat × Nat} (h : AMap w b k es) (hg : w.heap[g]? = some (.cells cs t fr)) : b ≠ g := by
 rintro rfl; obtain ⟨c, h1⟩ := h.blk; rw [h1] at hg; cases hg
theorem AMap.ne_own {w : World} {b : Nat} {k : TypeId} {es : List MapEntry} {base : Nat} {e : TypeId} {size n : Nat} {v : Value} {xs : List Value} (h : AMap w b k es) (ho : w.ownsRow base e size v n xs) : some b ≠ v.ownBlock := fun he => by
 obtain ⟨cells, hc⟩ := own_typed ho b he.symm
 exact h.ne_cells hc rfl

theorem AMap.look {w : World} {b : Nat} {k t e : TypeId} {es : List MapEntry} (h : AMap w b k es) (K : Keyed Try.prog k) (ht : Try.prog.underlying t = some (.map k e)) {z : Value} (hz : (zeroValue e).run Try.prog w = .ok z w) {key : Value} {kl : Lit} (hkey : keyOf Try.prog k key = some kl) (c : Bool) :
  ((Instr.lookup t (.map (some b)) key c).run Try.prog w = .ok (if c then .tuple #[z, .bool false] else z) w ∧ ∀ x ∈ es, x.key ≠ key) ∨
  ∃ e0 ∈ es, e0.key = key ∧ (Instr.lookup t (.map (some b)) key c).run Try.prog w = .ok (if c then .tuple #[e0.val, .bool true] else e0.val) w := by
 obtain ⟨cl, hb⟩ := h.blk
 rcases K.find w hkey es h.keys with ⟨h1, h2⟩ | ⟨j, e0, h1, h2, h3⟩
 ·exact .inl ⟨by simp [Instr.lookup, run_underlying ht, MapKept.run_getObj_map hb, K.check w _ hkey, h1, hz, Result.andThen], h2⟩
 ·exact .inr ⟨e0, List.mem_of_getElem? h2, h3, by simp [Instr.lookup, run_underlying ht, MapKept.run_getObj_map hb, K.check w _ hkey, h1, Result.andThen]⟩

theorem AMap.update {w : World} {b : Nat} {k t e : TypeId} {es : List MapEntry} (h : AMap w b k es) (K : Keyed Try.prog k) (ht : Try.prog.underlying t = some (.map k e)) {key val : Value} {kl : Lit} (hkey : keyOf Try.prog k key = some kl) :
  ∃ w' es', (Instr.mapUpdate t (.map (some b)) key val).run Try.prog w = .ok () w' ∧ AMap w' b k es' ∧ w.grownBy w' (some b) ∧ (∀ x ∈ es', x ∈ es ∨ (x.key = key ∧ x.val = val)) ∧ (∀ x ∈ es, x.key ≠ key → x ∈ es') ∧ ∃ x ∈ es', x.key = key ∧ x.val = val := by
 obtain ⟨cl, hb⟩ := h.blk
 have hlt := blk_lt hb
 have hgr : ∀ o, w.grownBy { w with heap := w.heap.setIfInBounds b o } (some b) := fun o => ⟨rfl, rfl, rfl, by simp, fun i hi hne => by
  have : b ≠ i := fun e => hne (by rw [e])
  simp [Array.getElem?_setIfInBounds, this]⟩
 have hnew : ∀ o, ({ w with heap := w.heap.setIfInBounds b o } : World).heap[b]? = some o := fun o => by simp [Array.getElem?_setIfInBounds, hlt]
 rcases K.find w hkey es h.keys with ⟨h1, h2⟩ | ⟨j, e0, h1, h2, h3⟩
 ·refine ⟨_, es ++ [{ key, val, born := cl }], by simp [Instr.mapUpdate, run_underlying ht, MapKept.run_getObj_map hb, K.check w _ hkey, h1, MapKept.run_setObj_map _ hb, Result.andThen]; rfl, ⟨⟨cl + 1, ?_⟩, ?_⟩, hgr _, ?_, ?_, ?_⟩
  ·rw [hnew]
  ·intro x hx
   rcases List.mem_append.1 hx with hx | hx
   ·exact h.keys x hx
   ·simp at hx; subst hx; exact ⟨kl, hkey⟩
  ·intro x hx
   rcases List.mem_append.1 hx with hx | hx
   ·exact .inl hx
   ·simp at hx; subst hx; exact .inr ⟨rfl, rfl⟩
  ·intro x hx _; exact List.mem_append_left _ hx
  ·exact ⟨_, List.mem_append_right _ (List.mem_singleton.2 rfl), rfl, rfl⟩
 ·have hj : j < es.length := (List.getElem?_eq_some_iff.1 h2).1
  have hje : es[j] = e0 := (List.getElem?_eq_some_iff.1 h2).2
  refine ⟨_, es.set j { e0 with key, val := val }, by
   simp [Instr.mapUpdate, run_underlying ht, MapKept.run_getObj_map hb, K.check w _ hkey, h1, h2, h3, K.stays w hkey, MapKept.run_setObj_map _ hb, Result.andThen]; rfl, ⟨⟨cl, ?_⟩, ?_⟩, hgr _, ?_, ?_, ?_⟩
  ·rw [hnew]
   refine congrArg (fun a => some (Obj.map a cl)) ?_
   rw [List.modify_eq_set, h2]
   rfl
  ·intro x hx
   rcases List.mem_or_eq_of_mem_set hx with hx | rfl
   ·exact h.keys x hx
   ·exact ⟨kl, hkey⟩
  ·intro x hx
   rcases List.mem_or_eq_of_mem_set hx with hx | rfl
   ·exact .inl hx
   ·exact .inr ⟨rfl, rfl⟩
  ·intro x hx hne
   obtain ⟨i, hi, hie⟩ := List.mem_iff_getElem.1 hx
   have hij : j ≠ i := fun e => hne (by subst e; rw [← hie, hje, h3])
   exact List.mem_iff_getElem.2 ⟨i, by simpa using hi, by rw [List.getElem_set_ne hij, hie]⟩
  ·exact ⟨_, List.mem_iff_getElem.2 ⟨j, by simpa using hj, by rw [List.getElem_set_self]⟩, rfl, rfl⟩

/-- used: the numbers of pieces that are used. -/
structure UMap (w : World) (b : Nat) (L : List Int) : Prop where
 out : ∃ es, AMap w b 3 es ∧ (∀ e ∈ es, ∃ n, e.key = .int .i64 n ∧ e.val = .bool true ∧ n ∈ L) ∧ ∀ n ∈ L, ∃ e ∈ es, e.key = .int .i64 n
theorem UMap.made (w : World) : UMap (w.alloc (.map #[] 0)) w.heap.size [] := ⟨[], AMap.made w 3, by simp, by simp⟩
theorem UMap.below {w w' : World} {b : Nat} {L : List Int} (h : UMap w b L) (hb : Below w.heap.size w w') : UMap w' b L := by obtain ⟨es, h1, h2⟩ := h.out; exact ⟨es, h1.below hb, h2⟩
theorem int_key {n : Int} (h : -9223372036854775808 ≤ n ∧ n ≤ 9223372036854775807) : keyOf Try.prog 3 (.int .i64 n) = some (.int .i64 n) := keyOf_int_mk Try.underlying3 (by have e1 : IntKind.i64.min = -9223372036854775808 := (by decide); have e2 : IntKind.i64.max = 9223372036854775807 := (by decide); simp [Lit.wf, e1, e2]; omega)
theorem UMap.look {w : World} {b : Nat} {L : List Int} (h : UMap w b L) (n : Int) (hn : -9223372036854775808 ≤ n ∧ n ≤ 9223372036854775807) : (Instr.lookup 173 (.map (some b)) (.int .i64 n) false).run Try.prog w = .ok (.bool (decide (n ∈ L))) w := by
 obtain ⟨es, h1, h2, h3⟩ := h.out
 rcases h1.look (int_keyed Try.underlying3) Try.underlying173 (z := .bool false) (by kernel_rfl) (int_key hn) false with ⟨hr, hne⟩ | ⟨e0, he0, hk, hr⟩
 ·have hd : decide (n ∈ L) = false := decide_eq_false (fun hm => by obtain ⟨e, he, hk⟩ := h3 n hm; exact hne e he hk)
  rw [hr, hd]; rfl
 ·obtain ⟨m, hm1, hm2, hm3⟩ := h2 e0 he0
  rw [hk] at hm1; simp only [Value.int.injEq, true_and] at hm1; subst hm1
  rw [hr, hm2, decide_eq_true hm3]; rfl
theorem UMap.put {w : World} {b : Nat} {L : List Int} (h : UMap w b L) (n : Int) (hn : -9223372036854775808 ≤ n ∧ n ≤ 9223372036854775807) : ∃ w', (Instr.mapUpdate 173 (.map (some b)) (.int .i64 n) (.bool true)).run Try.prog w = .ok () w' ∧ UMap w' b (n :: L) ∧ w.grownBy w' (some b) := by
 obtain ⟨es, h1, h2, h3⟩ := h.out
 obtain ⟨w', es', hr, ha, hg, m1, m2, m3⟩ := h1.update (int_keyed Try.underlying3) Try.underlying173 (val := .bool true) (int_key hn)
 refine ⟨w', hr, ⟨es', ha, ?_, ?_⟩, hg⟩
 ·intro e he
  rcases m1 e he with he | ⟨hk, hv⟩
  ·obtain ⟨m, a, b, c⟩ := h2 e he; exact ⟨m, a, b, List.mem_cons_of_mem _ c⟩
  ·exact ⟨n, hk, hv, List.mem_cons_self⟩
 ·intro m hm
  by_cases hmn : m = n
  ·subst hmn; obtain ⟨e, he, hk, _⟩ := m3; exact ⟨e, he, hk⟩
  ·rcases List.mem_cons.1 hm with hm | hm
   ·exact absurd hm hmn
   ·obtain ⟨e, he, hk⟩ := h3 m hm
    exact ⟨e, m2 e he (by rw [hk]; simpa using hmn), hk⟩
end Go.Proofs.Ytffjbaknglemdaa.X
