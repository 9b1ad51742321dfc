/- Layer 2, mem: a memory as three blocks; what each method does to it, by a walk over its text. -/
import Derived.Test.YtnpjfdiapoghnaaWord
import Derived.Lib.Hide
import Derived.StillTailTactics
import Derived.RegionTactic
import Derived.Laws.MakeOwn
import Derived.Laws.Pointers

namespace Go.Proofs.Ytnpjfdiapoghnaa
open Go Go.RowKit

/-- A memory's state. -/
structure Ms where
  n : Nat
  w : Nat → Int
  h : Nat → Int
  steps : Int
  who : Int
  la : Int
  lw : Int
  lc : Bool

def upd (f : Nat → Int) (k : Nat) (v : Int) : Nat → Int := fun j => if j = k then v else f j
/-- A step at a word. -/
def Ms.step (m : Ms) (k : Nat) : Ms := { m with steps := m.steps + 1, la := k, lw := m.who, lc := false }
/-- A word is laid, in a step. -/
def Ms.set (m : Ms) (k : Nat) (v : Int) : Ms := { m with w := upd m.w k v, h := (if m.w k = v then m.h else upd m.h k m.steps), lc := !(m.w k == v) }

/-- The memory lies in block g, its words in gw, the steps of their last changes in gh. -/
structure MemAt (W : World) (g gw gh : Nat) (m : Ms) : Prop where
  obj : W.heap[g]? = some (.cells #[.slice (some ⟨gw, 0, none⟩) m.n m.n, .slice (some ⟨gh, 0, none⟩) m.n m.n, .int .i64 m.steps, .int .i64 m.who, .int .i64 m.la, .int .i64 m.lw, .bool m.lc] 115 (0, 0))
  words : ∃ cs : Array Value, W.heap[gw]? = some (.cells cs 24 (0, 0)) ∧ cs.size = m.n ∧ ∀ j, j < m.n → cs[j]? = some (.int .u64 (m.w j))
  whens : ∃ cs : Array Value, W.heap[gh]? = some (.cells cs 3 (0, 0)) ∧ cs.size = m.n ∧ ∀ j, j < m.n → cs[j]? = some (.int .i64 (m.h j))
  size : m.n ≤ 1048576
  bnd : ∀ j, j < m.n → 0 ≤ m.w j ∧ m.w j < 18446744073709551616
  st0 : 0 ≤ m.steps

/-- But for three blocks, the world is as it was. -/
structure Keep3 (g gw gh : Nat) (W W' : World) : Prop where
  os : W'.os = W.os
  tape : W'.tape = W.tape
  output : W'.output = W.output
  size : W.heap.size ≤ W'.heap.size
  block : ∀ k, k < W.heap.size → k ≠ g → k ≠ gw → k ≠ gh → W'.heap[k]? = W.heap[k]?

theorem heap_set_self {W : World} {g : Nat} {cs : Array Value} {t : TypeId} {fr : Nat × Nat} (i : Nat) (v : Value) (h : W.heap[g]? = some (.cells cs t fr)) : (W.setCell ⟨g, i, none⟩ v).heap[g]? = some (.cells (cs.setIfInBounds i v) t fr) := by
  simp [World.setCell, Array.getElem?_modify, h]
theorem heap_set_far {W : World} {g : Nat} {p : Addr} (v : Value) (h : g ≠ p.block) : (W.setCell p v).heap[g]? = W.heap[g]? := Below.heap_setCell W p v g h
theorem lt_of_heap {W : World} {g : Nat} {o : Obj} (h : W.heap[g]? = some o) : g < W.heap.size := (Array.getElem?_eq_some_iff.1 h).1
theorem frozen_of {W : World} {g : Nat} {cs : Array Value} {t : TypeId} (i : Nat) (h : W.heap[g]? = some (.cells cs t (0, 0))) : W.frozen? ⟨g, i, none⟩ = false := by simp [World.frozen?, h]

section
variable {g gw gh : Nat} {W W' W1 : World} {m : Ms}
theorem Keep3.refl : Keep3 g gw gh W W := ⟨rfl, rfl, rfl, Nat.le_refl _, fun _ _ _ _ _ => rfl⟩
theorem Keep3.trans (h : Keep3 g gw gh W W1) (k : Keep3 g gw gh W1 W') : Keep3 g gw gh W W' :=
  ⟨k.os.trans h.os, k.tape.trans h.tape, k.output.trans h.output, Nat.le_trans h.size k.size, fun i hi a b c => (k.block i (Nat.lt_of_lt_of_le hi h.size) a b c).trans (h.block i hi a b c)⟩
theorem Keep3.of_below (h : Below W.heap.size W W') : Keep3 g gw gh W W' := ⟨h.os, h.tape, h.output, h.size, fun i hi _ _ _ => h.block i hi⟩
theorem Keep3.setCell (h : Keep3 g gw gh W W1) {p : Addr} (hp : p.block = g ∨ p.block = gw ∨ p.block = gh) (v : Value) : Keep3 g gw gh W (W1.setCell p v) :=
  h.trans ⟨rfl, rfl, rfl, by simp [World.setCell], fun i _ a b c => heap_set_far v (by rcases hp with h | h | h <;> omega)⟩
theorem Keep3.drew (h : Keep3 g gw gh W W1) : Keep3 g gw gh W W1.drew := ⟨h.os, h.tape, h.output, h.size, h.block⟩
theorem Keep3.drewN (h : Keep3 g gw gh W W1) (n : Nat) : Keep3 g gw gh W (W1.drewN n) := ⟨h.os, h.tape, h.output, h.size, h.block⟩
theorem Keep3.alloc (h : Keep3 g gw gh W W1) (o : Obj) : Keep3 g gw gh W (W1.alloc o) := h.trans (Keep3.of_below (below_new _ _))
theorem Keep3.below (h : Keep3 g gw gh W W') {B : Nat} (a : B ≤ g) (b : B ≤ gw) (c : B ≤ gh) (hB : B ≤ W.heap.size) : Below B W W' :=
  ⟨h.os, h.tape, h.output, h.size, fun k hk => h.block k (by omega) (by omega) (by omega) (by omega)⟩
/-- A block of another's: it is as it was. -/
theorem Keep3.heap (h : Keep3 g gw gh W W') {b : Nat} {o : Obj} (hb : W.heap[b]? = some o) (a1 : b ≠ g) (a2 : b ≠ gw) (a3 : b ≠ gh) : W'.heap[b]? = some o := (h.block b (lt_of_heap hb) a1 a2 a3).trans hb

theorem MemAt.ne1 (h : MemAt W g gw gh m) : g ≠ gw := by
  rintro rfl; obtain ⟨cs, e, _⟩ := h.words; rw [h.obj] at e; simp at e
theorem MemAt.ne2 (h : MemAt W g gw gh m) : g ≠ gh := by
  rintro rfl; obtain ⟨cs, e, _⟩ := h.whens; rw [h.obj] at e; simp at e
theorem MemAt.ne3 (h : MemAt W g gw gh m) : gw ≠ gh := by
  rintro rfl; obtain ⟨cs, e, _⟩ := h.words; obtain ⟨cs', e', _⟩ := h.whens; rw [e] at e'; simp at e'
theorem MemAt.lt (h : MemAt W g gw gh m) : g < W.heap.size := lt_of_heap h.obj
theorem MemAt.ltw (h : MemAt W g gw gh m) : gw < W.heap.size := by obtain ⟨_, e, _⟩ := h.words; exact lt_of_heap e
theorem MemAt.lth (h : MemAt W g gw gh m) : gh < W.heap.size := by obtain ⟨_, e, _⟩ := h.whens; exact lt_of_heap e
theorem MemAt.c0 (h : MemAt W g gw gh m) : W.cell? ⟨g, 0, none⟩ = some (.slice (some ⟨gw, 0, none⟩) m.n m.n) := cell_of_row W g 0 _ _ _ h.obj
theorem MemAt.c1 (h : MemAt W g gw gh m) : W.cell? ⟨g, 1, none⟩ = some (.slice (some ⟨gh, 0, none⟩) m.n m.n) := cell_of_row W g 1 _ _ _ h.obj
theorem MemAt.c2 (h : MemAt W g gw gh m) : W.cell? ⟨g, 2, none⟩ = some (.int .i64 m.steps) := cell_of_row W g 2 _ _ _ h.obj
theorem MemAt.c3 (h : MemAt W g gw gh m) : W.cell? ⟨g, 3, none⟩ = some (.int .i64 m.who) := cell_of_row W g 3 _ _ _ h.obj
theorem MemAt.c4 (h : MemAt W g gw gh m) : W.cell? ⟨g, 4, none⟩ = some (.int .i64 m.la) := cell_of_row W g 4 _ _ _ h.obj
theorem MemAt.c5 (h : MemAt W g gw gh m) : W.cell? ⟨g, 5, none⟩ = some (.int .i64 m.lw) := cell_of_row W g 5 _ _ _ h.obj
theorem MemAt.c6 (h : MemAt W g gw gh m) : W.cell? ⟨g, 6, none⟩ = some (.bool m.lc) := cell_of_row W g 6 _ _ _ h.obj
theorem MemAt.fr (h : MemAt W g gw gh m) (i : Nat) : W.frozen? ⟨g, i, none⟩ = false := frozen_of i h.obj
theorem MemAt.cw (h : MemAt W g gw gh m) {k : Nat} (hk : k < m.n) : W.cell? ⟨gw, k, none⟩ = some (.int .u64 (m.w k)) := by
  obtain ⟨cs, e, _, hc⟩ := h.words; exact (cell_of_row W gw k _ _ _ e).trans (hc k hk)
theorem MemAt.frw (h : MemAt W g gw gh m) (i : Nat) : W.frozen? ⟨gw, i, none⟩ = false := by obtain ⟨_, e, _⟩ := h.words; exact frozen_of i e
theorem MemAt.ch (h : MemAt W g gw gh m) {k : Nat} (hk : k < m.n) : W.cell? ⟨gh, k, none⟩ = some (.int .i64 (m.h k)) := by
  obtain ⟨cs, e, _, hc⟩ := h.whens; exact (cell_of_row W gh k _ _ _ e).trans (hc k hk)
theorem MemAt.frh (h : MemAt W g gw gh m) (i : Nat) : W.frozen? ⟨gh, i, none⟩ = false := by obtain ⟨_, e, _⟩ := h.whens; exact frozen_of i e
theorem MemAt.below (h : MemAt W g gw gh m) (hb : Below W.heap.size W W') : MemAt W' g gw gh m := by
  obtain ⟨cs, e, h1⟩ := h.words
  obtain ⟨cs', e', h1'⟩ := h.whens
  exact ⟨(hb.block _ h.lt).trans h.obj, ⟨cs, (hb.block _ h.ltw).trans e, h1⟩, ⟨cs', (hb.block _ h.lth).trans e', h1'⟩, h.size, h.bnd, h.st0⟩
theorem MemAt.drew (h : MemAt W g gw gh m) : MemAt W.drew g gw gh m := ⟨h.obj, h.words, h.whens, h.size, h.bnd, h.st0⟩
theorem MemAt.drewN (h : MemAt W g gw gh m) (n : Nat) : MemAt (W.drewN n) g gw gh m := ⟨h.obj, h.words, h.whens, h.size, h.bnd, h.st0⟩
/-- A store elsewhere. -/
theorem MemAt.far (h : MemAt W g gw gh m) {p : Addr} (v : Value) (a : g ≠ p.block) (b : gw ≠ p.block) (c : gh ≠ p.block) : MemAt (W.setCell p v) g gw gh m := by
  obtain ⟨cs, e, h1⟩ := h.words
  obtain ⟨cs', e', h1'⟩ := h.whens
  exact ⟨(heap_set_far v a).trans h.obj, ⟨cs, (heap_set_far v b).trans e, h1⟩, ⟨cs', (heap_set_far v c).trans e', h1'⟩, h.size, h.bnd, h.st0⟩
end

/-! ### step -/
theorem step_ends {W : World} {g gw gh : Nat} {m : Ms} (h : MemAt W g gw gh m) (k : Nat) :
    MemAt ((((W.setCell ⟨g, 2, none⟩ (.int .i64 (m.steps + 1))).setCell ⟨g, 4, none⟩ (.int .i64 k)).setCell ⟨g, 5, none⟩ (.int .i64 m.who)).setCell ⟨g, 6, none⟩ (.bool false)) g gw gh (m.step k) := by
  obtain ⟨cs, e, h1⟩ := h.words
  obtain ⟨cs', e', h1'⟩ := h.whens
  have n1 := h.ne1
  have n2 := h.ne2
  refine ⟨heap_set_self 6 _ (heap_set_self 5 _ (heap_set_self 4 _ (heap_set_self 2 _ h.obj))), ⟨cs, ?_, h1⟩, ⟨cs', ?_, h1'⟩, h.size, h.bnd, by have := h.st0; show 0 ≤ m.steps + 1; omega⟩
  · rw [heap_set_far _ (Ne.symm n1), heap_set_far _ (Ne.symm n1), heap_set_far _ (Ne.symm n1), heap_set_far _ (Ne.symm n1)]; exact e
  · rw [heap_set_far _ (Ne.symm n2), heap_set_far _ (Ne.symm n2), heap_set_far _ (Ne.symm n2), heap_set_far _ (Ne.symm n2)]; exact e'
theorem step_keeps {W : World} {g gw gh : Nat} (v1 v2 v3 v4 : Value) : Keep3 g gw gh W ((((W.setCell ⟨g, 2, none⟩ v1).setCell ⟨g, 4, none⟩ v2).setCell ⟨g, 5, none⟩ v3).setCell ⟨g, 6, none⟩ v4) :=
  (((Keep3.refl.setCell (p := ⟨g, 2, none⟩) (.inl rfl) v1).setCell (p := ⟨g, 4, none⟩) (.inl rfl) v2).setCell (p := ⟨g, 5, none⟩) (.inl rfl) v3).setCell (p := ⟨g, 6, none⟩) (.inl rfl) v4
theorem step_yes (g gw gh : Nat) (m : Ms) (k : Nat) (W : World) (hM : MemAt W g gw gh m) (h1 : k < m.n) (hs : m.steps < 4611686018427387904) :
    Calls Try.prog 78 #[.pointer (some ⟨g, 0, none⟩), .int .i64 k] W fun e W' => e = .returned (.bool true) ∧ MemAt W' g gw gh (m.step k) ∧ Keep3 g gw gh W W' := by
  have c0 := hM.c0
  have c2 := hM.c2
  have c3 := hM.c3
  have c4 := hM.c4
  have c5 := hM.c5
  have c6 := hM.c6
  have f2 := hM.fr 2
  have f4 := hM.fr 4
  have f5 := hM.fr 5
  have f6 := hM.fr 6
  have hz := hM.size
  have h0 := hM.st0
  have hE := step_ends hM k
  have HE : Hid _ := hE
  clear hE
  have h1' : (k : Int) < (m.n : Int) := by omega
  go_enter Try.func78, Try.ntmps78
  go_wp2
  go_ret
  exact ⟨rfl, HE.out, step_keeps _ _ _ _⟩
theorem step_no (g gw gh : Nat) (m : Ms) (a : Int) (W : World) (hM : MemAt W g gw gh m) (h1 : a < 0 ∨ (m.n : Int) ≤ a) :
    Calls Try.prog 78 #[.pointer (some ⟨g, 0, none⟩), .int .i64 a] W fun e W' => e = .returned (.bool false) ∧ W' = W := by
  have c0 := hM.c0
  have hz := hM.size
  rcases h1 with h1 | h1
  · go_enter Try.func78, Try.ntmps78
    go_wp2
    go_ret
    exact ⟨rfl, rfl⟩
  · have h0 : 0 ≤ a := by omega
    go_enter Try.func78, Try.ntmps78
    go_wp2
    go_ret
    exact ⟨rfl, rfl⟩
theorem step_nil (a : Int) (W : World) :
    Calls Try.prog 78 #[.pointer none, .int .i64 a] W fun e W' => e = .returned (.bool false) ∧ W' = W := by
  go_enter Try.func78, Try.ntmps78
  go_wp2
  go_ret
  exact ⟨rfl, rfl⟩

/-! ### set -/
theorem set_ends1 {W : World} {g gw gh : Nat} {m : Ms} (h : MemAt W g gw gh m) (k : Nat) (v : Int) (hk : k < m.n) (e : m.w k = v) (hv : 0 ≤ v ∧ v < 18446744073709551616) :
    MemAt ((W.setCell ⟨g, 6, none⟩ (.bool false)).setCell ⟨gw, k, none⟩ (.int .u64 v)) g gw gh (m.set k v) := by
  obtain ⟨cs, ec, h1, h2⟩ := h.words
  obtain ⟨cs', ec', h1'⟩ := h.whens
  have n1 := h.ne1
  have n2 := h.ne2
  have n3 := h.ne3
  refine ⟨?_, ⟨cs.setIfInBounds k (.int .u64 v), ?_, (Array.size_setIfInBounds ..).trans h1, ?_⟩, ⟨cs', ?_, ?_⟩, h.size, ?_, h.st0⟩
  · rw [heap_set_far _ n1, heap_set_self 6 _ h.obj]
    simp [Ms.set, e]
  · exact heap_set_self k _ ((heap_set_far _ (Ne.symm n1)).trans ec)
  · intro j hj
    show _ = some (Value.int .u64 (upd m.w k v j))
    unfold upd
    have hj' : j < m.n := hj
    by_cases c : j = k
    · subst c; simp [h1, hj']
    · rw [if_neg c, Array.getElem?_setIfInBounds_ne (fun e => c e.symm)]; exact h2 j hj'
  · rw [heap_set_far _ (Ne.symm n3), heap_set_far _ (Ne.symm n2)]; exact ec'
  · refine ⟨h1'.1, fun j hj => ?_⟩
    have : (m.set k v).h = m.h := by simp [Ms.set, e]
    rw [this]; exact h1'.2 j hj
  · intro j hj
    show 0 ≤ upd m.w k v j ∧ upd m.w k v j < 18446744073709551616
    unfold upd
    split
    · exact hv
    · exact h.bnd j hj
theorem set_ends2 {W : World} {g gw gh : Nat} {m : Ms} (h : MemAt W g gw gh m) (k : Nat) (v : Int) (hk : k < m.n) (e : m.w k ≠ v) (hv : 0 ≤ v ∧ v < 18446744073709551616) :
    MemAt (((W.setCell ⟨g, 6, none⟩ (.bool true)).setCell ⟨gh, k, none⟩ (.int .i64 m.steps)).setCell ⟨gw, k, none⟩ (.int .u64 v)) g gw gh (m.set k v) := by
  obtain ⟨cs, ec, h1, h2⟩ := h.words
  obtain ⟨cs', ec', h1', h2'⟩ := h.whens
  have n1 := h.ne1
  have n2 := h.ne2
  have n3 := h.ne3
  refine ⟨?_, ⟨cs.setIfInBounds k (.int .u64 v), ?_, (Array.size_setIfInBounds ..).trans h1, ?_⟩, ⟨cs'.setIfInBounds k (.int .i64 m.steps), ?_, (Array.size_setIfInBounds ..).trans h1', ?_⟩, h.size, ?_, h.st0⟩
  · rw [heap_set_far _ n1, heap_set_far _ n2, heap_set_self 6 _ h.obj]
    have e' : (m.w k == v) = false := beq_eq_false_iff_ne.2 e
    simp [Ms.set, e']
  · exact heap_set_self k _ ((heap_set_far _ n3).trans ((heap_set_far _ (Ne.symm n1)).trans ec))
  · intro j hj
    show _ = some (Value.int .u64 (upd m.w k v j))
    unfold upd
    have hj' : j < m.n := hj
    by_cases c : j = k
    · subst c; simp [h1, hj']
    · rw [if_neg c, Array.getElem?_setIfInBounds_ne (fun e => c e.symm)]; exact h2 j hj'
  · rw [heap_set_far _ (Ne.symm n3)]
    exact heap_set_self k _ ((heap_set_far _ (Ne.symm n2)).trans ec')
  · intro j hj
    have hh : (m.set k v).h = upd m.h k m.steps := by simp [Ms.set, e]
    rw [hh]
    unfold upd
    have hj' : j < m.n := hj
    by_cases c : j = k
    · subst c; simp [h1', hj']
    · rw [if_neg c, Array.getElem?_setIfInBounds_ne (fun e => c e.symm)]; exact h2' j hj'
  · intro j hj
    show 0 ≤ upd m.w k v j ∧ upd m.w k v j < 18446744073709551616
    unfold upd
    split
    · exact hv
    · exact h.bnd j hj
theorem set_keeps1 {W : World} {g gw gh : Nat} (k : Nat) (v1 v2 : Value) : Keep3 g gw gh W ((W.setCell ⟨g, 6, none⟩ v1).setCell ⟨gw, k, none⟩ v2) :=
  (Keep3.refl.setCell (p := ⟨g, 6, none⟩) (.inl rfl) v1).setCell (p := ⟨gw, k, none⟩) (.inr (.inl rfl)) v2
theorem set_keeps2 {W : World} {g gw gh : Nat} (k : Nat) (v1 v2 v3 : Value) : Keep3 g gw gh W (((W.setCell ⟨g, 6, none⟩ v1).setCell ⟨gh, k, none⟩ v2).setCell ⟨gw, k, none⟩ v3) :=
  ((Keep3.refl.setCell (p := ⟨g, 6, none⟩) (.inl rfl) v1).setCell (p := ⟨gh, k, none⟩) (.inr (.inr rfl)) v2).setCell (p := ⟨gw, k, none⟩) (.inr (.inl rfl)) v3
set_option maxRecDepth 100000 in
theorem set_any (g gw gh : Nat) (m : Ms) (k : Nat) (v : Int) (W : World) (hM : MemAt W g gw gh m) (h1 : k < m.n) (hv : 0 ≤ v ∧ v < 18446744073709551616) :
    Calls Try.prog 79 #[.pointer (some ⟨g, 0, none⟩), .int .i64 k, .int .u64 v] W fun e W' => e = .returned (.tuple #[]) ∧ MemAt W' g gw gh (m.set k v) ∧ Keep3 g gw gh W W' := by
  have c0 := hM.c0
  have c1 := hM.c1
  have c2 := hM.c2
  have c6 := hM.c6
  have f6 := hM.fr 6
  have cw := hM.cw h1
  have fw := hM.frw k
  have ch := hM.ch h1
  have fh := hM.frh k
  have hz := hM.size
  have n1 := hM.ne1
  have n2 := hM.ne2
  have n3 := hM.ne3
  have h1' : (k : Int) < (m.n : Int) := by omega
  by_cases e : m.w k = v
  · have HE := Lib.hid (set_ends1 hM k v h1 e hv)
    have e1 : (m.w k == v) = true := beq_iff_eq.2 e
    have e2 : (m.w k != v) = false := by rw [bne_eq_false_iff_eq]; exact e
    clear e hM hv
    go_enter Try.func79, Try.ntmps79
    go_wp2
    go_end0
    exact ⟨rfl, HE.out, set_keeps1 _ _ _⟩
  · have HE := Lib.hid (set_ends2 hM k v h1 e hv)
    have e1 : (m.w k == v) = false := beq_eq_false_iff_ne.2 e
    have e2 : (m.w k != v) = true := bne_iff_ne.2 e
    clear e hM hv
    go_enter Try.func79, Try.ntmps79
    go_wp2
    have d1 : (W.setCell ⟨g, 6, none⟩ (.bool true)).cell? ⟨g, 1, none⟩ = some (.slice (some ⟨gh, 0, none⟩) m.n m.n) := (World.cell?_setCell_other W _ _ _ (by simp)).trans c1
    have d0 : (W.setCell ⟨g, 6, none⟩ (.bool true)).cell? ⟨g, 0, none⟩ = some (.slice (some ⟨gw, 0, none⟩) m.n m.n) := (World.cell?_setCell_other W _ _ _ (by simp)).trans c0
    have d2 : (W.setCell ⟨g, 6, none⟩ (.bool true)).cell? ⟨g, 2, none⟩ = some (.int .i64 m.steps) := (World.cell?_setCell_other W _ _ _ (by simp)).trans c2
    have dh : (W.setCell ⟨g, 6, none⟩ (.bool true)).cell? ⟨gh, k, none⟩ = some (.int .i64 (m.h k)) := (World.cell?_setCell_other W _ _ _ (by simp)).trans ch
    have df : (W.setCell ⟨g, 6, none⟩ (.bool true)).frozen? ⟨gh, k, none⟩ = false := (World.frozen?_setCell W _ _ _).trans fh
    have dw : (W.setCell ⟨g, 6, none⟩ (.bool true)).cell? ⟨gw, k, none⟩ = some (.int .u64 (m.w k)) := (World.cell?_setCell_other W _ _ _ (by simp)).trans cw
    have dg : (W.setCell ⟨g, 6, none⟩ (.bool true)).frozen? ⟨gw, k, none⟩ = false := (World.frozen?_setCell W _ _ _).trans fw
    have HK := Lib.hid (set_keeps2 (W := W) (g := g) (gw := gw) (gh := gh) k (.bool true) (.int .i64 m.steps) (.int .u64 v))
    clear c0 c1 c2 c6 f6 cw fw ch fh
    generalize W.setCell ⟨g, 6, none⟩ (.bool true) = W1 at *
    go_still_tail 10, (by kernel_rfl)
    change wpList _ _ _ _ _ (World.drew _)
    go_wp2
    go_end0
    exact ⟨rfl, HE.out.drew, HK.out.drew⟩

/-! ### Load, Store, Cas, Add -/
theorem Load_yes (g gw gh : Nat) (m : Ms) (k : Nat) (W : World) (hM : MemAt W g gw gh m) (h1 : k < m.n) (hs : m.steps < 4611686018427387904) :
    Calls Try.prog 52 #[.pointer (some ⟨g, 0, none⟩), .int .i64 k] W fun e W' => e = .returned (.tuple #[.int .u64 (m.w k), .int .i64 0]) ∧ MemAt W' g gw gh (m.step k) ∧ Keep3 g gw gh W W' := by
  have hz := hM.size
  have h1' : (k : Int) < (m.n : Int) := by omega
  have HS := Lib.hid (step_yes g gw gh m k W hM h1 hs)
  clear hM hs
  go_enter Try.func52, Try.ntmps52
  go_wp2_with fail
  refine HS.out.mono ?_
  rintro e W1 ⟨rfl, hM1, hK⟩
  have c0 : W1.cell? ⟨g, 0, none⟩ = some (.slice (some ⟨gw, 0, none⟩) m.n m.n) := hM1.c0
  have cw : W1.cell? ⟨gw, k, none⟩ = some (.int .u64 (m.w k)) := hM1.cw (m := m.step k) h1
  go_wp2
  go_ret2
  exact ⟨rfl, hM1, hK⟩
theorem Load_no (g gw gh : Nat) (m : Ms) (a : Int) (W : World) (hM : MemAt W g gw gh m) (h1 : a < 0 ∨ (m.n : Int) ≤ a) :
    Calls Try.prog 52 #[.pointer (some ⟨g, 0, none⟩), .int .i64 a] W fun e W' => e = .returned (.tuple #[.int .u64 0, .int .i64 2]) ∧ W' = W := by
  go_enter Try.func52, Try.ntmps52
  go_wp2_with fail
  refine (step_no g gw gh m a _ hM h1).mono ?_
  rintro e W1 ⟨rfl, hw⟩
  obtain rfl := hw.symm
  clear hw
  go_wp2
  go_ret2
  exact ⟨rfl, rfl⟩
theorem Load_nil (a : Int) (W : World) :
    Calls Try.prog 52 #[.pointer none, .int .i64 a] W fun e W' => e = .returned (.tuple #[.int .u64 0, .int .i64 2]) ∧ W' = W := by
  go_enter Try.func52, Try.ntmps52
  go_wp2_with fail
  refine (step_nil a _).mono ?_
  rintro e W1 ⟨rfl, hw⟩
  obtain rfl := hw.symm
  clear hw
  go_wp2
  go_ret2
  exact ⟨rfl, rfl⟩

theorem Store_yes (g gw gh : Nat) (m : Ms) (k : Nat) (v : Int) (W : World) (hM : MemAt W g gw gh m) (h1 : k < m.n) (hs : m.steps < 4611686018427387904) (hv : 0 ≤ v ∧ v < 18446744073709551616) :
    Calls Try.prog 51 #[.pointer (some ⟨g, 0, none⟩), .int .i64 k, .int .u64 v] W fun e W' => e = .returned (.int .i64 0) ∧ MemAt W' g gw gh ((m.step k).set k v) ∧ Keep3 g gw gh W W' := by
  have HS := Lib.hid (step_yes g gw gh m k W hM h1 hs)
  have HV := Lib.hid hv
  have H1 := Lib.hid h1
  clear hM hs hv h1
  go_enter Try.func51, Try.ntmps51
  go_wp2_with fail
  refine HS.out.mono ?_
  rintro e W1 ⟨rfl, hM1, hK⟩
  go_wp2_with fail
  refine (set_any g gw gh (m.step k) k v _ hM1 H1.out HV.out).mono ?_
  rintro e W2 ⟨rfl, hM2, hK2⟩
  go_wp2
  go_ret
  exact ⟨rfl, hM2, hK.trans hK2⟩
theorem Store_no (g gw gh : Nat) (m : Ms) (a v : Int) (W : World) (hM : MemAt W g gw gh m) (h1 : a < 0 ∨ (m.n : Int) ≤ a) :
    Calls Try.prog 51 #[.pointer (some ⟨g, 0, none⟩), .int .i64 a, .int .u64 v] W fun e W' => e = .returned (.int .i64 2) ∧ W' = W := by
  go_enter Try.func51, Try.ntmps51
  go_wp2_with fail
  refine (step_no g gw gh m a _ hM h1).mono ?_
  rintro e W1 ⟨rfl, hw⟩
  obtain rfl := hw.symm
  clear hw
  go_wp2
  go_ret
  exact ⟨rfl, rfl⟩
theorem Store_nil (a v : Int) (W : World) :
    Calls Try.prog 51 #[.pointer none, .int .i64 a, .int .u64 v] W fun e W' => e = .returned (.int .i64 2) ∧ W' = W := by
  go_enter Try.func51, Try.ntmps51
  go_wp2_with fail
  refine (step_nil a _).mono ?_
  rintro e W1 ⟨rfl, hw⟩
  obtain rfl := hw.symm
  clear hw
  go_wp2
  go_ret
  exact ⟨rfl, rfl⟩

theorem Cas_yes (g gw gh : Nat) (m : Ms) (k : Nat) (old v : Int) (W : World) (hM : MemAt W g gw gh m) (h1 : k < m.n) (hs : m.steps < 4611686018427387904) (hv : 0 ≤ v ∧ v < 18446744073709551616) (ho : m.w k = old) :
    Calls Try.prog 50 #[.pointer (some ⟨g, 0, none⟩), .int .i64 k, .int .u64 old, .int .u64 v] W fun e W' => e = .returned (.tuple #[.bool true, .int .i64 0]) ∧ MemAt W' g gw gh ((m.step k).set k v) ∧ Keep3 g gw gh W W' := by
  subst ho
  have hz := hM.size
  have h1' : (k : Int) < (m.n : Int) := by omega
  have HS := Lib.hid (step_yes g gw gh m k W hM h1 hs)
  have HV := Lib.hid hv
  clear hM hs hv
  go_enter Try.func50, Try.ntmps50
  go_wp2_with fail
  refine HS.out.mono ?_
  rintro e W1 ⟨rfl, hM1, hK⟩
  have c0 : W1.cell? ⟨g, 0, none⟩ = some (.slice (some ⟨gw, 0, none⟩) m.n m.n) := hM1.c0
  have cw : W1.cell? ⟨gw, k, none⟩ = some (.int .u64 (m.w k)) := hM1.cw (m := m.step k) h1
  go_wp2_with fail
  refine (set_any g gw gh (m.step k) k v _ hM1 h1 HV.out).mono ?_
  rintro e W2 ⟨rfl, hM2, hK2⟩
  go_wp2
  go_ret2
  exact ⟨rfl, hM2, hK.trans hK2⟩
theorem Cas_other (g gw gh : Nat) (m : Ms) (k : Nat) (old v : Int) (W : World) (hM : MemAt W g gw gh m) (h1 : k < m.n) (hs : m.steps < 4611686018427387904) (ho : m.w k ≠ old) :
    Calls Try.prog 50 #[.pointer (some ⟨g, 0, none⟩), .int .i64 k, .int .u64 old, .int .u64 v] W fun e W' => e = .returned (.tuple #[.bool false, .int .i64 0]) ∧ MemAt W' g gw gh (m.step k) ∧ Keep3 g gw gh W W' := by
  have hz := hM.size
  have h1' : (k : Int) < (m.n : Int) := by omega
  have HS := Lib.hid (step_yes g gw gh m k W hM h1 hs)
  have e1 : (m.w k == old) = false := beq_eq_false_iff_ne.2 ho
  have e2 : (m.w k != old) = true := bne_iff_ne.2 ho
  clear hM hs ho
  go_enter Try.func50, Try.ntmps50
  go_wp2_with fail
  refine HS.out.mono ?_
  rintro e W1 ⟨rfl, hM1, hK⟩
  have c0 : W1.cell? ⟨g, 0, none⟩ = some (.slice (some ⟨gw, 0, none⟩) m.n m.n) := hM1.c0
  have cw : W1.cell? ⟨gw, k, none⟩ = some (.int .u64 (m.w k)) := hM1.cw (m := m.step k) h1
  go_wp2
  go_ret2
  exact ⟨rfl, hM1, hK⟩
theorem Cas_no (g gw gh : Nat) (m : Ms) (a old v : Int) (W : World) (hM : MemAt W g gw gh m) (h1 : a < 0 ∨ (m.n : Int) ≤ a) :
    Calls Try.prog 50 #[.pointer (some ⟨g, 0, none⟩), .int .i64 a, .int .u64 old, .int .u64 v] W fun e W' => e = .returned (.tuple #[.bool false, .int .i64 2]) ∧ W' = W := by
  go_enter Try.func50, Try.ntmps50
  go_wp2_with fail
  refine (step_no g gw gh m a _ hM h1).mono ?_
  rintro e W1 ⟨rfl, hw⟩
  obtain rfl := hw.symm
  clear hw
  go_wp2
  go_ret2
  exact ⟨rfl, rfl⟩
theorem Cas_nil (a old v : Int) (W : World) :
    Calls Try.prog 50 #[.pointer none, .int .i64 a, .int .u64 old, .int .u64 v] W fun e W' => e = .returned (.tuple #[.bool false, .int .i64 2]) ∧ W' = W := by
  go_enter Try.func50, Try.ntmps50
  go_wp2_with fail
  refine (step_nil a _).mono ?_
  rintro e W1 ⟨rfl, hw⟩
  obtain rfl := hw.symm
  clear hw
  go_wp2
  go_ret2
  exact ⟨rfl, rfl⟩

theorem Add_yes (g gw gh : Nat) (m : Ms) (k : Nat) (v s : Int) (W : World) (hM : MemAt W g gw gh m) (h1 : k < m.n) (hs : m.steps < 4611686018427387904) (hsum : IntKind.u64.wrap (m.w k + v) = s) :
    Calls Try.prog 47 #[.pointer (some ⟨g, 0, none⟩), .int .i64 k, .int .u64 v] W fun e W' => e = .returned (.tuple #[.int .u64 (m.w k), .int .i64 0]) ∧ MemAt W' g gw gh ((m.step k).set k s) ∧ Keep3 g gw gh W W' := by
  have hz := hM.size
  have h1' : (k : Int) < (m.n : Int) := by omega
  have HS := Lib.hid (step_yes g gw gh m k W hM h1 hs)
  have HV : Hid (0 ≤ s ∧ s < 18446744073709551616) := by
    show _ ∧ _
    rw [← hsum]
    have : IntKind.u64.wrap (m.w k + v) = (m.w k + v) % 18446744073709551616 := by simp [IntKind.wrap, IntKind.bits, IntKind.signed]
    rw [this]; omega
  clear hM hs
  go_enter Try.func47, Try.ntmps47
  go_wp2_with fail
  refine HS.out.mono ?_
  rintro e W1 ⟨rfl, hM1, hK⟩
  have c0 : W1.cell? ⟨g, 0, none⟩ = some (.slice (some ⟨gw, 0, none⟩) m.n m.n) := hM1.c0
  have cw : W1.cell? ⟨gw, k, none⟩ = some (.int .u64 (m.w k)) := hM1.cw (m := m.step k) h1
  go_wp2_with fail
  refine (set_any g gw gh (m.step k) k s _ hM1 h1 HV.out).mono ?_
  rintro e W2 ⟨rfl, hM2, hK2⟩
  go_wp2
  go_ret2
  exact ⟨rfl, hM2, hK.trans hK2⟩
theorem Add_no (g gw gh : Nat) (m : Ms) (a v : Int) (W : World) (hM : MemAt W g gw gh m) (h1 : a < 0 ∨ (m.n : Int) ≤ a) :
    Calls Try.prog 47 #[.pointer (some ⟨g, 0, none⟩), .int .i64 a, .int .u64 v] W fun e W' => e = .returned (.tuple #[.int .u64 0, .int .i64 2]) ∧ W' = W := by
  go_enter Try.func47, Try.ntmps47
  go_wp2_with fail
  refine (step_no g gw gh m a _ hM h1).mono ?_
  rintro e W1 ⟨rfl, hw⟩
  obtain rfl := hw.symm
  clear hw
  go_wp2
  go_ret2
  exact ⟨rfl, rfl⟩
theorem Add_nil (a v : Int) (W : World) :
    Calls Try.prog 47 #[.pointer none, .int .i64 a, .int .u64 v] W fun e W' => e = .returned (.tuple #[.int .u64 0, .int .i64 2]) ∧ W' = W := by
  go_enter Try.func47, Try.ntmps47
  go_wp2_with fail
  refine (step_nil a _).mono ?_
  rintro e W1 ⟨rfl, hw⟩
  obtain rfl := hw.symm
  clear hw
  go_wp2
  go_ret2
  exact ⟨rfl, rfl⟩
end Go.Proofs.Ytnpjfdiapoghnaa
