/- Layer 2's statement MemPlays: whatever is done, words are what was laid last; the walk. -/
import Derived.Test.YtnpjfdiapoghnaaLaw2a
import Derived.Test.YtnpjfdiapoghnaaLaw1a
import Derived.Test.YtnpjfdiapoghnaaComes2
import Derived.Test.YtnpjfdiapoghnaaBits
import Derived.Test.YtnpjfdiapoghnaaSteps
import Derived.Laws.StructEq
import Derived.LoopTactic
namespace Go.Proofs.Ytnpjfdiapoghnaa
open Go Go.RowKit

theorem PeekP {g gw gh : Nat} {m : Ms} {W : World} (hM : MemAt W g gw gh m) (k : Nat) (v : Int) (h1 : k < m.n) (he : m.w k = v) :
    Hid (∀ q : Nat, Calls Try.prog 49 #[.pointer (some ⟨g, 0, none⟩), .int .i64 k] (W.drewN q) fun e w' => e = .returned (.int .u64 v) ∧ w' = W.drewN q) := by
  intro q
  rw [← he]
  exact Peek_yes g gw gh m k _ (hM.drewN q) h1
theorem updT (f : Nat → Int) (k : Nat) (v : Int) : upd f k v k = v := if_pos rfl
theorem updU (f : Nat → Int) (k j : Nat) (v : Int) (h : j ≠ k) : upd f k v j = f j := if_neg h
/-- What has been copied of the words so far. -/
def CopiedW (W : World) (V K i : Nat) (m : Ms) : Prop := ∃ cs : Array Value, W.heap[V]? = some (.cells cs 24 (0, 0)) ∧ cs.size = K ∧ ∀ j, j < i → cs[j]? = some (.int .u64 (m.w j))
theorem CopiedW.next {W : World} {V K i : Nat} {m : Ms} (h : CopiedW W V K i m) (hi : i < K) : CopiedW (W.setCell ⟨V, i, none⟩ (.int .u64 (m.w i))) V K (i + 1) m := by
  obtain ⟨cs, h1, h2, h3⟩ := h
  refine ⟨_, heap_set_self i _ h1, by simp [h2], fun j hj => ?_⟩
  by_cases e : j = i
  · subst e; simp [h2, hi]
  · simp [Ne.symm e, h3 j (by omega)]
theorem CopiedW.cell {W : World} {V K i : Nat} {m : Ms} (h : CopiedW W V K i m) {j : Nat} (hj : j < i) : W.cell? ⟨V, j, none⟩ = some (.int .u64 (m.w j)) := by
  obtain ⟨cs, h1, h2, h3⟩ := h
  exact (cell_of_row W V j _ _ _ h1).trans (h3 j hj)
theorem CopiedW.fr {W : World} {V K i : Nat} {m : Ms} (h : CopiedW W V K i m) (j : Nat) : W.frozen? ⟨V, j, none⟩ = false := by
  obtain ⟨cs, h1, h2, h3⟩ := h
  exact frozen_of j h1
theorem CopiedW.isSome {W : World} {V K i : Nat} {m : Ms} (h : CopiedW W V K i m) {j : Nat} (hj : j < K) : ∃ v, W.cell? ⟨V, j, none⟩ = some v := by
  obtain ⟨cs, h1, h2, h3⟩ := h
  exact ⟨cs[j]'(by omega), (cell_of_row W V j _ _ _ h1).trans (Array.getElem?_eq_getElem (by omega))⟩
theorem CopiedW.far {W W' : World} {V K i g gw gh : Nat} {m : Ms} (h : CopiedW W V K i m) (k : Keep3 g gw gh W W') (a : V ≠ g) (b : V ≠ gw) (c : V ≠ gh) : CopiedW W' V K i m := by
  obtain ⟨cs, h1, h2, h3⟩ := h
  exact ⟨cs, k.heap h1 a b c, h2, h3⟩
theorem CopiedW.drewN {W : World} {V K i : Nat} {m : Ms} (h : CopiedW W V K i m) (n : Nat) : CopiedW (W.drewN n) V K i m := h


theorem CopiedW.below {W W' : World} {V K i : Nat} {m : Ms} (h : CopiedW W V K i m) (hb : Below W.heap.size W W') : CopiedW W' V K i m := by
  obtain ⟨cs, h1, h2⟩ := h
  exact ⟨cs, (hb.block _ (lt_of_heap h1)).trans h1, h2⟩
theorem CopiedW.lt {W : World} {V K i : Nat} {m : Ms} (h : CopiedW W V K i m) : V < W.heap.size := by obtain ⟨cs, h1, _⟩ := h; exact lt_of_heap h1
/-- What has been copied of the changes' steps so far. -/
def CopiedH (W : World) (V K i : Nat) (m : Ms) : Prop := ∃ cs : Array Value, W.heap[V]? = some (.cells cs 3 (0, 0)) ∧ cs.size = K ∧ ∀ j, j < i → cs[j]? = some (.int .i64 (m.h j))
theorem CopiedH.cell {W : World} {V K i : Nat} {m : Ms} (h : CopiedH W V K i m) {j : Nat} (hj : j < i) : W.cell? ⟨V, j, none⟩ = some (.int .i64 (m.h j)) := by
  obtain ⟨cs, h1, h2, h3⟩ := h
  exact (cell_of_row W V j _ _ _ h1).trans (h3 j hj)
theorem CopiedH.fr {W : World} {V K i : Nat} {m : Ms} (h : CopiedH W V K i m) (j : Nat) : W.frozen? ⟨V, j, none⟩ = false := by
  obtain ⟨cs, h1, h2, h3⟩ := h
  exact frozen_of j h1
/-- What is known behind the first statements. -/
structure PStart (w U : World) (g gw gh bw bh bt K : Nat) : Prop where
  M : MemAt U g gw gh (Ms.new K)
  hw : CopiedW U bw K K (Ms.new K)
  hh : CopiedH U bh K K (Ms.new K)
  ht : U.heap[bt]? = some (.cells #[.int .i64 0, .int .i64 0, .bool false] 79 (0, 0))
  B : Below w.heap.size w U
  s : w.heap.size ≤ U.heap.size
  b0 : w.heap.size ≤ g
  b1 : w.heap.size ≤ gw
  b2 : w.heap.size ≤ gh
  c0 : w.heap.size ≤ bw
  c1 : w.heap.size ≤ bh
  c2 : w.heap.size ≤ bt
  n1 : bw ≠ g ∧ bw ≠ gw ∧ bw ≠ gh
  n2 : bh ≠ g ∧ bh ≠ gw ∧ bh ≠ gh
  n3 : bt ≠ g ∧ bt ≠ gw ∧ bt ≠ gh
  e1 : bw ≠ bh
  e2 : bw ≠ bt
  e3 : bh ≠ bt
theorem three_new (W : World) (o1 o2 o3 : Obj) : Below W.heap.size W (((W.alloc o1).alloc o2).alloc o3).drew ∧ (((W.alloc o1).alloc o2).alloc o3).drew.heap.size = W.heap.size + 3 ∧
    (((W.alloc o1).alloc o2).alloc o3).drew.heap[W.heap.size]? = (W.alloc o1).heap[W.heap.size]? ∧ (((W.alloc o1).alloc o2).alloc o3).drew.heap[W.heap.size + 1]? = ((W.alloc o1).alloc o2).heap[(W.alloc o1).heap.size]? ∧ (((W.alloc o1).alloc o2).alloc o3).drew.heap[W.heap.size + 1 + 1]? = (((W.alloc o1).alloc o2).alloc o3).heap[((W.alloc o1).alloc o2).heap.size]? := by
  refine ⟨(((below_new W o1).trans ((below_new _ o2).mono (by simp))).trans ((below_new _ o3).mono (by simp; omega))).drew, by simp, ?_, ?_, ?_⟩
  · show (((W.alloc o1).alloc o2).alloc o3).heap[W.heap.size]? = _
    rw [Below.heap_alloc _ _ _ (by simp; omega), Below.heap_alloc _ _ _ (by simp)]
  · show (((W.alloc o1).alloc o2).alloc o3).heap[W.heap.size + 1]? = _
    rw [Below.heap_alloc _ _ _ (by simp), show (W.alloc o1).heap.size = W.heap.size + 1 from by simp]
  · show (((W.alloc o1).alloc o2).alloc o3).heap[W.heap.size + 1 + 1]? = _
    rw [show ((W.alloc o1).alloc o2).heap.size = W.heap.size + 1 + 1 from by simp]
theorem madeW {U : World} {bw K : Nat} (h : U.heap[bw]? = some (.cells (madeCells #[.int .u64 0] K) 24 (0, 0))) : CopiedW U bw K K (Ms.new K) := ⟨_, h, size_madeCells _ _, fun _ hj => made_get _ _ _ hj⟩
theorem madeH {U : World} {bh K : Nat} (h : U.heap[bh]? = some (.cells (madeCells #[.int .i64 0] K) 3 (0, 0))) : CopiedH U bh K K (Ms.new K) := ⟨_, h, size_madeCells _ _, fun _ hj => made_get _ _ _ hj⟩
theorem PStart.ofwht {w W1 : World} {g gw gh K : Nat} (hB : Below w.heap.size w W1) (b0 : w.heap.size ≤ g) (b1 : w.heap.size ≤ gw) (b2 : w.heap.size ≤ gh) (hM : MemAt W1 g gw gh (Ms.new K)) :
    PStart w ((((W1.alloc (.cells (madeCells #[.int .u64 0] K) 24)).alloc (.cells (madeCells #[.int .i64 0] K) 3)).alloc (.cells #[.int .i64 0, .int .i64 0, .bool false] 79)).drew) g gw gh W1.heap.size (W1.heap.size + 1) (W1.heap.size + 1 + 1) K := by
  obtain ⟨fb, fs, f1, f2, f3⟩ := three_new W1 (.cells (madeCells #[.int .u64 0] K) 24) (.cells (madeCells #[.int .i64 0] K) 3) (.cells #[.int .i64 0, .int .i64 0, .bool false] 79)
  have h0 := hB.size
  have h1 := hM.lt
  have h2 := hM.ltw
  have h3 := hM.lth
  exact ⟨hM.below fb, madeW (f1.trans (heap_alloc_new W1 _)), madeH (f2.trans (heap_alloc_new _ _)), f3.trans (heap_alloc_new _ _), hB.trans (fb.mono h0), by omega, b0, b1, b2, by omega, by omega, by omega, by omega, by omega, by omega, by omega, by omega, by omega⟩
theorem PStart.ofwth {w W1 : World} {g gw gh K : Nat} (hB : Below w.heap.size w W1) (b0 : w.heap.size ≤ g) (b1 : w.heap.size ≤ gw) (b2 : w.heap.size ≤ gh) (hM : MemAt W1 g gw gh (Ms.new K)) :
    PStart w ((((W1.alloc (.cells (madeCells #[.int .u64 0] K) 24)).alloc (.cells #[.int .i64 0, .int .i64 0, .bool false] 79)).alloc (.cells (madeCells #[.int .i64 0] K) 3)).drew) g gw gh W1.heap.size (W1.heap.size + 1 + 1) (W1.heap.size + 1) K := by
  obtain ⟨fb, fs, f1, f2, f3⟩ := three_new W1 (.cells (madeCells #[.int .u64 0] K) 24) (.cells #[.int .i64 0, .int .i64 0, .bool false] 79) (.cells (madeCells #[.int .i64 0] K) 3)
  have h0 := hB.size
  have h1 := hM.lt
  have h2 := hM.ltw
  have h3 := hM.lth
  exact ⟨hM.below fb, madeW (f1.trans (heap_alloc_new W1 _)), madeH (f3.trans (heap_alloc_new _ _)), f2.trans (heap_alloc_new _ _), hB.trans (fb.mono h0), by omega, b0, b1, b2, by omega, by omega, by omega, by omega, by omega, by omega, by omega, by omega, by omega⟩
theorem PStart.ofhwt {w W1 : World} {g gw gh K : Nat} (hB : Below w.heap.size w W1) (b0 : w.heap.size ≤ g) (b1 : w.heap.size ≤ gw) (b2 : w.heap.size ≤ gh) (hM : MemAt W1 g gw gh (Ms.new K)) :
    PStart w ((((W1.alloc (.cells (madeCells #[.int .i64 0] K) 3)).alloc (.cells (madeCells #[.int .u64 0] K) 24)).alloc (.cells #[.int .i64 0, .int .i64 0, .bool false] 79)).drew) g gw gh (W1.heap.size + 1) W1.heap.size (W1.heap.size + 1 + 1) K := by
  obtain ⟨fb, fs, f1, f2, f3⟩ := three_new W1 (.cells (madeCells #[.int .i64 0] K) 3) (.cells (madeCells #[.int .u64 0] K) 24) (.cells #[.int .i64 0, .int .i64 0, .bool false] 79)
  have h0 := hB.size
  have h1 := hM.lt
  have h2 := hM.ltw
  have h3 := hM.lth
  exact ⟨hM.below fb, madeW (f2.trans (heap_alloc_new _ _)), madeH (f1.trans (heap_alloc_new W1 _)), f3.trans (heap_alloc_new _ _), hB.trans (fb.mono h0), by omega, b0, b1, b2, by omega, by omega, by omega, by omega, by omega, by omega, by omega, by omega, by omega⟩
theorem PStart.ofhtw {w W1 : World} {g gw gh K : Nat} (hB : Below w.heap.size w W1) (b0 : w.heap.size ≤ g) (b1 : w.heap.size ≤ gw) (b2 : w.heap.size ≤ gh) (hM : MemAt W1 g gw gh (Ms.new K)) :
    PStart w ((((W1.alloc (.cells (madeCells #[.int .i64 0] K) 3)).alloc (.cells #[.int .i64 0, .int .i64 0, .bool false] 79)).alloc (.cells (madeCells #[.int .u64 0] K) 24)).drew) g gw gh (W1.heap.size + 1 + 1) W1.heap.size (W1.heap.size + 1) K := by
  obtain ⟨fb, fs, f1, f2, f3⟩ := three_new W1 (.cells (madeCells #[.int .i64 0] K) 3) (.cells #[.int .i64 0, .int .i64 0, .bool false] 79) (.cells (madeCells #[.int .u64 0] K) 24)
  have h0 := hB.size
  have h1 := hM.lt
  have h2 := hM.ltw
  have h3 := hM.lth
  exact ⟨hM.below fb, madeW (f3.trans (heap_alloc_new _ _)), madeH (f1.trans (heap_alloc_new W1 _)), f2.trans (heap_alloc_new _ _), hB.trans (fb.mono h0), by omega, b0, b1, b2, by omega, by omega, by omega, by omega, by omega, by omega, by omega, by omega, by omega⟩
theorem PStart.oftwh {w W1 : World} {g gw gh K : Nat} (hB : Below w.heap.size w W1) (b0 : w.heap.size ≤ g) (b1 : w.heap.size ≤ gw) (b2 : w.heap.size ≤ gh) (hM : MemAt W1 g gw gh (Ms.new K)) :
    PStart w ((((W1.alloc (.cells #[.int .i64 0, .int .i64 0, .bool false] 79)).alloc (.cells (madeCells #[.int .u64 0] K) 24)).alloc (.cells (madeCells #[.int .i64 0] K) 3)).drew) g gw gh (W1.heap.size + 1) (W1.heap.size + 1 + 1) W1.heap.size K := by
  obtain ⟨fb, fs, f1, f2, f3⟩ := three_new W1 (.cells #[.int .i64 0, .int .i64 0, .bool false] 79) (.cells (madeCells #[.int .u64 0] K) 24) (.cells (madeCells #[.int .i64 0] K) 3)
  have h0 := hB.size
  have h1 := hM.lt
  have h2 := hM.ltw
  have h3 := hM.lth
  exact ⟨hM.below fb, madeW (f2.trans (heap_alloc_new _ _)), madeH (f3.trans (heap_alloc_new _ _)), f1.trans (heap_alloc_new W1 _), hB.trans (fb.mono h0), by omega, b0, b1, b2, by omega, by omega, by omega, by omega, by omega, by omega, by omega, by omega, by omega⟩
theorem PStart.ofthw {w W1 : World} {g gw gh K : Nat} (hB : Below w.heap.size w W1) (b0 : w.heap.size ≤ g) (b1 : w.heap.size ≤ gw) (b2 : w.heap.size ≤ gh) (hM : MemAt W1 g gw gh (Ms.new K)) :
    PStart w ((((W1.alloc (.cells #[.int .i64 0, .int .i64 0, .bool false] 79)).alloc (.cells (madeCells #[.int .i64 0] K) 3)).alloc (.cells (madeCells #[.int .u64 0] K) 24)).drew) g gw gh (W1.heap.size + 1 + 1) (W1.heap.size + 1) W1.heap.size K := by
  obtain ⟨fb, fs, f1, f2, f3⟩ := three_new W1 (.cells #[.int .i64 0, .int .i64 0, .bool false] 79) (.cells (madeCells #[.int .i64 0] K) 3) (.cells (madeCells #[.int .u64 0] K) 24)
  have h0 := hB.size
  have h1 := hM.lt
  have h2 := hM.ltw
  have h3 := hM.lth
  exact ⟨hM.below fb, madeW (f3.trans (heap_alloc_new _ _)), madeH (f2.trans (heap_alloc_new _ _)), f1.trans (heap_alloc_new W1 _), hB.trans (fb.mono h0), by omega, b0, b1, b2, by omega, by omega, by omega, by omega, by omega, by omega, by omega, by omega, by omega⟩
theorem CopiedH.far {W W' : World} {V K i g gw gh : Nat} {m : Ms} (h : CopiedH W V K i m) (k : Keep3 g gw gh W W') (a : V ≠ g) (b : V ≠ gw) (c : V ≠ gh) : CopiedH W' V K i m := by
  obtain ⟨cs, h1, h2, h3⟩ := h
  exact ⟨cs, k.heap h1 a b c, h2, h3⟩
theorem CopiedH.below {W W' : World} {V K i : Nat} {m : Ms} (h : CopiedH W V K i m) (hb : Below W.heap.size W W') : CopiedH W' V K i m := by
  obtain ⟨cs, h1, h2⟩ := h
  exact ⟨cs, (hb.block _ (lt_of_heap h1)).trans h1, h2⟩
theorem CopiedH.lt {W : World} {V K i : Nat} {m : Ms} (h : CopiedH W V K i m) : V < W.heap.size := by obtain ⟨cs, h1, _⟩ := h; exact lt_of_heap h1
/-- What an act at a word that is there leaves. -/
structure NX (K : Nat) (m m' : Ms) (at_ : Nat) (nv : Int) (ch : Bool) : Prop where
  n : m'.n = K
  steps : m'.steps = m.steps + 1
  who : m'.who = m.who
  la : m'.la = at_
  lw : m'.lw = m.who
  lc : m'.lc = ch
  w : ∀ j, m'.w j = if j = at_ then nv else m.w j
  h : ∀ j, m'.h j = if j = at_ ∧ ch = true then m.steps + 1 else m.h j
theorem NX.load {K at_ : Nat} {m : Ms} (hn : m.n = K) : NX K m (m.step at_) at_ (m.w at_) false :=
  ⟨hn, rfl, rfl, rfl, rfl, rfl, fun j => by (by_cases e : j = at_) <;> simp [e, Ms.step], fun j => by simp [Ms.step]⟩
theorem NX.same {K at_ : Nat} {m : Ms} (hn : m.n = K) (v : Int) (hv : m.w at_ = v) : NX K m ((m.step at_).set at_ v) at_ v false :=
  ⟨hn, rfl, rfl, rfl, rfl, by simp [Ms.set, Ms.step, hv], fun j => rfl, fun j => by simp [Ms.set, Ms.step, hv]⟩
theorem NX.other {K at_ : Nat} {m : Ms} (hn : m.n = K) (v : Int) (hv : m.w at_ ≠ v) : NX K m ((m.step at_).set at_ v) at_ v true :=
  ⟨hn, rfl, rfl, rfl, rfl, by simp [Ms.set, Ms.step, hv], fun j => rfl, fun j => by simp [Ms.set, Ms.step, hv, upd]⟩
theorem CopiedW.put {W : World} {V K at_ : Nat} {m m' : Ms} {v : Int} (h : CopiedW W V K K m) (hi : at_ < K) (hw : ∀ j, m'.w j = if j = at_ then v else m.w j) : CopiedW (W.setCell ⟨V, at_, none⟩ (.int .u64 v)) V K K m' := by
  obtain ⟨cs, h1, h2, h3⟩ := h
  refine ⟨_, heap_set_self at_ _ h1, by simp [h2], fun j hj => ?_⟩
  rw [hw]
  by_cases e : j = at_
  · subst e; simp [h2, hi]
  · simp [e, Ne.symm e, h3 j hj]
theorem CopiedW.keep {W : World} {V K i : Nat} {m : Ms} (h : CopiedW W V K i m) {p : Addr} (hp : V ≠ p.block) (v : Value) : CopiedW (W.setCell p v) V K i m := by
  obtain ⟨cs, h1, h2⟩ := h
  exact ⟨cs, (heap_set_far v hp).trans h1, h2⟩
theorem CopiedH.put {W : World} {V K i : Nat} {m : Ms} {v : Value} (h : CopiedH W V K i m) {p : Addr} (hp : V ≠ p.block) : CopiedH (W.setCell p v) V K i m := by
  obtain ⟨cs, h1, h2⟩ := h
  exact ⟨cs, (heap_set_far v hp).trans h1, h2⟩
theorem CopiedH.same {W : World} {V K at_ : Nat} {m m' : Ms} (h : CopiedH W V K K m) (hh : ∀ j, m'.h j = if j = at_ ∧ false = true then m.steps + 1 else m.h j) : CopiedH W V K K m' := by
  obtain ⟨cs, h1, h2, h3⟩ := h
  refine ⟨cs, h1, h2, fun j hj => ?_⟩
  rw [hh]; simpa using h3 j hj
theorem CopiedH.next {W : World} {V K at_ : Nat} {m m' : Ms} (h : CopiedH W V K K m) (hi : at_ < K) (hh : ∀ j, m'.h j = if j = at_ ∧ true = true then m.steps + 1 else m.h j) : CopiedH (W.setCell ⟨V, at_, none⟩ (.int .i64 (m.steps + 1))) V K K m' := by
  obtain ⟨cs, h1, h2, h3⟩ := h
  refine ⟨_, heap_set_self at_ _ h1, by simp [h2], fun j hj => ?_⟩
  rw [hh]
  by_cases e : j = at_
  · subst e; simp [h2, hi]
  · simp [e, Ne.symm e, h3 j hj]
structure Box2 (P : Prop) : Prop where
  out : P
theorem cutM {K Q : Prop} (h : Box2 K → Q) (k : K) : Q := h ⟨k⟩
theorem eqTouchP (d : Nat) (w : World) (x0 x1 y0 y1 : Int) (x y : Bool) :
    (Op.equalIn (d + 2) 79 (.agg #[.int .i64 x0, .int .i64 x1, .bool x]) (.agg #[.int .i64 y0, .int .i64 y1, .bool y])).run Try.prog w = .ok (x0 == y0 && (x1 == y1 && x == y)) w := by
  refine eqs_of Try.underlying79 (by kernel_rfl) ?_
  refine eqf_more (by rfl) (by go_simp; rfl) (by go_simp; rfl) (by go_simp) ?_
  refine eqf_more (by rfl) (by go_simp; rfl) (by go_simp; rfl) (by go_simp) ?_
  exact eqf_end (by rfl) (by go_simp) (by go_simp) (run_equalIn_bool w _ _ _ _ Try.underlying4)

attribute [local go_sem high] eqTouchP
set_option maxHeartbeats 20000000 in
set_option maxRecDepth 100000 in
theorem MemPlays_any (nn : Int) (A : Option Addr) (n c : Nat) (w : World) (hl : ComesA w A n) :
    Calls Try.prog 15 #[.int .i64 nn, .slice A n c] w fun e w' => e = .returned (.bool true) ∧ Below w.heap.size w w' := by
  have HL := Lib.hid hl
  have hn := hl.1
  clear hl
  have bv := andw_bd 4 nn 15 .i64 (.inl rfl) (by decide) (by omega)
  obtain ⟨K0, ev, hK0⟩ : ∃ K0 : Nat, bits .and .i64 nn 15 = (K0 : Int) ∧ K0 ≤ 15 := ⟨(bits .and .i64 nn 15).toNat, by omega, by omega⟩
  clear bv
  go_enter Try.func15, Try.ntmps15
  go_wp2_with fail
  obtain ⟨K, hK⟩ : ∃ K : Nat, 1 + (K0 : Int) = (K : Int) := ⟨1 + K0, by omega⟩
  rw [hK]
  have hK2 : 1 ≤ K ∧ K ≤ 16 := by omega
  have HM1 := Lib.hid (run_make_row' (P := Try.prog) 61 24 (.int .u64 0) 8 Try.underlying61 Try.info24 rfl .i64 .i64 K (by omega) (by omega))
  have HM2 := Lib.hid (run_make_row' (P := Try.prog) 30 3 (.int .i64 0) 8 Try.underlying30 Try.info3' rfl .i64 .i64 K (by omega) (by omega))
  obtain ⟨hKa, hKb⟩ := hK2
  clear hK ev hK0
  refine (New_yes K _ (by omega) (by omega)).mono ?_
  rintro e W1 ⟨g, gw, gh, rfl, hM1, hB, b0, b1, b2⟩
  have hs := hB.size
  have hm1 := HM1.out
  have hm2 := HM2.out
  go_wp2
  clear HM1 HM2
  apply cutM
  · intro key
    go_region
    · have hS : PStart w ((((W1.alloc (.cells (madeCells #[.int .u64 0] K) 24)).alloc (.cells (madeCells #[.int .i64 0] K) 3)).alloc (.cells #[.int .i64 0, .int .i64 0, .bool false] 79)).drew) g gw gh W1.heap.size (W1.heap.size + 1) (W1.heap.size + 1 + 1) K := PStart.ofwht hB b0 b1 b2 hM1
      revert hS
      generalize (((W1.alloc (.cells (madeCells #[.int .u64 0] K) 24)).alloc (.cells (madeCells #[.int .i64 0] K) 3)).alloc (.cells #[.int .i64 0, .int .i64 0, .bool false] 79)).drew = U
      generalize W1.heap.size + 1 + 1 = bt
      generalize W1.heap.size + 1 = bh
      generalize W1.heap.size = bw
      revert bw bh bt U
      exact key.out
    · have hS : PStart w ((((W1.alloc (.cells (madeCells #[.int .u64 0] K) 24)).alloc (.cells #[.int .i64 0, .int .i64 0, .bool false] 79)).alloc (.cells (madeCells #[.int .i64 0] K) 3)).drew) g gw gh W1.heap.size (W1.heap.size + 1 + 1) (W1.heap.size + 1) K := PStart.ofwth hB b0 b1 b2 hM1
      exact key.out _ _ _ _ hS
    · have hS : PStart w ((((W1.alloc (.cells (madeCells #[.int .i64 0] K) 3)).alloc (.cells (madeCells #[.int .u64 0] K) 24)).alloc (.cells #[.int .i64 0, .int .i64 0, .bool false] 79)).drew) g gw gh (W1.heap.size + 1) W1.heap.size (W1.heap.size + 1 + 1) K := PStart.ofhwt hB b0 b1 b2 hM1
      exact key.out _ _ _ _ hS
    · have hS : PStart w ((((W1.alloc (.cells (madeCells #[.int .i64 0] K) 3)).alloc (.cells #[.int .i64 0, .int .i64 0, .bool false] 79)).alloc (.cells (madeCells #[.int .u64 0] K) 24)).drew) g gw gh (W1.heap.size + 1 + 1) W1.heap.size (W1.heap.size + 1) K := PStart.ofhtw hB b0 b1 b2 hM1
      exact key.out _ _ _ _ hS
    · have hS : PStart w ((((W1.alloc (.cells #[.int .i64 0, .int .i64 0, .bool false] 79)).alloc (.cells (madeCells #[.int .u64 0] K) 24)).alloc (.cells (madeCells #[.int .i64 0] K) 3)).drew) g gw gh (W1.heap.size + 1) (W1.heap.size + 1 + 1) W1.heap.size K := PStart.oftwh hB b0 b1 b2 hM1
      exact key.out _ _ _ _ hS
    · have hS : PStart w ((((W1.alloc (.cells #[.int .i64 0, .int .i64 0, .bool false] 79)).alloc (.cells (madeCells #[.int .i64 0] K) 3)).alloc (.cells (madeCells #[.int .u64 0] K) 24)).drew) g gw gh (W1.heap.size + 1 + 1) (W1.heap.size + 1) W1.heap.size K := PStart.ofthw hB b0 b1 b2 hM1
      exact key.out _ _ _ _ hS
  · intro U bt bh bw hS
    clear hm1 hm2 hM1 hB b0 b1 b2 hs
    obtain ⟨hM, hw, hh, ht, hB, hs, b0, b1, b2, c0, c1, c2, n1, n2, n3, e1, e2, e3⟩ := hS
    go_wp2_with fail
    refine (awake2_any _).mono ?_
    rintro e w8 ⟨rfl, hb8⟩
    replace hM := hM.below hb8
    replace hw := hw.below hb8
    replace hh := hh.below hb8
    replace ht := (hb8.block _ (by exact lt_of_heap ht)).trans ht
    replace hB := hB.trans (hb8.mono hs)
    replace hs := Nat.le_trans hs hb8.size
    clear hb8
    have HP0 : Hid ((Ms.new K).n = K ∧ (Ms.new K).steps ≤ ((0 : Nat) : Int)) := ⟨rfl, by simp [Ms.new]⟩
    go_wp2_with fail
    go_loopw [10, 11, 13] (fun st who i wr => ∃ (k : Nat) (m : Ms) (U : World), i = .int .i64 k ∧ st = .int .i64 m.steps ∧ who = .int .i64 m.who ∧ k ≤ 80 ∧ U = wr ∧ Hid (m.n = K ∧ m.steps ≤ (k : Int)) ∧ MemAt U g gw gh m ∧ CopiedW U bw K K m ∧ CopiedH U bh K K m ∧ U.heap[bt]? = some (.cells #[.int .i64 m.la, .int .i64 m.lw, .bool m.lc] 79 (0, 0)) ∧ Below w.heap.size w U ∧ w.heap.size ≤ U.heap.size) (fun _ _ i _ => 80 - (intOf i).toNat)
    case atStart => exact ⟨0, Ms.new K, _, rfl, rfl, rfl, by omega, rfl, HP0, hM, hw, hh, ht, hB, hs⟩
    case round =>
      clear HP0 hM hw hh ht hB hs
      obtain ⟨k, m, U, rfl, rfl, rfl, hk80, rfl, hP, hM, hw, hh, ht, hB, hs⟩ := hrel
      have hst0 := hM.st0
      by_cases hlt : k < n ∧ k < 80
      · obtain ⟨q1, q2⟩ := hlt
        have q1i : (k : Int) < (n : Int) := by omega
        have q2i : (k : Int) < 80 := by omega
        obtain ⟨b', off, rfl, hb, hc⟩ := HL.out.2 (by omega)
        obtain ⟨kd, a, h, x, f, hact⟩ := hc k q1
        have HA := Lib.hid hact
        clear hc
        have z0 : U.cell? ⟨b', off + k * 5, none⟩ = some (.int .i64 kd) := (hB.cell hb).trans hact.1
        have z1 : U.cell? ⟨b', off + k * 5 + 1, none⟩ = some (.int .i64 a) := (hB.cell hb).trans hact.2.1
        have z2 : U.cell? ⟨b', off + k * 5 + 2, none⟩ = some (.int .i64 h) := (hB.cell hb).trans hact.2.2.1
        have z3 : U.cell? ⟨b', off + k * 5 + 3, none⟩ = some (.int .u64 x) := (hB.cell hb).trans hact.2.2.2.1
        have z4 : U.cell? ⟨b', off + k * 5 + 4, none⟩ = some (.bool f) := (hB.cell hb).trans hact.2.2.2.2.1
        clear hact
        have hst : m.steps < 4611686018427387904 := by have := hP.out.2; omega
        have npV : U.heap.size ≠ g ∧ U.heap.size ≠ gw ∧ U.heap.size ≠ gh := by have := hM.lt; have := hM.ltw; have := hM.lth; omega
        have ltw := hw.lt
        have lth := hh.lt
        have ltt := lt_of_heap ht
        have npB : U.heap.size ≠ bw ∧ U.heap.size ≠ bh ∧ U.heap.size ≠ bt := by omega
        have hVw : w.heap.size ≤ U.heap.size := hs
        have hbV : b' < U.heap.size := by omega
        clear ltw lth ltt
        have hV1 := heap_alloc_new U (.cells #[.int .i64 kd, .int .i64 a, .int .i64 h, .int .u64 x, .bool f] 75)
        have bn := below_new U (.cells #[.int .i64 kd, .int .i64 a, .int .i64 h, .int .u64 x, .bool f] 75)
        have hM1 := hM.below bn
        have hw1 := hw.below bn
        have hh1 := hh.below bn
        have ht1 := (bn.block _ (by exact lt_of_heap ht)).trans ht
        have hB1 := hB.trans (bn.mono hs)
        have hs1 := Nat.le_trans hs bn.size
        clear bn
        have d0 := cell_of_row _ U.heap.size 0 _ _ _ hV1
        have d1 := cell_of_row _ U.heap.size 1 _ _ _ hV1
        have d2 := cell_of_row _ U.heap.size 2 _ _ _ hV1
        have d3 := cell_of_row _ U.heap.size 3 _ _ _ hV1
        have d4 := cell_of_row _ U.heap.size 4 _ _ _ hV1
        rcases (by omega : a < 0 ∨ (0 ≤ a ∧ (K : Int) ≤ a) ∨ (0 ≤ a ∧ a < (K : Int))) with r | ⟨r0, r⟩ | ⟨r0, r⟩
        · have hno : a < 0 ∨ (m.n : Int) ≤ a := .inl r
          have HNO := Lib.hid hno
          clear hno
          rcases (by omega : kd = 0 ∨ kd = 1 ∨ kd = 2 ∨ kd = 3 ∨ (kd ≠ 0 ∧ kd ≠ 1 ∧ kd ≠ 2 ∧ kd ≠ 3)) with rfl | rfl | rfl | rfl | ⟨y0, y1, y2, y3⟩
          · as_aux_lemma =>
              go_wp2_with fail
              refine (Load_no g gw gh m a _ hM1 HNO.out).mono ?_
              rintro e w9 ⟨rfl, hw9⟩
              obtain rfl := hw9.symm
              clear hw9
              go_wp2_with fail
              refine (Steps_any g gw gh m _ hM1).mono ?_
              rintro e w9 ⟨rfl, hw9⟩
              obtain rfl := hw9.symm
              clear hw9
              have hP9 : Hid (m.n = K ∧ m.steps ≤ ((k + 1 : Nat) : Int)) := ⟨hP.out.1, by have := hP.out.2; omega⟩
              go_wp2
              go_roundw
              case rel => exact ⟨k + 1, m, _, by go_num, rfl, rfl, by omega, rfl, hP9, hM1, hw1, hh1, ht1, hB1, hs1⟩
              case measure => simp [intOf]; omega
          · as_aux_lemma =>
              go_wp2_with fail
              refine (Store_no g gw gh m a x _ hM1 HNO.out).mono ?_
              rintro e w9 ⟨rfl, hw9⟩
              obtain rfl := hw9.symm
              clear hw9
              go_wp2_with fail
              refine (Steps_any g gw gh m _ hM1).mono ?_
              rintro e w9 ⟨rfl, hw9⟩
              obtain rfl := hw9.symm
              clear hw9
              have hP9 : Hid (m.n = K ∧ m.steps ≤ ((k + 1 : Nat) : Int)) := ⟨hP.out.1, by have := hP.out.2; omega⟩
              go_wp2
              go_roundw
              case rel => exact ⟨k + 1, m, _, by go_num, rfl, rfl, by omega, rfl, hP9, hM1, hw1, hh1, ht1, hB1, hs1⟩
              case measure => simp [intOf]; omega
          · as_aux_lemma =>
              cases f
              · go_wp2_with fail
                refine (Cas_no g gw gh m a _ x _ hM1 HNO.out).mono ?_
                rintro e w9 ⟨rfl, hw9⟩
                obtain rfl := hw9.symm
                clear hw9
                go_wp2_with fail
                refine (Steps_any g gw gh m _ hM1).mono ?_
                rintro e w9 ⟨rfl, hw9⟩
                obtain rfl := hw9.symm
                clear hw9
                have hP9 : Hid (m.n = K ∧ m.steps ≤ ((k + 1 : Nat) : Int)) := ⟨hP.out.1, by have := hP.out.2; omega⟩
                go_wp2
                go_roundw
                case rel => exact ⟨k + 1, m, _, by go_num, rfl, rfl, by omega, rfl, hP9, hM1, hw1, hh1, ht1, hB1, hs1⟩
                case measure => simp [intOf]; omega
              · go_wp2_with fail
                refine (Cas_no g gw gh m a _ x _ hM1 HNO.out).mono ?_
                rintro e w9 ⟨rfl, hw9⟩
                obtain rfl := hw9.symm
                clear hw9
                go_wp2_with fail
                refine (Steps_any g gw gh m _ hM1).mono ?_
                rintro e w9 ⟨rfl, hw9⟩
                obtain rfl := hw9.symm
                clear hw9
                have hP9 : Hid (m.n = K ∧ m.steps ≤ ((k + 1 : Nat) : Int)) := ⟨hP.out.1, by have := hP.out.2; omega⟩
                go_wp2
                go_roundw
                case rel => exact ⟨k + 1, m, _, by go_num, rfl, rfl, by omega, rfl, hP9, hM1, hw1, hh1, ht1, hB1, hs1⟩
                case measure => simp [intOf]; omega
          · as_aux_lemma =>
              go_wp2_with fail
              refine (Add_no g gw gh m a x _ hM1 HNO.out).mono ?_
              rintro e w9 ⟨rfl, hw9⟩
              obtain rfl := hw9.symm
              clear hw9
              go_wp2_with fail
              refine (Steps_any g gw gh m _ hM1).mono ?_
              rintro e w9 ⟨rfl, hw9⟩
              obtain rfl := hw9.symm
              clear hw9
              have hP9 : Hid (m.n = K ∧ m.steps ≤ ((k + 1 : Nat) : Int)) := ⟨hP.out.1, by have := hP.out.2; omega⟩
              go_wp2
              go_roundw
              case rel => exact ⟨k + 1, m, _, by go_num, rfl, rfl, by omega, rfl, hP9, hM1, hw1, hh1, ht1, hB1, hs1⟩
              case measure => simp [intOf]; omega
          · as_aux_lemma =>
              have y0' : (kd == 0) = false := beq_eq_false_iff_ne.2 y0
              have y1' : (kd == 1) = false := beq_eq_false_iff_ne.2 y1
              have y2' : (kd == 2) = false := beq_eq_false_iff_ne.2 y2
              have y3' : (kd == 3) = false := beq_eq_false_iff_ne.2 y3
              go_wp2_with fail
              refine (By_any g gw gh m h _ hM1).mono ?_
              rintro e w9 ⟨rfl, hM9, hK9⟩
              have hV9 := hK9.heap hV1 npV.1 npV.2.1 npV.2.2
              have hw9 : CopiedW w9 bw K K (m.by_ h) := hw1.far hK9 n1.1 n1.2.1 n1.2.2
              have hh9 : CopiedH w9 bh K K (m.by_ h) := hh1.far hK9 n2.1 n2.2.1 n2.2.2
              have ht9 := hK9.heap ht1 n3.1 n3.2.1 n3.2.2
              have hB9 := hB1.trans (hK9.below b0 b1 b2 hs1)
              have hs9 := Nat.le_trans hs1 hK9.size
              have hP9 : Hid ((m.by_ h).n = K ∧ (m.by_ h).steps ≤ ((k + 1 : Nat) : Int)) := ⟨hP.out.1, by have := hP.out.2; show m.steps ≤ _; omega⟩
              clear hK9 hM hw hh ht hB hs hM1 hw1 hh1 ht1 hB1 hs1 d0 d1 d2 d3 d4 z0 z1 z2 z3 z4
              have d2 := cell_of_row _ U.heap.size 2 _ _ _ hV9
              go_wp2
              go_roundw
              case rel => exact ⟨k + 1, m.by_ h, w9, by go_num, rfl, rfl, by omega, rfl, hP9, hM9, hw9, hh9, ht9, hB9, hs9⟩
              case measure => simp [intOf]; omega
        · have rd : decide (a < (K : Int)) = false := decide_eq_false (by omega)
          have hno : a < 0 ∨ (m.n : Int) ≤ a := .inr (by rw [hP.out.1]; exact r)
          have HNO := Lib.hid hno
          clear hno
          rcases (by omega : kd = 0 ∨ kd = 1 ∨ kd = 2 ∨ kd = 3 ∨ (kd ≠ 0 ∧ kd ≠ 1 ∧ kd ≠ 2 ∧ kd ≠ 3)) with rfl | rfl | rfl | rfl | ⟨y0, y1, y2, y3⟩
          · as_aux_lemma =>
              go_wp2_with fail
              refine (Load_no g gw gh m a _ hM1 HNO.out).mono ?_
              rintro e w9 ⟨rfl, hw9⟩
              obtain rfl := hw9.symm
              clear hw9
              go_wp2_with fail
              refine (Steps_any g gw gh m _ hM1).mono ?_
              rintro e w9 ⟨rfl, hw9⟩
              obtain rfl := hw9.symm
              clear hw9
              have hP9 : Hid (m.n = K ∧ m.steps ≤ ((k + 1 : Nat) : Int)) := ⟨hP.out.1, by have := hP.out.2; omega⟩
              go_wp2
              go_roundw
              case rel => exact ⟨k + 1, m, _, by go_num, rfl, rfl, by omega, rfl, hP9, hM1, hw1, hh1, ht1, hB1, hs1⟩
              case measure => simp [intOf]; omega
          · as_aux_lemma =>
              go_wp2_with fail
              refine (Store_no g gw gh m a x _ hM1 HNO.out).mono ?_
              rintro e w9 ⟨rfl, hw9⟩
              obtain rfl := hw9.symm
              clear hw9
              go_wp2_with fail
              refine (Steps_any g gw gh m _ hM1).mono ?_
              rintro e w9 ⟨rfl, hw9⟩
              obtain rfl := hw9.symm
              clear hw9
              have hP9 : Hid (m.n = K ∧ m.steps ≤ ((k + 1 : Nat) : Int)) := ⟨hP.out.1, by have := hP.out.2; omega⟩
              go_wp2
              go_roundw
              case rel => exact ⟨k + 1, m, _, by go_num, rfl, rfl, by omega, rfl, hP9, hM1, hw1, hh1, ht1, hB1, hs1⟩
              case measure => simp [intOf]; omega
          · as_aux_lemma =>
              cases f
              · go_wp2_with fail
                refine (Cas_no g gw gh m a _ x _ hM1 HNO.out).mono ?_
                rintro e w9 ⟨rfl, hw9⟩
                obtain rfl := hw9.symm
                clear hw9
                go_wp2_with fail
                refine (Steps_any g gw gh m _ hM1).mono ?_
                rintro e w9 ⟨rfl, hw9⟩
                obtain rfl := hw9.symm
                clear hw9
                have hP9 : Hid (m.n = K ∧ m.steps ≤ ((k + 1 : Nat) : Int)) := ⟨hP.out.1, by have := hP.out.2; omega⟩
                go_wp2
                go_roundw
                case rel => exact ⟨k + 1, m, _, by go_num, rfl, rfl, by omega, rfl, hP9, hM1, hw1, hh1, ht1, hB1, hs1⟩
                case measure => simp [intOf]; omega
              · go_wp2_with fail
                refine (Cas_no g gw gh m a _ x _ hM1 HNO.out).mono ?_
                rintro e w9 ⟨rfl, hw9⟩
                obtain rfl := hw9.symm
                clear hw9
                go_wp2_with fail
                refine (Steps_any g gw gh m _ hM1).mono ?_
                rintro e w9 ⟨rfl, hw9⟩
                obtain rfl := hw9.symm
                clear hw9
                have hP9 : Hid (m.n = K ∧ m.steps ≤ ((k + 1 : Nat) : Int)) := ⟨hP.out.1, by have := hP.out.2; omega⟩
                go_wp2
                go_roundw
                case rel => exact ⟨k + 1, m, _, by go_num, rfl, rfl, by omega, rfl, hP9, hM1, hw1, hh1, ht1, hB1, hs1⟩
                case measure => simp [intOf]; omega
          · as_aux_lemma =>
              go_wp2_with fail
              refine (Add_no g gw gh m a x _ hM1 HNO.out).mono ?_
              rintro e w9 ⟨rfl, hw9⟩
              obtain rfl := hw9.symm
              clear hw9
              go_wp2_with fail
              refine (Steps_any g gw gh m _ hM1).mono ?_
              rintro e w9 ⟨rfl, hw9⟩
              obtain rfl := hw9.symm
              clear hw9
              have hP9 : Hid (m.n = K ∧ m.steps ≤ ((k + 1 : Nat) : Int)) := ⟨hP.out.1, by have := hP.out.2; omega⟩
              go_wp2
              go_roundw
              case rel => exact ⟨k + 1, m, _, by go_num, rfl, rfl, by omega, rfl, hP9, hM1, hw1, hh1, ht1, hB1, hs1⟩
              case measure => simp [intOf]; omega
          · as_aux_lemma =>
              have y0' : (kd == 0) = false := beq_eq_false_iff_ne.2 y0
              have y1' : (kd == 1) = false := beq_eq_false_iff_ne.2 y1
              have y2' : (kd == 2) = false := beq_eq_false_iff_ne.2 y2
              have y3' : (kd == 3) = false := beq_eq_false_iff_ne.2 y3
              go_wp2_with fail
              refine (By_any g gw gh m h _ hM1).mono ?_
              rintro e w9 ⟨rfl, hM9, hK9⟩
              have hV9 := hK9.heap hV1 npV.1 npV.2.1 npV.2.2
              have hw9 : CopiedW w9 bw K K (m.by_ h) := hw1.far hK9 n1.1 n1.2.1 n1.2.2
              have hh9 : CopiedH w9 bh K K (m.by_ h) := hh1.far hK9 n2.1 n2.2.1 n2.2.2
              have ht9 := hK9.heap ht1 n3.1 n3.2.1 n3.2.2
              have hB9 := hB1.trans (hK9.below b0 b1 b2 hs1)
              have hs9 := Nat.le_trans hs1 hK9.size
              have hP9 : Hid ((m.by_ h).n = K ∧ (m.by_ h).steps ≤ ((k + 1 : Nat) : Int)) := ⟨hP.out.1, by have := hP.out.2; show m.steps ≤ _; omega⟩
              clear hK9 hM hw hh ht hB hs hM1 hw1 hh1 ht1 hB1 hs1 d0 d1 d2 d3 d4 z0 z1 z2 z3 z4
              have d2 := cell_of_row _ U.heap.size 2 _ _ _ hV9
              go_wp2
              go_roundw
              case rel => exact ⟨k + 1, m.by_ h, w9, by go_num, rfl, rfl, by omega, rfl, hP9, hM9, hw9, hh9, ht9, hB9, hs9⟩
              case measure => simp [intOf]; omega
        · have rd : decide (a < (K : Int)) = true := decide_eq_true (by omega)
          obtain ⟨at_, rfl⟩ : ∃ t : Nat, a = (t : Int) := ⟨a.toNat, by omega⟩
          have hat : at_ < K := by omega
          have hatn : at_ < m.n := by rw [hP.out.1]; exact hat
          have dw := hw1.cell hat
          have hwi : IntKind.i64.wrap (m.steps + 1) = m.steps + 1 := by rw [IntWalk.i64_left]; exact IntWalk.wrap64_in _ ⟨by omega, by omega⟩
          rcases (by omega : kd = 0 ∨ kd = 1 ∨ kd = 2 ∨ kd = 3 ∨ (kd ≠ 0 ∧ kd ≠ 1 ∧ kd ≠ 2 ∧ kd ≠ 3)) with rfl | rfl | rfl | rfl | ⟨y0, y1, y2, y3⟩
          · as_aux_lemma =>
              go_wp2_with fail
              refine (Load_yes g gw gh m at_ _ hM1 hatn hst).mono ?_
              rintro e w9 ⟨rfl, hM9, hK9⟩
              have NX_ := NX.load (at_ := at_) (K := K) hP.out.1
              have hV9 := hK9.heap hV1 npV.1 npV.2.1 npV.2.2
              have hw9 := hw1.far hK9 n1.1 n1.2.1 n1.2.2
              have hh9 := hh1.far hK9 n2.1 n2.2.1 n2.2.2
              have ht9 := hK9.heap ht1 n3.1 n3.2.1 n3.2.2
              have hB9 := hB1.trans (hK9.below b0 b1 b2 hs1)
              have hs9 := Nat.le_trans hs1 hK9.size
              clear hK9 hM hw hh ht hB hs hM1 hw1 hh1 ht1 hB1 hs1 hV1 d0 d1 d2 d3 d4 z0 z1 z2 z3 z4 dw
              have d0 := cell_of_row _ U.heap.size 0 _ _ _ hV9
              have d1 := cell_of_row _ U.heap.size 1 _ _ _ hV9
              have d2 := cell_of_row _ U.heap.size 2 _ _ _ hV9
              have d3 := cell_of_row _ U.heap.size 3 _ _ _ hV9
              have d4 := cell_of_row _ U.heap.size 4 _ _ _ hV9
              have cw := hw9.cell hat
              have fw := hw9.fr at_
              go_wp2
              have hX1 := hw9.put hat NX_.w
              have hhX : CopiedH (w9.setCell ⟨bw, at_, none⟩ (.int .u64 (m.w at_))) bh K K m := hh9.put (p := ⟨bw, at_, none⟩) (Ne.symm e1)
              have htX := (heap_set_far (p := ⟨bw, at_, none⟩) (.int .u64 (m.w at_)) (Ne.symm e2)).trans ht9
              have hVX := (heap_set_far (p := ⟨bw, at_, none⟩) (.int .u64 (m.w at_)) npB.1).trans hV9
              have hMX := hM9.far (p := ⟨bw, at_, none⟩) (.int .u64 (m.w at_)) (Ne.symm n1.1) (Ne.symm n1.2.1) (Ne.symm n1.2.2)
              have hBX := hB9.setCell (p := ⟨bw, at_, none⟩) c0 (.int .u64 (m.w at_))
              have hsX : w.heap.size ≤ (w9.setCell ⟨bw, at_, none⟩ (.int .u64 (m.w at_))).heap.size := by simp [World.setCell]; omega
              clear hw9 hh9 ht9 hV9 hM9 hB9 hs9 d0 d1 d2 d3 d4 cw fw
              generalize w9.setCell ⟨bw, at_, none⟩ (.int .u64 (m.w at_)) = X at hX1 hhX htX hVX hMX hBX hsX ⊢
              have d1 := cell_of_row _ U.heap.size 1 _ _ _ hVX
              have t0 := cell_of_row _ bt 0 _ _ _ htX
              have t1 := cell_of_row _ bt 1 _ _ _ htX
              have t2 := cell_of_row _ bt 2 _ _ _ htX
              have f0 := frozen_of 0 htX
              have f1 := frozen_of 1 htX
              have f2 := frozen_of 2 htX
              go_region
              have htY := heap_set_self 2 (.bool false) (heap_set_self 1 (.int .i64 m.who) (heap_set_self 0 (.int .i64 (at_ : Nat)) htX))
              replace htY : ((((X.setCell ⟨bt, 0, none⟩ (.int .i64 (at_ : Nat))).setCell ⟨bt, 1, none⟩ (.int .i64 m.who)).setCell ⟨bt, 2, none⟩ (.bool false)).drew).heap[bt]? = some (.cells #[.int .i64 (at_ : Nat), .int .i64 m.who, .bool false] 79 (0, 0)) := htY
              have hwY := ((hX1.keep (p := ⟨bt, 0, none⟩) e2 (.int .i64 (at_ : Nat))).keep (p := ⟨bt, 1, none⟩) e2 (.int .i64 m.who)).keep (p := ⟨bt, 2, none⟩) e2 (.bool false)
              have hhY := ((hhX.put (p := ⟨bt, 0, none⟩) (v := .int .i64 (at_ : Nat)) e3).put (p := ⟨bt, 1, none⟩) (v := .int .i64 m.who) e3).put (p := ⟨bt, 2, none⟩) (v := .bool false) e3
              have hMY := (((hMX.far (p := ⟨bt, 0, none⟩) (.int .i64 (at_ : Nat)) (Ne.symm n3.1) (Ne.symm n3.2.1) (Ne.symm n3.2.2)).far (p := ⟨bt, 1, none⟩) (.int .i64 m.who) (Ne.symm n3.1) (Ne.symm n3.2.1) (Ne.symm n3.2.2)).far (p := ⟨bt, 2, none⟩) (.bool false) (Ne.symm n3.1) (Ne.symm n3.2.1) (Ne.symm n3.2.2)).drew
              have hBY := (((hBX.setCell (p := ⟨bt, 0, none⟩) c2 (.int .i64 (at_ : Nat))).setCell (p := ⟨bt, 1, none⟩) c2 (.int .i64 m.who)).setCell (p := ⟨bt, 2, none⟩) c2 (.bool false)).drew
              have hVY := (heap_set_far (p := ⟨bt, 2, none⟩) (.bool false) npB.2.2).trans ((heap_set_far (p := ⟨bt, 1, none⟩) (.int .i64 m.who) npB.2.2).trans ((heap_set_far (p := ⟨bt, 0, none⟩) (.int .i64 (at_ : Nat)) npB.2.2).trans hVX))
              have hsY : w.heap.size ≤ ((((X.setCell ⟨bt, 0, none⟩ (.int .i64 (at_ : Nat))).setCell ⟨bt, 1, none⟩ (.int .i64 m.who)).setCell ⟨bt, 2, none⟩ (.bool false)).drew).heap.size := by simp [World.setCell]; omega
              replace hwY : CopiedW ((((X.setCell ⟨bt, 0, none⟩ (.int .i64 (at_ : Nat))).setCell ⟨bt, 1, none⟩ (.int .i64 m.who)).setCell ⟨bt, 2, none⟩ (.bool false)).drew) bw K K (m.step at_) := hwY
              replace hhY : CopiedH ((((X.setCell ⟨bt, 0, none⟩ (.int .i64 (at_ : Nat))).setCell ⟨bt, 1, none⟩ (.int .i64 m.who)).setCell ⟨bt, 2, none⟩ (.bool false)).drew) bh K K m := hhY
              replace hVY : ((((X.setCell ⟨bt, 0, none⟩ (.int .i64 (at_ : Nat))).setCell ⟨bt, 1, none⟩ (.int .i64 m.who)).setCell ⟨bt, 2, none⟩ (.bool false)).drew).heap[U.heap.size]? = some (.cells #[.int .i64 0, .int .i64 at_, .int .i64 h, .int .u64 x, .bool f] 75 (0, 0)) := hVY
              clear d1 t0 t1 t2 f0 f1 f2 hX1 hhX htX hVX hMX hBX hsX
              generalize (((X.setCell ⟨bt, 0, none⟩ (.int .i64 (at_ : Nat))).setCell ⟨bt, 1, none⟩ (.int .i64 m.who)).setCell ⟨bt, 2, none⟩ (.bool false)).drew = Y at htY hwY hhY hMY hBY hVY hsY ⊢
              have d1 := cell_of_row _ U.heap.size 1 _ _ _ hVY
              have hhZ := hhY.same NX_.h
              clear hhY
              have hhY := hhZ
              clear hhZ
              go_wp2
              have HNX := Lib.hid NX_
              have HSt := Lib.hid NX_.steps
              have HWv : Hid ((m.step at_).w at_ = (m.w at_)) := by
                have := NX_.w at_
                rw [if_pos rfl] at this
                exact this
              have HLst : Hid (∀ W, MemAt W g gw gh (m.step at_) → Calls Try.prog 55 #[.pointer (some ⟨g, 0, none⟩)] W fun e W' => e = .returned (.agg #[.int .i64 (at_ : Nat), .int .i64 m.who, .bool false]) ∧ Below W.heap.size W W') := by
                intro W h
                have h2 := Last_any g gw gh (m.step at_) W h
                rw [NX_.la, NX_.lw, NX_.lc] at h2
                exact h2
              have HStp : Hid (∀ W, MemAt W g gw gh (m.step at_) → Calls Try.prog 54 #[.pointer (some ⟨g, 0, none⟩)] W fun e W' => e = .returned (.int .i64 (m.steps + 1)) ∧ W' = W) := by
                intro W h
                have h2 := Steps_any g gw gh (m.step at_) W h
                rw [NX_.steps] at h2
                exact h2
              have HPk : Hid (∀ W, MemAt W g gw gh (m.step at_) → Calls Try.prog 49 #[.pointer (some ⟨g, 0, none⟩), .int .i64 (at_ : Nat)] W fun e W' => e = .returned (.int .u64 (m.w at_)) ∧ W' = W) := by
                intro W h
                have h2 := Peek_yes g gw gh (m.step at_) at_ W h (by rw [NX_.n]; exact hat)
                rw [HWv.out] at h2
                exact h2
              clear NX_
              replace hBY := hBY.drew
              replace hMY := hMY.drew
              replace hwY : CopiedW Y.drew bw K K (m.step at_) := hwY
              replace hhY : CopiedH Y.drew bh K K (m.step at_) := hhY
              replace htY : Y.drew.heap[bt]? = _ := htY
              replace hVY : Y.drew.heap[U.heap.size]? = _ := hVY
              replace hsY : w.heap.size ≤ Y.drew.heap.size := hsY
              (first | (go_region_held3 (fun w' => w'.cell? ⟨U.heap.size, 1, none⟩ = some (.int .i64 (at_ : Nat)) ∧ w'.cell? ⟨bt, 0, none⟩ = some (.int .i64 (at_ : Nat)) ∧ w'.cell? ⟨bt, 1, none⟩ = some (.int .i64 m.who) ∧ w'.cell? ⟨bt, 2, none⟩ = some (.bool false))
                (exact ⟨cell_of_row _ U.heap.size 1 _ _ _ hVY, cell_of_row _ bt 0 _ _ _ htY, cell_of_row _ bt 1 _ _ _ htY, cell_of_row _ bt 2 _ _ _ htY⟩)
                (first
                  | (go_at_call 54; refine (HStp.out _ hMY).mono ?_; rintro e w7 ⟨rfl, hw7⟩; obtain rfl := hw7.symm; clear hw7)
                  | (go_at_call 49; refine (HPk.out _ hMY).mono ?_; rintro e w7 ⟨rfl, hw7⟩; obtain rfl := hw7.symm; clear hw7)
                  | (go_at_call 55; refine (HLst.out _ hMY).mono ?_; rintro e w6 ⟨rfl, hb6⟩; replace hMY := hMY.below hb6; replace hwY := hwY.below hb6; replace hhY := hhY.below hb6; replace htY := (hb6.block _ (by exact lt_of_heap htY)).trans htY; replace hVY := (hb6.block _ (by exact lt_of_heap hVY)).trans hVY; replace hBY := hBY.trans (hb6.mono hsY); replace hsY := Nat.le_trans hsY hb6.size; clear hb6))) | fail)
              all_goals
                have hP9 : Hid ((m.step at_).n = K ∧ (m.step at_).steps ≤ ((k + 1 : Nat) : Int)) := ⟨HNX.out.n, by have := hP.out.2; rw [HSt.out]; omega⟩
                go_wp2
                go_roundw
                case rel => exact ⟨k + 1, (m.step at_), _, by go_num, by rw [HSt.out], by rw [HNX.out.who], by omega, rfl, hP9, hMY, hwY, hhY, by rw [HNX.out.la, HNX.out.lw, HNX.out.lc]; exact htY, hBY, hsY⟩
                case measure => simp [intOf]; omega
          · as_aux_lemma =>
              have HXB : Hid (0 ≤ x ∧ x < 18446744073709551616) := by have := HA.out.2.2.2.2.2.2.2.2; show _ ∧ _; omega
              by_cases hv : m.w at_ = x
              · have nb : (x != m.w at_) = false := by simp [hv]
                have NX_ := NX.same (at_ := at_) (K := K) hP.out.1 x hv
                clear hv
                go_wp2_with fail
                refine (Store_yes g gw gh m at_ x _ hM1 hatn hst HXB.out).mono ?_
                rintro e w9 ⟨rfl, hM9, hK9⟩
                have hV9 := hK9.heap hV1 npV.1 npV.2.1 npV.2.2
                have hw9 := hw1.far hK9 n1.1 n1.2.1 n1.2.2
                have hh9 := hh1.far hK9 n2.1 n2.2.1 n2.2.2
                have ht9 := hK9.heap ht1 n3.1 n3.2.1 n3.2.2
                have hB9 := hB1.trans (hK9.below b0 b1 b2 hs1)
                have hs9 := Nat.le_trans hs1 hK9.size
                clear hK9 hM hw hh ht hB hs hM1 hw1 hh1 ht1 hB1 hs1 hV1 d0 d1 d2 d3 d4 z0 z1 z2 z3 z4 dw
                have d0 := cell_of_row _ U.heap.size 0 _ _ _ hV9
                have d1 := cell_of_row _ U.heap.size 1 _ _ _ hV9
                have d2 := cell_of_row _ U.heap.size 2 _ _ _ hV9
                have d3 := cell_of_row _ U.heap.size 3 _ _ _ hV9
                have d4 := cell_of_row _ U.heap.size 4 _ _ _ hV9
                have cw := hw9.cell hat
                have fw := hw9.fr at_
                go_wp2
                have hX1 := hw9.put hat NX_.w
                have hhX : CopiedH (w9.setCell ⟨bw, at_, none⟩ (.int .u64 x)) bh K K m := hh9.put (p := ⟨bw, at_, none⟩) (Ne.symm e1)
                have htX := (heap_set_far (p := ⟨bw, at_, none⟩) (.int .u64 x) (Ne.symm e2)).trans ht9
                have hVX := (heap_set_far (p := ⟨bw, at_, none⟩) (.int .u64 x) npB.1).trans hV9
                have hMX := hM9.far (p := ⟨bw, at_, none⟩) (.int .u64 x) (Ne.symm n1.1) (Ne.symm n1.2.1) (Ne.symm n1.2.2)
                have hBX := hB9.setCell (p := ⟨bw, at_, none⟩) c0 (.int .u64 x)
                have hsX : w.heap.size ≤ (w9.setCell ⟨bw, at_, none⟩ (.int .u64 x)).heap.size := by simp [World.setCell]; omega
                clear hw9 hh9 ht9 hV9 hM9 hB9 hs9 d0 d1 d2 d3 d4 cw fw
                generalize w9.setCell ⟨bw, at_, none⟩ (.int .u64 x) = X at hX1 hhX htX hVX hMX hBX hsX ⊢
                have d1 := cell_of_row _ U.heap.size 1 _ _ _ hVX
                have t0 := cell_of_row _ bt 0 _ _ _ htX
                have t1 := cell_of_row _ bt 1 _ _ _ htX
                have t2 := cell_of_row _ bt 2 _ _ _ htX
                have f0 := frozen_of 0 htX
                have f1 := frozen_of 1 htX
                have f2 := frozen_of 2 htX
                go_region
                have htY := heap_set_self 2 (.bool false) (heap_set_self 1 (.int .i64 m.who) (heap_set_self 0 (.int .i64 (at_ : Nat)) htX))
                replace htY : ((((X.setCell ⟨bt, 0, none⟩ (.int .i64 (at_ : Nat))).setCell ⟨bt, 1, none⟩ (.int .i64 m.who)).setCell ⟨bt, 2, none⟩ (.bool false)).drew).heap[bt]? = some (.cells #[.int .i64 (at_ : Nat), .int .i64 m.who, .bool false] 79 (0, 0)) := htY
                have hwY := ((hX1.keep (p := ⟨bt, 0, none⟩) e2 (.int .i64 (at_ : Nat))).keep (p := ⟨bt, 1, none⟩) e2 (.int .i64 m.who)).keep (p := ⟨bt, 2, none⟩) e2 (.bool false)
                have hhY := ((hhX.put (p := ⟨bt, 0, none⟩) (v := .int .i64 (at_ : Nat)) e3).put (p := ⟨bt, 1, none⟩) (v := .int .i64 m.who) e3).put (p := ⟨bt, 2, none⟩) (v := .bool false) e3
                have hMY := (((hMX.far (p := ⟨bt, 0, none⟩) (.int .i64 (at_ : Nat)) (Ne.symm n3.1) (Ne.symm n3.2.1) (Ne.symm n3.2.2)).far (p := ⟨bt, 1, none⟩) (.int .i64 m.who) (Ne.symm n3.1) (Ne.symm n3.2.1) (Ne.symm n3.2.2)).far (p := ⟨bt, 2, none⟩) (.bool false) (Ne.symm n3.1) (Ne.symm n3.2.1) (Ne.symm n3.2.2)).drew
                have hBY := (((hBX.setCell (p := ⟨bt, 0, none⟩) c2 (.int .i64 (at_ : Nat))).setCell (p := ⟨bt, 1, none⟩) c2 (.int .i64 m.who)).setCell (p := ⟨bt, 2, none⟩) c2 (.bool false)).drew
                have hVY := (heap_set_far (p := ⟨bt, 2, none⟩) (.bool false) npB.2.2).trans ((heap_set_far (p := ⟨bt, 1, none⟩) (.int .i64 m.who) npB.2.2).trans ((heap_set_far (p := ⟨bt, 0, none⟩) (.int .i64 (at_ : Nat)) npB.2.2).trans hVX))
                have hsY : w.heap.size ≤ ((((X.setCell ⟨bt, 0, none⟩ (.int .i64 (at_ : Nat))).setCell ⟨bt, 1, none⟩ (.int .i64 m.who)).setCell ⟨bt, 2, none⟩ (.bool false)).drew).heap.size := by simp [World.setCell]; omega
                replace hwY : CopiedW ((((X.setCell ⟨bt, 0, none⟩ (.int .i64 (at_ : Nat))).setCell ⟨bt, 1, none⟩ (.int .i64 m.who)).setCell ⟨bt, 2, none⟩ (.bool false)).drew) bw K K ((m.step at_).set at_ x) := hwY
                replace hhY : CopiedH ((((X.setCell ⟨bt, 0, none⟩ (.int .i64 (at_ : Nat))).setCell ⟨bt, 1, none⟩ (.int .i64 m.who)).setCell ⟨bt, 2, none⟩ (.bool false)).drew) bh K K m := hhY
                replace hVY : ((((X.setCell ⟨bt, 0, none⟩ (.int .i64 (at_ : Nat))).setCell ⟨bt, 1, none⟩ (.int .i64 m.who)).setCell ⟨bt, 2, none⟩ (.bool false)).drew).heap[U.heap.size]? = some (.cells #[.int .i64 1, .int .i64 at_, .int .i64 h, .int .u64 x, .bool f] 75 (0, 0)) := hVY
                clear d1 t0 t1 t2 f0 f1 f2 hX1 hhX htX hVX hMX hBX hsX
                generalize (((X.setCell ⟨bt, 0, none⟩ (.int .i64 (at_ : Nat))).setCell ⟨bt, 1, none⟩ (.int .i64 m.who)).setCell ⟨bt, 2, none⟩ (.bool false)).drew = Y at htY hwY hhY hMY hBY hVY hsY ⊢
                have d1 := cell_of_row _ U.heap.size 1 _ _ _ hVY
                have hhZ := hhY.same NX_.h
                clear hhY
                have hhY := hhZ
                clear hhZ
                go_wp2
                have HNX := Lib.hid NX_
                have HSt := Lib.hid NX_.steps
                have HWv : Hid (((m.step at_).set at_ x).w at_ = x) := by
                  have := NX_.w at_
                  rw [if_pos rfl] at this
                  exact this
                have HLst : Hid (∀ W, MemAt W g gw gh ((m.step at_).set at_ x) → Calls Try.prog 55 #[.pointer (some ⟨g, 0, none⟩)] W fun e W' => e = .returned (.agg #[.int .i64 (at_ : Nat), .int .i64 m.who, .bool false]) ∧ Below W.heap.size W W') := by
                  intro W h
                  have h2 := Last_any g gw gh ((m.step at_).set at_ x) W h
                  rw [NX_.la, NX_.lw, NX_.lc] at h2
                  exact h2
                have HStp : Hid (∀ W, MemAt W g gw gh ((m.step at_).set at_ x) → Calls Try.prog 54 #[.pointer (some ⟨g, 0, none⟩)] W fun e W' => e = .returned (.int .i64 (m.steps + 1)) ∧ W' = W) := by
                  intro W h
                  have h2 := Steps_any g gw gh ((m.step at_).set at_ x) W h
                  rw [NX_.steps] at h2
                  exact h2
                have HPk : Hid (∀ W, MemAt W g gw gh ((m.step at_).set at_ x) → Calls Try.prog 49 #[.pointer (some ⟨g, 0, none⟩), .int .i64 (at_ : Nat)] W fun e W' => e = .returned (.int .u64 x) ∧ W' = W) := by
                  intro W h
                  have h2 := Peek_yes g gw gh ((m.step at_).set at_ x) at_ W h (by rw [NX_.n]; exact hat)
                  rw [HWv.out] at h2
                  exact h2
                clear NX_
                replace hBY := hBY.drew
                replace hMY := hMY.drew
                replace hwY : CopiedW Y.drew bw K K ((m.step at_).set at_ x) := hwY
                replace hhY : CopiedH Y.drew bh K K ((m.step at_).set at_ x) := hhY
                replace htY : Y.drew.heap[bt]? = _ := htY
                replace hVY : Y.drew.heap[U.heap.size]? = _ := hVY
                replace hsY : w.heap.size ≤ Y.drew.heap.size := hsY
                (first | (go_region_held3 (fun w' => w'.cell? ⟨U.heap.size, 1, none⟩ = some (.int .i64 (at_ : Nat)) ∧ w'.cell? ⟨bt, 0, none⟩ = some (.int .i64 (at_ : Nat)) ∧ w'.cell? ⟨bt, 1, none⟩ = some (.int .i64 m.who) ∧ w'.cell? ⟨bt, 2, none⟩ = some (.bool false))
                  (exact ⟨cell_of_row _ U.heap.size 1 _ _ _ hVY, cell_of_row _ bt 0 _ _ _ htY, cell_of_row _ bt 1 _ _ _ htY, cell_of_row _ bt 2 _ _ _ htY⟩)
                  (first
                    | (go_at_call 54; refine (HStp.out _ hMY).mono ?_; rintro e w7 ⟨rfl, hw7⟩; obtain rfl := hw7.symm; clear hw7)
                    | (go_at_call 49; refine (HPk.out _ hMY).mono ?_; rintro e w7 ⟨rfl, hw7⟩; obtain rfl := hw7.symm; clear hw7)
                    | (go_at_call 55; refine (HLst.out _ hMY).mono ?_; rintro e w6 ⟨rfl, hb6⟩; replace hMY := hMY.below hb6; replace hwY := hwY.below hb6; replace hhY := hhY.below hb6; replace htY := (hb6.block _ (by exact lt_of_heap htY)).trans htY; replace hVY := (hb6.block _ (by exact lt_of_heap hVY)).trans hVY; replace hBY := hBY.trans (hb6.mono hsY); replace hsY := Nat.le_trans hsY hb6.size; clear hb6))) | fail)
                all_goals
                  have hP9 : Hid (((m.step at_).set at_ x).n = K ∧ ((m.step at_).set at_ x).steps ≤ ((k + 1 : Nat) : Int)) := ⟨HNX.out.n, by have := hP.out.2; rw [HSt.out]; omega⟩
                  go_wp2
                  go_roundw
                  case rel => exact ⟨k + 1, ((m.step at_).set at_ x), _, by go_num, by rw [HSt.out], by rw [HNX.out.who], by omega, rfl, hP9, hMY, hwY, hhY, by rw [HNX.out.la, HNX.out.lw, HNX.out.lc]; exact htY, hBY, hsY⟩
                  case measure => simp [intOf]; omega
              · have nb : (x != m.w at_) = true := bne_iff_ne.2 (Ne.symm hv)
                have NX_ := NX.other (at_ := at_) (K := K) hP.out.1 x hv
                clear hv
                go_wp2_with fail
                refine (Store_yes g gw gh m at_ x _ hM1 hatn hst HXB.out).mono ?_
                rintro e w9 ⟨rfl, hM9, hK9⟩
                have hV9 := hK9.heap hV1 npV.1 npV.2.1 npV.2.2
                have hw9 := hw1.far hK9 n1.1 n1.2.1 n1.2.2
                have hh9 := hh1.far hK9 n2.1 n2.2.1 n2.2.2
                have ht9 := hK9.heap ht1 n3.1 n3.2.1 n3.2.2
                have hB9 := hB1.trans (hK9.below b0 b1 b2 hs1)
                have hs9 := Nat.le_trans hs1 hK9.size
                clear hK9 hM hw hh ht hB hs hM1 hw1 hh1 ht1 hB1 hs1 hV1 d0 d1 d2 d3 d4 z0 z1 z2 z3 z4 dw
                have d0 := cell_of_row _ U.heap.size 0 _ _ _ hV9
                have d1 := cell_of_row _ U.heap.size 1 _ _ _ hV9
                have d2 := cell_of_row _ U.heap.size 2 _ _ _ hV9
                have d3 := cell_of_row _ U.heap.size 3 _ _ _ hV9
                have d4 := cell_of_row _ U.heap.size 4 _ _ _ hV9
                have cw := hw9.cell hat
                have fw := hw9.fr at_
                go_wp2
                have hX1 := hw9.put hat NX_.w
                have hhX : CopiedH (w9.setCell ⟨bw, at_, none⟩ (.int .u64 x)) bh K K m := hh9.put (p := ⟨bw, at_, none⟩) (Ne.symm e1)
                have htX := (heap_set_far (p := ⟨bw, at_, none⟩) (.int .u64 x) (Ne.symm e2)).trans ht9
                have hVX := (heap_set_far (p := ⟨bw, at_, none⟩) (.int .u64 x) npB.1).trans hV9
                have hMX := hM9.far (p := ⟨bw, at_, none⟩) (.int .u64 x) (Ne.symm n1.1) (Ne.symm n1.2.1) (Ne.symm n1.2.2)
                have hBX := hB9.setCell (p := ⟨bw, at_, none⟩) c0 (.int .u64 x)
                have hsX : w.heap.size ≤ (w9.setCell ⟨bw, at_, none⟩ (.int .u64 x)).heap.size := by simp [World.setCell]; omega
                clear hw9 hh9 ht9 hV9 hM9 hB9 hs9 d0 d1 d2 d3 d4 cw fw
                generalize w9.setCell ⟨bw, at_, none⟩ (.int .u64 x) = X at hX1 hhX htX hVX hMX hBX hsX ⊢
                have d1 := cell_of_row _ U.heap.size 1 _ _ _ hVX
                have t0 := cell_of_row _ bt 0 _ _ _ htX
                have t1 := cell_of_row _ bt 1 _ _ _ htX
                have t2 := cell_of_row _ bt 2 _ _ _ htX
                have f0 := frozen_of 0 htX
                have f1 := frozen_of 1 htX
                have f2 := frozen_of 2 htX
                go_region
                have htY := heap_set_self 2 (.bool true) (heap_set_self 1 (.int .i64 m.who) (heap_set_self 0 (.int .i64 (at_ : Nat)) htX))
                replace htY : ((((X.setCell ⟨bt, 0, none⟩ (.int .i64 (at_ : Nat))).setCell ⟨bt, 1, none⟩ (.int .i64 m.who)).setCell ⟨bt, 2, none⟩ (.bool true)).drew).heap[bt]? = some (.cells #[.int .i64 (at_ : Nat), .int .i64 m.who, .bool true] 79 (0, 0)) := htY
                have hwY := ((hX1.keep (p := ⟨bt, 0, none⟩) e2 (.int .i64 (at_ : Nat))).keep (p := ⟨bt, 1, none⟩) e2 (.int .i64 m.who)).keep (p := ⟨bt, 2, none⟩) e2 (.bool true)
                have hhY := ((hhX.put (p := ⟨bt, 0, none⟩) (v := .int .i64 (at_ : Nat)) e3).put (p := ⟨bt, 1, none⟩) (v := .int .i64 m.who) e3).put (p := ⟨bt, 2, none⟩) (v := .bool true) e3
                have hMY := (((hMX.far (p := ⟨bt, 0, none⟩) (.int .i64 (at_ : Nat)) (Ne.symm n3.1) (Ne.symm n3.2.1) (Ne.symm n3.2.2)).far (p := ⟨bt, 1, none⟩) (.int .i64 m.who) (Ne.symm n3.1) (Ne.symm n3.2.1) (Ne.symm n3.2.2)).far (p := ⟨bt, 2, none⟩) (.bool true) (Ne.symm n3.1) (Ne.symm n3.2.1) (Ne.symm n3.2.2)).drew
                have hBY := (((hBX.setCell (p := ⟨bt, 0, none⟩) c2 (.int .i64 (at_ : Nat))).setCell (p := ⟨bt, 1, none⟩) c2 (.int .i64 m.who)).setCell (p := ⟨bt, 2, none⟩) c2 (.bool true)).drew
                have hVY := (heap_set_far (p := ⟨bt, 2, none⟩) (.bool true) npB.2.2).trans ((heap_set_far (p := ⟨bt, 1, none⟩) (.int .i64 m.who) npB.2.2).trans ((heap_set_far (p := ⟨bt, 0, none⟩) (.int .i64 (at_ : Nat)) npB.2.2).trans hVX))
                have hsY : w.heap.size ≤ ((((X.setCell ⟨bt, 0, none⟩ (.int .i64 (at_ : Nat))).setCell ⟨bt, 1, none⟩ (.int .i64 m.who)).setCell ⟨bt, 2, none⟩ (.bool true)).drew).heap.size := by simp [World.setCell]; omega
                replace hwY : CopiedW ((((X.setCell ⟨bt, 0, none⟩ (.int .i64 (at_ : Nat))).setCell ⟨bt, 1, none⟩ (.int .i64 m.who)).setCell ⟨bt, 2, none⟩ (.bool true)).drew) bw K K ((m.step at_).set at_ x) := hwY
                replace hhY : CopiedH ((((X.setCell ⟨bt, 0, none⟩ (.int .i64 (at_ : Nat))).setCell ⟨bt, 1, none⟩ (.int .i64 m.who)).setCell ⟨bt, 2, none⟩ (.bool true)).drew) bh K K m := hhY
                replace hVY : ((((X.setCell ⟨bt, 0, none⟩ (.int .i64 (at_ : Nat))).setCell ⟨bt, 1, none⟩ (.int .i64 m.who)).setCell ⟨bt, 2, none⟩ (.bool true)).drew).heap[U.heap.size]? = some (.cells #[.int .i64 1, .int .i64 at_, .int .i64 h, .int .u64 x, .bool f] 75 (0, 0)) := hVY
                clear d1 t0 t1 t2 f0 f1 f2 hX1 hhX htX hVX hMX hBX hsX
                generalize (((X.setCell ⟨bt, 0, none⟩ (.int .i64 (at_ : Nat))).setCell ⟨bt, 1, none⟩ (.int .i64 m.who)).setCell ⟨bt, 2, none⟩ (.bool true)).drew = Y at htY hwY hhY hMY hBY hVY hsY ⊢
                have d1 := cell_of_row _ U.heap.size 1 _ _ _ hVY
                have ch0 := hhY.cell hat
                have ch1 := hhY.fr at_
                go_wp2
                have hhZ := hhY.next hat NX_.h
                replace hwY := hwY.keep (p := ⟨bh, at_, none⟩) e1 (.int .i64 (m.steps + 1))
                replace htY := (heap_set_far (p := ⟨bh, at_, none⟩) (.int .i64 (m.steps + 1)) (Ne.symm e3)).trans htY
                replace hVY := (heap_set_far (p := ⟨bh, at_, none⟩) (.int .i64 (m.steps + 1)) npB.2.1).trans hVY
                replace hMY := hMY.far (p := ⟨bh, at_, none⟩) (.int .i64 (m.steps + 1)) (Ne.symm n2.1) (Ne.symm n2.2.1) (Ne.symm n2.2.2)
                replace hBY := hBY.setCell (p := ⟨bh, at_, none⟩) c1 (.int .i64 (m.steps + 1))
                have hsZ : w.heap.size ≤ (Y.setCell ⟨bh, at_, none⟩ (.int .i64 (m.steps + 1))).heap.size := by simp [World.setCell]; omega
                clear ch0 ch1 hhY hsY d1
                generalize Y.setCell ⟨bh, at_, none⟩ (.int .i64 (m.steps + 1)) = Z at htY hwY hhZ hMY hBY hVY hsZ ⊢
                have hhY := hhZ
                have hsY := hsZ
                clear hhZ hsZ
                have HNX := Lib.hid NX_
                have HSt := Lib.hid NX_.steps
                have HWv : Hid (((m.step at_).set at_ x).w at_ = x) := by
                  have := NX_.w at_
                  rw [if_pos rfl] at this
                  exact this
                have HLst : Hid (∀ W, MemAt W g gw gh ((m.step at_).set at_ x) → Calls Try.prog 55 #[.pointer (some ⟨g, 0, none⟩)] W fun e W' => e = .returned (.agg #[.int .i64 (at_ : Nat), .int .i64 m.who, .bool true]) ∧ Below W.heap.size W W') := by
                  intro W h
                  have h2 := Last_any g gw gh ((m.step at_).set at_ x) W h
                  rw [NX_.la, NX_.lw, NX_.lc] at h2
                  exact h2
                have HStp : Hid (∀ W, MemAt W g gw gh ((m.step at_).set at_ x) → Calls Try.prog 54 #[.pointer (some ⟨g, 0, none⟩)] W fun e W' => e = .returned (.int .i64 (m.steps + 1)) ∧ W' = W) := by
                  intro W h
                  have h2 := Steps_any g gw gh ((m.step at_).set at_ x) W h
                  rw [NX_.steps] at h2
                  exact h2
                have HPk : Hid (∀ W, MemAt W g gw gh ((m.step at_).set at_ x) → Calls Try.prog 49 #[.pointer (some ⟨g, 0, none⟩), .int .i64 (at_ : Nat)] W fun e W' => e = .returned (.int .u64 x) ∧ W' = W) := by
                  intro W h
                  have h2 := Peek_yes g gw gh ((m.step at_).set at_ x) at_ W h (by rw [NX_.n]; exact hat)
                  rw [HWv.out] at h2
                  exact h2
                clear NX_
                replace hBY := hBY.drew
                replace hMY := hMY.drew
                replace hwY : CopiedW Z.drew bw K K ((m.step at_).set at_ x) := hwY
                replace hhY : CopiedH Z.drew bh K K ((m.step at_).set at_ x) := hhY
                replace htY : Z.drew.heap[bt]? = _ := htY
                replace hVY : Z.drew.heap[U.heap.size]? = _ := hVY
                replace hsY : w.heap.size ≤ Z.drew.heap.size := hsY
                (first | (go_region_held3 (fun w' => w'.cell? ⟨U.heap.size, 1, none⟩ = some (.int .i64 (at_ : Nat)) ∧ w'.cell? ⟨bt, 0, none⟩ = some (.int .i64 (at_ : Nat)) ∧ w'.cell? ⟨bt, 1, none⟩ = some (.int .i64 m.who) ∧ w'.cell? ⟨bt, 2, none⟩ = some (.bool true))
                  (exact ⟨cell_of_row _ U.heap.size 1 _ _ _ hVY, cell_of_row _ bt 0 _ _ _ htY, cell_of_row _ bt 1 _ _ _ htY, cell_of_row _ bt 2 _ _ _ htY⟩)
                  (first
                    | (go_at_call 54; refine (HStp.out _ hMY).mono ?_; rintro e w7 ⟨rfl, hw7⟩; obtain rfl := hw7.symm; clear hw7)
                    | (go_at_call 49; refine (HPk.out _ hMY).mono ?_; rintro e w7 ⟨rfl, hw7⟩; obtain rfl := hw7.symm; clear hw7)
                    | (go_at_call 55; refine (HLst.out _ hMY).mono ?_; rintro e w6 ⟨rfl, hb6⟩; replace hMY := hMY.below hb6; replace hwY := hwY.below hb6; replace hhY := hhY.below hb6; replace htY := (hb6.block _ (by exact lt_of_heap htY)).trans htY; replace hVY := (hb6.block _ (by exact lt_of_heap hVY)).trans hVY; replace hBY := hBY.trans (hb6.mono hsY); replace hsY := Nat.le_trans hsY hb6.size; clear hb6))) | fail)
                all_goals
                  have hP9 : Hid (((m.step at_).set at_ x).n = K ∧ ((m.step at_).set at_ x).steps ≤ ((k + 1 : Nat) : Int)) := ⟨HNX.out.n, by have := hP.out.2; rw [HSt.out]; omega⟩
                  go_wp2
                  go_roundw
                  case rel => exact ⟨k + 1, ((m.step at_).set at_ x), _, by go_num, by rw [HSt.out], by rw [HNX.out.who], by omega, rfl, hP9, hMY, hwY, hhY, by rw [HNX.out.la, HNX.out.lw, HNX.out.lc]; exact htY, hBY, hsY⟩
                  case measure => simp [intOf]; omega
          · as_aux_lemma =>
              cases f
              · have HXB : Hid (0 ≤ x ∧ x < 18446744073709551616) := by have := HA.out.2.2.2.2.2.2.2.2; show _ ∧ _; omega
                by_cases hv : m.w at_ = x
                · have nb : (x != m.w at_) = false := by simp [hv]
                  have NX_ := NX.same (at_ := at_) (K := K) hP.out.1 x hv
                  clear hv
                  go_wp2_with fail
                  refine (Cas_yes g gw gh m at_ _ x _ hM1 hatn hst HXB.out rfl).mono ?_
                  rintro e w9 ⟨rfl, hM9, hK9⟩
                  have hV9 := hK9.heap hV1 npV.1 npV.2.1 npV.2.2
                  have hw9 := hw1.far hK9 n1.1 n1.2.1 n1.2.2
                  have hh9 := hh1.far hK9 n2.1 n2.2.1 n2.2.2
                  have ht9 := hK9.heap ht1 n3.1 n3.2.1 n3.2.2
                  have hB9 := hB1.trans (hK9.below b0 b1 b2 hs1)
                  have hs9 := Nat.le_trans hs1 hK9.size
                  clear hK9 hM hw hh ht hB hs hM1 hw1 hh1 ht1 hB1 hs1 hV1 d0 d1 d2 d3 d4 z0 z1 z2 z3 z4 dw
                  have d0 := cell_of_row _ U.heap.size 0 _ _ _ hV9
                  have d1 := cell_of_row _ U.heap.size 1 _ _ _ hV9
                  have d2 := cell_of_row _ U.heap.size 2 _ _ _ hV9
                  have d3 := cell_of_row _ U.heap.size 3 _ _ _ hV9
                  have d4 := cell_of_row _ U.heap.size 4 _ _ _ hV9
                  have cw := hw9.cell hat
                  have fw := hw9.fr at_
                  go_wp2
                  have hX1 := hw9.put hat NX_.w
                  have hhX : CopiedH (w9.setCell ⟨bw, at_, none⟩ (.int .u64 x)) bh K K m := hh9.put (p := ⟨bw, at_, none⟩) (Ne.symm e1)
                  have htX := (heap_set_far (p := ⟨bw, at_, none⟩) (.int .u64 x) (Ne.symm e2)).trans ht9
                  have hVX := (heap_set_far (p := ⟨bw, at_, none⟩) (.int .u64 x) npB.1).trans hV9
                  have hMX := hM9.far (p := ⟨bw, at_, none⟩) (.int .u64 x) (Ne.symm n1.1) (Ne.symm n1.2.1) (Ne.symm n1.2.2)
                  have hBX := hB9.setCell (p := ⟨bw, at_, none⟩) c0 (.int .u64 x)
                  have hsX : w.heap.size ≤ (w9.setCell ⟨bw, at_, none⟩ (.int .u64 x)).heap.size := by simp [World.setCell]; omega
                  clear hw9 hh9 ht9 hV9 hM9 hB9 hs9 d0 d1 d2 d3 d4 cw fw
                  generalize w9.setCell ⟨bw, at_, none⟩ (.int .u64 x) = X at hX1 hhX htX hVX hMX hBX hsX ⊢
                  have d1 := cell_of_row _ U.heap.size 1 _ _ _ hVX
                  have t0 := cell_of_row _ bt 0 _ _ _ htX
                  have t1 := cell_of_row _ bt 1 _ _ _ htX
                  have t2 := cell_of_row _ bt 2 _ _ _ htX
                  have f0 := frozen_of 0 htX
                  have f1 := frozen_of 1 htX
                  have f2 := frozen_of 2 htX
                  go_region
                  have htY := heap_set_self 2 (.bool false) (heap_set_self 1 (.int .i64 m.who) (heap_set_self 0 (.int .i64 (at_ : Nat)) htX))
                  replace htY : ((((X.setCell ⟨bt, 0, none⟩ (.int .i64 (at_ : Nat))).setCell ⟨bt, 1, none⟩ (.int .i64 m.who)).setCell ⟨bt, 2, none⟩ (.bool false)).drew).heap[bt]? = some (.cells #[.int .i64 (at_ : Nat), .int .i64 m.who, .bool false] 79 (0, 0)) := htY
                  have hwY := ((hX1.keep (p := ⟨bt, 0, none⟩) e2 (.int .i64 (at_ : Nat))).keep (p := ⟨bt, 1, none⟩) e2 (.int .i64 m.who)).keep (p := ⟨bt, 2, none⟩) e2 (.bool false)
                  have hhY := ((hhX.put (p := ⟨bt, 0, none⟩) (v := .int .i64 (at_ : Nat)) e3).put (p := ⟨bt, 1, none⟩) (v := .int .i64 m.who) e3).put (p := ⟨bt, 2, none⟩) (v := .bool false) e3
                  have hMY := (((hMX.far (p := ⟨bt, 0, none⟩) (.int .i64 (at_ : Nat)) (Ne.symm n3.1) (Ne.symm n3.2.1) (Ne.symm n3.2.2)).far (p := ⟨bt, 1, none⟩) (.int .i64 m.who) (Ne.symm n3.1) (Ne.symm n3.2.1) (Ne.symm n3.2.2)).far (p := ⟨bt, 2, none⟩) (.bool false) (Ne.symm n3.1) (Ne.symm n3.2.1) (Ne.symm n3.2.2)).drew
                  have hBY := (((hBX.setCell (p := ⟨bt, 0, none⟩) c2 (.int .i64 (at_ : Nat))).setCell (p := ⟨bt, 1, none⟩) c2 (.int .i64 m.who)).setCell (p := ⟨bt, 2, none⟩) c2 (.bool false)).drew
                  have hVY := (heap_set_far (p := ⟨bt, 2, none⟩) (.bool false) npB.2.2).trans ((heap_set_far (p := ⟨bt, 1, none⟩) (.int .i64 m.who) npB.2.2).trans ((heap_set_far (p := ⟨bt, 0, none⟩) (.int .i64 (at_ : Nat)) npB.2.2).trans hVX))
                  have hsY : w.heap.size ≤ ((((X.setCell ⟨bt, 0, none⟩ (.int .i64 (at_ : Nat))).setCell ⟨bt, 1, none⟩ (.int .i64 m.who)).setCell ⟨bt, 2, none⟩ (.bool false)).drew).heap.size := by simp [World.setCell]; omega
                  replace hwY : CopiedW ((((X.setCell ⟨bt, 0, none⟩ (.int .i64 (at_ : Nat))).setCell ⟨bt, 1, none⟩ (.int .i64 m.who)).setCell ⟨bt, 2, none⟩ (.bool false)).drew) bw K K ((m.step at_).set at_ x) := hwY
                  replace hhY : CopiedH ((((X.setCell ⟨bt, 0, none⟩ (.int .i64 (at_ : Nat))).setCell ⟨bt, 1, none⟩ (.int .i64 m.who)).setCell ⟨bt, 2, none⟩ (.bool false)).drew) bh K K m := hhY
                  replace hVY : ((((X.setCell ⟨bt, 0, none⟩ (.int .i64 (at_ : Nat))).setCell ⟨bt, 1, none⟩ (.int .i64 m.who)).setCell ⟨bt, 2, none⟩ (.bool false)).drew).heap[U.heap.size]? = some (.cells #[.int .i64 2, .int .i64 at_, .int .i64 h, .int .u64 x, .bool false] 75 (0, 0)) := hVY
                  clear d1 t0 t1 t2 f0 f1 f2 hX1 hhX htX hVX hMX hBX hsX
                  generalize (((X.setCell ⟨bt, 0, none⟩ (.int .i64 (at_ : Nat))).setCell ⟨bt, 1, none⟩ (.int .i64 m.who)).setCell ⟨bt, 2, none⟩ (.bool false)).drew = Y at htY hwY hhY hMY hBY hVY hsY ⊢
                  have d1 := cell_of_row _ U.heap.size 1 _ _ _ hVY
                  have hhZ := hhY.same NX_.h
                  clear hhY
                  have hhY := hhZ
                  clear hhZ
                  go_wp2
                  have HNX := Lib.hid NX_
                  have HSt := Lib.hid NX_.steps
                  have HWv : Hid (((m.step at_).set at_ x).w at_ = x) := by
                    have := NX_.w at_
                    rw [if_pos rfl] at this
                    exact this
                  have HLst : Hid (∀ W, MemAt W g gw gh ((m.step at_).set at_ x) → Calls Try.prog 55 #[.pointer (some ⟨g, 0, none⟩)] W fun e W' => e = .returned (.agg #[.int .i64 (at_ : Nat), .int .i64 m.who, .bool false]) ∧ Below W.heap.size W W') := by
                    intro W h
                    have h2 := Last_any g gw gh ((m.step at_).set at_ x) W h
                    rw [NX_.la, NX_.lw, NX_.lc] at h2
                    exact h2
                  have HStp : Hid (∀ W, MemAt W g gw gh ((m.step at_).set at_ x) → Calls Try.prog 54 #[.pointer (some ⟨g, 0, none⟩)] W fun e W' => e = .returned (.int .i64 (m.steps + 1)) ∧ W' = W) := by
                    intro W h
                    have h2 := Steps_any g gw gh ((m.step at_).set at_ x) W h
                    rw [NX_.steps] at h2
                    exact h2
                  have HPk : Hid (∀ W, MemAt W g gw gh ((m.step at_).set at_ x) → Calls Try.prog 49 #[.pointer (some ⟨g, 0, none⟩), .int .i64 (at_ : Nat)] W fun e W' => e = .returned (.int .u64 x) ∧ W' = W) := by
                    intro W h
                    have h2 := Peek_yes g gw gh ((m.step at_).set at_ x) at_ W h (by rw [NX_.n]; exact hat)
                    rw [HWv.out] at h2
                    exact h2
                  clear NX_
                  replace hBY := hBY.drew
                  replace hMY := hMY.drew
                  replace hwY : CopiedW Y.drew bw K K ((m.step at_).set at_ x) := hwY
                  replace hhY : CopiedH Y.drew bh K K ((m.step at_).set at_ x) := hhY
                  replace htY : Y.drew.heap[bt]? = _ := htY
                  replace hVY : Y.drew.heap[U.heap.size]? = _ := hVY
                  replace hsY : w.heap.size ≤ Y.drew.heap.size := hsY
                  (first | (go_region_held3 (fun w' => w'.cell? ⟨U.heap.size, 1, none⟩ = some (.int .i64 (at_ : Nat)) ∧ w'.cell? ⟨bt, 0, none⟩ = some (.int .i64 (at_ : Nat)) ∧ w'.cell? ⟨bt, 1, none⟩ = some (.int .i64 m.who) ∧ w'.cell? ⟨bt, 2, none⟩ = some (.bool false))
                    (exact ⟨cell_of_row _ U.heap.size 1 _ _ _ hVY, cell_of_row _ bt 0 _ _ _ htY, cell_of_row _ bt 1 _ _ _ htY, cell_of_row _ bt 2 _ _ _ htY⟩)
                    (first
                      | (go_at_call 54; refine (HStp.out _ hMY).mono ?_; rintro e w7 ⟨rfl, hw7⟩; obtain rfl := hw7.symm; clear hw7)
                      | (go_at_call 49; refine (HPk.out _ hMY).mono ?_; rintro e w7 ⟨rfl, hw7⟩; obtain rfl := hw7.symm; clear hw7)
                      | (go_at_call 55; refine (HLst.out _ hMY).mono ?_; rintro e w6 ⟨rfl, hb6⟩; replace hMY := hMY.below hb6; replace hwY := hwY.below hb6; replace hhY := hhY.below hb6; replace htY := (hb6.block _ (by exact lt_of_heap htY)).trans htY; replace hVY := (hb6.block _ (by exact lt_of_heap hVY)).trans hVY; replace hBY := hBY.trans (hb6.mono hsY); replace hsY := Nat.le_trans hsY hb6.size; clear hb6))) | fail)
                  all_goals
                    have hP9 : Hid (((m.step at_).set at_ x).n = K ∧ ((m.step at_).set at_ x).steps ≤ ((k + 1 : Nat) : Int)) := ⟨HNX.out.n, by have := hP.out.2; rw [HSt.out]; omega⟩
                    go_wp2
                    go_roundw
                    case rel => exact ⟨k + 1, ((m.step at_).set at_ x), _, by go_num, by rw [HSt.out], by rw [HNX.out.who], by omega, rfl, hP9, hMY, hwY, hhY, by rw [HNX.out.la, HNX.out.lw, HNX.out.lc]; exact htY, hBY, hsY⟩
                    case measure => simp [intOf]; omega
                · have nb : (x != m.w at_) = true := bne_iff_ne.2 (Ne.symm hv)
                  have NX_ := NX.other (at_ := at_) (K := K) hP.out.1 x hv
                  clear hv
                  go_wp2_with fail
                  refine (Cas_yes g gw gh m at_ _ x _ hM1 hatn hst HXB.out rfl).mono ?_
                  rintro e w9 ⟨rfl, hM9, hK9⟩
                  have hV9 := hK9.heap hV1 npV.1 npV.2.1 npV.2.2
                  have hw9 := hw1.far hK9 n1.1 n1.2.1 n1.2.2
                  have hh9 := hh1.far hK9 n2.1 n2.2.1 n2.2.2
                  have ht9 := hK9.heap ht1 n3.1 n3.2.1 n3.2.2
                  have hB9 := hB1.trans (hK9.below b0 b1 b2 hs1)
                  have hs9 := Nat.le_trans hs1 hK9.size
                  clear hK9 hM hw hh ht hB hs hM1 hw1 hh1 ht1 hB1 hs1 hV1 d0 d1 d2 d3 d4 z0 z1 z2 z3 z4 dw
                  have d0 := cell_of_row _ U.heap.size 0 _ _ _ hV9
                  have d1 := cell_of_row _ U.heap.size 1 _ _ _ hV9
                  have d2 := cell_of_row _ U.heap.size 2 _ _ _ hV9
                  have d3 := cell_of_row _ U.heap.size 3 _ _ _ hV9
                  have d4 := cell_of_row _ U.heap.size 4 _ _ _ hV9
                  have cw := hw9.cell hat
                  have fw := hw9.fr at_
                  go_wp2
                  have hX1 := hw9.put hat NX_.w
                  have hhX : CopiedH (w9.setCell ⟨bw, at_, none⟩ (.int .u64 x)) bh K K m := hh9.put (p := ⟨bw, at_, none⟩) (Ne.symm e1)
                  have htX := (heap_set_far (p := ⟨bw, at_, none⟩) (.int .u64 x) (Ne.symm e2)).trans ht9
                  have hVX := (heap_set_far (p := ⟨bw, at_, none⟩) (.int .u64 x) npB.1).trans hV9
                  have hMX := hM9.far (p := ⟨bw, at_, none⟩) (.int .u64 x) (Ne.symm n1.1) (Ne.symm n1.2.1) (Ne.symm n1.2.2)
                  have hBX := hB9.setCell (p := ⟨bw, at_, none⟩) c0 (.int .u64 x)
                  have hsX : w.heap.size ≤ (w9.setCell ⟨bw, at_, none⟩ (.int .u64 x)).heap.size := by simp [World.setCell]; omega
                  clear hw9 hh9 ht9 hV9 hM9 hB9 hs9 d0 d1 d2 d3 d4 cw fw
                  generalize w9.setCell ⟨bw, at_, none⟩ (.int .u64 x) = X at hX1 hhX htX hVX hMX hBX hsX ⊢
                  have d1 := cell_of_row _ U.heap.size 1 _ _ _ hVX
                  have t0 := cell_of_row _ bt 0 _ _ _ htX
                  have t1 := cell_of_row _ bt 1 _ _ _ htX
                  have t2 := cell_of_row _ bt 2 _ _ _ htX
                  have f0 := frozen_of 0 htX
                  have f1 := frozen_of 1 htX
                  have f2 := frozen_of 2 htX
                  go_region
                  have htY := heap_set_self 2 (.bool true) (heap_set_self 1 (.int .i64 m.who) (heap_set_self 0 (.int .i64 (at_ : Nat)) htX))
                  replace htY : ((((X.setCell ⟨bt, 0, none⟩ (.int .i64 (at_ : Nat))).setCell ⟨bt, 1, none⟩ (.int .i64 m.who)).setCell ⟨bt, 2, none⟩ (.bool true)).drew).heap[bt]? = some (.cells #[.int .i64 (at_ : Nat), .int .i64 m.who, .bool true] 79 (0, 0)) := htY
                  have hwY := ((hX1.keep (p := ⟨bt, 0, none⟩) e2 (.int .i64 (at_ : Nat))).keep (p := ⟨bt, 1, none⟩) e2 (.int .i64 m.who)).keep (p := ⟨bt, 2, none⟩) e2 (.bool true)
                  have hhY := ((hhX.put (p := ⟨bt, 0, none⟩) (v := .int .i64 (at_ : Nat)) e3).put (p := ⟨bt, 1, none⟩) (v := .int .i64 m.who) e3).put (p := ⟨bt, 2, none⟩) (v := .bool true) e3
                  have hMY := (((hMX.far (p := ⟨bt, 0, none⟩) (.int .i64 (at_ : Nat)) (Ne.symm n3.1) (Ne.symm n3.2.1) (Ne.symm n3.2.2)).far (p := ⟨bt, 1, none⟩) (.int .i64 m.who) (Ne.symm n3.1) (Ne.symm n3.2.1) (Ne.symm n3.2.2)).far (p := ⟨bt, 2, none⟩) (.bool true) (Ne.symm n3.1) (Ne.symm n3.2.1) (Ne.symm n3.2.2)).drew
                  have hBY := (((hBX.setCell (p := ⟨bt, 0, none⟩) c2 (.int .i64 (at_ : Nat))).setCell (p := ⟨bt, 1, none⟩) c2 (.int .i64 m.who)).setCell (p := ⟨bt, 2, none⟩) c2 (.bool true)).drew
                  have hVY := (heap_set_far (p := ⟨bt, 2, none⟩) (.bool true) npB.2.2).trans ((heap_set_far (p := ⟨bt, 1, none⟩) (.int .i64 m.who) npB.2.2).trans ((heap_set_far (p := ⟨bt, 0, none⟩) (.int .i64 (at_ : Nat)) npB.2.2).trans hVX))
                  have hsY : w.heap.size ≤ ((((X.setCell ⟨bt, 0, none⟩ (.int .i64 (at_ : Nat))).setCell ⟨bt, 1, none⟩ (.int .i64 m.who)).setCell ⟨bt, 2, none⟩ (.bool true)).drew).heap.size := by simp [World.setCell]; omega
                  replace hwY : CopiedW ((((X.setCell ⟨bt, 0, none⟩ (.int .i64 (at_ : Nat))).setCell ⟨bt, 1, none⟩ (.int .i64 m.who)).setCell ⟨bt, 2, none⟩ (.bool true)).drew) bw K K ((m.step at_).set at_ x) := hwY
                  replace hhY : CopiedH ((((X.setCell ⟨bt, 0, none⟩ (.int .i64 (at_ : Nat))).setCell ⟨bt, 1, none⟩ (.int .i64 m.who)).setCell ⟨bt, 2, none⟩ (.bool true)).drew) bh K K m := hhY
                  replace hVY : ((((X.setCell ⟨bt, 0, none⟩ (.int .i64 (at_ : Nat))).setCell ⟨bt, 1, none⟩ (.int .i64 m.who)).setCell ⟨bt, 2, none⟩ (.bool true)).drew).heap[U.heap.size]? = some (.cells #[.int .i64 2, .int .i64 at_, .int .i64 h, .int .u64 x, .bool false] 75 (0, 0)) := hVY
                  clear d1 t0 t1 t2 f0 f1 f2 hX1 hhX htX hVX hMX hBX hsX
                  generalize (((X.setCell ⟨bt, 0, none⟩ (.int .i64 (at_ : Nat))).setCell ⟨bt, 1, none⟩ (.int .i64 m.who)).setCell ⟨bt, 2, none⟩ (.bool true)).drew = Y at htY hwY hhY hMY hBY hVY hsY ⊢
                  have d1 := cell_of_row _ U.heap.size 1 _ _ _ hVY
                  have ch0 := hhY.cell hat
                  have ch1 := hhY.fr at_
                  go_wp2
                  have hhZ := hhY.next hat NX_.h
                  replace hwY := hwY.keep (p := ⟨bh, at_, none⟩) e1 (.int .i64 (m.steps + 1))
                  replace htY := (heap_set_far (p := ⟨bh, at_, none⟩) (.int .i64 (m.steps + 1)) (Ne.symm e3)).trans htY
                  replace hVY := (heap_set_far (p := ⟨bh, at_, none⟩) (.int .i64 (m.steps + 1)) npB.2.1).trans hVY
                  replace hMY := hMY.far (p := ⟨bh, at_, none⟩) (.int .i64 (m.steps + 1)) (Ne.symm n2.1) (Ne.symm n2.2.1) (Ne.symm n2.2.2)
                  replace hBY := hBY.setCell (p := ⟨bh, at_, none⟩) c1 (.int .i64 (m.steps + 1))
                  have hsZ : w.heap.size ≤ (Y.setCell ⟨bh, at_, none⟩ (.int .i64 (m.steps + 1))).heap.size := by simp [World.setCell]; omega
                  clear ch0 ch1 hhY hsY d1
                  generalize Y.setCell ⟨bh, at_, none⟩ (.int .i64 (m.steps + 1)) = Z at htY hwY hhZ hMY hBY hVY hsZ ⊢
                  have hhY := hhZ
                  have hsY := hsZ
                  clear hhZ hsZ
                  have HNX := Lib.hid NX_
                  have HSt := Lib.hid NX_.steps
                  have HWv : Hid (((m.step at_).set at_ x).w at_ = x) := by
                    have := NX_.w at_
                    rw [if_pos rfl] at this
                    exact this
                  have HLst : Hid (∀ W, MemAt W g gw gh ((m.step at_).set at_ x) → Calls Try.prog 55 #[.pointer (some ⟨g, 0, none⟩)] W fun e W' => e = .returned (.agg #[.int .i64 (at_ : Nat), .int .i64 m.who, .bool true]) ∧ Below W.heap.size W W') := by
                    intro W h
                    have h2 := Last_any g gw gh ((m.step at_).set at_ x) W h
                    rw [NX_.la, NX_.lw, NX_.lc] at h2
                    exact h2
                  have HStp : Hid (∀ W, MemAt W g gw gh ((m.step at_).set at_ x) → Calls Try.prog 54 #[.pointer (some ⟨g, 0, none⟩)] W fun e W' => e = .returned (.int .i64 (m.steps + 1)) ∧ W' = W) := by
                    intro W h
                    have h2 := Steps_any g gw gh ((m.step at_).set at_ x) W h
                    rw [NX_.steps] at h2
                    exact h2
                  have HPk : Hid (∀ W, MemAt W g gw gh ((m.step at_).set at_ x) → Calls Try.prog 49 #[.pointer (some ⟨g, 0, none⟩), .int .i64 (at_ : Nat)] W fun e W' => e = .returned (.int .u64 x) ∧ W' = W) := by
                    intro W h
                    have h2 := Peek_yes g gw gh ((m.step at_).set at_ x) at_ W h (by rw [NX_.n]; exact hat)
                    rw [HWv.out] at h2
                    exact h2
                  clear NX_
                  replace hBY := hBY.drew
                  replace hMY := hMY.drew
                  replace hwY : CopiedW Z.drew bw K K ((m.step at_).set at_ x) := hwY
                  replace hhY : CopiedH Z.drew bh K K ((m.step at_).set at_ x) := hhY
                  replace htY : Z.drew.heap[bt]? = _ := htY
                  replace hVY : Z.drew.heap[U.heap.size]? = _ := hVY
                  replace hsY : w.heap.size ≤ Z.drew.heap.size := hsY
                  (first | (go_region_held3 (fun w' => w'.cell? ⟨U.heap.size, 1, none⟩ = some (.int .i64 (at_ : Nat)) ∧ w'.cell? ⟨bt, 0, none⟩ = some (.int .i64 (at_ : Nat)) ∧ w'.cell? ⟨bt, 1, none⟩ = some (.int .i64 m.who) ∧ w'.cell? ⟨bt, 2, none⟩ = some (.bool true))
                    (exact ⟨cell_of_row _ U.heap.size 1 _ _ _ hVY, cell_of_row _ bt 0 _ _ _ htY, cell_of_row _ bt 1 _ _ _ htY, cell_of_row _ bt 2 _ _ _ htY⟩)
                    (first
                      | (go_at_call 54; refine (HStp.out _ hMY).mono ?_; rintro e w7 ⟨rfl, hw7⟩; obtain rfl := hw7.symm; clear hw7)
                      | (go_at_call 49; refine (HPk.out _ hMY).mono ?_; rintro e w7 ⟨rfl, hw7⟩; obtain rfl := hw7.symm; clear hw7)
                      | (go_at_call 55; refine (HLst.out _ hMY).mono ?_; rintro e w6 ⟨rfl, hb6⟩; replace hMY := hMY.below hb6; replace hwY := hwY.below hb6; replace hhY := hhY.below hb6; replace htY := (hb6.block _ (by exact lt_of_heap htY)).trans htY; replace hVY := (hb6.block _ (by exact lt_of_heap hVY)).trans hVY; replace hBY := hBY.trans (hb6.mono hsY); replace hsY := Nat.le_trans hsY hb6.size; clear hb6))) | fail)
                  all_goals
                    have hP9 : Hid (((m.step at_).set at_ x).n = K ∧ ((m.step at_).set at_ x).steps ≤ ((k + 1 : Nat) : Int)) := ⟨HNX.out.n, by have := hP.out.2; rw [HSt.out]; omega⟩
                    go_wp2
                    go_roundw
                    case rel => exact ⟨k + 1, ((m.step at_).set at_ x), _, by go_num, by rw [HSt.out], by rw [HNX.out.who], by omega, rfl, hP9, hMY, hwY, hhY, by rw [HNX.out.la, HNX.out.lw, HNX.out.lc]; exact htY, hBY, hsY⟩
                    case measure => simp [intOf]; omega
              · have hne : m.w at_ ≠ IntKind.u64.wrap (m.w at_ + 1) := by
                  have hb2 := hM.bnd at_ hatn
                  rw [show IntKind.u64.wrap (m.w at_ + 1) = (m.w at_ + 1) % 18446744073709551616 from by simp [IntKind.wrap, IntKind.bits, IntKind.signed]]
                  omega
                have HNE := Lib.hid hne
                clear hne
                go_wp2_with fail
                refine (Cas_other g gw gh m at_ _ x _ hM1 hatn hst HNE.out).mono ?_
                rintro e w9 ⟨rfl, hM9, hK9⟩
                have NX_ := NX.load (at_ := at_) (K := K) hP.out.1
                have hV9 := hK9.heap hV1 npV.1 npV.2.1 npV.2.2
                have hw9 := hw1.far hK9 n1.1 n1.2.1 n1.2.2
                have hh9 := hh1.far hK9 n2.1 n2.2.1 n2.2.2
                have ht9 := hK9.heap ht1 n3.1 n3.2.1 n3.2.2
                have hB9 := hB1.trans (hK9.below b0 b1 b2 hs1)
                have hs9 := Nat.le_trans hs1 hK9.size
                clear hK9 hM hw hh ht hB hs hM1 hw1 hh1 ht1 hB1 hs1 hV1 d0 d1 d2 d3 d4 z0 z1 z2 z3 z4 dw
                have d0 := cell_of_row _ U.heap.size 0 _ _ _ hV9
                have d1 := cell_of_row _ U.heap.size 1 _ _ _ hV9
                have d2 := cell_of_row _ U.heap.size 2 _ _ _ hV9
                have d3 := cell_of_row _ U.heap.size 3 _ _ _ hV9
                have d4 := cell_of_row _ U.heap.size 4 _ _ _ hV9
                have cw := hw9.cell hat
                have fw := hw9.fr at_
                go_wp2
                have hX1 := hw9.put hat NX_.w
                have hhX : CopiedH (w9.setCell ⟨bw, at_, none⟩ (.int .u64 (m.w at_))) bh K K m := hh9.put (p := ⟨bw, at_, none⟩) (Ne.symm e1)
                have htX := (heap_set_far (p := ⟨bw, at_, none⟩) (.int .u64 (m.w at_)) (Ne.symm e2)).trans ht9
                have hVX := (heap_set_far (p := ⟨bw, at_, none⟩) (.int .u64 (m.w at_)) npB.1).trans hV9
                have hMX := hM9.far (p := ⟨bw, at_, none⟩) (.int .u64 (m.w at_)) (Ne.symm n1.1) (Ne.symm n1.2.1) (Ne.symm n1.2.2)
                have hBX := hB9.setCell (p := ⟨bw, at_, none⟩) c0 (.int .u64 (m.w at_))
                have hsX : w.heap.size ≤ (w9.setCell ⟨bw, at_, none⟩ (.int .u64 (m.w at_))).heap.size := by simp [World.setCell]; omega
                clear hw9 hh9 ht9 hV9 hM9 hB9 hs9 d0 d1 d2 d3 d4 cw fw
                generalize w9.setCell ⟨bw, at_, none⟩ (.int .u64 (m.w at_)) = X at hX1 hhX htX hVX hMX hBX hsX ⊢
                have d1 := cell_of_row _ U.heap.size 1 _ _ _ hVX
                have t0 := cell_of_row _ bt 0 _ _ _ htX
                have t1 := cell_of_row _ bt 1 _ _ _ htX
                have t2 := cell_of_row _ bt 2 _ _ _ htX
                have f0 := frozen_of 0 htX
                have f1 := frozen_of 1 htX
                have f2 := frozen_of 2 htX
                go_region
                have htY := heap_set_self 2 (.bool false) (heap_set_self 1 (.int .i64 m.who) (heap_set_self 0 (.int .i64 (at_ : Nat)) htX))
                replace htY : ((((X.setCell ⟨bt, 0, none⟩ (.int .i64 (at_ : Nat))).setCell ⟨bt, 1, none⟩ (.int .i64 m.who)).setCell ⟨bt, 2, none⟩ (.bool false)).drew).heap[bt]? = some (.cells #[.int .i64 (at_ : Nat), .int .i64 m.who, .bool false] 79 (0, 0)) := htY
                have hwY := ((hX1.keep (p := ⟨bt, 0, none⟩) e2 (.int .i64 (at_ : Nat))).keep (p := ⟨bt, 1, none⟩) e2 (.int .i64 m.who)).keep (p := ⟨bt, 2, none⟩) e2 (.bool false)
                have hhY := ((hhX.put (p := ⟨bt, 0, none⟩) (v := .int .i64 (at_ : Nat)) e3).put (p := ⟨bt, 1, none⟩) (v := .int .i64 m.who) e3).put (p := ⟨bt, 2, none⟩) (v := .bool false) e3
                have hMY := (((hMX.far (p := ⟨bt, 0, none⟩) (.int .i64 (at_ : Nat)) (Ne.symm n3.1) (Ne.symm n3.2.1) (Ne.symm n3.2.2)).far (p := ⟨bt, 1, none⟩) (.int .i64 m.who) (Ne.symm n3.1) (Ne.symm n3.2.1) (Ne.symm n3.2.2)).far (p := ⟨bt, 2, none⟩) (.bool false) (Ne.symm n3.1) (Ne.symm n3.2.1) (Ne.symm n3.2.2)).drew
                have hBY := (((hBX.setCell (p := ⟨bt, 0, none⟩) c2 (.int .i64 (at_ : Nat))).setCell (p := ⟨bt, 1, none⟩) c2 (.int .i64 m.who)).setCell (p := ⟨bt, 2, none⟩) c2 (.bool false)).drew
                have hVY := (heap_set_far (p := ⟨bt, 2, none⟩) (.bool false) npB.2.2).trans ((heap_set_far (p := ⟨bt, 1, none⟩) (.int .i64 m.who) npB.2.2).trans ((heap_set_far (p := ⟨bt, 0, none⟩) (.int .i64 (at_ : Nat)) npB.2.2).trans hVX))
                have hsY : w.heap.size ≤ ((((X.setCell ⟨bt, 0, none⟩ (.int .i64 (at_ : Nat))).setCell ⟨bt, 1, none⟩ (.int .i64 m.who)).setCell ⟨bt, 2, none⟩ (.bool false)).drew).heap.size := by simp [World.setCell]; omega
                replace hwY : CopiedW ((((X.setCell ⟨bt, 0, none⟩ (.int .i64 (at_ : Nat))).setCell ⟨bt, 1, none⟩ (.int .i64 m.who)).setCell ⟨bt, 2, none⟩ (.bool false)).drew) bw K K (m.step at_) := hwY
                replace hhY : CopiedH ((((X.setCell ⟨bt, 0, none⟩ (.int .i64 (at_ : Nat))).setCell ⟨bt, 1, none⟩ (.int .i64 m.who)).setCell ⟨bt, 2, none⟩ (.bool false)).drew) bh K K m := hhY
                replace hVY : ((((X.setCell ⟨bt, 0, none⟩ (.int .i64 (at_ : Nat))).setCell ⟨bt, 1, none⟩ (.int .i64 m.who)).setCell ⟨bt, 2, none⟩ (.bool false)).drew).heap[U.heap.size]? = some (.cells #[.int .i64 2, .int .i64 at_, .int .i64 h, .int .u64 x, .bool true] 75 (0, 0)) := hVY
                clear d1 t0 t1 t2 f0 f1 f2 hX1 hhX htX hVX hMX hBX hsX
                generalize (((X.setCell ⟨bt, 0, none⟩ (.int .i64 (at_ : Nat))).setCell ⟨bt, 1, none⟩ (.int .i64 m.who)).setCell ⟨bt, 2, none⟩ (.bool false)).drew = Y at htY hwY hhY hMY hBY hVY hsY ⊢
                have d1 := cell_of_row _ U.heap.size 1 _ _ _ hVY
                have hhZ := hhY.same NX_.h
                clear hhY
                have hhY := hhZ
                clear hhZ
                go_wp2
                have HNX := Lib.hid NX_
                have HSt := Lib.hid NX_.steps
                have HWv : Hid ((m.step at_).w at_ = (m.w at_)) := by
                  have := NX_.w at_
                  rw [if_pos rfl] at this
                  exact this
                have HLst : Hid (∀ W, MemAt W g gw gh (m.step at_) → Calls Try.prog 55 #[.pointer (some ⟨g, 0, none⟩)] W fun e W' => e = .returned (.agg #[.int .i64 (at_ : Nat), .int .i64 m.who, .bool false]) ∧ Below W.heap.size W W') := by
                  intro W h
                  have h2 := Last_any g gw gh (m.step at_) W h
                  rw [NX_.la, NX_.lw, NX_.lc] at h2
                  exact h2
                have HStp : Hid (∀ W, MemAt W g gw gh (m.step at_) → Calls Try.prog 54 #[.pointer (some ⟨g, 0, none⟩)] W fun e W' => e = .returned (.int .i64 (m.steps + 1)) ∧ W' = W) := by
                  intro W h
                  have h2 := Steps_any g gw gh (m.step at_) W h
                  rw [NX_.steps] at h2
                  exact h2
                have HPk : Hid (∀ W, MemAt W g gw gh (m.step at_) → Calls Try.prog 49 #[.pointer (some ⟨g, 0, none⟩), .int .i64 (at_ : Nat)] W fun e W' => e = .returned (.int .u64 (m.w at_)) ∧ W' = W) := by
                  intro W h
                  have h2 := Peek_yes g gw gh (m.step at_) at_ W h (by rw [NX_.n]; exact hat)
                  rw [HWv.out] at h2
                  exact h2
                clear NX_
                replace hBY := hBY.drew
                replace hMY := hMY.drew
                replace hwY : CopiedW Y.drew bw K K (m.step at_) := hwY
                replace hhY : CopiedH Y.drew bh K K (m.step at_) := hhY
                replace htY : Y.drew.heap[bt]? = _ := htY
                replace hVY : Y.drew.heap[U.heap.size]? = _ := hVY
                replace hsY : w.heap.size ≤ Y.drew.heap.size := hsY
                (first | (go_region_held3 (fun w' => w'.cell? ⟨U.heap.size, 1, none⟩ = some (.int .i64 (at_ : Nat)) ∧ w'.cell? ⟨bt, 0, none⟩ = some (.int .i64 (at_ : Nat)) ∧ w'.cell? ⟨bt, 1, none⟩ = some (.int .i64 m.who) ∧ w'.cell? ⟨bt, 2, none⟩ = some (.bool false))
                  (exact ⟨cell_of_row _ U.heap.size 1 _ _ _ hVY, cell_of_row _ bt 0 _ _ _ htY, cell_of_row _ bt 1 _ _ _ htY, cell_of_row _ bt 2 _ _ _ htY⟩)
                  (first
                    | (go_at_call 54; refine (HStp.out _ hMY).mono ?_; rintro e w7 ⟨rfl, hw7⟩; obtain rfl := hw7.symm; clear hw7)
                    | (go_at_call 49; refine (HPk.out _ hMY).mono ?_; rintro e w7 ⟨rfl, hw7⟩; obtain rfl := hw7.symm; clear hw7)
                    | (go_at_call 55; refine (HLst.out _ hMY).mono ?_; rintro e w6 ⟨rfl, hb6⟩; replace hMY := hMY.below hb6; replace hwY := hwY.below hb6; replace hhY := hhY.below hb6; replace htY := (hb6.block _ (by exact lt_of_heap htY)).trans htY; replace hVY := (hb6.block _ (by exact lt_of_heap hVY)).trans hVY; replace hBY := hBY.trans (hb6.mono hsY); replace hsY := Nat.le_trans hsY hb6.size; clear hb6))) | fail)
                all_goals
                  have hP9 : Hid ((m.step at_).n = K ∧ (m.step at_).steps ≤ ((k + 1 : Nat) : Int)) := ⟨HNX.out.n, by have := hP.out.2; rw [HSt.out]; omega⟩
                  go_wp2
                  go_roundw
                  case rel => exact ⟨k + 1, (m.step at_), _, by go_num, by rw [HSt.out], by rw [HNX.out.who], by omega, rfl, hP9, hMY, hwY, hhY, by rw [HNX.out.la, HNX.out.lw, HNX.out.lc]; exact htY, hBY, hsY⟩
                  case measure => simp [intOf]; omega
          · as_aux_lemma =>
              obtain ⟨sm, esm⟩ : ∃ s : Int, IntKind.u64.wrap (m.w at_ + x) = s := ⟨_, rfl⟩
              by_cases hv : m.w at_ = sm
              · have nb : (sm != m.w at_) = false := by simp [hv]
                have NX_ := NX.same (at_ := at_) (K := K) hP.out.1 sm hv
                clear hv
                go_wp2_with fail
                refine (Add_yes g gw gh m at_ x sm _ hM1 hatn hst esm).mono ?_
                rintro e w9 ⟨rfl, hM9, hK9⟩
                have hV9 := hK9.heap hV1 npV.1 npV.2.1 npV.2.2
                have hw9 := hw1.far hK9 n1.1 n1.2.1 n1.2.2
                have hh9 := hh1.far hK9 n2.1 n2.2.1 n2.2.2
                have ht9 := hK9.heap ht1 n3.1 n3.2.1 n3.2.2
                have hB9 := hB1.trans (hK9.below b0 b1 b2 hs1)
                have hs9 := Nat.le_trans hs1 hK9.size
                clear hK9 hM hw hh ht hB hs hM1 hw1 hh1 ht1 hB1 hs1 hV1 d0 d1 d2 d3 d4 z0 z1 z2 z3 z4 dw
                have d0 := cell_of_row _ U.heap.size 0 _ _ _ hV9
                have d1 := cell_of_row _ U.heap.size 1 _ _ _ hV9
                have d2 := cell_of_row _ U.heap.size 2 _ _ _ hV9
                have d3 := cell_of_row _ U.heap.size 3 _ _ _ hV9
                have d4 := cell_of_row _ U.heap.size 4 _ _ _ hV9
                have cw := hw9.cell hat
                have fw := hw9.fr at_
                go_wp2
                have hX1 := hw9.put hat NX_.w
                have hhX : CopiedH (w9.setCell ⟨bw, at_, none⟩ (.int .u64 sm)) bh K K m := hh9.put (p := ⟨bw, at_, none⟩) (Ne.symm e1)
                have htX := (heap_set_far (p := ⟨bw, at_, none⟩) (.int .u64 sm) (Ne.symm e2)).trans ht9
                have hVX := (heap_set_far (p := ⟨bw, at_, none⟩) (.int .u64 sm) npB.1).trans hV9
                have hMX := hM9.far (p := ⟨bw, at_, none⟩) (.int .u64 sm) (Ne.symm n1.1) (Ne.symm n1.2.1) (Ne.symm n1.2.2)
                have hBX := hB9.setCell (p := ⟨bw, at_, none⟩) c0 (.int .u64 sm)
                have hsX : w.heap.size ≤ (w9.setCell ⟨bw, at_, none⟩ (.int .u64 sm)).heap.size := by simp [World.setCell]; omega
                clear hw9 hh9 ht9 hV9 hM9 hB9 hs9 d0 d1 d2 d3 d4 cw fw
                generalize w9.setCell ⟨bw, at_, none⟩ (.int .u64 sm) = X at hX1 hhX htX hVX hMX hBX hsX ⊢
                have d1 := cell_of_row _ U.heap.size 1 _ _ _ hVX
                have t0 := cell_of_row _ bt 0 _ _ _ htX
                have t1 := cell_of_row _ bt 1 _ _ _ htX
                have t2 := cell_of_row _ bt 2 _ _ _ htX
                have f0 := frozen_of 0 htX
                have f1 := frozen_of 1 htX
                have f2 := frozen_of 2 htX
                go_region
                have htY := heap_set_self 2 (.bool false) (heap_set_self 1 (.int .i64 m.who) (heap_set_self 0 (.int .i64 (at_ : Nat)) htX))
                replace htY : ((((X.setCell ⟨bt, 0, none⟩ (.int .i64 (at_ : Nat))).setCell ⟨bt, 1, none⟩ (.int .i64 m.who)).setCell ⟨bt, 2, none⟩ (.bool false)).drew).heap[bt]? = some (.cells #[.int .i64 (at_ : Nat), .int .i64 m.who, .bool false] 79 (0, 0)) := htY
                have hwY := ((hX1.keep (p := ⟨bt, 0, none⟩) e2 (.int .i64 (at_ : Nat))).keep (p := ⟨bt, 1, none⟩) e2 (.int .i64 m.who)).keep (p := ⟨bt, 2, none⟩) e2 (.bool false)
                have hhY := ((hhX.put (p := ⟨bt, 0, none⟩) (v := .int .i64 (at_ : Nat)) e3).put (p := ⟨bt, 1, none⟩) (v := .int .i64 m.who) e3).put (p := ⟨bt, 2, none⟩) (v := .bool false) e3
                have hMY := (((hMX.far (p := ⟨bt, 0, none⟩) (.int .i64 (at_ : Nat)) (Ne.symm n3.1) (Ne.symm n3.2.1) (Ne.symm n3.2.2)).far (p := ⟨bt, 1, none⟩) (.int .i64 m.who) (Ne.symm n3.1) (Ne.symm n3.2.1) (Ne.symm n3.2.2)).far (p := ⟨bt, 2, none⟩) (.bool false) (Ne.symm n3.1) (Ne.symm n3.2.1) (Ne.symm n3.2.2)).drew
                have hBY := (((hBX.setCell (p := ⟨bt, 0, none⟩) c2 (.int .i64 (at_ : Nat))).setCell (p := ⟨bt, 1, none⟩) c2 (.int .i64 m.who)).setCell (p := ⟨bt, 2, none⟩) c2 (.bool false)).drew
                have hVY := (heap_set_far (p := ⟨bt, 2, none⟩) (.bool false) npB.2.2).trans ((heap_set_far (p := ⟨bt, 1, none⟩) (.int .i64 m.who) npB.2.2).trans ((heap_set_far (p := ⟨bt, 0, none⟩) (.int .i64 (at_ : Nat)) npB.2.2).trans hVX))
                have hsY : w.heap.size ≤ ((((X.setCell ⟨bt, 0, none⟩ (.int .i64 (at_ : Nat))).setCell ⟨bt, 1, none⟩ (.int .i64 m.who)).setCell ⟨bt, 2, none⟩ (.bool false)).drew).heap.size := by simp [World.setCell]; omega
                replace hwY : CopiedW ((((X.setCell ⟨bt, 0, none⟩ (.int .i64 (at_ : Nat))).setCell ⟨bt, 1, none⟩ (.int .i64 m.who)).setCell ⟨bt, 2, none⟩ (.bool false)).drew) bw K K ((m.step at_).set at_ sm) := hwY
                replace hhY : CopiedH ((((X.setCell ⟨bt, 0, none⟩ (.int .i64 (at_ : Nat))).setCell ⟨bt, 1, none⟩ (.int .i64 m.who)).setCell ⟨bt, 2, none⟩ (.bool false)).drew) bh K K m := hhY
                replace hVY : ((((X.setCell ⟨bt, 0, none⟩ (.int .i64 (at_ : Nat))).setCell ⟨bt, 1, none⟩ (.int .i64 m.who)).setCell ⟨bt, 2, none⟩ (.bool false)).drew).heap[U.heap.size]? = some (.cells #[.int .i64 3, .int .i64 at_, .int .i64 h, .int .u64 x, .bool f] 75 (0, 0)) := hVY
                clear d1 t0 t1 t2 f0 f1 f2 hX1 hhX htX hVX hMX hBX hsX
                generalize (((X.setCell ⟨bt, 0, none⟩ (.int .i64 (at_ : Nat))).setCell ⟨bt, 1, none⟩ (.int .i64 m.who)).setCell ⟨bt, 2, none⟩ (.bool false)).drew = Y at htY hwY hhY hMY hBY hVY hsY ⊢
                have d1 := cell_of_row _ U.heap.size 1 _ _ _ hVY
                have hhZ := hhY.same NX_.h
                clear hhY
                have hhY := hhZ
                clear hhZ
                go_wp2
                have HNX := Lib.hid NX_
                have HSt := Lib.hid NX_.steps
                have HWv : Hid (((m.step at_).set at_ sm).w at_ = sm) := by
                  have := NX_.w at_
                  rw [if_pos rfl] at this
                  exact this
                have HLst : Hid (∀ W, MemAt W g gw gh ((m.step at_).set at_ sm) → Calls Try.prog 55 #[.pointer (some ⟨g, 0, none⟩)] W fun e W' => e = .returned (.agg #[.int .i64 (at_ : Nat), .int .i64 m.who, .bool false]) ∧ Below W.heap.size W W') := by
                  intro W h
                  have h2 := Last_any g gw gh ((m.step at_).set at_ sm) W h
                  rw [NX_.la, NX_.lw, NX_.lc] at h2
                  exact h2
                have HStp : Hid (∀ W, MemAt W g gw gh ((m.step at_).set at_ sm) → Calls Try.prog 54 #[.pointer (some ⟨g, 0, none⟩)] W fun e W' => e = .returned (.int .i64 (m.steps + 1)) ∧ W' = W) := by
                  intro W h
                  have h2 := Steps_any g gw gh ((m.step at_).set at_ sm) W h
                  rw [NX_.steps] at h2
                  exact h2
                have HPk : Hid (∀ W, MemAt W g gw gh ((m.step at_).set at_ sm) → Calls Try.prog 49 #[.pointer (some ⟨g, 0, none⟩), .int .i64 (at_ : Nat)] W fun e W' => e = .returned (.int .u64 sm) ∧ W' = W) := by
                  intro W h
                  have h2 := Peek_yes g gw gh ((m.step at_).set at_ sm) at_ W h (by rw [NX_.n]; exact hat)
                  rw [HWv.out] at h2
                  exact h2
                clear NX_
                replace hBY := hBY.drew
                replace hMY := hMY.drew
                replace hwY : CopiedW Y.drew bw K K ((m.step at_).set at_ sm) := hwY
                replace hhY : CopiedH Y.drew bh K K ((m.step at_).set at_ sm) := hhY
                replace htY : Y.drew.heap[bt]? = _ := htY
                replace hVY : Y.drew.heap[U.heap.size]? = _ := hVY
                replace hsY : w.heap.size ≤ Y.drew.heap.size := hsY
                (first | (go_region_held3 (fun w' => w'.cell? ⟨U.heap.size, 1, none⟩ = some (.int .i64 (at_ : Nat)) ∧ w'.cell? ⟨bt, 0, none⟩ = some (.int .i64 (at_ : Nat)) ∧ w'.cell? ⟨bt, 1, none⟩ = some (.int .i64 m.who) ∧ w'.cell? ⟨bt, 2, none⟩ = some (.bool false))
                  (exact ⟨cell_of_row _ U.heap.size 1 _ _ _ hVY, cell_of_row _ bt 0 _ _ _ htY, cell_of_row _ bt 1 _ _ _ htY, cell_of_row _ bt 2 _ _ _ htY⟩)
                  (first
                    | (go_at_call 54; refine (HStp.out _ hMY).mono ?_; rintro e w7 ⟨rfl, hw7⟩; obtain rfl := hw7.symm; clear hw7)
                    | (go_at_call 49; refine (HPk.out _ hMY).mono ?_; rintro e w7 ⟨rfl, hw7⟩; obtain rfl := hw7.symm; clear hw7)
                    | (go_at_call 55; refine (HLst.out _ hMY).mono ?_; rintro e w6 ⟨rfl, hb6⟩; replace hMY := hMY.below hb6; replace hwY := hwY.below hb6; replace hhY := hhY.below hb6; replace htY := (hb6.block _ (by exact lt_of_heap htY)).trans htY; replace hVY := (hb6.block _ (by exact lt_of_heap hVY)).trans hVY; replace hBY := hBY.trans (hb6.mono hsY); replace hsY := Nat.le_trans hsY hb6.size; clear hb6))) | fail)
                all_goals
                  have hP9 : Hid (((m.step at_).set at_ sm).n = K ∧ ((m.step at_).set at_ sm).steps ≤ ((k + 1 : Nat) : Int)) := ⟨HNX.out.n, by have := hP.out.2; rw [HSt.out]; omega⟩
                  go_wp2
                  go_roundw
                  case rel => exact ⟨k + 1, ((m.step at_).set at_ sm), _, by go_num, by rw [HSt.out], by rw [HNX.out.who], by omega, rfl, hP9, hMY, hwY, hhY, by rw [HNX.out.la, HNX.out.lw, HNX.out.lc]; exact htY, hBY, hsY⟩
                  case measure => simp [intOf]; omega
              · have nb : (sm != m.w at_) = true := bne_iff_ne.2 (Ne.symm hv)
                have NX_ := NX.other (at_ := at_) (K := K) hP.out.1 sm hv
                clear hv
                go_wp2_with fail
                refine (Add_yes g gw gh m at_ x sm _ hM1 hatn hst esm).mono ?_
                rintro e w9 ⟨rfl, hM9, hK9⟩
                have hV9 := hK9.heap hV1 npV.1 npV.2.1 npV.2.2
                have hw9 := hw1.far hK9 n1.1 n1.2.1 n1.2.2
                have hh9 := hh1.far hK9 n2.1 n2.2.1 n2.2.2
                have ht9 := hK9.heap ht1 n3.1 n3.2.1 n3.2.2
                have hB9 := hB1.trans (hK9.below b0 b1 b2 hs1)
                have hs9 := Nat.le_trans hs1 hK9.size
                clear hK9 hM hw hh ht hB hs hM1 hw1 hh1 ht1 hB1 hs1 hV1 d0 d1 d2 d3 d4 z0 z1 z2 z3 z4 dw
                have d0 := cell_of_row _ U.heap.size 0 _ _ _ hV9
                have d1 := cell_of_row _ U.heap.size 1 _ _ _ hV9
                have d2 := cell_of_row _ U.heap.size 2 _ _ _ hV9
                have d3 := cell_of_row _ U.heap.size 3 _ _ _ hV9
                have d4 := cell_of_row _ U.heap.size 4 _ _ _ hV9
                have cw := hw9.cell hat
                have fw := hw9.fr at_
                go_wp2
                have hX1 := hw9.put hat NX_.w
                have hhX : CopiedH (w9.setCell ⟨bw, at_, none⟩ (.int .u64 sm)) bh K K m := hh9.put (p := ⟨bw, at_, none⟩) (Ne.symm e1)
                have htX := (heap_set_far (p := ⟨bw, at_, none⟩) (.int .u64 sm) (Ne.symm e2)).trans ht9
                have hVX := (heap_set_far (p := ⟨bw, at_, none⟩) (.int .u64 sm) npB.1).trans hV9
                have hMX := hM9.far (p := ⟨bw, at_, none⟩) (.int .u64 sm) (Ne.symm n1.1) (Ne.symm n1.2.1) (Ne.symm n1.2.2)
                have hBX := hB9.setCell (p := ⟨bw, at_, none⟩) c0 (.int .u64 sm)
                have hsX : w.heap.size ≤ (w9.setCell ⟨bw, at_, none⟩ (.int .u64 sm)).heap.size := by simp [World.setCell]; omega
                clear hw9 hh9 ht9 hV9 hM9 hB9 hs9 d0 d1 d2 d3 d4 cw fw
                generalize w9.setCell ⟨bw, at_, none⟩ (.int .u64 sm) = X at hX1 hhX htX hVX hMX hBX hsX ⊢
                have d1 := cell_of_row _ U.heap.size 1 _ _ _ hVX
                have t0 := cell_of_row _ bt 0 _ _ _ htX
                have t1 := cell_of_row _ bt 1 _ _ _ htX
                have t2 := cell_of_row _ bt 2 _ _ _ htX
                have f0 := frozen_of 0 htX
                have f1 := frozen_of 1 htX
                have f2 := frozen_of 2 htX
                go_region
                have htY := heap_set_self 2 (.bool true) (heap_set_self 1 (.int .i64 m.who) (heap_set_self 0 (.int .i64 (at_ : Nat)) htX))
                replace htY : ((((X.setCell ⟨bt, 0, none⟩ (.int .i64 (at_ : Nat))).setCell ⟨bt, 1, none⟩ (.int .i64 m.who)).setCell ⟨bt, 2, none⟩ (.bool true)).drew).heap[bt]? = some (.cells #[.int .i64 (at_ : Nat), .int .i64 m.who, .bool true] 79 (0, 0)) := htY
                have hwY := ((hX1.keep (p := ⟨bt, 0, none⟩) e2 (.int .i64 (at_ : Nat))).keep (p := ⟨bt, 1, none⟩) e2 (.int .i64 m.who)).keep (p := ⟨bt, 2, none⟩) e2 (.bool true)
                have hhY := ((hhX.put (p := ⟨bt, 0, none⟩) (v := .int .i64 (at_ : Nat)) e3).put (p := ⟨bt, 1, none⟩) (v := .int .i64 m.who) e3).put (p := ⟨bt, 2, none⟩) (v := .bool true) e3
                have hMY := (((hMX.far (p := ⟨bt, 0, none⟩) (.int .i64 (at_ : Nat)) (Ne.symm n3.1) (Ne.symm n3.2.1) (Ne.symm n3.2.2)).far (p := ⟨bt, 1, none⟩) (.int .i64 m.who) (Ne.symm n3.1) (Ne.symm n3.2.1) (Ne.symm n3.2.2)).far (p := ⟨bt, 2, none⟩) (.bool true) (Ne.symm n3.1) (Ne.symm n3.2.1) (Ne.symm n3.2.2)).drew
                have hBY := (((hBX.setCell (p := ⟨bt, 0, none⟩) c2 (.int .i64 (at_ : Nat))).setCell (p := ⟨bt, 1, none⟩) c2 (.int .i64 m.who)).setCell (p := ⟨bt, 2, none⟩) c2 (.bool true)).drew
                have hVY := (heap_set_far (p := ⟨bt, 2, none⟩) (.bool true) npB.2.2).trans ((heap_set_far (p := ⟨bt, 1, none⟩) (.int .i64 m.who) npB.2.2).trans ((heap_set_far (p := ⟨bt, 0, none⟩) (.int .i64 (at_ : Nat)) npB.2.2).trans hVX))
                have hsY : w.heap.size ≤ ((((X.setCell ⟨bt, 0, none⟩ (.int .i64 (at_ : Nat))).setCell ⟨bt, 1, none⟩ (.int .i64 m.who)).setCell ⟨bt, 2, none⟩ (.bool true)).drew).heap.size := by simp [World.setCell]; omega
                replace hwY : CopiedW ((((X.setCell ⟨bt, 0, none⟩ (.int .i64 (at_ : Nat))).setCell ⟨bt, 1, none⟩ (.int .i64 m.who)).setCell ⟨bt, 2, none⟩ (.bool true)).drew) bw K K ((m.step at_).set at_ sm) := hwY
                replace hhY : CopiedH ((((X.setCell ⟨bt, 0, none⟩ (.int .i64 (at_ : Nat))).setCell ⟨bt, 1, none⟩ (.int .i64 m.who)).setCell ⟨bt, 2, none⟩ (.bool true)).drew) bh K K m := hhY
                replace hVY : ((((X.setCell ⟨bt, 0, none⟩ (.int .i64 (at_ : Nat))).setCell ⟨bt, 1, none⟩ (.int .i64 m.who)).setCell ⟨bt, 2, none⟩ (.bool true)).drew).heap[U.heap.size]? = some (.cells #[.int .i64 3, .int .i64 at_, .int .i64 h, .int .u64 x, .bool f] 75 (0, 0)) := hVY
                clear d1 t0 t1 t2 f0 f1 f2 hX1 hhX htX hVX hMX hBX hsX
                generalize (((X.setCell ⟨bt, 0, none⟩ (.int .i64 (at_ : Nat))).setCell ⟨bt, 1, none⟩ (.int .i64 m.who)).setCell ⟨bt, 2, none⟩ (.bool true)).drew = Y at htY hwY hhY hMY hBY hVY hsY ⊢
                have d1 := cell_of_row _ U.heap.size 1 _ _ _ hVY
                have ch0 := hhY.cell hat
                have ch1 := hhY.fr at_
                go_wp2
                have hhZ := hhY.next hat NX_.h
                replace hwY := hwY.keep (p := ⟨bh, at_, none⟩) e1 (.int .i64 (m.steps + 1))
                replace htY := (heap_set_far (p := ⟨bh, at_, none⟩) (.int .i64 (m.steps + 1)) (Ne.symm e3)).trans htY
                replace hVY := (heap_set_far (p := ⟨bh, at_, none⟩) (.int .i64 (m.steps + 1)) npB.2.1).trans hVY
                replace hMY := hMY.far (p := ⟨bh, at_, none⟩) (.int .i64 (m.steps + 1)) (Ne.symm n2.1) (Ne.symm n2.2.1) (Ne.symm n2.2.2)
                replace hBY := hBY.setCell (p := ⟨bh, at_, none⟩) c1 (.int .i64 (m.steps + 1))
                have hsZ : w.heap.size ≤ (Y.setCell ⟨bh, at_, none⟩ (.int .i64 (m.steps + 1))).heap.size := by simp [World.setCell]; omega
                clear ch0 ch1 hhY hsY d1
                generalize Y.setCell ⟨bh, at_, none⟩ (.int .i64 (m.steps + 1)) = Z at htY hwY hhZ hMY hBY hVY hsZ ⊢
                have hhY := hhZ
                have hsY := hsZ
                clear hhZ hsZ
                have HNX := Lib.hid NX_
                have HSt := Lib.hid NX_.steps
                have HWv : Hid (((m.step at_).set at_ sm).w at_ = sm) := by
                  have := NX_.w at_
                  rw [if_pos rfl] at this
                  exact this
                have HLst : Hid (∀ W, MemAt W g gw gh ((m.step at_).set at_ sm) → Calls Try.prog 55 #[.pointer (some ⟨g, 0, none⟩)] W fun e W' => e = .returned (.agg #[.int .i64 (at_ : Nat), .int .i64 m.who, .bool true]) ∧ Below W.heap.size W W') := by
                  intro W h
                  have h2 := Last_any g gw gh ((m.step at_).set at_ sm) W h
                  rw [NX_.la, NX_.lw, NX_.lc] at h2
                  exact h2
                have HStp : Hid (∀ W, MemAt W g gw gh ((m.step at_).set at_ sm) → Calls Try.prog 54 #[.pointer (some ⟨g, 0, none⟩)] W fun e W' => e = .returned (.int .i64 (m.steps + 1)) ∧ W' = W) := by
                  intro W h
                  have h2 := Steps_any g gw gh ((m.step at_).set at_ sm) W h
                  rw [NX_.steps] at h2
                  exact h2
                have HPk : Hid (∀ W, MemAt W g gw gh ((m.step at_).set at_ sm) → Calls Try.prog 49 #[.pointer (some ⟨g, 0, none⟩), .int .i64 (at_ : Nat)] W fun e W' => e = .returned (.int .u64 sm) ∧ W' = W) := by
                  intro W h
                  have h2 := Peek_yes g gw gh ((m.step at_).set at_ sm) at_ W h (by rw [NX_.n]; exact hat)
                  rw [HWv.out] at h2
                  exact h2
                clear NX_
                replace hBY := hBY.drew
                replace hMY := hMY.drew
                replace hwY : CopiedW Z.drew bw K K ((m.step at_).set at_ sm) := hwY
                replace hhY : CopiedH Z.drew bh K K ((m.step at_).set at_ sm) := hhY
                replace htY : Z.drew.heap[bt]? = _ := htY
                replace hVY : Z.drew.heap[U.heap.size]? = _ := hVY
                replace hsY : w.heap.size ≤ Z.drew.heap.size := hsY
                (first | (go_region_held3 (fun w' => w'.cell? ⟨U.heap.size, 1, none⟩ = some (.int .i64 (at_ : Nat)) ∧ w'.cell? ⟨bt, 0, none⟩ = some (.int .i64 (at_ : Nat)) ∧ w'.cell? ⟨bt, 1, none⟩ = some (.int .i64 m.who) ∧ w'.cell? ⟨bt, 2, none⟩ = some (.bool true))
                  (exact ⟨cell_of_row _ U.heap.size 1 _ _ _ hVY, cell_of_row _ bt 0 _ _ _ htY, cell_of_row _ bt 1 _ _ _ htY, cell_of_row _ bt 2 _ _ _ htY⟩)
                  (first
                    | (go_at_call 54; refine (HStp.out _ hMY).mono ?_; rintro e w7 ⟨rfl, hw7⟩; obtain rfl := hw7.symm; clear hw7)
                    | (go_at_call 49; refine (HPk.out _ hMY).mono ?_; rintro e w7 ⟨rfl, hw7⟩; obtain rfl := hw7.symm; clear hw7)
                    | (go_at_call 55; refine (HLst.out _ hMY).mono ?_; rintro e w6 ⟨rfl, hb6⟩; replace hMY := hMY.below hb6; replace hwY := hwY.below hb6; replace hhY := hhY.below hb6; replace htY := (hb6.block _ (by exact lt_of_heap htY)).trans htY; replace hVY := (hb6.block _ (by exact lt_of_heap hVY)).trans hVY; replace hBY := hBY.trans (hb6.mono hsY); replace hsY := Nat.le_trans hsY hb6.size; clear hb6))) | fail)
                all_goals
                  have hP9 : Hid (((m.step at_).set at_ sm).n = K ∧ ((m.step at_).set at_ sm).steps ≤ ((k + 1 : Nat) : Int)) := ⟨HNX.out.n, by have := hP.out.2; rw [HSt.out]; omega⟩
                  go_wp2
                  go_roundw
                  case rel => exact ⟨k + 1, ((m.step at_).set at_ sm), _, by go_num, by rw [HSt.out], by rw [HNX.out.who], by omega, rfl, hP9, hMY, hwY, hhY, by rw [HNX.out.la, HNX.out.lw, HNX.out.lc]; exact htY, hBY, hsY⟩
                  case measure => simp [intOf]; omega
          · as_aux_lemma =>
              have y0' : (kd == 0) = false := beq_eq_false_iff_ne.2 y0
              have y1' : (kd == 1) = false := beq_eq_false_iff_ne.2 y1
              have y2' : (kd == 2) = false := beq_eq_false_iff_ne.2 y2
              have y3' : (kd == 3) = false := beq_eq_false_iff_ne.2 y3
              go_wp2_with fail
              refine (By_any g gw gh m h _ hM1).mono ?_
              rintro e w9 ⟨rfl, hM9, hK9⟩
              have hV9 := hK9.heap hV1 npV.1 npV.2.1 npV.2.2
              have hw9 : CopiedW w9 bw K K (m.by_ h) := hw1.far hK9 n1.1 n1.2.1 n1.2.2
              have hh9 : CopiedH w9 bh K K (m.by_ h) := hh1.far hK9 n2.1 n2.2.1 n2.2.2
              have ht9 := hK9.heap ht1 n3.1 n3.2.1 n3.2.2
              have hB9 := hB1.trans (hK9.below b0 b1 b2 hs1)
              have hs9 := Nat.le_trans hs1 hK9.size
              have hP9 : Hid ((m.by_ h).n = K ∧ (m.by_ h).steps ≤ ((k + 1 : Nat) : Int)) := ⟨hP.out.1, by have := hP.out.2; show m.steps ≤ _; omega⟩
              clear hK9 hM hw hh ht hB hs hM1 hw1 hh1 ht1 hB1 hs1 d0 d1 d2 d3 d4 z0 z1 z2 z3 z4
              have d2 := cell_of_row _ U.heap.size 2 _ _ _ hV9
              go_wp2
              go_roundw
              case rel => exact ⟨k + 1, m.by_ h, w9, by go_num, rfl, rfl, by omega, rfl, hP9, hM9, hw9, hh9, ht9, hB9, hs9⟩
              case measure => simp [intOf]; omega
      · have HPe := hP.out.1
        have HKE := Lib.hid HPe
        have hKm : K ≤ m.n := by omega
        rcases (by omega : n ≤ k ∨ (k < n ∧ 80 ≤ k)) with q1 | ⟨q1, q2⟩
        · as_aux_lemma =>
            clear hlt HPe hKm hst0
            go_wp2_with fail
            go_loopw [26] (fun i wr => ∃ (j : Nat) (U : World), i = .int .i64 j ∧ j ≤ K ∧ U = wr ∧ MemAt U g gw gh m ∧ CopiedW U bw K K m ∧ CopiedH U bh K K m ∧ Below w.heap.size w U ∧ w.heap.size ≤ U.heap.size) (fun i _ => K - (intOf i).toNat)
            case atStart => exact ⟨0, _, rfl, by omega, rfl, hM, hw, hh, hB, hs⟩
            case round =>
              clear hM hw hh hB hs ht
              obtain ⟨j, U2, rfl, hjK, rfl, hM, hw, hh, hB, hs⟩ := hrel
              by_cases hj : j < K
              · have hji : (j : Int) < (K : Int) := by omega
                have hjn : j < m.n := by rw [HKE.out]; exact hj
                have cw := hw.cell hj
                have ch := hh.cell hj
                have HP1 := PeekP hM j (m.w j) hjn rfl
                have HW1 : Hid (∀ q : Nat, Calls Try.prog 56 #[.pointer (some ⟨g, 0, none⟩), .int .i64 j] (U2.drewN q) fun e w' => e = .returned (.int .i64 (m.h j)) ∧ w' = U2.drewN q) := fun q => When_yes g gw gh m j _ (hM.drewN q) hjn
                go_wp2
                go_quiet ((first | (go_at_call 49; exact Calls.quiet_of_same (HP1.out _)) | (go_at_call 56; exact Calls.quiet_of_same (HW1.out _))))
                go_wp2
                go_roundw
                case rel => exact ⟨j + 1, _, by go_num, by omega, rfl, hM.drewN _, hw.drewN _, hh, below_drewN hB _, hs⟩
                case measure => simp [intOf]; omega
              · have hjj : K ≤ j := by omega
                have hji : (K : Int) ≤ (j : Int) := by omega
                have hno : (K : Int) < 0 ∨ (m.n : Int) ≤ (K : Int) := .inr (by rw [HKE.out]; exact Int.le_refl _)
                have HNO := Lib.hid hno
                clear hj hno
                go_wp2_with fail
                refine (Peek_no g gw gh m (-1) _ hM (.inl (by omega))).mono ?_
                rintro e w9 ⟨rfl, hw9⟩; obtain rfl := hw9.symm; clear hw9
                go_wp2_with fail
                refine (Peek_no g gw gh m K _ hM HNO.out).mono ?_
                rintro e w9 ⟨rfl, hw9⟩; obtain rfl := hw9.symm; clear hw9
                go_wp2_with fail
                refine (When_no g gw gh m (-1) _ hM (.inl (by omega))).mono ?_
                rintro e w9 ⟨rfl, hw9⟩; obtain rfl := hw9.symm; clear hw9
                go_wp2_with fail
                refine (When_no g gw gh m K _ hM HNO.out).mono ?_
                rintro e w9 ⟨rfl, hw9⟩; obtain rfl := hw9.symm; clear hw9
                go_wp2
                go_ret
                exact ⟨rfl, hB⟩
        · as_aux_lemma =>
            clear hlt HPe hKm hst0
            go_wp2_with fail
            go_loopw [26] (fun i wr => ∃ (j : Nat) (U : World), i = .int .i64 j ∧ j ≤ K ∧ U = wr ∧ MemAt U g gw gh m ∧ CopiedW U bw K K m ∧ CopiedH U bh K K m ∧ Below w.heap.size w U ∧ w.heap.size ≤ U.heap.size) (fun i _ => K - (intOf i).toNat)
            case atStart => exact ⟨0, _, rfl, by omega, rfl, hM, hw, hh, hB, hs⟩
            case round =>
              clear hM hw hh hB hs ht
              obtain ⟨j, U2, rfl, hjK, rfl, hM, hw, hh, hB, hs⟩ := hrel
              by_cases hj : j < K
              · have hji : (j : Int) < (K : Int) := by omega
                have hjn : j < m.n := by rw [HKE.out]; exact hj
                have cw := hw.cell hj
                have ch := hh.cell hj
                have HP1 := PeekP hM j (m.w j) hjn rfl
                have HW1 : Hid (∀ q : Nat, Calls Try.prog 56 #[.pointer (some ⟨g, 0, none⟩), .int .i64 j] (U2.drewN q) fun e w' => e = .returned (.int .i64 (m.h j)) ∧ w' = U2.drewN q) := fun q => When_yes g gw gh m j _ (hM.drewN q) hjn
                go_wp2
                go_quiet ((first | (go_at_call 49; exact Calls.quiet_of_same (HP1.out _)) | (go_at_call 56; exact Calls.quiet_of_same (HW1.out _))))
                go_wp2
                go_roundw
                case rel => exact ⟨j + 1, _, by go_num, by omega, rfl, hM.drewN _, hw.drewN _, hh, below_drewN hB _, hs⟩
                case measure => simp [intOf]; omega
              · have hjj : K ≤ j := by omega
                have hji : (K : Int) ≤ (j : Int) := by omega
                have hno : (K : Int) < 0 ∨ (m.n : Int) ≤ (K : Int) := .inr (by rw [HKE.out]; exact Int.le_refl _)
                have HNO := Lib.hid hno
                clear hj hno
                go_wp2_with fail
                refine (Peek_no g gw gh m (-1) _ hM (.inl (by omega))).mono ?_
                rintro e w9 ⟨rfl, hw9⟩; obtain rfl := hw9.symm; clear hw9
                go_wp2_with fail
                refine (Peek_no g gw gh m K _ hM HNO.out).mono ?_
                rintro e w9 ⟨rfl, hw9⟩; obtain rfl := hw9.symm; clear hw9
                go_wp2_with fail
                refine (When_no g gw gh m (-1) _ hM (.inl (by omega))).mono ?_
                rintro e w9 ⟨rfl, hw9⟩; obtain rfl := hw9.symm; clear hw9
                go_wp2_with fail
                refine (When_no g gw gh m K _ hM HNO.out).mono ?_
                rintro e w9 ⟨rfl, hw9⟩; obtain rfl := hw9.symm; clear hw9
                go_wp2
                go_ret
                exact ⟨rfl, hB⟩
end Go.Proofs.Ytnpjfdiapoghnaa
