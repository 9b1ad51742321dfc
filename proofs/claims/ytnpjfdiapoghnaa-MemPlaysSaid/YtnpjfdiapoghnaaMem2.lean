/- Layer 2, mem: what is asked of a memory, and how one is made. -/
import Derived.Test.YtnpjfdiapoghnaaMem
import Derived.Deep.OwnRows
namespace Go.Proofs.Ytnpjfdiapoghnaa
open Go Go.RowKit

theorem Peek_yes (g gw gh : Nat) (m : Ms) (k : Nat) (W : World) (hM : MemAt W g gw gh m) (h1 : k < m.n) :
    Calls Try.prog 49 #[.pointer (some ⟨g, 0, none⟩), .int .i64 k] W fun e W' => e = .returned (.int .u64 (m.w k)) ∧ W' = W := by
  have c0 := hM.c0
  have cw := hM.cw h1
  have hz := hM.size
  have h1' : (k : Int) < (m.n : Int) := by omega
  go_enter Try.func49, Try.ntmps49
  go_wp2
  go_ret
  exact ⟨rfl, rfl⟩
theorem Peek_no (g gw gh : Nat) (m : Ms) (a : Int) (W : World) (hM : MemAt W g gw gh m) (h1 : a < 0 ∨ (m.n : Int) ≤ a) :
    Calls Try.prog 49 #[.pointer (some ⟨g, 0, none⟩), .int .i64 a] W fun e W' => e = .returned (.int .u64 0) ∧ W' = W := by
  have c0 := hM.c0
  have hz := hM.size
  rcases h1 with h1 | h1
  · go_enter Try.func49, Try.ntmps49
    go_wp2
    go_ret
    exact ⟨rfl, rfl⟩
  · have h0 : 0 ≤ a := by omega
    go_enter Try.func49, Try.ntmps49
    go_wp2
    go_ret
    exact ⟨rfl, rfl⟩
theorem Peek_nil (a : Int) (W : World) :
    Calls Try.prog 49 #[.pointer none, .int .i64 a] W fun e W' => e = .returned (.int .u64 0) ∧ W' = W := by
  go_enter Try.func49, Try.ntmps49
  go_wp2
  go_ret
  exact ⟨rfl, rfl⟩
theorem When_yes (g gw gh : Nat) (m : Ms) (k : Nat) (W : World) (hM : MemAt W g gw gh m) (h1 : k < m.n) :
    Calls Try.prog 56 #[.pointer (some ⟨g, 0, none⟩), .int .i64 k] W fun e W' => e = .returned (.int .i64 (m.h k)) ∧ W' = W := by
  have c0 := hM.c0
  have c1 := hM.c1
  have ch := hM.ch h1
  have hz := hM.size
  have h1' : (k : Int) < (m.n : Int) := by omega
  go_enter Try.func56, Try.ntmps56
  go_wp2
  go_ret
  exact ⟨rfl, rfl⟩
theorem When_no (g gw gh : Nat) (m : Ms) (a : Int) (W : World) (hM : MemAt W g gw gh m) (h1 : a < 0 ∨ (m.n : Int) ≤ a) :
    Calls Try.prog 56 #[.pointer (some ⟨g, 0, none⟩), .int .i64 a] W fun e W' => e = .returned (.int .i64 0) ∧ W' = W := by
  have c0 := hM.c0
  have hz := hM.size
  rcases h1 with h1 | h1
  · go_enter Try.func56, Try.ntmps56
    go_wp2
    go_ret
    exact ⟨rfl, rfl⟩
  · have h0 : 0 ≤ a := by omega
    go_enter Try.func56, Try.ntmps56
    go_wp2
    go_ret
    exact ⟨rfl, rfl⟩
theorem When_nil (a : Int) (W : World) :
    Calls Try.prog 56 #[.pointer none, .int .i64 a] W fun e W' => e = .returned (.int .i64 0) ∧ W' = W := by
  go_enter Try.func56, Try.ntmps56
  go_wp2
  go_ret
  exact ⟨rfl, rfl⟩
theorem Steps_any (g gw gh : Nat) (m : Ms) (W : World) (hM : MemAt W g gw gh m) :
    Calls Try.prog 54 #[.pointer (some ⟨g, 0, none⟩)] W fun e W' => e = .returned (.int .i64 m.steps) ∧ W' = W := by
  have c2 := hM.c2
  go_enter Try.func54, Try.ntmps54
  go_wp2
  go_ret
  exact ⟨rfl, rfl⟩
theorem Steps_nil (W : World) :
    Calls Try.prog 54 #[.pointer none] W fun e W' => e = .returned (.int .i64 0) ∧ W' = W := by
  go_enter Try.func54, Try.ntmps54
  go_wp2
  go_ret
  exact ⟨rfl, rfl⟩
theorem Len_any (g gw gh : Nat) (m : Ms) (W : World) (hM : MemAt W g gw gh m) :
    Calls Try.prog 57 #[.pointer (some ⟨g, 0, none⟩)] W fun e W' => e = .returned (.int .i64 m.n) ∧ W' = W := by
  have c0 := hM.c0
  have hz := hM.size
  go_enter Try.func57, Try.ntmps57
  go_wp2
  go_ret
  exact ⟨rfl, rfl⟩
theorem Len_nil (W : World) :
    Calls Try.prog 57 #[.pointer none] W fun e W' => e = .returned (.int .i64 0) ∧ W' = W := by
  go_enter Try.func57, Try.ntmps57
  go_wp2
  go_ret
  exact ⟨rfl, rfl⟩
def Ms.by_ (m : Ms) (who : Int) : Ms := { m with who := who }
theorem By_any (g gw gh : Nat) (m : Ms) (who : Int) (W : World) (hM : MemAt W g gw gh m) :
    Calls Try.prog 53 #[.pointer (some ⟨g, 0, none⟩), .int .i64 who] W fun e W' => e = .returned (.tuple #[]) ∧ MemAt W' g gw gh (m.by_ who) ∧ Keep3 g gw gh W W' := by
  have c3 := hM.c3
  have f3 := hM.fr 3
  have hE : MemAt (W.setCell ⟨g, 3, none⟩ (.int .i64 who)) g gw gh (m.by_ who) := by
    obtain ⟨cs, e, h1⟩ := hM.words
    obtain ⟨cs', e', h1'⟩ := hM.whens
    exact ⟨heap_set_self 3 _ hM.obj, ⟨cs, (heap_set_far _ (Ne.symm hM.ne1)).trans e, h1⟩, ⟨cs', (heap_set_far _ (Ne.symm hM.ne2)).trans e', h1'⟩, hM.size, hM.bnd, hM.st0⟩
  have HE : Hid _ := hE
  clear hE hM
  go_enter Try.func53, Try.ntmps53
  go_wp2
  go_end0
  exact ⟨rfl, HE.out, Keep3.refl.setCell (p := ⟨g, 3, none⟩) (.inl rfl) _⟩
theorem By_nil (who : Int) (W : World) :
    Calls Try.prog 53 #[.pointer none, .int .i64 who] W fun e W' => e = .returned (.tuple #[]) ∧ W' = W := by
  go_enter Try.func53, Try.ntmps53
  go_wp2
  go_end0
  exact ⟨rfl, rfl⟩
theorem Last_any (g gw gh : Nat) (m : Ms) (W : World) (hM : MemAt W g gw gh m) :
    Calls Try.prog 55 #[.pointer (some ⟨g, 0, none⟩)] W fun e W' => e = .returned (.agg #[.int .i64 m.la, .int .i64 m.lw, .bool m.lc]) ∧ Below W.heap.size W W' := by
  have c4 := hM.c4
  have c5 := hM.c5
  have c6 := hM.c6
  have hl := hM.lt
  clear hM
  go_enter Try.func55, Try.ntmps55
  go_wp2
  refine bodyPost_ret (v := .agg #[.int .i64 m.la, .int .i64 m.lw, .bool m.lc]) (by simp [results, Try.results55, go_sem]) rfl ⟨rfl, ?_⟩
  exact (below_new _ _)
theorem Last_nil (W : World) :
    Calls Try.prog 55 #[.pointer none] W fun e W' => e = .returned (.agg #[.int .i64 0, .int .i64 0, .bool false]) ∧ Below W.heap.size W W' := by
  go_enter Try.func55, Try.ntmps55
  go_wp2
  refine bodyPost_ret (v := .agg #[.int .i64 0, .int .i64 0, .bool false]) (by simp [results, Try.results55, go_sem]) rfl ⟨rfl, ?_⟩
  exact (below_new _ _)

/-! ### New -/
def Ms.new (n : Nat) : Ms := { n := n, w := fun _ => 0, h := fun _ => 0, steps := 0, who := 0, la := 0, lw := 0, lc := false }
theorem New_no (n : Int) (W : World) (h : n < 1 ∨ 1048576 < n) :
    Calls Try.prog 46 #[.int .i64 n] W fun e W' => e = .returned (.tuple #[.pointer none, .int .i64 1]) ∧ W' = W := by
  rcases h with h | h
  · go_enter Try.func46, Try.ntmps46
    go_wp2
    go_ret2
    exact ⟨rfl, rfl⟩
  · have h0 : 1 ≤ n := by omega
    go_enter Try.func46, Try.ntmps46
    go_wp2
    go_ret2
    exact ⟨rfl, rfl⟩
theorem Try.info24 : (Try.prog.info? 24).map (fun i => (i.zero, i.size, i.bytes)) = some (some (.int .u64 0), 1, 8) := by kernel_rfl
theorem Try.info3' : (Try.prog.info? 3).map (fun i => (i.zero, i.size, i.bytes)) = some (some (.int .i64 0), 1, 8) := by kernel_rfl
theorem made_get (z : Value) (n j : Nat) (hj : j < n) : (madeCells #[z] n)[j]? = some z := by simp [madeCells, hj, Nat.mod_one]
theorem new_at (W : World) (n gw gh : Nat) (o1 o2 : Obj) (h2 : n ≤ 1048576) (hw : ((W.alloc o1).alloc o2).heap[gw]? = some (.cells (madeCells #[.int .u64 0] n) 24 (0, 0))) (hh : ((W.alloc o1).alloc o2).heap[gh]? = some (.cells (madeCells #[.int .i64 0] n) 3 (0, 0))) :
    MemAt (((W.alloc o1).alloc o2).alloc (.cells #[.slice (some ⟨gw, 0, none⟩) n n, .slice (some ⟨gh, 0, none⟩) n n, .int .i64 0, .int .i64 0, .int .i64 0, .int .i64 0, .bool false] 115)) (W.heap.size + 1 + 1) gw gh (.new n) := by
  refine ⟨?_, ⟨_, (Below.heap_alloc _ _ _ (lt_of_heap hw)).trans hw, size_madeCells _ _, fun j hj => made_get _ _ _ hj⟩, ⟨_, (Below.heap_alloc _ _ _ (lt_of_heap hh)).trans hh, size_madeCells _ _, fun j hj => made_get _ _ _ hj⟩, h2, fun j _ => by simp [Ms.new], by simp [Ms.new]⟩
  have e : W.heap.size + 1 + 1 = ((W.alloc o1).alloc o2).heap.size := by simp
  rw [e]; exact heap_alloc_new _ _
set_option maxRecDepth 100000 in
theorem New_yes (n : Nat) (W : World) (h1 : 1 ≤ n) (h2 : n ≤ 1048576) :
    Calls Try.prog 46 #[.int .i64 n] W fun e W' => ∃ g gw gh, e = .returned (.tuple #[.pointer (some ⟨g, 0, none⟩), .int .i64 0]) ∧ MemAt W' g gw gh (.new n) ∧ Below W.heap.size W W' ∧ W.heap.size ≤ g ∧ W.heap.size ≤ gw ∧ W.heap.size ≤ gh := by
  have hm1 := run_make_row' (P := Try.prog) 61 24 (.int .u64 0) 8 Try.underlying61 Try.info24 rfl .i64 .i64 n (by omega) (by omega)
  have hm2 := run_make_row' (P := Try.prog) 30 3 (.int .i64 0) 8 Try.underlying30 Try.info3' rfl .i64 .i64 n (by omega) (by omega)
  have e1 : decide ((n : Int) < 1) = false := by simp; omega
  have e2 : decide (1048576 < (n : Int)) = false := by simp; omega
  go_enter Try.func46, Try.ntmps46
  go_wp2
  go_region
  all_goals go_wp2
  all_goals go_ret2
  · refine ⟨_, _, _, rfl, (new_at W n W.heap.size (W.heap.size + 1) _ _ h2 ?_ ?_).drew, (((below_new _ _).alloc (by simp) _).alloc (by simp; omega) _).drew, by omega, by omega, by omega⟩
    · rw [Below.heap_alloc _ _ _ (by simp)]; exact heap_alloc_new W _
    · rw [show W.heap.size + 1 = (W.alloc (.cells (madeCells #[.int .u64 0] n) 24)).heap.size from by simp]; exact heap_alloc_new _ _
  · refine ⟨_, _, _, rfl, (new_at W n (W.heap.size + 1) W.heap.size _ _ h2 ?_ ?_).drew, (((below_new _ _).alloc (by simp) _).alloc (by simp; omega) _).drew, by omega, by omega, by omega⟩
    · rw [show W.heap.size + 1 = (W.alloc (.cells (madeCells #[.int .i64 0] n) 3)).heap.size from by simp]; exact heap_alloc_new _ _
    · rw [Below.heap_alloc _ _ _ (by simp)]; exact heap_alloc_new W _
end Go.Proofs.Ytnpjfdiapoghnaa
