/- The reference's words: what Slot, Chunk, Head, Cell and their Gets compute. -/
import Derived.Test.YtnpjfdiapoghnaaRef2
import Derived.Deep.RegionHeld3
import Derived.RegionTactic
import Derived.StillTailTactics
namespace Go.Proofs.Ytnpjfdiapoghnaa
open Go Go.RowKit

theorem cell_new (w : World) (cs : Array Value) (e : TypeId) (g j : Nat) (hg : g = w.heap.size) : (w.alloc (.cells cs e)).cell? ⟨g, j, none⟩ = cs[j]? := by
  rw [World.cell?_alloc_at _ _ _ _ hg]
theorem cell_old (w : World) (o : Obj) (g j : Nat) (v : Option Value) (hg : g < w.heap.size) (h : w.cell? ⟨g, j, none⟩ = v) : (w.alloc o).cell? ⟨g, j, none⟩ = v := by
  rw [World.cell?_alloc_past _ _ _ hg]; exact h

/-- Four whole numbers in a new row. -/
theorem row4 (w : World) (e : TypeId) (g : Nat) (l : Nat → Int) (hg : g = w.heap.size) : ∀ j, j < 4 → (w.alloc (.cells #[.int .i64 (l 0), .int .i64 (l 1), .int .i64 (l 2), .int .i64 (l 3)] e)).cell? ⟨g, j, none⟩ = some (.int .i64 (l j)) := by
  intro j hj
  rw [cell_new _ _ _ _ _ hg]
  match j, hj with
  | 0, _ => rfl
  | 1, _ => rfl
  | 2, _ => rfl
  | 3, _ => rfl

def l4 (a b c d : Int) : Nat → Int := fun j => [a, b, c, d].getD j 0
def n4 (a b c d : Nat) : Nat → Nat := fun j => [a, b, c, d].getD j 0

theorem RefSlot_any (a b c d : Int) (w : World) (ha : a ≤ 9223372036854775807) (hb : b ≤ 9223372036854775807) (hc : c ≤ 9223372036854775807) (hd : d ≤ 9223372036854775807) :
    Calls Try.prog 29 #[.agg #[.int .i64 a, .int .i64 b, .int .i64 c, .int .i64 d]] w fun e w' => e = .returned (.int .u64 (putSlot a b c d)) ∧ Below w.heap.size w w' := by
  have HV := Lib.hid (show putTo (l4 a b c d) (n4 3 20 16 22) 4 = putSlot a b c d from by simp [putTo, bitsTo, l4, n4, putSlot])
  go_enter Try.func29, Try.ntmps29
  go_wp2_with fail
  refine (Put_any (w.heap.size + 1) (w.heap.size + 2) 4 (l4 a b c d) (n4 3 20 16 22) _ (by omega) (by decide) ?_ ?_ ?_ ?_).mono ?_
  · intro j hj
    exact cell_old _ _ _ _ _ (by simp) (row4 _ _ _ (l4 a b c d) (by simp) j hj)
  · intro j hj
    exact row4 _ _ _ (fun j => n4 3 20 16 22 j) (by simp) j hj
  · intro j hj
    match j, hj with
    | 0, _ => exact ha
    | 1, _ => exact hb
    | 2, _ => exact hc
    | 3, _ => exact hd
  · decide
  rintro e w' ⟨rfl, hw'⟩; obtain rfl := hw'.symm; clear hw'
  rw [HV.out]
  go_wp2
  go_ret
  exact ⟨rfl, ((below_new _ _).alloc (by simp) _).alloc (by simp; omega) _⟩

set_option maxRecDepth 10000 in
theorem GetSlot_any (x : Int) (w : World) (h0 : 0 ≤ x) (h1 : x < 18446744073709551616) :
    Calls Try.prog 31 #[.int .u64 x] w fun e w' => e = .returned (.agg #[.int .i64 (x % 8), .int .i64 (x / 8 % 1048576), .int .i64 (x / 8388608 % 65536), .int .i64 (x / 549755813888 % 4194304)]) ∧ Below w.heap.size w w' := by
  go_enter Try.func31, Try.ntmps31
  go_wp2_with fail
  refine (Get_row (w.heap.size + 1) 4 x (n4 3 20 16 22) _ (by omega) (by omega) (by simp) (by decide) h0 h1 ?_ ?_).mono ?_
  · intro j hj
    exact row4 _ _ _ (fun j => n4 3 20 16 22 j) (by simp) j hj
  · decide
  rintro e w' ⟨g, cap, rfl, hcell, hb⟩
  have c0 := hcell 0 (by omega)
  have c1 := hcell 1 (by omega)
  have c2 := hcell 2 (by omega)
  have c3 := hcell 3 (by omega)
  clear hcell
  have g0 : getAt x (n4 3 20 16 22) 0 = x % 8 := by simp [getAt, bitsTo, n4]
  have g1 : getAt x (n4 3 20 16 22) 1 = x / 8 % 1048576 := by simp [getAt, bitsTo, n4]
  have g2 : getAt x (n4 3 20 16 22) 2 = x / 8388608 % 65536 := by simp [getAt, bitsTo, n4]
  have g3 : getAt x (n4 3 20 16 22) 3 = x / 549755813888 % 4194304 := by simp [getAt, bitsTo, n4]
  rw [g0] at c0
  rw [g1] at c1
  rw [g2] at c2
  rw [g3] at c3
  clear g0 g1 g2 g3
  go_wp2
  go_still_tail 13, (by kernel_rfl)
  have ob : w'.heap[w.heap.size]? = some (.cells #[.int .i64 0, .int .i64 0, .int .i64 0, .int .i64 0] 33 (0, 0)) := by
    rw [hb.block _ (by simp; omega), Below.heap_alloc _ _ _ (by simp)]; exact heap_alloc_new w _
  have o0 : w'.cell? ⟨w.heap.size, 0, none⟩ = some (.int .i64 0) := cell_of_row w' w.heap.size 0 _ _ _ ob
  have o1 : w'.cell? ⟨w.heap.size, 1, none⟩ = some (.int .i64 0) := cell_of_row w' w.heap.size 1 _ _ _ ob
  have o2 : w'.cell? ⟨w.heap.size, 2, none⟩ = some (.int .i64 0) := cell_of_row w' w.heap.size 2 _ _ _ ob
  have o3 : w'.cell? ⟨w.heap.size, 3, none⟩ = some (.int .i64 0) := cell_of_row w' w.heap.size 3 _ _ _ ob
  have of : ∀ j, w'.frozen? ⟨w.heap.size, j, none⟩ = false := fun j => by simp [World.frozen?, ob]
  have f0 := of 0
  have f1 := of 1
  have f2 := of 2
  have f3 := of 3
  clear ob of
  change wpList _ _ _ _ _ w'.drew
  go_wp2
  refine bodyPost_ret (v := .agg #[.int .i64 (x % 8), .int .i64 (x / 8 % 1048576), .int .i64 (x / 8388608 % 65536), .int .i64 (x / 549755813888 % 4194304)]) (by simp [results, Try.results31, go_sem, o0, o1, o2, o3]) rfl ⟨rfl, ?_⟩
  have hb0 : Below w.heap.size w w' := ((below_new _ _).alloc (by simp) _).trans (hb.mono (by simp; omega))
  exact ((((hb0.drew).setCell (by simp) _).setCell (by simp) _).setCell (by simp) _).setCell (by simp) _
end Go.Proofs.Ytnpjfdiapoghnaa
