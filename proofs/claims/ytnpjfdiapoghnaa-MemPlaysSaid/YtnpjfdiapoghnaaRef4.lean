/- The reference's words: chunks, heads and cells. -/
import Derived.Test.YtnpjfdiapoghnaaRef3
namespace Go.Proofs.Ytnpjfdiapoghnaa
open Go Go.RowKit

/-! ### chunks -/
theorem RefChunk_any (a b c d : Int) (w : World) (ha : a ≤ 9223372036854775807) (hb : b ≤ 9223372036854775807) (hc : c ≤ 9223372036854775807) (hd : d ≤ 9223372036854775807) :
    Calls Try.prog 35 #[.agg #[.int .i64 a, .int .i64 b, .int .i64 c, .int .i64 d]] w fun e w' => e = .returned (.int .u64 (putChunk a b c d)) ∧ Below w.heap.size w w' := by
  have HV := Lib.hid (show putTo (l4 a b c d) (n4 2 6 20 36) 4 = putChunk a b c d from by simp [putTo, bitsTo, l4, n4, putChunk])
  go_enter Try.func35, Try.ntmps35
  go_wp2_with fail
  refine (Put_any (w.heap.size + 1) (w.heap.size + 2) 4 (l4 a b c d) (n4 2 6 20 36) _ (by omega) (by decide) ?_ ?_ ?_ ?_).mono ?_
  · intro j hj
    exact cell_old _ _ _ _ _ (by simp) (row4 _ _ _ (l4 a b c d) (by simp) j hj)
  · intro j hj
    exact row4 _ _ _ (fun j => n4 2 6 20 36 j) (by simp) j hj
  · intro j hj
    match j, hj with
    | 0, _ => exact ha
    | 1, _ => exact hb
    | 2, _ => exact hc
    | 3, _ => exact hd
  · decide
  rintro e w' ⟨rfl, hw'⟩; obtain rfl := hw'.symm; clear hw'
  rw [HV.out]
  go_wp2
  go_ret
  exact ⟨rfl, ((below_new _ _).alloc (by simp) _).alloc (by simp; omega) _⟩

set_option maxRecDepth 10000 in
theorem GetChunk_any (x : Int) (w : World) (h0 : 0 ≤ x) (h1 : x < 18446744073709551616) :
    Calls Try.prog 37 #[.int .u64 x] w fun e w' => e = .returned (.agg #[.int .i64 (x % 4), .int .i64 (x / 4 % 64), .int .i64 (x / 256 % 1048576), .int .i64 (x / 268435456 % 68719476736)]) ∧ Below w.heap.size w w' := by
  go_enter Try.func37, Try.ntmps37
  go_wp2_with fail
  refine (Get_row (w.heap.size + 1) 4 x (n4 2 6 20 36) _ (by omega) (by omega) (by simp) (by decide) h0 h1 ?_ ?_).mono ?_
  · intro j hj
    exact row4 _ _ _ (fun j => n4 2 6 20 36 j) (by simp) j hj
  · decide
  rintro e w' ⟨g, cap, rfl, hcell, hb⟩
  have c0 := hcell 0 (by omega)
  have c1 := hcell 1 (by omega)
  have c2 := hcell 2 (by omega)
  have c3 := hcell 3 (by omega)
  clear hcell
  have g0 : getAt x (n4 2 6 20 36) 0 = x % 4 := by simp [getAt, bitsTo, n4]
  have g1 : getAt x (n4 2 6 20 36) 1 = x / 4 % 64 := by simp [getAt, bitsTo, n4]
  have g2 : getAt x (n4 2 6 20 36) 2 = x / 256 % 1048576 := by simp [getAt, bitsTo, n4]
  have g3 : getAt x (n4 2 6 20 36) 3 = x / 268435456 % 68719476736 := by simp [getAt, bitsTo, n4]
  rw [g0] at c0
  rw [g1] at c1
  rw [g2] at c2
  rw [g3] at c3
  clear g0 g1 g2 g3
  go_wp2
  go_still_tail 13, (by kernel_rfl)
  have ob : w'.heap[w.heap.size]? = some (.cells #[.int .i64 0, .int .i64 0, .int .i64 0, .int .i64 0] 44 (0, 0)) := by
    rw [hb.block _ (by simp; omega), Below.heap_alloc _ _ _ (by simp)]; exact heap_alloc_new w _
  have o0 : w'.cell? ⟨w.heap.size, 0, none⟩ = some (.int .i64 0) := cell_of_row w' w.heap.size 0 _ _ _ ob
  have o1 : w'.cell? ⟨w.heap.size, 1, none⟩ = some (.int .i64 0) := cell_of_row w' w.heap.size 1 _ _ _ ob
  have o2 : w'.cell? ⟨w.heap.size, 2, none⟩ = some (.int .i64 0) := cell_of_row w' w.heap.size 2 _ _ _ ob
  have o3 : w'.cell? ⟨w.heap.size, 3, none⟩ = some (.int .i64 0) := cell_of_row w' w.heap.size 3 _ _ _ ob
  have of : ∀ j, w'.frozen? ⟨w.heap.size, j, none⟩ = false := fun j => by simp [World.frozen?, ob]
  have f0 := of 0
  have f1 := of 1
  have f2 := of 2
  have f3 := of 3
  clear ob of
  change wpList _ _ _ _ _ w'.drew
  go_wp2
  refine bodyPost_ret (v := .agg #[.int .i64 (x % 4), .int .i64 (x / 4 % 64), .int .i64 (x / 256 % 1048576), .int .i64 (x / 268435456 % 68719476736)]) (by simp [results, Try.results37, go_sem, o0, o1, o2, o3]) rfl ⟨rfl, ?_⟩
  have hb0 : Below w.heap.size w w' := ((below_new _ _).alloc (by simp) _).trans (hb.mono (by simp; omega))
  exact ((((hb0.drew).setCell (by simp) _).setCell (by simp) _).setCell (by simp) _).setCell (by simp) _

/-! ### heads -/
theorem row5 (w : World) (e : TypeId) (g : Nat) (l : Nat → Int) (hg : g = w.heap.size) : ∀ j, j < 5 → (w.alloc (.cells #[.int .i64 (l 0), .int .i64 (l 1), .int .i64 (l 2), .int .i64 (l 3), .int .i64 (l 4)] e)).cell? ⟨g, j, none⟩ = some (.int .i64 (l j)) := by
  intro j hj
  rw [cell_new _ _ _ _ _ hg]
  match j, hj with
  | 0, _ => rfl
  | 1, _ => rfl
  | 2, _ => rfl
  | 3, _ => rfl
  | 4, _ => rfl
def l5 (a b c d e : Int) : Nat → Int := fun j => [a, b, c, d, e].getD j 0
def n5 (a b c d e : Nat) : Nat → Nat := fun j => [a, b, c, d, e].getD j 0

theorem RefHead_any (a b c d : Int) (own : Bool) (w : World) (ha : a ≤ 9223372036854775807) (hb : b ≤ 9223372036854775807) (hc : c ≤ 9223372036854775807) (hd : d ≤ 9223372036854775807) :
    Calls Try.prog 39 #[.agg #[.int .i64 a, .int .i64 b, .int .i64 c, .int .i64 d, .bool own]] w fun e w' => e = .returned (.int .u64 (putHead a b c d own)) ∧ Below w.heap.size w w' := by
  cases own
  · have HV := Lib.hid (show putTo (l5 a b c d 0) (n5 2 16 16 16 1) 5 = putHead a b c d false from by simp [putTo, bitsTo, l5, n5, putHead, bit, fitI])
    go_enter Try.func39, Try.ntmps39
    go_wp2_with fail
    refine (Put_any (w.heap.size + 1) (w.heap.size + 2) 5 (l5 a b c d 0) (n5 2 16 16 16 1) _ (by omega) (by decide) ?_ ?_ ?_ ?_).mono ?_
    · intro j hj
      exact cell_old _ _ _ _ _ (by simp) (row5 _ _ _ (l5 a b c d 0) (by simp) j hj)
    · intro j hj
      exact row5 _ _ _ (fun j => n5 2 16 16 16 1 j) (by simp) j hj
    · intro j hj
      match j, hj with
      | 0, _ => exact ha
      | 1, _ => exact hb
      | 2, _ => exact hc
      | 3, _ => exact hd
      | 4, _ => exact (by decide : (0 : Int) ≤ 9223372036854775807)
    · decide
    rintro e w' ⟨rfl, hw'⟩; obtain rfl := hw'.symm; clear hw'
    rw [HV.out]
    go_wp2
    go_ret
    exact ⟨rfl, ((below_new _ _).alloc (by simp) _).alloc (by simp; omega) _⟩
  · have HV := Lib.hid (show putTo (l5 a b c d 1) (n5 2 16 16 16 1) 5 = putHead a b c d true from by simp [putTo, bitsTo, l5, n5, putHead, bit, fitI])
    go_enter Try.func39, Try.ntmps39
    go_wp2_with fail
    refine (Put_any (w.heap.size + 1) (w.heap.size + 2) 5 (l5 a b c d 1) (n5 2 16 16 16 1) _ (by omega) (by decide) ?_ ?_ ?_ ?_).mono ?_
    · intro j hj
      exact cell_old _ _ _ _ _ (by simp) (row5 _ _ _ (l5 a b c d 1) (by simp) j hj)
    · intro j hj
      exact row5 _ _ _ (fun j => n5 2 16 16 16 1 j) (by simp) j hj
    · intro j hj
      match j, hj with
      | 0, _ => exact ha
      | 1, _ => exact hb
      | 2, _ => exact hc
      | 3, _ => exact hd
      | 4, _ => exact (by decide : (1 : Int) ≤ 9223372036854775807)
    · decide
    rintro e w' ⟨rfl, hw'⟩; obtain rfl := hw'.symm; clear hw'
    rw [HV.out]
    go_wp2
    go_ret
    exact ⟨rfl, ((below_new _ _).alloc (by simp) _).alloc (by simp; omega) _⟩

set_option maxHeartbeats 1000000 in
set_option maxRecDepth 10000 in
theorem GetHead_any (x : Int) (w : World) (h0 : 0 ≤ x) (h1 : x < 18446744073709551616) :
    Calls Try.prog 38 #[.int .u64 x] w fun e w' => e = .returned (.agg #[.int .i64 (x % 4), .int .i64 (x / 4 % 65536), .int .i64 (x / 262144 % 65536), .int .i64 (x / 17179869184 % 65536), .bool (x / 1125899906842624 % 2 == 1)]) ∧ Below w.heap.size w w' := by
  go_enter Try.func38, Try.ntmps38
  go_wp2_with fail
  refine (Get_row (w.heap.size + 1) 5 x (n5 2 16 16 16 1) _ (by omega) (by omega) (by simp) (by decide) h0 h1 ?_ ?_).mono ?_
  · intro j hj
    exact row5 _ _ _ (fun j => n5 2 16 16 16 1 j) (by simp) j hj
  · decide
  rintro e w' ⟨g, cap, rfl, hcell, hb⟩
  have c0 := hcell 0 (by omega)
  have c1 := hcell 1 (by omega)
  have c2 := hcell 2 (by omega)
  have c3 := hcell 3 (by omega)
  have c4 := hcell 4 (by omega)
  clear hcell
  have g0 : getAt x (n5 2 16 16 16 1) 0 = x % 4 := by simp [getAt, bitsTo, n5]
  have g1 : getAt x (n5 2 16 16 16 1) 1 = x / 4 % 65536 := by simp [getAt, bitsTo, n5]
  have g2 : getAt x (n5 2 16 16 16 1) 2 = x / 262144 % 65536 := by simp [getAt, bitsTo, n5]
  have g3 : getAt x (n5 2 16 16 16 1) 3 = x / 17179869184 % 65536 := by simp [getAt, bitsTo, n5]
  have g4 : getAt x (n5 2 16 16 16 1) 4 = x / 1125899906842624 % 2 := by simp [getAt, bitsTo, n5]
  rw [g0] at c0
  rw [g1] at c1
  rw [g2] at c2
  rw [g3] at c3
  rw [g4] at c4
  clear g0 g1 g2 g3 g4
  go_wp2
  go_still_tail 17, (by kernel_rfl)
  have ob : w'.heap[w.heap.size]? = some (.cells #[.int .i64 0, .int .i64 0, .int .i64 0, .int .i64 0, .bool false] 50 (0, 0)) := by
    rw [hb.block _ (by simp; omega), Below.heap_alloc _ _ _ (by simp)]; exact heap_alloc_new w _
  have o0 : w'.cell? ⟨w.heap.size, 0, none⟩ = some (.int .i64 0) := cell_of_row w' w.heap.size 0 _ _ _ ob
  have o1 : w'.cell? ⟨w.heap.size, 1, none⟩ = some (.int .i64 0) := cell_of_row w' w.heap.size 1 _ _ _ ob
  have o2 : w'.cell? ⟨w.heap.size, 2, none⟩ = some (.int .i64 0) := cell_of_row w' w.heap.size 2 _ _ _ ob
  have o3 : w'.cell? ⟨w.heap.size, 3, none⟩ = some (.int .i64 0) := cell_of_row w' w.heap.size 3 _ _ _ ob
  have o4 : w'.cell? ⟨w.heap.size, 4, none⟩ = some (.bool false) := cell_of_row w' w.heap.size 4 _ _ _ ob
  have of : ∀ j, w'.frozen? ⟨w.heap.size, j, none⟩ = false := fun j => by simp [World.frozen?, ob]
  have f0 := of 0
  have f1 := of 1
  have f2 := of 2
  have f3 := of 3
  have f4 := of 4
  clear ob of
  change wpList _ _ _ _ _ w'.drew
  go_wp2
  refine bodyPost_ret (v := .agg #[.int .i64 (x % 4), .int .i64 (x / 4 % 65536), .int .i64 (x / 262144 % 65536), .int .i64 (x / 17179869184 % 65536), .bool (x / 1125899906842624 % 2 == 1)]) (by simp [results, Try.results38, go_sem, o0, o1, o2, o3, o4]) rfl ⟨rfl, ?_⟩
  have hb0 : Below w.heap.size w w' := ((below_new _ _).alloc (by simp) _).trans (hb.mono (by simp; omega))
  exact (((((hb0.drew).setCell (by simp) _).setCell (by simp) _).setCell (by simp) _).setCell (by simp) _).setCell (by simp) _

/-! ### cells -/
theorem row1 (w : World) (e : TypeId) (g : Nat) (l : Nat → Int) (hg : g = w.heap.size) : ∀ j, j < 1 → (w.alloc (.cells #[.int .i64 (l 0)] e)).cell? ⟨g, j, none⟩ = some (.int .i64 (l j)) := by
  intro j hj
  rw [cell_new _ _ _ _ _ hg]
  match j, hj with
  | 0, _ => rfl
theorem RefCell_any (v : Int) (frozen : Bool) (ver : Int) (w : World) (ha : v ≤ 9223372036854775807) (hb : ver ≤ 9223372036854775807) :
    Calls Try.prog 44 #[.agg #[.int .i64 v, .bool frozen, .int .i64 ver]] w fun e w' => e = .returned (.int .u64 (putCell v frozen ver)) ∧ Below w.heap.size w w' := by
  cases frozen
  · have HV := Lib.hid (show putTo (fun _ => v) (fun _ => 40) 1 = putCell v false ver from by simp [putTo, bitsTo, putCell, bit])
    go_enter Try.func44, Try.ntmps44
    go_wp2_with fail
    refine (Put_any (w.heap.size + 1) (w.heap.size + 2) 1 (fun _ => v) (fun _ => 40) _ (by omega) (by decide) ?_ ?_ ?_ ?_).mono ?_
    · intro j hj
      exact cell_old _ _ _ _ _ (by simp) (row1 _ _ _ (fun _ => v) (by simp) j hj)
    · intro j hj
      exact row1 _ _ _ (fun _ => ((40 : Nat) : Int)) (by simp) j hj
    · intro j hj
      exact ha
    · decide
    rintro e w' ⟨rfl, hw'⟩; obtain rfl := hw'.symm; clear hw'
    rw [HV.out]
    go_wp2
    go_ret
    exact ⟨rfl, ((below_new _ _).alloc (by simp) _).alloc (by simp; omega) _⟩
  · have HV := Lib.hid (show putTo (l4 v ver 0 1) (n4 40 22 1 1) 4 = putCell v true ver from by simp [putTo, bitsTo, l4, n4, putCell, bit, show fitI 0 1 = 0 from rfl, show fitI 1 1 = 1 from rfl]; omega)
    go_enter Try.func44, Try.ntmps44
    go_wp2_with fail
    refine (Put_any (w.heap.size + 1) (w.heap.size + 2) 4 (l4 v ver 0 1) (n4 40 22 1 1) _ (by omega) (by decide) ?_ ?_ ?_ ?_).mono ?_
    · intro j hj
      exact cell_old _ _ _ _ _ (by simp) (row4 _ _ _ (l4 v ver 0 1) (by simp) j hj)
    · intro j hj
      exact row4 _ _ _ (fun j => n4 40 22 1 1 j) (by simp) j hj
    · intro j hj
      match j, hj with
      | 0, _ => exact ha
      | 1, _ => exact hb
      | 2, _ => exact (by decide : (0 : Int) ≤ 9223372036854775807)
      | 3, _ => exact (by decide : (1 : Int) ≤ 9223372036854775807)
    · decide
    rintro e w' ⟨rfl, hw'⟩; obtain rfl := hw'.symm; clear hw'
    rw [HV.out]
    go_wp2
    go_ret
    exact ⟨rfl, ((below_new _ _).alloc (by simp) _).alloc (by simp; omega) _⟩

set_option maxRecDepth 10000 in
theorem GetCell_no (x : Int) (w : World) (h0 : 0 ≤ x) (h1 : x < 18446744073709551616) (h : x < 9223372036854775808) :
    Calls Try.prog 45 #[.int .u64 x] w fun e w' => e = .returned (.agg #[.int .i64 (x % 1099511627776), .bool false, .int .i64 0]) ∧ Below w.heap.size w w' := by
  go_enter Try.func45, Try.ntmps45
  go_wp2_with fail
  refine (Get_row (w.heap.size + 1) 4 x (n4 40 22 1 1) _ (by omega) (by omega) (by simp) (by decide) h0 h1 ?_ ?_).mono ?_
  · intro j hj
    exact row4 _ _ _ (fun j => n4 40 22 1 1 j) (by simp) j hj
  · decide
  rintro e w' ⟨g, cap, rfl, hcell, hb⟩
  have c0 := hcell 0 (by omega)
  have c1 := hcell 1 (by omega)
  have c3 := hcell 3 (by omega)
  clear hcell
  have g0 : getAt x (n4 40 22 1 1) 0 = x % 1099511627776 := by simp [getAt, bitsTo, n4]
  have g1 : getAt x (n4 40 22 1 1) 1 = x / 1099511627776 % 4194304 := by simp [getAt, bitsTo, n4]
  have g3 : getAt x (n4 40 22 1 1) 3 = 0 := by simp [getAt, bitsTo, n4]; omega
  rw [g0] at c0
  rw [g1] at c1
  rw [g3] at c3
  clear g0 g1 g3
  have ob : w'.heap[w.heap.size]? = some (.cells #[.int .i64 0, .bool false, .int .i64 0] 57 (0, 0)) := by
    rw [hb.block _ (by simp; omega), Below.heap_alloc _ _ _ (by simp)]; exact heap_alloc_new w _
  have o0 : w'.cell? ⟨w.heap.size, 0, none⟩ = some (.int .i64 0) := cell_of_row w' w.heap.size 0 _ _ _ ob
  have o1 : w'.cell? ⟨w.heap.size, 1, none⟩ = some (.bool false) := cell_of_row w' w.heap.size 1 _ _ _ ob
  have o2 : w'.cell? ⟨w.heap.size, 2, none⟩ = some (.int .i64 0) := cell_of_row w' w.heap.size 2 _ _ _ ob
  have of : ∀ j, w'.frozen? ⟨w.heap.size, j, none⟩ = false := fun j => by simp [World.frozen?, ob]
  have f0 := of 0
  have f1 := of 1
  have f2 := of 2
  clear ob of
  have hb0 : Below w.heap.size w w' := ((below_new _ _).alloc (by simp) _).trans (hb.mono (by simp; omega))
  go_wp2
  refine bodyPost_ret (v := .agg #[.int .i64 (x % 1099511627776), .bool false, .int .i64 0]) (by simp [results, Try.results45, go_sem, o0, o1, o2]) rfl ⟨rfl, ?_⟩
  exact (((hb0).setCell (by simp) _).setCell (by simp) _).setCell (by simp) _
set_option maxRecDepth 10000 in
theorem GetCell_yes (x : Int) (w : World) (h0 : 0 ≤ x) (h1 : x < 18446744073709551616) (h : 9223372036854775808 ≤ x) :
    Calls Try.prog 45 #[.int .u64 x] w fun e w' => e = .returned (.agg #[.int .i64 (x % 1099511627776), .bool true, .int .i64 (x / 1099511627776 % 4194304)]) ∧ Below w.heap.size w w' := by
  go_enter Try.func45, Try.ntmps45
  go_wp2_with fail
  refine (Get_row (w.heap.size + 1) 4 x (n4 40 22 1 1) _ (by omega) (by omega) (by simp) (by decide) h0 h1 ?_ ?_).mono ?_
  · intro j hj
    exact row4 _ _ _ (fun j => n4 40 22 1 1 j) (by simp) j hj
  · decide
  rintro e w' ⟨g, cap, rfl, hcell, hb⟩
  have c0 := hcell 0 (by omega)
  have c1 := hcell 1 (by omega)
  have c3 := hcell 3 (by omega)
  clear hcell
  have g0 : getAt x (n4 40 22 1 1) 0 = x % 1099511627776 := by simp [getAt, bitsTo, n4]
  have g1 : getAt x (n4 40 22 1 1) 1 = x / 1099511627776 % 4194304 := by simp [getAt, bitsTo, n4]
  have g3 : getAt x (n4 40 22 1 1) 3 = 1 := by simp [getAt, bitsTo, n4]; omega
  rw [g0] at c0
  rw [g1] at c1
  rw [g3] at c3
  clear g0 g1 g3
  have ob : w'.heap[w.heap.size]? = some (.cells #[.int .i64 0, .bool false, .int .i64 0] 57 (0, 0)) := by
    rw [hb.block _ (by simp; omega), Below.heap_alloc _ _ _ (by simp)]; exact heap_alloc_new w _
  have o0 : w'.cell? ⟨w.heap.size, 0, none⟩ = some (.int .i64 0) := cell_of_row w' w.heap.size 0 _ _ _ ob
  have o1 : w'.cell? ⟨w.heap.size, 1, none⟩ = some (.bool false) := cell_of_row w' w.heap.size 1 _ _ _ ob
  have o2 : w'.cell? ⟨w.heap.size, 2, none⟩ = some (.int .i64 0) := cell_of_row w' w.heap.size 2 _ _ _ ob
  have of : ∀ j, w'.frozen? ⟨w.heap.size, j, none⟩ = false := fun j => by simp [World.frozen?, ob]
  have f0 := of 0
  have f1 := of 1
  have f2 := of 2
  clear ob of
  have hb0 : Below w.heap.size w w' := ((below_new _ _).alloc (by simp) _).trans (hb.mono (by simp; omega))
  go_wp2
  go_still_tail 7, (by kernel_rfl)
  change wpList _ _ _ _ _ w'.drew
  go_wp2
  refine bodyPost_ret (v := .agg #[.int .i64 (x % 1099511627776), .bool true, .int .i64 (x / 1099511627776 % 4194304)]) (by simp [results, Try.results45, go_sem, o0, o1, o2]) rfl ⟨rfl, ?_⟩
  exact (((hb0.drew).setCell (by simp) _).setCell (by simp) _).setCell (by simp) _
theorem GetCell_any (x : Int) (w : World) (h0 : 0 ≤ x) (h1 : x < 18446744073709551616) :
    Calls Try.prog 45 #[.int .u64 x] w fun e w' => e = .returned (.agg #[.int .i64 (x % 1099511627776), .bool (x / 9223372036854775808 == 1), .int .i64 (if x / 9223372036854775808 = 1 then x / 1099511627776 % 4194304 else 0)]) ∧ Below w.heap.size w w' := by
  by_cases h : x < 9223372036854775808
  · rw [show x / 9223372036854775808 = 0 from by omega]
    exact GetCell_no x w h0 h1 h
  · rw [show x / 9223372036854775808 = 1 from by omega]
    exact GetCell_yes x w h0 h1 (by omega)
end Go.Proofs.Ytnpjfdiapoghnaa
