/- Layer 13, epoch: what the compactor's steps to let a chunk settle do, in the arena of one statement, by walks. -/
import Derived.Test.YtnpjfdiapoghnaaPin
import Derived.Test.YtnpjfdiapoghnaaLaw1c
import Derived.Test.YtnpjfdiapoghnaaLaw13b
import Derived.Deep.RegionHeld3
namespace Go.Proofs.Ytnpjfdiapoghnaa
open Go Go.RowKit

/-- One that lets the first chunk settle, in block p. -/
def SetAt (W : World) (p : Nat) (pc wv since at_ : Int) (freed : Bool) : Prop := W.heap[p]? = some (.cells #[.int .i64 0, .int .i64 pc, .int .u64 wv, .int .u64 since, .int .i64 at_, .bool freed] 122 (0, 0))
theorem LC0 (w : World) : Calls Try.prog 69 #[.agg #[.int .i64 4, .int .i64 1, .int .i64 2, .int .i64 30, .int .i64 100, .int .i64 600, .int .i64 3], .int .i64 0] w fun e w' => e = .returned (.int .i64 12) ∧ Below w.heap.size w w' :=
  LChunk_any 4 1 2 30 100 600 3 0 w (by omega) (by omega) (by omega)
theorem LB0 (w : World) : Calls Try.prog 85 #[.agg #[.int .i64 4, .int .i64 1, .int .i64 2, .int .i64 30, .int .i64 100, .int .i64 600, .int .i64 3], .int .i64 0] w fun e w' => e = .returned (.int .i64 18) ∧ Below w.heap.size w w' :=
  LBase_any 4 1 2 30 100 600 3 0 0 w (by omega) (by omega) (by omega) (by omega) (by omega)
theorem fieldChunk0 (w : World) (a b c d : Int) : (Instr.field 44 (.agg #[.int .i64 a, .int .i64 b, .int .i64 c, .int .i64 d]) 0).run Try.prog w = .ok (.int .i64 a) w := by kernel_rfl
attribute [local go_sem high] fieldChunk0
section
variable {W1 W : World} {p g gw gh : Nat} {m : Ms} {pc wv since at_ : Int} {fr : Bool}
theorem set_cell (hM : MemAt W1 g gw gh m) (hB : KeepL [p, g, gw, gh] W W1) (np : p ≠ g ∧ p ≠ gw ∧ p ≠ gh) (i : Nat) (v : Value) : MemAt (W1.setCell ⟨p, i, none⟩ v) g gw gh m ∧ KeepL [p, g, gw, gh] W (W1.setCell ⟨p, i, none⟩ v) :=
  ⟨hM.far (p := ⟨p, i, none⟩) _ (Ne.symm np.1) (Ne.symm np.2.1) (Ne.symm np.2.2), hB.setCell (p := ⟨p, i, none⟩) (by simp) _⟩
theorem set_pc (hI : W1.heap[p]? = some (.cells #[.int .i64 0, .int .i64 pc, .int .u64 wv, .int .u64 since, .int .i64 at_, .bool fr] 122 (0, 0))) (x : Int) : SetAt (W1.setCell ⟨p, 1, none⟩ (.int .i64 x)) p x wv since at_ fr := heap_set_self 1 _ hI
theorem set_w (hI : W1.heap[p]? = some (.cells #[.int .i64 0, .int .i64 pc, .int .u64 wv, .int .u64 since, .int .i64 at_, .bool fr] 122 (0, 0))) (x : Int) : SetAt (W1.setCell ⟨p, 2, none⟩ (.int .u64 x)) p pc x since at_ fr := heap_set_self 2 _ hI
theorem set_since (hI : W1.heap[p]? = some (.cells #[.int .i64 0, .int .i64 pc, .int .u64 wv, .int .u64 since, .int .i64 at_, .bool fr] 122 (0, 0))) (x : Int) : SetAt (W1.setCell ⟨p, 3, none⟩ (.int .u64 x)) p pc wv x at_ fr := heap_set_self 3 _ hI
theorem set_at (hI : W1.heap[p]? = some (.cells #[.int .i64 0, .int .i64 pc, .int .u64 wv, .int .u64 since, .int .i64 at_, .bool fr] 122 (0, 0))) (x : Int) : SetAt (W1.setCell ⟨p, 4, none⟩ (.int .i64 x)) p pc wv since x fr := heap_set_self 4 _ hI
theorem set_fr (hI : W1.heap[p]? = some (.cells #[.int .i64 0, .int .i64 pc, .int .u64 wv, .int .u64 since, .int .i64 at_, .bool fr] 122 (0, 0))) (x : Bool) : SetAt (W1.setCell ⟨p, 5, none⟩ (.bool x)) p pc wv since at_ x := heap_set_self 5 _ hI
end
set_option maxHeartbeats 2000000 in
set_option maxRecDepth 100000 in
theorem SetStep0 (who : Int) (g gw gh p : Nat) (m : Ms) (wv since at_ y0 y1 y2 y3 : Int) (W : World) (hM : MemAt W g gw gh m) (u : Int) (hu : 0 ≤ u ∧ u ≤ 1000) (hw : m.w 12 = 3 + 256 * u) (hI : SetAt W p 0 wv since at_ false) (np : p ≠ g ∧ p ≠ gw ∧ p ≠ gh) (hz : Hid (0 ≤ wv ∧ wv < 18446744073709551616 ∧ y0 = wv % 4 ∧ y1 = wv / 4 % 64 ∧ y2 = wv / 256 % 1048576 ∧ y3 = wv / 268435456 % 68719476736)) (h1 : 12 < m.n) (hs : m.steps < 4611686018427387904) :
    Calls Try.prog 71 #[.pointer (some ⟨p, 0, none⟩), .agg #[.int .i64 4, .int .i64 1, .int .i64 2, .int .i64 30, .int .i64 100, .int .i64 600, .int .i64 3, .pointer (some ⟨g, 0, none⟩), .int .i64 who]] W fun e W' => e = .returned (.bool false) ∧ MemAt W' g gw gh (m.ld who 12) ∧ SetAt W' p 1 (m.w 12) (since) (at_) false ∧ KeepL [p, g, gw, gh] W W' := by
  have HX : (W.alloc (.cells #[.int .i64 4, .int .i64 1, .int .i64 2, .int .i64 30, .int .i64 100, .int .i64 600, .int .i64 3, .pointer (some ⟨g, 0, none⟩), .int .i64 who] 87)).heap[W.heap.size]? = some (.cells #[.int .i64 4, .int .i64 1, .int .i64 2, .int .i64 30, .int .i64 100, .int .i64 600, .int .i64 3, .pointer (some ⟨g, 0, none⟩), .int .i64 who] 87 (0, 0)) := heap_alloc_new W _
  have hM0 := hM.below (below_new W (.cells #[.int .i64 4, .int .i64 1, .int .i64 2, .int .i64 30, .int .i64 100, .int .i64 600, .int .i64 3, .pointer (some ⟨g, 0, none⟩), .int .i64 who] 87))
  have hI0 : (W.alloc (.cells #[.int .i64 4, .int .i64 1, .int .i64 2, .int .i64 30, .int .i64 100, .int .i64 600, .int .i64 3, .pointer (some ⟨g, 0, none⟩), .int .i64 who] 87)).heap[p]? = _ := (Below.heap_alloc W _ p (lt_of_heap hI)).trans hI
  have hB0 : KeepL [p, g, gw, gh] W (W.alloc (.cells #[.int .i64 4, .int .i64 1, .int .i64 2, .int .i64 30, .int .i64 100, .int .i64 600, .int .i64 3, .pointer (some ⟨g, 0, none⟩), .int .i64 who] 87)) := KeepL.of_below (below_new _ _)
  have n0 : W.heap.size ≠ p := by have := lt_of_heap hI; omega
  have n1 : W.heap.size ≠ g := by have := hM.lt; omega
  have n2 : W.heap.size ≠ gw := by have := hM.ltw; omega
  have n3 : W.heap.size ≠ gh := by have := hM.lth; omega
  have hp := lt_of_heap hI
  go_enter Try.func71, Try.ntmps71
  go_wp2
  generalize hW0 : W.alloc (.cells #[.int .i64 4, .int .i64 1, .int .i64 2, .int .i64 30, .int .i64 100, .int .i64 600, .int .i64 3, .pointer (some ⟨g, 0, none⟩), .int .i64 who] 87) = W0 at HX hM0 hI0 hB0 ⊢
  clear hW0 hM hI
  replace hM0 := hM0.drew
  replace HX : W0.drew.heap[W.heap.size]? = _ := HX
  replace hI0 : W0.drew.heap[p]? = _ := hI0
  replace hB0 := hB0.drew
  (first | (go_region_held3 (fun w' => w'.cell? ⟨W.heap.size, 0, none⟩ = some (.int .i64 4) ∧ w'.cell? ⟨W.heap.size, 1, none⟩ = some (.int .i64 1) ∧ w'.cell? ⟨W.heap.size, 2, none⟩ = some (.int .i64 2) ∧ w'.cell? ⟨W.heap.size, 3, none⟩ = some (.int .i64 30) ∧ w'.cell? ⟨W.heap.size, 4, none⟩ = some (.int .i64 100) ∧ w'.cell? ⟨W.heap.size, 5, none⟩ = some (.int .i64 600) ∧ w'.cell? ⟨W.heap.size, 6, none⟩ = some (.int .i64 3) ∧ w'.cell? ⟨W.heap.size, 7, none⟩ = some (.pointer (some ⟨g, 0, none⟩)) ∧ w'.cell? ⟨W.heap.size, 8, none⟩ = some (.int .i64 who) ∧ w'.cell? ⟨p, 0, none⟩ = some (.int .i64 0) ∧ w'.cell? ⟨p, 1, none⟩ = some (.int .i64 0) ∧ w'.cell? ⟨p, 2, none⟩ = some (.int .u64 wv) ∧ w'.cell? ⟨p, 3, none⟩ = some (.int .u64 since) ∧ w'.cell? ⟨p, 4, none⟩ = some (.int .i64 at_) ∧ w'.cell? ⟨p, 5, none⟩ = some (.bool false))
    (exact ⟨cell_of_row _ W.heap.size 0 _ _ _ HX, cell_of_row _ W.heap.size 1 _ _ _ HX, cell_of_row _ W.heap.size 2 _ _ _ HX, cell_of_row _ W.heap.size 3 _ _ _ HX, cell_of_row _ W.heap.size 4 _ _ _ HX, cell_of_row _ W.heap.size 5 _ _ _ HX, cell_of_row _ W.heap.size 6 _ _ _ HX, cell_of_row _ W.heap.size 7 _ _ _ HX, cell_of_row _ W.heap.size 8 _ _ _ HX, cell_of_row _ p 0 _ _ _ hI0, cell_of_row _ p 1 _ _ _ hI0, cell_of_row _ p 2 _ _ _ hI0, cell_of_row _ p 3 _ _ _ hI0, cell_of_row _ p 4 _ _ _ hI0, cell_of_row _ p 5 _ _ _ hI0⟩)
    (first
      | (go_at_call 69; refine (LC0 _).mono ?_; rintro e w5 ⟨rfl, hb⟩; replace hM0 := hM0.below hb; replace HX := (hb.block _ (by exact lt_of_heap HX)).trans HX; replace hI0 := (hb.block _ (by exact lt_of_heap hI0)).trans hI0; replace hB0 := hB0.trans (KeepL.of_below hb); clear hb))) | fail)
  have d2 := cell_of_row _ p 2 _ _ _ hI0
  go_wp2_with fail
  refine (Chunk_at wv y0 y1 y2 y3 _ hz).mono ?_
  rintro e Wc ⟨rfl, hb⟩
  replace hM0 := hM0.below hb; replace HX := (hb.block _ (by exact lt_of_heap HX)).trans HX; replace hI0 := (hb.block _ (by exact lt_of_heap hI0)).trans hI0; replace hB0 := hB0.trans (KeepL.of_below hb); clear hb
  clear d2
  have hC := heap_alloc_new Wc (.cells #[.int .i64 y0, .int .i64 y1, .int .i64 y2, .int .i64 y3] 44)
  have hb := below_new Wc (.cells #[.int .i64 y0, .int .i64 y1, .int .i64 y2, .int .i64 y3] 44)
  have nc : Wc.heap.size ≠ g ∧ Wc.heap.size ≠ gw ∧ Wc.heap.size ≠ gh := by have := hM0.lt; have := hM0.ltw; have := hM0.lth; omega
  have ncp : Wc.heap.size ≠ p ∧ Wc.heap.size ≠ W.heap.size := by have := lt_of_heap hI0; have := lt_of_heap HX; omega
  replace hM0 := hM0.below hb; replace HX := (hb.block _ (by exact lt_of_heap HX)).trans HX; replace hI0 := (hb.block _ (by exact lt_of_heap hI0)).trans hI0; replace hB0 := hB0.trans (KeepL.of_below hb); clear hb
  have k0 := cell_of_row _ W.heap.size 0 _ _ _ HX
  have k1 := cell_of_row _ W.heap.size 1 _ _ _ HX
  have k2 := cell_of_row _ W.heap.size 2 _ _ _ HX
  have k3 := cell_of_row _ W.heap.size 3 _ _ _ HX
  have k4 := cell_of_row _ W.heap.size 4 _ _ _ HX
  have k5 := cell_of_row _ W.heap.size 5 _ _ _ HX
  have k6 := cell_of_row _ W.heap.size 6 _ _ _ HX
  have k7 := cell_of_row _ W.heap.size 7 _ _ _ HX
  have k8 := cell_of_row _ W.heap.size 8 _ _ _ HX
  have d0 := cell_of_row _ p 0 _ _ _ hI0
  have f0 := frozen_of 0 hI0
  have d1 := cell_of_row _ p 1 _ _ _ hI0
  have f1 := frozen_of 1 hI0
  have d2 := cell_of_row _ p 2 _ _ _ hI0
  have f2 := frozen_of 2 hI0
  have d3 := cell_of_row _ p 3 _ _ _ hI0
  have f3 := frozen_of 3 hI0
  have d4 := cell_of_row _ p 4 _ _ _ hI0
  have f4 := frozen_of 4 hI0
  have d5 := cell_of_row _ p 5 _ _ _ hI0
  have f5 := frozen_of 5 hI0
  have e0 := cell_of_row _ Wc.heap.size 0 _ _ _ hC
  have e1 := cell_of_row _ Wc.heap.size 1 _ _ _ hC
  have e2 := cell_of_row _ Wc.heap.size 2 _ _ _ hC
  have e3 := cell_of_row _ Wc.heap.size 3 _ _ _ hC
  have HW12 := Lib.hid hw
  clear hw
  go_wp2_with fail
  refine (ELoad 4 1 2 30 100 600 3 who g gw gh m 12 _ hM0 h1 hs).mono ?_
  rintro e w7 ⟨rfl, hM7, hK⟩
  have hX7 := hK.heap HX n1 n2 n3; have hI7 := hK.heap hI0 np.1 np.2.1 np.2.2; have hB7 := hB0.trans (KeepL.of3 hK (by simp) (by simp) (by simp)); have hC7 := hK.heap hC nc.1 nc.2.1 nc.2.2; replace hC := hC7; clear hC7; replace HX := hX7; replace hI0 := hI7; replace hB0 := hB7; replace hM0 := hM7; clear hX7 hI7 hB7 hM7 hK
  clear k0 k1 k2 k3 k4 k5 k6 k7 k8 d0 d1 d2 d3 d4 d5 f0 f1 f2 f3 f4 f5 e0 e1 e2 e3
  have k0 := cell_of_row _ W.heap.size 0 _ _ _ HX
  have k1 := cell_of_row _ W.heap.size 1 _ _ _ HX
  have k2 := cell_of_row _ W.heap.size 2 _ _ _ HX
  have k3 := cell_of_row _ W.heap.size 3 _ _ _ HX
  have k4 := cell_of_row _ W.heap.size 4 _ _ _ HX
  have k5 := cell_of_row _ W.heap.size 5 _ _ _ HX
  have k6 := cell_of_row _ W.heap.size 6 _ _ _ HX
  have k7 := cell_of_row _ W.heap.size 7 _ _ _ HX
  have k8 := cell_of_row _ W.heap.size 8 _ _ _ HX
  have d0 := cell_of_row _ p 0 _ _ _ hI0
  have f0 := frozen_of 0 hI0
  have d1 := cell_of_row _ p 1 _ _ _ hI0
  have f1 := frozen_of 1 hI0
  have d2 := cell_of_row _ p 2 _ _ _ hI0
  have f2 := frozen_of 2 hI0
  have d3 := cell_of_row _ p 3 _ _ _ hI0
  have f3 := frozen_of 3 hI0
  have d4 := cell_of_row _ p 4 _ _ _ hI0
  have f4 := frozen_of 4 hI0
  have d5 := cell_of_row _ p 5 _ _ _ hI0
  have f5 := frozen_of 5 hI0
  have e0 := cell_of_row _ Wc.heap.size 0 _ _ _ hC
  have e1 := cell_of_row _ Wc.heap.size 1 _ _ _ hC
  have e2 := cell_of_row _ Wc.heap.size 2 _ _ _ hC
  have e3 := cell_of_row _ Wc.heap.size 3 _ _ _ hC
  have hz2 : Hid (0 ≤ m.w 12 ∧ m.w 12 < 18446744073709551616 ∧ (3 : Int) = m.w 12 % 4 ∧ (0 : Int) = m.w 12 / 4 % 64 ∧ u = m.w 12 / 256 % 1048576 ∧ (0 : Int) = m.w 12 / 268435456 % 68719476736) := by
    show _ ∧ _
    rw [HW12.out]; omega
  go_wp2_with fail
  refine (Chunk_at (m.w 12) 3 0 u 0 _ hz2).mono ?_
  rintro e w8 ⟨rfl, hb⟩
  obtain ⟨r1, r2⟩ := set_cell hM0 hB0 np 2 (.int .u64 (m.w 12))
  obtain ⟨r3, r4⟩ := set_cell r1 r2 np 1 (.int .i64 1)
  have r5 := set_pc (set_w hI0 (m.w 12)) 1
  go_wp2
  go_ret
  exact ⟨rfl, r3.below hb, (hb.block _ (by exact lt_of_heap r5)).trans r5, r4.trans (KeepL.of_below hb)⟩
set_option maxHeartbeats 2000000 in
set_option maxRecDepth 100000 in
theorem SetStep1 (who : Int) (g gw gh p : Nat) (m : Ms) (wv since at_ y0 y1 y2 y3 : Int) (W : World) (hM : MemAt W g gw gh m) (hI : SetAt W p 1 wv since at_ false) (np : p ≠ g ∧ p ≠ gw ∧ p ≠ gh) (hz : Hid (0 ≤ wv ∧ wv < 18446744073709551616 ∧ y0 = wv % 4 ∧ y1 = wv / 4 % 64 ∧ y2 = wv / 256 % 1048576 ∧ y3 = wv / 268435456 % 68719476736)) (h1 : 14 < m.n) (hs : m.steps < 4611686018427387904) :
    Calls Try.prog 71 #[.pointer (some ⟨p, 0, none⟩), .agg #[.int .i64 4, .int .i64 1, .int .i64 2, .int .i64 30, .int .i64 100, .int .i64 600, .int .i64 3, .pointer (some ⟨g, 0, none⟩), .int .i64 who]] W fun e W' => e = .returned (.bool false) ∧ MemAt W' g gw gh (m.ld who 14) ∧ SetAt W' p 2 (wv) (m.w 14) (at_) false ∧ KeepL [p, g, gw, gh] W W' := by
  have HX : (W.alloc (.cells #[.int .i64 4, .int .i64 1, .int .i64 2, .int .i64 30, .int .i64 100, .int .i64 600, .int .i64 3, .pointer (some ⟨g, 0, none⟩), .int .i64 who] 87)).heap[W.heap.size]? = some (.cells #[.int .i64 4, .int .i64 1, .int .i64 2, .int .i64 30, .int .i64 100, .int .i64 600, .int .i64 3, .pointer (some ⟨g, 0, none⟩), .int .i64 who] 87 (0, 0)) := heap_alloc_new W _
  have hM0 := hM.below (below_new W (.cells #[.int .i64 4, .int .i64 1, .int .i64 2, .int .i64 30, .int .i64 100, .int .i64 600, .int .i64 3, .pointer (some ⟨g, 0, none⟩), .int .i64 who] 87))
  have hI0 : (W.alloc (.cells #[.int .i64 4, .int .i64 1, .int .i64 2, .int .i64 30, .int .i64 100, .int .i64 600, .int .i64 3, .pointer (some ⟨g, 0, none⟩), .int .i64 who] 87)).heap[p]? = _ := (Below.heap_alloc W _ p (lt_of_heap hI)).trans hI
  have hB0 : KeepL [p, g, gw, gh] W (W.alloc (.cells #[.int .i64 4, .int .i64 1, .int .i64 2, .int .i64 30, .int .i64 100, .int .i64 600, .int .i64 3, .pointer (some ⟨g, 0, none⟩), .int .i64 who] 87)) := KeepL.of_below (below_new _ _)
  have n0 : W.heap.size ≠ p := by have := lt_of_heap hI; omega
  have n1 : W.heap.size ≠ g := by have := hM.lt; omega
  have n2 : W.heap.size ≠ gw := by have := hM.ltw; omega
  have n3 : W.heap.size ≠ gh := by have := hM.lth; omega
  have hp := lt_of_heap hI
  go_enter Try.func71, Try.ntmps71
  go_wp2
  generalize hW0 : W.alloc (.cells #[.int .i64 4, .int .i64 1, .int .i64 2, .int .i64 30, .int .i64 100, .int .i64 600, .int .i64 3, .pointer (some ⟨g, 0, none⟩), .int .i64 who] 87) = W0 at HX hM0 hI0 hB0 ⊢
  clear hW0 hM hI
  replace hM0 := hM0.drew
  replace HX : W0.drew.heap[W.heap.size]? = _ := HX
  replace hI0 : W0.drew.heap[p]? = _ := hI0
  replace hB0 := hB0.drew
  (first | (go_region_held3 (fun w' => w'.cell? ⟨W.heap.size, 0, none⟩ = some (.int .i64 4) ∧ w'.cell? ⟨W.heap.size, 1, none⟩ = some (.int .i64 1) ∧ w'.cell? ⟨W.heap.size, 2, none⟩ = some (.int .i64 2) ∧ w'.cell? ⟨W.heap.size, 3, none⟩ = some (.int .i64 30) ∧ w'.cell? ⟨W.heap.size, 4, none⟩ = some (.int .i64 100) ∧ w'.cell? ⟨W.heap.size, 5, none⟩ = some (.int .i64 600) ∧ w'.cell? ⟨W.heap.size, 6, none⟩ = some (.int .i64 3) ∧ w'.cell? ⟨W.heap.size, 7, none⟩ = some (.pointer (some ⟨g, 0, none⟩)) ∧ w'.cell? ⟨W.heap.size, 8, none⟩ = some (.int .i64 who) ∧ w'.cell? ⟨p, 0, none⟩ = some (.int .i64 0) ∧ w'.cell? ⟨p, 1, none⟩ = some (.int .i64 1) ∧ w'.cell? ⟨p, 2, none⟩ = some (.int .u64 wv) ∧ w'.cell? ⟨p, 3, none⟩ = some (.int .u64 since) ∧ w'.cell? ⟨p, 4, none⟩ = some (.int .i64 at_) ∧ w'.cell? ⟨p, 5, none⟩ = some (.bool false))
    (exact ⟨cell_of_row _ W.heap.size 0 _ _ _ HX, cell_of_row _ W.heap.size 1 _ _ _ HX, cell_of_row _ W.heap.size 2 _ _ _ HX, cell_of_row _ W.heap.size 3 _ _ _ HX, cell_of_row _ W.heap.size 4 _ _ _ HX, cell_of_row _ W.heap.size 5 _ _ _ HX, cell_of_row _ W.heap.size 6 _ _ _ HX, cell_of_row _ W.heap.size 7 _ _ _ HX, cell_of_row _ W.heap.size 8 _ _ _ HX, cell_of_row _ p 0 _ _ _ hI0, cell_of_row _ p 1 _ _ _ hI0, cell_of_row _ p 2 _ _ _ hI0, cell_of_row _ p 3 _ _ _ hI0, cell_of_row _ p 4 _ _ _ hI0, cell_of_row _ p 5 _ _ _ hI0⟩)
    (first
      | (go_at_call 69; refine (LC0 _).mono ?_; rintro e w5 ⟨rfl, hb⟩; replace hM0 := hM0.below hb; replace HX := (hb.block _ (by exact lt_of_heap HX)).trans HX; replace hI0 := (hb.block _ (by exact lt_of_heap hI0)).trans hI0; replace hB0 := hB0.trans (KeepL.of_below hb); clear hb))) | fail)
  have d2 := cell_of_row _ p 2 _ _ _ hI0
  go_wp2_with fail
  refine (Chunk_at wv y0 y1 y2 y3 _ hz).mono ?_
  rintro e Wc ⟨rfl, hb⟩
  replace hM0 := hM0.below hb; replace HX := (hb.block _ (by exact lt_of_heap HX)).trans HX; replace hI0 := (hb.block _ (by exact lt_of_heap hI0)).trans hI0; replace hB0 := hB0.trans (KeepL.of_below hb); clear hb
  clear d2
  have hC := heap_alloc_new Wc (.cells #[.int .i64 y0, .int .i64 y1, .int .i64 y2, .int .i64 y3] 44)
  have hb := below_new Wc (.cells #[.int .i64 y0, .int .i64 y1, .int .i64 y2, .int .i64 y3] 44)
  have nc : Wc.heap.size ≠ g ∧ Wc.heap.size ≠ gw ∧ Wc.heap.size ≠ gh := by have := hM0.lt; have := hM0.ltw; have := hM0.lth; omega
  have ncp : Wc.heap.size ≠ p ∧ Wc.heap.size ≠ W.heap.size := by have := lt_of_heap hI0; have := lt_of_heap HX; omega
  replace hM0 := hM0.below hb; replace HX := (hb.block _ (by exact lt_of_heap HX)).trans HX; replace hI0 := (hb.block _ (by exact lt_of_heap hI0)).trans hI0; replace hB0 := hB0.trans (KeepL.of_below hb); clear hb
  have k0 := cell_of_row _ W.heap.size 0 _ _ _ HX
  have k1 := cell_of_row _ W.heap.size 1 _ _ _ HX
  have k2 := cell_of_row _ W.heap.size 2 _ _ _ HX
  have k3 := cell_of_row _ W.heap.size 3 _ _ _ HX
  have k4 := cell_of_row _ W.heap.size 4 _ _ _ HX
  have k5 := cell_of_row _ W.heap.size 5 _ _ _ HX
  have k6 := cell_of_row _ W.heap.size 6 _ _ _ HX
  have k7 := cell_of_row _ W.heap.size 7 _ _ _ HX
  have k8 := cell_of_row _ W.heap.size 8 _ _ _ HX
  have d0 := cell_of_row _ p 0 _ _ _ hI0
  have f0 := frozen_of 0 hI0
  have d1 := cell_of_row _ p 1 _ _ _ hI0
  have f1 := frozen_of 1 hI0
  have d2 := cell_of_row _ p 2 _ _ _ hI0
  have f2 := frozen_of 2 hI0
  have d3 := cell_of_row _ p 3 _ _ _ hI0
  have f3 := frozen_of 3 hI0
  have d4 := cell_of_row _ p 4 _ _ _ hI0
  have f4 := frozen_of 4 hI0
  have d5 := cell_of_row _ p 5 _ _ _ hI0
  have f5 := frozen_of 5 hI0
  have e0 := cell_of_row _ Wc.heap.size 0 _ _ _ hC
  have e1 := cell_of_row _ Wc.heap.size 1 _ _ _ hC
  have e2 := cell_of_row _ Wc.heap.size 2 _ _ _ hC
  have e3 := cell_of_row _ Wc.heap.size 3 _ _ _ hC
  go_wp2_with fail
  refine (ELoad 4 1 2 30 100 600 3 who g gw gh m 14 _ hM0 h1 hs).mono ?_
  rintro e w7 ⟨rfl, hM7, hK⟩
  have hX7 := hK.heap HX n1 n2 n3; have hI7 := hK.heap hI0 np.1 np.2.1 np.2.2; have hB7 := hB0.trans (KeepL.of3 hK (by simp) (by simp) (by simp)); have hC7 := hK.heap hC nc.1 nc.2.1 nc.2.2; replace hC := hC7; clear hC7; replace HX := hX7; replace hI0 := hI7; replace hB0 := hB7; replace hM0 := hM7; clear hX7 hI7 hB7 hM7 hK
  clear k0 k1 k2 k3 k4 k5 k6 k7 k8 d0 d1 d2 d3 d4 d5 f0 f1 f2 f3 f4 f5 e0 e1 e2 e3
  have k0 := cell_of_row _ W.heap.size 0 _ _ _ HX
  have k1 := cell_of_row _ W.heap.size 1 _ _ _ HX
  have k2 := cell_of_row _ W.heap.size 2 _ _ _ HX
  have k3 := cell_of_row _ W.heap.size 3 _ _ _ HX
  have k4 := cell_of_row _ W.heap.size 4 _ _ _ HX
  have k5 := cell_of_row _ W.heap.size 5 _ _ _ HX
  have k6 := cell_of_row _ W.heap.size 6 _ _ _ HX
  have k7 := cell_of_row _ W.heap.size 7 _ _ _ HX
  have k8 := cell_of_row _ W.heap.size 8 _ _ _ HX
  have d0 := cell_of_row _ p 0 _ _ _ hI0
  have f0 := frozen_of 0 hI0
  have d1 := cell_of_row _ p 1 _ _ _ hI0
  have f1 := frozen_of 1 hI0
  have d2 := cell_of_row _ p 2 _ _ _ hI0
  have f2 := frozen_of 2 hI0
  have d3 := cell_of_row _ p 3 _ _ _ hI0
  have f3 := frozen_of 3 hI0
  have d4 := cell_of_row _ p 4 _ _ _ hI0
  have f4 := frozen_of 4 hI0
  have d5 := cell_of_row _ p 5 _ _ _ hI0
  have f5 := frozen_of 5 hI0
  have e0 := cell_of_row _ Wc.heap.size 0 _ _ _ hC
  have e1 := cell_of_row _ Wc.heap.size 1 _ _ _ hC
  have e2 := cell_of_row _ Wc.heap.size 2 _ _ _ hC
  have e3 := cell_of_row _ Wc.heap.size 3 _ _ _ hC
  obtain ⟨r1, r2⟩ := set_cell hM0 hB0 np 3 (.int .u64 (m.w 14))
  obtain ⟨r3, r4⟩ := set_cell r1 r2 np 1 (.int .i64 2)
  have r5 := set_pc (set_since hI0 (m.w 14)) 2
  go_wp2
  go_ret
  exact ⟨rfl, r3, r5, r4⟩
set_option maxHeartbeats 2000000 in
set_option maxRecDepth 100000 in
theorem SetStep2 (who : Int) (g gw gh p : Nat) (m : Ms) (wv at_ y0 y1 y2 y3 : Int) (W : World) (hM : MemAt W g gw gh m) (hw : m.w 0 = 9) (hI : SetAt W p 2 wv 0 at_ false) (np : p ≠ g ∧ p ≠ gw ∧ p ≠ gh) (hz : Hid (0 ≤ wv ∧ wv < 18446744073709551616 ∧ y0 = wv % 4 ∧ y1 = wv / 4 % 64 ∧ y2 = wv / 256 % 1048576 ∧ y3 = wv / 268435456 % 68719476736)) (h1 : 0 < m.n) (hs : m.steps < 4611686018427387904) :
    Calls Try.prog 71 #[.pointer (some ⟨p, 0, none⟩), .agg #[.int .i64 4, .int .i64 1, .int .i64 2, .int .i64 30, .int .i64 100, .int .i64 600, .int .i64 3, .pointer (some ⟨g, 0, none⟩), .int .i64 who]] W fun e W' => e = .returned (.bool false) ∧ MemAt W' g gw gh (m.ld who 0) ∧ SetAt W' p 3 (wv) (0) (at_) false ∧ KeepL [p, g, gw, gh] W W' := by
  have HX : (W.alloc (.cells #[.int .i64 4, .int .i64 1, .int .i64 2, .int .i64 30, .int .i64 100, .int .i64 600, .int .i64 3, .pointer (some ⟨g, 0, none⟩), .int .i64 who] 87)).heap[W.heap.size]? = some (.cells #[.int .i64 4, .int .i64 1, .int .i64 2, .int .i64 30, .int .i64 100, .int .i64 600, .int .i64 3, .pointer (some ⟨g, 0, none⟩), .int .i64 who] 87 (0, 0)) := heap_alloc_new W _
  have hM0 := hM.below (below_new W (.cells #[.int .i64 4, .int .i64 1, .int .i64 2, .int .i64 30, .int .i64 100, .int .i64 600, .int .i64 3, .pointer (some ⟨g, 0, none⟩), .int .i64 who] 87))
  have hI0 : (W.alloc (.cells #[.int .i64 4, .int .i64 1, .int .i64 2, .int .i64 30, .int .i64 100, .int .i64 600, .int .i64 3, .pointer (some ⟨g, 0, none⟩), .int .i64 who] 87)).heap[p]? = _ := (Below.heap_alloc W _ p (lt_of_heap hI)).trans hI
  have hB0 : KeepL [p, g, gw, gh] W (W.alloc (.cells #[.int .i64 4, .int .i64 1, .int .i64 2, .int .i64 30, .int .i64 100, .int .i64 600, .int .i64 3, .pointer (some ⟨g, 0, none⟩), .int .i64 who] 87)) := KeepL.of_below (below_new _ _)
  have n0 : W.heap.size ≠ p := by have := lt_of_heap hI; omega
  have n1 : W.heap.size ≠ g := by have := hM.lt; omega
  have n2 : W.heap.size ≠ gw := by have := hM.ltw; omega
  have n3 : W.heap.size ≠ gh := by have := hM.lth; omega
  have hp := lt_of_heap hI
  go_enter Try.func71, Try.ntmps71
  go_wp2
  generalize hW0 : W.alloc (.cells #[.int .i64 4, .int .i64 1, .int .i64 2, .int .i64 30, .int .i64 100, .int .i64 600, .int .i64 3, .pointer (some ⟨g, 0, none⟩), .int .i64 who] 87) = W0 at HX hM0 hI0 hB0 ⊢
  clear hW0 hM hI
  replace hM0 := hM0.drew
  replace HX : W0.drew.heap[W.heap.size]? = _ := HX
  replace hI0 : W0.drew.heap[p]? = _ := hI0
  replace hB0 := hB0.drew
  (first | (go_region_held3 (fun w' => w'.cell? ⟨W.heap.size, 0, none⟩ = some (.int .i64 4) ∧ w'.cell? ⟨W.heap.size, 1, none⟩ = some (.int .i64 1) ∧ w'.cell? ⟨W.heap.size, 2, none⟩ = some (.int .i64 2) ∧ w'.cell? ⟨W.heap.size, 3, none⟩ = some (.int .i64 30) ∧ w'.cell? ⟨W.heap.size, 4, none⟩ = some (.int .i64 100) ∧ w'.cell? ⟨W.heap.size, 5, none⟩ = some (.int .i64 600) ∧ w'.cell? ⟨W.heap.size, 6, none⟩ = some (.int .i64 3) ∧ w'.cell? ⟨W.heap.size, 7, none⟩ = some (.pointer (some ⟨g, 0, none⟩)) ∧ w'.cell? ⟨W.heap.size, 8, none⟩ = some (.int .i64 who) ∧ w'.cell? ⟨p, 0, none⟩ = some (.int .i64 0) ∧ w'.cell? ⟨p, 1, none⟩ = some (.int .i64 2) ∧ w'.cell? ⟨p, 2, none⟩ = some (.int .u64 wv) ∧ w'.cell? ⟨p, 3, none⟩ = some (.int .u64 0) ∧ w'.cell? ⟨p, 4, none⟩ = some (.int .i64 at_) ∧ w'.cell? ⟨p, 5, none⟩ = some (.bool false))
    (exact ⟨cell_of_row _ W.heap.size 0 _ _ _ HX, cell_of_row _ W.heap.size 1 _ _ _ HX, cell_of_row _ W.heap.size 2 _ _ _ HX, cell_of_row _ W.heap.size 3 _ _ _ HX, cell_of_row _ W.heap.size 4 _ _ _ HX, cell_of_row _ W.heap.size 5 _ _ _ HX, cell_of_row _ W.heap.size 6 _ _ _ HX, cell_of_row _ W.heap.size 7 _ _ _ HX, cell_of_row _ W.heap.size 8 _ _ _ HX, cell_of_row _ p 0 _ _ _ hI0, cell_of_row _ p 1 _ _ _ hI0, cell_of_row _ p 2 _ _ _ hI0, cell_of_row _ p 3 _ _ _ hI0, cell_of_row _ p 4 _ _ _ hI0, cell_of_row _ p 5 _ _ _ hI0⟩)
    (first
      | (go_at_call 69; refine (LC0 _).mono ?_; rintro e w5 ⟨rfl, hb⟩; replace hM0 := hM0.below hb; replace HX := (hb.block _ (by exact lt_of_heap HX)).trans HX; replace hI0 := (hb.block _ (by exact lt_of_heap hI0)).trans hI0; replace hB0 := hB0.trans (KeepL.of_below hb); clear hb))) | fail)
  have d2 := cell_of_row _ p 2 _ _ _ hI0
  go_wp2_with fail
  refine (Chunk_at wv y0 y1 y2 y3 _ hz).mono ?_
  rintro e Wc ⟨rfl, hb⟩
  replace hM0 := hM0.below hb; replace HX := (hb.block _ (by exact lt_of_heap HX)).trans HX; replace hI0 := (hb.block _ (by exact lt_of_heap hI0)).trans hI0; replace hB0 := hB0.trans (KeepL.of_below hb); clear hb
  clear d2
  have hC := heap_alloc_new Wc (.cells #[.int .i64 y0, .int .i64 y1, .int .i64 y2, .int .i64 y3] 44)
  have hb := below_new Wc (.cells #[.int .i64 y0, .int .i64 y1, .int .i64 y2, .int .i64 y3] 44)
  have nc : Wc.heap.size ≠ g ∧ Wc.heap.size ≠ gw ∧ Wc.heap.size ≠ gh := by have := hM0.lt; have := hM0.ltw; have := hM0.lth; omega
  have ncp : Wc.heap.size ≠ p ∧ Wc.heap.size ≠ W.heap.size := by have := lt_of_heap hI0; have := lt_of_heap HX; omega
  replace hM0 := hM0.below hb; replace HX := (hb.block _ (by exact lt_of_heap HX)).trans HX; replace hI0 := (hb.block _ (by exact lt_of_heap hI0)).trans hI0; replace hB0 := hB0.trans (KeepL.of_below hb); clear hb
  have k0 := cell_of_row _ W.heap.size 0 _ _ _ HX
  have k1 := cell_of_row _ W.heap.size 1 _ _ _ HX
  have k2 := cell_of_row _ W.heap.size 2 _ _ _ HX
  have k3 := cell_of_row _ W.heap.size 3 _ _ _ HX
  have k4 := cell_of_row _ W.heap.size 4 _ _ _ HX
  have k5 := cell_of_row _ W.heap.size 5 _ _ _ HX
  have k6 := cell_of_row _ W.heap.size 6 _ _ _ HX
  have k7 := cell_of_row _ W.heap.size 7 _ _ _ HX
  have k8 := cell_of_row _ W.heap.size 8 _ _ _ HX
  have d0 := cell_of_row _ p 0 _ _ _ hI0
  have f0 := frozen_of 0 hI0
  have d1 := cell_of_row _ p 1 _ _ _ hI0
  have f1 := frozen_of 1 hI0
  have d2 := cell_of_row _ p 2 _ _ _ hI0
  have f2 := frozen_of 2 hI0
  have d3 := cell_of_row _ p 3 _ _ _ hI0
  have f3 := frozen_of 3 hI0
  have d4 := cell_of_row _ p 4 _ _ _ hI0
  have f4 := frozen_of 4 hI0
  have d5 := cell_of_row _ p 5 _ _ _ hI0
  have f5 := frozen_of 5 hI0
  have e0 := cell_of_row _ Wc.heap.size 0 _ _ _ hC
  have e1 := cell_of_row _ Wc.heap.size 1 _ _ _ hC
  have e2 := cell_of_row _ Wc.heap.size 2 _ _ _ hC
  have e3 := cell_of_row _ Wc.heap.size 3 _ _ _ hC
  have HLd : Hid (∀ W, MemAt W g gw gh m → Calls Try.prog 82 #[.agg #[.int .i64 4, .int .i64 1, .int .i64 2, .int .i64 30, .int .i64 100, .int .i64 600, .int .i64 3, .pointer (some ⟨g, 0, none⟩), .int .i64 who], .int .i64 0] W fun e W' => e = .returned (.int .u64 9) ∧ MemAt W' g gw gh (m.ld who 0) ∧ Keep3 g gw gh W W') := by
    intro W h
    have h2 := ELoad 4 1 2 30 100 600 3 who g gw gh m 0 W h h1 hs
    rw [hw] at h2
    exact h2
  clear hw
  go_wp2
  clear k0 k1 k2 k3 k4 k5 k6 k7 k8 d0 d1 d2 d3 d4 d5 f0 f1 f2 f3 f4 f5 e0 e1 e2 e3
  obtain ⟨r1, r2⟩ := set_cell hM0 hB0 np 1 (.int .i64 3)
  have r5 := set_pc hI0 3
  have r6 := (heap_set_far (p := ⟨p, 1, none⟩) (.int .i64 3) n0).trans HX
  clear hM0 hB0 HX hI0
  generalize World.setCell _ ⟨p, 1, none⟩ (.int .i64 3) = W7 at r1 r2 r5 r6 ⊢
  have hM0 := r1.drew
  have hB0 := r2.drew
  have HX : W7.drew.heap[W.heap.size]? = _ := r6
  have hI0 : W7.drew.heap[p]? = _ := r5
  clear r1 r2 r5 r6 hC
  (first | (go_region_held3 (fun w' => w'.cell? ⟨W.heap.size, 0, none⟩ = some (.int .i64 4) ∧ w'.cell? ⟨W.heap.size, 1, none⟩ = some (.int .i64 1) ∧ w'.cell? ⟨W.heap.size, 2, none⟩ = some (.int .i64 2) ∧ w'.cell? ⟨W.heap.size, 3, none⟩ = some (.int .i64 30) ∧ w'.cell? ⟨W.heap.size, 4, none⟩ = some (.int .i64 100) ∧ w'.cell? ⟨W.heap.size, 5, none⟩ = some (.int .i64 600) ∧ w'.cell? ⟨W.heap.size, 6, none⟩ = some (.int .i64 3) ∧ w'.cell? ⟨W.heap.size, 7, none⟩ = some (.pointer (some ⟨g, 0, none⟩)) ∧ w'.cell? ⟨W.heap.size, 8, none⟩ = some (.int .i64 who) ∧ w'.cell? ⟨p, 0, none⟩ = some (.int .i64 0) ∧ w'.cell? ⟨p, 1, none⟩ = some (.int .i64 3) ∧ w'.cell? ⟨p, 2, none⟩ = some (.int .u64 wv) ∧ w'.cell? ⟨p, 3, none⟩ = some (.int .u64 0) ∧ w'.cell? ⟨p, 4, none⟩ = some (.int .i64 at_) ∧ w'.cell? ⟨p, 5, none⟩ = some (.bool false))
    (exact ⟨cell_of_row _ W.heap.size 0 _ _ _ HX, cell_of_row _ W.heap.size 1 _ _ _ HX, cell_of_row _ W.heap.size 2 _ _ _ HX, cell_of_row _ W.heap.size 3 _ _ _ HX, cell_of_row _ W.heap.size 4 _ _ _ HX, cell_of_row _ W.heap.size 5 _ _ _ HX, cell_of_row _ W.heap.size 6 _ _ _ HX, cell_of_row _ W.heap.size 7 _ _ _ HX, cell_of_row _ W.heap.size 8 _ _ _ HX, cell_of_row _ p 0 _ _ _ hI0, cell_of_row _ p 1 _ _ _ hI0, cell_of_row _ p 2 _ _ _ hI0, cell_of_row _ p 3 _ _ _ hI0, cell_of_row _ p 4 _ _ _ hI0, cell_of_row _ p 5 _ _ _ hI0⟩)
    (first
      | (go_at_call 62; refine (LEpoch_any _).mono ?_; rintro e w5 ⟨rfl, hw5⟩; obtain rfl := hw5.symm; clear hw5)
      | (go_at_call 82; refine (HLd.out _ hM0).mono ?_; rintro e w7 ⟨rfl, hM7, hK⟩; have hX7 := hK.heap HX n1 n2 n3; have hI7 := hK.heap hI0 np.1 np.2.1 np.2.2; have hB7 := hB0.trans (KeepL.of3 hK (by simp) (by simp) (by simp)); replace HX := hX7; replace hI0 := hI7; replace hB0 := hB7; replace hM0 := hM7; clear hX7 hI7 hB7 hM7 hK))) | fail)
  all_goals go_wp2
  all_goals go_ret
  all_goals exact ⟨rfl, hM0, hI0, hB0⟩
set_option maxHeartbeats 2000000 in
set_option maxRecDepth 100000 in
theorem SetStep3_more (who : Int) (g gw gh p : Nat) (m : Ms) (wv since y0 y1 y2 y3 : Int) (W : World) (hM : MemAt W g gw gh m) (k : Nat) (hk : k ≤ 100) (hl : (k : Int) + 1 < y2) (hI : SetAt W p 3 wv since k false) (np : p ≠ g ∧ p ≠ gw ∧ p ≠ gh) (hz : Hid (0 ≤ wv ∧ wv < 18446744073709551616 ∧ y0 = wv % 4 ∧ y1 = wv / 4 % 64 ∧ y2 = wv / 256 % 1048576 ∧ y3 = wv / 268435456 % 68719476736)) (h1 : 18 + k < m.n) (hs : m.steps < 4611686018427387904) :
    Calls Try.prog 71 #[.pointer (some ⟨p, 0, none⟩), .agg #[.int .i64 4, .int .i64 1, .int .i64 2, .int .i64 30, .int .i64 100, .int .i64 600, .int .i64 3, .pointer (some ⟨g, 0, none⟩), .int .i64 who]] W fun e W' => e = .returned (.bool false) ∧ MemAt W' g gw gh (m.st who (18 + k) 0) ∧ SetAt W' p 3 (wv) (since) ((k : Int) + 1) false ∧ KeepL [p, g, gw, gh] W W' := by
  have HX : (W.alloc (.cells #[.int .i64 4, .int .i64 1, .int .i64 2, .int .i64 30, .int .i64 100, .int .i64 600, .int .i64 3, .pointer (some ⟨g, 0, none⟩), .int .i64 who] 87)).heap[W.heap.size]? = some (.cells #[.int .i64 4, .int .i64 1, .int .i64 2, .int .i64 30, .int .i64 100, .int .i64 600, .int .i64 3, .pointer (some ⟨g, 0, none⟩), .int .i64 who] 87 (0, 0)) := heap_alloc_new W _
  have hM0 := hM.below (below_new W (.cells #[.int .i64 4, .int .i64 1, .int .i64 2, .int .i64 30, .int .i64 100, .int .i64 600, .int .i64 3, .pointer (some ⟨g, 0, none⟩), .int .i64 who] 87))
  have hI0 : (W.alloc (.cells #[.int .i64 4, .int .i64 1, .int .i64 2, .int .i64 30, .int .i64 100, .int .i64 600, .int .i64 3, .pointer (some ⟨g, 0, none⟩), .int .i64 who] 87)).heap[p]? = _ := (Below.heap_alloc W _ p (lt_of_heap hI)).trans hI
  have hB0 : KeepL [p, g, gw, gh] W (W.alloc (.cells #[.int .i64 4, .int .i64 1, .int .i64 2, .int .i64 30, .int .i64 100, .int .i64 600, .int .i64 3, .pointer (some ⟨g, 0, none⟩), .int .i64 who] 87)) := KeepL.of_below (below_new _ _)
  have n0 : W.heap.size ≠ p := by have := lt_of_heap hI; omega
  have n1 : W.heap.size ≠ g := by have := hM.lt; omega
  have n2 : W.heap.size ≠ gw := by have := hM.ltw; omega
  have n3 : W.heap.size ≠ gh := by have := hM.lth; omega
  have hp := lt_of_heap hI
  go_enter Try.func71, Try.ntmps71
  go_wp2
  generalize hW0 : W.alloc (.cells #[.int .i64 4, .int .i64 1, .int .i64 2, .int .i64 30, .int .i64 100, .int .i64 600, .int .i64 3, .pointer (some ⟨g, 0, none⟩), .int .i64 who] 87) = W0 at HX hM0 hI0 hB0 ⊢
  clear hW0 hM hI
  replace hM0 := hM0.drew
  replace HX : W0.drew.heap[W.heap.size]? = _ := HX
  replace hI0 : W0.drew.heap[p]? = _ := hI0
  replace hB0 := hB0.drew
  (first | (go_region_held3 (fun w' => w'.cell? ⟨W.heap.size, 0, none⟩ = some (.int .i64 4) ∧ w'.cell? ⟨W.heap.size, 1, none⟩ = some (.int .i64 1) ∧ w'.cell? ⟨W.heap.size, 2, none⟩ = some (.int .i64 2) ∧ w'.cell? ⟨W.heap.size, 3, none⟩ = some (.int .i64 30) ∧ w'.cell? ⟨W.heap.size, 4, none⟩ = some (.int .i64 100) ∧ w'.cell? ⟨W.heap.size, 5, none⟩ = some (.int .i64 600) ∧ w'.cell? ⟨W.heap.size, 6, none⟩ = some (.int .i64 3) ∧ w'.cell? ⟨W.heap.size, 7, none⟩ = some (.pointer (some ⟨g, 0, none⟩)) ∧ w'.cell? ⟨W.heap.size, 8, none⟩ = some (.int .i64 who) ∧ w'.cell? ⟨p, 0, none⟩ = some (.int .i64 0) ∧ w'.cell? ⟨p, 1, none⟩ = some (.int .i64 3) ∧ w'.cell? ⟨p, 2, none⟩ = some (.int .u64 wv) ∧ w'.cell? ⟨p, 3, none⟩ = some (.int .u64 since) ∧ w'.cell? ⟨p, 4, none⟩ = some (.int .i64 k) ∧ w'.cell? ⟨p, 5, none⟩ = some (.bool false))
    (exact ⟨cell_of_row _ W.heap.size 0 _ _ _ HX, cell_of_row _ W.heap.size 1 _ _ _ HX, cell_of_row _ W.heap.size 2 _ _ _ HX, cell_of_row _ W.heap.size 3 _ _ _ HX, cell_of_row _ W.heap.size 4 _ _ _ HX, cell_of_row _ W.heap.size 5 _ _ _ HX, cell_of_row _ W.heap.size 6 _ _ _ HX, cell_of_row _ W.heap.size 7 _ _ _ HX, cell_of_row _ W.heap.size 8 _ _ _ HX, cell_of_row _ p 0 _ _ _ hI0, cell_of_row _ p 1 _ _ _ hI0, cell_of_row _ p 2 _ _ _ hI0, cell_of_row _ p 3 _ _ _ hI0, cell_of_row _ p 4 _ _ _ hI0, cell_of_row _ p 5 _ _ _ hI0⟩)
    (first
      | (go_at_call 69; refine (LC0 _).mono ?_; rintro e w5 ⟨rfl, hb⟩; replace hM0 := hM0.below hb; replace HX := (hb.block _ (by exact lt_of_heap HX)).trans HX; replace hI0 := (hb.block _ (by exact lt_of_heap hI0)).trans hI0; replace hB0 := hB0.trans (KeepL.of_below hb); clear hb))) | fail)
  have d2 := cell_of_row _ p 2 _ _ _ hI0
  go_wp2_with fail
  refine (Chunk_at wv y0 y1 y2 y3 _ hz).mono ?_
  rintro e Wc ⟨rfl, hb⟩
  replace hM0 := hM0.below hb; replace HX := (hb.block _ (by exact lt_of_heap HX)).trans HX; replace hI0 := (hb.block _ (by exact lt_of_heap hI0)).trans hI0; replace hB0 := hB0.trans (KeepL.of_below hb); clear hb
  clear d2
  have hC := heap_alloc_new Wc (.cells #[.int .i64 y0, .int .i64 y1, .int .i64 y2, .int .i64 y3] 44)
  have hb := below_new Wc (.cells #[.int .i64 y0, .int .i64 y1, .int .i64 y2, .int .i64 y3] 44)
  have nc : Wc.heap.size ≠ g ∧ Wc.heap.size ≠ gw ∧ Wc.heap.size ≠ gh := by have := hM0.lt; have := hM0.ltw; have := hM0.lth; omega
  have ncp : Wc.heap.size ≠ p ∧ Wc.heap.size ≠ W.heap.size := by have := lt_of_heap hI0; have := lt_of_heap HX; omega
  replace hM0 := hM0.below hb; replace HX := (hb.block _ (by exact lt_of_heap HX)).trans HX; replace hI0 := (hb.block _ (by exact lt_of_heap hI0)).trans hI0; replace hB0 := hB0.trans (KeepL.of_below hb); clear hb
  have k0 := cell_of_row _ W.heap.size 0 _ _ _ HX
  have k1 := cell_of_row _ W.heap.size 1 _ _ _ HX
  have k2 := cell_of_row _ W.heap.size 2 _ _ _ HX
  have k3 := cell_of_row _ W.heap.size 3 _ _ _ HX
  have k4 := cell_of_row _ W.heap.size 4 _ _ _ HX
  have k5 := cell_of_row _ W.heap.size 5 _ _ _ HX
  have k6 := cell_of_row _ W.heap.size 6 _ _ _ HX
  have k7 := cell_of_row _ W.heap.size 7 _ _ _ HX
  have k8 := cell_of_row _ W.heap.size 8 _ _ _ HX
  have d0 := cell_of_row _ p 0 _ _ _ hI0
  have f0 := frozen_of 0 hI0
  have d1 := cell_of_row _ p 1 _ _ _ hI0
  have f1 := frozen_of 1 hI0
  have d2 := cell_of_row _ p 2 _ _ _ hI0
  have f2 := frozen_of 2 hI0
  have d3 := cell_of_row _ p 3 _ _ _ hI0
  have f3 := frozen_of 3 hI0
  have d4 := cell_of_row _ p 4 _ _ _ hI0
  have f4 := frozen_of 4 hI0
  have d5 := cell_of_row _ p 5 _ _ _ hI0
  have f5 := frozen_of 5 hI0
  have e0 := cell_of_row _ Wc.heap.size 0 _ _ _ hC
  have e1 := cell_of_row _ Wc.heap.size 1 _ _ _ hC
  have e2 := cell_of_row _ Wc.heap.size 2 _ _ _ hC
  have e3 := cell_of_row _ Wc.heap.size 3 _ _ _ hC
  have HK18 : Hid (18 + (k : Int) = ((18 + k : Nat) : Int)) := by show 18 + (k : Int) = ((18 + k : Nat) : Int); omega
  have hwi : IntKind.i64.wrap (18 + (k : Int)) = 18 + (k : Int) := by rw [IntWalk.i64_left]; exact IntWalk.wrap64_in _ ⟨by omega, by omega⟩
  go_wp2
  clear k0 k1 k2 k3 k4 k5 k6 k7 k8 d0 d1 d2 d3 d4 d5 f0 f1 f2 f3 f4 f5 e0 e1 e2 e3
  replace hM0 := hM0.drew
  replace hB0 := hB0.drew
  generalize Wc.alloc (.cells #[.int .i64 y0, .int .i64 y1, .int .i64 y2, .int .i64 y3] 44) = W7 at hM0 hB0 HX hI0 hC ⊢
  replace HX : W7.drew.heap[W.heap.size]? = _ := HX
  replace hI0 : W7.drew.heap[p]? = _ := hI0
  replace hC : W7.drew.heap[Wc.heap.size]? = _ := hC
  (first | (go_region_held3 (fun w' => w'.cell? ⟨W.heap.size, 0, none⟩ = some (.int .i64 4) ∧ w'.cell? ⟨W.heap.size, 1, none⟩ = some (.int .i64 1) ∧ w'.cell? ⟨W.heap.size, 2, none⟩ = some (.int .i64 2) ∧ w'.cell? ⟨W.heap.size, 3, none⟩ = some (.int .i64 30) ∧ w'.cell? ⟨W.heap.size, 4, none⟩ = some (.int .i64 100) ∧ w'.cell? ⟨W.heap.size, 5, none⟩ = some (.int .i64 600) ∧ w'.cell? ⟨W.heap.size, 6, none⟩ = some (.int .i64 3) ∧ w'.cell? ⟨W.heap.size, 7, none⟩ = some (.pointer (some ⟨g, 0, none⟩)) ∧ w'.cell? ⟨W.heap.size, 8, none⟩ = some (.int .i64 who) ∧ w'.cell? ⟨p, 0, none⟩ = some (.int .i64 0) ∧ w'.cell? ⟨p, 1, none⟩ = some (.int .i64 3) ∧ w'.cell? ⟨p, 2, none⟩ = some (.int .u64 wv) ∧ w'.cell? ⟨p, 3, none⟩ = some (.int .u64 since) ∧ w'.cell? ⟨p, 4, none⟩ = some (.int .i64 (k : Nat)) ∧ w'.cell? ⟨p, 5, none⟩ = some (.bool false))
    (exact ⟨cell_of_row _ W.heap.size 0 _ _ _ HX, cell_of_row _ W.heap.size 1 _ _ _ HX, cell_of_row _ W.heap.size 2 _ _ _ HX, cell_of_row _ W.heap.size 3 _ _ _ HX, cell_of_row _ W.heap.size 4 _ _ _ HX, cell_of_row _ W.heap.size 5 _ _ _ HX, cell_of_row _ W.heap.size 6 _ _ _ HX, cell_of_row _ W.heap.size 7 _ _ _ HX, cell_of_row _ W.heap.size 8 _ _ _ HX, cell_of_row _ p 0 _ _ _ hI0, cell_of_row _ p 1 _ _ _ hI0, cell_of_row _ p 2 _ _ _ hI0, cell_of_row _ p 3 _ _ _ hI0, cell_of_row _ p 4 _ _ _ hI0, cell_of_row _ p 5 _ _ _ hI0⟩)
    (first
      | (go_at_call 85; refine (LB0 _).mono ?_; rintro e w5 ⟨rfl, hb⟩; replace hM0 := hM0.below hb; replace HX := (hb.block _ (by exact lt_of_heap HX)).trans HX; replace hI0 := (hb.block _ (by exact lt_of_heap hI0)).trans hI0; replace hB0 := hB0.trans (KeepL.of_below hb); replace hC := (hb.block _ (by exact lt_of_heap hC)).trans hC; clear hb)
      | (go_at_call 83; rw [HK18.out]; refine (EStore 4 1 2 30 100 600 3 who g gw gh m (18 + k) 0 _ hM0 h1 hs (by omega)).mono ?_; rintro e w7 ⟨rfl, hM7, hK⟩; have hX7 := hK.heap HX n1 n2 n3; have hI7 := hK.heap hI0 np.1 np.2.1 np.2.2; have hB7 := hB0.trans (KeepL.of3 hK (by simp) (by simp) (by simp)); have hC7 := hK.heap hC nc.1 nc.2.1 nc.2.2; replace hC := hC7; clear hC7; replace HX := hX7; replace hI0 := hI7; replace hB0 := hB7; replace hM0 := hM7; clear hX7 hI7 hB7 hM7 hK))) | fail)
  all_goals
    have k0 := cell_of_row _ W.heap.size 0 _ _ _ HX
    have k1 := cell_of_row _ W.heap.size 1 _ _ _ HX
    have k2 := cell_of_row _ W.heap.size 2 _ _ _ HX
    have k3 := cell_of_row _ W.heap.size 3 _ _ _ HX
    have k4 := cell_of_row _ W.heap.size 4 _ _ _ HX
    have k5 := cell_of_row _ W.heap.size 5 _ _ _ HX
    have k6 := cell_of_row _ W.heap.size 6 _ _ _ HX
    have k7 := cell_of_row _ W.heap.size 7 _ _ _ HX
    have k8 := cell_of_row _ W.heap.size 8 _ _ _ HX
    have d0 := cell_of_row _ p 0 _ _ _ hI0
    have f0 := frozen_of 0 hI0
    have d1 := cell_of_row _ p 1 _ _ _ hI0
    have f1 := frozen_of 1 hI0
    have d2 := cell_of_row _ p 2 _ _ _ hI0
    have f2 := frozen_of 2 hI0
    have d3 := cell_of_row _ p 3 _ _ _ hI0
    have f3 := frozen_of 3 hI0
    have d4 := cell_of_row _ p 4 _ _ _ hI0
    have f4 := frozen_of 4 hI0
    have d5 := cell_of_row _ p 5 _ _ _ hI0
    have f5 := frozen_of 5 hI0
    have e0 := cell_of_row _ Wc.heap.size 0 _ _ _ hC
    have e1 := cell_of_row _ Wc.heap.size 1 _ _ _ hC
    have e2 := cell_of_row _ Wc.heap.size 2 _ _ _ hC
    have e3 := cell_of_row _ Wc.heap.size 3 _ _ _ hC
    go_wp2
    go_quiet (fail)
    go_wp2
    go_ret
    obtain ⟨r1, r2⟩ := set_cell hM0 hB0 np 4 (.int .i64 ((k : Int) + 1))
    exact ⟨rfl, r1.drewN _, set_at hI0 _, r2.drewN _⟩
set_option maxHeartbeats 2000000 in
set_option maxRecDepth 100000 in
theorem SetStep3_last (who : Int) (g gw gh p : Nat) (m : Ms) (wv since y0 y1 y2 y3 : Int) (W : World) (hM : MemAt W g gw gh m) (k : Nat) (hk : k ≤ 100) (hl : y2 ≤ (k : Int) + 1) (hI : SetAt W p 3 wv since k false) (np : p ≠ g ∧ p ≠ gw ∧ p ≠ gh) (hz : Hid (0 ≤ wv ∧ wv < 18446744073709551616 ∧ y0 = wv % 4 ∧ y1 = wv / 4 % 64 ∧ y2 = wv / 256 % 1048576 ∧ y3 = wv / 268435456 % 68719476736)) (h1 : 18 + k < m.n) (hs : m.steps < 4611686018427387904) :
    Calls Try.prog 71 #[.pointer (some ⟨p, 0, none⟩), .agg #[.int .i64 4, .int .i64 1, .int .i64 2, .int .i64 30, .int .i64 100, .int .i64 600, .int .i64 3, .pointer (some ⟨g, 0, none⟩), .int .i64 who]] W fun e W' => e = .returned (.bool false) ∧ MemAt W' g gw gh (m.st who (18 + k) 0) ∧ SetAt W' p 4 (wv) (since) ((k : Int) + 1) false ∧ KeepL [p, g, gw, gh] W W' := by
  have HX : (W.alloc (.cells #[.int .i64 4, .int .i64 1, .int .i64 2, .int .i64 30, .int .i64 100, .int .i64 600, .int .i64 3, .pointer (some ⟨g, 0, none⟩), .int .i64 who] 87)).heap[W.heap.size]? = some (.cells #[.int .i64 4, .int .i64 1, .int .i64 2, .int .i64 30, .int .i64 100, .int .i64 600, .int .i64 3, .pointer (some ⟨g, 0, none⟩), .int .i64 who] 87 (0, 0)) := heap_alloc_new W _
  have hM0 := hM.below (below_new W (.cells #[.int .i64 4, .int .i64 1, .int .i64 2, .int .i64 30, .int .i64 100, .int .i64 600, .int .i64 3, .pointer (some ⟨g, 0, none⟩), .int .i64 who] 87))
  have hI0 : (W.alloc (.cells #[.int .i64 4, .int .i64 1, .int .i64 2, .int .i64 30, .int .i64 100, .int .i64 600, .int .i64 3, .pointer (some ⟨g, 0, none⟩), .int .i64 who] 87)).heap[p]? = _ := (Below.heap_alloc W _ p (lt_of_heap hI)).trans hI
  have hB0 : KeepL [p, g, gw, gh] W (W.alloc (.cells #[.int .i64 4, .int .i64 1, .int .i64 2, .int .i64 30, .int .i64 100, .int .i64 600, .int .i64 3, .pointer (some ⟨g, 0, none⟩), .int .i64 who] 87)) := KeepL.of_below (below_new _ _)
  have n0 : W.heap.size ≠ p := by have := lt_of_heap hI; omega
  have n1 : W.heap.size ≠ g := by have := hM.lt; omega
  have n2 : W.heap.size ≠ gw := by have := hM.ltw; omega
  have n3 : W.heap.size ≠ gh := by have := hM.lth; omega
  have hp := lt_of_heap hI
  go_enter Try.func71, Try.ntmps71
  go_wp2
  generalize hW0 : W.alloc (.cells #[.int .i64 4, .int .i64 1, .int .i64 2, .int .i64 30, .int .i64 100, .int .i64 600, .int .i64 3, .pointer (some ⟨g, 0, none⟩), .int .i64 who] 87) = W0 at HX hM0 hI0 hB0 ⊢
  clear hW0 hM hI
  replace hM0 := hM0.drew
  replace HX : W0.drew.heap[W.heap.size]? = _ := HX
  replace hI0 : W0.drew.heap[p]? = _ := hI0
  replace hB0 := hB0.drew
  (first | (go_region_held3 (fun w' => w'.cell? ⟨W.heap.size, 0, none⟩ = some (.int .i64 4) ∧ w'.cell? ⟨W.heap.size, 1, none⟩ = some (.int .i64 1) ∧ w'.cell? ⟨W.heap.size, 2, none⟩ = some (.int .i64 2) ∧ w'.cell? ⟨W.heap.size, 3, none⟩ = some (.int .i64 30) ∧ w'.cell? ⟨W.heap.size, 4, none⟩ = some (.int .i64 100) ∧ w'.cell? ⟨W.heap.size, 5, none⟩ = some (.int .i64 600) ∧ w'.cell? ⟨W.heap.size, 6, none⟩ = some (.int .i64 3) ∧ w'.cell? ⟨W.heap.size, 7, none⟩ = some (.pointer (some ⟨g, 0, none⟩)) ∧ w'.cell? ⟨W.heap.size, 8, none⟩ = some (.int .i64 who) ∧ w'.cell? ⟨p, 0, none⟩ = some (.int .i64 0) ∧ w'.cell? ⟨p, 1, none⟩ = some (.int .i64 3) ∧ w'.cell? ⟨p, 2, none⟩ = some (.int .u64 wv) ∧ w'.cell? ⟨p, 3, none⟩ = some (.int .u64 since) ∧ w'.cell? ⟨p, 4, none⟩ = some (.int .i64 k) ∧ w'.cell? ⟨p, 5, none⟩ = some (.bool false))
    (exact ⟨cell_of_row _ W.heap.size 0 _ _ _ HX, cell_of_row _ W.heap.size 1 _ _ _ HX, cell_of_row _ W.heap.size 2 _ _ _ HX, cell_of_row _ W.heap.size 3 _ _ _ HX, cell_of_row _ W.heap.size 4 _ _ _ HX, cell_of_row _ W.heap.size 5 _ _ _ HX, cell_of_row _ W.heap.size 6 _ _ _ HX, cell_of_row _ W.heap.size 7 _ _ _ HX, cell_of_row _ W.heap.size 8 _ _ _ HX, cell_of_row _ p 0 _ _ _ hI0, cell_of_row _ p 1 _ _ _ hI0, cell_of_row _ p 2 _ _ _ hI0, cell_of_row _ p 3 _ _ _ hI0, cell_of_row _ p 4 _ _ _ hI0, cell_of_row _ p 5 _ _ _ hI0⟩)
    (first
      | (go_at_call 69; refine (LC0 _).mono ?_; rintro e w5 ⟨rfl, hb⟩; replace hM0 := hM0.below hb; replace HX := (hb.block _ (by exact lt_of_heap HX)).trans HX; replace hI0 := (hb.block _ (by exact lt_of_heap hI0)).trans hI0; replace hB0 := hB0.trans (KeepL.of_below hb); clear hb))) | fail)
  have d2 := cell_of_row _ p 2 _ _ _ hI0
  go_wp2_with fail
  refine (Chunk_at wv y0 y1 y2 y3 _ hz).mono ?_
  rintro e Wc ⟨rfl, hb⟩
  replace hM0 := hM0.below hb; replace HX := (hb.block _ (by exact lt_of_heap HX)).trans HX; replace hI0 := (hb.block _ (by exact lt_of_heap hI0)).trans hI0; replace hB0 := hB0.trans (KeepL.of_below hb); clear hb
  clear d2
  have hC := heap_alloc_new Wc (.cells #[.int .i64 y0, .int .i64 y1, .int .i64 y2, .int .i64 y3] 44)
  have hb := below_new Wc (.cells #[.int .i64 y0, .int .i64 y1, .int .i64 y2, .int .i64 y3] 44)
  have nc : Wc.heap.size ≠ g ∧ Wc.heap.size ≠ gw ∧ Wc.heap.size ≠ gh := by have := hM0.lt; have := hM0.ltw; have := hM0.lth; omega
  have ncp : Wc.heap.size ≠ p ∧ Wc.heap.size ≠ W.heap.size := by have := lt_of_heap hI0; have := lt_of_heap HX; omega
  replace hM0 := hM0.below hb; replace HX := (hb.block _ (by exact lt_of_heap HX)).trans HX; replace hI0 := (hb.block _ (by exact lt_of_heap hI0)).trans hI0; replace hB0 := hB0.trans (KeepL.of_below hb); clear hb
  have k0 := cell_of_row _ W.heap.size 0 _ _ _ HX
  have k1 := cell_of_row _ W.heap.size 1 _ _ _ HX
  have k2 := cell_of_row _ W.heap.size 2 _ _ _ HX
  have k3 := cell_of_row _ W.heap.size 3 _ _ _ HX
  have k4 := cell_of_row _ W.heap.size 4 _ _ _ HX
  have k5 := cell_of_row _ W.heap.size 5 _ _ _ HX
  have k6 := cell_of_row _ W.heap.size 6 _ _ _ HX
  have k7 := cell_of_row _ W.heap.size 7 _ _ _ HX
  have k8 := cell_of_row _ W.heap.size 8 _ _ _ HX
  have d0 := cell_of_row _ p 0 _ _ _ hI0
  have f0 := frozen_of 0 hI0
  have d1 := cell_of_row _ p 1 _ _ _ hI0
  have f1 := frozen_of 1 hI0
  have d2 := cell_of_row _ p 2 _ _ _ hI0
  have f2 := frozen_of 2 hI0
  have d3 := cell_of_row _ p 3 _ _ _ hI0
  have f3 := frozen_of 3 hI0
  have d4 := cell_of_row _ p 4 _ _ _ hI0
  have f4 := frozen_of 4 hI0
  have d5 := cell_of_row _ p 5 _ _ _ hI0
  have f5 := frozen_of 5 hI0
  have e0 := cell_of_row _ Wc.heap.size 0 _ _ _ hC
  have e1 := cell_of_row _ Wc.heap.size 1 _ _ _ hC
  have e2 := cell_of_row _ Wc.heap.size 2 _ _ _ hC
  have e3 := cell_of_row _ Wc.heap.size 3 _ _ _ hC
  have HK18 : Hid (18 + (k : Int) = ((18 + k : Nat) : Int)) := by show 18 + (k : Int) = ((18 + k : Nat) : Int); omega
  have hwi : IntKind.i64.wrap (18 + (k : Int)) = 18 + (k : Int) := by rw [IntWalk.i64_left]; exact IntWalk.wrap64_in _ ⟨by omega, by omega⟩
  go_wp2
  clear k0 k1 k2 k3 k4 k5 k6 k7 k8 d0 d1 d2 d3 d4 d5 f0 f1 f2 f3 f4 f5 e0 e1 e2 e3
  replace hM0 := hM0.drew
  replace hB0 := hB0.drew
  generalize Wc.alloc (.cells #[.int .i64 y0, .int .i64 y1, .int .i64 y2, .int .i64 y3] 44) = W7 at hM0 hB0 HX hI0 hC ⊢
  replace HX : W7.drew.heap[W.heap.size]? = _ := HX
  replace hI0 : W7.drew.heap[p]? = _ := hI0
  replace hC : W7.drew.heap[Wc.heap.size]? = _ := hC
  (first | (go_region_held3 (fun w' => w'.cell? ⟨W.heap.size, 0, none⟩ = some (.int .i64 4) ∧ w'.cell? ⟨W.heap.size, 1, none⟩ = some (.int .i64 1) ∧ w'.cell? ⟨W.heap.size, 2, none⟩ = some (.int .i64 2) ∧ w'.cell? ⟨W.heap.size, 3, none⟩ = some (.int .i64 30) ∧ w'.cell? ⟨W.heap.size, 4, none⟩ = some (.int .i64 100) ∧ w'.cell? ⟨W.heap.size, 5, none⟩ = some (.int .i64 600) ∧ w'.cell? ⟨W.heap.size, 6, none⟩ = some (.int .i64 3) ∧ w'.cell? ⟨W.heap.size, 7, none⟩ = some (.pointer (some ⟨g, 0, none⟩)) ∧ w'.cell? ⟨W.heap.size, 8, none⟩ = some (.int .i64 who) ∧ w'.cell? ⟨p, 0, none⟩ = some (.int .i64 0) ∧ w'.cell? ⟨p, 1, none⟩ = some (.int .i64 3) ∧ w'.cell? ⟨p, 2, none⟩ = some (.int .u64 wv) ∧ w'.cell? ⟨p, 3, none⟩ = some (.int .u64 since) ∧ w'.cell? ⟨p, 4, none⟩ = some (.int .i64 (k : Nat)) ∧ w'.cell? ⟨p, 5, none⟩ = some (.bool false))
    (exact ⟨cell_of_row _ W.heap.size 0 _ _ _ HX, cell_of_row _ W.heap.size 1 _ _ _ HX, cell_of_row _ W.heap.size 2 _ _ _ HX, cell_of_row _ W.heap.size 3 _ _ _ HX, cell_of_row _ W.heap.size 4 _ _ _ HX, cell_of_row _ W.heap.size 5 _ _ _ HX, cell_of_row _ W.heap.size 6 _ _ _ HX, cell_of_row _ W.heap.size 7 _ _ _ HX, cell_of_row _ W.heap.size 8 _ _ _ HX, cell_of_row _ p 0 _ _ _ hI0, cell_of_row _ p 1 _ _ _ hI0, cell_of_row _ p 2 _ _ _ hI0, cell_of_row _ p 3 _ _ _ hI0, cell_of_row _ p 4 _ _ _ hI0, cell_of_row _ p 5 _ _ _ hI0⟩)
    (first
      | (go_at_call 85; refine (LB0 _).mono ?_; rintro e w5 ⟨rfl, hb⟩; replace hM0 := hM0.below hb; replace HX := (hb.block _ (by exact lt_of_heap HX)).trans HX; replace hI0 := (hb.block _ (by exact lt_of_heap hI0)).trans hI0; replace hB0 := hB0.trans (KeepL.of_below hb); replace hC := (hb.block _ (by exact lt_of_heap hC)).trans hC; clear hb)
      | (go_at_call 83; rw [HK18.out]; refine (EStore 4 1 2 30 100 600 3 who g gw gh m (18 + k) 0 _ hM0 h1 hs (by omega)).mono ?_; rintro e w7 ⟨rfl, hM7, hK⟩; have hX7 := hK.heap HX n1 n2 n3; have hI7 := hK.heap hI0 np.1 np.2.1 np.2.2; have hB7 := hB0.trans (KeepL.of3 hK (by simp) (by simp) (by simp)); have hC7 := hK.heap hC nc.1 nc.2.1 nc.2.2; replace hC := hC7; clear hC7; replace HX := hX7; replace hI0 := hI7; replace hB0 := hB7; replace hM0 := hM7; clear hX7 hI7 hB7 hM7 hK))) | fail)
  all_goals
    have k0 := cell_of_row _ W.heap.size 0 _ _ _ HX
    have k1 := cell_of_row _ W.heap.size 1 _ _ _ HX
    have k2 := cell_of_row _ W.heap.size 2 _ _ _ HX
    have k3 := cell_of_row _ W.heap.size 3 _ _ _ HX
    have k4 := cell_of_row _ W.heap.size 4 _ _ _ HX
    have k5 := cell_of_row _ W.heap.size 5 _ _ _ HX
    have k6 := cell_of_row _ W.heap.size 6 _ _ _ HX
    have k7 := cell_of_row _ W.heap.size 7 _ _ _ HX
    have k8 := cell_of_row _ W.heap.size 8 _ _ _ HX
    have d0 := cell_of_row _ p 0 _ _ _ hI0
    have f0 := frozen_of 0 hI0
    have d1 := cell_of_row _ p 1 _ _ _ hI0
    have f1 := frozen_of 1 hI0
    have d2 := cell_of_row _ p 2 _ _ _ hI0
    have f2 := frozen_of 2 hI0
    have d3 := cell_of_row _ p 3 _ _ _ hI0
    have f3 := frozen_of 3 hI0
    have d4 := cell_of_row _ p 4 _ _ _ hI0
    have f4 := frozen_of 4 hI0
    have d5 := cell_of_row _ p 5 _ _ _ hI0
    have f5 := frozen_of 5 hI0
    have e0 := cell_of_row _ Wc.heap.size 0 _ _ _ hC
    have e1 := cell_of_row _ Wc.heap.size 1 _ _ _ hC
    have e2 := cell_of_row _ Wc.heap.size 2 _ _ _ hC
    have e3 := cell_of_row _ Wc.heap.size 3 _ _ _ hC
    go_wp2
    go_quiet (fail)
    go_wp2
    go_ret
    obtain ⟨r1, r2⟩ := set_cell hM0 hB0 np 4 (.int .i64 ((k : Int) + 1))
    obtain ⟨r3, r4⟩ := set_cell (r1.drewN _) (r2.drewN _) np 1 (.int .i64 4)
    exact ⟨rfl, r3, set_pc (set_at hI0 _) _, r4⟩
set_option maxHeartbeats 2000000 in
set_option maxRecDepth 100000 in
theorem SetStep4 (who : Int) (g gw gh p : Nat) (m : Ms) (wv since at_ y0 y1 y2 y3 : Int) (W : World) (hM : MemAt W g gw gh m) (hI : SetAt W p 4 wv since at_ false) (np : p ≠ g ∧ p ≠ gw ∧ p ≠ gh) (hz : Hid (0 ≤ wv ∧ wv < 18446744073709551616 ∧ y0 = wv % 4 ∧ y1 = wv / 4 % 64 ∧ y2 = wv / 256 % 1048576 ∧ y3 = wv / 268435456 % 68719476736)) (h1 : 13 < m.n) (hs : m.steps < 4611686018427387904) :
    Calls Try.prog 71 #[.pointer (some ⟨p, 0, none⟩), .agg #[.int .i64 4, .int .i64 1, .int .i64 2, .int .i64 30, .int .i64 100, .int .i64 600, .int .i64 3, .pointer (some ⟨g, 0, none⟩), .int .i64 who]] W fun e W' => e = .returned (.bool false) ∧ MemAt W' g gw gh (m.st who 13 0) ∧ SetAt W' p 5 (wv) (since) (at_) false ∧ KeepL [p, g, gw, gh] W W' := by
  have HX : (W.alloc (.cells #[.int .i64 4, .int .i64 1, .int .i64 2, .int .i64 30, .int .i64 100, .int .i64 600, .int .i64 3, .pointer (some ⟨g, 0, none⟩), .int .i64 who] 87)).heap[W.heap.size]? = some (.cells #[.int .i64 4, .int .i64 1, .int .i64 2, .int .i64 30, .int .i64 100, .int .i64 600, .int .i64 3, .pointer (some ⟨g, 0, none⟩), .int .i64 who] 87 (0, 0)) := heap_alloc_new W _
  have hM0 := hM.below (below_new W (.cells #[.int .i64 4, .int .i64 1, .int .i64 2, .int .i64 30, .int .i64 100, .int .i64 600, .int .i64 3, .pointer (some ⟨g, 0, none⟩), .int .i64 who] 87))
  have hI0 : (W.alloc (.cells #[.int .i64 4, .int .i64 1, .int .i64 2, .int .i64 30, .int .i64 100, .int .i64 600, .int .i64 3, .pointer (some ⟨g, 0, none⟩), .int .i64 who] 87)).heap[p]? = _ := (Below.heap_alloc W _ p (lt_of_heap hI)).trans hI
  have hB0 : KeepL [p, g, gw, gh] W (W.alloc (.cells #[.int .i64 4, .int .i64 1, .int .i64 2, .int .i64 30, .int .i64 100, .int .i64 600, .int .i64 3, .pointer (some ⟨g, 0, none⟩), .int .i64 who] 87)) := KeepL.of_below (below_new _ _)
  have n0 : W.heap.size ≠ p := by have := lt_of_heap hI; omega
  have n1 : W.heap.size ≠ g := by have := hM.lt; omega
  have n2 : W.heap.size ≠ gw := by have := hM.ltw; omega
  have n3 : W.heap.size ≠ gh := by have := hM.lth; omega
  have hp := lt_of_heap hI
  go_enter Try.func71, Try.ntmps71
  go_wp2
  generalize hW0 : W.alloc (.cells #[.int .i64 4, .int .i64 1, .int .i64 2, .int .i64 30, .int .i64 100, .int .i64 600, .int .i64 3, .pointer (some ⟨g, 0, none⟩), .int .i64 who] 87) = W0 at HX hM0 hI0 hB0 ⊢
  clear hW0 hM hI
  replace hM0 := hM0.drew
  replace HX : W0.drew.heap[W.heap.size]? = _ := HX
  replace hI0 : W0.drew.heap[p]? = _ := hI0
  replace hB0 := hB0.drew
  (first | (go_region_held3 (fun w' => w'.cell? ⟨W.heap.size, 0, none⟩ = some (.int .i64 4) ∧ w'.cell? ⟨W.heap.size, 1, none⟩ = some (.int .i64 1) ∧ w'.cell? ⟨W.heap.size, 2, none⟩ = some (.int .i64 2) ∧ w'.cell? ⟨W.heap.size, 3, none⟩ = some (.int .i64 30) ∧ w'.cell? ⟨W.heap.size, 4, none⟩ = some (.int .i64 100) ∧ w'.cell? ⟨W.heap.size, 5, none⟩ = some (.int .i64 600) ∧ w'.cell? ⟨W.heap.size, 6, none⟩ = some (.int .i64 3) ∧ w'.cell? ⟨W.heap.size, 7, none⟩ = some (.pointer (some ⟨g, 0, none⟩)) ∧ w'.cell? ⟨W.heap.size, 8, none⟩ = some (.int .i64 who) ∧ w'.cell? ⟨p, 0, none⟩ = some (.int .i64 0) ∧ w'.cell? ⟨p, 1, none⟩ = some (.int .i64 4) ∧ w'.cell? ⟨p, 2, none⟩ = some (.int .u64 wv) ∧ w'.cell? ⟨p, 3, none⟩ = some (.int .u64 since) ∧ w'.cell? ⟨p, 4, none⟩ = some (.int .i64 at_) ∧ w'.cell? ⟨p, 5, none⟩ = some (.bool false))
    (exact ⟨cell_of_row _ W.heap.size 0 _ _ _ HX, cell_of_row _ W.heap.size 1 _ _ _ HX, cell_of_row _ W.heap.size 2 _ _ _ HX, cell_of_row _ W.heap.size 3 _ _ _ HX, cell_of_row _ W.heap.size 4 _ _ _ HX, cell_of_row _ W.heap.size 5 _ _ _ HX, cell_of_row _ W.heap.size 6 _ _ _ HX, cell_of_row _ W.heap.size 7 _ _ _ HX, cell_of_row _ W.heap.size 8 _ _ _ HX, cell_of_row _ p 0 _ _ _ hI0, cell_of_row _ p 1 _ _ _ hI0, cell_of_row _ p 2 _ _ _ hI0, cell_of_row _ p 3 _ _ _ hI0, cell_of_row _ p 4 _ _ _ hI0, cell_of_row _ p 5 _ _ _ hI0⟩)
    (first
      | (go_at_call 69; refine (LC0 _).mono ?_; rintro e w5 ⟨rfl, hb⟩; replace hM0 := hM0.below hb; replace HX := (hb.block _ (by exact lt_of_heap HX)).trans HX; replace hI0 := (hb.block _ (by exact lt_of_heap hI0)).trans hI0; replace hB0 := hB0.trans (KeepL.of_below hb); clear hb))) | fail)
  have d2 := cell_of_row _ p 2 _ _ _ hI0
  go_wp2_with fail
  refine (Chunk_at wv y0 y1 y2 y3 _ hz).mono ?_
  rintro e Wc ⟨rfl, hb⟩
  replace hM0 := hM0.below hb; replace HX := (hb.block _ (by exact lt_of_heap HX)).trans HX; replace hI0 := (hb.block _ (by exact lt_of_heap hI0)).trans hI0; replace hB0 := hB0.trans (KeepL.of_below hb); clear hb
  clear d2
  have hC := heap_alloc_new Wc (.cells #[.int .i64 y0, .int .i64 y1, .int .i64 y2, .int .i64 y3] 44)
  have hb := below_new Wc (.cells #[.int .i64 y0, .int .i64 y1, .int .i64 y2, .int .i64 y3] 44)
  have nc : Wc.heap.size ≠ g ∧ Wc.heap.size ≠ gw ∧ Wc.heap.size ≠ gh := by have := hM0.lt; have := hM0.ltw; have := hM0.lth; omega
  have ncp : Wc.heap.size ≠ p ∧ Wc.heap.size ≠ W.heap.size := by have := lt_of_heap hI0; have := lt_of_heap HX; omega
  replace hM0 := hM0.below hb; replace HX := (hb.block _ (by exact lt_of_heap HX)).trans HX; replace hI0 := (hb.block _ (by exact lt_of_heap hI0)).trans hI0; replace hB0 := hB0.trans (KeepL.of_below hb); clear hb
  have k0 := cell_of_row _ W.heap.size 0 _ _ _ HX
  have k1 := cell_of_row _ W.heap.size 1 _ _ _ HX
  have k2 := cell_of_row _ W.heap.size 2 _ _ _ HX
  have k3 := cell_of_row _ W.heap.size 3 _ _ _ HX
  have k4 := cell_of_row _ W.heap.size 4 _ _ _ HX
  have k5 := cell_of_row _ W.heap.size 5 _ _ _ HX
  have k6 := cell_of_row _ W.heap.size 6 _ _ _ HX
  have k7 := cell_of_row _ W.heap.size 7 _ _ _ HX
  have k8 := cell_of_row _ W.heap.size 8 _ _ _ HX
  have d0 := cell_of_row _ p 0 _ _ _ hI0
  have f0 := frozen_of 0 hI0
  have d1 := cell_of_row _ p 1 _ _ _ hI0
  have f1 := frozen_of 1 hI0
  have d2 := cell_of_row _ p 2 _ _ _ hI0
  have f2 := frozen_of 2 hI0
  have d3 := cell_of_row _ p 3 _ _ _ hI0
  have f3 := frozen_of 3 hI0
  have d4 := cell_of_row _ p 4 _ _ _ hI0
  have f4 := frozen_of 4 hI0
  have d5 := cell_of_row _ p 5 _ _ _ hI0
  have f5 := frozen_of 5 hI0
  have e0 := cell_of_row _ Wc.heap.size 0 _ _ _ hC
  have e1 := cell_of_row _ Wc.heap.size 1 _ _ _ hC
  have e2 := cell_of_row _ Wc.heap.size 2 _ _ _ hC
  have e3 := cell_of_row _ Wc.heap.size 3 _ _ _ hC
  go_wp2_with fail
  refine (EStore 4 1 2 30 100 600 3 who g gw gh m 13 0 _ hM0 h1 hs (by omega)).mono ?_
  rintro e w7 ⟨rfl, hM7, hK⟩
  have hX7 := hK.heap HX n1 n2 n3; have hI7 := hK.heap hI0 np.1 np.2.1 np.2.2; have hB7 := hB0.trans (KeepL.of3 hK (by simp) (by simp) (by simp)); have hC7 := hK.heap hC nc.1 nc.2.1 nc.2.2; replace hC := hC7; clear hC7; replace HX := hX7; replace hI0 := hI7; replace hB0 := hB7; replace hM0 := hM7; clear hX7 hI7 hB7 hM7 hK
  clear k0 k1 k2 k3 k4 k5 k6 k7 k8 d0 d1 d2 d3 d4 d5 f0 f1 f2 f3 f4 f5 e0 e1 e2 e3
  have k0 := cell_of_row _ W.heap.size 0 _ _ _ HX
  have k1 := cell_of_row _ W.heap.size 1 _ _ _ HX
  have k2 := cell_of_row _ W.heap.size 2 _ _ _ HX
  have k3 := cell_of_row _ W.heap.size 3 _ _ _ HX
  have k4 := cell_of_row _ W.heap.size 4 _ _ _ HX
  have k5 := cell_of_row _ W.heap.size 5 _ _ _ HX
  have k6 := cell_of_row _ W.heap.size 6 _ _ _ HX
  have k7 := cell_of_row _ W.heap.size 7 _ _ _ HX
  have k8 := cell_of_row _ W.heap.size 8 _ _ _ HX
  have d0 := cell_of_row _ p 0 _ _ _ hI0
  have f0 := frozen_of 0 hI0
  have d1 := cell_of_row _ p 1 _ _ _ hI0
  have f1 := frozen_of 1 hI0
  have d2 := cell_of_row _ p 2 _ _ _ hI0
  have f2 := frozen_of 2 hI0
  have d3 := cell_of_row _ p 3 _ _ _ hI0
  have f3 := frozen_of 3 hI0
  have d4 := cell_of_row _ p 4 _ _ _ hI0
  have f4 := frozen_of 4 hI0
  have d5 := cell_of_row _ p 5 _ _ _ hI0
  have f5 := frozen_of 5 hI0
  have e0 := cell_of_row _ Wc.heap.size 0 _ _ _ hC
  have e1 := cell_of_row _ Wc.heap.size 1 _ _ _ hC
  have e2 := cell_of_row _ Wc.heap.size 2 _ _ _ hC
  have e3 := cell_of_row _ Wc.heap.size 3 _ _ _ hC
  obtain ⟨r3, r4⟩ := set_cell hM0 hB0 np 1 (.int .i64 5)
  have r5 := set_pc hI0 5
  go_wp2
  go_ret
  exact ⟨rfl, r3, r5, r4⟩
set_option maxHeartbeats 2000000 in
set_option maxRecDepth 100000 in
theorem SetStep5 (who : Int) (g gw gh p : Nat) (m : Ms) (wv since at_ y0 y1 y2 y3 : Int) (W : World) (hM : MemAt W g gw gh m) (h3 : 0 ≤ y3 ∧ y3 ≤ 1000) (hI : SetAt W p 5 wv since at_ false) (np : p ≠ g ∧ p ≠ gw ∧ p ≠ gh) (hz : Hid (0 ≤ wv ∧ wv < 18446744073709551616 ∧ y0 = wv % 4 ∧ y1 = wv / 4 % 64 ∧ y2 = wv / 256 % 1048576 ∧ y3 = wv / 268435456 % 68719476736)) (h1 : 12 < m.n) (hs : m.steps < 4611686018427387904) :
    Calls Try.prog 71 #[.pointer (some ⟨p, 0, none⟩), .agg #[.int .i64 4, .int .i64 1, .int .i64 2, .int .i64 30, .int .i64 100, .int .i64 600, .int .i64 3, .pointer (some ⟨g, 0, none⟩), .int .i64 who]] W fun e W' => e = .returned (.bool true) ∧ MemAt W' g gw gh (m.st who 12 (putChunk 0 0 0 (y3 + 1))) ∧ SetAt W' p 5 (wv) (since) (at_) true ∧ KeepL [p, g, gw, gh] W W' := by
  have HX : (W.alloc (.cells #[.int .i64 4, .int .i64 1, .int .i64 2, .int .i64 30, .int .i64 100, .int .i64 600, .int .i64 3, .pointer (some ⟨g, 0, none⟩), .int .i64 who] 87)).heap[W.heap.size]? = some (.cells #[.int .i64 4, .int .i64 1, .int .i64 2, .int .i64 30, .int .i64 100, .int .i64 600, .int .i64 3, .pointer (some ⟨g, 0, none⟩), .int .i64 who] 87 (0, 0)) := heap_alloc_new W _
  have hM0 := hM.below (below_new W (.cells #[.int .i64 4, .int .i64 1, .int .i64 2, .int .i64 30, .int .i64 100, .int .i64 600, .int .i64 3, .pointer (some ⟨g, 0, none⟩), .int .i64 who] 87))
  have hI0 : (W.alloc (.cells #[.int .i64 4, .int .i64 1, .int .i64 2, .int .i64 30, .int .i64 100, .int .i64 600, .int .i64 3, .pointer (some ⟨g, 0, none⟩), .int .i64 who] 87)).heap[p]? = _ := (Below.heap_alloc W _ p (lt_of_heap hI)).trans hI
  have hB0 : KeepL [p, g, gw, gh] W (W.alloc (.cells #[.int .i64 4, .int .i64 1, .int .i64 2, .int .i64 30, .int .i64 100, .int .i64 600, .int .i64 3, .pointer (some ⟨g, 0, none⟩), .int .i64 who] 87)) := KeepL.of_below (below_new _ _)
  have n0 : W.heap.size ≠ p := by have := lt_of_heap hI; omega
  have n1 : W.heap.size ≠ g := by have := hM.lt; omega
  have n2 : W.heap.size ≠ gw := by have := hM.ltw; omega
  have n3 : W.heap.size ≠ gh := by have := hM.lth; omega
  have hp := lt_of_heap hI
  go_enter Try.func71, Try.ntmps71
  go_wp2
  generalize hW0 : W.alloc (.cells #[.int .i64 4, .int .i64 1, .int .i64 2, .int .i64 30, .int .i64 100, .int .i64 600, .int .i64 3, .pointer (some ⟨g, 0, none⟩), .int .i64 who] 87) = W0 at HX hM0 hI0 hB0 ⊢
  clear hW0 hM hI
  replace hM0 := hM0.drew
  replace HX : W0.drew.heap[W.heap.size]? = _ := HX
  replace hI0 : W0.drew.heap[p]? = _ := hI0
  replace hB0 := hB0.drew
  (first | (go_region_held3 (fun w' => w'.cell? ⟨W.heap.size, 0, none⟩ = some (.int .i64 4) ∧ w'.cell? ⟨W.heap.size, 1, none⟩ = some (.int .i64 1) ∧ w'.cell? ⟨W.heap.size, 2, none⟩ = some (.int .i64 2) ∧ w'.cell? ⟨W.heap.size, 3, none⟩ = some (.int .i64 30) ∧ w'.cell? ⟨W.heap.size, 4, none⟩ = some (.int .i64 100) ∧ w'.cell? ⟨W.heap.size, 5, none⟩ = some (.int .i64 600) ∧ w'.cell? ⟨W.heap.size, 6, none⟩ = some (.int .i64 3) ∧ w'.cell? ⟨W.heap.size, 7, none⟩ = some (.pointer (some ⟨g, 0, none⟩)) ∧ w'.cell? ⟨W.heap.size, 8, none⟩ = some (.int .i64 who) ∧ w'.cell? ⟨p, 0, none⟩ = some (.int .i64 0) ∧ w'.cell? ⟨p, 1, none⟩ = some (.int .i64 5) ∧ w'.cell? ⟨p, 2, none⟩ = some (.int .u64 wv) ∧ w'.cell? ⟨p, 3, none⟩ = some (.int .u64 since) ∧ w'.cell? ⟨p, 4, none⟩ = some (.int .i64 at_) ∧ w'.cell? ⟨p, 5, none⟩ = some (.bool false))
    (exact ⟨cell_of_row _ W.heap.size 0 _ _ _ HX, cell_of_row _ W.heap.size 1 _ _ _ HX, cell_of_row _ W.heap.size 2 _ _ _ HX, cell_of_row _ W.heap.size 3 _ _ _ HX, cell_of_row _ W.heap.size 4 _ _ _ HX, cell_of_row _ W.heap.size 5 _ _ _ HX, cell_of_row _ W.heap.size 6 _ _ _ HX, cell_of_row _ W.heap.size 7 _ _ _ HX, cell_of_row _ W.heap.size 8 _ _ _ HX, cell_of_row _ p 0 _ _ _ hI0, cell_of_row _ p 1 _ _ _ hI0, cell_of_row _ p 2 _ _ _ hI0, cell_of_row _ p 3 _ _ _ hI0, cell_of_row _ p 4 _ _ _ hI0, cell_of_row _ p 5 _ _ _ hI0⟩)
    (first
      | (go_at_call 69; refine (LC0 _).mono ?_; rintro e w5 ⟨rfl, hb⟩; replace hM0 := hM0.below hb; replace HX := (hb.block _ (by exact lt_of_heap HX)).trans HX; replace hI0 := (hb.block _ (by exact lt_of_heap hI0)).trans hI0; replace hB0 := hB0.trans (KeepL.of_below hb); clear hb))) | fail)
  have d2 := cell_of_row _ p 2 _ _ _ hI0
  go_wp2_with fail
  refine (Chunk_at wv y0 y1 y2 y3 _ hz).mono ?_
  rintro e Wc ⟨rfl, hb⟩
  replace hM0 := hM0.below hb; replace HX := (hb.block _ (by exact lt_of_heap HX)).trans HX; replace hI0 := (hb.block _ (by exact lt_of_heap hI0)).trans hI0; replace hB0 := hB0.trans (KeepL.of_below hb); clear hb
  clear d2
  have hC := heap_alloc_new Wc (.cells #[.int .i64 y0, .int .i64 y1, .int .i64 y2, .int .i64 y3] 44)
  have hb := below_new Wc (.cells #[.int .i64 y0, .int .i64 y1, .int .i64 y2, .int .i64 y3] 44)
  have nc : Wc.heap.size ≠ g ∧ Wc.heap.size ≠ gw ∧ Wc.heap.size ≠ gh := by have := hM0.lt; have := hM0.ltw; have := hM0.lth; omega
  have ncp : Wc.heap.size ≠ p ∧ Wc.heap.size ≠ W.heap.size := by have := lt_of_heap hI0; have := lt_of_heap HX; omega
  replace hM0 := hM0.below hb; replace HX := (hb.block _ (by exact lt_of_heap HX)).trans HX; replace hI0 := (hb.block _ (by exact lt_of_heap hI0)).trans hI0; replace hB0 := hB0.trans (KeepL.of_below hb); clear hb
  have k0 := cell_of_row _ W.heap.size 0 _ _ _ HX
  have k1 := cell_of_row _ W.heap.size 1 _ _ _ HX
  have k2 := cell_of_row _ W.heap.size 2 _ _ _ HX
  have k3 := cell_of_row _ W.heap.size 3 _ _ _ HX
  have k4 := cell_of_row _ W.heap.size 4 _ _ _ HX
  have k5 := cell_of_row _ W.heap.size 5 _ _ _ HX
  have k6 := cell_of_row _ W.heap.size 6 _ _ _ HX
  have k7 := cell_of_row _ W.heap.size 7 _ _ _ HX
  have k8 := cell_of_row _ W.heap.size 8 _ _ _ HX
  have d0 := cell_of_row _ p 0 _ _ _ hI0
  have f0 := frozen_of 0 hI0
  have d1 := cell_of_row _ p 1 _ _ _ hI0
  have f1 := frozen_of 1 hI0
  have d2 := cell_of_row _ p 2 _ _ _ hI0
  have f2 := frozen_of 2 hI0
  have d3 := cell_of_row _ p 3 _ _ _ hI0
  have f3 := frozen_of 3 hI0
  have d4 := cell_of_row _ p 4 _ _ _ hI0
  have f4 := frozen_of 4 hI0
  have d5 := cell_of_row _ p 5 _ _ _ hI0
  have f5 := frozen_of 5 hI0
  have e0 := cell_of_row _ Wc.heap.size 0 _ _ _ hC
  have e1 := cell_of_row _ Wc.heap.size 1 _ _ _ hC
  have e2 := cell_of_row _ Wc.heap.size 2 _ _ _ hC
  have e3 := cell_of_row _ Wc.heap.size 3 _ _ _ hC
  have HPB := Lib.hid (putChunk_bd 0 0 0 (y3 + 1))
  obtain ⟨h30, h31⟩ := h3
  have hwi : IntKind.i64.wrap (y3 + 1) = y3 + 1 := by rw [IntWalk.i64_left]; exact IntWalk.wrap64_in _ ⟨by omega, by omega⟩
  go_wp2
  clear k0 k1 k2 k3 k4 k5 k6 k7 k8 d0 d1 d2 d3 d4 d5 f0 f1 f2 f3 f4 f5 e0 e1 e2 e3
  replace hM0 := hM0.drew
  replace hB0 := hB0.drew
  generalize Wc.alloc (.cells #[.int .i64 y0, .int .i64 y1, .int .i64 y2, .int .i64 y3] 44) = W7 at hM0 hB0 HX hI0 hC ⊢
  replace HX : W7.drew.heap[W.heap.size]? = _ := HX
  replace hI0 : W7.drew.heap[p]? = _ := hI0
  replace hC : W7.drew.heap[Wc.heap.size]? = _ := hC
  (first | (go_region_held3 (fun w' => w'.cell? ⟨W.heap.size, 0, none⟩ = some (.int .i64 4) ∧ w'.cell? ⟨W.heap.size, 1, none⟩ = some (.int .i64 1) ∧ w'.cell? ⟨W.heap.size, 2, none⟩ = some (.int .i64 2) ∧ w'.cell? ⟨W.heap.size, 3, none⟩ = some (.int .i64 30) ∧ w'.cell? ⟨W.heap.size, 4, none⟩ = some (.int .i64 100) ∧ w'.cell? ⟨W.heap.size, 5, none⟩ = some (.int .i64 600) ∧ w'.cell? ⟨W.heap.size, 6, none⟩ = some (.int .i64 3) ∧ w'.cell? ⟨W.heap.size, 7, none⟩ = some (.pointer (some ⟨g, 0, none⟩)) ∧ w'.cell? ⟨W.heap.size, 8, none⟩ = some (.int .i64 who) ∧ w'.cell? ⟨p, 0, none⟩ = some (.int .i64 0) ∧ w'.cell? ⟨p, 1, none⟩ = some (.int .i64 5) ∧ w'.cell? ⟨p, 2, none⟩ = some (.int .u64 wv) ∧ w'.cell? ⟨p, 3, none⟩ = some (.int .u64 since) ∧ w'.cell? ⟨p, 4, none⟩ = some (.int .i64 at_) ∧ w'.cell? ⟨p, 5, none⟩ = some (.bool false) ∧ w'.cell? ⟨Wc.heap.size, 3, none⟩ = some (.int .i64 y3))
    (exact ⟨cell_of_row _ W.heap.size 0 _ _ _ HX, cell_of_row _ W.heap.size 1 _ _ _ HX, cell_of_row _ W.heap.size 2 _ _ _ HX, cell_of_row _ W.heap.size 3 _ _ _ HX, cell_of_row _ W.heap.size 4 _ _ _ HX, cell_of_row _ W.heap.size 5 _ _ _ HX, cell_of_row _ W.heap.size 6 _ _ _ HX, cell_of_row _ W.heap.size 7 _ _ _ HX, cell_of_row _ W.heap.size 8 _ _ _ HX, cell_of_row _ p 0 _ _ _ hI0, cell_of_row _ p 1 _ _ _ hI0, cell_of_row _ p 2 _ _ _ hI0, cell_of_row _ p 3 _ _ _ hI0, cell_of_row _ p 4 _ _ _ hI0, cell_of_row _ p 5 _ _ _ hI0, cell_of_row _ Wc.heap.size 3 _ _ _ hC⟩)
    (first
      | (go_at_call 34; refine (PutChunk_any 0 0 0 (y3 + 1) _).mono ?_; rintro e w5 ⟨rfl, hb⟩; replace hM0 := hM0.below hb; replace HX := (hb.block _ (by exact lt_of_heap HX)).trans HX; replace hI0 := (hb.block _ (by exact lt_of_heap hI0)).trans hI0; replace hB0 := hB0.trans (KeepL.of_below hb); replace hC := (hb.block _ (by exact lt_of_heap hC)).trans hC; clear hb)
      | (go_at_call 83; refine (EStore 4 1 2 30 100 600 3 who g gw gh m 12 (putChunk 0 0 0 (y3 + 1)) _ hM0 h1 hs HPB.out).mono ?_; rintro e w7 ⟨rfl, hM7, hK⟩; have hX7 := hK.heap HX n1 n2 n3; have hI7 := hK.heap hI0 np.1 np.2.1 np.2.2; have hB7 := hB0.trans (KeepL.of3 hK (by simp) (by simp) (by simp)); have hC7 := hK.heap hC nc.1 nc.2.1 nc.2.2; replace hC := hC7; clear hC7; replace HX := hX7; replace hI0 := hI7; replace hB0 := hB7; replace hM0 := hM7; clear hX7 hI7 hB7 hM7 hK))) | fail)
  all_goals
    have k0 := cell_of_row _ W.heap.size 0 _ _ _ HX
    have k1 := cell_of_row _ W.heap.size 1 _ _ _ HX
    have k2 := cell_of_row _ W.heap.size 2 _ _ _ HX
    have k3 := cell_of_row _ W.heap.size 3 _ _ _ HX
    have k4 := cell_of_row _ W.heap.size 4 _ _ _ HX
    have k5 := cell_of_row _ W.heap.size 5 _ _ _ HX
    have k6 := cell_of_row _ W.heap.size 6 _ _ _ HX
    have k7 := cell_of_row _ W.heap.size 7 _ _ _ HX
    have k8 := cell_of_row _ W.heap.size 8 _ _ _ HX
    have d0 := cell_of_row _ p 0 _ _ _ hI0
    have f0 := frozen_of 0 hI0
    have d1 := cell_of_row _ p 1 _ _ _ hI0
    have f1 := frozen_of 1 hI0
    have d2 := cell_of_row _ p 2 _ _ _ hI0
    have f2 := frozen_of 2 hI0
    have d3 := cell_of_row _ p 3 _ _ _ hI0
    have f3 := frozen_of 3 hI0
    have d4 := cell_of_row _ p 4 _ _ _ hI0
    have f4 := frozen_of 4 hI0
    have d5 := cell_of_row _ p 5 _ _ _ hI0
    have f5 := frozen_of 5 hI0
    have e0 := cell_of_row _ Wc.heap.size 0 _ _ _ hC
    have e1 := cell_of_row _ Wc.heap.size 1 _ _ _ hC
    have e2 := cell_of_row _ Wc.heap.size 2 _ _ _ hC
    have e3 := cell_of_row _ Wc.heap.size 3 _ _ _ hC
    go_wp2
    go_ret
    obtain ⟨r1, r2⟩ := set_cell hM0 hB0 np 5 (.bool true)
    exact ⟨rfl, r1, set_fr hI0 _, r2⟩
theorem SetFreed (p : Nat) (pc wv since at_ : Int) (fr : Bool) (W : World) (hI : SetAt W p pc wv since at_ fr) :
    Calls Try.prog 73 #[.pointer (some ⟨p, 0, none⟩)] W fun e W' => e = .returned (.bool fr) ∧ W' = W := by
  have d5 : W.cell? ⟨p, 5, none⟩ = _ := cell_of_row W p 5 _ _ _ hI
  go_enter Try.func73, Try.ntmps73
  go_wp2
  go_ret
  exact ⟨rfl, rfl⟩
theorem SetFreed_nil (W : World) : Calls Try.prog 73 #[.pointer none] W fun e W' => e = .returned (.bool false) ∧ W' = W := by
  go_enter Try.func73, Try.ntmps73
  go_wp2
  go_ret
  exact ⟨rfl, rfl⟩
end Go.Proofs.Ytnpjfdiapoghnaa
