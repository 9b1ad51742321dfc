/- Layer 13, epoch: what the compactor's steps to let the epoch go on do, by walks. -/
import Derived.Test.YtnpjfdiapoghnaaPin
import Derived.Deep.RegionHeld3
namespace Go.Proofs.Ytnpjfdiapoghnaa
open Go Go.RowKit

/-- A compactor that lets the epoch go on, in block p. -/
def AdvAt (W : World) (p : Nat) (pc now at_ : Int) (went : Bool) : Prop := W.heap[p]? = some (.cells #[.int .i64 pc, .int .u64 now, .int .i64 at_, .bool went] 107 (0, 0))

section
variable {W1 : World} {p g gw gh : Nat} {m : Ms} {pc now at_ : Int} {went : Bool}
theorem adv_set (hM : MemAt W1 g gw gh m) (np : p ≠ g ∧ p ≠ gw ∧ p ≠ gh) (i : Nat) (v : Value) : MemAt (W1.setCell ⟨p, i, none⟩ v) g gw gh m ∧ KeepL [p, g, gw, gh] W1 (W1.setCell ⟨p, i, none⟩ v) :=
  ⟨hM.far (p := ⟨p, i, none⟩) _ (Ne.symm np.1) (Ne.symm np.2.1) (Ne.symm np.2.2), KeepL.refl.setCell (p := ⟨p, i, none⟩) (by simp) _⟩
theorem adv_pc (hI : W1.heap[p]? = some (.cells #[.int .i64 pc, .int .u64 now, .int .i64 at_, .bool went] 107 (0, 0))) (x : Int) : AdvAt (W1.setCell ⟨p, 0, none⟩ (.int .i64 x)) p x now at_ went := heap_set_self 0 _ hI
theorem adv_now (hI : W1.heap[p]? = some (.cells #[.int .i64 pc, .int .u64 now, .int .i64 at_, .bool went] 107 (0, 0))) (x : Int) : AdvAt (W1.setCell ⟨p, 1, none⟩ (.int .u64 x)) p pc x at_ went := heap_set_self 1 _ hI
theorem adv_at (hI : W1.heap[p]? = some (.cells #[.int .i64 pc, .int .u64 now, .int .i64 at_, .bool went] 107 (0, 0))) (x : Int) : AdvAt (W1.setCell ⟨p, 2, none⟩ (.int .i64 x)) p pc now x went := heap_set_self 2 _ hI
theorem adv_went (hI : W1.heap[p]? = some (.cells #[.int .i64 pc, .int .u64 now, .int .i64 at_, .bool went] 107 (0, 0))) (x : Bool) : AdvAt (W1.setCell ⟨p, 3, none⟩ (.bool x)) p pc now at_ x := heap_set_self 3 _ hI
end
set_option maxHeartbeats 1000000 in
set_option maxRecDepth 100000 in
theorem AdvStep0 (th sl ch wo ge sp tr who : Int) (g gw gh p : Nat) (m : Ms) (now at_ : Int) (W : World) (hM : MemAt W g gw gh m) (hI : AdvAt W p 0 now at_ false) (np : p ≠ g ∧ p ≠ gw ∧ p ≠ gh) (h1 : 0 < m.n) (hs : m.steps < 4611686018427387904) :
    Calls Try.prog 68 #[.pointer (some ⟨p, 0, none⟩), .agg #[.int .i64 th, .int .i64 sl, .int .i64 ch, .int .i64 wo, .int .i64 ge, .int .i64 sp, .int .i64 tr, .pointer (some ⟨g, 0, none⟩), .int .i64 who]] W fun e W' => e = .returned (.bool false) ∧ MemAt W' g gw gh (m.ld who 0) ∧ AdvAt W' p 1 (m.w 0) (at_) false ∧ KeepL [p, g, gw, gh] W W' := by
  have HX : (W.alloc (.cells #[.int .i64 th, .int .i64 sl, .int .i64 ch, .int .i64 wo, .int .i64 ge, .int .i64 sp, .int .i64 tr, .pointer (some ⟨g, 0, none⟩), .int .i64 who] 87)).heap[W.heap.size]? = some (.cells #[.int .i64 th, .int .i64 sl, .int .i64 ch, .int .i64 wo, .int .i64 ge, .int .i64 sp, .int .i64 tr, .pointer (some ⟨g, 0, none⟩), .int .i64 who] 87 (0, 0)) := heap_alloc_new W _
  have hM0 := hM.below (below_new W (.cells #[.int .i64 th, .int .i64 sl, .int .i64 ch, .int .i64 wo, .int .i64 ge, .int .i64 sp, .int .i64 tr, .pointer (some ⟨g, 0, none⟩), .int .i64 who] 87))
  have hI0 : (W.alloc (.cells #[.int .i64 th, .int .i64 sl, .int .i64 ch, .int .i64 wo, .int .i64 ge, .int .i64 sp, .int .i64 tr, .pointer (some ⟨g, 0, none⟩), .int .i64 who] 87)).heap[p]? = _ := (Below.heap_alloc W _ p (lt_of_heap hI)).trans hI
  have hB0 : KeepL [p, g, gw, gh] W (W.alloc (.cells #[.int .i64 th, .int .i64 sl, .int .i64 ch, .int .i64 wo, .int .i64 ge, .int .i64 sp, .int .i64 tr, .pointer (some ⟨g, 0, none⟩), .int .i64 who] 87)) := KeepL.of_below (below_new _ _)
  have n0 : W.heap.size ≠ p := by have := lt_of_heap hI; omega
  have n1 : W.heap.size ≠ g := by have := hM.lt; omega
  have n2 : W.heap.size ≠ gw := by have := hM.ltw; omega
  have n3 : W.heap.size ≠ gh := by have := hM.lth; omega
  have hp := lt_of_heap hI
  have c0 : W.cell? ⟨p, 0, none⟩ = _ := cell_of_row W p 0 _ _ _ hI
  have c1 : W.cell? ⟨p, 1, none⟩ = _ := cell_of_row W p 1 _ _ _ hI
  have c2 : W.cell? ⟨p, 2, none⟩ = _ := cell_of_row W p 2 _ _ _ hI
  have c3 : W.cell? ⟨p, 3, none⟩ = _ := cell_of_row W p 3 _ _ _ hI
  go_enter Try.func68, Try.ntmps68
  go_wp2
  generalize hW0 : W.alloc (.cells #[.int .i64 th, .int .i64 sl, .int .i64 ch, .int .i64 wo, .int .i64 ge, .int .i64 sp, .int .i64 tr, .pointer (some ⟨g, 0, none⟩), .int .i64 who] 87) = W0 at HX hM0 hI0 hB0 ⊢
  clear hW0 hM hI c0 c1 c2 c3
  have k0 := cell_of_row _ W.heap.size 0 _ _ _ HX
  have k1 := cell_of_row _ W.heap.size 1 _ _ _ HX
  have k2 := cell_of_row _ W.heap.size 2 _ _ _ HX
  have k3 := cell_of_row _ W.heap.size 3 _ _ _ HX
  have k4 := cell_of_row _ W.heap.size 4 _ _ _ HX
  have k5 := cell_of_row _ W.heap.size 5 _ _ _ HX
  have k6 := cell_of_row _ W.heap.size 6 _ _ _ HX
  have k7 := cell_of_row _ W.heap.size 7 _ _ _ HX
  have k8 := cell_of_row _ W.heap.size 8 _ _ _ HX
  have d0 := cell_of_row W0 p 0 _ _ _ hI0
  have d1 := cell_of_row W0 p 1 _ _ _ hI0
  have d2 := cell_of_row W0 p 2 _ _ _ hI0
  have d3 := cell_of_row W0 p 3 _ _ _ hI0
  have f0 := frozen_of 0 hI0
  have f1 := frozen_of 1 hI0
  have f2 := frozen_of 2 hI0
  have f3 := frozen_of 3 hI0
  (first | (go_region_with (first
    | (go_at_call 62; refine (LEpoch_any _).mono ?_; rintro e w9 ⟨rfl, hw⟩; obtain rfl := hw.symm; clear hw)
    | (go_at_call 82; refine (ELoad th sl ch wo ge sp tr who g gw gh m 0 _ hM0.drew h1 hs).mono ?_; rintro e W1 ⟨rfl, hM1, hK1⟩; have hI1 := hK1.heap (b := p) (W := W0.drew) hI0 np.1 np.2.1 np.2.2; clear d0 d1 d2 d3 f0 f1 f2 f3; have d0 := cell_of_row W1 p 0 _ _ _ hI1; have d1 := cell_of_row W1 p 1 _ _ _ hI1; have d2 := cell_of_row W1 p 2 _ _ _ hI1; have d3 := cell_of_row W1 p 3 _ _ _ hI1; have f0 := frozen_of 0 hI1; have f1 := frozen_of 1 hI1; have f2 := frozen_of 2 hI1; have f3 := frozen_of 3 hI1))) | fail)
  all_goals go_wp2
  all_goals go_ret
  all_goals
    obtain ⟨r1, r2⟩ := adv_set hM1 np 1 (.int .u64 (m.w 0))
    obtain ⟨r3, r4⟩ := adv_set r1 np 0 (.int .i64 1)
    exact ⟨rfl, r3, adv_pc (adv_now hI1 _) _, ((hB0.drew.trans (KeepL.of3 hK1 (by simp) (by simp) (by simp))).trans r2).trans r4⟩
set_option maxHeartbeats 1000000 in
set_option maxRecDepth 100000 in
theorem AdvStep1_stop (th sl ch wo ge sp tr who : Int) (g gw gh p : Nat) (m : Ms) (now : Int) (W : World) (hM : MemAt W g gw gh m) (k : Nat) (hk8 : k ≤ 100) (now1 : Int) (hn1 : IntKind.u64.wrap (now + 1) = now1) (hI : AdvAt W p 1 now k false) (np : p ≠ g ∧ p ≠ gw ∧ p ≠ gh) (h1 : 6 + k < m.n) (hs : m.steps < 4611686018427387904) (e0 : (m.w (6 + k) != 0) = true) (e1 : (m.w (6 + k) != now1) = true) :
    Calls Try.prog 68 #[.pointer (some ⟨p, 0, none⟩), .agg #[.int .i64 th, .int .i64 sl, .int .i64 ch, .int .i64 wo, .int .i64 ge, .int .i64 sp, .int .i64 tr, .pointer (some ⟨g, 0, none⟩), .int .i64 who]] W fun e W' => e = .returned (.bool true) ∧ MemAt W' g gw gh (m.ld who (6 + k)) ∧ AdvAt W' p 1 (now) (k) false ∧ KeepL [p, g, gw, gh] W W' := by
  have HX : (W.alloc (.cells #[.int .i64 th, .int .i64 sl, .int .i64 ch, .int .i64 wo, .int .i64 ge, .int .i64 sp, .int .i64 tr, .pointer (some ⟨g, 0, none⟩), .int .i64 who] 87)).heap[W.heap.size]? = some (.cells #[.int .i64 th, .int .i64 sl, .int .i64 ch, .int .i64 wo, .int .i64 ge, .int .i64 sp, .int .i64 tr, .pointer (some ⟨g, 0, none⟩), .int .i64 who] 87 (0, 0)) := heap_alloc_new W _
  have hM0 := hM.below (below_new W (.cells #[.int .i64 th, .int .i64 sl, .int .i64 ch, .int .i64 wo, .int .i64 ge, .int .i64 sp, .int .i64 tr, .pointer (some ⟨g, 0, none⟩), .int .i64 who] 87))
  have hI0 : (W.alloc (.cells #[.int .i64 th, .int .i64 sl, .int .i64 ch, .int .i64 wo, .int .i64 ge, .int .i64 sp, .int .i64 tr, .pointer (some ⟨g, 0, none⟩), .int .i64 who] 87)).heap[p]? = _ := (Below.heap_alloc W _ p (lt_of_heap hI)).trans hI
  have hB0 : KeepL [p, g, gw, gh] W (W.alloc (.cells #[.int .i64 th, .int .i64 sl, .int .i64 ch, .int .i64 wo, .int .i64 ge, .int .i64 sp, .int .i64 tr, .pointer (some ⟨g, 0, none⟩), .int .i64 who] 87)) := KeepL.of_below (below_new _ _)
  have n0 : W.heap.size ≠ p := by have := lt_of_heap hI; omega
  have n1 : W.heap.size ≠ g := by have := hM.lt; omega
  have n2 : W.heap.size ≠ gw := by have := hM.ltw; omega
  have n3 : W.heap.size ≠ gh := by have := hM.lth; omega
  have hp := lt_of_heap hI
  have c0 : W.cell? ⟨p, 0, none⟩ = _ := cell_of_row W p 0 _ _ _ hI
  have c1 : W.cell? ⟨p, 1, none⟩ = _ := cell_of_row W p 1 _ _ _ hI
  have c2 : W.cell? ⟨p, 2, none⟩ = _ := cell_of_row W p 2 _ _ _ hI
  have c3 : W.cell? ⟨p, 3, none⟩ = _ := cell_of_row W p 3 _ _ _ hI
  go_enter Try.func68, Try.ntmps68
  go_wp2
  generalize hW0 : W.alloc (.cells #[.int .i64 th, .int .i64 sl, .int .i64 ch, .int .i64 wo, .int .i64 ge, .int .i64 sp, .int .i64 tr, .pointer (some ⟨g, 0, none⟩), .int .i64 who] 87) = W0 at HX hM0 hI0 hB0 ⊢
  clear hW0 hM hI c0 c1 c2 c3
  have k0 := cell_of_row _ W.heap.size 0 _ _ _ HX
  have k1 := cell_of_row _ W.heap.size 1 _ _ _ HX
  have k2 := cell_of_row _ W.heap.size 2 _ _ _ HX
  have k3 := cell_of_row _ W.heap.size 3 _ _ _ HX
  have k4 := cell_of_row _ W.heap.size 4 _ _ _ HX
  have k5 := cell_of_row _ W.heap.size 5 _ _ _ HX
  have k6 := cell_of_row _ W.heap.size 6 _ _ _ HX
  have k7 := cell_of_row _ W.heap.size 7 _ _ _ HX
  have k8 := cell_of_row _ W.heap.size 8 _ _ _ HX
  have d0 := cell_of_row W0 p 0 _ _ _ hI0
  have d1 := cell_of_row W0 p 1 _ _ _ hI0
  have d2 := cell_of_row W0 p 2 _ _ _ hI0
  have d3 := cell_of_row W0 p 3 _ _ _ hI0
  have f0 := frozen_of 0 hI0
  have f1 := frozen_of 1 hI0
  have f2 := frozen_of 2 hI0
  have f3 := frozen_of 3 hI0
  have HK6 : Hid (6 + (k : Int) = ((6 + k : Nat) : Int)) := by show 6 + (k : Int) = ((6 + k : Nat) : Int); omega
  (first | (go_region_held3 (fun w' => w'.cell? ⟨W.heap.size, 0, none⟩ = some (.int .i64 th) ∧ w'.cell? ⟨W.heap.size, 1, none⟩ = some (.int .i64 sl) ∧ w'.cell? ⟨W.heap.size, 2, none⟩ = some (.int .i64 ch) ∧ w'.cell? ⟨W.heap.size, 3, none⟩ = some (.int .i64 wo) ∧ w'.cell? ⟨W.heap.size, 4, none⟩ = some (.int .i64 ge) ∧ w'.cell? ⟨W.heap.size, 5, none⟩ = some (.int .i64 sp) ∧ w'.cell? ⟨W.heap.size, 6, none⟩ = some (.int .i64 tr) ∧ w'.cell? ⟨W.heap.size, 7, none⟩ = some (.pointer (some ⟨g, 0, none⟩)) ∧ w'.cell? ⟨W.heap.size, 8, none⟩ = some (.int .i64 who) ∧ w'.cell? ⟨p, 0, none⟩ = some (.int .i64 1) ∧ w'.cell? ⟨p, 1, none⟩ = some (.int .u64 now) ∧ w'.cell? ⟨p, 2, none⟩ = some (.int .i64 k) ∧ w'.cell? ⟨p, 3, none⟩ = some (.bool false))
      (first
        | exact ⟨k0, k1, k2, k3, k4, k5, k6, k7, k8, d0, d1, d2, d3⟩
        | exact ⟨cell_of_row W1 W.heap.size 0 _ _ _ hX1, cell_of_row W1 W.heap.size 1 _ _ _ hX1, cell_of_row W1 W.heap.size 2 _ _ _ hX1, cell_of_row W1 W.heap.size 3 _ _ _ hX1, cell_of_row W1 W.heap.size 4 _ _ _ hX1, cell_of_row W1 W.heap.size 5 _ _ _ hX1, cell_of_row W1 W.heap.size 6 _ _ _ hX1, cell_of_row W1 W.heap.size 7 _ _ _ hX1, cell_of_row W1 W.heap.size 8 _ _ _ hX1, cell_of_row W1 p 0 _ _ _ hI1, cell_of_row W1 p 1 _ _ _ hI1, cell_of_row W1 p 2 _ _ _ hI1, cell_of_row W1 p 3 _ _ _ hI1⟩)
      (first
        | (go_at_call 61; refine (LPin_any _ _ (by omega) (by omega)).mono ?_; rintro e w9 ⟨rfl, hw⟩; obtain rfl := hw.symm; clear hw)
        | (go_at_call 82; rw [HK6.out]; refine (ELoad th sl ch wo ge sp tr who g gw gh m (6 + k) _ hM0.drew h1 hs).mono ?_; rintro e W1 ⟨rfl, hM1, hK1⟩; have hI1 := hK1.heap (b := p) (W := W0.drew) hI0 np.1 np.2.1 np.2.2; have hX1 := hK1.heap (b := W.heap.size) (W := W0.drew) HX n1 n2 n3))) | fail)
  all_goals
    clear d0 d1 d2 d3 f0 f1 f2 f3 k0 k1 k2 k3 k4 k5 k6 k7 k8
    have d0 := cell_of_row W1 p 0 _ _ _ hI1
    have d1 := cell_of_row W1 p 1 _ _ _ hI1
    have d2 := cell_of_row W1 p 2 _ _ _ hI1
    have d3 := cell_of_row W1 p 3 _ _ _ hI1
    have f0 := frozen_of 0 hI1
    have f1 := frozen_of 1 hI1
    have f2 := frozen_of 2 hI1
    have f3 := frozen_of 3 hI1
    have k0 := cell_of_row W1 W.heap.size 0 _ _ _ hX1
    go_wp2
    go_ret
    exact ⟨rfl, hM1, hI1, (hB0.drew.trans (KeepL.of3 hK1 (by simp) (by simp) (by simp)))⟩
set_option maxHeartbeats 1000000 in
set_option maxRecDepth 100000 in
theorem AdvStep1_more_zero (th sl ch wo ge sp tr who : Int) (g gw gh p : Nat) (m : Ms) (now : Int) (W : World) (hM : MemAt W g gw gh m) (k : Nat) (hk8 : k ≤ 100) (now1 : Int) (_hn1 : IntKind.u64.wrap (now + 1) = now1) (hI : AdvAt W p 1 now k false) (np : p ≠ g ∧ p ≠ gw ∧ p ≠ gh) (h1 : 6 + k < m.n) (hs : m.steps < 4611686018427387904) (e0 : (m.w (6 + k) != 0) = false) (hth : (k : Int) + 1 < th) :
    Calls Try.prog 68 #[.pointer (some ⟨p, 0, none⟩), .agg #[.int .i64 th, .int .i64 sl, .int .i64 ch, .int .i64 wo, .int .i64 ge, .int .i64 sp, .int .i64 tr, .pointer (some ⟨g, 0, none⟩), .int .i64 who]] W fun e W' => e = .returned (.bool false) ∧ MemAt W' g gw gh (m.ld who (6 + k)) ∧ AdvAt W' p 1 (now) ((k : Int) + 1) false ∧ KeepL [p, g, gw, gh] W W' := by
  have HX : (W.alloc (.cells #[.int .i64 th, .int .i64 sl, .int .i64 ch, .int .i64 wo, .int .i64 ge, .int .i64 sp, .int .i64 tr, .pointer (some ⟨g, 0, none⟩), .int .i64 who] 87)).heap[W.heap.size]? = some (.cells #[.int .i64 th, .int .i64 sl, .int .i64 ch, .int .i64 wo, .int .i64 ge, .int .i64 sp, .int .i64 tr, .pointer (some ⟨g, 0, none⟩), .int .i64 who] 87 (0, 0)) := heap_alloc_new W _
  have hM0 := hM.below (below_new W (.cells #[.int .i64 th, .int .i64 sl, .int .i64 ch, .int .i64 wo, .int .i64 ge, .int .i64 sp, .int .i64 tr, .pointer (some ⟨g, 0, none⟩), .int .i64 who] 87))
  have hI0 : (W.alloc (.cells #[.int .i64 th, .int .i64 sl, .int .i64 ch, .int .i64 wo, .int .i64 ge, .int .i64 sp, .int .i64 tr, .pointer (some ⟨g, 0, none⟩), .int .i64 who] 87)).heap[p]? = _ := (Below.heap_alloc W _ p (lt_of_heap hI)).trans hI
  have hB0 : KeepL [p, g, gw, gh] W (W.alloc (.cells #[.int .i64 th, .int .i64 sl, .int .i64 ch, .int .i64 wo, .int .i64 ge, .int .i64 sp, .int .i64 tr, .pointer (some ⟨g, 0, none⟩), .int .i64 who] 87)) := KeepL.of_below (below_new _ _)
  have n0 : W.heap.size ≠ p := by have := lt_of_heap hI; omega
  have n1 : W.heap.size ≠ g := by have := hM.lt; omega
  have n2 : W.heap.size ≠ gw := by have := hM.ltw; omega
  have n3 : W.heap.size ≠ gh := by have := hM.lth; omega
  have hp := lt_of_heap hI
  have c0 : W.cell? ⟨p, 0, none⟩ = _ := cell_of_row W p 0 _ _ _ hI
  have c1 : W.cell? ⟨p, 1, none⟩ = _ := cell_of_row W p 1 _ _ _ hI
  have c2 : W.cell? ⟨p, 2, none⟩ = _ := cell_of_row W p 2 _ _ _ hI
  have c3 : W.cell? ⟨p, 3, none⟩ = _ := cell_of_row W p 3 _ _ _ hI
  go_enter Try.func68, Try.ntmps68
  go_wp2
  generalize hW0 : W.alloc (.cells #[.int .i64 th, .int .i64 sl, .int .i64 ch, .int .i64 wo, .int .i64 ge, .int .i64 sp, .int .i64 tr, .pointer (some ⟨g, 0, none⟩), .int .i64 who] 87) = W0 at HX hM0 hI0 hB0 ⊢
  clear hW0 hM hI c0 c1 c2 c3
  have k0 := cell_of_row _ W.heap.size 0 _ _ _ HX
  have k1 := cell_of_row _ W.heap.size 1 _ _ _ HX
  have k2 := cell_of_row _ W.heap.size 2 _ _ _ HX
  have k3 := cell_of_row _ W.heap.size 3 _ _ _ HX
  have k4 := cell_of_row _ W.heap.size 4 _ _ _ HX
  have k5 := cell_of_row _ W.heap.size 5 _ _ _ HX
  have k6 := cell_of_row _ W.heap.size 6 _ _ _ HX
  have k7 := cell_of_row _ W.heap.size 7 _ _ _ HX
  have k8 := cell_of_row _ W.heap.size 8 _ _ _ HX
  have d0 := cell_of_row W0 p 0 _ _ _ hI0
  have d1 := cell_of_row W0 p 1 _ _ _ hI0
  have d2 := cell_of_row W0 p 2 _ _ _ hI0
  have d3 := cell_of_row W0 p 3 _ _ _ hI0
  have f0 := frozen_of 0 hI0
  have f1 := frozen_of 1 hI0
  have f2 := frozen_of 2 hI0
  have f3 := frozen_of 3 hI0
  have HK6 : Hid (6 + (k : Int) = ((6 + k : Nat) : Int)) := by show 6 + (k : Int) = ((6 + k : Nat) : Int); omega
  (first | (go_region_held3 (fun w' => w'.cell? ⟨W.heap.size, 0, none⟩ = some (.int .i64 th) ∧ w'.cell? ⟨W.heap.size, 1, none⟩ = some (.int .i64 sl) ∧ w'.cell? ⟨W.heap.size, 2, none⟩ = some (.int .i64 ch) ∧ w'.cell? ⟨W.heap.size, 3, none⟩ = some (.int .i64 wo) ∧ w'.cell? ⟨W.heap.size, 4, none⟩ = some (.int .i64 ge) ∧ w'.cell? ⟨W.heap.size, 5, none⟩ = some (.int .i64 sp) ∧ w'.cell? ⟨W.heap.size, 6, none⟩ = some (.int .i64 tr) ∧ w'.cell? ⟨W.heap.size, 7, none⟩ = some (.pointer (some ⟨g, 0, none⟩)) ∧ w'.cell? ⟨W.heap.size, 8, none⟩ = some (.int .i64 who) ∧ w'.cell? ⟨p, 0, none⟩ = some (.int .i64 1) ∧ w'.cell? ⟨p, 1, none⟩ = some (.int .u64 now) ∧ w'.cell? ⟨p, 2, none⟩ = some (.int .i64 k) ∧ w'.cell? ⟨p, 3, none⟩ = some (.bool false))
      (first
        | exact ⟨k0, k1, k2, k3, k4, k5, k6, k7, k8, d0, d1, d2, d3⟩
        | exact ⟨cell_of_row W1 W.heap.size 0 _ _ _ hX1, cell_of_row W1 W.heap.size 1 _ _ _ hX1, cell_of_row W1 W.heap.size 2 _ _ _ hX1, cell_of_row W1 W.heap.size 3 _ _ _ hX1, cell_of_row W1 W.heap.size 4 _ _ _ hX1, cell_of_row W1 W.heap.size 5 _ _ _ hX1, cell_of_row W1 W.heap.size 6 _ _ _ hX1, cell_of_row W1 W.heap.size 7 _ _ _ hX1, cell_of_row W1 W.heap.size 8 _ _ _ hX1, cell_of_row W1 p 0 _ _ _ hI1, cell_of_row W1 p 1 _ _ _ hI1, cell_of_row W1 p 2 _ _ _ hI1, cell_of_row W1 p 3 _ _ _ hI1⟩)
      (first
        | (go_at_call 61; refine (LPin_any _ _ (by omega) (by omega)).mono ?_; rintro e w9 ⟨rfl, hw⟩; obtain rfl := hw.symm; clear hw)
        | (go_at_call 82; rw [HK6.out]; refine (ELoad th sl ch wo ge sp tr who g gw gh m (6 + k) _ hM0.drew h1 hs).mono ?_; rintro e W1 ⟨rfl, hM1, hK1⟩; have hI1 := hK1.heap (b := p) (W := W0.drew) hI0 np.1 np.2.1 np.2.2; have hX1 := hK1.heap (b := W.heap.size) (W := W0.drew) HX n1 n2 n3))) | fail)
  all_goals
    clear d0 d1 d2 d3 f0 f1 f2 f3 k0 k1 k2 k3 k4 k5 k6 k7 k8
    have d0 := cell_of_row W1 p 0 _ _ _ hI1
    have d1 := cell_of_row W1 p 1 _ _ _ hI1
    have d2 := cell_of_row W1 p 2 _ _ _ hI1
    have d3 := cell_of_row W1 p 3 _ _ _ hI1
    have f0 := frozen_of 0 hI1
    have f1 := frozen_of 1 hI1
    have f2 := frozen_of 2 hI1
    have f3 := frozen_of 3 hI1
    have k0 := cell_of_row W1 W.heap.size 0 _ _ _ hX1
    go_wp2
    go_quiet (fail)
    go_wp2
    go_ret
    obtain ⟨r1, r2⟩ := adv_set hM1 np 2 (.int .i64 ((k : Int) + 1))
    exact ⟨rfl, r1.drewN _, adv_at hI1 _, ((hB0.drew.trans (KeepL.of3 hK1 (by simp) (by simp) (by simp))).trans r2).drewN _⟩
set_option maxHeartbeats 1000000 in
set_option maxRecDepth 100000 in
theorem AdvStep1_last_zero (th sl ch wo ge sp tr who : Int) (g gw gh p : Nat) (m : Ms) (now : Int) (W : World) (hM : MemAt W g gw gh m) (k : Nat) (hk8 : k ≤ 100) (now1 : Int) (_hn1 : IntKind.u64.wrap (now + 1) = now1) (hI : AdvAt W p 1 now k false) (np : p ≠ g ∧ p ≠ gw ∧ p ≠ gh) (h1 : 6 + k < m.n) (hs : m.steps < 4611686018427387904) (e0 : (m.w (6 + k) != 0) = false) (hth : th ≤ (k : Int) + 1) :
    Calls Try.prog 68 #[.pointer (some ⟨p, 0, none⟩), .agg #[.int .i64 th, .int .i64 sl, .int .i64 ch, .int .i64 wo, .int .i64 ge, .int .i64 sp, .int .i64 tr, .pointer (some ⟨g, 0, none⟩), .int .i64 who]] W fun e W' => e = .returned (.bool false) ∧ MemAt W' g gw gh (m.ld who (6 + k)) ∧ AdvAt W' p 2 (now) ((k : Int) + 1) false ∧ KeepL [p, g, gw, gh] W W' := by
  have HX : (W.alloc (.cells #[.int .i64 th, .int .i64 sl, .int .i64 ch, .int .i64 wo, .int .i64 ge, .int .i64 sp, .int .i64 tr, .pointer (some ⟨g, 0, none⟩), .int .i64 who] 87)).heap[W.heap.size]? = some (.cells #[.int .i64 th, .int .i64 sl, .int .i64 ch, .int .i64 wo, .int .i64 ge, .int .i64 sp, .int .i64 tr, .pointer (some ⟨g, 0, none⟩), .int .i64 who] 87 (0, 0)) := heap_alloc_new W _
  have hM0 := hM.below (below_new W (.cells #[.int .i64 th, .int .i64 sl, .int .i64 ch, .int .i64 wo, .int .i64 ge, .int .i64 sp, .int .i64 tr, .pointer (some ⟨g, 0, none⟩), .int .i64 who] 87))
  have hI0 : (W.alloc (.cells #[.int .i64 th, .int .i64 sl, .int .i64 ch, .int .i64 wo, .int .i64 ge, .int .i64 sp, .int .i64 tr, .pointer (some ⟨g, 0, none⟩), .int .i64 who] 87)).heap[p]? = _ := (Below.heap_alloc W _ p (lt_of_heap hI)).trans hI
  have hB0 : KeepL [p, g, gw, gh] W (W.alloc (.cells #[.int .i64 th, .int .i64 sl, .int .i64 ch, .int .i64 wo, .int .i64 ge, .int .i64 sp, .int .i64 tr, .pointer (some ⟨g, 0, none⟩), .int .i64 who] 87)) := KeepL.of_below (below_new _ _)
  have n0 : W.heap.size ≠ p := by have := lt_of_heap hI; omega
  have n1 : W.heap.size ≠ g := by have := hM.lt; omega
  have n2 : W.heap.size ≠ gw := by have := hM.ltw; omega
  have n3 : W.heap.size ≠ gh := by have := hM.lth; omega
  have hp := lt_of_heap hI
  have c0 : W.cell? ⟨p, 0, none⟩ = _ := cell_of_row W p 0 _ _ _ hI
  have c1 : W.cell? ⟨p, 1, none⟩ = _ := cell_of_row W p 1 _ _ _ hI
  have c2 : W.cell? ⟨p, 2, none⟩ = _ := cell_of_row W p 2 _ _ _ hI
  have c3 : W.cell? ⟨p, 3, none⟩ = _ := cell_of_row W p 3 _ _ _ hI
  go_enter Try.func68, Try.ntmps68
  go_wp2
  generalize hW0 : W.alloc (.cells #[.int .i64 th, .int .i64 sl, .int .i64 ch, .int .i64 wo, .int .i64 ge, .int .i64 sp, .int .i64 tr, .pointer (some ⟨g, 0, none⟩), .int .i64 who] 87) = W0 at HX hM0 hI0 hB0 ⊢
  clear hW0 hM hI c0 c1 c2 c3
  have k0 := cell_of_row _ W.heap.size 0 _ _ _ HX
  have k1 := cell_of_row _ W.heap.size 1 _ _ _ HX
  have k2 := cell_of_row _ W.heap.size 2 _ _ _ HX
  have k3 := cell_of_row _ W.heap.size 3 _ _ _ HX
  have k4 := cell_of_row _ W.heap.size 4 _ _ _ HX
  have k5 := cell_of_row _ W.heap.size 5 _ _ _ HX
  have k6 := cell_of_row _ W.heap.size 6 _ _ _ HX
  have k7 := cell_of_row _ W.heap.size 7 _ _ _ HX
  have k8 := cell_of_row _ W.heap.size 8 _ _ _ HX
  have d0 := cell_of_row W0 p 0 _ _ _ hI0
  have d1 := cell_of_row W0 p 1 _ _ _ hI0
  have d2 := cell_of_row W0 p 2 _ _ _ hI0
  have d3 := cell_of_row W0 p 3 _ _ _ hI0
  have f0 := frozen_of 0 hI0
  have f1 := frozen_of 1 hI0
  have f2 := frozen_of 2 hI0
  have f3 := frozen_of 3 hI0
  have HK6 : Hid (6 + (k : Int) = ((6 + k : Nat) : Int)) := by show 6 + (k : Int) = ((6 + k : Nat) : Int); omega
  (first | (go_region_held3 (fun w' => w'.cell? ⟨W.heap.size, 0, none⟩ = some (.int .i64 th) ∧ w'.cell? ⟨W.heap.size, 1, none⟩ = some (.int .i64 sl) ∧ w'.cell? ⟨W.heap.size, 2, none⟩ = some (.int .i64 ch) ∧ w'.cell? ⟨W.heap.size, 3, none⟩ = some (.int .i64 wo) ∧ w'.cell? ⟨W.heap.size, 4, none⟩ = some (.int .i64 ge) ∧ w'.cell? ⟨W.heap.size, 5, none⟩ = some (.int .i64 sp) ∧ w'.cell? ⟨W.heap.size, 6, none⟩ = some (.int .i64 tr) ∧ w'.cell? ⟨W.heap.size, 7, none⟩ = some (.pointer (some ⟨g, 0, none⟩)) ∧ w'.cell? ⟨W.heap.size, 8, none⟩ = some (.int .i64 who) ∧ w'.cell? ⟨p, 0, none⟩ = some (.int .i64 1) ∧ w'.cell? ⟨p, 1, none⟩ = some (.int .u64 now) ∧ w'.cell? ⟨p, 2, none⟩ = some (.int .i64 k) ∧ w'.cell? ⟨p, 3, none⟩ = some (.bool false))
      (first
        | exact ⟨k0, k1, k2, k3, k4, k5, k6, k7, k8, d0, d1, d2, d3⟩
        | exact ⟨cell_of_row W1 W.heap.size 0 _ _ _ hX1, cell_of_row W1 W.heap.size 1 _ _ _ hX1, cell_of_row W1 W.heap.size 2 _ _ _ hX1, cell_of_row W1 W.heap.size 3 _ _ _ hX1, cell_of_row W1 W.heap.size 4 _ _ _ hX1, cell_of_row W1 W.heap.size 5 _ _ _ hX1, cell_of_row W1 W.heap.size 6 _ _ _ hX1, cell_of_row W1 W.heap.size 7 _ _ _ hX1, cell_of_row W1 W.heap.size 8 _ _ _ hX1, cell_of_row W1 p 0 _ _ _ hI1, cell_of_row W1 p 1 _ _ _ hI1, cell_of_row W1 p 2 _ _ _ hI1, cell_of_row W1 p 3 _ _ _ hI1⟩)
      (first
        | (go_at_call 61; refine (LPin_any _ _ (by omega) (by omega)).mono ?_; rintro e w9 ⟨rfl, hw⟩; obtain rfl := hw.symm; clear hw)
        | (go_at_call 82; rw [HK6.out]; refine (ELoad th sl ch wo ge sp tr who g gw gh m (6 + k) _ hM0.drew h1 hs).mono ?_; rintro e W1 ⟨rfl, hM1, hK1⟩; have hI1 := hK1.heap (b := p) (W := W0.drew) hI0 np.1 np.2.1 np.2.2; have hX1 := hK1.heap (b := W.heap.size) (W := W0.drew) HX n1 n2 n3))) | fail)
  all_goals
    clear d0 d1 d2 d3 f0 f1 f2 f3 k0 k1 k2 k3 k4 k5 k6 k7 k8
    have d0 := cell_of_row W1 p 0 _ _ _ hI1
    have d1 := cell_of_row W1 p 1 _ _ _ hI1
    have d2 := cell_of_row W1 p 2 _ _ _ hI1
    have d3 := cell_of_row W1 p 3 _ _ _ hI1
    have f0 := frozen_of 0 hI1
    have f1 := frozen_of 1 hI1
    have f2 := frozen_of 2 hI1
    have f3 := frozen_of 3 hI1
    have k0 := cell_of_row W1 W.heap.size 0 _ _ _ hX1
    go_wp2
    go_quiet (fail)
    go_wp2
    go_ret
    obtain ⟨r1, r2⟩ := adv_set hM1 np 2 (.int .i64 ((k : Int) + 1))
    exact ⟨rfl, (adv_set (r1.drewN _) np 0 (.int .i64 2)).1, adv_pc (adv_at hI1 _) _, (((hB0.drew.trans (KeepL.of3 hK1 (by simp) (by simp) (by simp))).trans r2).drewN _).trans (adv_set (r1.drewN _) np 0 (.int .i64 2)).2⟩
set_option maxHeartbeats 1000000 in
set_option maxRecDepth 100000 in
theorem AdvStep1_more_same (th sl ch wo ge sp tr who : Int) (g gw gh p : Nat) (m : Ms) (now : Int) (W : World) (hM : MemAt W g gw gh m) (k : Nat) (hk8 : k ≤ 100) (now1 : Int) (hn1 : IntKind.u64.wrap (now + 1) = now1) (hI : AdvAt W p 1 now k false) (np : p ≠ g ∧ p ≠ gw ∧ p ≠ gh) (h1 : 6 + k < m.n) (hs : m.steps < 4611686018427387904) (e0 : (m.w (6 + k) != 0) = true) (e1 : (m.w (6 + k) != now1) = false) (hth : (k : Int) + 1 < th) :
    Calls Try.prog 68 #[.pointer (some ⟨p, 0, none⟩), .agg #[.int .i64 th, .int .i64 sl, .int .i64 ch, .int .i64 wo, .int .i64 ge, .int .i64 sp, .int .i64 tr, .pointer (some ⟨g, 0, none⟩), .int .i64 who]] W fun e W' => e = .returned (.bool false) ∧ MemAt W' g gw gh (m.ld who (6 + k)) ∧ AdvAt W' p 1 (now) ((k : Int) + 1) false ∧ KeepL [p, g, gw, gh] W W' := by
  have HX : (W.alloc (.cells #[.int .i64 th, .int .i64 sl, .int .i64 ch, .int .i64 wo, .int .i64 ge, .int .i64 sp, .int .i64 tr, .pointer (some ⟨g, 0, none⟩), .int .i64 who] 87)).heap[W.heap.size]? = some (.cells #[.int .i64 th, .int .i64 sl, .int .i64 ch, .int .i64 wo, .int .i64 ge, .int .i64 sp, .int .i64 tr, .pointer (some ⟨g, 0, none⟩), .int .i64 who] 87 (0, 0)) := heap_alloc_new W _
  have hM0 := hM.below (below_new W (.cells #[.int .i64 th, .int .i64 sl, .int .i64 ch, .int .i64 wo, .int .i64 ge, .int .i64 sp, .int .i64 tr, .pointer (some ⟨g, 0, none⟩), .int .i64 who] 87))
  have hI0 : (W.alloc (.cells #[.int .i64 th, .int .i64 sl, .int .i64 ch, .int .i64 wo, .int .i64 ge, .int .i64 sp, .int .i64 tr, .pointer (some ⟨g, 0, none⟩), .int .i64 who] 87)).heap[p]? = _ := (Below.heap_alloc W _ p (lt_of_heap hI)).trans hI
  have hB0 : KeepL [p, g, gw, gh] W (W.alloc (.cells #[.int .i64 th, .int .i64 sl, .int .i64 ch, .int .i64 wo, .int .i64 ge, .int .i64 sp, .int .i64 tr, .pointer (some ⟨g, 0, none⟩), .int .i64 who] 87)) := KeepL.of_below (below_new _ _)
  have n0 : W.heap.size ≠ p := by have := lt_of_heap hI; omega
  have n1 : W.heap.size ≠ g := by have := hM.lt; omega
  have n2 : W.heap.size ≠ gw := by have := hM.ltw; omega
  have n3 : W.heap.size ≠ gh := by have := hM.lth; omega
  have hp := lt_of_heap hI
  have c0 : W.cell? ⟨p, 0, none⟩ = _ := cell_of_row W p 0 _ _ _ hI
  have c1 : W.cell? ⟨p, 1, none⟩ = _ := cell_of_row W p 1 _ _ _ hI
  have c2 : W.cell? ⟨p, 2, none⟩ = _ := cell_of_row W p 2 _ _ _ hI
  have c3 : W.cell? ⟨p, 3, none⟩ = _ := cell_of_row W p 3 _ _ _ hI
  go_enter Try.func68, Try.ntmps68
  go_wp2
  generalize hW0 : W.alloc (.cells #[.int .i64 th, .int .i64 sl, .int .i64 ch, .int .i64 wo, .int .i64 ge, .int .i64 sp, .int .i64 tr, .pointer (some ⟨g, 0, none⟩), .int .i64 who] 87) = W0 at HX hM0 hI0 hB0 ⊢
  clear hW0 hM hI c0 c1 c2 c3
  have k0 := cell_of_row _ W.heap.size 0 _ _ _ HX
  have k1 := cell_of_row _ W.heap.size 1 _ _ _ HX
  have k2 := cell_of_row _ W.heap.size 2 _ _ _ HX
  have k3 := cell_of_row _ W.heap.size 3 _ _ _ HX
  have k4 := cell_of_row _ W.heap.size 4 _ _ _ HX
  have k5 := cell_of_row _ W.heap.size 5 _ _ _ HX
  have k6 := cell_of_row _ W.heap.size 6 _ _ _ HX
  have k7 := cell_of_row _ W.heap.size 7 _ _ _ HX
  have k8 := cell_of_row _ W.heap.size 8 _ _ _ HX
  have d0 := cell_of_row W0 p 0 _ _ _ hI0
  have d1 := cell_of_row W0 p 1 _ _ _ hI0
  have d2 := cell_of_row W0 p 2 _ _ _ hI0
  have d3 := cell_of_row W0 p 3 _ _ _ hI0
  have f0 := frozen_of 0 hI0
  have f1 := frozen_of 1 hI0
  have f2 := frozen_of 2 hI0
  have f3 := frozen_of 3 hI0
  have HK6 : Hid (6 + (k : Int) = ((6 + k : Nat) : Int)) := by show 6 + (k : Int) = ((6 + k : Nat) : Int); omega
  (first | (go_region_held3 (fun w' => w'.cell? ⟨W.heap.size, 0, none⟩ = some (.int .i64 th) ∧ w'.cell? ⟨W.heap.size, 1, none⟩ = some (.int .i64 sl) ∧ w'.cell? ⟨W.heap.size, 2, none⟩ = some (.int .i64 ch) ∧ w'.cell? ⟨W.heap.size, 3, none⟩ = some (.int .i64 wo) ∧ w'.cell? ⟨W.heap.size, 4, none⟩ = some (.int .i64 ge) ∧ w'.cell? ⟨W.heap.size, 5, none⟩ = some (.int .i64 sp) ∧ w'.cell? ⟨W.heap.size, 6, none⟩ = some (.int .i64 tr) ∧ w'.cell? ⟨W.heap.size, 7, none⟩ = some (.pointer (some ⟨g, 0, none⟩)) ∧ w'.cell? ⟨W.heap.size, 8, none⟩ = some (.int .i64 who) ∧ w'.cell? ⟨p, 0, none⟩ = some (.int .i64 1) ∧ w'.cell? ⟨p, 1, none⟩ = some (.int .u64 now) ∧ w'.cell? ⟨p, 2, none⟩ = some (.int .i64 k) ∧ w'.cell? ⟨p, 3, none⟩ = some (.bool false))
      (first
        | exact ⟨k0, k1, k2, k3, k4, k5, k6, k7, k8, d0, d1, d2, d3⟩
        | exact ⟨cell_of_row W1 W.heap.size 0 _ _ _ hX1, cell_of_row W1 W.heap.size 1 _ _ _ hX1, cell_of_row W1 W.heap.size 2 _ _ _ hX1, cell_of_row W1 W.heap.size 3 _ _ _ hX1, cell_of_row W1 W.heap.size 4 _ _ _ hX1, cell_of_row W1 W.heap.size 5 _ _ _ hX1, cell_of_row W1 W.heap.size 6 _ _ _ hX1, cell_of_row W1 W.heap.size 7 _ _ _ hX1, cell_of_row W1 W.heap.size 8 _ _ _ hX1, cell_of_row W1 p 0 _ _ _ hI1, cell_of_row W1 p 1 _ _ _ hI1, cell_of_row W1 p 2 _ _ _ hI1, cell_of_row W1 p 3 _ _ _ hI1⟩)
      (first
        | (go_at_call 61; refine (LPin_any _ _ (by omega) (by omega)).mono ?_; rintro e w9 ⟨rfl, hw⟩; obtain rfl := hw.symm; clear hw)
        | (go_at_call 82; rw [HK6.out]; refine (ELoad th sl ch wo ge sp tr who g gw gh m (6 + k) _ hM0.drew h1 hs).mono ?_; rintro e W1 ⟨rfl, hM1, hK1⟩; have hI1 := hK1.heap (b := p) (W := W0.drew) hI0 np.1 np.2.1 np.2.2; have hX1 := hK1.heap (b := W.heap.size) (W := W0.drew) HX n1 n2 n3))) | fail)
  all_goals
    clear d0 d1 d2 d3 f0 f1 f2 f3 k0 k1 k2 k3 k4 k5 k6 k7 k8
    have d0 := cell_of_row W1 p 0 _ _ _ hI1
    have d1 := cell_of_row W1 p 1 _ _ _ hI1
    have d2 := cell_of_row W1 p 2 _ _ _ hI1
    have d3 := cell_of_row W1 p 3 _ _ _ hI1
    have f0 := frozen_of 0 hI1
    have f1 := frozen_of 1 hI1
    have f2 := frozen_of 2 hI1
    have f3 := frozen_of 3 hI1
    have k0 := cell_of_row W1 W.heap.size 0 _ _ _ hX1
    go_wp2
    go_quiet (fail)
    go_wp2
    go_ret
    obtain ⟨r1, r2⟩ := adv_set hM1 np 2 (.int .i64 ((k : Int) + 1))
    exact ⟨rfl, r1.drewN _, adv_at hI1 _, ((hB0.drew.trans (KeepL.of3 hK1 (by simp) (by simp) (by simp))).trans r2).drewN _⟩
set_option maxHeartbeats 1000000 in
set_option maxRecDepth 100000 in
theorem AdvStep1_last_same (th sl ch wo ge sp tr who : Int) (g gw gh p : Nat) (m : Ms) (now : Int) (W : World) (hM : MemAt W g gw gh m) (k : Nat) (hk8 : k ≤ 100) (now1 : Int) (hn1 : IntKind.u64.wrap (now + 1) = now1) (hI : AdvAt W p 1 now k false) (np : p ≠ g ∧ p ≠ gw ∧ p ≠ gh) (h1 : 6 + k < m.n) (hs : m.steps < 4611686018427387904) (e0 : (m.w (6 + k) != 0) = true) (e1 : (m.w (6 + k) != now1) = false) (hth : th ≤ (k : Int) + 1) :
    Calls Try.prog 68 #[.pointer (some ⟨p, 0, none⟩), .agg #[.int .i64 th, .int .i64 sl, .int .i64 ch, .int .i64 wo, .int .i64 ge, .int .i64 sp, .int .i64 tr, .pointer (some ⟨g, 0, none⟩), .int .i64 who]] W fun e W' => e = .returned (.bool false) ∧ MemAt W' g gw gh (m.ld who (6 + k)) ∧ AdvAt W' p 2 (now) ((k : Int) + 1) false ∧ KeepL [p, g, gw, gh] W W' := by
  have HX : (W.alloc (.cells #[.int .i64 th, .int .i64 sl, .int .i64 ch, .int .i64 wo, .int .i64 ge, .int .i64 sp, .int .i64 tr, .pointer (some ⟨g, 0, none⟩), .int .i64 who] 87)).heap[W.heap.size]? = some (.cells #[.int .i64 th, .int .i64 sl, .int .i64 ch, .int .i64 wo, .int .i64 ge, .int .i64 sp, .int .i64 tr, .pointer (some ⟨g, 0, none⟩), .int .i64 who] 87 (0, 0)) := heap_alloc_new W _
  have hM0 := hM.below (below_new W (.cells #[.int .i64 th, .int .i64 sl, .int .i64 ch, .int .i64 wo, .int .i64 ge, .int .i64 sp, .int .i64 tr, .pointer (some ⟨g, 0, none⟩), .int .i64 who] 87))
  have hI0 : (W.alloc (.cells #[.int .i64 th, .int .i64 sl, .int .i64 ch, .int .i64 wo, .int .i64 ge, .int .i64 sp, .int .i64 tr, .pointer (some ⟨g, 0, none⟩), .int .i64 who] 87)).heap[p]? = _ := (Below.heap_alloc W _ p (lt_of_heap hI)).trans hI
  have hB0 : KeepL [p, g, gw, gh] W (W.alloc (.cells #[.int .i64 th, .int .i64 sl, .int .i64 ch, .int .i64 wo, .int .i64 ge, .int .i64 sp, .int .i64 tr, .pointer (some ⟨g, 0, none⟩), .int .i64 who] 87)) := KeepL.of_below (below_new _ _)
  have n0 : W.heap.size ≠ p := by have := lt_of_heap hI; omega
  have n1 : W.heap.size ≠ g := by have := hM.lt; omega
  have n2 : W.heap.size ≠ gw := by have := hM.ltw; omega
  have n3 : W.heap.size ≠ gh := by have := hM.lth; omega
  have hp := lt_of_heap hI
  have c0 : W.cell? ⟨p, 0, none⟩ = _ := cell_of_row W p 0 _ _ _ hI
  have c1 : W.cell? ⟨p, 1, none⟩ = _ := cell_of_row W p 1 _ _ _ hI
  have c2 : W.cell? ⟨p, 2, none⟩ = _ := cell_of_row W p 2 _ _ _ hI
  have c3 : W.cell? ⟨p, 3, none⟩ = _ := cell_of_row W p 3 _ _ _ hI
  go_enter Try.func68, Try.ntmps68
  go_wp2
  generalize hW0 : W.alloc (.cells #[.int .i64 th, .int .i64 sl, .int .i64 ch, .int .i64 wo, .int .i64 ge, .int .i64 sp, .int .i64 tr, .pointer (some ⟨g, 0, none⟩), .int .i64 who] 87) = W0 at HX hM0 hI0 hB0 ⊢
  clear hW0 hM hI c0 c1 c2 c3
  have k0 := cell_of_row _ W.heap.size 0 _ _ _ HX
  have k1 := cell_of_row _ W.heap.size 1 _ _ _ HX
  have k2 := cell_of_row _ W.heap.size 2 _ _ _ HX
  have k3 := cell_of_row _ W.heap.size 3 _ _ _ HX
  have k4 := cell_of_row _ W.heap.size 4 _ _ _ HX
  have k5 := cell_of_row _ W.heap.size 5 _ _ _ HX
  have k6 := cell_of_row _ W.heap.size 6 _ _ _ HX
  have k7 := cell_of_row _ W.heap.size 7 _ _ _ HX
  have k8 := cell_of_row _ W.heap.size 8 _ _ _ HX
  have d0 := cell_of_row W0 p 0 _ _ _ hI0
  have d1 := cell_of_row W0 p 1 _ _ _ hI0
  have d2 := cell_of_row W0 p 2 _ _ _ hI0
  have d3 := cell_of_row W0 p 3 _ _ _ hI0
  have f0 := frozen_of 0 hI0
  have f1 := frozen_of 1 hI0
  have f2 := frozen_of 2 hI0
  have f3 := frozen_of 3 hI0
  have HK6 : Hid (6 + (k : Int) = ((6 + k : Nat) : Int)) := by show 6 + (k : Int) = ((6 + k : Nat) : Int); omega
  (first | (go_region_held3 (fun w' => w'.cell? ⟨W.heap.size, 0, none⟩ = some (.int .i64 th) ∧ w'.cell? ⟨W.heap.size, 1, none⟩ = some (.int .i64 sl) ∧ w'.cell? ⟨W.heap.size, 2, none⟩ = some (.int .i64 ch) ∧ w'.cell? ⟨W.heap.size, 3, none⟩ = some (.int .i64 wo) ∧ w'.cell? ⟨W.heap.size, 4, none⟩ = some (.int .i64 ge) ∧ w'.cell? ⟨W.heap.size, 5, none⟩ = some (.int .i64 sp) ∧ w'.cell? ⟨W.heap.size, 6, none⟩ = some (.int .i64 tr) ∧ w'.cell? ⟨W.heap.size, 7, none⟩ = some (.pointer (some ⟨g, 0, none⟩)) ∧ w'.cell? ⟨W.heap.size, 8, none⟩ = some (.int .i64 who) ∧ w'.cell? ⟨p, 0, none⟩ = some (.int .i64 1) ∧ w'.cell? ⟨p, 1, none⟩ = some (.int .u64 now) ∧ w'.cell? ⟨p, 2, none⟩ = some (.int .i64 k) ∧ w'.cell? ⟨p, 3, none⟩ = some (.bool false))
      (first
        | exact ⟨k0, k1, k2, k3, k4, k5, k6, k7, k8, d0, d1, d2, d3⟩
        | exact ⟨cell_of_row W1 W.heap.size 0 _ _ _ hX1, cell_of_row W1 W.heap.size 1 _ _ _ hX1, cell_of_row W1 W.heap.size 2 _ _ _ hX1, cell_of_row W1 W.heap.size 3 _ _ _ hX1, cell_of_row W1 W.heap.size 4 _ _ _ hX1, cell_of_row W1 W.heap.size 5 _ _ _ hX1, cell_of_row W1 W.heap.size 6 _ _ _ hX1, cell_of_row W1 W.heap.size 7 _ _ _ hX1, cell_of_row W1 W.heap.size 8 _ _ _ hX1, cell_of_row W1 p 0 _ _ _ hI1, cell_of_row W1 p 1 _ _ _ hI1, cell_of_row W1 p 2 _ _ _ hI1, cell_of_row W1 p 3 _ _ _ hI1⟩)
      (first
        | (go_at_call 61; refine (LPin_any _ _ (by omega) (by omega)).mono ?_; rintro e w9 ⟨rfl, hw⟩; obtain rfl := hw.symm; clear hw)
        | (go_at_call 82; rw [HK6.out]; refine (ELoad th sl ch wo ge sp tr who g gw gh m (6 + k) _ hM0.drew h1 hs).mono ?_; rintro e W1 ⟨rfl, hM1, hK1⟩; have hI1 := hK1.heap (b := p) (W := W0.drew) hI0 np.1 np.2.1 np.2.2; have hX1 := hK1.heap (b := W.heap.size) (W := W0.drew) HX n1 n2 n3))) | fail)
  all_goals
    clear d0 d1 d2 d3 f0 f1 f2 f3 k0 k1 k2 k3 k4 k5 k6 k7 k8
    have d0 := cell_of_row W1 p 0 _ _ _ hI1
    have d1 := cell_of_row W1 p 1 _ _ _ hI1
    have d2 := cell_of_row W1 p 2 _ _ _ hI1
    have d3 := cell_of_row W1 p 3 _ _ _ hI1
    have f0 := frozen_of 0 hI1
    have f1 := frozen_of 1 hI1
    have f2 := frozen_of 2 hI1
    have f3 := frozen_of 3 hI1
    have k0 := cell_of_row W1 W.heap.size 0 _ _ _ hX1
    go_wp2
    go_quiet (fail)
    go_wp2
    go_ret
    obtain ⟨r1, r2⟩ := adv_set hM1 np 2 (.int .i64 ((k : Int) + 1))
    exact ⟨rfl, (adv_set (r1.drewN _) np 0 (.int .i64 2)).1, adv_pc (adv_at hI1 _) _, (((hB0.drew.trans (KeepL.of3 hK1 (by simp) (by simp) (by simp))).trans r2).drewN _).trans (adv_set (r1.drewN _) np 0 (.int .i64 2)).2⟩
set_option maxHeartbeats 1000000 in
set_option maxRecDepth 100000 in
theorem AdvStep2 (th sl ch wo ge sp tr who : Int) (g gw gh p : Nat) (m : Ms) (now at_ : Int) (W : World) (hM : MemAt W g gw gh m) (now1 : Int) (hn1 : IntKind.u64.wrap (now + 1) = now1) (ho : m.w 0 = now) (hI : AdvAt W p 2 now at_ false) (np : p ≠ g ∧ p ≠ gw ∧ p ≠ gh) (h1 : 0 < m.n) (hs : m.steps < 4611686018427387904) :
    Calls Try.prog 68 #[.pointer (some ⟨p, 0, none⟩), .agg #[.int .i64 th, .int .i64 sl, .int .i64 ch, .int .i64 wo, .int .i64 ge, .int .i64 sp, .int .i64 tr, .pointer (some ⟨g, 0, none⟩), .int .i64 who]] W fun e W' => e = .returned (.bool true) ∧ MemAt W' g gw gh (m.st who 0 now1) ∧ AdvAt W' p 2 (now) (at_) true ∧ KeepL [p, g, gw, gh] W W' := by
  have HX : (W.alloc (.cells #[.int .i64 th, .int .i64 sl, .int .i64 ch, .int .i64 wo, .int .i64 ge, .int .i64 sp, .int .i64 tr, .pointer (some ⟨g, 0, none⟩), .int .i64 who] 87)).heap[W.heap.size]? = some (.cells #[.int .i64 th, .int .i64 sl, .int .i64 ch, .int .i64 wo, .int .i64 ge, .int .i64 sp, .int .i64 tr, .pointer (some ⟨g, 0, none⟩), .int .i64 who] 87 (0, 0)) := heap_alloc_new W _
  have hM0 := hM.below (below_new W (.cells #[.int .i64 th, .int .i64 sl, .int .i64 ch, .int .i64 wo, .int .i64 ge, .int .i64 sp, .int .i64 tr, .pointer (some ⟨g, 0, none⟩), .int .i64 who] 87))
  have hI0 : (W.alloc (.cells #[.int .i64 th, .int .i64 sl, .int .i64 ch, .int .i64 wo, .int .i64 ge, .int .i64 sp, .int .i64 tr, .pointer (some ⟨g, 0, none⟩), .int .i64 who] 87)).heap[p]? = _ := (Below.heap_alloc W _ p (lt_of_heap hI)).trans hI
  have hB0 : KeepL [p, g, gw, gh] W (W.alloc (.cells #[.int .i64 th, .int .i64 sl, .int .i64 ch, .int .i64 wo, .int .i64 ge, .int .i64 sp, .int .i64 tr, .pointer (some ⟨g, 0, none⟩), .int .i64 who] 87)) := KeepL.of_below (below_new _ _)
  have n0 : W.heap.size ≠ p := by have := lt_of_heap hI; omega
  have n1 : W.heap.size ≠ g := by have := hM.lt; omega
  have n2 : W.heap.size ≠ gw := by have := hM.ltw; omega
  have n3 : W.heap.size ≠ gh := by have := hM.lth; omega
  have hp := lt_of_heap hI
  have c0 : W.cell? ⟨p, 0, none⟩ = _ := cell_of_row W p 0 _ _ _ hI
  have c1 : W.cell? ⟨p, 1, none⟩ = _ := cell_of_row W p 1 _ _ _ hI
  have c2 : W.cell? ⟨p, 2, none⟩ = _ := cell_of_row W p 2 _ _ _ hI
  have c3 : W.cell? ⟨p, 3, none⟩ = _ := cell_of_row W p 3 _ _ _ hI
  go_enter Try.func68, Try.ntmps68
  go_wp2
  generalize hW0 : W.alloc (.cells #[.int .i64 th, .int .i64 sl, .int .i64 ch, .int .i64 wo, .int .i64 ge, .int .i64 sp, .int .i64 tr, .pointer (some ⟨g, 0, none⟩), .int .i64 who] 87) = W0 at HX hM0 hI0 hB0 ⊢
  clear hW0 hM hI c0 c1 c2 c3
  have k0 := cell_of_row _ W.heap.size 0 _ _ _ HX
  have k1 := cell_of_row _ W.heap.size 1 _ _ _ HX
  have k2 := cell_of_row _ W.heap.size 2 _ _ _ HX
  have k3 := cell_of_row _ W.heap.size 3 _ _ _ HX
  have k4 := cell_of_row _ W.heap.size 4 _ _ _ HX
  have k5 := cell_of_row _ W.heap.size 5 _ _ _ HX
  have k6 := cell_of_row _ W.heap.size 6 _ _ _ HX
  have k7 := cell_of_row _ W.heap.size 7 _ _ _ HX
  have k8 := cell_of_row _ W.heap.size 8 _ _ _ HX
  have d0 := cell_of_row W0 p 0 _ _ _ hI0
  have d1 := cell_of_row W0 p 1 _ _ _ hI0
  have d2 := cell_of_row W0 p 2 _ _ _ hI0
  have d3 := cell_of_row W0 p 3 _ _ _ hI0
  have f0 := frozen_of 0 hI0
  have f1 := frozen_of 1 hI0
  have f2 := frozen_of 2 hI0
  have f3 := frozen_of 3 hI0
  have hv : 0 ≤ now1 ∧ now1 < 18446744073709551616 := by
    rw [← hn1]
    have : IntKind.u64.wrap (now + 1) = (now + 1) % 18446744073709551616 := by simp [IntKind.wrap, IntKind.bits, IntKind.signed]
    rw [this]; omega
  have HV := Lib.hid hv
  have HO := Lib.hid ho
  clear hv ho
  (first | (go_region_held3 (fun w' => w'.cell? ⟨W.heap.size, 0, none⟩ = some (.int .i64 th) ∧ w'.cell? ⟨W.heap.size, 1, none⟩ = some (.int .i64 sl) ∧ w'.cell? ⟨W.heap.size, 2, none⟩ = some (.int .i64 ch) ∧ w'.cell? ⟨W.heap.size, 3, none⟩ = some (.int .i64 wo) ∧ w'.cell? ⟨W.heap.size, 4, none⟩ = some (.int .i64 ge) ∧ w'.cell? ⟨W.heap.size, 5, none⟩ = some (.int .i64 sp) ∧ w'.cell? ⟨W.heap.size, 6, none⟩ = some (.int .i64 tr) ∧ w'.cell? ⟨W.heap.size, 7, none⟩ = some (.pointer (some ⟨g, 0, none⟩)) ∧ w'.cell? ⟨W.heap.size, 8, none⟩ = some (.int .i64 who) ∧ w'.cell? ⟨p, 0, none⟩ = some (.int .i64 2) ∧ w'.cell? ⟨p, 1, none⟩ = some (.int .u64 now) ∧ w'.cell? ⟨p, 2, none⟩ = some (.int .i64 at_))
      (first
        | exact ⟨k0, k1, k2, k3, k4, k5, k6, k7, k8, d0, d1, d2⟩
        | exact ⟨cell_of_row W1 W.heap.size 0 _ _ _ hX1, cell_of_row W1 W.heap.size 1 _ _ _ hX1, cell_of_row W1 W.heap.size 2 _ _ _ hX1, cell_of_row W1 W.heap.size 3 _ _ _ hX1, cell_of_row W1 W.heap.size 4 _ _ _ hX1, cell_of_row W1 W.heap.size 5 _ _ _ hX1, cell_of_row W1 W.heap.size 6 _ _ _ hX1, cell_of_row W1 W.heap.size 7 _ _ _ hX1, cell_of_row W1 W.heap.size 8 _ _ _ hX1, cell_of_row W1 p 0 _ _ _ hI1, cell_of_row W1 p 1 _ _ _ hI1, cell_of_row W1 p 2 _ _ _ hI1⟩
        | exact ⟨cell_of_row _ W.heap.size 0 _ _ _ ((heap_set_far (p := ⟨p, 3, none⟩) _ n0).trans hX1), cell_of_row _ W.heap.size 1 _ _ _ ((heap_set_far (p := ⟨p, 3, none⟩) _ n0).trans hX1), cell_of_row _ W.heap.size 2 _ _ _ ((heap_set_far (p := ⟨p, 3, none⟩) _ n0).trans hX1), cell_of_row _ W.heap.size 3 _ _ _ ((heap_set_far (p := ⟨p, 3, none⟩) _ n0).trans hX1), cell_of_row _ W.heap.size 4 _ _ _ ((heap_set_far (p := ⟨p, 3, none⟩) _ n0).trans hX1), cell_of_row _ W.heap.size 5 _ _ _ ((heap_set_far (p := ⟨p, 3, none⟩) _ n0).trans hX1), cell_of_row _ W.heap.size 6 _ _ _ ((heap_set_far (p := ⟨p, 3, none⟩) _ n0).trans hX1), cell_of_row _ W.heap.size 7 _ _ _ ((heap_set_far (p := ⟨p, 3, none⟩) _ n0).trans hX1), cell_of_row _ W.heap.size 8 _ _ _ ((heap_set_far (p := ⟨p, 3, none⟩) _ n0).trans hX1), cell_of_row _ p 0 _ _ _ (adv_went hI1 true), cell_of_row _ p 1 _ _ _ (adv_went hI1 true), cell_of_row _ p 2 _ _ _ (adv_went hI1 true)⟩)
      (first
        | (go_at_call 62; refine (LEpoch_any _).mono ?_; rintro e w9 ⟨rfl, hw⟩; obtain rfl := hw.symm; clear hw)
        | (go_at_call 84; refine (ECas_yes th sl ch wo ge sp tr who g gw gh m 0 now now1 _ hM0.drew h1 hs HV.out HO.out).mono ?_; rintro e W1 ⟨rfl, hM1, hK1⟩; have hI1 := hK1.heap (b := p) (W := W0.drew) hI0 np.1 np.2.1 np.2.2; have hX1 := hK1.heap (b := W.heap.size) (W := W0.drew) HX n1 n2 n3; clear d0 d1 d2 d3 f0 f1 f2 f3; have d0 := cell_of_row W1 p 0 _ _ _ hI1; have d1 := cell_of_row W1 p 1 _ _ _ hI1; have d2 := cell_of_row W1 p 2 _ _ _ hI1; have d3 := cell_of_row W1 p 3 _ _ _ hI1; have f0 := frozen_of 0 hI1; have f1 := frozen_of 1 hI1; have f2 := frozen_of 2 hI1; have f3 := frozen_of 3 hI1))) | fail)
  all_goals
    go_wp2
    go_ret
    obtain ⟨r1, r2⟩ := adv_set hM1 np 3 (.bool true)
    exact ⟨rfl, r1, adv_went hI1 _, (hB0.drew.trans (KeepL.of3 hK1 (by simp) (by simp) (by simp))).trans r2⟩
theorem AdvWent (p : Nat) (pc now at_ : Int) (went : Bool) (W : World) (hI : AdvAt W p pc now at_ went) :
    Calls Try.prog 74 #[.pointer (some ⟨p, 0, none⟩)] W fun e W' => e = .returned (.bool went) ∧ W' = W := by
  have d3 : W.cell? ⟨p, 3, none⟩ = _ := cell_of_row W p 3 _ _ _ hI
  go_enter Try.func74, Try.ntmps74
  go_wp2
  go_ret
  exact ⟨rfl, rfl⟩
theorem AdvWent_nil (W : World) : Calls Try.prog 74 #[.pointer none] W fun e W' => e = .returned (.bool false) ∧ W' = W := by
  go_enter Try.func74, Try.ntmps74
  go_wp2
  go_ret
  exact ⟨rfl, rfl⟩
end Go.Proofs.Ytnpjfdiapoghnaa
