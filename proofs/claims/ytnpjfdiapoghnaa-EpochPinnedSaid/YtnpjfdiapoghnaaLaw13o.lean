/- Layer 5, pin: a thread lets its pin go. -/
import Derived.Test.YtnpjfdiapoghnaaLaw13b
namespace Go.Proofs.Ytnpjfdiapoghnaa
open Go Go.RowKit
set_option maxHeartbeats 1000000 in
set_option maxRecDepth 100000 in
theorem PinOut (th sl ch wo ge sp tr who : Int) (g gw gh : Nat) (m : Ms) (W : World) (hM : MemAt W g gw gh m) (wk : Nat) (hwk : who = (wk : Int)) (hw8 : wk ≤ 100) (h1 : 6 + wk < m.n) (hs : m.steps < 4611686018427387904) :
    Calls Try.prog 67 #[.agg #[], .agg #[.int .i64 th, .int .i64 sl, .int .i64 ch, .int .i64 wo, .int .i64 ge, .int .i64 sp, .int .i64 tr, .pointer (some ⟨g, 0, none⟩), .int .i64 who]] W fun e W' => e = .returned (.bool true) ∧ MemAt W' g gw gh (m.st who (6 + wk) 0) ∧ Keep3 g gw gh W W' := by
  have HX : ((W.alloc (.cells #[] 103)).alloc (.cells #[.int .i64 th, .int .i64 sl, .int .i64 ch, .int .i64 wo, .int .i64 ge, .int .i64 sp, .int .i64 tr, .pointer (some ⟨g, 0, none⟩), .int .i64 who] 87)).heap[W.heap.size + 1]? = some (.cells #[.int .i64 th, .int .i64 sl, .int .i64 ch, .int .i64 wo, .int .i64 ge, .int .i64 sp, .int .i64 tr, .pointer (some ⟨g, 0, none⟩), .int .i64 who] 87 (0, 0)) := by
    have h := heap_alloc_new (W.alloc (.cells #[] 103)) (.cells #[.int .i64 th, .int .i64 sl, .int .i64 ch, .int .i64 wo, .int .i64 ge, .int .i64 sp, .int .i64 tr, .pointer (some ⟨g, 0, none⟩), .int .i64 who] 87)
    rw [show (W.alloc (.cells #[] 103)).heap.size = W.heap.size + 1 from by simp] at h
    exact h
  have hM0 := (hM.below (below_new W (.cells #[] 103))).below (below_new _ (.cells #[.int .i64 th, .int .i64 sl, .int .i64 ch, .int .i64 wo, .int .i64 ge, .int .i64 sp, .int .i64 tr, .pointer (some ⟨g, 0, none⟩), .int .i64 who] 87))
  have hK0 : Keep3 g gw gh W ((W.alloc (.cells #[] 103)).alloc (.cells #[.int .i64 th, .int .i64 sl, .int .i64 ch, .int .i64 wo, .int .i64 ge, .int .i64 sp, .int .i64 tr, .pointer (some ⟨g, 0, none⟩), .int .i64 who] 87)) := (Keep3.of_below (below_new _ _)).alloc _
  have n1 : W.heap.size + 1 ≠ g := by have := hM.lt; omega
  have n2 : W.heap.size + 1 ≠ gw := by have := hM.ltw; omega
  have n3 : W.heap.size + 1 ≠ gh := by have := hM.lth; omega
  have HK6 : Hid (6 + who = ((6 + wk : Nat) : Int)) := by show 6 + who = ((6 + wk : Nat) : Int); omega
  have HWK : Hid (-10 ≤ who ∧ who ≤ 1000000) := by show _ ∧ _; omega
  clear hwk
  go_enter Try.func67, Try.ntmps67
  go_wp2
  generalize hW0 : (W.alloc (.cells #[] 103)).alloc (.cells #[.int .i64 th, .int .i64 sl, .int .i64 ch, .int .i64 wo, .int .i64 ge, .int .i64 sp, .int .i64 tr, .pointer (some ⟨g, 0, none⟩), .int .i64 who] 87) = W0 at HX hM0 hK0 ⊢
  clear hW0 hM
  have k0 := cell_of_row W0 (W.heap.size + 1) 0 _ _ _ HX
  have k1 := cell_of_row W0 (W.heap.size + 1) 1 _ _ _ HX
  have k2 := cell_of_row W0 (W.heap.size + 1) 2 _ _ _ HX
  have k3 := cell_of_row W0 (W.heap.size + 1) 3 _ _ _ HX
  have k4 := cell_of_row W0 (W.heap.size + 1) 4 _ _ _ HX
  have k5 := cell_of_row W0 (W.heap.size + 1) 5 _ _ _ HX
  have k6 := cell_of_row W0 (W.heap.size + 1) 6 _ _ _ HX
  have k7 := cell_of_row W0 (W.heap.size + 1) 7 _ _ _ HX
  have k8 := cell_of_row W0 (W.heap.size + 1) 8 _ _ _ HX
  (first | (go_region_held3 (fun w' => w'.cell? ⟨W.heap.size + 1, 0, none⟩ = some (.int .i64 th) ∧ w'.cell? ⟨W.heap.size + 1, 1, none⟩ = some (.int .i64 sl) ∧ w'.cell? ⟨W.heap.size + 1, 2, none⟩ = some (.int .i64 ch) ∧ w'.cell? ⟨W.heap.size + 1, 3, none⟩ = some (.int .i64 wo) ∧ w'.cell? ⟨W.heap.size + 1, 4, none⟩ = some (.int .i64 ge) ∧ w'.cell? ⟨W.heap.size + 1, 5, none⟩ = some (.int .i64 sp) ∧ w'.cell? ⟨W.heap.size + 1, 6, none⟩ = some (.int .i64 tr) ∧ w'.cell? ⟨W.heap.size + 1, 7, none⟩ = some (.pointer (some ⟨g, 0, none⟩)) ∧ w'.cell? ⟨W.heap.size + 1, 8, none⟩ = some (.int .i64 who))
      (first
        | exact ⟨k0, k1, k2, k3, k4, k5, k6, k7, k8⟩
        | exact ⟨cell_of_row W1 (W.heap.size + 1) 0 _ _ _ hX1, cell_of_row W1 (W.heap.size + 1) 1 _ _ _ hX1, cell_of_row W1 (W.heap.size + 1) 2 _ _ _ hX1, cell_of_row W1 (W.heap.size + 1) 3 _ _ _ hX1, cell_of_row W1 (W.heap.size + 1) 4 _ _ _ hX1, cell_of_row W1 (W.heap.size + 1) 5 _ _ _ hX1, cell_of_row W1 (W.heap.size + 1) 6 _ _ _ hX1, cell_of_row W1 (W.heap.size + 1) 7 _ _ _ hX1, cell_of_row W1 (W.heap.size + 1) 8 _ _ _ hX1⟩)
      (first
        | (go_at_call 61; refine (LPin_any _ _ HWK.out.1 HWK.out.2).mono ?_; rintro e w9 ⟨rfl, hw⟩; obtain rfl := hw.symm; clear hw)
        | (go_at_call 83; rw [HK6.out]; refine (EStore th sl ch wo ge sp tr who g gw gh m (6 + wk) 0 _ hM0.drew h1 hs (by omega)).mono ?_; rintro e W1 ⟨rfl, hM1, hK1⟩; have hX1 := hK1.heap (b := W.heap.size + 1) (W := W0.drew) HX n1 n2 n3))) | fail)
  all_goals go_wp2
  all_goals go_ret
  all_goals exact ⟨rfl, hM1, hK0.drew.trans hK1⟩
end Go.Proofs.Ytnpjfdiapoghnaa
