/- Layer 4, layout: an arena's words, loaded, laid and exchanged by somebody. -/
import Derived.Test.YtnpjfdiapoghnaaLayout
namespace Go.Proofs.Ytnpjfdiapoghnaa
open Go Go.RowKit

def Ms.ld (m : Ms) (who : Int) (k : Nat) : Ms := (m.by_ who).step k
def Ms.st (m : Ms) (who : Int) (k : Nat) (v : Int) : Ms := ((m.by_ who).step k).set k v
set_option maxRecDepth 100000 in
theorem ELoad (th sl ch wo ge sp tr who : Int) (g gw gh : Nat) (m : Ms) (k : Nat) (W : World) (hM : MemAt W g gw gh m) (h1 : k < m.n) (hs : m.steps < 4611686018427387904) :
    Calls Try.prog 82 #[.agg #[.int .i64 th, .int .i64 sl, .int .i64 ch, .int .i64 wo, .int .i64 ge, .int .i64 sp, .int .i64 tr, .pointer (some ⟨g, 0, none⟩), .int .i64 who], .int .i64 k] W fun e W' => e = .returned (.int .u64 (m.w k)) ∧ MemAt W' g gw gh (m.ld who k) ∧ Keep3 g gw gh W W' := by
  have HX : (W.alloc (.cells #[.int .i64 th, .int .i64 sl, .int .i64 ch, .int .i64 wo, .int .i64 ge, .int .i64 sp, .int .i64 tr, .pointer (some ⟨g, 0, none⟩), .int .i64 who] 87)).heap[W.heap.size]? = some (.cells #[.int .i64 th, .int .i64 sl, .int .i64 ch, .int .i64 wo, .int .i64 ge, .int .i64 sp, .int .i64 tr, .pointer (some ⟨g, 0, none⟩), .int .i64 who] 87 (0, 0)) := heap_alloc_new W _
  have hM0 := hM.below (below_new W (.cells #[.int .i64 th, .int .i64 sl, .int .i64 ch, .int .i64 wo, .int .i64 ge, .int .i64 sp, .int .i64 tr, .pointer (some ⟨g, 0, none⟩), .int .i64 who] 87))
  have n1 : W.heap.size ≠ g := by have := hM.lt; omega
  have n2 : W.heap.size ≠ gw := by have := hM.ltw; omega
  have n3 : W.heap.size ≠ gh := by have := hM.lth; omega
  clear hM
  go_enter Try.func82, Try.ntmps82
  go_wp2_with fail
  refine (By_any g gw gh m who _ hM0).mono ?_
  rintro e W1 ⟨rfl, hM1, hK1⟩
  replace HX := hK1.heap HX n1 n2 n3
  have k7 := cell_of_row W1 W.heap.size 7 _ _ _ HX
  clear hM0
  go_wp2_with fail
  refine (Load_yes g gw gh (m.by_ who) k _ hM1 h1 hs).mono ?_
  rintro e W2 ⟨rfl, hM2, hK2⟩
  go_wp2
  go_ret
  exact ⟨rfl, hM2, ((Keep3.of_below (below_new _ _)).trans hK1).trans hK2⟩
set_option maxRecDepth 100000 in
theorem EStore (th sl ch wo ge sp tr who : Int) (g gw gh : Nat) (m : Ms) (k : Nat) (v : Int) (W : World) (hM : MemAt W g gw gh m) (h1 : k < m.n) (hs : m.steps < 4611686018427387904) (hv : 0 ≤ v ∧ v < 18446744073709551616) :
    Calls Try.prog 83 #[.agg #[.int .i64 th, .int .i64 sl, .int .i64 ch, .int .i64 wo, .int .i64 ge, .int .i64 sp, .int .i64 tr, .pointer (some ⟨g, 0, none⟩), .int .i64 who], .int .i64 k, .int .u64 v] W fun e W' => e = .returned (.tuple #[]) ∧ MemAt W' g gw gh (m.st who k v) ∧ Keep3 g gw gh W W' := by
  have HX : (W.alloc (.cells #[.int .i64 th, .int .i64 sl, .int .i64 ch, .int .i64 wo, .int .i64 ge, .int .i64 sp, .int .i64 tr, .pointer (some ⟨g, 0, none⟩), .int .i64 who] 87)).heap[W.heap.size]? = some (.cells #[.int .i64 th, .int .i64 sl, .int .i64 ch, .int .i64 wo, .int .i64 ge, .int .i64 sp, .int .i64 tr, .pointer (some ⟨g, 0, none⟩), .int .i64 who] 87 (0, 0)) := heap_alloc_new W _
  have hM0 := hM.below (below_new W (.cells #[.int .i64 th, .int .i64 sl, .int .i64 ch, .int .i64 wo, .int .i64 ge, .int .i64 sp, .int .i64 tr, .pointer (some ⟨g, 0, none⟩), .int .i64 who] 87))
  have n1 : W.heap.size ≠ g := by have := hM.lt; omega
  have n2 : W.heap.size ≠ gw := by have := hM.ltw; omega
  have n3 : W.heap.size ≠ gh := by have := hM.lth; omega
  clear hM
  go_enter Try.func83, Try.ntmps83
  go_wp2_with fail
  refine (By_any g gw gh m who _ hM0).mono ?_
  rintro e W1 ⟨rfl, hM1, hK1⟩
  replace HX := hK1.heap HX n1 n2 n3
  have k7 := cell_of_row W1 W.heap.size 7 _ _ _ HX
  clear hM0
  go_wp2_with fail
  refine (Store_yes g gw gh (m.by_ who) k v _ hM1 h1 hs hv).mono ?_
  rintro e W2 ⟨rfl, hM2, hK2⟩
  go_wp2
  go_end0
  exact ⟨rfl, hM2, ((Keep3.of_below (below_new _ _)).trans hK1).trans hK2⟩
set_option maxRecDepth 100000 in
theorem ECas_yes (th sl ch wo ge sp tr who : Int) (g gw gh : Nat) (m : Ms) (k : Nat) (old v : Int) (W : World) (hM : MemAt W g gw gh m) (h1 : k < m.n) (hs : m.steps < 4611686018427387904) (hv : 0 ≤ v ∧ v < 18446744073709551616) (ho : m.w k = old) :
    Calls Try.prog 84 #[.agg #[.int .i64 th, .int .i64 sl, .int .i64 ch, .int .i64 wo, .int .i64 ge, .int .i64 sp, .int .i64 tr, .pointer (some ⟨g, 0, none⟩), .int .i64 who], .int .i64 k, .int .u64 old, .int .u64 v] W fun e W' => e = .returned (.bool true) ∧ MemAt W' g gw gh (m.st who k v) ∧ Keep3 g gw gh W W' := by
  have HX : (W.alloc (.cells #[.int .i64 th, .int .i64 sl, .int .i64 ch, .int .i64 wo, .int .i64 ge, .int .i64 sp, .int .i64 tr, .pointer (some ⟨g, 0, none⟩), .int .i64 who] 87)).heap[W.heap.size]? = some (.cells #[.int .i64 th, .int .i64 sl, .int .i64 ch, .int .i64 wo, .int .i64 ge, .int .i64 sp, .int .i64 tr, .pointer (some ⟨g, 0, none⟩), .int .i64 who] 87 (0, 0)) := heap_alloc_new W _
  have hM0 := hM.below (below_new W (.cells #[.int .i64 th, .int .i64 sl, .int .i64 ch, .int .i64 wo, .int .i64 ge, .int .i64 sp, .int .i64 tr, .pointer (some ⟨g, 0, none⟩), .int .i64 who] 87))
  have n1 : W.heap.size ≠ g := by have := hM.lt; omega
  have n2 : W.heap.size ≠ gw := by have := hM.ltw; omega
  have n3 : W.heap.size ≠ gh := by have := hM.lth; omega
  clear hM
  go_enter Try.func84, Try.ntmps84
  go_wp2_with fail
  refine (By_any g gw gh m who _ hM0).mono ?_
  rintro e W1 ⟨rfl, hM1, hK1⟩
  replace HX := hK1.heap HX n1 n2 n3
  have k7 := cell_of_row W1 W.heap.size 7 _ _ _ HX
  clear hM0
  go_wp2_with fail
  refine (Cas_yes g gw gh (m.by_ who) k old v _ hM1 h1 hs hv ho).mono ?_
  rintro e W2 ⟨rfl, hM2, hK2⟩
  go_wp2
  go_ret
  exact ⟨rfl, hM2, ((Keep3.of_below (below_new _ _)).trans hK1).trans hK2⟩
set_option maxRecDepth 100000 in
theorem ECas_other (th sl ch wo ge sp tr who : Int) (g gw gh : Nat) (m : Ms) (k : Nat) (old v : Int) (W : World) (hM : MemAt W g gw gh m) (h1 : k < m.n) (hs : m.steps < 4611686018427387904) (ho : m.w k ≠ old) :
    Calls Try.prog 84 #[.agg #[.int .i64 th, .int .i64 sl, .int .i64 ch, .int .i64 wo, .int .i64 ge, .int .i64 sp, .int .i64 tr, .pointer (some ⟨g, 0, none⟩), .int .i64 who], .int .i64 k, .int .u64 old, .int .u64 v] W fun e W' => e = .returned (.bool false) ∧ MemAt W' g gw gh (m.ld who k) ∧ Keep3 g gw gh W W' := by
  have HX : (W.alloc (.cells #[.int .i64 th, .int .i64 sl, .int .i64 ch, .int .i64 wo, .int .i64 ge, .int .i64 sp, .int .i64 tr, .pointer (some ⟨g, 0, none⟩), .int .i64 who] 87)).heap[W.heap.size]? = some (.cells #[.int .i64 th, .int .i64 sl, .int .i64 ch, .int .i64 wo, .int .i64 ge, .int .i64 sp, .int .i64 tr, .pointer (some ⟨g, 0, none⟩), .int .i64 who] 87 (0, 0)) := heap_alloc_new W _
  have hM0 := hM.below (below_new W (.cells #[.int .i64 th, .int .i64 sl, .int .i64 ch, .int .i64 wo, .int .i64 ge, .int .i64 sp, .int .i64 tr, .pointer (some ⟨g, 0, none⟩), .int .i64 who] 87))
  have n1 : W.heap.size ≠ g := by have := hM.lt; omega
  have n2 : W.heap.size ≠ gw := by have := hM.ltw; omega
  have n3 : W.heap.size ≠ gh := by have := hM.lth; omega
  clear hM
  go_enter Try.func84, Try.ntmps84
  go_wp2_with fail
  refine (By_any g gw gh m who _ hM0).mono ?_
  rintro e W1 ⟨rfl, hM1, hK1⟩
  replace HX := hK1.heap HX n1 n2 n3
  have k7 := cell_of_row W1 W.heap.size 7 _ _ _ HX
  clear hM0
  go_wp2_with fail
  refine (Cas_other g gw gh (m.by_ who) k old v _ hM1 h1 hs ho).mono ?_
  rintro e W2 ⟨rfl, hM2, hK2⟩
  go_wp2
  go_ret
  exact ⟨rfl, hM2, ((Keep3.of_below (below_new _ _)).trans hK1).trans hK2⟩
set_option maxRecDepth 100000 in
theorem ENow (th sl ch wo ge sp tr who : Int) (g gw gh : Nat) (m : Ms) (W : World) (hM : MemAt W g gw gh m) :
    Calls Try.prog 66 #[.agg #[.int .i64 th, .int .i64 sl, .int .i64 ch, .int .i64 wo, .int .i64 ge, .int .i64 sp, .int .i64 tr, .pointer (some ⟨g, 0, none⟩), .int .i64 who]] W fun e W' => e = .returned (.int .i64 m.steps) ∧ Below W.heap.size W W' := by
  have hM0 := hM.below (below_new W (.cells #[.int .i64 th, .int .i64 sl, .int .i64 ch, .int .i64 wo, .int .i64 ge, .int .i64 sp, .int .i64 tr, .pointer (some ⟨g, 0, none⟩), .int .i64 who] 87))
  clear hM
  go_enter Try.func66, Try.ntmps66
  go_wp2_with fail
  refine (Steps_any g gw gh m _ hM0).mono ?_
  rintro e W1 ⟨rfl, hw⟩
  obtain rfl := hw.symm
  go_wp2
  go_ret
  exact ⟨rfl, below_new _ _⟩
end Go.Proofs.Ytnpjfdiapoghnaa
