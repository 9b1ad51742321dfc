/- Layer 5's statements: the arena that they use, and that 'awake' answers true. -/
import Derived.Test.YtnpjfdiapoghnaaPin
import Derived.Test.YtnpjfdiapoghnaaLayout2
import Derived.Deep.RegionHeld3
namespace Go.Proofs.Ytnpjfdiapoghnaa
open Go Go.RowKit

set_option maxRecDepth 100000 in
theorem Config3_any (w : World) :
    Calls Try.prog 80 #[.agg #[.int .i64 3, .int .i64 0, .int .i64 0, .int .i64 0, .int .i64 0, .int .i64 0, .int .i64 0]] w fun e w' => e = .returned (.agg #[.int .i64 4, .int .i64 1, .int .i64 1, .int .i64 17, .int .i64 1, .int .i64 0, .int .i64 1]) ∧ Below w.heap.size w w' := by
  have e0 : bits .and .i64 3 3 = 3 := by decide
  have e1 : bits .and .i64 0 15 = 0 := by decide
  have e2 : bits .and .i64 0 7 = 0 := by decide
  have e3 : bits .and .i64 0 31 = 0 := by decide
  have e4 : bits .and .i64 0 1023 = 0 := by decide
  have e5 : bits .and .i64 0 3 = 0 := by decide
  go_enter Try.func80, Try.ntmps80
  go_wp2
  refine bodyPost_ret (v := .agg #[.int .i64 4, .int .i64 1, .int .i64 1, .int .i64 17, .int .i64 1, .int .i64 0, .int .i64 1]) (by simp [results, Try.results80, go_sem]) rfl ⟨rfl, ?_⟩
  exact (below_new _ _).alloc (by simp) _

set_option maxHeartbeats 1000000 in
set_option maxRecDepth 100000 in
theorem arena5_any (who : Int) (w : World) :
    Calls Try.prog 58 #[.int .i64 who] w fun e w' => ∃ g gw gh, e = .returned (.tuple #[.agg #[.int .i64 4, .int .i64 1, .int .i64 1, .int .i64 17, .int .i64 1, .int .i64 0, .int .i64 1, .pointer (some ⟨g, 0, none⟩), .int .i64 who], .bool true]) ∧
      MemAt w' g gw gh (freshOne 4 1 17) ∧ Below w.heap.size w w' ∧ w.heap.size ≤ g ∧ w.heap.size ≤ gw ∧ w.heap.size ≤ gh := by
  go_enter Try.func58, Try.ntmps58
  go_wp2_with fail
  refine (Config3_any _).mono ?_
  rintro e w1 ⟨rfl, hb1⟩
  have hz1 := hb1.size
  simp at hz1
  go_wp2_with fail
  refine (Fresh_one 4 1 17 1 0 1 _ (by omega) (by omega) (by omega) (by omega) (by omega) (by omega)).mono ?_
  rintro e w2 ⟨g, gw, gh, rfl, hM, hb2, b0, b1, b2⟩
  simp at b0 b1 b2
  have ho : w2.heap[w.heap.size]? = some (.cells #[.int .i64 0, .int .i64 0, .int .i64 0, .int .i64 0, .int .i64 0, .int .i64 0, .int .i64 0, .pointer none, .int .i64 0] 87 (0, 0)) := by
    rw [hb2.block _ (by simp; omega), Below.heap_alloc _ _ _ (by omega), hb1.block _ (by simp)]; exact heap_alloc_new w _
  have hc : w2.heap[w1.heap.size]? = some (.cells #[.int .i64 4, .int .i64 1, .int .i64 1, .int .i64 17, .int .i64 1, .int .i64 0, .int .i64 1] 85 (0, 0)) := by
    rw [hb2.block _ (by simp)]; exact heap_alloc_new w1 _
  have o0 := cell_of_row w2 w.heap.size 0 _ _ _ ho
  have p0 := frozen_of 0 ho
  have o1 := cell_of_row w2 w.heap.size 1 _ _ _ ho
  have p1 := frozen_of 1 ho
  have o2 := cell_of_row w2 w.heap.size 2 _ _ _ ho
  have p2 := frozen_of 2 ho
  have o3 := cell_of_row w2 w.heap.size 3 _ _ _ ho
  have p3 := frozen_of 3 ho
  have o4 := cell_of_row w2 w.heap.size 4 _ _ _ ho
  have p4 := frozen_of 4 ho
  have o5 := cell_of_row w2 w.heap.size 5 _ _ _ ho
  have p5 := frozen_of 5 ho
  have o6 := cell_of_row w2 w.heap.size 6 _ _ _ ho
  have p6 := frozen_of 6 ho
  have o7 := cell_of_row w2 w.heap.size 7 _ _ _ ho
  have p7 := frozen_of 7 ho
  have o8 := cell_of_row w2 w.heap.size 8 _ _ _ ho
  have p8 := frozen_of 8 ho
  have q0 := cell_of_row w2 w1.heap.size 0 _ _ _ hc
  have q1 := cell_of_row w2 w1.heap.size 1 _ _ _ hc
  have q2 := cell_of_row w2 w1.heap.size 2 _ _ _ hc
  have q3 := cell_of_row w2 w1.heap.size 3 _ _ _ hc
  have q4 := cell_of_row w2 w1.heap.size 4 _ _ _ hc
  have q5 := cell_of_row w2 w1.heap.size 5 _ _ _ hc
  have q6 := cell_of_row w2 w1.heap.size 6 _ _ _ hc
  go_wp2
  have hB : Below w.heap.size w w2 := ((below_new _ _).trans (hb1.mono (by simp))).trans ((below_new w1 _).mono (by omega) |>.trans (hb2.mono (by simp; omega)))
  refine bodyPost_ret (v := .tuple #[.agg #[.int .i64 4, .int .i64 1, .int .i64 1, .int .i64 17, .int .i64 1, .int .i64 0, .int .i64 1, .pointer (some ⟨g, 0, none⟩), .int .i64 who], .bool true]) (by simp [results, Try.results58, go_sem, o0, o1, o2, o3, o4, o5, o6, o7, o8]) rfl ⟨g, gw, gh, rfl, ?_, ?_, by omega, by omega, by omega⟩
  · iterate 9 refine MemAt.far ?_ _ (by show g ≠ w.heap.size; omega) (by show gw ≠ w.heap.size; omega) (by show gh ≠ w.heap.size; omega)
    exact hM
  · iterate 9 refine Below.setCell ?_ (Nat.le_refl w.heap.size) _
    exact hB

/-! ### awake -/
set_option maxHeartbeats 2000000 in
set_option maxRecDepth 100000 in
theorem awake5_any (w : World) :
    Calls Try.prog 59 #[] w fun e w' => e = .returned (.bool true) ∧ Below w.heap.size w w' := by
  go_enter Try.func59, Try.ntmps59
  go_wp2_with fail
  refine (arena5_any 1 _).mono ?_
  rintro e w1 ⟨g, gw, gh, rfl, hM, hb1, b0, b1, b2⟩
  go_wp2
  have hl := hM.lt
  have hlw := hM.ltw
  have hlh := hM.lth
  have np : w1.heap.size + 1 ≠ g ∧ w1.heap.size + 1 ≠ gw ∧ w1.heap.size + 1 ≠ gh := by omega
  have hn : w1.heap.size ∉ [w1.heap.size + 1, g, gw, gh] := by simp; omega
  have hbl : ∀ k ∈ [w1.heap.size + 1, g, gw, gh], w.heap.size ≤ k := by have := hb1.size; simp; omega
  have hX : ((w1.alloc (.cells #[.int .i64 4, .int .i64 1, .int .i64 1, .int .i64 17, .int .i64 1, .int .i64 0, .int .i64 1, .pointer (some ⟨g, 0, none⟩), .int .i64 1] 87)).alloc (.cells #[.int .i64 0, .int .u64 0] 91)).heap[w1.heap.size]? = some (.cells #[.int .i64 4, .int .i64 1, .int .i64 1, .int .i64 17, .int .i64 1, .int .i64 0, .int .i64 1, .pointer (some ⟨g, 0, none⟩), .int .i64 1] 87 (0, 0)) := by
    rw [Below.heap_alloc _ _ _ (by simp)]; exact heap_alloc_new w1 _
  have hI : InAt ((w1.alloc (.cells #[.int .i64 4, .int .i64 1, .int .i64 1, .int .i64 17, .int .i64 1, .int .i64 0, .int .i64 1, .pointer (some ⟨g, 0, none⟩), .int .i64 1] 87)).alloc (.cells #[.int .i64 0, .int .u64 0] 91)) (w1.heap.size + 1) 0 0 := by
    have h := heap_alloc_new (w1.alloc (.cells #[.int .i64 4, .int .i64 1, .int .i64 1, .int .i64 17, .int .i64 1, .int .i64 0, .int .i64 1, .pointer (some ⟨g, 0, none⟩), .int .i64 1] 87)) (.cells #[.int .i64 0, .int .u64 0] 91)
    rw [show (w1.alloc (.cells #[.int .i64 4, .int .i64 1, .int .i64 1, .int .i64 17, .int .i64 1, .int .i64 0, .int .i64 1, .pointer (some ⟨g, 0, none⟩), .int .i64 1] 87)).heap.size = w1.heap.size + 1 from by simp] at h
    exact h
  have hB : Below w.heap.size w ((w1.alloc (.cells #[.int .i64 4, .int .i64 1, .int .i64 1, .int .i64 17, .int .i64 1, .int .i64 0, .int .i64 1, .pointer (some ⟨g, 0, none⟩), .int .i64 1] 87)).alloc (.cells #[.int .i64 0, .int .u64 0] 91)) := (hb1.alloc hb1.size _).alloc (by have := hb1.size; simp; omega) _
  replace hM := (hM.below (below_new w1 (.cells #[.int .i64 4, .int .i64 1, .int .i64 1, .int .i64 17, .int .i64 1, .int .i64 0, .int .i64 1, .pointer (some ⟨g, 0, none⟩), .int .i64 1] 87))).below (below_new _ (.cells #[.int .i64 0, .int .u64 0] 91))
  have hs : w.heap.size ≤ ((w1.alloc (.cells #[.int .i64 4, .int .i64 1, .int .i64 1, .int .i64 17, .int .i64 1, .int .i64 0, .int .i64 1, .pointer (some ⟨g, 0, none⟩), .int .i64 1] 87)).alloc (.cells #[.int .i64 0, .int .u64 0] 91)).heap.size := by have := hb1.size; simp; omega
  generalize (w1.alloc (.cells #[.int .i64 4, .int .i64 1, .int .i64 1, .int .i64 17, .int .i64 1, .int .i64 0, .int .i64 1, .pointer (some ⟨g, 0, none⟩), .int .i64 1] 87)).alloc (.cells #[.int .i64 0, .int .u64 0] 91) = W2 at hX hI hB hM hs ⊢
  replace hB := hB.drew
  replace hM := hM.drew
  replace hX : W2.drew.heap[w1.heap.size]? = _ := hX
  replace hI : InAt W2.drew (w1.heap.size + 1) 0 0 := hI
  replace hs : w.heap.size ≤ W2.drew.heap.size := hs
  (first | (go_region_held3 (fun w' => w'.cell? ⟨w1.heap.size, 0, none⟩ = some (.int .i64 4) ∧ w'.cell? ⟨w1.heap.size, 1, none⟩ = some (.int .i64 1) ∧ w'.cell? ⟨w1.heap.size, 2, none⟩ = some (.int .i64 1) ∧ w'.cell? ⟨w1.heap.size, 3, none⟩ = some (.int .i64 17) ∧ w'.cell? ⟨w1.heap.size, 4, none⟩ = some (.int .i64 1) ∧ w'.cell? ⟨w1.heap.size, 5, none⟩ = some (.int .i64 0) ∧ w'.cell? ⟨w1.heap.size, 6, none⟩ = some (.int .i64 1) ∧ w'.cell? ⟨w1.heap.size, 7, none⟩ = some (.pointer (some ⟨g, 0, none⟩)) ∧ w'.cell? ⟨w1.heap.size, 8, none⟩ = some (.int .i64 1))
      (exact ⟨cell_of_row _ w1.heap.size 0 _ _ _ hX, cell_of_row _ w1.heap.size 1 _ _ _ hX, cell_of_row _ w1.heap.size 2 _ _ _ hX, cell_of_row _ w1.heap.size 3 _ _ _ hX, cell_of_row _ w1.heap.size 4 _ _ _ hX, cell_of_row _ w1.heap.size 5 _ _ _ hX, cell_of_row _ w1.heap.size 6 _ _ _ hX, cell_of_row _ w1.heap.size 7 _ _ _ hX, cell_of_row _ w1.heap.size 8 _ _ _ hX⟩)
      (first
        | (go_at_call 60; refine (PinStep0 4 1 1 17 1 0 1 1 g gw gh (w1.heap.size + 1) _ 0 _ hM hI np (by decide) (by decide)).mono ?_; rintro e w9 ⟨rfl, hM', hI', hK⟩; replace hX := hK.heap hX hn; replace hB := hB.trans (hK.below hbl (by omega)); replace hs := Nat.le_trans hs hK.size; replace hM := hM'; replace hI := hI'; clear hM' hI' hK)
        | (go_at_call 60; refine (PinStep1 4 1 1 17 1 0 1 1 g gw gh (w1.heap.size + 1) _ _ _ hM 1 hI (by decide) np 1 rfl (by omega) (by decide) (by decide)).mono ?_; rintro e w9 ⟨rfl, hM', hI', hK⟩; replace hX := hK.heap hX hn; replace hB := hB.trans (hK.below hbl (by omega)); replace hs := Nat.le_trans hs hK.size; replace hM := hM'; replace hI := hI'; clear hM' hI' hK)
        | (go_at_call 60; refine (PinStep2_done 4 1 1 17 1 0 1 1 g gw gh (w1.heap.size + 1) _ _ _ hM hI (by decide) np (by decide) (by decide)).mono ?_; rintro e w9 ⟨rfl, hM', hI', hK⟩; replace hX := hK.heap hX hn; replace hB := hB.trans (hK.below hbl (by omega)); replace hs := Nat.le_trans hs hK.size; replace hM := hM'; replace hI := hI'; clear hM' hI' hK))) | fail)
  have k7 := cell_of_row _ w1.heap.size 7 _ _ _ hX
  have HP : Hid (∀ q : Nat, Calls Try.prog 49 #[.pointer (some ⟨g, 0, none⟩), .int .i64 7] (w9.drewN q) fun e w' => e = .returned (.int .u64 1) ∧ w' = w9.drewN q) :=
    fun q => Peek_yes g gw gh _ 7 _ (hM.drewN q) (by decide)
  go_wp2
  go_quiet ((first | (go_at_call 61; exact Calls.quiet_of_same (LPin_any 1 _ (by omega) (by omega))) | (go_at_call 49; exact Calls.quiet_of_same (HP.out _))))
  go_wp2
  go_ret
  exact ⟨rfl, below_drewN hB _⟩
end Go.Proofs.Ytnpjfdiapoghnaa
