/- Layer 4, layout: an arena's memory at the beginning, of one slot: what Fresh makes. -/
import Derived.Test.YtnpjfdiapoghnaaLayout
namespace Go.Proofs.Ytnpjfdiapoghnaa
open Go Go.RowKit

/-- How many words an arena of one slot has. -/
def lenOne (th ch wo : Nat) : Nat := 8 + th + 3 * ch + wo * ch
/-- Its memory at the beginning. -/
def freshOne (th ch wo : Nat) : Ms :=
  ((((((((Ms.new (lenOne th ch wo)).step (6 + th)).set (6 + th) 8388608).step (6 + th + 1)).set (6 + th + 1) 2).step (6 + th + 1)).set (6 + th + 1) 0).step 1).set 1 1

set_option linter.unusedSimpArgs false in
set_option maxHeartbeats 4000000 in
set_option maxRecDepth 100000 in
theorem Fresh_one (th ch wo : Nat) (ge sp tr : Int) (w : World) (h0 : 1 ≤ th ∧ th ≤ 8) (h2 : 1 ≤ ch ∧ ch ≤ 64) (h3 : 17 ≤ wo ∧ wo ≤ 256) (h4 : 1 ≤ ge ∧ ge ≤ 65535) (h5 : 0 ≤ sp ∧ sp ≤ 1000) (h6 : 1 ≤ tr ∧ tr ≤ 16) :
    Calls Try.prog 81 #[.agg #[.int .i64 th, .int .i64 1, .int .i64 ch, .int .i64 wo, .int .i64 ge, .int .i64 sp, .int .i64 tr]] w fun e w' => ∃ g gw gh, e = .returned (.tuple #[.pointer (some ⟨g, 0, none⟩), .int .i64 0]) ∧ MemAt w' g gw gh (freshOne th ch wo) ∧ Below w.heap.size w w' ∧ w.heap.size ≤ g ∧ w.heap.size ≤ gw ∧ w.heap.size ≤ gh := by
  have hp : wo * ch ≤ 16384 := Nat.le_trans (Nat.mul_le_mul h3.2 h2.2) (by omega)
  have hlen : lenOne th ch wo ≤ 1048576 := by unfold lenOne; omega
  have hlen2 : 8 + th ≤ lenOne th ch wo := by unfold lenOne; omega
  have HCK : Hid (∀ w, Calls Try.prog 87 #[.agg #[.int .i64 th, .int .i64 1, .int .i64 ch, .int .i64 wo, .int .i64 ge, .int .i64 sp, .int .i64 tr]] w fun e w' => e = .returned (.bool true) ∧ Below w.heap.size w w') :=
    fun w => LCheck_yes th 1 ch wo ge sp tr w (by omega) (by omega) (by omega) (by omega) h4 h5 h6
  have HLN : Hid (∀ w, Calls Try.prog 86 #[.agg #[.int .i64 th, .int .i64 1, .int .i64 ch, .int .i64 wo, .int .i64 ge, .int .i64 sp, .int .i64 tr]] w fun e w' => e = .returned (.int .i64 (lenOne th ch wo : Nat)) ∧ Below w.heap.size w w') := by
    intro w
    have h := LLen_any th 1 ch wo ge sp tr ((wo * ch : Nat) : Int) w (by omega) (by omega) (by omega) (by simp) (by omega)
    rw [show 6 + (th : Int) + 2 * 1 + 3 * (ch : Int) + ((wo * ch : Nat) : Int) = ((lenOne th ch wo : Nat) : Int) from by unfold lenOne; omega] at h
    exact h
  have HSL : Hid (∀ w, Calls Try.prog 88 #[.agg #[.int .i64 th, .int .i64 1, .int .i64 ch, .int .i64 wo, .int .i64 ge, .int .i64 sp, .int .i64 tr], .int .i64 0] w fun e w' => e = .returned (.int .i64 ((6 + th : Nat) : Int)) ∧ Below w.heap.size w w') := by
    intro w
    have h := LSlot_any th 1 ch wo ge sp tr 0 w (by omega) (by omega)
    rw [show 6 + (th : Int) + 2 * 0 = ((6 + th : Nat) : Int) from by omega] at h
    exact h
  unfold freshOne
  obtain ⟨a, ha⟩ : ∃ a : Nat, a = 6 + th := ⟨_, rfl⟩
  rw [← ha] at HSL ⊢
  have hal : a + 1 < lenOne th ch wo := by omega
  have ha1 : a ≤ 100 := by omega
  clear ha
  have H7 : Hid ((a : Int) + 1 = ((a + 1 : Nat) : Int)) := by show (a : Int) + 1 = ((a + 1 : Nat) : Int); omega
  have HX : (w.alloc (.cells #[.int .i64 th, .int .i64 1, .int .i64 ch, .int .i64 wo, .int .i64 ge, .int .i64 sp, .int .i64 tr] 85)).heap[w.heap.size]? = some (.cells #[.int .i64 th, .int .i64 1, .int .i64 ch, .int .i64 wo, .int .i64 ge, .int .i64 sp, .int .i64 tr] 85 (0, 0)) := heap_alloc_new w _
  have hB0 := below_new w (.cells #[.int .i64 th, .int .i64 1, .int .i64 ch, .int .i64 wo, .int .i64 ge, .int .i64 sp, .int .i64 tr] 85)
  have hz0 : (w.alloc (.cells #[.int .i64 th, .int .i64 1, .int .i64 ch, .int .i64 wo, .int .i64 ge, .int .i64 sp, .int .i64 tr] 85)).heap.size = w.heap.size + 1 := by simp
  clear h0 h2 h3 h4 h5 h6 hp
  go_enter Try.func81, Try.ntmps81
  go_wp2_with fail
  refine (HCK.out _).mono ?_
  rintro e w1 ⟨rfl, hb⟩
  replace HX := (hb.block _ (lt_of_heap HX)).trans HX
  have hB1 := hB0.trans (hb.mono (by omega))
  have hz1 : w.heap.size + 1 ≤ w1.heap.size := by have := hb.size; omega
  clear hb hB0 hz0
  have k0 := cell_of_row _ w.heap.size 0 _ _ _ HX
  have k1 := cell_of_row _ w.heap.size 1 _ _ _ HX
  have k2 := cell_of_row _ w.heap.size 2 _ _ _ HX
  have k3 := cell_of_row _ w.heap.size 3 _ _ _ HX
  have k4 := cell_of_row _ w.heap.size 4 _ _ _ HX
  have k5 := cell_of_row _ w.heap.size 5 _ _ _ HX
  have k6 := cell_of_row _ w.heap.size 6 _ _ _ HX
  go_wp2_with fail
  refine (HLN.out _).mono ?_
  rintro e w2 ⟨rfl, hb⟩
  replace HX := (hb.block _ (lt_of_heap HX)).trans HX
  have hB2 := hB1.trans (hb.mono (by omega))
  have hz2 : w.heap.size + 1 ≤ w2.heap.size := by have := hb.size; omega
  clear hb hB1 hz1
  clear k0 k1 k2 k3 k4 k5 k6
  have k0 := cell_of_row _ w.heap.size 0 _ _ _ HX
  have k1 := cell_of_row _ w.heap.size 1 _ _ _ HX
  have k2 := cell_of_row _ w.heap.size 2 _ _ _ HX
  have k3 := cell_of_row _ w.heap.size 3 _ _ _ HX
  have k4 := cell_of_row _ w.heap.size 4 _ _ _ HX
  have k5 := cell_of_row _ w.heap.size 5 _ _ _ HX
  have k6 := cell_of_row _ w.heap.size 6 _ _ _ HX
  go_wp2_with fail
  refine (New_yes _ _ (by omega) hlen).mono ?_
  rintro e w3 ⟨g, gw, gh, rfl, hM, hb, b0, b1, b2⟩
  replace HX := (hb.block _ (lt_of_heap HX)).trans HX
  have hB3 := hB2.trans (hb.mono (by omega))
  have hz3 : w.heap.size + 1 ≤ w3.heap.size := by have := hb.size; omega
  have n1 : w.heap.size ≠ g := by omega
  have n2 : w.heap.size ≠ gw := by omega
  have n3 : w.heap.size ≠ gh := by omega
  clear hb hB2
  clear k0 k1 k2 k3 k4 k5 k6
  have k0 := cell_of_row _ w.heap.size 0 _ _ _ HX
  have k1 := cell_of_row _ w.heap.size 1 _ _ _ HX
  have k2 := cell_of_row _ w.heap.size 2 _ _ _ HX
  have k3 := cell_of_row _ w.heap.size 3 _ _ _ HX
  have k4 := cell_of_row _ w.heap.size 4 _ _ _ HX
  have k5 := cell_of_row _ w.heap.size 5 _ _ _ HX
  have k6 := cell_of_row _ w.heap.size 6 _ _ _ HX
  go_wp2_with fail
  refine wp_loop_rounds 2 ?_
  rw [rounds_succ]
  go_wp2_with fail
  refine (HSL.out _).mono ?_
  rintro e w4 ⟨rfl, hb⟩
  replace HX := (hb.block _ (lt_of_heap HX)).trans HX
  have hB4 := hB3.trans (hb.mono (by omega))
  have hz4 : w.heap.size + 1 ≤ w4.heap.size := by have := hb.size; omega
  replace hM := hM.below hb
  clear hb hB3 hz3
  clear k0 k1 k2 k3 k4 k5 k6
  have k0 := cell_of_row _ w.heap.size 0 _ _ _ HX
  have k1 := cell_of_row _ w.heap.size 1 _ _ _ HX
  have k2 := cell_of_row _ w.heap.size 2 _ _ _ HX
  have k3 := cell_of_row _ w.heap.size 3 _ _ _ HX
  have k4 := cell_of_row _ w.heap.size 4 _ _ _ HX
  have k5 := cell_of_row _ w.heap.size 5 _ _ _ HX
  have k6 := cell_of_row _ w.heap.size 6 _ _ _ HX
  go_wp2_with fail
  refine (PutSlot_any 0 0 1 0 _).mono ?_
  rintro e w5 ⟨he, hb⟩
  obtain rfl : e = .returned (.int .u64 8388608) := he
  replace HX := (hb.block _ (lt_of_heap HX)).trans HX
  have hB5 := hB4.trans (hb.mono (by omega))
  have hz5 : w.heap.size + 1 ≤ w5.heap.size := by have := hb.size; omega
  replace hM := hM.below hb
  clear hb hB4 hz4
  clear k0 k1 k2 k3 k4 k5 k6
  have k0 := cell_of_row _ w.heap.size 0 _ _ _ HX
  have k1 := cell_of_row _ w.heap.size 1 _ _ _ HX
  have k2 := cell_of_row _ w.heap.size 2 _ _ _ HX
  have k3 := cell_of_row _ w.heap.size 3 _ _ _ HX
  have k4 := cell_of_row _ w.heap.size 4 _ _ _ HX
  have k5 := cell_of_row _ w.heap.size 5 _ _ _ HX
  have k6 := cell_of_row _ w.heap.size 6 _ _ _ HX
  go_wp2_with fail
  refine (Store_yes g gw gh _ a 8388608 _ hM (by show _ < lenOne th ch wo; omega) (by simp [Ms.step, Ms.set, Ms.new]) (by omega)).mono ?_
  rintro e w6 ⟨rfl, hM', hK⟩
  replace hM := hM'
  clear hM'
  replace HX := hK.heap HX n1 n2 n3
  have hB6 := hB5.trans (hK.below (by omega) (by omega) (by omega) (by omega))
  have hz6 : w.heap.size + 1 ≤ w6.heap.size := by have := hK.size; omega
  clear hK hB5 hz5
  clear k0 k1 k2 k3 k4 k5 k6
  have k0 := cell_of_row _ w.heap.size 0 _ _ _ HX
  have k1 := cell_of_row _ w.heap.size 1 _ _ _ HX
  have k2 := cell_of_row _ w.heap.size 2 _ _ _ HX
  have k3 := cell_of_row _ w.heap.size 3 _ _ _ HX
  have k4 := cell_of_row _ w.heap.size 4 _ _ _ HX
  have k5 := cell_of_row _ w.heap.size 5 _ _ _ HX
  have k6 := cell_of_row _ w.heap.size 6 _ _ _ HX
  go_wp2_with fail
  refine (HSL.out _).mono ?_
  rintro e w7 ⟨rfl, hb⟩
  replace HX := (hb.block _ (lt_of_heap HX)).trans HX
  have hB7 := hB6.trans (hb.mono (by omega))
  have hz7 : w.heap.size + 1 ≤ w7.heap.size := by have := hb.size; omega
  replace hM := hM.below hb
  clear hb hB6 hz6
  clear k0 k1 k2 k3 k4 k5 k6
  have k0 := cell_of_row _ w.heap.size 0 _ _ _ HX
  have k1 := cell_of_row _ w.heap.size 1 _ _ _ HX
  have k2 := cell_of_row _ w.heap.size 2 _ _ _ HX
  have k3 := cell_of_row _ w.heap.size 3 _ _ _ HX
  have k4 := cell_of_row _ w.heap.size 4 _ _ _ HX
  have k5 := cell_of_row _ w.heap.size 5 _ _ _ HX
  have k6 := cell_of_row _ w.heap.size 6 _ _ _ HX
  go_wp2_with fail
  refine (PutTop_any 1 0 _ (by omega)).mono ?_
  rintro e w99 ⟨he, hw⟩
  obtain rfl := hw.symm
  obtain rfl : e = .returned (.int .u64 2) := he
  clear hw
  go_wp2_with fail
  rw [H7.out]
  refine (Store_yes g gw gh _ (a + 1) 2 _ hM (by show _ < lenOne th ch wo; omega) (by simp [Ms.step, Ms.set, Ms.new]) (by omega)).mono ?_
  rintro e w8 ⟨rfl, hM', hK⟩
  replace hM := hM'
  clear hM'
  replace HX := hK.heap HX n1 n2 n3
  have hB8 := hB7.trans (hK.below (by omega) (by omega) (by omega) (by omega))
  have hz8 : w.heap.size + 1 ≤ w8.heap.size := by have := hK.size; omega
  clear hK hB7 hz7
  clear k0 k1 k2 k3 k4 k5 k6
  have k0 := cell_of_row _ w.heap.size 0 _ _ _ HX
  have k1 := cell_of_row _ w.heap.size 1 _ _ _ HX
  have k2 := cell_of_row _ w.heap.size 2 _ _ _ HX
  have k3 := cell_of_row _ w.heap.size 3 _ _ _ HX
  have k4 := cell_of_row _ w.heap.size 4 _ _ _ HX
  have k5 := cell_of_row _ w.heap.size 5 _ _ _ HX
  have k6 := cell_of_row _ w.heap.size 6 _ _ _ HX
  go_wp2_with fail
  rw [rounds_succ]
  go_wp2_with fail
  refine (HSL.out _).mono ?_
  rintro e w9 ⟨rfl, hb⟩
  replace HX := (hb.block _ (lt_of_heap HX)).trans HX
  have hB9 := hB8.trans (hb.mono (by omega))
  have hz9 : w.heap.size + 1 ≤ w9.heap.size := by have := hb.size; omega
  replace hM := hM.below hb
  clear hb hB8 hz8
  clear k0 k1 k2 k3 k4 k5 k6
  have k0 := cell_of_row _ w.heap.size 0 _ _ _ HX
  have k1 := cell_of_row _ w.heap.size 1 _ _ _ HX
  have k2 := cell_of_row _ w.heap.size 2 _ _ _ HX
  have k3 := cell_of_row _ w.heap.size 3 _ _ _ HX
  have k4 := cell_of_row _ w.heap.size 4 _ _ _ HX
  have k5 := cell_of_row _ w.heap.size 5 _ _ _ HX
  have k6 := cell_of_row _ w.heap.size 6 _ _ _ HX
  go_wp2_with fail
  refine (PutTop_any (-1) 0 _ (by omega)).mono ?_
  rintro e w99 ⟨he, hw⟩
  obtain rfl := hw.symm
  obtain rfl : e = .returned (.int .u64 0) := he
  clear hw
  go_wp2_with fail
  rw [H7.out]
  refine (Store_yes g gw gh _ (a + 1) 0 _ hM (by show _ < lenOne th ch wo; omega) (by simp [Ms.step, Ms.set, Ms.new]) (by omega)).mono ?_
  rintro e w10 ⟨rfl, hM', hK⟩
  replace hM := hM'
  clear hM'
  replace HX := hK.heap HX n1 n2 n3
  have hB10 := hB9.trans (hK.below (by omega) (by omega) (by omega) (by omega))
  have hz10 : w.heap.size + 1 ≤ w10.heap.size := by have := hK.size; omega
  clear hK hB9 hz9
  clear k0 k1 k2 k3 k4 k5 k6
  have k0 := cell_of_row _ w.heap.size 0 _ _ _ HX
  have k1 := cell_of_row _ w.heap.size 1 _ _ _ HX
  have k2 := cell_of_row _ w.heap.size 2 _ _ _ HX
  have k3 := cell_of_row _ w.heap.size 3 _ _ _ HX
  have k4 := cell_of_row _ w.heap.size 4 _ _ _ HX
  have k5 := cell_of_row _ w.heap.size 5 _ _ _ HX
  have k6 := cell_of_row _ w.heap.size 6 _ _ _ HX
  go_wp2_with fail
  refine (LTop_any _).mono ?_
  rintro e w99 ⟨rfl, hw⟩
  obtain rfl := hw.symm
  clear hw
  go_wp2_with fail
  refine (PutTop_any 0 0 _ (by omega)).mono ?_
  rintro e w99 ⟨he, hw⟩
  obtain rfl := hw.symm
  obtain rfl : e = .returned (.int .u64 1) := he
  clear hw
  go_wp2_with fail
  refine (Store_yes g gw gh _ 1 1 _ hM (by show _ < lenOne th ch wo; omega) (by simp [Ms.step, Ms.set, Ms.new]) (by omega)).mono ?_
  rintro e w11 ⟨rfl, hM', hK⟩
  replace hM := hM'
  clear hM'
  replace HX := hK.heap HX n1 n2 n3
  have hB11 := hB10.trans (hK.below (by omega) (by omega) (by omega) (by omega))
  have hz11 : w.heap.size + 1 ≤ w11.heap.size := by have := hK.size; omega
  clear hK hB10 hz10
  clear k0 k1 k2 k3 k4 k5 k6
  have k0 := cell_of_row _ w.heap.size 0 _ _ _ HX
  have k1 := cell_of_row _ w.heap.size 1 _ _ _ HX
  have k2 := cell_of_row _ w.heap.size 2 _ _ _ HX
  have k3 := cell_of_row _ w.heap.size 3 _ _ _ HX
  have k4 := cell_of_row _ w.heap.size 4 _ _ _ HX
  have k5 := cell_of_row _ w.heap.size 5 _ _ _ HX
  have k6 := cell_of_row _ w.heap.size 6 _ _ _ HX
  go_wp2
  go_ret2
  exact ⟨g, gw, gh, rfl, hM, hB11, by omega, by omega, by omega⟩
end Go.Proofs.Ytnpjfdiapoghnaa
