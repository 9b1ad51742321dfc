/- Layer 2's statements: 'awake' answers true; MemAdds, MemOne: the walks. -/
import Derived.Test.YtnpjfdiapoghnaaMem2
import Derived.Test.YtnpjfdiapoghnaaComes
import Derived.LoopTactic
import Derived.IntWalk
namespace Go.Proofs.Ytnpjfdiapoghnaa
open Go Go.RowKit

set_option maxRecDepth 100000 in
theorem awake2_any (W : World) :
    Calls Try.prog 48 #[] W fun e W' => e = .returned (.bool true) ∧ Below W.heap.size W W' := by
  go_enter Try.func48, Try.ntmps48
  go_wp2_with fail
  refine (New_yes 3 _ (by omega) (by omega)).mono ?_
  rintro e W1 ⟨g, gw, gh, rfl, hM1, hB, b0, b1, b2⟩
  go_wp2_with fail
  refine (Store_yes g gw gh _ 1 7 _ hM1 (by decide) (by decide) (by omega)).mono ?_
  rintro e W2 ⟨rfl, hM2, hK2⟩
  go_wp2_with fail
  refine (Load_yes g gw gh _ 1 _ hM2 (by decide) (by decide)).mono ?_
  rintro e W3 ⟨he, hM3, hK3⟩
  obtain rfl : e = .returned (.tuple #[.int .u64 7, .int .i64 0]) := he
  go_wp2_with fail
  refine (Steps_any g gw gh _ _ hM3).mono ?_
  rintro e W4 ⟨he, hw⟩
  obtain rfl : e = .returned (.int .i64 2) := he
  obtain rfl := hw.symm
  clear hw
  go_wp2_with fail
  refine (Len_any g gw gh _ _ hM3).mono ?_
  rintro e W4 ⟨he, hw⟩
  obtain rfl : e = .returned (.int .i64 3) := he
  obtain rfl := hw.symm
  clear hw
  go_wp2
  go_ret
  exact ⟨rfl, (hB.trans (hK2.below b0 b1 b2 hB.size)).trans (hK3.below b0 b1 b2 (Nat.le_trans hB.size hK2.size))⟩

/-! ### MemAdds -/
/-- The sum of the first k numbers, wrapping round. -/
def sumTo (l : Nat → Int) : Nat → Int
  | 0 => 0
  | k + 1 => IntKind.u64.wrap (sumTo l k + l k)
set_option maxHeartbeats 2000000 in
set_option maxRecDepth 100000 in
theorem MemAdds_any (A : Option Addr) (n c : Nat) (l : Nat → Int) (W : World) (hl : Comes W .u64 A n l) :
    Calls Try.prog 12 #[.slice A n c] W fun e W' => e = .returned (.bool true) ∧ Below W.heap.size W W' := by
  have HL := Lib.hid hl
  have hn := hl.1
  clear hl
  go_enter Try.func12, Try.ntmps12
  go_wp2_with fail
  refine (New_yes 2 _ (by omega) (by omega)).mono ?_
  rintro e W1 ⟨g, gw, gh, rfl, hM1, hB, b0, b1, b2⟩
  go_wp2_with fail
  go_loopw [5, 6] (fun x i wr => ∃ (k : Nat) (m : Ms), k ≤ n ∧ k ≤ 50 ∧ i = .int .i64 k ∧ x = .int .u64 (sumTo l k) ∧ MemAt wr g gw gh m ∧ m.n = 2 ∧ Hid (m.w 1 = sumTo l k ∧ m.w 0 = 0 ∧ m.steps = k) ∧ Below W.heap.size W wr) (fun _ i _ => 50 - (intOf i).toNat)
  case atStart => exact ⟨0, Ms.new 2, by omega, by omega, rfl, rfl, hM1, rfl, ⟨rfl, rfl, rfl⟩, hB⟩
  case round =>
    rename_i wr
    obtain ⟨k, m, hk, hk5, rfl, rfl, hM, hmn, hm, hbel⟩ := hrel
    by_cases hlt : k < n ∧ k < 50
    · obtain ⟨h1, h2⟩ := hlt
      obtain ⟨b, off, rfl, hb, hc⟩ := HL.out.2 (by omega)
      have hck : wr.cell? ⟨b, off + k, none⟩ = some (.int .u64 (l k)) := (hbel.cell hb).trans (hc k h1)
      have HA := Lib.hid (Add_yes g gw gh m 1 (l k) (IntKind.u64.wrap (m.w 1 + l k)) wr hM (by omega) (by have := hm.out.2.2; omega) rfl)
      have HG := Lib.hid (show sumTo l (k + 1) = IntKind.u64.wrap (sumTo l k + l k) from rfl)
      have hs := hbel.size
      have HC := Lib.hid hc
      clear hM hc
      go_wp2_with fail
      refine HA.out.mono ?_
      rintro e w9 ⟨he, hM9, hK⟩
      rw [hm.out.1] at he hM9
      subst he
      have hB9 := hbel.trans (hK.below b0 b1 b2 hs)
      have hck9 : w9.cell? ⟨b, off + k, none⟩ = some (.int .u64 (l k)) := (hB9.cell hb).trans (HC.out k h1)
      clear hck hK
      go_wp2
      go_roundw
      case rel =>
        refine ⟨k + 1, _, by omega, by omega, by go_num, by rw [HG.out], hM9, hmn, ?_, hB9⟩
        obtain ⟨e1, e2, e3⟩ := hm.out
        exact ⟨by rw [HG.out]; rfl, e2, by show m.steps + 1 = _; rw [e3]; omega⟩
      case measure => simp [intOf]; omega
    · have hw1 := hm.out.1
      have hw0 := hm.out.2.1
      have HW1 := Lib.hid hw1
      have HW0 := Lib.hid hw0
      have hz := hbel.size
      clear hw1 hw0 hB hM1
      rcases Nat.lt_or_ge k n with h1 | h1
      · have h2 : 50 ≤ k := by omega
        go_wp2_with fail
        refine (awake2_any _).mono ?_
        rintro e w8 ⟨rfl, hb8⟩
        have hM8 := hM.below hb8
        go_wp2_with fail
        refine (Peek_yes g gw gh m 1 _ hM8 (by omega)).mono ?_
        rintro e w7 ⟨he, hw⟩
        obtain rfl := hw.symm
        rw [HW1.out] at he
        subst he
        clear hw
        go_wp2_with fail
        refine (Peek_yes g gw gh m 0 _ hM8 (by omega)).mono ?_
        rintro e w7 ⟨he, hw⟩
        obtain rfl := hw.symm
        rw [HW0.out] at he
        subst he
        clear hw
        go_wp2
        go_ret
        exact ⟨rfl, hbel.trans (hb8.mono hz)⟩
      · go_wp2_with fail
        refine (awake2_any _).mono ?_
        rintro e w8 ⟨rfl, hb8⟩
        have hM8 := hM.below hb8
        go_wp2_with fail
        refine (Peek_yes g gw gh m 1 _ hM8 (by omega)).mono ?_
        rintro e w7 ⟨he, hw⟩
        obtain rfl := hw.symm
        rw [HW1.out] at he
        subst he
        clear hw
        go_wp2_with fail
        refine (Peek_yes g gw gh m 0 _ hM8 (by omega)).mono ?_
        rintro e w7 ⟨he, hw⟩
        obtain rfl := hw.symm
        rw [HW0.out] at he
        subst he
        clear hw
        go_wp2
        go_ret
        exact ⟨rfl, hbel.trans (hb8.mono hz)⟩

/-! ### MemOne -/
theorem or1_bd (x : Int) (h0 : 0 ≤ x) (h1 : x < 18446744073709551616) : 1 ≤ bits .or .u64 x 1 ∧ bits .or .u64 x 1 < 18446744073709551616 := by
  rw [u64_or x 1 h0 h1 (by omega) (by omega)]
  have h2 : x.toNat ||| 1 < 2 ^ 64 := Nat.or_lt_two_pow (by omega) (by omega)
  have h3 : 1 ≤ x.toNat ||| 1 := Nat.right_le_or
  have e : (1 : Int).toNat = 1 := rfl
  rw [e]
  omega
set_option maxHeartbeats 2000000 in
set_option maxRecDepth 100000 in
theorem MemOne_any (A : Option Addr) (n c : Nat) (l : Nat → Int) (W : World) (hl : Comes W .u64 A n l) (hw : ∀ j, j < n → 0 ≤ l j ∧ l j < 18446744073709551616) :
    Calls Try.prog 13 #[.slice A n c] W fun e W' => e = .returned (.bool true) ∧ Below W.heap.size W W' := by
  have HL := Lib.hid hl
  have HW := Lib.hid hw
  have hn := hl.1
  clear hl hw
  go_enter Try.func13, Try.ntmps13
  go_wp2_with fail
  refine (New_yes 1 _ (by omega) (by omega)).mono ?_
  rintro e W1 ⟨g, gw, gh, rfl, hM1, hB, b0, b1, b2⟩
  go_wp2_with fail
  go_loopw [5, 6] (fun x i wr => ∃ (k : Nat) (m : Ms) (z : Int), k ≤ n ∧ k ≤ 50 ∧ i = .int .i64 k ∧ x = .int .i64 z ∧ MemAt wr g gw gh m ∧ m.n = 1 ∧ Hid ((k = 0 → z = 0 ∧ m.w 0 = 0) ∧ (k ≠ 0 → z = 1 ∧ 1 ≤ m.w 0) ∧ m.steps = k) ∧ Below W.heap.size W wr) (fun _ i _ => 50 - (intOf i).toNat)
  case atStart => exact ⟨0, Ms.new 1, 0, by omega, by omega, rfl, rfl, hM1, rfl, ⟨fun _ => ⟨rfl, rfl⟩, fun h => absurd rfl h, rfl⟩, hB⟩
  case round =>
    rename_i wr
    obtain ⟨k, m, z, hk, hk5, rfl, rfl, hM, hmn, hm, hbel⟩ := hrel
    have hz := hbel.size
    by_cases hlt : k < n ∧ k < 50
    · obtain ⟨h1, h2⟩ := hlt
      obtain ⟨b, off, rfl, hb, hc⟩ := HL.out.2 (by omega)
      have hck : wr.cell? ⟨b, off + k, none⟩ = some (.int .u64 (l k)) := (hbel.cell hb).trans (hc k h1)
      have HC := Lib.hid hc
      have hv := or1_bd (l k) (HW.out k h1).1 (HW.out k h1).2
      have hst : m.steps < 4611686018427387904 := by have := hm.out.2.2; omega
      by_cases hk0 : k = 0
      · obtain ⟨rfl, hw0⟩ := hm.out.1 hk0
        have HA := Lib.hid (Cas_yes g gw gh m 0 0 (bits .or .u64 (l k) 1) wr hM (by omega) hst ⟨by omega, hv.2⟩ hw0)
        have HK0 := Lib.hid hk0
        clear hM hc hst hw0 hv hk0
        go_wp2_with fail
        refine HA.out.mono ?_
        rintro e w9 ⟨rfl, hM9, hK⟩
        have hB9 := hbel.trans (hK.below b0 b1 b2 hz)
        have hck9 : w9.cell? ⟨b, off + k, none⟩ = some (.int .u64 (l k)) := (hB9.cell hb).trans (HC.out k h1)
        clear hck hK
        have HP : Hid (∀ q : Nat, Calls Try.prog 49 #[.pointer (some ⟨g, 0, none⟩), .int .i64 0] (w9.drewN q) fun e w' => e = .returned (.int .u64 (bits .or .u64 (l k) 1)) ∧ w' = w9.drewN q) :=
          fun q => Peek_yes g gw gh _ 0 _ (hM9.drewN q) (by show 0 < m.n; omega)
        go_wp2
        go_quiet ((go_at_call 49; exact Calls.quiet_of_same (HP.out _)))
        go_wp2
        go_roundw
        case rel =>
          refine ⟨k + 1, _, 1, by omega, by omega, by go_num, rfl, hM9.drewN _, hmn, ⟨fun h => absurd h (by omega), fun _ => ⟨rfl, (or1_bd (l k) (HW.out k h1).1 (HW.out k h1).2).1⟩, ?_⟩, below_drewN hB9 _⟩
          show m.steps + 1 = _
          rw [hm.out.2.2]; omega
        case measure => simp [intOf]; omega
      · obtain ⟨rfl, hw0⟩ := hm.out.2.1 hk0
        have HA := Lib.hid (Cas_other g gw gh m 0 0 (bits .or .u64 (l k) 1) wr hM (by omega) hst (by omega))
        have HW0 := Lib.hid hw0
        clear hM hc hst hw0 hv
        go_wp2_with fail
        refine HA.out.mono ?_
        rintro e w9 ⟨rfl, hM9, hK⟩
        have hB9 := hbel.trans (hK.below b0 b1 b2 hz)
        clear hck hK
        go_wp2
        go_roundw
        case rel =>
          refine ⟨k + 1, _, 1, by omega, by omega, by go_num, rfl, hM9, hmn, ⟨fun h => absurd h (by omega), fun _ => ⟨rfl, HW0.out⟩, ?_⟩, hB9⟩
          show m.steps + 1 = _
          rw [hm.out.2.2]; omega
        case measure => simp [intOf]; omega
    · have hm0 := hm.out
      by_cases hk0 : k = 0
      · obtain ⟨rfl, _⟩ := hm0.1 hk0
        have h1 : n ≤ 0 := by omega
        have hn0 : n = 0 := by omega
        subst hn0
        subst hk0
        clear hm0 hlt
        go_wp2_with fail
        refine (awake2_any _).mono ?_
        rintro e w8 ⟨rfl, hb8⟩
        go_wp2
        go_ret
        exact ⟨rfl, hbel.trans (hb8.mono hz)⟩
      · obtain ⟨rfl, _⟩ := hm0.2.1 hk0
        clear hm0 hk0
        rcases Nat.lt_or_ge k n with h1 | h1
        · have h2 : 50 ≤ k := by omega
          clear hlt
          go_wp2_with fail
          refine (awake2_any _).mono ?_
          rintro e w8 ⟨rfl, hb8⟩
          go_wp2
          go_ret
          exact ⟨rfl, hbel.trans (hb8.mono hz)⟩
        · clear hlt
          go_wp2_with fail
          refine (awake2_any _).mono ?_
          rintro e w8 ⟨rfl, hb8⟩
          go_wp2
          go_ret
          exact ⟨rfl, hbel.trans (hb8.mono hz)⟩
end Go.Proofs.Ytnpjfdiapoghnaa
