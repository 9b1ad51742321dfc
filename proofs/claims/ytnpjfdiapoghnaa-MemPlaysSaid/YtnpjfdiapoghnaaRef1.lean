/- The reference's powers, packing and unpacking: what Power, Put and Get compute at lists that are rows of the caller's own. -/
import Derived.Test.YtnpjfdiapoghnaaWord
import Derived.LoopTactic
import Derived.Laws.AppendOwn
import Derived.Laws.OwnMore
import Derived.IntWalk
import Derived.Lib.Hide
namespace Go.Proofs.Ytnpjfdiapoghnaa
open Go Go.RowKit

/-! ### Power -/
theorem pow_succ_int (k : Nat) : ((2 ^ (k + 1) : Nat) : Int) = ((2 ^ k : Nat) : Int) * 2 := by rw [Nat.pow_succ]; simp
theorem pow_lt_int (k : Nat) (h : k < 64) : ((2 ^ k : Nat) : Int) < 18446744073709551616 := by have : 2 ^ k < 2 ^ 64 := Nat.pow_lt_pow_right (by omega) h; omega
theorem Power_any (n : Nat) (w : World) (h1 : n < 64) :
    Calls Try.prog 76 #[.int .i64 n] w fun e w' => e = .returned (.int .u64 ((2 ^ n : Nat) : Int)) ∧ w' = w := by
  go_enter Try.func76, Try.ntmps76
  go_wp2
  go_loop [3, 4] (fun x i => ∃ k : Nat, k ≤ n ∧ i = .int .i64 k ∧ x = .int .u64 ((2 ^ k : Nat) : Int)) (fun _ i => n - (intOf i).toNat)
  case atStart => exact ⟨0, by omega, rfl, rfl⟩
  case round =>
    obtain ⟨k, hk, rfl, rfl⟩ := hrel
    by_cases hlt : k < n
    · have hp := pow_lt_int (k + 1) (by omega)
      have hs := pow_succ_int k
      rw [hs] at hp
      have hp0 : (0 : Int) ≤ ((2 ^ k : Nat) : Int) := Int.natCast_nonneg _
      have HS := Lib.hid hs
      clear hs
      generalize hx : ((2 ^ k : Nat) : Int) = x at *
      have HX := Lib.hid hx
      clear hx
      go_wp2
      go_round
      case rel => exact ⟨k + 1, by omega, by go_num, by rw [HS.out]⟩
      case measure => simp [intOf]; omega
    · obtain rfl : k = n := by omega
      go_wp2
      go_ret
      exact ⟨rfl, rfl⟩

/-! ### Put -/
/-- How many bits come ahead of the k-th number. -/
def bitsTo (b : Nat → Nat) : Nat → Nat
  | 0 => 0
  | k + 1 => bitsTo b k + b k
/-- The first k numbers, packed. -/
def putTo (l : Nat → Int) (b : Nat → Nat) : Nat → Int
  | 0 => 0
  | k + 1 => putTo l b k + fitI (l k) (((2 ^ b k : Nat) : Int) - 1) * ((2 ^ bitsTo b k : Nat) : Int)
theorem bitsTo_mono (b : Nat → Nat) (k n : Nat) (h : k ≤ n) : bitsTo b k ≤ bitsTo b n := by
  induction n with
  | zero => obtain rfl : k = 0 := by omega
            exact Nat.le_refl _
  | succ n ih =>
    by_cases e : k = n + 1
    · subst e; exact Nat.le_refl _
    · have := ih (by omega); simp only [bitsTo]; omega
theorem pow_pos_int (k : Nat) : (1 : Int) ≤ ((2 ^ k : Nat) : Int) := by have : 1 ≤ 2 ^ k := Nat.one_le_two_pow; omega
theorem pow_add_int (a b : Nat) : ((2 ^ (a + b) : Nat) : Int) = ((2 ^ a : Nat) : Int) * ((2 ^ b : Nat) : Int) := by rw [Nat.pow_add]; simp
theorem putTo_bd (l : Nat → Int) (b : Nat → Nat) (k : Nat) : 0 ≤ putTo l b k ∧ putTo l b k < ((2 ^ bitsTo b k : Nat) : Int) := by
  induction k with
  | zero => simp [putTo, bitsTo]
  | succ k ih =>
    simp only [putTo, bitsTo]
    rw [pow_add_int]
    have p := pow_pos_int (b k)
    have u := pow_pos_int (bitsTo b k)
    generalize ((2 ^ b k : Nat) : Int) = P at *
    generalize ((2 ^ bitsTo b k : Nat) : Int) = U at *
    have f := fitI_bd (l k) (P - 1) (by omega)
    generalize fitI (l k) (P - 1) = x at *
    have h1 : x * U ≤ (P - 1) * U := Int.mul_le_mul_of_nonneg_right f.2 (by omega)
    have h0 : 0 ≤ x * U := Int.mul_nonneg f.1 (by omega)
    rw [Int.sub_mul, Int.one_mul, Int.mul_comm P U] at h1
    omega

theorem Put_any (b1 b2 n : Nat) (l : Nat → Int) (b : Nat → Nat) (w : World) (hn : n ≤ 64) (hS : bitsTo b n ≤ 64)
    (hl : ∀ j, j < n → w.cell? ⟨b1, j, none⟩ = some (.int .i64 (l j))) (hb : ∀ j, j < n → w.cell? ⟨b2, j, none⟩ = some (.int .i64 (b j)))
    (hw : ∀ j, j < n → l j ≤ 9223372036854775807) (hp : ∀ j, j < n → 1 ≤ b j ∧ b j < 64) :
    Calls Try.prog 27 #[.slice (some ⟨b1, 0, none⟩) n n, .slice (some ⟨b2, 0, none⟩) n n] w fun e w' => e = .returned (.int .u64 (putTo l b n)) ∧ w' = w := by
  have HL := Lib.hid hl
  have HB := Lib.hid hb
  have HW := Lib.hid hw
  have HP := Lib.hid hp
  clear hl hb hw hp
  go_enter Try.func27, Try.ntmps27
  go_wp2
  go_loop [5, 6, 7, 8, 9] (fun x u i _ _ => ∃ k : Nat, k ≤ n ∧ i = .int .i64 k ∧ x = .int .u64 (putTo l b k) ∧ u = .int .u64 (IntKind.u64.wrap ((2 ^ bitsTo b k : Nat) : Int))) (fun _ _ i _ _ => n - (intOf i).toNat)
  case atStart => exact ⟨0, by omega, rfl, rfl, rfl⟩
  case round =>
    obtain ⟨k, hk, rfl, rfl, rfl⟩ := hrel
    by_cases hlt : k < n
    · have hlk := HL.out k hlt
      have hbk := HB.out k hlt
      have hwk := HW.out k hlt
      have hpk := HP.out k hlt
      have hm := bitsTo_mono b (k + 1) n (by omega)
      have hm' : bitsTo b k + b k ≤ 64 := by simp only [bitsTo] at hm; omega
      have HG := Lib.hid (show putTo l b (k + 1) = putTo l b k + fitI (l k) (((2 ^ b k : Nat) : Int) - 1) * ((2 ^ bitsTo b k : Nat) : Int) from rfl)
      have HU := Lib.hid (show ((2 ^ bitsTo b (k + 1) : Nat) : Int) = ((2 ^ bitsTo b k : Nat) : Int) * ((2 ^ b k : Nat) : Int) from by simp only [bitsTo]; exact pow_add_int _ _)
      have hpw := Power_any (b k)
      have u64 : ((2 ^ (bitsTo b k + b k) : Nat) : Int) ≤ 18446744073709551616 := by
        have : 2 ^ (bitsTo b k + b k) ≤ 2 ^ 64 := Nat.pow_le_pow_right (by omega) hm'
        omega
      rw [pow_add_int] at u64
      have ul := pow_lt_int (bitsTo b k) (by omega)
      have pl := pow_lt_int (b k) (by omega)
      have p1 := pow_pos_int (b k)
      have u1 := pow_pos_int (bitsTo b k)
      have hbd := putTo_bd l b k
      rw [u64_wrap_in ((2 ^ bitsTo b k : Nat) : Int) (by omega) ul]
      have HPW : Hid (∀ w : World, Calls Try.prog 76 #[.int .i64 (b k)] w fun e w' => e = .returned (.int .u64 ((2 ^ b k : Nat) : Int)) ∧ w' = w) := fun w => Power_any (b k) w hpk.2
      clear hpw hm hm'
      generalize ((2 ^ bitsTo b k : Nat) : Int) = U at *
      generalize hP : ((2 ^ b k : Nat) : Int) = P at *
      clear hP
      generalize hx : putTo l b k = X at *
      clear hx
      have g1 : (P - 1) * U = U * P - U := by rw [Int.sub_mul, Int.one_mul, Int.mul_comm P U]
      have g2 : 0 ≤ (P - 1) * U := Int.mul_nonneg (by omega) (by omega)
      have g3 : (P - 1) * U ≤ 18446744073709551616 - U := by omega
      have g4 : X + (P - 1) * U < 18446744073709551616 := by omega
      clear g1
      by_cases c1 : l k ≤ 0
      · have HF := Lib.hid (show fitI (l k) (P - 1) = 0 from by unfold fitI; rw [if_pos c1])
        go_wp2_with (first | (go_at_call 76; refine (HPW.out _).mono ?_; rintro e w' ⟨rfl, rfl⟩))
        go_round
        case rel => exact ⟨k + 1, by omega, by go_num, by rw [HG.out, HF.out]; simp, by rw [HU.out]⟩
        case measure => simp [intOf]; omega
      · by_cases c2 : l k ≤ P - 1
        · have HF := Lib.hid (show fitI (l k) (P - 1) = l k from fitI_in _ _ (by omega) c2)
          have g5 : l k * U ≤ (P - 1) * U := Int.mul_le_mul_of_nonneg_right c2 (by omega)
          have g6 : 0 ≤ l k * U := Int.mul_nonneg (by omega) (by omega)
          have c3 : 0 < l k := by omega
          go_wp2_with (first | (go_at_call 76; refine (HPW.out _).mono ?_; rintro e w' ⟨rfl, rfl⟩))
          go_round
          case rel => exact ⟨k + 1, by omega, by go_num, by rw [HG.out, HF.out], by rw [HU.out]⟩
          case measure => simp [intOf]; omega
        · have HF := Lib.hid (show fitI (l k) (P - 1) = P - 1 from by unfold fitI; rw [if_neg c1, if_neg c2])
          have c3 : 0 < l k := by omega
          have c4 : P - 1 < l k := by omega
          go_wp2_with (first | (go_at_call 76; refine (HPW.out _).mono ?_; rintro e w' ⟨rfl, rfl⟩))
          go_round
          case rel => exact ⟨k + 1, by omega, by go_num, by rw [HG.out, HF.out], by rw [HU.out]⟩
          case measure => simp [intOf]; omega
    · obtain rfl : k = n := by omega
      go_wp2
      go_ret
      exact ⟨rfl, rfl⟩
end Go.Proofs.Ytnpjfdiapoghnaa
