/- Layer 1, word: what each function of the package word computes, by a walk over its text; the plain sums behind the bits. -/
import Derived.Test.YtnpjfdiapoghnaaProg
import Derived.WalkKit
import Derived.Below
import Derived.Deep.Draws
import Derived.Laws.Small
import Derived.Laws.BitsAllLaws
import Derived.Deep.QuietTactic
import Derived.BigQuiet
namespace Go.Proofs.Ytnpjfdiapoghnaa
open Go Go.RowKit

/-- A number cut to 0 .. m. -/
def fitI (n m : Int) : Int := if n ≤ 0 then 0 else if n ≤ m then n else m
theorem fitI_bd (n m : Int) (h : 0 ≤ m) : 0 ≤ fitI n m ∧ fitI n m ≤ m := by unfold fitI; split <;> (try split) <;> omega
theorem fitI_in (n m : Int) (h0 : 0 ≤ n) (h : n ≤ m) : fitI n m = n := by unfold fitI; split <;> (try split) <;> omega
theorem ret_val {a b : Value} (h : a = b) : Ending.returned a = .returned b := by rw [h]
theorem ret_int {k : IntKind} {a b : Int} (h : a = b) : Ending.returned (.int k a) = .returned (.int k b) := by rw [h]
theorem below_drewN {B : Nat} {a w : World} (h : Below B a w) (n : Nat) : Below B a (w.drewN n) := ⟨h.os, h.tape, h.output, h.size, h.block⟩
theorem below_new (w : World) (o : Obj) : Below w.heap.size w (w.alloc o) := (Below.refl _ _).alloc (Nat.le_refl _) o

theorem u64_wrap_in (n : Int) (h0 : 0 ≤ n) (h : n < 18446744073709551616) : IntKind.u64.wrap n = n := by
  have : IntKind.u64.wrap n = n % 18446744073709551616 := by simp [IntKind.wrap, IntKind.bits, IntKind.signed]
  rw [this]; omega
theorem wrap64_in (n : Int) (h0 : -9223372036854775808 ≤ n) (h : n < 9223372036854775808) : wrap64 n = n := by
  unfold wrap64; omega
theorem or_add (i : Nat) (p a b : Int) (hp : p = (2 ^ i : Nat)) (hq : p ≤ 18446744073709551616) (a0 : 0 ≤ a) (a1 : a < p) (b0 : 0 ≤ b) (b1 : b * p < 18446744073709551616) :
    Go.bits .or .u64 a (b * p) = a + b * p := by
  obtain ⟨a, rfl⟩ := Int.eq_ofNat_of_zero_le a0
  obtain ⟨b, rfl⟩ := Int.eq_ofNat_of_zero_le b0
  subst hp
  have e : ((b : Int) * ((2 ^ i : Nat) : Int)) = ((b * 2 ^ i : Nat) : Int) := by simp
  rw [e] at b1 ⊢
  have ha : a < 2 ^ i := by omega
  have hb : b * 2 ^ i < 18446744073709551616 := by omega
  by_cases hb0 : b = 0
  · subst hb0
    simp only [Nat.zero_mul] at *
    rw [u64_or_nat a 0 (by omega) (by omega)]; simp
  · have : 2 ^ i ≤ b * 2 ^ i := Nat.le_mul_of_pos_left _ (by omega)
    rw [u64_or_nat a (b * 2 ^ i) (by omega) hb, Nat.or_comm, nat_join i (b * 2 ^ i) a (Nat.mul_mod_left _ _) ha]
    omega
theorem and_mask (i : Nat) (p a m : Int) (hp : p = (2 ^ i : Nat)) (hm : m = p - 1) (hi : i ≤ 64) (a0 : 0 ≤ a) (a1 : a < 18446744073709551616) :
    Go.bits .and .u64 a m = a % p := by
  obtain ⟨a, rfl⟩ := Int.eq_ofNat_of_zero_le a0
  have h1 : 1 ≤ 2 ^ i := Nat.one_le_two_pow
  have h2 : 2 ^ i ≤ 2 ^ 64 := Nat.pow_le_pow_right (by omega) hi
  have e : m = ((2 ^ i - 1 : Nat) : Int) := by subst hm; subst hp; omega
  rw [e, u64_and_nat a (2 ^ i - 1) (by omega) (by omega), Nat.and_two_pow_sub_one_eq_mod, hp]
  omega

/-! ### fit -/
theorem fit_any (n m : Int) (w : World) (h0 : 0 ≤ m) (h1 : m ≤ 9223372036854775807) :
    Calls Try.prog 75 #[.int .i64 n, .int .i64 m] w fun e w' => e = .returned (.int .u64 (fitI n m)) ∧ w' = w := by
  go_enter Try.func75, Try.ntmps75
  go_wp2
  all_goals
    go_ret
    exact ⟨ret_int (by unfold fitI; repeat' split <;> omega), rfl⟩

/-! ### handles -/
def putHandle (a b : Int) : Int := fitI a 65535 + fitI b 65535 * 65536
theorem PutHandle_any (a b : Int) (w : World) :
    Calls Try.prog 24 #[.agg #[.int .i64 a, .int .i64 b]] w fun e w' => e = .returned (.int .u64 (putHandle a b)) ∧ Below w.heap.size w w' := by
  have b0 := fitI_bd a 65535 (by omega)
  have b1 := fitI_bd b 65535 (by omega)
  go_enter Try.func24, Try.ntmps24
  go_wp2
  go_quiet ((go_at_call 75; exact Calls.quiet_of_same (fit_any _ _ _ (by omega) (by omega))))
  go_wp2
  go_ret
  refine ⟨ret_int ?_, below_drewN (below_new _ _) _⟩
  show bits .or .u64 (fitI a 65535) (fitI b 65535 * 65536) = _
  unfold putHandle
  rw [or_add 16 65536 _ _ rfl (by omega) (by omega) (by omega) (by omega) (by omega)]

/-- Is the number a handle? -/
def isHandle (n : Int) : Bool := decide (65536 ≤ n ∧ n < 4294967296)
theorem Handle_yes (n : Int) (w : World) (h0 : 65536 ≤ n) (h1 : n < 4294967296) :
    Calls Try.prog 25 #[.int .u64 n] w fun e w' => e = .returned (.tuple #[.agg #[.int .i64 (n % 65536), .int .i64 (n / 65536)], .bool true]) ∧ Below w.heap.size w w' := by
  have e0 := and_mask 16 65536 n 65535 rfl rfl (by omega) (by omega) (by omega)
  have e1 : wrap64 (n % 65536) = n % 65536 := wrap64_in _ (by omega) (by omega)
  have e2 : n / 4294967296 = 0 := by omega
  have e3 : (n / 65536 == 0) = false := by rw [beq_eq_false_iff_ne]; omega
  go_enter Try.func25, Try.ntmps25
  go_wp2
  refine bodyPost_ret (v := .tuple #[.agg #[.int .i64 (n % 65536), .int .i64 (n / 65536)], .bool true]) (by simp [results, Try.results25, go_sem]) rfl ⟨rfl, below_new _ _⟩
theorem Handle_no (n : Int) (w : World) (h0 : 0 ≤ n) (h1 : n < 18446744073709551616) (h : n < 65536 ∨ 4294967296 ≤ n) :
    Calls Try.prog 25 #[.int .u64 n] w fun e w' => e = .returned (.tuple #[.agg #[.int .i64 0, .int .i64 0], .bool false]) ∧ Below w.heap.size w w' := by
  rcases h with h | h
  · have e2 : n / 4294967296 = 0 := by omega
    have e3 : n / 65536 = 0 := by omega
    go_enter Try.func25, Try.ntmps25
    go_wp2
    refine bodyPost_ret (v := .tuple #[.agg #[.int .i64 0, .int .i64 0], .bool false]) (by simp [results, Try.results25, go_sem]) rfl ⟨rfl, below_new _ _⟩
  · have e3 : (n / 4294967296 == 0) = false := by rw [beq_eq_false_iff_ne]; omega
    have e4 : (n / 4294967296 != 0) = true := by rw [bne_iff_ne]; omega
    go_enter Try.func25, Try.ntmps25
    go_wp2
    refine bodyPost_ret (v := .tuple #[.agg #[.int .i64 0, .int .i64 0], .bool false]) (by simp [results, Try.results25, go_sem]) rfl ⟨rfl, below_new _ _⟩

/-! ### slots -/
def putSlot (a b c d : Int) : Int := fitI a 7 + fitI b 1048575 * 8 + fitI c 65535 * 8388608 + fitI d 4194303 * 549755813888
theorem PutSlot_any (a b c d : Int) (w : World) :
    Calls Try.prog 28 #[.agg #[.int .i64 a, .int .i64 b, .int .i64 c, .int .i64 d]] w fun e w' => e = .returned (.int .u64 (putSlot a b c d)) ∧ Below w.heap.size w w' := by
  have b0 := fitI_bd a 7 (by omega)
  have b1 := fitI_bd b 1048575 (by omega)
  have b2 := fitI_bd c 65535 (by omega)
  have b3 := fitI_bd d 4194303 (by omega)
  go_enter Try.func28, Try.ntmps28
  go_wp2
  go_quiet ((go_at_call 75; exact Calls.quiet_of_same (fit_any _ _ _ (by omega) (by omega))))
  go_wp2
  go_ret
  refine ⟨ret_int ?_, below_drewN (below_new _ _) _⟩
  unfold putSlot
  show bits .or .u64 (bits .or .u64 (bits .or .u64 (fitI a 7) (fitI b 1048575 * 8)) (fitI c 65535 * 8388608)) (fitI d 4194303 * 549755813888) = _
  rw [or_add 3 8 _ _ rfl (by omega) (by omega) (by omega) (by omega) (by omega), or_add 23 8388608 _ _ rfl (by omega) (by omega) (by omega) (by omega) (by omega), or_add 39 549755813888 _ _ rfl (by omega) (by omega) (by omega) (by omega) (by omega)]
theorem Slot_any (n : Int) (w : World) (h0 : 0 ≤ n) (h1 : n < 18446744073709551616) :
    Calls Try.prog 30 #[.int .u64 n] w fun e w' => e = .returned (.agg #[.int .i64 (n % 8), .int .i64 (n / 8 % 1048576), .int .i64 (n / 8388608 % 65536), .int .i64 (n / 549755813888 % 4194304)]) ∧ Below w.heap.size w w' := by
  have e0 := and_mask 3 8 n 7 rfl rfl (by omega) (by omega) (by omega)
  have e1 := and_mask 20 1048576 (n / 8) 1048575 rfl rfl (by omega) (by omega) (by omega)
  have e2 := and_mask 16 65536 (n / 8388608) 65535 rfl rfl (by omega) (by omega) (by omega)
  have e3 := and_mask 22 4194304 (n / 549755813888) 4194303 rfl rfl (by omega) (by omega) (by omega)
  have f0 : wrap64 (n % 8) = n % 8 := wrap64_in _ (by omega) (by omega)
  have f1 : wrap64 (n / 8 % 1048576) = n / 8 % 1048576 := wrap64_in _ (by omega) (by omega)
  have f2 : wrap64 (n / 8388608 % 65536) = n / 8388608 % 65536 := wrap64_in _ (by omega) (by omega)
  have f3 : wrap64 (n / 549755813888 % 4194304) = n / 549755813888 % 4194304 := wrap64_in _ (by omega) (by omega)
  go_enter Try.func30, Try.ntmps30
  go_wp2
  refine bodyPost_ret (v := .agg #[.int .i64 (n % 8), .int .i64 (n / 8 % 1048576), .int .i64 (n / 8388608 % 65536), .int .i64 (n / 549755813888 % 4194304)]) (by simp [results, Try.results30, go_sem]) rfl ⟨rfl, below_new _ _⟩

/-! ### chunks -/
def putChunk (a b c d : Int) : Int := fitI a 3 + fitI b 63 * 4 + fitI c 1048575 * 256 + fitI d 68719476735 * 268435456
theorem PutChunk_any (a b c d : Int) (w : World) :
    Calls Try.prog 34 #[.agg #[.int .i64 a, .int .i64 b, .int .i64 c, .int .i64 d]] w fun e w' => e = .returned (.int .u64 (putChunk a b c d)) ∧ Below w.heap.size w w' := by
  have b0 := fitI_bd a 3 (by omega)
  have b1 := fitI_bd b 63 (by omega)
  have b2 := fitI_bd c 1048575 (by omega)
  have b3 := fitI_bd d 68719476735 (by omega)
  go_enter Try.func34, Try.ntmps34
  go_wp2
  go_quiet ((go_at_call 75; exact Calls.quiet_of_same (fit_any _ _ _ (by omega) (by omega))))
  go_wp2
  go_ret
  refine ⟨ret_int ?_, below_drewN (below_new _ _) _⟩
  unfold putChunk
  show bits .or .u64 (bits .or .u64 (bits .or .u64 (fitI a 3) (fitI b 63 * 4)) (fitI c 1048575 * 256)) (fitI d 68719476735 * 268435456) = _
  rw [or_add 2 4 _ _ rfl (by omega) (by omega) (by omega) (by omega) (by omega), or_add 8 256 _ _ rfl (by omega) (by omega) (by omega) (by omega) (by omega), or_add 28 268435456 _ _ rfl (by omega) (by omega) (by omega) (by omega) (by omega)]
theorem Chunk_any (n : Int) (w : World) (h0 : 0 ≤ n) (h1 : n < 18446744073709551616) :
    Calls Try.prog 36 #[.int .u64 n] w fun e w' => e = .returned (.agg #[.int .i64 (n % 4), .int .i64 (n / 4 % 64), .int .i64 (n / 256 % 1048576), .int .i64 (n / 268435456 % 68719476736)]) ∧ Below w.heap.size w w' := by
  have e0 := and_mask 2 4 n 3 rfl rfl (by omega) (by omega) (by omega)
  have e1 := and_mask 6 64 (n / 4) 63 rfl rfl (by omega) (by omega) (by omega)
  have e2 := and_mask 20 1048576 (n / 256) 1048575 rfl rfl (by omega) (by omega) (by omega)
  have e3 := and_mask 36 68719476736 (n / 268435456) 68719476735 rfl rfl (by omega) (by omega) (by omega)
  have f0 : wrap64 (n % 4) = n % 4 := wrap64_in _ (by omega) (by omega)
  have f1 : wrap64 (n / 4 % 64) = n / 4 % 64 := wrap64_in _ (by omega) (by omega)
  have f2 : wrap64 (n / 256 % 1048576) = n / 256 % 1048576 := wrap64_in _ (by omega) (by omega)
  have f3 : wrap64 (n / 268435456 % 68719476736) = n / 268435456 % 68719476736 := wrap64_in _ (by omega) (by omega)
  go_enter Try.func36, Try.ntmps36
  go_wp2
  refine bodyPost_ret (v := .agg #[.int .i64 (n % 4), .int .i64 (n / 4 % 64), .int .i64 (n / 256 % 1048576), .int .i64 (n / 268435456 % 68719476736)]) (by simp [results, Try.results36, go_sem]) rfl ⟨rfl, below_new _ _⟩

/-! ### tops -/
def putTop (a b : Int) : Int := fitI ((if 65535 < a then 65535 else a) + 1) 65536 + fitI b 68719476735 * 131072
theorem PutTop_any (a b : Int) (w : World) (ha : -9223372036854775808 ≤ a) :
    Calls Try.prog 32 #[.int .i64 a, .int .i64 b] w fun e w' => e = .returned (.int .u64 (putTop a b)) ∧ w' = w := by
  unfold putTop
  have b1 := fitI_bd b 68719476735 (by omega)
  by_cases h : 65535 < a
  · rw [if_pos h]
    have b0 := fitI_bd (65535 + 1) 65536 (by omega)
    go_enter Try.func32, Try.ntmps32
    go_wp2_with (first | (go_at_call 75; refine (fit_any _ _ _ (by omega) (by omega)).mono ?_; rintro e w' ⟨rfl, rfl⟩))
    go_ret
    refine ⟨ret_int ?_, rfl⟩
    show bits .or .u64 (fitI (65535 + 1) 65536) (fitI b 68719476735 * 131072) = _
    rw [or_add 17 131072 _ _ rfl (by omega) (by omega) (by omega) (by omega) (by omega)]
  · rw [if_neg h]
    have h' : a ≤ 65535 := by omega
    have b0 := fitI_bd (a + 1) 65536 (by omega)
    go_enter Try.func32, Try.ntmps32
    go_wp2_with (first | (go_at_call 75; refine (fit_any _ _ _ (by omega) (by omega)).mono ?_; rintro e w' ⟨rfl, rfl⟩))
    go_ret
    refine ⟨ret_int ?_, rfl⟩
    show bits .or .u64 (fitI (a + 1) 65536) (fitI b 68719476735 * 131072) = _
    rw [or_add 17 131072 _ _ rfl (by omega) (by omega) (by omega) (by omega) (by omega)]
theorem Top_any (n : Int) (w : World) (h0 : 0 ≤ n) (h1 : n < 18446744073709551616) :
    Calls Try.prog 33 #[.int .u64 n] w fun e w' => e = .returned (.tuple #[.int .i64 (n % 131072 - 1), .int .i64 (n / 131072 % 68719476736)]) ∧ w' = w := by
  have e0 := and_mask 17 131072 n 131071 rfl rfl (by omega) (by omega) (by omega)
  have e1 := and_mask 36 68719476736 (n / 131072) 68719476735 rfl rfl (by omega) (by omega) (by omega)
  have f0 : wrap64 (n % 131072) = n % 131072 := wrap64_in _ (by omega) (by omega)
  have f1 : wrap64 (n / 131072 % 68719476736) = n / 131072 % 68719476736 := wrap64_in _ (by omega) (by omega)
  have f2 : wrap64 (n % 131072 - 1) = n % 131072 - 1 := wrap64_in _ (by omega) (by omega)
  go_enter Try.func33, Try.ntmps33
  go_wp2
  go_ret2
  exact ⟨rfl, rfl⟩

/-! ### heads -/
def bit (b : Bool) : Int := if b then 1 else 0
def putHead (a b c d : Int) (own : Bool) : Int := fitI a 3 + fitI b 65535 * 4 + fitI c 65535 * 262144 + fitI d 65535 * 17179869184 + bit own * 1125899906842624
theorem PutHead_any (a b c d : Int) (own : Bool) (w : World) :
    Calls Try.prog 40 #[.agg #[.int .i64 a, .int .i64 b, .int .i64 c, .int .i64 d, .bool own]] w fun e w' => e = .returned (.int .u64 (putHead a b c d own)) ∧ Below w.heap.size w w' := by
  have b0 := fitI_bd a 3 (by omega)
  have b1 := fitI_bd b 65535 (by omega)
  have b2 := fitI_bd c 65535 (by omega)
  have b3 := fitI_bd d 65535 (by omega)
  have e : bits .or .u64 (bits .or .u64 (bits .or .u64 (fitI a 3) (fitI b 65535 * 4)) (fitI c 65535 * 262144)) (fitI d 65535 * 17179869184) = fitI a 3 + fitI b 65535 * 4 + fitI c 65535 * 262144 + fitI d 65535 * 17179869184 := by
    rw [or_add 2 4 _ _ rfl (by omega) (by omega) (by omega) (by omega) (by omega), or_add 18 262144 _ _ rfl (by omega) (by omega) (by omega) (by omega) (by omega), or_add 34 17179869184 _ _ rfl (by omega) (by omega) (by omega) (by omega) (by omega)]
  cases own
  all_goals
    go_enter Try.func40, Try.ntmps40
    go_wp2
    go_quiet ((go_at_call 75; exact Calls.quiet_of_same (fit_any _ _ _ (by omega) (by omega))))
    go_wp2
    go_ret
    refine ⟨ret_int ?_, below_drewN (below_new _ _) _⟩
  · unfold putHead bit; simp
  · show bits .or .u64 (fitI a 3 + fitI b 65535 * 4 + fitI c 65535 * 262144 + fitI d 65535 * 17179869184) (1 * 1125899906842624) = _
    rw [or_add 50 1125899906842624 _ _ rfl (by omega) (by omega) (by omega) (by omega) (by omega)]; unfold putHead bit; simp
theorem Head_any (n : Int) (w : World) (h0 : 0 ≤ n) (h1 : n < 18446744073709551616) :
    Calls Try.prog 41 #[.int .u64 n] w fun e w' => e = .returned (.agg #[.int .i64 (n % 4), .int .i64 (n / 4 % 65536), .int .i64 (n / 262144 % 65536), .int .i64 (n / 17179869184 % 65536), .bool (n / 1125899906842624 % 2 == 1)]) ∧ Below w.heap.size w w' := by
  have e0 := and_mask 2 4 n 3 rfl rfl (by omega) (by omega) (by omega)
  have e1 := and_mask 16 65536 (n / 4) 65535 rfl rfl (by omega) (by omega) (by omega)
  have e2 := and_mask 16 65536 (n / 262144) 65535 rfl rfl (by omega) (by omega) (by omega)
  have e3 := and_mask 16 65536 (n / 17179869184) 65535 rfl rfl (by omega) (by omega) (by omega)
  have e4 := and_mask 1 2 (n / 1125899906842624) 1 rfl rfl (by omega) (by omega) (by omega)
  have f0 : wrap64 (n % 4) = n % 4 := wrap64_in _ (by omega) (by omega)
  have f1 : wrap64 (n / 4 % 65536) = n / 4 % 65536 := wrap64_in _ (by omega) (by omega)
  have f2 : wrap64 (n / 262144 % 65536) = n / 262144 % 65536 := wrap64_in _ (by omega) (by omega)
  have f3 : wrap64 (n / 17179869184 % 65536) = n / 17179869184 % 65536 := wrap64_in _ (by omega) (by omega)
  go_enter Try.func41, Try.ntmps41
  go_wp2
  refine bodyPost_ret (v := .agg #[.int .i64 (n % 4), .int .i64 (n / 4 % 65536), .int .i64 (n / 262144 % 65536), .int .i64 (n / 17179869184 % 65536), .bool (n / 1125899906842624 % 2 == 1)]) (by simp [results, Try.results41, go_sem]) rfl ⟨rfl, below_new _ _⟩

/-! ### cells -/
def putCell (v : Int) (frozen : Bool) (ver : Int) : Int := fitI v 1099511627775 + bit frozen * (fitI ver 4194303 * 1099511627776 + 9223372036854775808)
theorem PutCell_any (v : Int) (frozen : Bool) (ver : Int) (w : World) :
    Calls Try.prog 42 #[.agg #[.int .i64 v, .bool frozen, .int .i64 ver]] w fun e w' => e = .returned (.int .u64 (putCell v frozen ver)) ∧ Below w.heap.size w w' := by
  have b0 := fitI_bd v 1099511627775 (by omega)
  have b1 := fitI_bd ver 4194303 (by omega)
  have e : bits .or .u64 (fitI v 1099511627775) (bits .or .u64 9223372036854775808 (fitI ver 4194303 * 1099511627776)) = fitI v 1099511627775 + (fitI ver 4194303 * 1099511627776 + 9223372036854775808) := by
    have h1 : bits .or .u64 9223372036854775808 (fitI ver 4194303 * 1099511627776) = fitI ver 4194303 * 1099511627776 + 9223372036854775808 := by
      have := or_add 63 9223372036854775808 (fitI ver 4194303 * 1099511627776) 1 rfl (by omega) (by omega) (by omega) (by omega) (by omega)
      rw [u64_or _ _ (by omega) (by omega) (by omega) (by omega)] at this ⊢
      rw [Nat.or_comm]; rw [Int.one_mul] at this; exact this
    rw [h1]
    have := or_add 40 1099511627776 (fitI v 1099511627775) (fitI ver 4194303 + 8388608) rfl (by omega) (by omega) (by omega) (by omega) (by omega)
    rw [show (fitI ver 4194303 + 8388608) * 1099511627776 = fitI ver 4194303 * 1099511627776 + 9223372036854775808 from by omega] at this
    exact this
  cases frozen
  · go_enter Try.func42, Try.ntmps42
    go_wp2_with (first | (go_at_call 75; refine (fit_any _ _ _ (by omega) (by omega)).mono ?_; rintro e w' ⟨rfl, rfl⟩))
    go_ret
    exact ⟨ret_int (by unfold putCell bit; simp), below_new _ _⟩
  · go_enter Try.func42, Try.ntmps42
    go_wp2_with (first | (go_at_call 75; refine (fit_any _ _ _ (by omega) (by omega)).mono ?_; rintro e w' ⟨rfl, rfl⟩))
    go_ret
    exact ⟨ret_int (by unfold putCell bit; simp), below_new _ _⟩
theorem Cell_any (n : Int) (w : World) (h0 : 0 ≤ n) (h1 : n < 18446744073709551616) :
    Calls Try.prog 43 #[.int .u64 n] w fun e w' => e = .returned (.agg #[.int .i64 (n % 1099511627776), .bool (n / 9223372036854775808 == 1), .int .i64 (if n / 9223372036854775808 = 1 then n / 1099511627776 % 4194304 else 0)]) ∧ Below w.heap.size w w' := by
  have e0 := and_mask 40 1099511627776 n 1099511627775 rfl rfl (by omega) (by omega) (by omega)
  have e1 := and_mask 22 4194304 (n / 1099511627776) 4194303 rfl rfl (by omega) (by omega) (by omega)
  have f0 : wrap64 (n % 1099511627776) = n % 1099511627776 := wrap64_in _ (by omega) (by omega)
  have f1 : wrap64 (n / 1099511627776 % 4194304) = n / 1099511627776 % 4194304 := wrap64_in _ (by omega) (by omega)
  by_cases h : n / 9223372036854775808 = 1
  · have h' : (n / 9223372036854775808 == 1) = true := beq_iff_eq.2 h
    rw [if_pos h, h']
    go_enter Try.func43, Try.ntmps43
    go_wp2
    refine bodyPost_ret (v := .agg #[.int .i64 (n % 1099511627776), .bool true, .int .i64 (n / 1099511627776 % 4194304)]) (by simp [results, Try.results43, go_sem]) rfl ⟨rfl, ?_⟩
    repeat (first | exact below_new _ _ | refine Below.setCell ?_ (by simp) _ | refine Below.alloc ?_ (by simp) _)
  · have h' : (n / 9223372036854775808 == 1) = false := beq_eq_false_iff_ne.2 h
    rw [if_neg h, h']
    go_enter Try.func43, Try.ntmps43
    go_wp2
    refine bodyPost_ret (v := .agg #[.int .i64 (n % 1099511627776), .bool false, .int .i64 0]) (by simp [results, Try.results43, go_sem]) rfl ⟨rfl, ?_⟩
    exact (below_new _ _).alloc (by simp) _
end Go.Proofs.Ytnpjfdiapoghnaa
