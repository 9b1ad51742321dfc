/- Numbers cut to their lowest bits: how great they may be. -/
import Derived.Test.YtnpjfdiapoghnaaProg
import Derived.WalkKit
namespace Go.Proofs.Ytnpjfdiapoghnaa
open Go Go.RowKit
theorem andw_bd (k : Nat) (a m : Int) (q : IntKind) (hq : q = .i64 ∨ q = .u64) (hm : m = (2 ^ k : Nat) - 1) (hk : k ≤ 62) : 0 ≤ Go.bits .and q a m ∧ Go.bits .and q a m ≤ m := by
  have hp : 2 ^ k ≤ 2 ^ 62 := Nat.pow_le_pow_right (by omega) hk
  have h1 : 1 ≤ 2 ^ k := Nat.one_le_two_pow
  have hm' : m = ((2 ^ k - 1 : Nat) : Int) := by omega
  have hx : (BitVec.ofInt 64 m).toNat = 2 ^ k - 1 := by
    rw [hm', BitVec.ofInt_natCast, BitVec.toNat_ofNat]; exact Nat.mod_eq_of_lt (by omega)
  have hle : (BitVec.ofInt 64 a).toNat &&& (2 ^ k - 1) ≤ 2 ^ k - 1 := Nat.and_le_right
  rcases hq with rfl | rfl
  · have e : Go.bits .and .i64 a m = IntKind.i64.wrap (((BitVec.ofInt 64 a &&& BitVec.ofInt 64 m).toNat : Nat) : Int) := rfl
    rw [e, BitVec.toNat_and, hx, IntKind.wrap_i64]
    omega
  · have e : Go.bits .and .u64 a m = IntKind.u64.wrap (((BitVec.ofInt 64 a &&& BitVec.ofInt 64 m).toNat : Nat) : Int) := rfl
    rw [e, BitVec.toNat_and, hx, show ∀ x : Int, IntKind.u64.wrap x = x % 18446744073709551616 from fun x => by simp [IntKind.wrap, IntKind.bits, IntKind.signed]]
    omega
theorem wrap_u64_in (x : Int) (h0 : 0 ≤ x) (h1 : x < 18446744073709551616) : IntKind.u64.wrap x = x := by
  rw [show IntKind.u64.wrap x = x % 18446744073709551616 from by simp [IntKind.wrap, IntKind.bits, IntKind.signed]]
  omega
end Go.Proofs.Ytnpjfdiapoghnaa
