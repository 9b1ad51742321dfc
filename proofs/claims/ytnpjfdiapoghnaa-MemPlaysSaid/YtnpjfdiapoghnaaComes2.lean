/- What is known of a slice of acts that came in. -/
import Derived.Test.YtnpjfdiapoghnaaProg
import Derived.WalkKit
namespace Go.Proofs.Ytnpjfdiapoghnaa
open Go
/-- An act's five cells, from o on. -/
def ActAt (W : World) (b o : Nat) (k a h x : Int) (f : Bool) : Prop :=
  W.cell? ⟨b, o, none⟩ = some (.int .i64 k) ∧ W.cell? ⟨b, o + 1, none⟩ = some (.int .i64 a) ∧ W.cell? ⟨b, o + 2, none⟩ = some (.int .i64 h) ∧ W.cell? ⟨b, o + 3, none⟩ = some (.int .u64 x) ∧ W.cell? ⟨b, o + 4, none⟩ = some (.bool f) ∧
  (-9223372036854775808 ≤ k ∧ k ≤ 9223372036854775807) ∧ (-9223372036854775808 ≤ a ∧ a ≤ 9223372036854775807) ∧ (-9223372036854775808 ≤ h ∧ h ≤ 9223372036854775807) ∧ (0 ≤ x ∧ x < 18446744073709551616)
/-- A slice of acts that came in: its cells, if it has any. -/
def ComesA (W : World) (A : Option Addr) (n : Nat) : Prop :=
  n ≤ 9223372036854775807 ∧ (0 < n → ∃ b off, A = some ⟨b, off, none⟩ ∧ b < W.heap.size ∧ ∀ j, j < n → ∃ (k a h x : Int) (f : Bool), ActAt W b (off + j * 5) k a h x f)
end Go.Proofs.Ytnpjfdiapoghnaa
