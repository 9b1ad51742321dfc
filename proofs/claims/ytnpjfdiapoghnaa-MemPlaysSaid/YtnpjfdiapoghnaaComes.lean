/- What is known of a slice that came in. -/
import Derived.Test.YtnpjfdiapoghnaaProg
import Derived.WalkKit
namespace Go.Proofs.Ytnpjfdiapoghnaa
open Go
/-- A slice of numbers that came in: its cells, if it has any. -/
def Comes (W : World) (k : IntKind) (A : Option Addr) (n : Nat) (l : Nat → Int) : Prop :=
  n ≤ 9223372036854775807 ∧ (0 < n → ∃ b off, A = some ⟨b, off, none⟩ ∧ b < W.heap.size ∧ ∀ j, j < n → W.cell? ⟨b, off + j, none⟩ = some (.int k (l j)))

/-- The same, of truth values. -/
def ComesB (W : World) (A : Option Addr) (n : Nat) (l : Nat → Bool) : Prop :=
  n ≤ 9223372036854775807 ∧ (0 < n → ∃ b off, A = some ⟨b, off, none⟩ ∧ b < W.heap.size ∧ ∀ j, j < n → W.cell? ⟨b, off + j, none⟩ = some (.bool (l j)))
end Go.Proofs.Ytnpjfdiapoghnaa
