/- Layer 13's statements: the loop in which a thread pins, in plain words. -/
import Derived.Test.YtnpjfdiapoghnaaLaw5b
import Derived.Test.YtnpjfdiapoghnaaLaw13b
namespace Go.Proofs.Ytnpjfdiapoghnaa
open Go Go.RowKit

/-- What holds ahead of the k-th step of a thread that pins, alone. -/
structure PL (wk : Nat) (m0 : Ms) (k : Nat) (m : Ms) (pc ep : Int) : Prop where
  n : m.n = m0.n
  steps : m.steps = m0.steps + k
  w : ∀ j, j ≠ 6 + wk → m.w j = m0.w j
  st : (k = 0 ∧ pc = 0) ∨ (k = 1 ∧ pc = 1 ∧ ep = m0.w 0) ∨ (k = 2 ∧ pc = 2 ∧ ep = m0.w 0 ∧ m.w (6 + wk) = IntKind.u64.wrap (m0.w 0 + 1))
/-- What holds at the end. -/
structure PLEnd (wk : Nat) (m0 m : Ms) : Prop where
  n : m.n = m0.n
  steps : m.steps = m0.steps + 3
  w : ∀ j, j ≠ 6 + wk → m.w j = m0.w j
  pin : m.w (6 + wk) = IntKind.u64.wrap (m0.w 0 + 1)
theorem PL.le {wk k : Nat} {m0 m : Ms} {pc ep : Int} (h : PL wk m0 k m pc ep) : k ≤ 2 := by rcases h.st with h | h | h <;> omega
theorem PL.kind {wk k : Nat} {m0 m : Ms} {pc ep : Int} (h : PL wk m0 k m pc ep) : pc = 0 ∨ pc = 1 ∨ pc = 2 := by rcases h.st with h | h | h <;> omega
theorem PL.next {wk k : Nat} {who : Int} {m0 m m' : Ms} {pc ep pc' ep' : Int} {d : Bool} (h : PL wk m0 k m pc ep) (hn : Next wk who m pc ep d m' pc' ep') : (d = false ∧ Hid (PL wk m0 (k + 1) m' pc' ep')) ∨ (d = true ∧ Hid (PLEnd wk m0 m')) := by
  obtain ⟨h1, h2, h3, h4⟩ := h
  have e0 : m.w 0 = m0.w 0 := h3 0 (by omega)
  rcases hn with ⟨rfl, rfl, rfl, rfl, rfl⟩ | ⟨rfl, rfl, rfl, rfl, rfl⟩ | ⟨rfl, he, rfl, rfl, rfl, rfl⟩ | ⟨rfl, he, _⟩
  · refine .inl ⟨rfl, h1, ?_, h3, .inr (.inl ⟨by omega, rfl, e0⟩)⟩
    show m.steps + 1 = _; omega
  · obtain ⟨hk, he⟩ : k = 1 ∧ ep' = m0.w 0 := by omega
    refine .inl ⟨rfl, h1, ?_, fun j hj => (upd_other m.w (6 + wk) j _ hj).trans (h3 j hj), .inr (.inr ⟨by omega, rfl, he, ?_⟩)⟩
    · show m.steps + 1 = _; omega
    · rw [← he]; exact upd_same m.w (6 + wk) _
  · obtain ⟨hk, he2, hp⟩ : k = 2 ∧ ep' = m0.w 0 ∧ m.w (6 + wk) = IntKind.u64.wrap (m0.w 0 + 1) := by
      rcases h4 with h | h | h
      · omega
      · omega
      · exact ⟨h.1, h.2.2.1, h.2.2.2⟩
    refine .inr ⟨rfl, h1, ?_, h3, hp⟩
    show m.steps + 1 = _; omega
  · exfalso
    apply he
    rcases h4 with h | h | h
    · omega
    · omega
    · rw [e0]; exact h.2.2.1.symm
end Go.Proofs.Ytnpjfdiapoghnaa
