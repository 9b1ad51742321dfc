/- Arguments that are slices, opened. -/
import Derived.Test.YtnpjfdiapoghnaaRow
import Derived.Test.YtnpjfdiapoghnaaComes
import Derived.ChangeSlices
import Derived.Deep.Slices
import Derived.Deep.Grids
import Derived.Deep.Fields
namespace Go.Proofs.Ytnpjfdiapoghnaa
open Go Go.RowKit Go.ChangeShapes Go.WideShapes Go.Joins Go.Deep
theorem Try.cells3 : Try.prog.cellsOf 3 = 1 := by kernel_rfl
theorem Try.cells24 : Try.prog.cellsOf 24 = 1 := by kernel_rfl
theorem Try.cells4 : Try.prog.cellsOf 4 = 1 := by kernel_rfl
section
variable {H : Type} {enc : TypeId × Value → H} {base b0 : Nat} {r : Reach} {v : Value} {d : DataW H} {p : List MemPlace}
theorem open_nums {P : Program} (W : World) {t e : TypeId} {k : IntKind} (ht : P.underlying t = some (.slice e)) (he : P.underlying e = some (.int k)) (hc : P.cellsOf e = 1) (hv : Value.okWide P W r b0 t v) (h : DataW.Trod enc P W base (fun _ => true) true t v d p) :
    ∃ (A : Option Addr) (n c : Nat) (l : Nat → Int), v = .slice A n c ∧ Comes W k A n l ∧ ∀ j, j < n → (Lit.int k (l j)).wf = true := by
  obtain ⟨A, n, c, rfl⟩ := okWide_slice ht hv
  obtain ⟨fuel, hf⟩ := h
  rcases open_ints ht he hc hf with ⟨e1, _⟩ | ⟨a, len, cap, zs, e1, _, hlc, hcm, hz, _, hcell, hwf⟩
  · simp [Value.cells] at e1
    obtain ⟨rfl, rfl, rfl⟩ := e1
    exact ⟨none, 0, 0, fun _ => 0, rfl, ⟨by omega, fun h => absurd h (by omega)⟩, fun j hj => absurd hj (by omega)⟩
  · simp [Value.cells] at e1
    obtain ⟨rfl, rfl, rfl⟩ := e1
    simp at hz
    unfold maxLen at hcm
    refine ⟨some a, n, c, fun j => zs.getD j 0, rfl, ⟨by omega, fun hn => ?_⟩, fun j hj => hwf _ ?_⟩
    · obtain ⟨b, off, rfl, hc'⟩ := ints_at hcell (by omega)
      exact ⟨b, off, rfl, World.block_lt_of_cell? W _ (hc' 0 (by omega)), fun j hj => hc' j (by omega)⟩
    · have hj' : j < zs.length := by omega
      simp [List.getD, List.getElem?_eq_getElem hj']
set_option maxRecDepth 100000 in
theorem open_u64s (W : World) (hv : Value.okWide Try.prog W r b0 61 v) (h : DataW.Trod enc Try.prog W base (fun _ => true) true 61 v d p) :
    ∃ (A : Option Addr) (n c : Nat) (l : Nat → Int), v = .slice A n c ∧ Comes W .u64 A n l ∧ ∀ j, j < n → (Lit.int .u64 (l j)).wf = true := open_nums W Try.underlying61 Try.underlying24 Try.cells24 hv h
set_option maxRecDepth 100000 in
theorem open_intsW (W : World) (hv : Value.okWide Try.prog W r b0 30 v) (h : DataW.Trod enc Try.prog W base (fun _ => true) true 30 v d p) :
    ∃ (A : Option Addr) (n c : Nat) (l : Nat → Int), v = .slice A n c ∧ Comes W .i64 A n l ∧ ∀ j, j < n → (Lit.int .i64 (l j)).wf = true := open_nums W Try.underlying30 Try.underlying3 Try.cells3 hv h
theorem open_boolsP {P : Program} (W : World) {t e : TypeId} (ht : P.underlying t = some (.slice e)) (he : P.underlying e = some .bool) (hc : P.cellsOf e = 1) (hv : Value.okWide P W r b0 t v) (h : DataW.Trod enc P W base (fun _ => true) true t v d p) :
    ∃ (A : Option Addr) (n c : Nat) (l : Nat → Bool), v = .slice A n c ∧ ComesB W A n l ∧ True := by
  obtain ⟨A, n, c, rfl⟩ := okWide_slice ht hv
  obtain ⟨fuel, hf⟩ := h
  rcases Go.Deep.open_bools ht he hc hf with ⟨e1, _⟩ | ⟨a, len, cap, B, e1, _, hlc, hcm, _, hcell⟩
  · simp [Value.cells] at e1
    obtain ⟨rfl, rfl, rfl⟩ := e1
    exact ⟨none, 0, 0, fun _ => false, rfl, ⟨by omega, fun h => absurd h (by omega)⟩, trivial⟩
  · simp [Value.cells] at e1
    obtain ⟨rfl, rfl, rfl⟩ := e1
    unfold maxLen at hcm
    refine ⟨some a, n, c, B, rfl, ⟨by omega, fun hn => ?_⟩, trivial⟩
    obtain ⟨b, off, spot⟩ := a
    have hspot : spot = none := by simpa [Addr.add] using World.cell?_spot (hcell 0 (by omega))
    subst hspot
    have hc' : ∀ j, j < n → W.cell? ⟨b, off + j, none⟩ = some (.bool (B j)) := fun j hj => by rw [← Go.WideShapes.add_plain]; exact hcell j (by omega)
    exact ⟨b, off, rfl, World.block_lt_of_cell? W _ (hc' 0 (by omega)), hc'⟩
set_option maxRecDepth 100000 in
theorem open_bools (W : World) (hv : Value.okWide Try.prog W r b0 96 v) (h : DataW.Trod enc Try.prog W base (fun _ => true) true 96 v d p) :
    ∃ (A : Option Addr) (n c : Nat) (l : Nat → Bool), v = .slice A n c ∧ ComesB W A n l ∧ True := open_boolsP W Try.underlying96 Try.underlying4 Try.cells4 hv h
end
end Go.Proofs.Ytnpjfdiapoghnaa
