/- More arguments, opened: a slice of acts; an array of two structs. -/
import Derived.Test.YtnpjfdiapoghnaaRow
import Derived.Test.YtnpjfdiapoghnaaComes2
import Derived.ChangeSlices
import Derived.Deep.Slices
import Derived.Deep.Fields
import Derived.OpenShut
namespace Go.Proofs.Ytnpjfdiapoghnaa
open Go Go.RowKit Go.ChangeShapes Go.WideShapes Go.Joins Go.Deep

section
variable {H : Type} {enc : TypeId × Value → H} {P : Program} {w : World} {base b0 : Nat} {spare : Nat → Bool} {held : Bool} {r : Reach} {v : Value}
theorem okWide_arr {t e : TypeId} {n : Nat} (ht : P.underlying t = some (.array n e)) (h : Value.okWide P w r b0 t v) : ∃ cs, v = .agg cs ∧ cs.size = P.cellsOf t := by
  simp only [Value.okWide, ht] at h
  obtain ⟨cs, h1, h2, _⟩ := h
  exact ⟨cs, h1, h2⟩
/-- Four cells that read as a struct of four one-cell fields. -/
theorem four {t : TypeId} {f0 f1 f2 f3 : Field} {fuel : Nat} {cs : List Value} {y : DataW H × List MemPlace} (hs : P.underlying t = some (.struct #[f0, f1, f2, f3])) (hone : oneCellFields P #[f0, f1, f2, f3] = true) (hC : P.cellsOf t = 4) (h : DataW.trod enc P w base spare held fuel t cs = some y) :
    ∃ (v0 v1 v2 v3 : Value) (y0 y1 y2 y3 : DataW H × List MemPlace) (n : Nat), cs = [v0, v1, v2, v3] ∧
      DataW.trod enc P w base spare held n f0.type [v0] = some y0 ∧ DataW.trod enc P w base spare held n f1.type [v1] = some y1 ∧ DataW.trod enc P w base spare held n f2.type [v2] = some y2 ∧ DataW.trod enc P w base spare held n f3.type [v3] = some y3 := by
  obtain ⟨xs, n, _, _, hcl, hlen, hg⟩ := DataW.trod_struct hs h
  rw [hC] at hcl
  match cs, hcl with
  | [c0, c1, c2, c3], _ =>
    obtain ⟨o0, k0⟩ := hone_of hone 0 f0 rfl
    obtain ⟨o1, k1⟩ := hone_of hone 1 f1 rfl
    obtain ⟨o2, k2⟩ := hone_of hone 2 f2 rfl
    obtain ⟨o3, k3⟩ := hone_of hone 3 f3 rfl
    match xs, hlen with
    | [y0, y1, y2, y3], _ =>
      exact ⟨c0, c1, c2, c3, y0, y1, y2, y3, n, rfl, by simpa [o0, k0] using hg 0 f0 rfl, by simpa [o1, k1] using hg 1 f1 rfl, by simpa [o2, k2] using hg 2 f2 rfl, by simpa [o3, k3] using hg 3 f3 rfl⟩
/-- Five cells that read as a struct of five one-cell fields. -/
theorem five {t : TypeId} {f0 f1 f2 f3 f4 : Field} {fuel : Nat} {cs : List Value} {y : DataW H × List MemPlace} (hs : P.underlying t = some (.struct #[f0, f1, f2, f3, f4])) (hone : oneCellFields P #[f0, f1, f2, f3, f4] = true) (hC : P.cellsOf t = 5) (h : DataW.trod enc P w base spare held fuel t cs = some y) :
    ∃ (v0 v1 v2 v3 v4 : Value) (y0 y1 y2 y3 y4 : DataW H × List MemPlace) (n : Nat), cs = [v0, v1, v2, v3, v4] ∧
      DataW.trod enc P w base spare held n f0.type [v0] = some y0 ∧ DataW.trod enc P w base spare held n f1.type [v1] = some y1 ∧ DataW.trod enc P w base spare held n f2.type [v2] = some y2 ∧ DataW.trod enc P w base spare held n f3.type [v3] = some y3 ∧ DataW.trod enc P w base spare held n f4.type [v4] = some y4 := by
  obtain ⟨xs, n, _, _, hcl, hlen, hg⟩ := DataW.trod_struct hs h
  rw [hC] at hcl
  match cs, hcl with
  | [c0, c1, c2, c3, c4], _ =>
    obtain ⟨o0, k0⟩ := hone_of hone 0 f0 rfl
    obtain ⟨o1, k1⟩ := hone_of hone 1 f1 rfl
    obtain ⟨o2, k2⟩ := hone_of hone 2 f2 rfl
    obtain ⟨o3, k3⟩ := hone_of hone 3 f3 rfl
    obtain ⟨o4, k4⟩ := hone_of hone 4 f4 rfl
    match xs, hlen with
    | [y0, y1, y2, y3, y4], _ =>
      exact ⟨c0, c1, c2, c3, c4, y0, y1, y2, y3, y4, n, rfl, by simpa [o0, k0] using hg 0 f0 rfl, by simpa [o1, k1] using hg 1 f1 rfl, by simpa [o2, k2] using hg 2 f2 rfl, by simpa [o3, k3] using hg 3 f3 rfl, by simpa [o4, k4] using hg 4 f4 rfl⟩
end
theorem Try.cells75 : Try.prog.cellsOf 75 = 5 := by kernel_rfl
theorem Try.cells48 : Try.prog.cellsOf 48 = 8 := by kernel_rfl
theorem Try.cells51 : Try.prog.cellsOf 51 = 10 := by kernel_rfl
section
variable {H : Type} {enc : TypeId × Value → H} {base b0 : Nat} {r : Reach} {v : Value} {d : DataW H} {p : List MemPlace} {spare : Nat → Bool} {held : Bool} {w : World}
set_option maxRecDepth 100000 in
theorem open_acts (W : World) (hv : Value.okWide Try.prog W r b0 72 v) (h : DataW.Trod enc Try.prog W base (fun _ => true) true 72 v d p) :
    ∃ (A : Option Addr) (n c : Nat) (_ : Unit), v = .slice A n c ∧ ComesA W A n ∧ True := by
  obtain ⟨A, n, c, rfl⟩ := okWide_slice Try.underlying72 hv
  obtain ⟨fuel, hf⟩ := h
  rcases open_slice Try.underlying72 hf with ⟨e1, _⟩ | ⟨a, len, cap, m, q, D, Pl, e1, _, hl, hcm, hm, _, hi⟩
  · simp [Value.cells] at e1
    obtain ⟨rfl, rfl, rfl⟩ := e1
    exact ⟨none, 0, 0, (), rfl, ⟨by omega, fun h => absurd h (by omega)⟩, trivial⟩
  · simp [Value.cells] at e1
    obtain ⟨rfl, rfl, rfl⟩ := e1
    simp at hm
    unfold maxLen at hcm
    refine ⟨some a, n, c, (), rfl, ⟨by omega, fun hn => ?_⟩, trivial⟩
    rw [Try.cells75] at hi
    have hone : ∀ j, j < n → ∃ (k aa hh x : Int) (f : Bool), W.cell? (a.add (j * 5)) = some (.int .i64 k) ∧ W.cell? (a.add (j * 5 + 1)) = some (.int .i64 aa) ∧ W.cell? (a.add (j * 5 + 2)) = some (.int .i64 hh) ∧ W.cell? (a.add (j * 5 + 3)) = some (.int .u64 x) ∧ W.cell? (a.add (j * 5 + 4)) = some (.bool f) ∧
        (Lit.int .i64 k).wf = true ∧ (Lit.int .i64 aa).wf = true ∧ (Lit.int .i64 hh).wf = true ∧ (Lit.int .u64 x).wf = true := by
      intro j hj
      obtain ⟨cs', hc, ht'⟩ := hi j (by omega)
      obtain ⟨_, hcl, hat⟩ := World.cells?_some hc
      obtain ⟨v0, v1, v2, v3, v4, y0, y1, y2, y3, y4, q', rfl, h0, h1, h2, h3, h4⟩ := five Try.underlying75 (by kernel_rfl) Try.cells75 ht'
      obtain ⟨k, rfl, wk⟩ := one_int Try.underlying3 h0
      obtain ⟨aa, rfl, wa⟩ := one_int Try.underlying3 h1
      obtain ⟨hh, rfl, wh⟩ := one_int Try.underlying3 h2
      obtain ⟨x, rfl, wx⟩ := one_int Try.underlying24 h3
      obtain ⟨f, rfl⟩ := one_bool Try.underlying4 h4
      have g0 := hat 0 (by omega)
      have g1 := hat 1 (by omega)
      have g2 := hat 2 (by omega)
      have g3 := hat 3 (by omega)
      have g4 := hat 4 (by omega)
      rw [Go.Deep.add_add] at g0 g1 g2 g3 g4
      exact ⟨k, aa, hh, x, f, g0, g1, g2, g3, g4, wk, wa, wh, wx⟩
    obtain ⟨b, off, spot⟩ := a
    obtain ⟨k, aa, hh, x, f, hc0, _⟩ := hone 0 (by omega)
    have hspot : spot = none := by simpa [Addr.add] using World.cell?_spot hc0
    subst hspot
    rw [Go.WideShapes.add_plain] at hc0
    refine ⟨b, off, rfl, World.block_lt_of_cell? W _ hc0, fun j hj => ?_⟩
    obtain ⟨k, aa, hh, x, f, g0, g1, g2, g3, g4, wk, wa, wh, wx⟩ := hone j hj
    rw [Go.WideShapes.add_plain] at g0 g1 g2 g3 g4
    have bk := bounds_i64 wk
    have ba := bounds_i64 wa
    have bh := bounds_i64 wh
    have bx := bounds_u64 wx
    exact ⟨k, aa, hh, x, f, g0, g1, g2, g3, g4, by omega, by omega, by omega, by omega⟩
set_option maxRecDepth 100000 in
theorem open_Slots2 (hv : Value.okWide Try.prog w r b0 48 v) (h : DataW.Trod enc Try.prog w base spare held 48 v d p) :
    ∃ a b c e a' b' c' e' : Int, v = .agg #[.int .i64 a, .int .i64 b, .int .i64 c, .int .i64 e, .int .i64 a', .int .i64 b', .int .i64 c', .int .i64 e'] ∧ ((Lit.int .i64 a).wf = true ∧ (Lit.int .i64 b).wf = true ∧ (Lit.int .i64 c).wf = true ∧ (Lit.int .i64 e).wf = true) ∧ ((Lit.int .i64 a').wf = true ∧ (Lit.int .i64 b').wf = true ∧ (Lit.int .i64 c').wf = true ∧ (Lit.int .i64 e').wf = true) := by
  obtain ⟨cs, rfl, hsz⟩ := okWide_arr Try.underlying48 hv
  obtain ⟨l⟩ := cs
  obtain ⟨fuel, hf⟩ := h
  obtain ⟨xs, n, _, _, _, hlen, hg⟩ := DataW.trod_array Try.underlying48 hf
  rw [Try.cells48] at hsz
  rw [Try.cells33] at hg
  match l, hsz with
  | [c0, c1, c2, c3, c4, c5, c6, c7], _ =>
    match xs, hlen with
    | [y0, y1], _ =>
      have g0 : DataW.trod enc Try.prog w base spare held n 33 [c0, c1, c2, c3] = some y0 := by simpa [Value.cells] using hg 0 (by omega)
      have g1 : DataW.trod enc Try.prog w base spare held n 33 [c4, c5, c6, c7] = some y1 := by simpa [Value.cells] using hg 1 (by omega)
      obtain ⟨v0, v1, v2, v3, _, _, _, _, q, e, h0, h1, h2, h3⟩ := four Try.underlying33 (by kernel_rfl) Try.cells33 g0
      simp only [List.cons.injEq, and_true] at e
      obtain ⟨rfl, rfl, rfl, rfl⟩ := e
      obtain ⟨v4, v5, v6, v7, _, _, _, _, q', e, h4, h5, h6, h7⟩ := four Try.underlying33 (by kernel_rfl) Try.cells33 g1
      simp only [List.cons.injEq, and_true] at e
      obtain ⟨rfl, rfl, rfl, rfl⟩ := e
      obtain ⟨a, rfl, w0⟩ := one_int Try.underlying3 h0
      obtain ⟨b, rfl, w1⟩ := one_int Try.underlying3 h1
      obtain ⟨c, rfl, w2⟩ := one_int Try.underlying3 h2
      obtain ⟨e, rfl, w3⟩ := one_int Try.underlying3 h3
      obtain ⟨a', rfl, w4⟩ := one_int Try.underlying3 h4
      obtain ⟨b', rfl, w5⟩ := one_int Try.underlying3 h5
      obtain ⟨c', rfl, w6⟩ := one_int Try.underlying3 h6
      obtain ⟨e', rfl, w7⟩ := one_int Try.underlying3 h7
      exact ⟨a, b, c, e, a', b', c', e', rfl, ⟨w0, w1, w2, w3⟩, ⟨w4, w5, w6, w7⟩⟩
set_option maxRecDepth 100000 in
theorem open_Heads2 (hv : Value.okWide Try.prog w r b0 51 v) (h : DataW.Trod enc Try.prog w base spare held 51 v d p) :
    ∃ (a b c e : Int) (f : Bool) (a' b' c' e' : Int) (f' : Bool), v = .agg #[.int .i64 a, .int .i64 b, .int .i64 c, .int .i64 e, .bool f, .int .i64 a', .int .i64 b', .int .i64 c', .int .i64 e', .bool f'] ∧ ((Lit.int .i64 a).wf = true ∧ (Lit.int .i64 b).wf = true ∧ (Lit.int .i64 c).wf = true ∧ (Lit.int .i64 e).wf = true) ∧ ((Lit.int .i64 a').wf = true ∧ (Lit.int .i64 b').wf = true ∧ (Lit.int .i64 c').wf = true ∧ (Lit.int .i64 e').wf = true) := by
  obtain ⟨cs, rfl, hsz⟩ := okWide_arr Try.underlying51 hv
  obtain ⟨l⟩ := cs
  obtain ⟨fuel, hf⟩ := h
  obtain ⟨xs, n, _, _, _, hlen, hg⟩ := DataW.trod_array Try.underlying51 hf
  rw [Try.cells51] at hsz
  rw [Try.cells50] at hg
  match l, hsz with
  | [c0, c1, c2, c3, c4, c5, c6, c7, c8, c9], _ =>
    match xs, hlen with
    | [y0, y1], _ =>
      have g0 : DataW.trod enc Try.prog w base spare held n 50 [c0, c1, c2, c3, c4] = some y0 := by simpa [Value.cells] using hg 0 (by omega)
      have g1 : DataW.trod enc Try.prog w base spare held n 50 [c5, c6, c7, c8, c9] = some y1 := by simpa [Value.cells] using hg 1 (by omega)
      obtain ⟨v0, v1, v2, v3, v4, _, _, _, _, _, q, e, h0, h1, h2, h3, h4⟩ := five Try.underlying50 (by kernel_rfl) Try.cells50 g0
      simp only [List.cons.injEq, and_true] at e
      obtain ⟨rfl, rfl, rfl, rfl, rfl⟩ := e
      obtain ⟨v5, v6, v7, v8, v9, _, _, _, _, _, q', e, h5, h6, h7, h8, h9⟩ := five Try.underlying50 (by kernel_rfl) Try.cells50 g1
      simp only [List.cons.injEq, and_true] at e
      obtain ⟨rfl, rfl, rfl, rfl, rfl⟩ := e
      obtain ⟨a, rfl, w0⟩ := one_int Try.underlying3 h0
      obtain ⟨b, rfl, w1⟩ := one_int Try.underlying3 h1
      obtain ⟨c, rfl, w2⟩ := one_int Try.underlying3 h2
      obtain ⟨e, rfl, w3⟩ := one_int Try.underlying3 h3
      obtain ⟨f, rfl⟩ := one_bool Try.underlying4 h4
      obtain ⟨a', rfl, w5⟩ := one_int Try.underlying3 h5
      obtain ⟨b', rfl, w6⟩ := one_int Try.underlying3 h6
      obtain ⟨c', rfl, w7⟩ := one_int Try.underlying3 h7
      obtain ⟨e', rfl, w8⟩ := one_int Try.underlying3 h8
      obtain ⟨f', rfl⟩ := one_bool Try.underlying4 h9
      exact ⟨a, b, c, e, f, a', b', c', e', f', rfl, ⟨w0, w1, w2, w3⟩, ⟨w5, w6, w7, w8⟩⟩
end
end Go.Proofs.Ytnpjfdiapoghnaa
