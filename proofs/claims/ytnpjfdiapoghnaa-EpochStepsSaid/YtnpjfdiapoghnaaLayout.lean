/- Layer 4, layout: where things stand in an arena, by walks; an arena's memory at the beginning, of one slot. -/
import Derived.Test.YtnpjfdiapoghnaaMem2
import Derived.LoopTactic
import Derived.IntWalk
namespace Go.Proofs.Ytnpjfdiapoghnaa
open Go Go.RowKit

/-- A configuration as a value. -/
def cfgV (th sl ch wo ge sp tr : Int) : Array Value := #[.int .i64 th, .int .i64 sl, .int .i64 ch, .int .i64 wo, .int .i64 ge, .int .i64 sp, .int .i64 tr]

theorem LSlot_any (th sl ch wo ge sp tr i : Int) (w : World) (h0 : 0 ≤ th ∧ th ≤ 1000000) (h1 : 0 ≤ i ∧ i ≤ 1000000) :
    Calls Try.prog 88 #[.agg #[.int .i64 th, .int .i64 sl, .int .i64 ch, .int .i64 wo, .int .i64 ge, .int .i64 sp, .int .i64 tr], .int .i64 i] w fun e w' => e = .returned (.int .i64 (6 + th + 2 * i)) ∧ Below w.heap.size w w' := by
  obtain ⟨a0, a1⟩ := h0
  obtain ⟨b0, b1⟩ := h1
  go_enter Try.func88, Try.ntmps88
  go_wp2
  go_ret
  exact ⟨rfl, below_new _ _⟩
theorem LChunk_any (th sl ch wo ge sp tr i : Int) (w : World) (h0 : 0 ≤ th ∧ th ≤ 1000000) (h1 : 0 ≤ sl ∧ sl ≤ 1000000) (h2 : 0 ≤ i ∧ i ≤ 1000000) :
    Calls Try.prog 69 #[.agg #[.int .i64 th, .int .i64 sl, .int .i64 ch, .int .i64 wo, .int .i64 ge, .int .i64 sp, .int .i64 tr], .int .i64 i] w fun e w' => e = .returned (.int .i64 (6 + th + 2 * sl + 3 * i)) ∧ Below w.heap.size w w' := by
  obtain ⟨a0, a1⟩ := h0
  obtain ⟨b0, b1⟩ := h1
  obtain ⟨c0, c1⟩ := h2
  go_enter Try.func69, Try.ntmps69
  go_wp2
  go_ret
  exact ⟨rfl, below_new _ _⟩
theorem LBase_any (th sl ch wo ge sp tr i p : Int) (w : World) (h0 : 0 ≤ th ∧ th ≤ 1000000) (h1 : 0 ≤ sl ∧ sl ≤ 1000000) (h2 : 0 ≤ ch ∧ ch ≤ 1000000) (hp : wo * i = p) (h3 : 0 ≤ p ∧ p ≤ 1000000) :
    Calls Try.prog 85 #[.agg #[.int .i64 th, .int .i64 sl, .int .i64 ch, .int .i64 wo, .int .i64 ge, .int .i64 sp, .int .i64 tr], .int .i64 i] w fun e w' => e = .returned (.int .i64 (6 + th + 2 * sl + 3 * ch + p)) ∧ Below w.heap.size w w' := by
  obtain ⟨a0, a1⟩ := h0
  obtain ⟨b0, b1⟩ := h1
  obtain ⟨c0, c1⟩ := h2
  obtain ⟨d0, d1⟩ := h3
  go_enter Try.func85, Try.ntmps85
  go_wp2
  go_ret
  exact ⟨rfl, below_new _ _⟩
theorem LLen_any (th sl ch wo ge sp tr p : Int) (w : World) (h0 : 0 ≤ th ∧ th ≤ 1000000) (h1 : 0 ≤ sl ∧ sl ≤ 1000000) (h2 : 0 ≤ ch ∧ ch ≤ 1000000) (hp : wo * ch = p) (h3 : 0 ≤ p ∧ p ≤ 1000000) :
    Calls Try.prog 86 #[.agg #[.int .i64 th, .int .i64 sl, .int .i64 ch, .int .i64 wo, .int .i64 ge, .int .i64 sp, .int .i64 tr]] w fun e w' => e = .returned (.int .i64 (6 + th + 2 * sl + 3 * ch + p)) ∧ Below w.heap.size w w' := by
  go_enter Try.func86, Try.ntmps86
  go_wp2_with fail
  refine (LBase_any th sl ch wo ge sp tr ch p _ h0 h1 h2 hp h3).mono ?_
  rintro e w1 ⟨rfl, hb⟩
  go_wp2
  go_ret
  exact ⟨rfl, (below_new _ _).trans (hb.mono (by simp))⟩
theorem LCheck_yes (th sl ch wo ge sp tr : Int) (w : World) (h0 : 1 ≤ th ∧ th ≤ 8) (h1 : 1 ≤ sl ∧ sl ≤ 65536) (h2 : 1 ≤ ch ∧ ch ≤ 64) (h3 : 17 ≤ wo ∧ wo ≤ 256) (h4 : 1 ≤ ge ∧ ge ≤ 65535) (h5 : 0 ≤ sp ∧ sp ≤ 1000) (h6 : 1 ≤ tr ∧ tr ≤ 16) :
    Calls Try.prog 87 #[.agg #[.int .i64 th, .int .i64 sl, .int .i64 ch, .int .i64 wo, .int .i64 ge, .int .i64 sp, .int .i64 tr]] w fun e w' => e = .returned (.bool true) ∧ Below w.heap.size w w' := by
  obtain ⟨a0, a1⟩ := h0
  obtain ⟨b0, b1⟩ := h1
  obtain ⟨c0, c1⟩ := h2
  obtain ⟨d0, d1⟩ := h3
  obtain ⟨e0, e1⟩ := h4
  obtain ⟨f0, f1⟩ := h5
  obtain ⟨g0, g1⟩ := h6
  go_enter Try.func87, Try.ntmps87
  go_wp2
  go_ret
  exact ⟨rfl, below_new _ _⟩
theorem LTop_any (w : World) : Calls Try.prog 89 #[] w fun e w' => e = .returned (.int .i64 1) ∧ w' = w := by
  go_enter Try.func89, Try.ntmps89
  go_wp2
  go_ret
  exact ⟨rfl, rfl⟩
theorem LEpoch_any (w : World) : Calls Try.prog 62 #[] w fun e w' => e = .returned (.int .i64 0) ∧ w' = w := by
  go_enter Try.func62, Try.ntmps62
  go_wp2
  go_ret
  exact ⟨rfl, rfl⟩
theorem LPin_any (i : Int) (w : World) (h0 : -10 ≤ i) (h1 : i ≤ 1000000) : Calls Try.prog 61 #[.int .i64 i] w fun e w' => e = .returned (.int .i64 (6 + i)) ∧ w' = w := by
  go_enter Try.func61, Try.ntmps61
  go_wp2
  go_ret
  exact ⟨rfl, rfl⟩
end Go.Proofs.Ytnpjfdiapoghnaa
