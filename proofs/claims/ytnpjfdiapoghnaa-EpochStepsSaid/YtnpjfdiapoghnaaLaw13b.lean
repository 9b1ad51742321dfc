/- Layer 13's statements: fresh arenas in plain words; that 'awake' answers true. -/
import Derived.Test.YtnpjfdiapoghnaaLaw13a
import Derived.Test.YtnpjfdiapoghnaaBits
namespace Go.Proofs.Ytnpjfdiapoghnaa
open Go Go.RowKit

theorem fresh_w (th ch wo j : Nat) (h1 : j ≠ 1) (h2 : j ≠ 6 + th) (h3 : j ≠ 6 + th + 1) : (freshOne th ch wo).w j = 0 := by
  have e : (freshOne th ch wo).w = upd (upd (upd (upd (Ms.new (lenOne th ch wo)).w (6 + th) 8388608) (6 + th + 1) 2) (6 + th + 1) 0) 1 1 := rfl
  rw [e, upd_other _ _ _ _ h1, upd_other _ _ _ _ h3, upd_other _ _ _ _ h3, upd_other _ _ _ _ h2]
  rfl
theorem fresh_n (th ch wo : Nat) : (freshOne th ch wo).n = 8 + th + 3 * ch + wo * ch := rfl
theorem fresh_steps (th ch wo : Nat) : (freshOne th ch wo).steps = 4 := rfl

/-- What the epoch's going on leaves. -/
structure AYes (m m' : Ms) (v : Int) : Prop where
  n : m'.n = m.n
  lo : m.steps ≤ m'.steps
  hi : m'.steps ≤ m.steps + 10
  w : ∀ j, j ≠ 0 → m'.w j = m.w j
  w0 : m'.w 0 = v
theorem advance_yes (th : Nat) (sl ch wo ge sp tr who : Int) (g gw gh : Nat) (m : Ms) (W : World) (hM : MemAt W g gw gh m) (h8 : 1 ≤ th ∧ th ≤ 8) (hn : 6 + th ≤ m.n) (hs : m.steps < 4611686018427387000) (hok : ∀ j, j < th → okPin m (m.w 0) j) (v : Int) (hv : IntKind.u64.wrap (m.w 0 + 1) = v) :
    Calls Try.prog 65 #[.agg #[.int .i64 (th : Nat), .int .i64 sl, .int .i64 ch, .int .i64 wo, .int .i64 ge, .int .i64 sp, .int .i64 tr, .pointer (some ⟨g, 0, none⟩), .int .i64 who]] W fun e W' => ∃ m', e = .returned (.bool true) ∧ MemAt W' g gw gh m' ∧ Hid (AYes m m' v) ∧ Keep3 g gw gh W W' := by
  refine (advance_any th sl ch wo ge sp tr who g gw gh m W hM h8 hn hs).mono ?_
  rintro e W' ⟨b, m', rfl, hM', hE, hK⟩
  rcases hE.out.res with ⟨rfl, _, h0⟩ | ⟨rfl, h, _⟩
  · exact ⟨m', rfl, hM', ⟨hE.out.n, hE.out.lo, by have := hE.out.hi; omega, hE.out.w, h0.trans hv⟩, hK⟩
  · exact absurd hok h
theorem advance_no (th : Nat) (sl ch wo ge sp tr who : Int) (g gw gh : Nat) (m : Ms) (W : World) (hM : MemAt W g gw gh m) (h8 : 1 ≤ th ∧ th ≤ 8) (hn : 6 + th ≤ m.n) (hs : m.steps < 4611686018427387000) (hok : ¬ ∀ j, j < th → okPin m (m.w 0) j) (v : Int) (hv : m.w 0 = v) :
    Calls Try.prog 65 #[.agg #[.int .i64 (th : Nat), .int .i64 sl, .int .i64 ch, .int .i64 wo, .int .i64 ge, .int .i64 sp, .int .i64 tr, .pointer (some ⟨g, 0, none⟩), .int .i64 who]] W fun e W' => ∃ m', e = .returned (.bool false) ∧ MemAt W' g gw gh m' ∧ Hid (AYes m m' v) ∧ Keep3 g gw gh W W' := by
  refine (advance_any th sl ch wo ge sp tr who g gw gh m W hM h8 hn hs).mono ?_
  rintro e W' ⟨b, m', rfl, hM', hE, hK⟩
  rcases hE.out.res with ⟨rfl, h, _⟩ | ⟨rfl, _, h0⟩
  · exact absurd h hok
  · exact ⟨m', rfl, hM', ⟨hE.out.n, hE.out.lo, by have := hE.out.hi; omega, hE.out.w, h0.trans hv⟩, hK⟩
theorem Peek_val (g gw gh : Nat) (m : Ms) (k : Nat) (v : Int) (W : World) (hM : MemAt W g gw gh m) (h1 : k < m.n) (he : m.w k = v) :
    Calls Try.prog 49 #[.pointer (some ⟨g, 0, none⟩), .int .i64 k] W fun e W' => e = .returned (.int .u64 v) ∧ W' = W := by
  rw [← he]; exact Peek_yes g gw gh m k W hM h1
theorem env_cells {W : World} {b : Nat} {th sl ch wo ge sp tr who : Int} {g : Nat} (hX : W.heap[b]? = some (.cells #[.int .i64 th, .int .i64 sl, .int .i64 ch, .int .i64 wo, .int .i64 ge, .int .i64 sp, .int .i64 tr, .pointer (some ⟨g, 0, none⟩), .int .i64 who] 87 (0, 0))) :
    W.cell? ⟨b, 0, none⟩ = some (.int .i64 th) ∧ W.cell? ⟨b, 1, none⟩ = some (.int .i64 sl) ∧ W.cell? ⟨b, 2, none⟩ = some (.int .i64 ch) ∧ W.cell? ⟨b, 3, none⟩ = some (.int .i64 wo) ∧ W.cell? ⟨b, 4, none⟩ = some (.int .i64 ge) ∧ W.cell? ⟨b, 5, none⟩ = some (.int .i64 sp) ∧ W.cell? ⟨b, 6, none⟩ = some (.int .i64 tr) ∧ W.cell? ⟨b, 7, none⟩ = some (.pointer (some ⟨g, 0, none⟩)) ∧ W.cell? ⟨b, 8, none⟩ = some (.int .i64 who) :=
  ⟨cell_of_row _ b 0 _ _ _ hX, cell_of_row _ b 1 _ _ _ hX, cell_of_row _ b 2 _ _ _ hX, cell_of_row _ b 3 _ _ _ hX, cell_of_row _ b 4 _ _ _ hX, cell_of_row _ b 5 _ _ _ hX, cell_of_row _ b 6 _ _ _ hX, cell_of_row _ b 7 _ _ _ hX, cell_of_row _ b 8 _ _ _ hX⟩

set_option maxHeartbeats 2000000 in
set_option maxRecDepth 100000 in
theorem awake13_any (w : World) :
    Calls Try.prog 64 #[] w fun e w' => e = .returned (.bool true) ∧ Below w.heap.size w w' := by
  have hok : ∀ j, j < 2 → okPin (freshOne 2 1 20) ((freshOne 2 1 20).w 0) j := fun j hj => .inl (fresh_w 2 1 20 _ (by omega) (by omega) (by omega))
  have HOK := Lib.hid hok
  clear hok
  go_enter Try.func64, Try.ntmps64
  go_wp2_with fail
  refine (Arena_any 2 1 20 _ (by omega) (by omega) (by omega)).mono ?_
  rintro e w1 ⟨g, gw, gh, rfl, hM, hb1, b0, b1, b2⟩
  go_wp2
  have hl := hM.lt
  have hlw := hM.ltw
  have hlh := hM.lth
  have np : w1.heap.size ≠ g ∧ w1.heap.size ≠ gw ∧ w1.heap.size ≠ gh := by omega
  clear hl hlw hlh
  have hX := heap_alloc_new w1 (.cells #[.int .i64 2, .int .i64 1, .int .i64 1, .int .i64 20, .int .i64 100, .int .i64 600, .int .i64 3, .pointer (some ⟨g, 0, none⟩), .int .i64 0] 87)
  replace hM := hM.below (below_new w1 (.cells #[.int .i64 2, .int .i64 1, .int .i64 1, .int .i64 20, .int .i64 100, .int .i64 600, .int .i64 3, .pointer (some ⟨g, 0, none⟩), .int .i64 0] 87))
  have hB : Below w.heap.size w (w1.alloc (.cells #[.int .i64 2, .int .i64 1, .int .i64 1, .int .i64 20, .int .i64 100, .int .i64 600, .int .i64 3, .pointer (some ⟨g, 0, none⟩), .int .i64 0] 87)) := hb1.alloc hb1.size _
  have hs : w.heap.size ≤ (w1.alloc (.cells #[.int .i64 2, .int .i64 1, .int .i64 1, .int .i64 20, .int .i64 100, .int .i64 600, .int .i64 3, .pointer (some ⟨g, 0, none⟩), .int .i64 0] 87)).heap.size := by have := hb1.size; simp; omega
  generalize w1.alloc (.cells #[.int .i64 2, .int .i64 1, .int .i64 1, .int .i64 20, .int .i64 100, .int .i64 600, .int .i64 3, .pointer (some ⟨g, 0, none⟩), .int .i64 0] 87) = W2 at hX hM hB hs ⊢
  replace hB := hB.drew
  replace hM := hM.drew
  replace hX : W2.drew.heap[w1.heap.size]? = _ := hX
  replace hs : w.heap.size ≤ W2.drew.heap.size := hs
  (first | (go_region_held3 (fun w' => w'.cell? ⟨w1.heap.size, 0, none⟩ = some (.int .i64 2) ∧ w'.cell? ⟨w1.heap.size, 1, none⟩ = some (.int .i64 1) ∧ w'.cell? ⟨w1.heap.size, 2, none⟩ = some (.int .i64 1) ∧ w'.cell? ⟨w1.heap.size, 3, none⟩ = some (.int .i64 20) ∧ w'.cell? ⟨w1.heap.size, 4, none⟩ = some (.int .i64 100) ∧ w'.cell? ⟨w1.heap.size, 5, none⟩ = some (.int .i64 600) ∧ w'.cell? ⟨w1.heap.size, 6, none⟩ = some (.int .i64 3) ∧ w'.cell? ⟨w1.heap.size, 7, none⟩ = some (.pointer (some ⟨g, 0, none⟩)) ∧ w'.cell? ⟨w1.heap.size, 8, none⟩ = some (.int .i64 0))
      (exact ⟨cell_of_row _ w1.heap.size 0 _ _ _ hX, cell_of_row _ w1.heap.size 1 _ _ _ hX, cell_of_row _ w1.heap.size 2 _ _ _ hX, cell_of_row _ w1.heap.size 3 _ _ _ hX, cell_of_row _ w1.heap.size 4 _ _ _ hX, cell_of_row _ w1.heap.size 5 _ _ _ hX, cell_of_row _ w1.heap.size 6 _ _ _ hX, cell_of_row _ w1.heap.size 7 _ _ _ hX, cell_of_row _ w1.heap.size 8 _ _ _ hX⟩)
      (first
        | (go_at_call 65; refine (advance_yes 2 1 1 20 100 600 3 0 g gw gh _ _ hM (by omega) (by decide) (by decide) HOK.out 1 (by decide)).mono ?_; rintro e w9 ⟨m', rfl, hM', hE, hK⟩; replace hX := hK.heap hX np.1 np.2.1 np.2.2; replace hB := hB.trans (hK.below b0 b1 b2 hs); replace hs := Nat.le_trans hs hK.size; replace hM := hM'; clear hM' hK)
        | (go_at_call 62; refine (LEpoch_any _).mono ?_; rintro e w7 ⟨rfl, hw⟩; obtain rfl := hw.symm; clear hw)
        | (go_at_call 49; refine (Peek_val g gw gh _ 0 1 _ hM (by rw [hE.out.n]; decide) hE.out.w0).mono ?_; rintro e w7 ⟨rfl, hw⟩; obtain rfl := hw.symm; clear hw))) | fail)
  all_goals go_wp2
  all_goals go_ret
  all_goals exact ⟨rfl, hB⟩
end Go.Proofs.Ytnpjfdiapoghnaa
